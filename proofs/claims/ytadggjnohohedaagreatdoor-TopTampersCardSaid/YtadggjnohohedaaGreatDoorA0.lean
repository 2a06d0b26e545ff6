/- TopTampers: for every input the call returns true; part A0 of the proof. -/
import Derived.WalkKit
import Derived.ProofKit
import Derived.OpenShut
import Derived.Below
import Derived.Lib.Hide
import Derived.Outline
import Derived.Handy
import Derived.Deep.RegionHeld3
import Derived.Deep.RegionLaw
import Derived.Deep.AppendLies
import Derived.Laws.OwnMore
import Derived.LoopTactic
import Derived.OwnWalk
import Derived.BigQuiet
import Derived.Defers
import Derived.Laws.Cells
import Derived.Laws.CopyRow
import Derived.Laws.Strings
import Derived.Test.YtadggjnohohedaaGreatDoorRows
import Derived.KernelRfl
import Derived.Still
set_option linter.unusedVariables false
set_option linter.unusedSimpArgs false
set_option linter.unusedSectionVars false
namespace Go.Proofs.YtadggjnohohedaaGreatDoor
section
open Go.RowKit
theorem keep {w w':World} (hb:Below w.heap.size w w') {b o:Nat} {v:Value} (f:w.cell? ⟨b,o,none⟩=some v):w'.cell? ⟨b,o,none⟩=some v :=
 (hb.cell (p:=⟨b,o,none⟩) (World.block_lt_of_cell? w _ f)).trans f
theorem keepF {w w':World} (hb:Below w.heap.size w w') {b o:Nat} {v:Value} {z:Bool} (f:w.cell? ⟨b,o,none⟩=some v) (g:w.frozen? ⟨b,o,none⟩=z):w'.frozen? ⟨b,o,none⟩=z :=
 (hb.frozen (p:=⟨b,o,none⟩) (World.block_lt_of_cell? w _ f)).trans g
theorem keepA {w:World} (x:Obj) {b o:Nat} {v:Value} (f:w.cell? ⟨b,o,none⟩=some v):(w.alloc x).cell? ⟨b,o,none⟩=some v :=
 keep ((Below.refl _ _).alloc (Nat.le_refl _) x) f
def IsRow (k:IntKind) (w:World) (a:Option Addr) (len cap:Nat) (zs:List Int):Prop :=
 (a=none∧len=0∧cap=0∧zs=[]) ∨
 ∃ x,a=some x∧len≤cap∧cap≤maxLen∧zs.length=cap∧(∀ i,i < zs.length→w.cell? (x.add i)=some (.int k (zs.getD i 0)))∧∀ n∈zs,(Lit.int k n).wf=true
def nats (zs:List Int) (i:Nat):Nat:=(zs.getD i 0).toNat
structure URow (k:IntKind) (top:Nat) (w:World) (a:Option Addr) (len:Nat) (g:Nat→Nat):Prop where
 bound:len≤9223372036854775807
 cell:∀ i,i < len→∃ blk off,a=some ⟨blk,off,none⟩∧w.cell? ⟨blk,off + i,none⟩=some (.int k (g i:Nat))
 lt:∀ i,i < len→g i < top
theorem IsRow.at' {k:IntKind} {w:World} {a:Option Addr} {len cap:Nat} {zs:List Int} (h:IsRow k w a len cap zs):len≤maxLen∧∀ i,i < len→∃ blk off,a=some ⟨blk,off,none⟩∧w.cell? ⟨blk,off + i,none⟩=some (.int k (zs.getD i 0))∧(Lit.int k (zs.getD i 0)).wf=true:=by
 rcases h with ⟨rfl,rfl,rfl,rfl⟩ | ⟨x,rfl,hl,hm,hz,hcell,hwz⟩
 ·exact ⟨Nat.zero_le _,fun i hi=>by omega⟩
 ·refine ⟨by omega,fun i hi=>?_⟩
  have hc:=hcell i (by omega)
  obtain ⟨b,off,spot⟩:=x
  have hspot:spot=none:=by simpa [Addr.add] using World.cell?_spot (hcell 0 (by omega))
  subst hspot
  have ea:(Addr.add ⟨b,off,none⟩ i)=⟨b,off + i,none⟩:=by
   unfold Addr.add; split
   ·next h=>subst h; rfl
   ·rfl
  rw [ea] at hc
  refine ⟨b,off,rfl,hc,hwz _ ?_⟩
  rw [List.getD_eq_getElem?_getD,List.getElem?_eq_getElem (by omega)]
  exact List.getElem_mem _
theorem IsRow.u8 {w:World} {a:Option Addr} {len cap:Nat} {zs:List Int} (h:IsRow .u8 w a len cap zs):URow .u8 256 w a len (nats zs):=by
 obtain ⟨h1,h2⟩:=h.at'
 refine ⟨by unfold maxLen at h1; exact h1,fun i hi=>?_,fun i hi=>?_⟩
 ·obtain ⟨b,off,ha,hc,hw⟩:=h2 i hi
  have hr:=bounds_u8 hw
  refine ⟨b,off,ha,?_⟩
  rw [hc]; unfold nats
  rw [Int.toNat_of_nonneg hr.1]
 ·obtain ⟨b,off,ha,hc,hw⟩:=h2 i hi
  have hr:=bounds_u8 hw
  unfold nats; omega
theorem IsRow.u64 {w:World} {a:Option Addr} {len cap:Nat} {zs:List Int} (h:IsRow .u64 w a len cap zs):URow .u64 18446744073709551616 w a len (nats zs):=by
 obtain ⟨h1,h2⟩:=h.at'
 refine ⟨by unfold maxLen at h1; exact h1,fun i hi=>?_,fun i hi=>?_⟩
 ·obtain ⟨b,off,ha,hc,hw⟩:=h2 i hi
  have hr:=bounds_u64 hw
  refine ⟨b,off,ha,?_⟩
  rw [hc]; unfold nats
  rw [Int.toNat_of_nonneg hr.1]
 ·obtain ⟨b,off,ha,hc,hw⟩:=h2 i hi
  have hr:=bounds_u64 hw
  unfold nats; omega
end
section
open Go.RowKit
def At (W:World) (b:Nat) (t:TypeId) (C:Array Value):Prop:=W.heap[b]?=some (.cells C t (0,0))
theorem At.rd {W:World} {b:Nat} {t:TypeId} {C:Array Value} (h:At W b t C):∀ o,W.cell? ⟨b,o,none⟩=C[o]?:=fun o=>cell_of_row W b o C t (0,0) h
theorem At.fr {W:World} {b:Nat} {t:TypeId} {C:Array Value} (h:At W b t C):∀ o,W.frozen? ⟨b,o,none⟩=false:=by
 intro o
 unfold At at h
 simp [World.frozen?,h]
theorem At.lt {W:World} {b:Nat} {t:TypeId} {C:Array Value} (h:At W b t C):b < W.heap.size:=by
 rcases Nat.lt_or_ge b W.heap.size with hlt | hge
 ·exact hlt
 ·unfold At at h; rw [Array.getElem?_eq_none hge] at h; cases h
theorem At.keep {W W':World} {b:Nat} {t:TypeId} {C:Array Value} (h:At W b t C) (hb:Below W.heap.size W W'):At W' b t C:=(hb.block b h.lt).trans h
theorem At.alloc {W:World} {b:Nat} {t:TypeId} {C:Array Value} (h:At W b t C) (o:Obj):At (W.alloc o) b t C:=h.keep ((Below.refl _ _).alloc (Nat.le_refl _) o)
theorem At.new (W:World) (t:TypeId) (C:Array Value):At (W.alloc (.cells C t)) W.heap.size t C:=heap_alloc_new W _
theorem At.other {W:World} {b b2 o:Nat} {t:TypeId} {C:Array Value} {v:Value} (h:At W b t C) (hn:b≠b2):At (W.setCell ⟨b2,o,none⟩ v) b t C:=(Below.heap_setCell W ⟨b2,o,none⟩ v b hn).trans h
theorem At.set {W:World} {b o:Nat} {t:TypeId} {C:Array Value} {v:Value} (h:At W b t C):At (W.setCell ⟨b,o,none⟩ v) b t (C.setIfInBounds o v):=by
 unfold At at h ⊢
 simp only [World.setCell,Array.getElem?_modify,if_pos,h,Option.map_some]
 rfl
theorem keepFA {w:World} (x:Obj) {b o:Nat} {v:Value} {z:Bool} (f:w.cell? ⟨b,o,none⟩=some v) (g:w.frozen? ⟨b,o,none⟩=z):(w.alloc x).frozen? ⟨b,o,none⟩=z:=keepF ((Below.refl _ _).alloc (Nat.le_refl _) x) f g
theorem row_form {w:World} {base:Nat} {e:TypeId} {size:Nat} {v:Value} {n:Nat} {xs:List Value} (h:w.ownsRow base e size v n xs) :
  ∃ a cap,v=.slice a n cap∧(0 < n→∃ g,a=some ⟨g,0,none⟩∧base≤g∧g < w.heap.size):=by
 rcases h.2 with ⟨rfl,h0⟩ | ⟨g,cap,cur,hv,hb,hg,_⟩
 ·exact ⟨none,0,by rw [h0],fun h=>by omega⟩
 ·refine ⟨_,_,hv,fun _=>⟨g,rfl,hb,?_⟩⟩
  rcases Nat.lt_or_ge g w.heap.size with hlt | hge
  ·exact hlt
  ·rw [Array.getElem?_eq_none hge] at hg; cases hg
theorem bdrewN {B:Nat} {a w:World} (h:Below B a w) (n:Nat):Below B a (w.drewN n):=⟨h.os,h.tape,h.output,h.size,h.block⟩
structure Mem (B:Nat) (a W:World) (L:List (Nat × TypeId × Array Value)):Prop where
 all:∀ x∈L,At W x.1 x.2.1 x.2.2
 below:Below B a W
 size:B≤W.heap.size
theorem Mem.keep {B:Nat} {a W W':World} {L:List (Nat × TypeId × Array Value)} (m:Mem B a W L) (hb:Below W.heap.size W W'):Mem B a W' L :=
 ⟨fun x hx=>(m.all x hx).keep hb,m.below.trans (hb.mono m.size),Nat.le_trans m.size hb.size⟩
theorem Mem.drew {B:Nat} {a W:World} {L:List (Nat × TypeId × Array Value)} (m:Mem B a W L):Mem B a W.drew L:=m.keep ((Below.refl _ _).drew)
theorem Mem.alloc {B:Nat} {a W:World} {L:List (Nat × TypeId × Array Value)} (m:Mem B a W L) (o:Obj):Mem B a (W.alloc o) L:=m.keep ((Below.refl _ _).alloc (Nat.le_refl _) o)
theorem Mem.nil {a W:World} (h:Below a.heap.size a W):Mem a.heap.size a W []:=⟨fun x hx=>(List.not_mem_nil hx).elim,h,h.size⟩
theorem Mem.cons {B:Nat} {a W:World} {L:List (Nat × TypeId × Array Value)} {b:Nat} {t:TypeId} {C:Array Value} (h:At W b t C) (m:Mem B a W L):Mem B a W ((b,t,C)::L) :=
 ⟨fun x hx=>(List.mem_cons.1 hx).elim (fun e=>e ▸ h) (m.all x),m.below,m.size⟩
theorem Mem.hd {B:Nat} {a W:World} {L:List (Nat × TypeId × Array Value)} {b:Nat} {t:TypeId} {C:Array Value} (m:Mem B a W ((b,t,C)::L)):At W b t C:=m.all (b,t,C) (List.mem_cons_self ..)
end
section
open Go.RowKit
structure Thing where
 is:World→(Nat→Prop)→Prop
 lt:∀ W F,is W F→∀ b,F b→b < W.heap.size
 keep:∀ W W' F,is W F→(∀ b,F b→W'.heap[b]?=W.heap[b]?)→is W' F
def Lie (B:Nat) (W:World):List Thing→(Nat→Prop)→Prop
 | [],_=>True
 | T::L,F=>∃ A,T.is W A∧(∀ b,A b→B≤b∧F b)∧Lie B W L (fun b=>F b∧¬ A b)
theorem Lie.mono {B:Nat} {W:World} {L:List Thing}:∀ {F G:Nat→Prop},Lie B W L F→(∀ b,F b→G b)→Lie B W L G:=by
 induction L with
 | nil=>intro F G _ _; trivial
 | cons T L ih =>
  rintro F G ⟨A,h1,h2,h3⟩ hg
  exact ⟨A,h1,fun b hb=>⟨(h2 b hb).1,hg b (h2 b hb).2⟩,ih h3 (fun b hb=>⟨hg b hb.1,hb.2⟩)⟩
theorem Lie.keep {B:Nat} {W W':World} {L:List Thing}:∀ {F:Nat→Prop},Lie B W L F→(∀ b,b < W.heap.size→F b→W'.heap[b]?=W.heap[b]?)→Lie B W' L F:=by
 induction L with
 | nil=>intro F _ _; trivial
 | cons T L ih =>
  rintro F ⟨A,h1,h2,h3⟩ hk
  exact ⟨A,T.keep _ _ _ h1 (fun b hb=>hk b (T.lt _ _ h1 b hb) (h2 b hb).2),h2,ih h3 (fun b hl hb=>hk b hl hb.1)⟩
theorem Lie.swap {B:Nat} {W:World} {T U:Thing} {L:List Thing} {F:Nat→Prop} (h:Lie B W (T::U::L) F):Lie B W (U::T::L) F:=by
 obtain ⟨A,h1,h2,C,h3,h4,h5⟩:=h
 exact ⟨C,h3,fun b hb=>⟨(h4 b hb).1,(h4 b hb).2.1⟩,A,h1,fun b hb=>⟨(h2 b hb).1,(h2 b hb).2,fun hc=>(h4 b hc).2.2 hb⟩,h5.mono (fun b hb=>⟨⟨hb.1.1,hb.2⟩,hb.1.2⟩)⟩
theorem Lie.tail {B:Nat} {W:World} {T:Thing} {L:List Thing} {F:Nat→Prop} (h:Lie B W (T::L) F):Lie B W L F:=by
 obtain ⟨A,h1,h2,h3⟩:=h
 exact h3.mono (fun b hb=>hb.1)
theorem Lie.perm {B:Nat} {W:World} {L M:List Thing} (p:L.Perm M):∀ {F:Nat→Prop},Lie B W L F→Lie B W M F:=by
 induction p with
 | nil=>intro F h; exact h
 | cons x _ ih=>rintro F ⟨A,h1,h2,h3⟩; exact ⟨A,h1,h2,ih h3⟩
 | swap x y l=>intro F h; exact h.swap
 | trans _ _ ih1 ih2=>intro F h; exact ih2 (ih1 h)
theorem Lie.old {B:Nat} {W:World} {L:List Thing}:∀ {F:Nat→Prop},Lie B W L F→Lie B W L (fun b=>F b∧b < W.heap.size):=by
 induction L with
 | nil=>intro F _; trivial
 | cons T L ih =>
  rintro F ⟨A,h1,h2,h3⟩
  exact ⟨A,h1,fun b hb=>⟨(h2 b hb).1,(h2 b hb).2,T.lt _ _ h1 b hb⟩,(ih h3).mono (fun b hb=>⟨⟨hb.1.1,hb.2⟩,hb.1.2⟩)⟩
def Sts (W0 W:World) (L:List Thing):Prop:=Below W0.heap.size W0 W∧Lie W0.heap.size W L (fun _=>True)
section
variable {W0 W W':World} {L M R:List Thing} {T U V X Y:Thing}
theorem Sts.nil (W:World):Sts W W []:=⟨Below.refl _ _,trivial⟩
theorem Sts.below (h:Sts W0 W L):Below W0.heap.size W0 W:=h.1
theorem Sts.perm (h:Sts W0 W L) (p:L.Perm M):Sts W0 W M:=⟨h.1,h.2.perm p⟩
theorem Sts.tail (h:Sts W0 W (T::L)):Sts W0 W L:=⟨h.1,h.2.tail⟩
theorem Sts.p1 (h:Sts W0 W (T::U::L)):Sts W0 W (U::T::L):=⟨h.1,h.2.swap⟩
theorem Sts.p2 (h:Sts W0 W (T::U::V::L)):Sts W0 W (V::T::U::L):=h.perm ((List.Perm.cons T (List.Perm.swap V U L)).trans (List.Perm.swap V T (U::L)))
theorem Sts.p3 (h:Sts W0 W (T::U::V::X::L)):Sts W0 W (X::T::U::V::L):=h.perm ((List.Perm.cons T ((List.Perm.cons U (List.Perm.swap X V L)).trans (List.Perm.swap X U (V::L)))).trans (List.Perm.swap X T (U::V::L)))
theorem Sts.step (h:Sts W0 W L) (hb:Below W.heap.size W W'):Sts W0 W' L:=⟨h.1.trans (hb.mono h.1.size),h.2.keep (fun b hl _=>hb.block b hl)⟩
theorem Sts.drewN (h:Sts W0 W L) (n:Nat):Sts W0 (W.drewN n) L:=h.step (bdrewN (Below.refl _ _) n)
theorem Sts.drew (h:Sts W0 W L):Sts W0 W.drew L:=h.step ((Below.refl _ _).drew)
theorem Sts.fact (h:Sts W0 W (T::L)):∃ F,T.is W F:=by obtain ⟨_,A,h1,_⟩:=h; exact ⟨A,h1⟩
theorem Sts.more (h:Sts W0 W L) (hb:Below W.heap.size W W') {A:Nat→Prop} (hT:T.is W' A) (hA:∀ b,A b→W.heap.size≤b):Sts W0 W' (T::L):=by
 refine ⟨(h.step hb).1,A,hT,fun b hb2=>⟨Nat.le_trans h.1.size (hA b hb2),trivial⟩,?_⟩
 exact (h.2.old.mono (fun b hb2=>⟨trivial,fun ha=>by have:=hA b ha; omega⟩)).keep (fun b hl _=>hb.block b hl)
theorem Sts.turn {T':Thing} (h:Sts W0 W (T::L)) {A:Nat→Prop} (hos:W'.os=W.os∧W'.tape=W.tape∧W'.output=W.output) (hs:W.heap.size≤W'.heap.size) (hT:∀ F,T.is W F→T'.is W' (fun b=>A b)∧(∀ b,A b→F b∨W.heap.size≤b)∧∀ b,b < W.heap.size→¬ F b→W'.heap[b]?=W.heap[b]?):Sts W0 W' (T'::L):=by
 obtain ⟨hb,F,h1,h2,h3⟩:=h
 obtain ⟨k1,k2,k3⟩:=hT F h1
 refine ⟨⟨hos.1.trans hb.os,hos.2.1.trans hb.tape,hos.2.2.trans hb.output,Nat.le_trans hb.size hs,fun b hbl=>?_⟩,A,k1,fun b hA=>⟨(k2 b hA).elim (fun hf=>(h2 b hf).1) (fun hg=>Nat.le_trans hb.size hg),trivial⟩,?_⟩
 ·exact (k3 b (Nat.lt_of_lt_of_le hbl hb.size) (fun hf=>by have:=(h2 b hf).1; omega)).trans (hb.block b hbl)
 ·refine (h3.old.keep (fun b hl hf=>k3 b hl hf.1.2)).mono (fun b hf=>⟨trivial,fun hA=>(k2 b hA).elim hf.1.2 (fun hg=>?_)⟩)
  have:=hf.2; omega
end
def Blk (b:Nat) (t:TypeId) (C:Array Value):Thing where
 is W F:=At W b t C∧∀ x,F x↔x=b
 lt W F h x hx:=by rw [(h.2 x).1 hx]; exact h.1.lt
 keep W W' F h e:=⟨(e b ((h.2 b).2 rfl)).trans h.1,h.2⟩
def Row (e:TypeId) (size:Nat) (v:Value) (n:Nat) (xs:List Value):Thing where
 is W F:=W.ownsRow 0 e size v n xs∧∀ x,F x↔v.ownBlock=some x
 lt W F h x hx:=(h.1.lt x ((h.2 x).1 hx)).2
 keep W W' F h eq:=by
  refine ⟨⟨h.1.1,?_⟩,h.2⟩
  rcases h.1.2 with k | ⟨g,cap,cur,k,hb,hg,hr⟩
  ·exact .inl k
  ·exact .inr ⟨g,cap,cur,k,hb,(eq g ((h.2 g).2 (by rw [k]; rfl))).trans hg,hr⟩
def Fact (p:Prop):Thing where
 is W F:=p∧∀ x,¬ F x
 lt W F h x hx:=(h.2 x hx).elim
 keep W W' F h e:=h
def AnyT {α:Type} (f:α→Thing):Thing where
 is W F:=∃ a,(f a).is W F
 lt W F h x hx:=by obtain ⟨a,h⟩:=h; exact (f a).lt W F h x hx
 keep W W' F h e:=by obtain ⟨a,h⟩:=h; exact ⟨a,(f a).keep W W' F h e⟩
def Thing.both (T U:Thing):Thing where
 is W F:=∃ A C,T.is W A∧U.is W C∧(∀ x,A x→¬ C x)∧∀ x,F x↔A x∨C x
 lt W F h x hx:=by
  obtain ⟨A,C,h1,h2,h3,h4⟩:=h
  exact ((h4 x).1 hx).elim (T.lt W A h1 x) (U.lt W C h2 x)
 keep W W' F h e:=by
  obtain ⟨A,C,h1,h2,h3,h4⟩:=h
  exact ⟨A,C,T.keep W W' A h1 (fun b hb=>e b ((h4 b).2 (.inl hb))),U.keep W W' C h2 (fun b hb=>e b ((h4 b).2 (.inr hb))),h3,h4⟩
def Thing.all:List Thing→Thing
 | []=>Fact True
 | T::L=>T.both (Thing.all L)
section
variable {W0 W W':World} {L R:List Thing} {T U:Thing}
theorem Sts.of_some {α:Type} {f:α→Thing} (h:Sts W0 W (AnyT f::L)):∃ a,Sts W0 W (f a::L):=by
 obtain ⟨hb,A,⟨a,h1⟩,h2⟩:=h
 exact ⟨a,hb,A,h1,h2⟩
theorem Sts.to_some {α:Type} {f:α→Thing} (a:α) (h:Sts W0 W (f a::L)):Sts W0 W (AnyT f::L):=by
 obtain ⟨hb,A,h1,h2⟩:=h
 exact ⟨hb,A,⟨a,h1⟩,h2⟩
theorem Sts.of_fact {p:Prop} (h:Sts W0 W (Fact p::L)):p∧Sts W0 W L:=by
 obtain ⟨A,h1⟩:=h.fact
 exact ⟨h1.1,h.tail⟩
theorem Sts.to_fact {p:Prop} (hp:p) (h:Sts W0 W L):Sts W0 W (Fact p::L) :=
 ⟨h.1,fun _=>False,⟨hp,fun _ h=>h⟩,fun b hb=>hb.elim,h.2.mono (fun b _=>⟨trivial,fun h=>h⟩)⟩
theorem Sts.of_both (h:Sts W0 W (T.both U::L)):Sts W0 W (T::U::L):=by
 obtain ⟨hb,F,⟨A,C,h1,h2,h3,h4⟩,h5,h6⟩:=h
 refine ⟨hb,A,h1,fun b h=>h5 b ((h4 b).2 (.inl h)),C,h2,fun b h=>⟨(h5 b ((h4 b).2 (.inr h))).1,trivial,fun ha=>h3 b ha h⟩,h6.mono (fun b h=>⟨⟨trivial,fun ha=>h.2 ((h4 b).2 (.inl ha))⟩,fun hc=>h.2 ((h4 b).2 (.inr hc))⟩)⟩
theorem Sts.to_both (h:Sts W0 W (T::U::L)):Sts W0 W (T.both U::L):=by
 obtain ⟨hb,A,h1,h2,C,h3,h4,h5⟩:=h
 refine ⟨hb,fun x=>A x∨C x,⟨A,C,h1,h3,fun x ha hc=>(h4 x hc).2.2 ha,fun x=>Iff.rfl⟩,fun b h=>h.elim (h2 b) (fun hc=>⟨(h4 b hc).1,trivial⟩),h5.mono (fun b h=>⟨trivial,fun hx=>hx.elim h.1.2 h.2⟩)⟩
theorem Sts.of_all {M:List Thing} (h:Sts W0 W (Thing.all M::L)):Sts W0 W (M++L):=by
 induction M generalizing L with
 | nil=>exact h.of_fact.2
 | cons T M ih =>
  have h1:Sts W0 W (Thing.all M::T::L):=h.of_both.p1
  have h2:=ih h1
  exact h2.perm List.perm_middle
theorem Sts.to_all {M:List Thing} (h:Sts W0 W (M++L)):Sts W0 W (Thing.all M::L):=by
 induction M generalizing L with
 | nil=>exact h.to_fact trivial
 | cons T M ih =>
  have h1:Sts W0 W (M++T::L):=h.perm List.perm_middle.symm
  exact (ih h1).p1.to_both
theorem Sts.new (h:Sts W0 W L) (t:TypeId) (C:Array Value):Sts W0 (W.alloc (.cells C t)) (Blk W.heap.size t C::L) :=
 h.more ((Below.refl _ _).alloc (Nat.le_refl _) _) (A:=fun x=>x=W.heap.size) ⟨At.new W t C,fun x=>Iff.rfl⟩ (fun b e=>by rw [e]; exact Nat.le_refl _)
theorem Sts.blk {b:Nat} {t:TypeId} {C:Array Value} (h:Sts W0 W (Blk b t C::L)):At W b t C:=by obtain ⟨A,h1⟩:=h.fact; exact h1.1
theorem Sts.row {e:TypeId} {size n:Nat} {v:Value} {xs:List Value} (h:Sts W0 W (Row e size v n xs::L)):W.ownsRow 0 e size v n xs:=by obtain ⟨A,h1⟩:=h.fact; exact h1.1
theorem Sts.set {b o:Nat} {t:TypeId} {C:Array Value} (v:Value) (h:Sts W0 W (Blk b t C::L)):Sts W0 (W.setCell ⟨b,o,none⟩ v) (Blk b t (C.setIfInBounds o v)::L):=by
 refine h.turn (A:=fun x=>x=b) ⟨rfl,rfl,rfl⟩ (by simp [World.setCell]) (fun F hF=>⟨⟨hF.1.set,fun x=>Iff.rfl⟩,fun x hx=>.inl ((hF.2 x).2 hx),fun x hx hn=>?_⟩)
 exact Below.heap_setCell W ⟨b,o,none⟩ v x (fun e=>hn ((hF.2 x).2 e))
theorem Sts.append {e:TypeId} {size n m:Nat} {v v':Value} {xs ys:List Value} (h:Sts W0 W (Row e size v n xs::L)) (hown:W'.ownsRow 0 e size v' m ys) (hg:W.grownBy W' v.ownBlock) (hat:∀ b,v'.ownBlock=some b→v.ownBlock=some b∨W.heap.size≤b):Sts W0 W' (Row e size v' m ys::L):=by
 refine h.turn (A:=fun x=>v'.ownBlock=some x) ⟨hg.os,hg.tape,hg.output⟩ hg.size (fun F hF=>⟨⟨hown,fun x=>Iff.rfl⟩,fun x hx=>(hat x hx).imp (fun h=>(hF.2 x).2 h) id,fun x hx hn=>hg.block x hx (fun e=>hn ((hF.2 x).2 e.symm))⟩)
end
def Fn (P:Program) (f:FuncId) (args:Array Value) (L:List Thing) (post:Ending→(List Thing→Prop)→Prop):Prop :=
 ∀ (W0 W:World) (R:List Thing),Sts W0 W (L++R)→Calls P f args W fun e w'=>post e (fun M=>Sts W0 w' (M++R))
abbrev Fn1 (P:Program) (f:FuncId) (args:Array Value) (L:List Thing) (v:Value) (M:List Thing):Prop :=
 Fn P f args L (fun e k=>e=.returned v∧k M)
end
section
open Go.RowKit
abbrev Kn:=List (Nat × Value)
def lk:Kn→Nat→Option Value
 | [],_=>none
 | (k,v)::r,n=>bif Nat.beq k n then some v else lk r n
def ev (kn:Kn):Operand→Option Value
 | .tmp t=>lk kn t
 | .const v=>some v
 | .global g=>some (.pointer (some ⟨g,0,none⟩))
 | .func f=>some (.func (.func f) #[] #[])
def evs (kn:Kn):List Operand→Option (List Value)
 | []=>some []
 | x::r=>match ev kn x,evs kn r with
  | some v,some vs=>some (v::vs)
  | _,_=>none
structure Has (N:Nat) (ds:List Deferred) (kn:Kn) (a:Act):Prop where
 size:a.tmps.size=N
 defers:a.defers=ds
 known:∀ d v,lk kn d=some v→a.tmps[d]?=some v
def Ev (kn:Kn) (ρ:Operand→Value):Prop:=∀ x v,ev kn x=some v→ρ x=v
section
variable {N:Nat} {ds:List Deferred} {kn:Kn} {a:Act}
theorem Has.slot (h:Has N ds kn a) {t:Nat} {v:Value} (hx:lk kn t=some v):a.tmps[t]?=some v:=h.known t v hx
theorem Has.ev (h:Has N ds kn a):Ev kn a.eval:=by
 intro x v hx
 cases x with
 | tmp t=>have:=h.known t v hx; simp [Act.eval,Array.getD_eq_getD_getElem?,this]
 | const u=>simpa [Proofs.YtadggjnohohedaaGreatDoor.ev,Act.eval] using hx
 | global g=>simpa [Proofs.YtadggjnohohedaaGreatDoor.ev,Act.eval] using hx
 | func f=>simpa [Proofs.YtadggjnohohedaaGreatDoor.ev,Act.eval] using hx
theorem Has.put (h:Has N ds kn a) (d:Nat) (v:Value) (hd:Nat.blt d N=true):Has N ds ((d,v)::kn) (a.put (some d) v):=by
 have hd':d < N:=by have:=hd; simp [Nat.blt] at this; omega
 refine ⟨by simp [Act.put,h.size],h.defers,?_⟩
 intro e u hu
 simp only [Act.put]
 by_cases hde:d=e
 ·subst hde
  simp only [lk,Nat.beq_refl,cond_true,Option.some.injEq] at hu
  subst hu
  simp [h.size,hd']
 ·have hb:Nat.beq d e=false:=by
   cases h:Nat.beq d e with
   | false=>rfl
   | true=>exact absurd (Nat.eq_of_beq_eq_true h) hde
  simp only [lk,hb,cond_false] at hu
  rw [Array.getElem?_setIfInBounds_ne hde]
  exact h.known e u hu
theorem Has.put0 (h:Has N ds kn a) (v:Value):Has N ds kn (a.put none v):=h
theorem Has.sub (h:Has N ds kn a) {kn':Kn} (hs:∀ p∈kn',lk kn p.1=some p.2):Has N ds kn' a:=by
 refine ⟨h.size,h.defers,fun d v hd=>h.known d v ?_⟩
 induction kn' with
 | nil=>simp [lk] at hd
 | cons p r ih =>
  obtain ⟨k,u⟩:=p
  simp only [lk] at hd
  cases hb:Nat.beq k d with
  | true =>
   rw [hb] at hd; simp only [cond_true,Option.some.injEq] at hd
   have hk:k=d:=Nat.eq_of_beq_eq_true hb
   subst hk; subst hd
   exact hs (k,u) (List.mem_cons_self ..)
  | false=>rw [hb] at hd; exact ih (fun p hp=>hs p (List.mem_cons_of_mem _ hp)) hd
end
inductive Pick:List Thing→Thing→List Thing→Prop
 | here {T L}:Pick (T::L) T L
 | there {T U L R}:Pick L T R→Pick (U::L) T (U::R)
theorem Pick.perm {L R:List Thing} {T:Thing} (h:Pick L T R):L.Perm (T::R):=by
 induction h with
 | here=>exact List.Perm.refl _
 | there _ ih=>exact (List.Perm.cons _ ih).trans (List.Perm.swap _ _ _)
inductive Picks:List Thing→List Thing→List Thing→Prop
 | nil {L}:Picks L [] L
 | cons {L L' T M R}:Pick L T L'→Picks L' M R→Picks L (T::M) R
theorem Picks.perm {L M R:List Thing} (h:Picks L M R):L.Perm (M++R):=by
 induction h with
 | nil=>exact List.Perm.refl _
 | cons h1 _ ih=>exact h1.perm.trans (List.Perm.cons _ ih)
inductive Swap:List Thing→Thing→Thing→List Thing→Prop
 | here {T T' L}:Swap (T::L) T T' (T'::L)
 | there {T T' U L R}:Swap L T T' R→Swap (U::L) T T' (U::R)
theorem Swap.perm {L L':List Thing} {T T':Thing} (h:Swap L T T' L'):∃ R,L.Perm (T::R)∧(T'::R).Perm L':=by
 induction h with
 | here=>exact ⟨_,List.Perm.refl _,List.Perm.refl _⟩
 | there _ ih =>
  obtain ⟨R,h1,h2⟩:=ih
  exact ⟨_,(List.Perm.cons _ h1).trans (List.Perm.swap _ _ _),(List.Perm.swap _ _ _).trans (List.Perm.cons _ h2)⟩
inductive Part:List Thing→List Thing→Prop
 | refl {L}:Part L L
 | drop {T L M}:Part L M→Part (T::L) M
 | take {L L' T M}:Pick L T L'→Part L' M→Part L (T::M)
section
variable {W0 W:World} {L M R:List Thing} {T T':Thing}
theorem Sts.pick (h:Sts W0 W L) (p:Pick L T R):Sts W0 W (T::R):=h.perm p.perm
theorem Sts.picks (h:Sts W0 W L) (p:Picks L M R):Sts W0 W (M++R):=h.perm p.perm
theorem Sts.part (h:Sts W0 W L) (p:Part L M):Sts W0 W M:=by
 induction p generalizing W with
 | refl=>exact h
 | drop _ ih=>exact ih h.tail
 | take hp _ ih =>
  obtain ⟨hb,A,h1,h2,h3⟩:=h.pick hp
  refine ⟨hb,A,h1,h2,?_⟩
  exact Lie.part h3 ‹_›
 where
 Lie.part {B:Nat} {W:World} {L M:List Thing} {F:Nat→Prop} (h:Lie B W L F) (p:Part L M):Lie B W M F:=by
  induction p generalizing F with
  | refl=>exact h
  | drop _ ih=>exact ih h.tail
  | take hp _ ih =>
   obtain ⟨A,h1,h2,h3⟩:=h.perm hp.perm
   exact ⟨A,h1,h2,ih h3⟩
end
end
section
open Go.RowKit
def wpL (P:Program) (ops:Array Oper) (Q:Exit→Act→World→Prop):List Oper→Act→World→Prop
 | [],a,w=>Q .normal a w
 | o::r,a,w=>if Region.wanted o (yielded ops a.tmps) then o.wp P a w (wpL P ops Q r) Q∨(o.asks P a w∧LetsOut Q) else wpL P ops Q r (a.put o.dst undef) w
theorem wpOps_of_wpL {P:Program} {ops:Array Oper} {Q:Exit→Act→World→Prop}:∀ (r:List Oper) (k:Nat) (a:Act) (w:World),(∀ j,r[j]?=ops[k + j]?) →
  wpL P ops Q r a w→wpOps P ops Q (List.range' k r.length) a w
 | [],k,a,w,hr,h=>h
 | o::r,k,a,w,hr,h=>by
  have h0:ops[k]?=some o:=by have:=hr 0; simpa using this.symm
  simp only [List.length_cons,List.range'_succ,wpOps,h0]
  have hr':∀ j,r[j]?=ops[k + 1 + j]?:=fun j=>by have:=hr (j + 1); rw [show k + 1 + j=k + (j + 1) by omega]; simpa using this
  simp only [wpL] at h
  split
  ·rename_i hw
   rw [if_pos hw] at h
   rcases h with h | h
   ·exact .inl (Oper.wp_mono (fun a w hh=>wpOps_of_wpL r (k + 1) a w hr' hh) h)
   ·exact .inr h
  ·rename_i hw
   rw [if_neg hw] at h
   exact wpOps_of_wpL r (k + 1) _ _ hr' h
theorem wp_region_L {P:Program} {id:Nat} {ops:Array Oper} {Q:Exit→Act→World→Prop} {a:Act} {w:World} (h:wpL P ops Q ops.toList a w):(Code.region id ops false).wp P Q a w:=by
 refine wp_region ?_
 have:=wpOps_of_wpL (P:=P) (Q:=Q) ops.toList 0 a w (fun j=>by simp) h
 rw [List.range_eq_range']
 simpa using this
section
variable (P:Program) (W0:World) (N:Nat) (ds:List Deferred)
def GL (ops:Array Oper) (Q:Exit→Act→World→Prop) (l:List Oper) (kn:Kn) (L:List Thing):Prop :=
 ∀ a w,Has N ds kn a→Sts W0 w L→wpL P ops Q l a w
def GC (c:Code) (Q:Exit→Act→World→Prop) (kn:Kn) (L:List Thing):Prop :=
 ∀ a w,Has N ds kn a→Sts W0 w L→c.wp P Q a w
def GE (e:Exit) (Q:Exit→Act→World→Prop) (kn:Kn) (L:List Thing):Prop :=
 ∀ a w,Has N ds kn a→Sts W0 w L→Q e a w
def EX (kn:Kn) (L:List Thing) (o:Oper) (v:Value):Prop :=
 ∀ ρ w,Ev kn ρ→Sts W0 w L→(execOp ρ o).run P w=.ok (.value v) w
def EF {α:Type} (kn:Kn) (L:List Thing) (o:Oper) (v:α→Value) (L':α→List Thing) (C:α→Prop):Prop :=
 ∀ ρ w,Ev kn ρ→Sts W0 w L→∃ x w',C x∧(execOp ρ o).run P w=.ok (.value (v x)) w'∧Sts W0 w' (L' x)
def EU (kn:Kn) (L:List Thing) (o:Oper) (L':List Thing):Prop :=
 ∀ ρ w,Ev kn ρ→Sts W0 w L→∃ w',(execOp ρ o).run P w=.ok .skip w'∧Sts W0 w' L'
end
section
variable {P:Program} {W0:World} {N:Nat} {ds:List Deferred} {ops:Array Oper} {Q:Exit→Act→World→Prop} {kn kn':Kn} {L L':List Thing} {r:List Oper}
theorem GE.pass {c:Code} {Q':Exit→Act→World→Prop} {e:Exit} (h:GE W0 N ds e Q' kn L) (he:∀ a w,Q' e a w→Q e a w):GE W0 N ds e Q kn L:=fun a w ha hs=>he a w (h a w ha hs)
theorem GE.seq {y:Code} (h:GC P W0 N ds y Q kn L):GE W0 N ds .normal (Exit.then (y.wp P Q) Q) kn L:=h
theorem GE.then_ret {next:Act→World→Prop} (h:GE W0 N ds .ret Q kn L):GE W0 N ds .ret (Exit.then next Q) kn L:=h
theorem GE.then_exit {next:Act→World→Prop} {i:Nat} (h:GE W0 N ds (.exit i) Q kn L):GE W0 N ds (.exit i) (Exit.then next Q) kn L:=h
theorem GE.block {i:Nat} (h:GE W0 N ds .normal Q kn L):GE W0 N ds .normal (Exit.inBlock i Q) kn L:=h
theorem GE.block_ret {i:Nat} (h:GE W0 N ds .ret Q kn L):GE W0 N ds .ret (Exit.inBlock i Q) kn L:=h
theorem GE.block_hit {i:Nat} (h:GE W0 N ds .normal Q kn L):GE W0 N ds (.exit i) (Exit.inBlock i Q) kn L:=by
 intro a w ha hs; simp only [Exit.inBlock,if_true]; exact h a w ha hs
theorem GC.seq {x y:Code} (h:GC P W0 N ds x (Exit.then (y.wp P Q) Q) kn L):GC P W0 N ds (.seq x y) Q kn L:=fun a w ha hs=>wp_seq (h a w ha hs)
theorem GC.skip (h:GE W0 N ds .normal Q kn L):GC P W0 N ds .skip Q kn L:=fun a w ha hs=>wp_skip (h a w ha hs)
theorem GC.ret (h:GE W0 N ds .ret Q kn L):GC P W0 N ds .ret Q kn L:=fun a w ha hs=>wp_ret (h a w ha hs)
theorem GC.exit {i:Nat} (h:GE W0 N ds (.exit i) Q kn L):GC P W0 N ds (.exit i) Q kn L:=fun a w ha hs=>wp_exit (h a w ha hs)
theorem GC.block {i:Nat} {c:Code} (h:GC P W0 N ds c (Exit.inBlock i Q) kn L):GC P W0 N ds (.block i c) Q kn L:=fun a w ha hs=>wp_block (h a w ha hs)
theorem GC.cond {c:Nat} {x y:Code} {t:Bool} (hc:lk kn c=some (.bool t)) (ht:t=true→GC P W0 N ds x Q kn L) (hf:t=false→GC P W0 N ds y Q kn L):GC P W0 N ds (.cond (.tmp c) x y) Q kn L:=by
 intro a w ha hs
 have he:a.eval (.tmp c)=.bool t:=ha.ev _ _ hc
 cases t with
 | true=>exact wp_cond_true he (ht rfl a w ha hs)
 | false=>exact wp_cond_false he (hf rfl a w ha hs)
theorem GC.condT {c:Nat} {x y:Code} {t:Bool} (hc:lk kn c=some (.bool t)) (h:t=true) (ht:GC P W0 N ds x Q kn L):GC P W0 N ds (.cond (.tmp c) x y) Q kn L :=
 GC.cond hc (fun _=>ht) (fun e=>by rw [h] at e; cases e)
theorem GC.condF {c:Nat} {x y:Code} {t:Bool} (hc:lk kn c=some (.bool t)) (h:t=false) (hf:GC P W0 N ds y Q kn L):GC P W0 N ds (.cond (.tmp c) x y) Q kn L :=
 GC.cond hc (fun e=>by rw [h] at e; cases e) (fun _=>hf)
theorem GC.ask {c:Nat} {x y:Code} {p:Prop} [Decidable p] (hc:lk kn c=some (.bool (decide p))) (ht:p→GC P W0 N ds x Q kn L) (hf:¬ p→GC P W0 N ds y Q kn L):GC P W0 N ds (.cond (.tmp c) x y) Q kn L :=
 GC.cond hc (fun e=>ht (of_decide_eq_true e)) (fun e=>hf (of_decide_eq_false e))
theorem GC.region {id:Nat} (h:GL P W0 N ds ops Q ops.toList kn L):GC P W0 N ds (.region id ops false) Q kn L:=fun a w ha hs=>wp_region_L (h a w ha hs)
theorem GC.less {c:Code} (h:GC P W0 N ds c Q kn' L') (hk:∀ p∈kn',lk kn p.1=some p.2) (hL:Part L L'):GC P W0 N ds c Q kn L :=
 fun a w ha hs=>h a w (ha.sub hk) (hs.part hL)
theorem GE.less {e:Exit} (h:GE W0 N ds e Q kn' L') (hk:∀ p∈kn',lk kn p.1=some p.2) (hL:Part L L'):GE W0 N ds e Q kn L :=
 fun a w ha hs=>h a w (ha.sub hk) (hs.part hL)
theorem GL.less (h:GL P W0 N ds ops Q r kn' L') (hk:∀ p∈kn',lk kn p.1=some p.2) (hL:Part L L'):GL P W0 N ds ops Q r kn L :=
 fun a w ha hs=>h a w (ha.sub hk) (hs.part hL)
theorem GC.turn {c:Code} (hL:∀ w,Sts W0 w L→Sts W0 w L') (h:GC P W0 N ds c Q kn L'):GC P W0 N ds c Q kn L:=fun a w ha hs=>h a w ha (hL w hs)
theorem GL.turn (hL:∀ w,Sts W0 w L→Sts W0 w L') (h:GL P W0 N ds ops Q r kn L'):GL P W0 N ds ops Q r kn L:=fun a w ha hs=>h a w ha (hL w hs)
theorem GE.turn {e:Exit} (hL:∀ w,Sts W0 w L→Sts W0 w L') (h:GE W0 N ds e Q kn L'):GE W0 N ds e Q kn L:=fun a w ha hs=>h a w ha (hL w hs)
theorem GC.know {c:Code} {p:Prop} (hL:∀ w,Sts W0 w L→p) (h:p→GC P W0 N ds c Q kn L):GC P W0 N ds c Q kn L:=fun a w ha hs=>h (hL w hs) a w ha hs
theorem GL.know {p:Prop} (hL:∀ w,Sts W0 w L→p) (h:p→GL P W0 N ds ops Q r kn L):GL P W0 N ds ops Q r kn L:=fun a w ha hs=>h (hL w hs) a w ha hs
theorem GC.loop {σ:Type} {c:Code} (k:σ→Kn) (T:σ→List Thing) (m:σ→Nat) (s0:σ) (h:∀ s,GC P W0 N ds c (Exit.then (fun a w=>∃ s',m s' < m s∧Has N ds (k s') a∧Sts W0 w (T s')) Q) (k s) (T s))
  (hk:∀ p∈k s0,lk kn p.1=some p.2) (hL:Part L (T s0)):GC P W0 N ds (.loop c) Q kn L:=by
 intro a w ha hs b kk cs
 have key:∀ n s a w,m s=n→Has N ds (k s) a→Sts W0 w (T s) →
   ∃ e a' w',Q e a' w'∧Arrives P (lone (b.at a (.code c::.inLoop c::kk)) cs w) b kk cs e a' w':=by
  intro n
  induction n using Nat.strongRecOn with
  | _ n ih =>
   intro s a w hn ha hs
   obtain ⟨e,a₁,w₁,hq,harr⟩:=h s a w ha hs b (.inLoop c::kk) cs
   cases e with
   | normal =>
    obtain ⟨s',hlt,ha',hs'⟩:=hq
    obtain ⟨e₂,a₂,w₂,hq₂,harr₂⟩:=ih (m s') (hn ▸ hlt) s' a₁ w₁ rfl ha' hs'
    exact ⟨e₂,a₂,w₂,hq₂,.of_steps (Steps.trans harr (.one step_inLoop)) harr₂⟩
   | exit id=>exact ⟨_,a₁,w₁,hq,.pass (x:=.inLoop c) rfl (fun _ _=>.inl (by simp)) harr⟩
   | goto l=>exact ⟨_,a₁,w₁,hq,.pass (x:=.inLoop c) rfl (fun _ _=>.inl (by simp)) harr⟩
   | ret=>exact ⟨_,a₁,w₁,hq,.pass (x:=.inLoop c) rfl (fun _ _=>.inl (by simp)) harr⟩
   | panic ch=>exact ⟨_,a₁,w₁,hq,.pass (x:=.inLoop c) rfl (fun _ _=>.inl (by simp)) harr⟩
   | outgrown=>exact ⟨_,a₁,w₁,hq,.pass (x:=.inLoop c) rfl (fun _ _=>.inl (by simp)) harr⟩
 obtain ⟨e,a',w',hq,harr⟩:=key _ s0 a w rfl (ha.sub hk) (hs.part hL)
 exact ⟨e,a',w',hq,.of_steps (.one step_loop) harr⟩
theorem GE.again {σ:Type} {k:σ→Kn} {T:σ→List Thing} {m:σ→Nat} {s:σ} (s':σ) (hm:m s' < m s) (hk:∀ p∈k s',lk kn p.1=some p.2) (hL:Part L (T s')) :
  GE W0 N ds .normal (Exit.then (fun a w=>∃ s',m s' < m s∧Has N ds (k s') a∧Sts W0 w (T s')) Q) kn L :=
 fun a w ha hs=>⟨s',hm,ha.sub hk,hs.part hL⟩
theorem wanted_none {o:Oper} (h:o.guard=none) (y:Nat→Option Bool):Region.wanted o y=true:=by simp [Region.wanted,h]
def On (ops:Array Oper) (kn:Kn) (o:Oper):Prop:=∀ (N:Nat) (ds:List Deferred) (a:Act),Has N ds kn a→Region.wanted o (yielded ops a.tmps)=true
def Off (ops:Array Oper) (kn:Kn) (o:Oper):Prop:=∀ (N:Nat) (ds:List Deferred) (a:Act),Has N ds kn a→Region.wanted o (yielded ops a.tmps)=false
theorem On.free {o:Oper} (h:o.guard=none):On ops kn o:=fun _ _ _ _=>wanted_none h _
theorem yielded_of {a:Act} (ha:Has N ds kn a) {j d:Nat} {oj:Oper} {b:Bool} (hj:ops[j]?=some oj) (hd:oj.dst=some d) (hb:lk kn d=some (.bool b)):yielded ops a.tmps j=some b:=by
 simp [yielded,hj,hd,ha.slot hb]
theorem On.guard {o:Oper} {j d:Nat} {want:Bool} (h:o.guard=some (j,want)) {oj:Oper} (hj:ops[j]?=some oj) (hd:oj.dst=some d) {b:Bool} (hb:lk kn d=some (.bool b)) (e:b=want):On ops kn o:=by
 intro N ds a ha
 simp [Region.wanted,h,yielded_of ha hj hd hb,e]
theorem Off.guard {o:Oper} {j d:Nat} {want:Bool} (h:o.guard=some (j,want)) {oj:Oper} (hj:ops[j]?=some oj) (hd:oj.dst=some d) {b:Bool} (hb:lk kn d=some (.bool b)) (e:b=!want):Off ops kn o:=by
 intro N ds a ha
 cases want <;> simp [Region.wanted,h,yielded_of ha hj hd hb,e]
theorem GL.nil (h:GE W0 N ds .normal Q kn L):GL P W0 N ds ops Q [] kn L:=h
theorem GL.val {o:Oper} {v:Value} {d:Nat} (hx:EX P W0 kn L o v) (hd:o.dst=some d) (hN:Nat.blt d N=true) (hon:On ops kn o) (h:GL P W0 N ds ops Q r ((d,v)::kn) L):GL P W0 N ds ops Q (o::r) kn L:=by
 intro a w ha hs
 simp only [wpL,hon N ds a ha,if_true]
 refine .inl ?_
 simp only [Oper.wp,hx a.eval w ha.ev hs,Oper.upon]
 rw [hd]; exact h _ _ (ha.put d v hN) hs
theorem GL.off {o:Oper} {d:Nat} (hd:o.dst=some d) (hN:Nat.blt d N=true) (hoff:Off ops kn o) (h:GL P W0 N ds ops Q r ((d,undef)::kn) L):GL P W0 N ds ops Q (o::r) kn L:=by
 intro a w ha hs
 simp only [wpL,hoff N ds a ha]
 rw [hd]; exact h _ _ (ha.put d undef hN) hs
theorem GL.eff {α:Type} {o:Oper} {v:α→Value} {T:α→List Thing} {C:α→Prop} {d:Nat} (hx:EF P W0 kn L o v T C) (hd:o.dst=some d) (hN:Nat.blt d N=true) (hon:On ops kn o)
  (h:∀ x,C x→GL P W0 N ds ops Q r ((d,v x)::kn) (T x)):GL P W0 N ds ops Q (o::r) kn L:=by
 intro a w ha hs
 simp only [wpL,hon N ds a ha,if_true]
 refine .inl ?_
 obtain ⟨x,w',hc,hr,hs'⟩:=hx a.eval w ha.ev hs
 simp only [Oper.wp,hr,Oper.upon]
 rw [hd]; exact h x hc _ _ (ha.put d _ hN) hs'
theorem GL.do {o:Oper} {T:List Thing} (hx:EU P W0 kn L o T) (hd:o.dst=none) (hon:On ops kn o) (h:GL P W0 N ds ops Q r kn T):GL P W0 N ds ops Q (o::r) kn L:=by
 intro a w ha hs
 simp only [wpL,hon N ds a ha,if_true]
 refine .inl ?_
 obtain ⟨w',hr,hs'⟩:=hx a.eval w ha.ev hs
 simp only [Oper.wp,hr,Oper.upon]
 rw [hd]; exact h _ _ ha hs'
def EC (P:Program) (kn:Kn) (o:Oper) (f:FuncId) (args:List Value):Prop :=
 ∀ ρ w,Ev kn ρ→(execOp ρ o).run P w=.ok (.enter f args.toArray) w
theorem GL.call {o:Oper} {f:FuncId} {args:List Value} {M M' R:List Thing} {v:Value} {d:Nat} (hx:EC P kn o f args) (hc:Fn1 P f args.toArray M v M') (hp:Picks L M R) (hd:o.dst=some d) (hN:Nat.blt d N=true) (hon:On ops kn o)
  (h:GL P W0 N ds ops Q r ((d,v)::kn) (M'++R)):GL P W0 N ds ops Q (o::r) kn L:=by
 intro a w ha hs
 simp only [wpL,hon N ds a ha,if_true]
 refine .inl ?_
 simp only [Oper.wp,hx a.eval w ha.ev,Oper.upon]
 refine (hc W0 w R (hs.picks hp)).mono ?_
 rintro e w' ⟨rfl,h'⟩
 show wpL P ops Q r (a.put o.dst v) w'
 rw [hd]; exact h _ _ (ha.put d v hN) h'
def FnX {α:Type} (P:Program) (f:FuncId) (args:List Value) (M:List Thing) (v:α→Value) (M':α→List Thing) (C:α→Prop):Prop :=
 Fn P f args.toArray M (fun e k=>∃ x,C x∧e=.returned (v x)∧k (M' x))
theorem GL.callX {α:Type} {o:Oper} {f:FuncId} {args:List Value} {M R:List Thing} {v:α→Value} {M':α→List Thing} {C:α→Prop} {d:Nat} (hx:EC P kn o f args) (hc:FnX P f args M v M' C) (hp:Picks L M R) (hd:o.dst=some d)
  (hN:Nat.blt d N=true) (hon:On ops kn o) (h:∀ x,C x→GL P W0 N ds ops Q r ((d,v x)::kn) (M' x++R)):GL P W0 N ds ops Q (o::r) kn L:=by
 intro a w ha hs
 simp only [wpL,hon N ds a ha,if_true]
 refine .inl ?_
 simp only [Oper.wp,hx a.eval w ha.ev,Oper.upon]
 refine (hc W0 w R (hs.picks hp)).mono ?_
 rintro e w' ⟨x,hcx,rfl,h'⟩
 show wpL P ops Q r (a.put o.dst (v x)) w'
 rw [hd]; exact h x hcx _ _ (ha.put d _ hN) h'
theorem GL.callX0 {α:Type} {o:Oper} {f:FuncId} {args:List Value} {M R:List Thing} {v:α→Value} {M':α→List Thing} {C:α→Prop} (hx:EC P kn o f args) (hc:FnX P f args M v M' C) (hp:Picks L M R) (hd:o.dst=none)
  (hon:On ops kn o) (h:∀ x,C x→GL P W0 N ds ops Q r kn (M' x++R)):GL P W0 N ds ops Q (o::r) kn L:=by
 intro a w ha hs
 simp only [wpL,hon N ds a ha,if_true]
 refine .inl ?_
 simp only [Oper.wp,hx a.eval w ha.ev,Oper.upon]
 refine (hc W0 w R (hs.picks hp)).mono ?_
 rintro e w' ⟨x,hcx,rfl,h'⟩
 show wpL P ops Q r (a.put o.dst (v x)) w'
 rw [hd]; exact h x hcx _ _ ha h'
def FnP {α β:Type} (P:Program) (f:FuncId) (args:List Value) (M:List Thing) (v:α→Value) (M':α→List Thing) (C:α→Prop) (ch:β→List PanicEntry) (M'':β→List Thing) (D:β→Prop):Prop :=
 Fn P f args.toArray M (fun e k=>(∃ x,C x∧e=.returned (v x)∧k (M' x))∨∃ y,D y∧e=.panicked (ch y)∧k (M'' y))
theorem GL.callP {α β:Type} {o:Oper} {f:FuncId} {args:List Value} {M R:List Thing} {v:α→Value} {M':α→List Thing} {C:α→Prop} {ch:β→List PanicEntry} {M'':β→List Thing} {D:β→Prop} {d:Nat} (hx:EC P kn o f args)
  (hc:FnP P f args M v M' C ch M'' D) (hp:Picks L M R) (hd:o.dst=some d) (hN:Nat.blt d N=true) (hon:On ops kn o) (h:∀ x,C x→GL P W0 N ds ops Q r ((d,v x)::kn) (M' x++R))
  (h':∀ y,D y→GE W0 N ds (.panic (ch y)) Q kn (M'' y++R)):GL P W0 N ds ops Q (o::r) kn L:=by
 intro a w ha hs
 simp only [wpL,hon N ds a ha,if_true]
 refine .inl ?_
 simp only [Oper.wp,hx a.eval w ha.ev,Oper.upon]
 refine (hc W0 w R (hs.picks hp)).mono ?_
 rintro e w' (⟨x,hcx,rfl,hh⟩ | ⟨y,hdy,rfl,hh⟩)
 ·show wpL P ops Q r (a.put o.dst (v x)) w'
  rw [hd]; exact h x hcx _ _ (ha.put d _ hN) hh
 ·exact h' y hdy _ _ ha hh
theorem GL.callP0 {α β:Type} {o:Oper} {f:FuncId} {args:List Value} {M R:List Thing} {v:α→Value} {M':α→List Thing} {C:α→Prop} {ch:β→List PanicEntry} {M'':β→List Thing} {D:β→Prop} (hx:EC P kn o f args)
  (hc:FnP P f args M v M' C ch M'' D) (hp:Picks L M R) (hd:o.dst=none) (hon:On ops kn o) (h:∀ x,C x→GL P W0 N ds ops Q r kn (M' x++R))
  (h':∀ y,D y→GE W0 N ds (.panic (ch y)) Q kn (M'' y++R)):GL P W0 N ds ops Q (o::r) kn L:=by
 intro a w ha hs
 simp only [wpL,hon N ds a ha,if_true]
 refine .inl ?_
 simp only [Oper.wp,hx a.eval w ha.ev,Oper.upon]
 refine (hc W0 w R (hs.picks hp)).mono ?_
 rintro e w' (⟨x,hcx,rfl,hh⟩ | ⟨y,hdy,rfl,hh⟩)
 ·show wpL P ops Q r (a.put o.dst (v x)) w'
  rw [hd]; exact h x hcx _ _ ha hh
 ·exact h' y hdy _ _ ha hh
theorem GL.panic {o:Oper} {v:Value} (hx:∀ ρ w,Ev kn ρ→(execOp ρ o).run P w=.halt (.panic v) w) (hon:On ops kn o) (h:GE W0 N ds (.panic [{ v,recovered:=false }]) Q kn L):GL P W0 N ds ops Q (o::r) kn L:=by
 intro a w ha hs
 simp only [wpL,hon N ds a ha,if_true]
 refine .inl ?_
 simp only [Oper.wp,hx a.eval w ha.ev,Oper.upon]
 exact h a w ha hs
theorem GL.defer {o:Oper} {dd:Deferred} (hx:∀ ρ w,Ev kn ρ→(execOp ρ o).run P w=.ok (.defer dd) w) (hd:o.dst=none) (hon:On ops kn o) (h:GL P W0 N (dd::ds) ops Q r kn L):GL P W0 N ds ops Q (o::r) kn L:=by
 intro a w ha hs
 simp only [wpL,hon N ds a ha,if_true]
 refine .inl ?_
 simp only [Oper.wp,hx a.eval w ha.ev,Oper.upon]
 rw [hd]; exact h _ _ ⟨ha.size,by simp [Act.put,ha.defers],ha.known⟩ hs
end
end
section
open Go.RowKit
def lc:List Value→Nat→Option Value
 | [],_=>none
 | v::_,0=>some v
 | _::r,n + 1=>lc r n
theorem lc_eq:∀ (C:List Value) (n:Nat),lc C n=C[n]?
 | [],_=>rfl
 | _::_,0=>rfl
 | _::r,n + 1=>by simp [lc,lc_eq r n]
def putL:List Value→Nat→List Value→Option (List Value)
 | C,0,[]=>some C
 | [],_,_=>none
 | _::C,0,v::vs=>match putL C 0 vs with
  | some C'=>some (v::C')
  | none=>none
 | c::C,n + 1,vs=>match putL C n vs with
  | some C'=>some (c::C')
  | none=>none
theorem putL_spec:∀ (C:List Value) (n:Nat) (vs C':List Value),putL C n vs=some C'→n + vs.length≤C.length∧C'=C.take n++vs++C.drop (n + vs.length)
 | C,0,[],C',h=>by simp only [putL,Option.some.injEq] at h; subst h; simp
 | [],n + 1,vs,C',h=>by simp [putL] at h
 | [],0,v::vs,C',h=>by simp [putL] at h
 | c::C,0,v::vs,C',h=>by
  simp only [putL] at h
  cases hp:putL C 0 vs with
  | none=>rw [hp] at h; simp at h
  | some D =>
   rw [hp] at h; simp only [Option.some.injEq] at h; subst h
   obtain ⟨h1,h2⟩:=putL_spec C 0 vs D hp
   refine ⟨by simp at h1 ⊢; omega,?_⟩
   rw [h2]; simp
 | c::C,n + 1,vs,C',h=>by
  simp only [putL] at h
  cases hp:putL C n vs with
  | none=>rw [hp] at h; simp at h
  | some D =>
   rw [hp] at h; simp only [Option.some.injEq] at h; subst h
   obtain ⟨h1,h2⟩:=putL_spec C n vs D hp
   refine ⟨by simp at h1 ⊢; omega,?_⟩
   rw [h2,show n + 1 + vs.length=(n + vs.length) + 1 by omega]; simp
def cutL:List Value→Nat→Nat→Option (List Value)
 | _,0,0=>some []
 | [],_,_=>none
 | v::C,0,n + 1=>match cutL C 0 n with
  | some r=>some (v::r)
  | none=>none
 | _::C,o + 1,n=>cutL C o n
theorem cutL_spec:∀ (C:List Value) (o n:Nat) (r:List Value),cutL C o n=some r→r.length=n∧∀ j,j < n→C[o + j]?=r[j]?
 | C,0,0,r,h=>by
  have:r=[]:=by cases C <;> (simp only [cutL,Option.some.injEq] at h; exact h.symm)
  subst this; exact ⟨rfl,fun j hj=>by omega⟩
 | [],o + 1,n,r,h=>by simp [cutL] at h
 | [],0,n + 1,r,h=>by simp [cutL] at h
 | v::C,0,n + 1,r,h=>by
  simp only [cutL] at h
  cases hp:cutL C 0 n with
  | none=>rw [hp] at h; simp at h
  | some D =>
   rw [hp] at h; simp only [Option.some.injEq] at h; subst h
   obtain ⟨h1,h2⟩:=cutL_spec C 0 n D hp
   refine ⟨by simp [h1],fun j hj=>?_⟩
   cases j with
   | zero=>simp
   | succ j=>have:=h2 j (by omega); simp at this ⊢; exact this
 | v::C,o + 1,n,r,h=>by
  simp only [cutL] at h
  obtain ⟨h1,h2⟩:=cutL_spec C o n r h
  exact ⟨h1,fun j hj=>by rw [show o + 1 + j=(o + j) + 1 by omega]; simpa using h2 j hj⟩
@[irreducible] def Bk (b:Nat) (t:TypeId) (C:List Value):Thing:=Blk b t C.toArray
def ptr (b:Nat):Value:=.pointer (some ⟨b,0,none⟩)
section
variable {P:Program} {W0 W w:World} {kn:Kn} {L L' R M:List Thing} {b o:Nat} {t:TypeId} {C:List Value}
theorem Sts.bk (h:Sts W0 W L) (p:Pick L (Bk b t C) R):At W b t C.toArray:=by
 have:=h.pick p
 unfold Bk at this
 exact this.blk
theorem Sts.newBk (h:Sts W0 W L) (t:TypeId) (C:List Value):Sts W0 (W.alloc (.cells C.toArray t)) (Bk W.heap.size t C::L):=by unfold Bk; exact h.new t C.toArray
theorem Sts.swap {T T':Thing} (h:Sts W0 W L) (p:Swap L T T' L') (k:∀ R,Sts W0 W (T::R)→Sts W0 w (T'::R)):Sts W0 w L':=by
 obtain ⟨R,h1,h2⟩:=p.perm
 exact (k R (h.perm h1)).perm h2
theorem EX.move {d g x ty ps af v} (hx:ev kn x=some v):EX P W0 kn L ⟨d,.move x,ty,ps,af,g⟩ v:=fun ρ w he hs=>by simp [execOp,he x v hx]
theorem EX.assign {d g x ty ps af v} (hx:ev kn x=some v):EX P W0 kn L ⟨d,.assign x,ty,ps,af,g⟩ v:=fun ρ w he hs=>by simp [execOp,he x v hx]
theorem EX.pickT {d g c x y ty ps af v b} (hc:ev kn c=some (.bool b)) (hb:b=true) (hx:ev kn x=some v):EX P W0 kn L ⟨d,.pick c x y,ty,ps,af,g⟩ v:=fun ρ w he hs=>by
 simp [execOp,he x v hx,he c _ hc,hb,asBool]
theorem EX.pickF {d g c x y ty ps af v b} (hc:ev kn c=some (.bool b)) (hb:b=false) (hx:ev kn y=some v):EX P W0 kn L ⟨d,.pick c x y,ty,ps,af,g⟩ v:=fun ρ w he hs=>by
 simp [execOp,he y v hx,he c _ hc,hb,asBool]
theorem EX.extract {d g x i ty ps af v vs} (hx:ev kn x=some (.tuple vs)) (hv:lc vs.toList i=some v):EX P W0 kn L ⟨d,.extract x i,ty,ps,af,g⟩ v:=fun ρ w he hs=>by
 have:vs[i]?=some v:=by rw [lc_eq] at hv; simpa using hv
 simp [execOp,he x _ hx,Instr.extract,this]
theorem EX.nilCheck {d g x ty ps af a} (hx:ev kn x=some (.pointer (some a))):EX P W0 kn L ⟨d,.nilCheck x,ty,ps,af,g⟩ (.pointer (some a)):=fun ρ w he hs=>by simp [execOp,he x _ hx]
theorem EX.not {d g x T ty ps af b} (hx:ev kn x=some (.bool b)):EX P W0 kn L ⟨d,.unOp .not T x,ty,ps,af,g⟩ (.bool (!b)):=fun ρ w he hs=>by simp [execOp,he x _ hx,Op.unary]
def FA (P:Program) (s i off:Nat):Prop:=∀ a w,(Instr.fieldAt s (.pointer (some a)) i).run P w=.ok (.pointer (some (a.add off))) w
theorem FA.of {s i n ft off:Nat} {fs:Array Field} (hu:P.underlying s=some (.struct fs)) (hf:(fs[i]?).map (fun f=>(f.type,f.offset))=some (ft,off)) (hs:(P.info? ft).map (·.size)=some (n + 1)):FA P s i off:=by
 intro a w
 obtain ⟨f,hf1,hf2,hf3⟩:∃ f,fs[i]?=some f∧f.type=ft∧f.offset=off:=by
  cases h:fs[i]? with
  | none=>simp [h] at hf
  | some f=>rw [h] at hf; simp at hf; exact ⟨f,rfl,hf⟩
 subst hf2; subst hf3
 obtain ⟨inf,hi,hn⟩:∃ inf,P.info? f.type=some inf∧inf.size=n + 1:=by
  cases h:P.info? f.type with
  | none=>simp [h] at hs
  | some i=>rw [h] at hs; exact ⟨i,rfl,by simpa using hs⟩
 simp [Instr.fieldAt,underlying,hu,hf1,Instr.sureAddr,fieldPlace,sizeOf,typeInfo,hi,hn]
theorem add_off (b o n:Nat):(⟨b,o,none⟩:Addr).add n=⟨b,o + n,none⟩:=by unfold Addr.add; split <;> simp_all
theorem EX.fieldAddr {d g s x i ty ps af off} (hx:ev kn x=some (.pointer (some ⟨b,o,none⟩))) (hf:FA P s i off):EX P W0 kn L ⟨d,.fieldAddr s x i,ty,ps,af,g⟩ (.pointer (some ⟨b,o + off,none⟩)):=fun ρ w he hs=>by
 simp only [execOp,he x _ hx,Sem.run_bind,hf ⟨b,o,none⟩ w,Result.andThen_ok,add_off]; rfl
def One (P:Program) (t:TypeId):Prop:=∀ w,(isAgg t).run P w=.ok false w
def Many (P:Program) (t:TypeId) (n:Nat):Prop:=∀ w,(isAgg t).run P w=.ok true w∧(sizeOf t).run P w=.ok n w
theorem EX.load {d g t' x ty ps af v} (hx:ev kn x=some (.pointer (some ⟨b,o,none⟩))) (p:Pick L (Bk b t C) R) (hc:lc C o=some v) (h1:One P t'):EX P W0 kn L ⟨d,.load t' x,ty,ps,af,g⟩ v:=fun ρ w he hs=>by
 have hrd:w.cell? ⟨b,o,none⟩=some v:=by rw [(hs.bk p).rd,← hc,lc_eq]; simp
 simp only [execOp,he x _ hx,Sem.run_bind,Instr.loadAt,Instr.sureAddr,loadVar,h1 w,Result.andThen_ok,Sem.run_pure,Bool.false_eq_true,if_false,run_load,hrd]
theorem load_cells {a:Addr} {cs:List Value} (h:∀ j,j < cs.length→w.cell? (a.add j)=cs[j]?):(loadCells a cs.length).run P w=.ok cs.toArray w :=
 run_loadCells_list (P:=P) w a cs (fun j v hv=>by rw [h j (by rcases Nat.lt_or_ge j cs.length with h | h; exact h; rw [List.getElem?_eq_none h] at hv; cases hv)]; exact hv)
theorem EX.loadN {d g t' x ty ps af n cs} (hx:ev kn x=some (.pointer (some ⟨b,o,none⟩))) (p:Pick L (Bk b t C) R) (h1:Many P t' n) (hc:cutL C o n=some cs):EX P W0 kn L ⟨d,.load t' x,ty,ps,af,g⟩ (.agg cs.toArray):=fun ρ w he hs=>by
 obtain ⟨hl,hcs⟩:=cutL_spec _ _ _ _ hc
 have hr:(loadCells ⟨b,o,none⟩ n).run P w=.ok cs.toArray w:=by
  rw [← hl]; refine load_cells fun j hj=>?_
  rw [add_off,(hs.bk p).rd]
  have:=hcs j (by omega)
  rw [← this]; simp
 simp only [execOp,he x _ hx,Sem.run_bind,Instr.loadAt,Instr.sureAddr,loadVar,(h1 w).1,(h1 w).2,Result.andThen_ok,Sem.run_pure,if_true,hr]
theorem EX.add {d g T ty' x y ty ps af k m n r} (hx:ev kn x=some (.int k m)) (hy:ev kn y=some (.int k n)) (hr:k.wrap (m + n)=r):EX P W0 kn L ⟨d,.binOp .add T x y ty',ty,ps,af,g⟩ (.int k r):=fun ρ w he hs=>by
 subst hr; simp [execOp,he x _ hx,he y _ hy,eqGuard,binOp,Op.intArith]
theorem EX.sub {d g T ty' x y ty ps af k m n r} (hx:ev kn x=some (.int k m)) (hy:ev kn y=some (.int k n)) (hr:k.wrap (m - n)=r):EX P W0 kn L ⟨d,.binOp .sub T x y ty',ty,ps,af,g⟩ (.int k r):=fun ρ w he hs=>by
 subst hr; simp [execOp,he x _ hx,he y _ hy,eqGuard,binOp,Op.intArith]
theorem EX.mul {d g T ty' x y ty ps af k m n r} (hx:ev kn x=some (.int k m)) (hy:ev kn y=some (.int k n)) (hr:k.wrap (m * n)=r):EX P W0 kn L ⟨d,.binOp .mul T x y ty',ty,ps,af,g⟩ (.int k r):=fun ρ w he hs=>by
 subst hr; simp [execOp,he x _ hx,he y _ hy,eqGuard,binOp,Op.intArith]
theorem EX.quo {d g T ty' x y ty ps af k m n r} (hx:ev kn x=some (.int k m)) (hy:ev kn y=some (.int k n)) (hn:n≠0) (hr:k.wrap (m.tdiv n)=r):EX P W0 kn L ⟨d,.binOp .quo T x y ty',ty,ps,af,g⟩ (.int k r):=fun ρ w he hs=>by
 subst hr; simp [execOp,he x _ hx,he y _ hy,eqGuard,binOp,Op.intDiv,hn]
theorem EX.rem {d g T ty' x y ty ps af k m n r} (hx:ev kn x=some (.int k m)) (hy:ev kn y=some (.int k n)) (hn:n≠0) (hr:m.tmod n=r):EX P W0 kn L ⟨d,.binOp .rem T x y ty',ty,ps,af,g⟩ (.int k r):=fun ρ w he hs=>by
 subst hr; simp [execOp,he x _ hx,he y _ hy,eqGuard,binOp,Op.intDiv,hn]
theorem EX.and {d g T ty' x y ty ps af k m n r} (hx:ev kn x=some (.int k m)) (hy:ev kn y=some (.int k n)) (hr:k.wrap ((BitVec.ofInt k.bits m &&& BitVec.ofInt k.bits n).toNat:Int)=r):EX P W0 kn L ⟨d,.binOp .and T x y ty',ty,ps,af,g⟩ (.int k r):=fun ρ w he hs=>by
 subst hr; simp [execOp,he x _ hx,he y _ hy,eqGuard,binOp,Op.intBits]
theorem EX.or {d g T ty' x y ty ps af k m n r} (hx:ev kn x=some (.int k m)) (hy:ev kn y=some (.int k n)) (hr:k.wrap ((BitVec.ofInt k.bits m ||| BitVec.ofInt k.bits n).toNat:Int)=r):EX P W0 kn L ⟨d,.binOp .or T x y ty',ty,ps,af,g⟩ (.int k r):=fun ρ w he hs=>by
 subst hr; simp [execOp,he x _ hx,he y _ hy,eqGuard,binOp,Op.intBits]
theorem EX.shl {d g T ty' x y ty ps af k k' m n r} (hx:ev kn x=some (.int k m)) (hy:ev kn y=some (.int k' n)) (hn:0≤n) (hr:k.wrap (m * 2 ^ (min n.toNat k.bits))=r):EX P W0 kn L ⟨d,.binOp .shl T x y ty',ty,ps,af,g⟩ (.int k r):=fun ρ w he hs=>by
 subst hr; simp [execOp,he x _ hx,he y _ hy,eqGuard,binOp,Op.shift,Int.not_lt.2 hn]
theorem EX.shr {d g T ty' x y ty ps af k k' m n r} (hx:ev kn x=some (.int k m)) (hy:ev kn y=some (.int k' n)) (hn:0≤n) (hr:m.fdiv (2 ^ (min n.toNat k.bits))=r):EX P W0 kn L ⟨d,.binOp .shr T x y ty',ty,ps,af,g⟩ (.int k r):=fun ρ w he hs=>by
 subst hr; simp [execOp,he x _ hx,he y _ hy,eqGuard,binOp,Op.shift,Int.not_lt.2 hn]
theorem EX.lss {d g T ty' x y ty ps af k m n} (hx:ev kn x=some (.int k m)) (hy:ev kn y=some (.int k n)):EX P W0 kn L ⟨d,.binOp .lss T x y ty',ty,ps,af,g⟩ (.bool (decide (m < n))):=fun ρ w he hs=>by
 simp [execOp,he x _ hx,he y _ hy,eqGuard,binOp,Op.intCmp]
theorem EX.leq {d g T ty' x y ty ps af k m n} (hx:ev kn x=some (.int k m)) (hy:ev kn y=some (.int k n)):EX P W0 kn L ⟨d,.binOp .leq T x y ty',ty,ps,af,g⟩ (.bool (decide (m≤n))):=fun ρ w he hs=>by
 simp [execOp,he x _ hx,he y _ hy,eqGuard,binOp,Op.intCmp]
theorem EX.gtr {d g T ty' x y ty ps af k m n} (hx:ev kn x=some (.int k m)) (hy:ev kn y=some (.int k n)):EX P W0 kn L ⟨d,.binOp .gtr T x y ty',ty,ps,af,g⟩ (.bool (decide (n < m))):=fun ρ w he hs=>by
 simp [execOp,he x _ hx,he y _ hy,eqGuard,binOp,Op.intCmp]
theorem EX.geq {d g T ty' x y ty ps af k m n} (hx:ev kn x=some (.int k m)) (hy:ev kn y=some (.int k n)):EX P W0 kn L ⟨d,.binOp .geq T x y ty',ty,ps,af,g⟩ (.bool (decide (n≤m))):=fun ρ w he hs=>by
 simp [execOp,he x _ hx,he y _ hy,eqGuard,binOp,Op.intCmp]
theorem EX.eql {d g T ty' x y ty ps af k m n} (hx:ev kn x=some (.int k m)) (hy:ev kn y=some (.int k n)):EX P W0 kn L ⟨d,.binOp .eql T x y ty',ty,ps,af,g⟩ (.bool (decide (m=n))):=fun ρ w he hs=>by
 simp [execOp,he x _ hx,he y _ hy,eqGuard,binOp,Op.intCmp]; rfl
theorem EX.neq {d g T ty' x y ty ps af k m n} (hx:ev kn x=some (.int k m)) (hy:ev kn y=some (.int k n)):EX P W0 kn L ⟨d,.binOp .neq T x y ty',ty,ps,af,g⟩ (.bool (decide (m≠n))):=fun ρ w he hs=>by
 simp only [execOp,he x _ hx,he y _ hy,eqGuard,binOp,Op.intCmp,Sem.run_bind,Sem.run_pure,Result.andThen_ok]
 by_cases e:m=n <;> simp [e]
end
end
section
open Go.RowKit
def vc:Value→List Value
 | .agg cs=>cs.toList
 | v=>[v]
theorem vc_eq (v:Value):v.cells=(vc v).toArray:=by cases v <;> simp [vc,Value.cells]
def on1:Value→Bool
 | .agg _=>false
 | .tuple _=>false
 | _=>true
def ones:List Value→Bool
 | []=>true
 | v::r=>on1 v && ones r
theorem ones_spec:∀ {l:List Value},ones l=true→∀ v∈l,v.oneCell'=true
 | [],_,v,hv=>(List.not_mem_nil hv).elim
 | u::r,h,v,hv=>by
  simp only [ones,Bool.and_eq_true] at h
  rcases List.mem_cons.1 hv with rfl | hv
  ·cases v <;> first | rfl | (exact absurd h.1 (by simp [on1]))
  ·exact ones_spec h.2 v hv
def evp (kn:Kn):List (Nat × Operand)→Option (List (Nat × Value))
 | []=>some []
 | (i,x)::r=>match ev kn x,evp kn r with
  | some v,some vs=>some ((i,v)::vs)
  | _,_=>none
theorem evp_spec {kn:Kn} {ρ:Operand→Value} (he:Ev kn ρ):∀ {l:List (Nat × Operand)} {vs:List (Nat × Value)},evp kn l=some vs→l.map (fun p=>(p.1,ρ p.2))=vs
 | [],vs,h=>by simp [evp] at h; subst h; rfl
 | (i,x)::r,vs,h=>by
  simp only [evp] at h
  cases h1:ev kn x with
  | none=>simp [h1] at h
  | some v =>
   cases h2:evp kn r with
   | none=>simp [h1,h2] at h
   | some us =>
    simp only [h1,h2,Option.some.injEq] at h; subst h
    simp only [List.map_cons,he x v h1,evp_spec he h2]
theorem evs_spec {kn:Kn} {ρ:Operand→Value} (he:Ev kn ρ):∀ {l:List Operand} {vs:List Value},evs kn l=some vs→l.map ρ=vs
 | [],vs,h=>by simp [evs] at h; subst h; rfl
 | x::r,vs,h=>by
  simp only [evs] at h
  cases h1:ev kn x with
  | none=>simp [h1] at h
  | some v =>
   cases h2:evs kn r with
   | none=>simp [h1,h2] at h
   | some us =>
    simp only [h1,h2,Option.some.injEq] at h; subst h
    simp only [List.map_cons,he x v h1,evs_spec he h2]
def lp:List (Nat × Nat)→Nat→Option (Nat × Nat)
 | [],_=>none
 | p::_,0=>some p
 | _::r,n + 1=>lp r n
theorem lp_eq:∀ (C:List (Nat × Nat)) (n:Nat),lp C n=C[n]?
 | [],_=>rfl
 | _::_,0=>rfl
 | _::r,n + 1=>by simp [lp,lp_eq r n]
def fillL (pl:Nat→Option (Nat × Nat)):List Value→List (Nat × Value)→Option (List Value)
 | C,[]=>some C
 | C,(i,v)::r=>match pl i with
  | none=>none
  | some (off,size)=>bif Nat.beq (vc v).length size then (match putL C off (vc v) with
   | some C'=>fillL pl C' r
   | none=>none) else none
theorem foldl_put (C:List Value) (off:Nat):∀ (vs:List Value) (k:Nat),off + k + vs.length≤C.length →
  (vs.zipIdx k).foldl (fun cs (p:Value × Nat)=>cs.setIfInBounds (off + p.2) p.1) C.toArray=(C.take (off + k)++vs++C.drop (off + k + vs.length)).toArray:=by
 intro vs
 induction vs generalizing C with
 | nil=>intro k h; simp
 | cons v vs ih =>
  intro k h
  simp only [List.length_cons] at h
  simp only [List.zipIdx_cons,List.foldl_cons]
  rw [show (C.toArray.setIfInBounds (off + k) v)=(C.set (off + k) v).toArray by simp]
  rw [ih (C.set (off + k) v) (k + 1) (by simp; omega)]
  congr 1
  rw [List.take_set,List.drop_set_of_lt (by omega)]
  have hk:off + (k + 1)=off + k + 1:=by omega
  rw [hk,List.take_succ_eq_append_getElem (by omega),List.set_append_right _ _ (by simp; omega)]
  simp [show min (off + k) C.length=off + k by omega]
  omega
theorem fillL_spec {pl:Nat→Option (Nat × Nat)}:∀ {ps:List (Nat × Value)} {C C':List Value},fillL pl C ps=some C'→Instr.fill pl C.toArray ps=some C'.toArray
 | [],C,C',h=>by simp only [fillL,Option.some.injEq] at h; subst h; rfl
 | (i,v)::r,C,C',h=>by
  simp only [fillL] at h
  cases hp:pl i with
  | none=>simp [hp] at h
  | some q =>
   obtain ⟨off,size⟩:=q
   rw [hp] at h
   simp only at h
   cases hb:Nat.beq (vc v).length size with
   | false=>simp [hb] at h
   | true =>
    simp only [hb,cond_true] at h
    have hsz:(vc v).length=size:=Nat.eq_of_beq_eq_true hb
    cases hq:putL C off (vc v) with
    | none=>simp [hq] at h
    | some D =>
     rw [hq] at h
     simp only at h
     obtain ⟨h1,h2⟩:=putL_spec _ _ _ _ hq
     unfold Instr.fill
     simp only [hp,vc_eq]
     rw [if_neg (by simp; omega)]
     have:=foldl_put C off (vc v) 0 (by omega)
     simp only [Nat.add_zero] at this
     rw [show ((vc v).toArray.zipIdx.foldl (fun (cs:Array Value) (x:Value × Nat)=>cs.setIfInBounds (off + x.2) x.1) C.toArray)=(C.take off++vc v++C.drop (off + (vc v).length)).toArray from by
      rw [← this]; simp]
     rw [← h2]
     exact fillL_spec h
section
variable {P:Program} {W0 W w:World} {kn:Kn} {L L' R M:List Thing} {b o:Nat} {t:TypeId} {C C':List Value}
def BD (P:Program) (t:TypeId) (zero:List Value) (pl:Nat→Option (Nat × Nat)):Prop:=P.built t=fun ps=>Instr.fill pl zero.toArray ps
theorem EX.build {d g T ps ty pos af vs cs zero pl} (hp:evp kn ps=some vs) (hb:BD P T zero pl) (hf:fillL pl zero vs=some cs):EX P W0 kn L ⟨d,.build T ps.toArray,ty,pos,af,g⟩ (.agg cs.toArray):=fun ρ w he hs=>by
 have h1:P.built T vs=some cs.toArray:=by rw [hb]; exact fillL_spec hf
 have h2:=run_build (P:=P) w T vs.toArray cs.toArray (by simpa using h1)
 have h3:=evp_spec he hp
 have h4:(ps.toArray.map fun (i,x)=>(i,ρ x))=vs.toArray:=by rw [← h3]; simp
 simp only [execOp,h4,Sem.run_bind,h2,Result.andThen_ok]; rfl
def BS (P:Program) (t e:TypeId) (size:Nat) (zero:List Value):Prop :=
 P.underlying t=some (.slice e)∧(P.info? e).map (fun i=>(i.size,i.zero.map (·.cells)))=some (size,some zero.toArray)∧zero.length=size∧0 < size
def zeros (zero:List Value):Nat→List Value
 | 0=>[]
 | n + 1=>zero++zeros zero n
theorem zeros_len (zero:List Value):∀ n,(zeros zero n).length=n * zero.length
 | 0=>by simp [zeros]
 | n + 1=>by simp only [zeros,List.length_append,zeros_len zero n]; rw [Nat.add_mul]; omega
theorem zeros_get (zero:List Value) (hz:0 < zero.length):∀ (n i:Nat),i < n * zero.length→(zeros zero n)[i]?=zero[i % zero.length]?
 | 0,i,h=>by omega
 | n + 1,i,h=>by
  simp only [zeros]
  rcases Nat.lt_or_ge i zero.length with hi | hi
  ·rw [List.getElem?_append_left hi,Nat.mod_eq_of_lt hi]
  ·rw [List.getElem?_append_right hi,zeros_get zero hz n (i - zero.length) (by rw [Nat.add_mul] at h; omega)]
   congr 1
   rw [Nat.mod_eq_sub_mod hi]
theorem zeros_arr (zero:List Value) (hz:0 < zero.length) (n:Nat):((Array.range (n * zero.length)).map fun i=>(zero.toArray[i % zero.toArray.size]!))=(zeros zero n).toArray:=by
 apply Array.ext_getElem?
 intro i
 rcases Nat.lt_or_ge i (n * zero.length) with h | h
 ·have hm:i % zero.length < zero.length:=Nat.mod_lt _ hz
  simp only [Array.getElem?_map,Array.getElem?_range,h,if_true,Option.map_some,List.size_toArray,List.getElem?_toArray,zeros_get zero hz n i h]
  rw [show zero.toArray[i % zero.length]! = zero[i % zero.length] from by rw [getElem!_pos zero.toArray (i % zero.length) (by simpa using hm)]; simp,List.getElem?_eq_getElem hm]
 ·rw [Array.getElem?_eq_none (by simp; omega),Array.getElem?_eq_none (by simp [zeros_len]; omega)]
theorem EF.buildSlice {d g T n ps ty pos af vs cs e size zero} (hp : evp kn ps = some vs) (hb : BS P T e size zero) (hn : Nat.ble (n * size) 1000 = true) (hn0 : Nat.blt 0 n = true) (hf : fillL (fun i => some (i * size, size)) (zeros zero n) vs = some cs) :
    EF P W0 kn L ⟨d, .buildSlice T n ps.toArray, ty, pos, af, g⟩ (fun b : Nat => .slice (some ⟨b, 0, none⟩) n n) (fun b => Bk b e cs :: L) (fun _ => True) := fun ρ w he hs => by
  obtain ⟨hu, hi, hl, h0⟩ := hb
  have hn' : n * size ≤ 1000 := Nat.le_of_ble_eq_true hn
  have hn1 : 0 < n := by simp [Nat.blt] at hn0; omega
  have hns : n * size ≠ 0 := by have := Nat.mul_pos hn1 h0; omega
  obtain ⟨inf, hinf, hs1, hz1⟩ : ∃ inf, P.info? e = some inf ∧ inf.size = size ∧ inf.zero.map (·.cells) = some zero.toArray := by
    cases h : P.info? e with
    | none => simp [h] at hi
    | some i => rw [h] at hi; simp at hi; exact ⟨i, rfl, hi.1, by simpa using hi.2⟩
  obtain ⟨z, hz, hzc⟩ : ∃ z, inf.zero = some z ∧ z.cells = zero.toArray := by
    cases h : inf.zero with
    | none => simp [h] at hz1
    | some z => rw [h] at hz1; exact ⟨z, rfl, by simpa using hz1⟩
  refine ⟨w.heap.size, w.alloc (.cells cs.toArray e), trivial, ?_, hs.newBk e cs⟩
  have h3 := evp_spec he hp
  have h4 : (ps.toArray.map fun (i, x) => (i, ρ x)) = vs.toArray := by rw [← h3]; simp
  have h5 := fillL_spec hf
  have h6 := zeros_arr zero (by omega) n
  rw [hl] at h6
  subst hs1
  have hlim : ¬ n * inf.size > 2 ^ 24 := by have : (1000 : Nat) ≤ 2 ^ 24 := by decide
                                            omega
  simp only [execOp, h4, Sem.run_bind, Instr.buildSlice, underlying, run_program, hu, Result.andThen_ok, Sem.run_pure, sizeOf, typeInfo, hinf, hlim, if_false, hns, zeroValue, hz, hzc, h6, h5, newRow, run_newObj]
  rfl
def AL (P:Program) (t:TypeId) (zs:List Value):Prop:=(P.info? t).map (fun i=>i.zero.map (·.cells))=some (some zs.toArray)
theorem EF.alloc {d g T ty pos af zs} (ha:AL P T zs):EF P W0 kn L ⟨d,.alloc T,ty,pos,af,g⟩ (fun b:Nat=>.pointer (some ⟨b,0,none⟩)) (fun b=>Bk b T zs::L) (fun _=>True):=fun ρ w he hs=>by
 obtain ⟨inf,hinf,z,hz,hzc⟩:∃ inf,P.info? T=some inf∧∃ z,inf.zero=some z∧z.cells=zs.toArray:=by
  unfold AL at ha
  cases h:P.info? T with
  | none=>simp [h] at ha
  | some i =>
   rw [h] at ha; simp only [Option.map_some,Option.some.injEq] at ha
   cases h2:i.zero with
   | none=>simp [h2] at ha
   | some z=>rw [h2] at ha; exact ⟨i,rfl,z,h2,by simpa using ha⟩
 refine ⟨w.heap.size,w.alloc (.cells zs.toArray T),trivial,?_,hs.newBk T zs⟩
 simp only [execOp,Sem.run_bind,Instr.alloc,zeroValue,typeInfo,run_program,hinf,hz,Result.andThen_ok,Sem.run_pure,newVar,newRow,hzc,run_newObj]
 rfl
theorem EF.box {d g T x ty pos af v} (hx:ev kn x=some v):EF P W0 kn L ⟨d,.box T x,ty,pos,af,g⟩ (fun b:Nat=>.pointer (some ⟨b,0,none⟩)) (fun b=>Bk b T (vc v)::L) (fun _=>True):=fun ρ w he hs=>by
 refine ⟨w.heap.size,w.alloc (.cells (vc v).toArray T),trivial,?_,hs.newBk T (vc v)⟩
 simp only [execOp,he x v hx,Sem.run_bind,Instr.box,newVar,newRow,vc_eq,run_newObj,Result.andThen_ok,Sem.run_pure]
 rfl
theorem EF.boxA {d g T x ty pos af cs} (hx:ev kn x=some (.agg cs)):EF P W0 kn L ⟨d,.box T x,ty,pos,af,g⟩ (fun b:Nat=>.pointer (some ⟨b,0,none⟩)) (fun b=>Bk b T cs.toList::L) (fun _=>True):=EF.box hx
def SZ (P:Program) (t:TypeId) (n:Nat):Prop:=(P.info? t).map (·.size)=some n
theorem Sts.setRow {C'':List Value} (h:Sts W0 W (Bk b t C::L)):Sts W0 (W.setRow b C''.toArray) (Bk b t C''::L):=by
 unfold Bk at *
 refine h.turn (A:=fun x=>x=b) ⟨rfl,rfl,rfl⟩ (by simp) (fun F hF=>⟨⟨setRow_heap W b _ _ t _ hF.1,fun x=>Iff.rfl⟩,fun x hx=>.inl ((hF.2 x).2 hx),fun x hx hn=>?_⟩)
 exact setRow_other W b x _ (fun e=>hn ((hF.2 x).2 e))
theorem EU.store {d g T x y ty pos af v n} (hx:ev kn x=some (.pointer (some ⟨b,o,none⟩))) (hy:ev kn y=some v) (hs1:SZ P T n) (hn:Nat.beq (vc v).length n=true) (ho:ones (vc v)=true) (hC:putL C o (vc v)=some C')
  (p:Swap L (Bk b t C) (Bk b t C') L'):EU P W0 kn L ⟨d,.store T x y,ty,pos,af,g⟩ L':=fun ρ w he hs=>by
 obtain ⟨R,p1,p2⟩:=p.perm
 have hs2:=hs.perm p1
 have hat:=hs2.bk .here
 obtain ⟨h1,h2⟩:=putL_spec _ _ _ _ hC
 have hl:(vc v).length=n:=Nat.eq_of_beq_eq_true hn
 obtain ⟨inf,hinf,hsz⟩:∃ inf,P.info? T=some inf∧inf.size=n:=by
  unfold SZ at hs1
  cases h:P.info? T with
  | none=>simp [h] at hs1
  | some i=>rw [h] at hs1; exact ⟨i,rfl,by simpa using hs1⟩
 refine ⟨w.setRow b C'.toArray,?_,(hs2.setRow (C'':=C')).perm p2⟩
 have h3:=run_storeCells_at (P:=P) b o t (vc v) 0 C.toArray w hat (by simpa using h1) (ones_spec ho)
 simp only [Nat.add_zero] at h3
 rw [← h2] at h3
 have hne:¬ (vc v).toArray.size≠inf.size:=by simp [hsz,hl]
 simp only [execOp,he x _ hx,he y _ hy,Sem.run_bind,Instr.storeAt,Instr.sureAddr,Sem.run_pure,Result.andThen_ok,storeVar,vc_eq,sizeOf,typeInfo,run_program,hinf,hne,if_false,h3]
theorem bytes_beq (a b:ByteArray):(a.toList == b.toList)=decide (a=b):=by
 rw [ByteArray.toList_eq,ByteArray.toList_eq]
 by_cases e:a=b
 ·subst e; simp
 ·rw [decide_eq_false e]
  apply beq_eq_false_iff_ne.2
  intro h
  apply e
  cases a; cases b; simp at h; simp [h]
theorem EX.eqlS {d g T ty' x y ty ps af m n} (hx:ev kn x=some (.string m)) (hy:ev kn y=some (.string n)):EX P W0 kn L ⟨d,.binOp .eql T x y ty',ty,ps,af,g⟩ (.bool (decide (m=n))):=fun ρ w he hs=>by
 simp only [execOp,he x _ hx,he y _ hy,eqGuard,binOp,Op.stringOp,bytes_beq,Sem.run_bind,Sem.run_pure,Result.andThen_ok]; rfl
theorem EX.neqS {d g T ty' x y ty ps af m n} (hx:ev kn x=some (.string m)) (hy:ev kn y=some (.string n)):EX P W0 kn L ⟨d,.binOp .neq T x y ty',ty,ps,af,g⟩ (.bool (decide (m≠n))):=fun ρ w he hs=>by
 simp only [execOp,he x _ hx,he y _ hy,eqGuard,binOp,Op.stringOp,bytes_beq,Sem.run_bind,Sem.run_pure,Result.andThen_ok]
 by_cases e:m=n <;> simp [e]
theorem EX.addS {d g T ty' x y ty ps af m n} (hx:ev kn x=some (.string m)) (hy:ev kn y=some (.string n)) (h:m.size + n.size≤9223372036854775807):EX P W0 kn L ⟨d,.binOp .add T x y ty',ty,ps,af,g⟩ (.string (m++n)):=fun ρ w he hs=>by
 have h':¬ (((m.size + n.size:Nat):Int) > IntKind.i64.max):=by
  have:IntKind.i64.max=9223372036854775807:=by decide
  rw [this]; omega
 simp only [execOp,he x _ hx,he y _ hy,eqGuard,binOp,Op.stringOp,Sem.run_bind,Sem.run_pure,Result.andThen_ok,if_neg h',Sem.run_ite]
 simp
theorem EX.lenS {d g ty ps af T x s} (hx:ev kn x=some (.string s)) (hT:P.underlying T=some .string):EX P W0 kn L ⟨d,.call { callee:=.builtin .len,args:=#[x],argTypes:=#[T] },ty,ps,af,g⟩ (.int .i64 s.size):=fun ρ w he hs=>by
 simp [execOp,resolve,invoke,builtin,Builtin.len_,underlying,hT,he x _ hx,goInt]
theorem EX.lenL {d g ty ps af T e x a n c} (hx:ev kn x=some (.slice a n c)) (hT:P.underlying T=some (.slice e)):EX P W0 kn L ⟨d,.call { callee:=.builtin .len,args:=#[x],argTypes:=#[T] },ty,ps,af,g⟩ (.int .i64 n):=fun ρ w he hs=>by
 simp [execOp,resolve,invoke,builtin,Builtin.len_,underlying,hT,he x _ hx,goInt]
theorem EX.conv {d g ty ps af T T' x k j n r td} (hx:ev kn x=some (.int k n)) (hT:P.underlying T=some td) (hT':P.underlying T'=some (.int j)) (hr:j.wrap n=r):EX P W0 kn L ⟨d,.convert T T' x,ty,ps,af,g⟩ (.int j r):=fun ρ w he hs=>by
 subst hr
 simp only [execOp,Sem.run_bind,he x _ hx]
 have:(convert T T' (.int k n)).run P w=.ok (.int j (j.wrap n)) w:=by
  simp [convert,underlying,hT,hT',Conv.intToInt]
 rw [this]; rfl
theorem EX.makeFunc {d g ty ps af fn fs cs us vs} (h1:evs kn fs=some us) (h2:evs kn cs=some vs):EX P W0 kn L ⟨d,.makeFunc fn fs.toArray cs.toArray,ty,ps,af,g⟩ (.func fn us.toArray vs.toArray):=fun ρ w he hs=>by
 have e1:fs.toArray.map ρ=us.toArray:=by rw [← evs_spec he h1]; simp
 have e2:cs.toArray.map ρ=vs.toArray:=by rw [← evs_spec he h2]; simp
 simp only [execOp,e1,e2,Sem.run_bind,Instr.makeFunc,Sem.run_pure,Result.andThen_ok]
def Enters (P:Program) (f:FuncId):Prop:=∀ args w,(callFunc f args).run P w=.ok (.enter f args) w
theorem Enters.of {f : FuncId} {fn : Func} (hf : P.funcs[f]? = some fn) (hn : (fn.name == "runtime.NumGoroutine") = false) (hb : fn.body.isNone = false) : Enters P f := by
 intro args w
 simp only [callFunc,Sem.run_bind,run_program,Result.andThen_ok,hf,hn,hb,Bool.false_eq_true,if_false,Sem.run_pure]
theorem EC.direct {d g ty ps af f xs vs tys} (h:Enters P f) (hx:evs kn xs=some vs):EC P kn ⟨d,.call { callee:=.value (.func f),args:=xs.toArray,argTypes:=tys },ty,ps,af,g⟩ f vs:=fun ρ w he=>by
 have e1:xs.toArray.map ρ=vs.toArray:=by rw [← evs_spec he hx]; simp
 have e0:ρ (.func f)=.func (.func f) #[] #[]:=he _ _ rfl
 simp only [execOp,resolve,e0,e1,Deferred.ofValue,Sem.run_bind,Sem.run_pure,Result.andThen_ok,invoke,Array.empty_append,Array.append_empty,h vs.toArray w]
theorem EC.closure {d g ty ps af f t xs vs us cs tys} (ht:lk kn t=some (.func (.func f) us cs)) (h:Enters P f) (hx:evs kn xs=some vs):EC P kn ⟨d,.call { callee:=.value (.tmp t),args:=xs.toArray,argTypes:=tys },ty,ps,af,g⟩ f (us.toList++vs++cs.toList):=fun ρ w he=>by
 have e1:xs.toArray.map ρ=vs.toArray:=by rw [← evs_spec he hx]; simp
 have e0:ρ (.tmp t)=.func (.func f) us cs:=he _ _ ht
 have e2:us++vs.toArray++cs=(us.toList++vs++cs.toList).toArray:=by cases us; cases cs; simp
 simp only [execOp,resolve,e0,e1,Deferred.ofValue,Sem.run_bind,Sem.run_pure,Result.andThen_ok,invoke,e2,h _ w]
end
section
variable {P:Program} {W0:World} {N:Nat} {kn:Kn} {L M:List Thing}
def argKn:Nat→List Value→Kn
 | _,[]=>[]
 | i,v::r=>(i,v)::argKn (i + 1) r
theorem lk_argKn:∀ (args:List Value) (i d:Nat) (v:Value),lk (argKn i args) d=some v→∃ j,d=i + j∧args[j]?=some v
 | [],i,d,v,h=>by simp [argKn,lk] at h
 | u::r,i,d,v,h=>by
  simp only [argKn,lk] at h
  cases hb:Nat.beq i d with
  | true =>
   rw [hb] at h; simp only [cond_true,Option.some.injEq] at h; subst h
   exact ⟨0,by have:=Nat.eq_of_beq_eq_true hb; omega,rfl⟩
  | false =>
   rw [hb] at h
   obtain ⟨j,h1,h2⟩:=lk_argKn r (i + 1) d v h
   exact ⟨j + 1,by omega,by simpa using h2⟩
theorem has_enter (args:List Value) {n:Nat} (hN:args.length≤n):Has n [] (argKn 0 args) { tmps:=args.toArray++Array.replicate (n - args.toArray.size) undef,defers:=[] }:=by
 refine ⟨by simp; omega,rfl,fun d v hd=>?_⟩
 obtain ⟨j,h1,h2⟩:=lk_argKn args 0 d v hd
 have hj:j < args.length:=by
  rcases Nat.lt_or_ge j args.length with h | h
  ·exact h
  ·rw [List.getElem?_eq_none h] at h2; cases h2
 rw [show d=j by omega,Array.getElem?_append_left (by simpa using hj)]
 simpa using h2
theorem Fn.enter {f:FuncId} {fn:Func} {c:Code} {args:List Value} {post:Ending→(List Thing→Prop)→Prop} (hf:P.funcs[f]?=some fn) (hb:fn.body=some c) (hn:fn.ntmps=N) (hN:Nat.ble args.length N=true)
  (h:∀ W0 R,GC P W0 N [] c (bodyPost P fn (fun e w'=>post e (fun T=>Sts W0 w' (T++R)))) (argKn 0 args) (M++R)):Fn P f args.toArray M post:=by
 intro W0 W R hs
 refine calls_of_wp hf hb ?_
 subst hn
 exact h W0 R _ _ (has_enter args (Nat.le_of_ble_eq_true hN)) hs
theorem run_results1 {fn:Func} {t:Nat} (h:fn.results=#[.tmp t]) {tmps:Array Value} {v:Value} (hv:tmps[t]?=some v) (w:World):(results fn tmps).run P w=.ok v w:=by
 simp [results,h,Array.getD_eq_getD_getElem?,hv]
theorem GE.out {fn:Func} {Rr:Ending→World→Prop} {t:Nat} {v:Value} (hr:fn.results=#[.tmp t]) (hv:lk kn t=some v) (h:∀ w,Sts W0 w L→Rr (.returned v) w):GE W0 N [] .ret (bodyPost P fn Rr) kn L :=
 fun a w ha hs=>⟨ha.defers,v,run_results1 hr (ha.slot hv) w,h w hs⟩
theorem GE.out0n {fn:Func} {Rr:Ending→World→Prop} (hr:fn.results=#[]) (h:∀ w,Sts W0 w L→Rr (.returned (.tuple #[])) w):GE W0 N [] .normal (bodyPost P fn Rr) kn L :=
 fun a w ha hs=>⟨ha.defers,.tuple #[],by simp [results,hr],h w hs⟩
def tmpsOf:List ResultVar→Option (List Nat)
 | []=>some []
 | .tmp t::r=>match tmpsOf r with
  | some l=>some (t::l)
  | none=>none
 | _=>none
def lks (kn:Kn):List Nat→Option (List Value)
 | []=>some []
 | t::r=>match lk kn t,lks kn r with
  | some v,some vs=>some (v::vs)
  | _,_=>none
def rdR (tmps:Array Value):ResultVar→Sem Value
 | .tmp t=>pure (tmps.getD t undef)
 | .cell p t=>do loadVar t (← asAddr (tmps.getD p undef))
theorem results_eq (fn:Func) (tmps:Array Value):results fn tmps=(do let vs ← fn.results.mapM (rdR tmps); pure (if h:vs.size=1 then vs[0] else .tuple vs)):=by
 unfold results
 congr 1
theorem run_rdR {a:Act} {ds:List Deferred} (ha:Has N ds kn a) (w:World):∀ (l:List ResultVar) (ts:List Nat) (vs:List Value),tmpsOf l=some ts→lks kn ts=some vs→(l.mapM (rdR a.tmps)).run P w=.ok vs w
 | [],ts,vs,h1,h2=>by simp [tmpsOf] at h1; subst h1; simp [lks] at h2; subst h2; rfl
 | .cell p t::l,ts,vs,h1,h2=>by simp [tmpsOf] at h1
 | .tmp t::l,ts,vs,h1,h2=>by
  simp only [tmpsOf] at h1
  cases h3:tmpsOf l with
  | none=>simp [h3] at h1
  | some us =>
   simp only [h3,Option.some.injEq] at h1; subst h1
   simp only [lks] at h2
   cases h4:lk kn t with
   | none=>simp [h4] at h2
   | some v =>
    cases h5:lks kn us with
    | none=>simp [h4,h5] at h2
    | some ws =>
     simp only [h4,h5,Option.some.injEq] at h2; subst h2
     have h6:=run_rdR ha w l us ws h3 h5
     simp only [List.mapM_cons,rdR,Sem.run_bind,Sem.run_pure,Result.andThen_ok,h6,Array.getD_eq_getD_getElem?,ha.slot h4,Option.getD_some]
theorem run_resultsN {fn:Func} {ts:List Nat} {vs:List Value} (h:tmpsOf fn.results.toList=some ts) {a:Act} {ds:List Deferred} (ha:Has N ds kn a) (hv:lks kn ts=some vs) (h1:vs.length≠1) (w:World):(results fn a.tmps).run P w=.ok (.tuple vs.toArray) w:=by
 have h7:=run_rdR (P:=P) ha w fn.results.toList ts vs h hv
 have h9:¬ vs.toArray.size=1:=by simpa using h1
 rw [results_eq,Sem.run_bind,Array.mapM_eq_mapM_toList,Sem.run_map,h7]
 simp only [Result.andThen_ok,dif_neg h9,Sem.run_pure]
theorem GE.outs {fn:Func} {Rr:Ending→World→Prop} {ts:List Nat} {vs:List Value} (hr:tmpsOf fn.results.toList=some ts) (hv:lks kn ts=some vs) (h1:Nat.beq vs.length 1=false) (h:∀ w,Sts W0 w L→Rr (.returned (.tuple vs.toArray)) w):GE W0 N [] .ret (bodyPost P fn Rr) kn L :=
 fun a w ha hs=>⟨ha.defers,.tuple vs.toArray,run_resultsN hr ha hv (fun e=>by rw [e] at h1; simp at h1) w,h w hs⟩
end
end
section
open Go.RowKit
set_option maxRecDepth 100000
theorem One.of {P:Program} {t:TypeId} {d:TypeDesc} (hu:P.underlying t=some d) (hd:(match d with | .struct _ | .array _ _=>true | _=>false)=false):One P t:=by
 intro w
 unfold isAgg underlying
 simp only [Sem.run_bind,run_program,Result.andThen_ok,hu,Sem.run_pure]
 cases d <;> first | rfl | (simp at hd; done)
theorem Many.of {P:Program} {t:TypeId} {d:TypeDesc} {n:Nat} (hu:P.underlying t=some d) (hd:(match d with | .struct _ | .array _ _=>true | _=>false)=true) (hs:(P.info? t).map (·.size)=some n):Many P t n:=by
 intro w
 refine ⟨?_,?_⟩
 ·unfold isAgg underlying
  simp only [Sem.run_bind,run_program,Result.andThen_ok,hu,Sem.run_pure]
  cases d <;> first | rfl | (simp at hd; done)
 ·cases h:P.info? t with
  | none=>simp [h] at hs
  | some i=>rw [h] at hs; simp at hs; simp [sizeOf,typeInfo,h,hs]
def SLt (P:Program) (T e size:Nat):Prop:=P.underlying T=some (.slice e)∧(P.info? e).map (·.size)=some size
def ARt (P:Program) (T n size:Nat):Prop:=∃ e,P.underlying T=some (.array n e)∧(P.info? e).map (·.size)=some size
theorem one3:One Tryz.prog 3:=One.of Tryz.underlying3 rfl
theorem one9:One Tryz.prog 9:=One.of Tryz.underlying9 rfl
theorem one30:One Tryz.prog 30:=One.of Tryz.underlying30 rfl
theorem one40:One Tryz.prog 40:=One.of Tryz.underlying40 rfl
theorem one106:One Tryz.prog 106:=One.of Tryz.underlying106 rfl
theorem one107:One Tryz.prog 107:=One.of Tryz.underlying107 rfl
theorem many94:Many Tryz.prog 94 6:=Many.of Tryz.underlying94 rfl (by kernel_rfl)
theorem fa94_0:FA Tryz.prog 94 0 0:=FA.of (n:=0) (ft:=3) Tryz.underlying94 rfl (by kernel_rfl)
theorem fa94_1:FA Tryz.prog 94 1 1:=FA.of (n:=0) (ft:=9) Tryz.underlying94 rfl (by kernel_rfl)
theorem fa94_2:FA Tryz.prog 94 2 2:=FA.of (n:=0) (ft:=30) Tryz.underlying94 rfl (by kernel_rfl)
theorem fa94_3:FA Tryz.prog 94 3 3:=FA.of (n:=0) (ft:=3) Tryz.underlying94 rfl (by kernel_rfl)
theorem fa94_4:FA Tryz.prog 94 4 4:=FA.of (n:=0) (ft:=3) Tryz.underlying94 rfl (by kernel_rfl)
theorem fa94_5:FA Tryz.prog 94 5 5:=FA.of (n:=0) (ft:=3) Tryz.underlying94 rfl (by kernel_rfl)
theorem fa109_0:FA Tryz.prog 109 0 0:=FA.of (n:=0) (ft:=106) Tryz.underlying109 rfl (by kernel_rfl)
theorem fa109_1:FA Tryz.prog 109 1 1:=FA.of (n:=0) (ft:=40) Tryz.underlying109 rfl (by kernel_rfl)
theorem fa109_2:FA Tryz.prog 109 2 2:=FA.of (n:=0) (ft:=107) Tryz.underlying109 rfl (by kernel_rfl)
theorem fa109_3:FA Tryz.prog 109 3 3:=FA.of (n:=0) (ft:=3) Tryz.underlying109 rfl (by kernel_rfl)
theorem sz3:SZ Tryz.prog 3 1:=by unfold SZ; kernel_rfl
theorem sz9:SZ Tryz.prog 9 1:=by unfold SZ; kernel_rfl
theorem sz30:SZ Tryz.prog 30 1:=by unfold SZ; kernel_rfl
theorem sz40:SZ Tryz.prog 40 1:=by unfold SZ; kernel_rfl
theorem sz94:SZ Tryz.prog 94 6:=by unfold SZ; kernel_rfl
theorem sz106:SZ Tryz.prog 106 1:=by unfold SZ; kernel_rfl
theorem al94:AL Tryz.prog 94 [.int .i64 0,.string ⟨#[]⟩,.int .u64 0,.int .i64 0,.int .i64 0,.int .i64 0]:=by unfold AL; kernel_rfl
theorem bd94:BD Tryz.prog 94 [.int .i64 0,.string ⟨#[]⟩,.int .u64 0,.int .i64 0,.int .i64 0,.int .i64 0] (lp [(0,1),(1,1),(2,1),(3,1),(4,1),(5,1)]):=by
 have h:Tryz.prog.built 94=fun ps=>Instr.fill (fun i=>(#[(0,1),(1,1),(2,1),(3,1),(4,1),(5,1)]:Array (Nat × Nat))[i]?) #[.int .i64 0,.string ⟨#[]⟩,.int .u64 0,.int .i64 0,.int .i64 0,.int .i64 0] ps:=by kernel_rfl
 unfold BD; rw [h]; funext ps; congr 1; funext i; rw [lp_eq]; simp
theorem bd306:BD Tryz.prog 306 [.pointer none,.pointer none,.pointer none] (fun i=>some (i * 1,1)):=by unfold BD; kernel_rfl
theorem bd335:BD Tryz.prog 335 [.slice none 0 0,.slice none 0 0,.slice none 0 0,.slice none 0 0,.map none,.bool false,.bool false] (lp [(0,1),(1,1),(2,1),(3,1),(4,1),(5,2)]):=by
 have h:Tryz.prog.built 335=fun ps=>Instr.fill (fun i=>(#[(0,1),(1,1),(2,1),(3,1),(4,1),(5,2)]:Array (Nat × Nat))[i]?) #[.slice none 0 0,.slice none 0 0,.slice none 0 0,.slice none 0 0,.map none,.bool false,.bool false] ps:=by kernel_rfl
 unfold BD; rw [h]; funext ps; congr 1; funext i; rw [lp_eq]; simp
theorem bs40:BS Tryz.prog 40 3 1 [.int .i64 0]:=⟨Tryz.underlying40,by kernel_rfl,rfl,by decide⟩
theorem bs106:BS Tryz.prog 106 94 6 [.int .i64 0,.string ⟨#[]⟩,.int .u64 0,.int .i64 0,.int .i64 0,.int .i64 0]:=⟨Tryz.underlying106,by kernel_rfl,rfl,by decide⟩
theorem bs182:BS Tryz.prog 182 188 5 [.int .u64 0,.int .u64 0,.pointer none,.pointer none,.pointer none]:=⟨Tryz.underlying182,by kernel_rfl,rfl,by decide⟩
theorem sl40:SLt Tryz.prog 40 3 1:=⟨Tryz.underlying40,by kernel_rfl⟩
theorem sl106:SLt Tryz.prog 106 94 6:=⟨Tryz.underlying106,by kernel_rfl⟩
theorem ap40:Tryz.prog.underlying 40=some (.slice 3)∧(Tryz.prog.info? 3).map (fun i=>(i.zero,i.size,i.bytes))=some (some (.int .i64 0),1,8):=⟨Tryz.underlying40,by kernel_rfl⟩
theorem ap106:Tryz.prog.underlying 106=some (.slice 94)∧(Tryz.prog.info? 94).map (fun i=>(i.zero,i.size,i.bytes))=some (some (.agg #[.int .i64 0,.string ⟨#[]⟩,.int .u64 0,.int .i64 0,.int .i64 0,.int .i64 0]),6,56):=⟨Tryz.underlying106,by kernel_rfl⟩
theorem ap172:Tryz.prog.underlying 172=some (.slice 96)∧(Tryz.prog.info? 96).map (fun i=>(i.zero,i.size,i.bytes))=some (some (.agg #[.int .u64 0,.int .i64 0,.int .i64 0,.string ⟨#[]⟩]),4,40):=⟨Tryz.underlying172,by kernel_rfl⟩
theorem zv3:(Tryz.prog.info? 3).map (·.zero)=some (some (.int .i64 0)):=by kernel_rfl
theorem zv182:(Tryz.prog.info? 182).map (·.zero)=some (some (.slice none 0 0)):=by kernel_rfl
theorem en3:Enters Tryz.prog 3:=Enters.of Tryz.func3 (by kernel_rfl) rfl
theorem en5:Enters Tryz.prog 5:=Enters.of Tryz.func5 (by kernel_rfl) rfl
theorem en6:Enters Tryz.prog 6:=Enters.of Tryz.func6 (by kernel_rfl) rfl
theorem en7:Enters Tryz.prog 7:=Enters.of Tryz.func7 (by kernel_rfl) rfl
theorem en8:Enters Tryz.prog 8:=Enters.of Tryz.func8 (by kernel_rfl) rfl
theorem en9:Enters Tryz.prog 9:=Enters.of Tryz.func9 (by kernel_rfl) rfl
theorem en10:Enters Tryz.prog 10:=Enters.of Tryz.func10 (by kernel_rfl) rfl
theorem en11:Enters Tryz.prog 11:=Enters.of Tryz.func11 (by kernel_rfl) rfl
theorem en12:Enters Tryz.prog 12:=Enters.of Tryz.func12 (by kernel_rfl) rfl
theorem en13:Enters Tryz.prog 13:=Enters.of Tryz.func13 (by kernel_rfl) rfl
theorem en16:Enters Tryz.prog 16:=Enters.of Tryz.func16 (by kernel_rfl) rfl
theorem en17:Enters Tryz.prog 17:=Enters.of Tryz.func17 (by kernel_rfl) rfl
theorem en18:Enters Tryz.prog 18:=Enters.of Tryz.func18 (by kernel_rfl) rfl
theorem en19:Enters Tryz.prog 19:=Enters.of Tryz.func19 (by kernel_rfl) rfl
theorem en20:Enters Tryz.prog 20:=Enters.of Tryz.func20 (by kernel_rfl) rfl
theorem en21:Enters Tryz.prog 21:=Enters.of Tryz.func21 (by kernel_rfl) rfl
theorem en22:Enters Tryz.prog 22:=Enters.of Tryz.func22 (by kernel_rfl) rfl
theorem en23:Enters Tryz.prog 23:=Enters.of Tryz.func23 (by kernel_rfl) rfl
theorem en24:Enters Tryz.prog 24:=Enters.of Tryz.func24 (by kernel_rfl) rfl
theorem en25:Enters Tryz.prog 25:=Enters.of Tryz.func25 (by kernel_rfl) rfl
theorem en26:Enters Tryz.prog 26:=Enters.of Tryz.func26 (by kernel_rfl) rfl
theorem en27:Enters Tryz.prog 27:=Enters.of Tryz.func27 (by kernel_rfl) rfl
theorem en28:Enters Tryz.prog 28:=Enters.of Tryz.func28 (by kernel_rfl) rfl
theorem en29:Enters Tryz.prog 29:=Enters.of Tryz.func29 (by kernel_rfl) rfl
theorem en30:Enters Tryz.prog 30:=Enters.of Tryz.func30 (by kernel_rfl) rfl
theorem en31:Enters Tryz.prog 31:=Enters.of Tryz.func31 (by kernel_rfl) rfl
theorem en32:Enters Tryz.prog 32:=Enters.of Tryz.func32 (by kernel_rfl) rfl
theorem en33:Enters Tryz.prog 33:=Enters.of Tryz.func33 (by kernel_rfl) rfl
theorem en34:Enters Tryz.prog 34:=Enters.of Tryz.func34 (by kernel_rfl) rfl
theorem en35:Enters Tryz.prog 35:=Enters.of Tryz.func35 (by kernel_rfl) rfl
theorem en36:Enters Tryz.prog 36:=Enters.of Tryz.func36 (by kernel_rfl) rfl
theorem en37:Enters Tryz.prog 37:=Enters.of Tryz.func37 (by kernel_rfl) rfl
theorem en39:Enters Tryz.prog 39:=Enters.of Tryz.func39 (by kernel_rfl) rfl
theorem en40:Enters Tryz.prog 40:=Enters.of Tryz.func40 (by kernel_rfl) rfl
theorem en41:Enters Tryz.prog 41:=Enters.of Tryz.func41 (by kernel_rfl) rfl
theorem en42:Enters Tryz.prog 42:=Enters.of Tryz.func42 (by kernel_rfl) rfl
theorem en43:Enters Tryz.prog 43:=Enters.of Tryz.func43 (by kernel_rfl) rfl
theorem en44:Enters Tryz.prog 44:=Enters.of Tryz.func44 (by kernel_rfl) rfl
theorem en45:Enters Tryz.prog 45:=Enters.of Tryz.func45 (by kernel_rfl) rfl
theorem en46:Enters Tryz.prog 46:=Enters.of Tryz.func46 (by kernel_rfl) rfl
theorem en47:Enters Tryz.prog 47:=Enters.of Tryz.func47 (by kernel_rfl) rfl
theorem en48:Enters Tryz.prog 48:=Enters.of Tryz.func48 (by kernel_rfl) rfl
theorem en49:Enters Tryz.prog 49:=Enters.of Tryz.func49 (by kernel_rfl) rfl
theorem en50:Enters Tryz.prog 50:=Enters.of Tryz.func50 (by kernel_rfl) rfl
theorem en51:Enters Tryz.prog 51:=Enters.of Tryz.func51 (by kernel_rfl) rfl
theorem en52:Enters Tryz.prog 52:=Enters.of Tryz.func52 (by kernel_rfl) rfl
theorem en53:Enters Tryz.prog 53:=Enters.of Tryz.func53 (by kernel_rfl) rfl
theorem en54:Enters Tryz.prog 54:=Enters.of Tryz.func54 (by kernel_rfl) rfl
theorem en55:Enters Tryz.prog 55:=Enters.of Tryz.func55 (by kernel_rfl) rfl
theorem en56:Enters Tryz.prog 56:=Enters.of Tryz.func56 (by kernel_rfl) rfl
theorem en57:Enters Tryz.prog 57:=Enters.of Tryz.func57 (by kernel_rfl) rfl
theorem en58:Enters Tryz.prog 58:=Enters.of Tryz.func58 (by kernel_rfl) rfl
theorem en59:Enters Tryz.prog 59:=Enters.of Tryz.func59 (by kernel_rfl) rfl
theorem en60:Enters Tryz.prog 60:=Enters.of Tryz.func60 (by kernel_rfl) rfl
theorem en61:Enters Tryz.prog 61:=Enters.of Tryz.func61 (by kernel_rfl) rfl
theorem en62:Enters Tryz.prog 62:=Enters.of Tryz.func62 (by kernel_rfl) rfl
theorem en63:Enters Tryz.prog 63:=Enters.of Tryz.func63 (by kernel_rfl) rfl
theorem en64:Enters Tryz.prog 64:=Enters.of Tryz.func64 (by kernel_rfl) rfl
theorem en65:Enters Tryz.prog 65:=Enters.of Tryz.func65 (by kernel_rfl) rfl
theorem en66:Enters Tryz.prog 66:=Enters.of Tryz.func66 (by kernel_rfl) rfl
theorem en67:Enters Tryz.prog 67:=Enters.of Tryz.func67 (by kernel_rfl) rfl
theorem en68:Enters Tryz.prog 68:=Enters.of Tryz.func68 (by kernel_rfl) rfl
theorem en69:Enters Tryz.prog 69:=Enters.of Tryz.func69 (by kernel_rfl) rfl
theorem en70:Enters Tryz.prog 70:=Enters.of Tryz.func70 (by kernel_rfl) rfl
theorem en71:Enters Tryz.prog 71:=Enters.of Tryz.func71 (by kernel_rfl) rfl
theorem en72:Enters Tryz.prog 72:=Enters.of Tryz.func72 (by kernel_rfl) rfl
theorem en73:Enters Tryz.prog 73:=Enters.of Tryz.func73 (by kernel_rfl) rfl
theorem en74:Enters Tryz.prog 74:=Enters.of Tryz.func74 (by kernel_rfl) rfl
theorem en75:Enters Tryz.prog 75:=Enters.of Tryz.func75 (by kernel_rfl) rfl
theorem en76:Enters Tryz.prog 76:=Enters.of Tryz.func76 (by kernel_rfl) rfl
theorem en77:Enters Tryz.prog 77:=Enters.of Tryz.func77 (by kernel_rfl) rfl
theorem en78:Enters Tryz.prog 78:=Enters.of Tryz.func78 (by kernel_rfl) rfl
theorem en80:Enters Tryz.prog 80:=Enters.of Tryz.func80 (by kernel_rfl) rfl
theorem en81:Enters Tryz.prog 81:=Enters.of Tryz.func81 (by kernel_rfl) rfl
theorem en82:Enters Tryz.prog 82:=Enters.of Tryz.func82 (by kernel_rfl) rfl
theorem en83:Enters Tryz.prog 83:=Enters.of Tryz.func83 (by kernel_rfl) rfl
theorem en84:Enters Tryz.prog 84:=Enters.of Tryz.func84 (by kernel_rfl) rfl
theorem en85:Enters Tryz.prog 85:=Enters.of Tryz.func85 (by kernel_rfl) rfl
theorem en86:Enters Tryz.prog 86:=Enters.of Tryz.func86 (by kernel_rfl) rfl
theorem en87:Enters Tryz.prog 87:=Enters.of Tryz.func87 (by kernel_rfl) rfl
theorem en88:Enters Tryz.prog 88:=Enters.of Tryz.func88 (by kernel_rfl) rfl
theorem en89:Enters Tryz.prog 89:=Enters.of Tryz.func89 (by kernel_rfl) rfl
theorem en99:Enters Tryz.prog 99:=Enters.of Tryz.func99 (by kernel_rfl) rfl
theorem en100:Enters Tryz.prog 100:=Enters.of Tryz.func100 (by kernel_rfl) rfl
theorem en101:Enters Tryz.prog 101:=Enters.of Tryz.func101 (by kernel_rfl) rfl
theorem en103:Enters Tryz.prog 103:=Enters.of Tryz.func103 (by kernel_rfl) rfl
theorem en104:Enters Tryz.prog 104:=Enters.of Tryz.func104 (by kernel_rfl) rfl
theorem en105:Enters Tryz.prog 105:=Enters.of Tryz.func105 (by kernel_rfl) rfl
theorem en106:Enters Tryz.prog 106:=Enters.of Tryz.func106 (by kernel_rfl) rfl
theorem en107:Enters Tryz.prog 107:=Enters.of Tryz.func107 (by kernel_rfl) rfl
theorem en108:Enters Tryz.prog 108:=Enters.of Tryz.func108 (by kernel_rfl) rfl
theorem en109:Enters Tryz.prog 109:=Enters.of Tryz.func109 (by kernel_rfl) rfl
theorem en110:Enters Tryz.prog 110:=Enters.of Tryz.func110 (by kernel_rfl) rfl
theorem en111:Enters Tryz.prog 111:=Enters.of Tryz.func111 (by kernel_rfl) rfl
theorem en112:Enters Tryz.prog 112:=Enters.of Tryz.func112 (by kernel_rfl) rfl
theorem en113:Enters Tryz.prog 113:=Enters.of Tryz.func113 (by kernel_rfl) rfl
theorem en114:Enters Tryz.prog 114:=Enters.of Tryz.func114 (by kernel_rfl) rfl
theorem en115:Enters Tryz.prog 115:=Enters.of Tryz.func115 (by kernel_rfl) rfl
theorem en116:Enters Tryz.prog 116:=Enters.of Tryz.func116 (by kernel_rfl) rfl
theorem en117:Enters Tryz.prog 117:=Enters.of Tryz.func117 (by kernel_rfl) rfl
theorem en118:Enters Tryz.prog 118:=Enters.of Tryz.func118 (by kernel_rfl) rfl
theorem en119:Enters Tryz.prog 119:=Enters.of Tryz.func119 (by kernel_rfl) rfl
theorem en120:Enters Tryz.prog 120:=Enters.of Tryz.func120 (by kernel_rfl) rfl
theorem en121:Enters Tryz.prog 121:=Enters.of Tryz.func121 (by kernel_rfl) rfl
theorem en122:Enters Tryz.prog 122:=Enters.of Tryz.func122 (by kernel_rfl) rfl
theorem en125:Enters Tryz.prog 125:=Enters.of Tryz.func125 (by kernel_rfl) rfl
theorem en126:Enters Tryz.prog 126:=Enters.of Tryz.func126 (by kernel_rfl) rfl
theorem en128:Enters Tryz.prog 128:=Enters.of Tryz.func128 (by kernel_rfl) rfl
theorem en129:Enters Tryz.prog 129:=Enters.of Tryz.func129 (by kernel_rfl) rfl
theorem en130:Enters Tryz.prog 130:=Enters.of Tryz.func130 (by kernel_rfl) rfl
theorem en131:Enters Tryz.prog 131:=Enters.of Tryz.func131 (by kernel_rfl) rfl
theorem en132:Enters Tryz.prog 132:=Enters.of Tryz.func132 (by kernel_rfl) rfl
theorem en133:Enters Tryz.prog 133:=Enters.of Tryz.func133 (by kernel_rfl) rfl
theorem en134:Enters Tryz.prog 134:=Enters.of Tryz.func134 (by kernel_rfl) rfl
theorem en135:Enters Tryz.prog 135:=Enters.of Tryz.func135 (by kernel_rfl) rfl
theorem en136:Enters Tryz.prog 136:=Enters.of Tryz.func136 (by kernel_rfl) rfl
theorem en137:Enters Tryz.prog 137:=Enters.of Tryz.func137 (by kernel_rfl) rfl
theorem en139:Enters Tryz.prog 139:=Enters.of Tryz.func139 (by kernel_rfl) rfl
theorem en144:Enters Tryz.prog 144:=Enters.of Tryz.func144 (by kernel_rfl) rfl
theorem en145:Enters Tryz.prog 145:=Enters.of Tryz.func145 (by kernel_rfl) rfl
theorem en147:Enters Tryz.prog 147:=Enters.of Tryz.func147 (by kernel_rfl) rfl
theorem en148:Enters Tryz.prog 148:=Enters.of Tryz.func148 (by kernel_rfl) rfl
theorem en149:Enters Tryz.prog 149:=Enters.of Tryz.func149 (by kernel_rfl) rfl
theorem en150:Enters Tryz.prog 150:=Enters.of Tryz.func150 (by kernel_rfl) rfl
theorem en151:Enters Tryz.prog 151:=Enters.of Tryz.func151 (by kernel_rfl) rfl
theorem en152:Enters Tryz.prog 152:=Enters.of Tryz.func152 (by kernel_rfl) rfl
theorem en153:Enters Tryz.prog 153:=Enters.of Tryz.func153 (by kernel_rfl) rfl
theorem en154:Enters Tryz.prog 154:=Enters.of Tryz.func154 (by kernel_rfl) rfl
theorem en155:Enters Tryz.prog 155:=Enters.of Tryz.func155 (by kernel_rfl) rfl
theorem en156:Enters Tryz.prog 156:=Enters.of Tryz.func156 (by kernel_rfl) rfl
theorem en157:Enters Tryz.prog 157:=Enters.of Tryz.func157 (by kernel_rfl) rfl
theorem en158:Enters Tryz.prog 158:=Enters.of Tryz.func158 (by kernel_rfl) rfl
theorem en159:Enters Tryz.prog 159:=Enters.of Tryz.func159 (by kernel_rfl) rfl
theorem en160:Enters Tryz.prog 160:=Enters.of Tryz.func160 (by kernel_rfl) rfl
theorem en161:Enters Tryz.prog 161:=Enters.of Tryz.func161 (by kernel_rfl) rfl
theorem en162:Enters Tryz.prog 162:=Enters.of Tryz.func162 (by kernel_rfl) rfl
theorem en163:Enters Tryz.prog 163:=Enters.of Tryz.func163 (by kernel_rfl) rfl
theorem en164:Enters Tryz.prog 164:=Enters.of Tryz.func164 (by kernel_rfl) rfl
theorem en165:Enters Tryz.prog 165:=Enters.of Tryz.func165 (by kernel_rfl) rfl
theorem en166:Enters Tryz.prog 166:=Enters.of Tryz.func166 (by kernel_rfl) rfl
theorem en167:Enters Tryz.prog 167:=Enters.of Tryz.func167 (by kernel_rfl) rfl
theorem en168:Enters Tryz.prog 168:=Enters.of Tryz.func168 (by kernel_rfl) rfl
theorem en169:Enters Tryz.prog 169:=Enters.of Tryz.func169 (by kernel_rfl) rfl
theorem en174:Enters Tryz.prog 174:=Enters.of Tryz.func174 (by kernel_rfl) rfl
theorem en175:Enters Tryz.prog 175:=Enters.of Tryz.func175 (by kernel_rfl) rfl
theorem en177:Enters Tryz.prog 177:=Enters.of Tryz.func177 (by kernel_rfl) rfl
theorem en178:Enters Tryz.prog 178:=Enters.of Tryz.func178 (by kernel_rfl) rfl
theorem en179:Enters Tryz.prog 179:=Enters.of Tryz.func179 (by kernel_rfl) rfl
theorem en180:Enters Tryz.prog 180:=Enters.of Tryz.func180 (by kernel_rfl) rfl
theorem en181:Enters Tryz.prog 181:=Enters.of Tryz.func181 (by kernel_rfl) rfl
theorem en182:Enters Tryz.prog 182:=Enters.of Tryz.func182 (by kernel_rfl) rfl
theorem en183:Enters Tryz.prog 183:=Enters.of Tryz.func183 (by kernel_rfl) rfl
theorem en184:Enters Tryz.prog 184:=Enters.of Tryz.func184 (by kernel_rfl) rfl
theorem en185:Enters Tryz.prog 185:=Enters.of Tryz.func185 (by kernel_rfl) rfl
theorem en186:Enters Tryz.prog 186:=Enters.of Tryz.func186 (by kernel_rfl) rfl
theorem en187:Enters Tryz.prog 187:=Enters.of Tryz.func187 (by kernel_rfl) rfl
theorem en188:Enters Tryz.prog 188:=Enters.of Tryz.func188 (by kernel_rfl) rfl
theorem en189:Enters Tryz.prog 189:=Enters.of Tryz.func189 (by kernel_rfl) rfl
theorem en190:Enters Tryz.prog 190:=Enters.of Tryz.func190 (by kernel_rfl) rfl
theorem en191:Enters Tryz.prog 191:=Enters.of Tryz.func191 (by kernel_rfl) rfl
theorem en192:Enters Tryz.prog 192:=Enters.of Tryz.func192 (by kernel_rfl) rfl
theorem en193:Enters Tryz.prog 193:=Enters.of Tryz.func193 (by kernel_rfl) rfl
theorem en195:Enters Tryz.prog 195:=Enters.of Tryz.func195 (by kernel_rfl) rfl
theorem en196:Enters Tryz.prog 196:=Enters.of Tryz.func196 (by kernel_rfl) rfl
theorem en197:Enters Tryz.prog 197:=Enters.of Tryz.func197 (by kernel_rfl) rfl
theorem en198:Enters Tryz.prog 198:=Enters.of Tryz.func198 (by kernel_rfl) rfl
theorem en199:Enters Tryz.prog 199:=Enters.of Tryz.func199 (by kernel_rfl) rfl
theorem en200:Enters Tryz.prog 200:=Enters.of Tryz.func200 (by kernel_rfl) rfl
theorem en201:Enters Tryz.prog 201:=Enters.of Tryz.func201 (by kernel_rfl) rfl
theorem en202:Enters Tryz.prog 202:=Enters.of Tryz.func202 (by kernel_rfl) rfl
theorem en203:Enters Tryz.prog 203:=Enters.of Tryz.func203 (by kernel_rfl) rfl
theorem en206:Enters Tryz.prog 206:=Enters.of Tryz.func206 (by kernel_rfl) rfl
theorem en207:Enters Tryz.prog 207:=Enters.of Tryz.func207 (by kernel_rfl) rfl
theorem en209:Enters Tryz.prog 209:=Enters.of Tryz.func209 (by kernel_rfl) rfl
theorem en210:Enters Tryz.prog 210:=Enters.of Tryz.func210 (by kernel_rfl) rfl
theorem en211:Enters Tryz.prog 211:=Enters.of Tryz.func211 (by kernel_rfl) rfl
theorem en212:Enters Tryz.prog 212:=Enters.of Tryz.func212 (by kernel_rfl) rfl
theorem en213:Enters Tryz.prog 213:=Enters.of Tryz.func213 (by kernel_rfl) rfl
theorem en214:Enters Tryz.prog 214:=Enters.of Tryz.func214 (by kernel_rfl) rfl
theorem en215:Enters Tryz.prog 215:=Enters.of Tryz.func215 (by kernel_rfl) rfl
theorem en216:Enters Tryz.prog 216:=Enters.of Tryz.func216 (by kernel_rfl) rfl
theorem en218:Enters Tryz.prog 218:=Enters.of Tryz.func218 (by kernel_rfl) rfl
theorem en219:Enters Tryz.prog 219:=Enters.of Tryz.func219 (by kernel_rfl) rfl
theorem en220:Enters Tryz.prog 220:=Enters.of Tryz.func220 (by kernel_rfl) rfl
theorem en230:Enters Tryz.prog 230:=Enters.of Tryz.func230 (by kernel_rfl) rfl
theorem en231:Enters Tryz.prog 231:=Enters.of Tryz.func231 (by kernel_rfl) rfl
theorem en232:Enters Tryz.prog 232:=Enters.of Tryz.func232 (by kernel_rfl) rfl
theorem en233:Enters Tryz.prog 233:=Enters.of Tryz.func233 (by kernel_rfl) rfl
theorem en234:Enters Tryz.prog 234:=Enters.of Tryz.func234 (by kernel_rfl) rfl
theorem en235:Enters Tryz.prog 235:=Enters.of Tryz.func235 (by kernel_rfl) rfl
theorem en236:Enters Tryz.prog 236:=Enters.of Tryz.func236 (by kernel_rfl) rfl
theorem en249:Enters Tryz.prog 249:=Enters.of Tryz.func249 (by kernel_rfl) rfl
theorem en251:Enters Tryz.prog 251:=Enters.of Tryz.func251 (by kernel_rfl) rfl
theorem en252:Enters Tryz.prog 252:=Enters.of Tryz.func252 (by kernel_rfl) rfl
theorem en253:Enters Tryz.prog 253:=Enters.of Tryz.func253 (by kernel_rfl) rfl
theorem en254:Enters Tryz.prog 254:=Enters.of Tryz.func254 (by kernel_rfl) rfl
theorem en255:Enters Tryz.prog 255:=Enters.of Tryz.func255 (by kernel_rfl) rfl
theorem en256:Enters Tryz.prog 256:=Enters.of Tryz.func256 (by kernel_rfl) rfl
theorem en268:Enters Tryz.prog 268:=Enters.of Tryz.func268 (by kernel_rfl) rfl
theorem en269:Enters Tryz.prog 269:=Enters.of Tryz.func269 (by kernel_rfl) rfl
theorem en273:Enters Tryz.prog 273:=Enters.of Tryz.func273 (by kernel_rfl) rfl
end
section
open Go.RowKit
section
variable {P:Program} {W0 W w:World} {N:Nat} {kn:Kn} {L L' R M:List Thing} {b o:Nat} {t:TypeId} {C C':List Value}
inductive RV (P:Program) (kn:Kn) (L:List Thing):ResultVar→Value→Prop
 | tmp {t v} (h:lk kn t=some v):RV P kn L (.tmp t) v
 | cell1 {p ty b t C R v} (h:lk kn p=some (.pointer (some ⟨b,0,none⟩))) (hp:Pick L (Bk b t C) R) (h1:One P ty) (hc:lc C 0=some v):RV P kn L (.cell p ty) v
 | cellN {p ty b t C R n} (h:lk kn p=some (.pointer (some ⟨b,0,none⟩))) (hp:Pick L (Bk b t C) R) (h1:Many P ty n) (hc:Nat.beq C.length n=true):RV P kn L (.cell p ty) (.agg C.toArray)
inductive RVs (P:Program) (kn:Kn) (L:List Thing):List ResultVar→List Value→Prop
 | nil:RVs P kn L [] []
 | cons {r v rs vs} (h:RV P kn L r v) (hs:RVs P kn L rs vs):RVs P kn L (r::rs) (v::vs)
theorem RV.run {a:Act} {ds:List Deferred} (ha:Has N ds kn a) (hs:Sts W0 w L) {r:ResultVar} {v:Value} (h:RV P kn L r v):(rdR a.tmps r).run P w=.ok v w:=by
 cases h with
 | tmp h=>simp [rdR,Array.getD_eq_getD_getElem?,ha.slot h]
 | cell1 h hp h1 hc =>
  have hrd:=(hs.bk hp).rd 0
  rw [lc_eq] at hc
  rw [show (_:Array Value)[0]?=some v by simpa using hc] at hrd
  simp only [rdR,Array.getD_eq_getD_getElem?,ha.slot h,Option.getD_some,asAddr,Sem.run_bind,Sem.run_pure,Result.andThen_ok,loadVar,h1 w,Bool.false_eq_true,if_false,run_load,hrd]
 | cellN h hp h1 hc =>
  rename_i p ty b t C R n
  have hl:C.length=n:=Nat.eq_of_beq_eq_true hc
  have hr:(loadCells ⟨b,0,none⟩ n).run P w=.ok C.toArray w:=by
   rw [← hl]; refine load_cells fun j hj=>?_
   rw [add_off,(hs.bk hp).rd]; simp
  simp only [rdR,Array.getD_eq_getD_getElem?,ha.slot h,Option.getD_some,asAddr,Sem.run_bind,Sem.run_pure,Result.andThen_ok,loadVar,(h1 w).1,(h1 w).2,if_true,hr]
theorem RVs.run {a:Act} {ds:List Deferred} (ha:Has N ds kn a) (hs:Sts W0 w L):∀ {rs:List ResultVar} {vs:List Value},RVs P kn L rs vs→(rs.mapM (rdR a.tmps)).run P w=.ok vs w
 | [],vs,h=>by cases h; rfl
 | r::rs,vs,h=>by
  cases h with
  | cons h1 h2 =>
   have h3:=RVs.run ha hs h2
   have h4:=h1.run ha hs
   simp only [List.mapM_cons,Sem.run_bind,Sem.run_pure,Result.andThen_ok,h3,h4]
theorem GE.outR {fn:Func} {Rr:Ending→World→Prop} {rs:List ResultVar} {vs:List Value} (hr:fn.results.toList=rs) (hv:RVs P kn L rs vs) (h1:Nat.beq vs.length 1=false) (h:∀ w,Sts W0 w L→Rr (.returned (.tuple vs.toArray)) w):GE W0 N [] .ret (bodyPost P fn Rr) kn L:=by
 intro a w ha hs
 refine ⟨ha.defers,.tuple vs.toArray,?_,h w hs⟩
 have h7:=RVs.run (P:=P) ha hs hv
 rw [← hr] at h7
 have h9:¬ vs.toArray.size=1:=by intro e; rw [show vs.length=1 by simpa using e] at h1; simp at h1
 rw [results_eq,Sem.run_bind,Array.mapM_eq_mapM_toList,Sem.run_map,h7]
 simp only [Result.andThen_ok,dif_neg h9,Sem.run_pure]
theorem GE.outR1 {fn:Func} {Rr:Ending→World→Prop} {rv:ResultVar} {v:Value} (hr:fn.results.toList=[rv]) (hv:RV P kn L rv v) (h:∀ w,Sts W0 w L→Rr (.returned v) w):GE W0 N [] .ret (bodyPost P fn Rr) kn L:=by
 intro a w ha hs
 refine ⟨ha.defers,v,?_,h w hs⟩
 have h7:=RVs.run (P:=P) ha hs (RVs.cons hv .nil)
 rw [← hr] at h7
 rw [results_eq,Sem.run_bind,Array.mapM_eq_mapM_toList,Sem.run_map,h7]
 simp
@[irreducible] def Rw (e size:Nat) (v:Value) (n:Nat) (xs:List Value):Thing:=Row e size v n xs
theorem Sts.rw {e size n:Nat} {v:Value} {xs:List Value} (h:Sts W0 W L) (p:Pick L (Rw e size v n xs) R):W.ownsRow 0 e size v n xs:=by
 have:=h.pick p
 unfold Rw at this
 exact this.row
theorem Sts.rwLen {e size n:Nat} {v:Value} {xs:List Value} (h:Sts W0 W L) (p:Pick L (Rw e size v n xs) R):xs.length=n * size:=(h.rw p).1
theorem Sts.rwSome {e size n c:Nat} {a:Option Addr} {xs:List Value} (h:Sts W0 W L) (p:Pick L (Rw e size (.slice a n c) n xs) R) (hn:0 < n):∃ g,a=some ⟨g,0,none⟩:=by
 obtain ⟨a',cap,e,hf⟩:=row_form (h.rw p)
 injection e with e1 e2 e3
 obtain ⟨g,hg,_⟩:=hf hn
 exact ⟨g,e1.trans hg⟩
theorem Sts.rwForm {e size n:Nat} {v:Value} {xs:List Value} (h:Sts W0 W L) (p:Pick L (Rw e size v n xs) R):∃ a c,v=.slice a n c:=by
 obtain ⟨a,c,e,_⟩:=row_form (h.rw p)
 exact ⟨a,c,e⟩
theorem rw_cell {e size n c g k:Nat} {xs:List Value} {u:Value} (h:W.ownsRow 0 e size (.slice (some ⟨g,0,none⟩) n c) n xs) (hu:xs[k]?=some u):W.cell? ⟨g,k,none⟩=some u:=by
 have:=h.cells (g:=g) rfl k u hu
 rw [add_off,Nat.zero_add] at this
 exact this
abbrev SL:=SLt
theorem SL.run {T e size:Nat} (h:SL P T e size) (w:World):(sizeOf e).run P w=.ok size w:=by
 cases hi:P.info? e with
 | none=>have:=h.2; simp [hi] at this
 | some i=>have:=h.2; rw [hi] at this; simp at this; simp [sizeOf,typeInfo,hi,this]
theorem BS.sl {T e size:Nat} {z:List Value} (h:BS P T e size z):SL P T e size:=by
 refine ⟨h.1,?_⟩
 cases hi:P.info? e with
 | none=>have:=h.2.1; simp [hi] at this
 | some i=>have:=h.2.1; rw [hi] at this; simp at this; simp [this.1]
theorem EX.indexAddr {d g T x i ty ps af a n c k m e s} (hx:ev kn x=some (.slice (some ⟨b,o,none⟩) n c)) (hi:ev kn i=some (.int k m)) (hT:SL P T e s) (hb:0≤m∧m < (n:Int)) (ha:o + m.toNat * s=a) :
  EX P W0 kn L ⟨d,.indexAddr T x i,ty,ps,af,g⟩ (.pointer (some ⟨b,a,none⟩)):=fun ρ w he hs=>by
 subst ha
 simp only [execOp,he x _ hx,he i _ hi,Instr.indexAt,asIntOf,underlying,Sem.run_bind,Sem.run_pure,run_program,Result.andThen_ok,hT.1,Sem.run_ite,hb,and_self,if_true,hT.run w,add_off]
abbrev AR:=ARt
theorem EX.indexArr {d g T x i ty ps af a n k m s} (hx:ev kn x=some (.pointer (some ⟨b,o,none⟩))) (hi:ev kn i=some (.int k m)) (hT:AR P T n s) (hb:0≤m∧m < (n:Int)) (ha:o + m.toNat * s=a) :
  EX P W0 kn L ⟨d,.indexAddr T x i,ty,ps,af,g⟩ (.pointer (some ⟨b,a,none⟩)):=fun ρ w he hs=>by
 subst ha
 obtain ⟨e,h1,h2⟩:=hT
 have hsz:(sizeOf e).run P w=.ok s w:=by
  cases hi:P.info? e with
  | none=>simp [hi] at h2
  | some i=>rw [hi] at h2; simp at h2; simp [sizeOf,typeInfo,hi,h2]
 simp only [execOp,he x _ hx,he i _ hi,Instr.indexAt,asIntOf,underlying,Sem.run_bind,Sem.run_pure,run_program,Result.andThen_ok,h1,Instr.sureAddr,Sem.run_ite,hb,and_self,if_true,hsz,add_off]
theorem EX.loadRw {d g t' x ty ps af v e size n c k xs} (hx:ev kn x=some (.pointer (some ⟨b,k,none⟩))) (p:Pick L (Rw e size (.slice (some ⟨b,0,none⟩) n c) n xs) R) (hc:xs[k]?=some v) (h1:One P t'):EX P W0 kn L ⟨d,.load t' x,ty,ps,af,g⟩ v:=fun ρ w he hs=>by
 have hrd:=rw_cell (hs.rw p) hc
 simp only [execOp,he x _ hx,Sem.run_bind,Instr.loadAt,Instr.sureAddr,loadVar,h1 w,Result.andThen_ok,Sem.run_pure,Bool.false_eq_true,if_false,run_load,hrd]
theorem EX.loadRwN {d g t' x ty ps af e size n c k xs m} {cs:List Value} (hx:ev kn x=some (.pointer (some ⟨b,k,none⟩))) (p:Pick L (Rw e size (.slice (some ⟨b,0,none⟩) n c) n xs) R) (h1:Many P t' m) (hl:cs.length=m) (hc:∀ j,j < m→xs[k + j]?=cs[j]?) :
  EX P W0 kn L ⟨d,.load t' x,ty,ps,af,g⟩ (.agg cs.toArray):=fun ρ w he hs=>by
 have hr:(loadCells ⟨b,k,none⟩ m).run P w=.ok cs.toArray w:=by
  rw [← hl]; refine load_cells fun j hj=>?_
  rw [add_off,← hc j (by omega)]
  have hj':j < m:=by omega
  have:cs[j]?=some cs[j]:=List.getElem?_eq_getElem hj
  rw [hc j hj',this]
  exact rw_cell (hs.rw p) ((hc j hj').trans this)
 simp only [execOp,he x _ hx,Sem.run_bind,Instr.loadAt,Instr.sureAddr,loadVar,(h1 w).1,(h1 w).2,Result.andThen_ok,Sem.run_pure,if_true,hr]
theorem Sts.toRw {e s n:Nat} (h:Sts W0 W (Bk b e C::L)) (hl:C.length=n * s) (hn:n≤maxLen):Sts W0 W (Rw e s (.slice (some ⟨b,0,none⟩) n n) n C::L):=by
 obtain ⟨hb,A,h1,h2,h3⟩:=h
 unfold Bk at h1
 unfold Rw
 refine ⟨hb,A,⟨⟨hl,.inr ⟨b,n,C.toArray,rfl,Nat.zero_le _,h1.1,Nat.le_refl _,hn,by simpa using hl,by rw [← hl]; simp⟩⟩,fun x=>?_⟩,h2,h3⟩
 rw [h1.2 x]
 simp [Value.ownBlock,eq_comm]
theorem Sts.nilRw (e s:Nat) (h:Sts W0 W L):Sts W0 W (Rw e s (.slice none 0 0) 0 []::L):=by
 unfold Rw
 exact h.more (Below.refl _ _) (A:=fun _=>False) ⟨⟨by simp,.inl ⟨rfl,rfl⟩⟩,fun x=>⟨fun h=>h.elim,fun e=>by simp [Value.ownBlock] at e⟩⟩ (fun b h=>h.elim)
end
end
section
open Go.RowKit
def ph (s:Nat) (listed:Array Bool):Nat:=bif listed.getD s false then 1 else 0
section
variable (P:Program) (ops:Array Oper) (C:Nat→World→Prop) (s:Nat)
def wpAC (Q:Exit→Act→World→Prop):Nat→Array Bool→Act→World→Prop
 | 0,listed,a,w=>Region.ready .any ops listed=[]∧Q .normal a w
 | fuel + 1,listed,a,w=>(Region.ready .any ops listed=[]→Q .normal a w) ∧
  ∀ i∈Region.ready .any ops listed,wpOp P ops (fun _ _ _=>False) i (fun a' w'=>C (ph s (listed.setIfInBounds i true)) w'∧wpAC Q fuel (listed.setIfInBounds i true) a' w') a w
end
section
variable {P:Program} {ops:Array Oper} {C:Nat→World→Prop} {s:Nat} {Q:Exit→Act→World→Prop}
theorem upon_false {o:Oper} {a:Act} {w:World} {K K':Act→World→Prop} (h:∀ a w,K a w→K' a w) (hh:o.wp P a w K (fun _ _ _=>False)):o.wp P a w K' Q:=by
 unfold Oper.wp at *
 generalize (execOp a.eval o).run P w=r at *
 cases r with
 | ok n w' =>
  cases n <;> simp only [Oper.upon] at hh ⊢
  case value v=>exact h _ _ hh
  case skip=>exact h _ _ hh
  case defer d=>exact h _ _ hh
  case enter f args =>
   refine hh.mono fun e w'' he=>?_
   cases e with
   | returned v=>exact h _ _ he
   | panicked ch=>exact he.elim
   | outgrown=>obtain ⟨_,_,h⟩:=he; exact h.elim
  case row r args=>exact hh.mono fun v w'' hv=>h _ _ hv
 | halt x w' =>
  cases x <;> simp only [Oper.upon] at hh
theorem wpOp_false {i:Nat} {a:Act} {w:World} {K K':Act→World→Prop} (h:∀ a w,K a w→K' a w) (hh:wpOp P ops (fun _ _ _=>False) i K a w):wpOp P ops Q i K' a w:=by
 unfold wpOp at *
 split
 ·rename_i ho; simp only [ho] at hh; exact h _ _ hh
 ·rename_i o ho
  simp only [ho] at hh
  split
  ·rename_i hw
   rw [if_pos hw] at hh
   rcases hh with hh | ⟨_,_,_,hh⟩
   ·exact .inl (upon_false h hh)
   ·exact hh.elim
  ·rename_i hw; rw [if_neg hw] at hh; exact h _ _ hh
theorem upon_put {oj:Oper} {d:Option Tmp} {v:Value} (hd:∀ e,d=some e→oj.dst≠some e) {a:Act} {K:Act→World→Prop} {r:Result Next} :
  oj.upon P (a.put d v) K (fun _ _ _=>False) r→oj.upon P a (fun a' w'=>K (a'.put d v) w') (fun _ _ _=>False) r:=by
 intro h
 have hc:∀ u,(a.put d v).put oj.dst u=(a.put oj.dst u).put d v:=fun u=>Act.put_comm a v u hd
 cases r with
 | ok n w' =>
  cases n <;> simp only [Oper.upon] at h ⊢
  case value u=>rw [← hc]; exact h
  case skip=>rw [← hc]; exact h
  case defer dd =>
   rw [Act.put_defers,Act.put_comm _ v undef hd] at h
   exact h
  case enter f args =>
   refine Calls.mono h fun e w'' he=>?_
   cases e with
   | returned u=>simp only at he ⊢; rw [← hc]; exact he
   | panicked ch=>exact he
   | outgrown=>exact he
  case row r args=>exact Rows.mono h fun u w'' hu=>by rw [← hc]; exact hu
 | halt x w'=>cases x <;> simp only [Oper.upon] at h
theorem wpAny_of_AC:∀ (fuel:Nat) (listed:Array Bool) (a:Act) (w:World),wpAC P ops C s Q fuel listed a w→wpAny P .any ops Q fuel listed a w
 | 0,_,_,_,h=>h
 | fuel + 1,listed,a,w,h=>⟨h.1,fun i hi=>wpOp_false (fun a' w' h'=>wpAny_of_AC fuel _ _ _ h'.2) (h.2 i hi)⟩
def Yld (P:Program) (ops:Array Oper) (C:Nat→World→Prop) (ok:Nat→Bool) (o:Oper) (v:Value) (a:Act):Prop :=
 (Region.wanted o (yielded ops a.tmps)=true∧∀ p,ok p=true→∀ w,C p w→(execOp a.eval o).run P w=.ok (.value v) w)∨(Region.wanted o (yielded ops a.tmps)=false∧v=undef)
variable {ok:Nat→Bool}
theorem Yld.of_same {o:Oper} {v:Value} {a a':Act} (hy:Yld P ops C ok o v a) (he:execOp a'.eval o=execOp a.eval o) (hw:Region.wanted o (yielded ops a'.tmps)=Region.wanted o (yielded ops a.tmps)):Yld P ops C ok o v a':=by
 unfold Yld at *; rw [he,hw]; exact hy
theorem Yld.op {i:Nat} {o:Oper} {v:Value} {a:Act} {w:World} {p:Nat} (hi:ops[i]?=some o) (hy:Yld P ops C ok o v a) (hp:ok p=true) (hC:C p w) {K:Act→World→Prop} (h:K (a.put o.dst v) w):wpOp P ops Q i K a w:=by
 unfold wpOp
 simp only [hi]
 rcases hy with ⟨hw,hv⟩ | ⟨hw,rfl⟩
 ·rw [if_pos hw]; refine .inl ?_; simp only [Oper.wp,hv p hp w hC,Oper.upon]; exact h
 ·rw [if_neg (by rw [hw]; simp)]; exact h
theorem wpOp_put {j:Nat} {oi oj:Oper} {v:Value} (hj:ops[j]?=some oj) (hap:oi.apart ops oj=true) (hsi:∀ cs b,oi.op≠.select cs b) (hsj:∀ cs b,oj.op≠.select cs b) {K:Act→World→Prop} {a:Act} {w:World}
  (hy:Yld P ops C ok oi v a) (h:wpOp P ops (fun _ _ _=>False) j K (a.put oi.dst v) w):wpOp P ops (fun _ _ _=>False) j (fun a' w'=>Yld P ops C ok oi v a'∧K (a'.put oi.dst v) w') a w:=by
 obtain ⟨h1,h2,h3⟩:=Oper.apart_spec hap
 have keep:∀ (a:Act),Yld P ops C ok oi v a→∀ u,Yld P ops C ok oi v (a.put oj.dst u):=fun a hy u=>hy.of_same (execOp_put oi hsi a oj.dst u h3) (wanted_put oi a oj.dst u h3)
 have keepD:∀ (a:Act) (ds:List Deferred),Yld P ops C ok oi v a→Yld P ops C ok oi v { a with defers:=ds }:=fun a ds hy=>hy.of_same rfl rfl
 unfold wpOp at h ⊢
 simp only [hj] at h ⊢
 rw [wanted_put oj a oi.dst v h1] at h
 split
 ·rename_i hw
  rw [if_pos hw] at h
  rcases h with h | ⟨_,_,_,hh⟩
  ·refine .inl ?_
   unfold Oper.wp at h ⊢
   rw [execOp_put oj hsj a oi.dst v h1] at h
   have h4:=upon_put (P:=P) h2 h
   generalize (execOp a.eval oj).run P w=r at h4
   cases r with
   | ok n w' =>
    cases n <;> simp only [Oper.upon] at h4 ⊢
    case value u=>exact ⟨keep a hy u,h4⟩
    case skip=>exact ⟨keep a hy _,h4⟩
    case defer dd=>exact ⟨keep _ (keepD a _ hy) _,h4⟩
    case enter f args =>
     refine Calls.mono h4 fun e w'' he=>?_
     cases e with
     | returned u=>exact ⟨keep a hy u,he⟩
     | panicked ch=>exact he
     | outgrown=>obtain ⟨_,_,hh⟩:=he; exact hh.elim
    case row r args=>exact Rows.mono h4 fun u w'' hu=>⟨keep a hy u,hu⟩
   | halt x w'=>cases x <;> simp only [Oper.upon] at h4
  ·exact hh.elim
 ·rename_i hw
  rw [if_neg hw] at h
  exact ⟨keep a hy _,by rw [← Act.put_comm a v undef h2]; exact h⟩
theorem wpOp_mono' {i:Nat} {a:Act} {w:World} {K K':Act→World→Prop} (h:∀ a w,K a w→K' a w) (hh:wpOp P ops (fun _ _ _=>False) i K a w):wpOp P ops (fun _ _ _=>False) i K' a w:=wpOp_false h hh
def Closed (ops:Array Oper) (listed:Array Bool):Prop:=∀ j oj,ops[j]?=some oj→listed.getD j false=true→∀ e∈oj.after,Region.binds .any e=true→listed.getD e.on false=true
theorem Closed.set {listed:Array Bool} {j:Nat} (h:Closed ops listed) (hj:j∈Region.ready .any ops listed):Closed ops (listed.setIfInBounds j true):=by
 intro k ok hk hl e he hb
 obtain ⟨_,oj,hoj,hall⟩:=mem_ready.1 hj
 by_cases c:k=j
 ·subst c
  obtain rfl:oj=ok:=by rw [hoj] at hk; exact Option.some.inj hk
  exact getD_set_true (hall e he hb)
 ·rw [getD_set_ne false (Ne.symm c)] at hl
  exact getD_set_true (h k ok hk hl e he hb)
theorem wpAC_first {i:Nat} {oi:Oper} {v:Value} (hi:ops[i]?=some oi) (hsel:∀ (j:Nat) (o:Oper) cs b,ops[j]?=some o→o.op≠.select cs b) (his:i≠s)
  (hok:ok 0=true) (hearly:ok 1=true∨∃ os e,ops[s]?=some os∧e∈os.after∧Region.binds .any e=true∧e.on=i) :
  ∀ (fuel:Nat) (listed:Array Bool) (a:Act) (w:World),
   (∀ j oj,ops[j]?=some oj→j≠i→listed.getD j true=false→(∀ e∈oj.after,Region.binds .any e=true→e.on≠i)→oi.apart ops oj=true) →
   i∈Region.ready .any ops listed→Closed ops listed→C (ph s listed) w→Yld P ops C ok oi v a →
   wpAC P ops C s Q fuel (listed.setIfInBounds i true) (a.put oi.dst v) w→wpAC P ops C s Q (fuel + 1) listed a w:=by
 have hphi:∀ listed:Array Bool,ph s (listed.setIfInBounds i true)=ph s listed:=fun listed=>by unfold ph; rw [getD_set_ne false his]
 have hokp:∀ listed:Array Bool,listed.getD i true=false→Closed ops listed→ok (ph s listed)=true:=by
  intro listed hl hc
  unfold ph
  cases hs:listed.getD s false with
  | false=>exact hok
  | true =>
   rcases hearly with h | ⟨os,e,ho,he,hb,hon⟩
   ·exact h
   ·have:=hc s os ho hs e he hb
    rw [hon] at this
    rcases Nat.lt_or_ge i listed.size with h' | h'
    ·simp [h'] at hl this; rw [hl] at this; cases this
    ·simp [Array.getElem?_eq_none h'] at this
 intro fuel
 induction fuel with
 | zero =>
  intro listed a w _ hr hcl hC hy H
  have hun:listed.getD i true=false:=(mem_ready.1 hr).1
  refine ⟨fun h=>(by rw [h] at hr; cases hr),fun j hj=>?_⟩
  by_cases hji:j=i
  ·subst hji; exact hy.op hi (hokp _ hun hcl) hC ⟨by rw [hphi]; exact hC,H⟩
  ·have:=ready_mono hj hji
   rw [H.1] at this
   cases this
 | succ fuel ih =>
  intro listed a w hfree hr hcl hC hy H
  have hun:listed.getD i true=false:=(mem_ready.1 hr).1
  refine ⟨fun h=>(by rw [h] at hr; cases hr),fun j hj=>?_⟩
  by_cases hji:j=i
  ·subst hji; exact hy.op hi (hokp _ hun hcl) hC ⟨by rw [hphi]; exact hC,H⟩
  ·have h1:=H.2 j (ready_mono hj hji)
   obtain ⟨hjun,oj,hoj,hall⟩:=mem_ready.1 hj
   have hnot:∀ e∈oj.after,Region.binds .any e=true→e.on≠i:=fun e he hb heq=>by
    have h1:=hall e he hb
    rw [heq] at h1
    rcases Nat.lt_or_ge i listed.size with h' | h'
    ·simp [h'] at hun h1; rw [hun] at h1; cases h1
    ·simp [Array.getElem?_eq_none h'] at h1
   have h2:=wpOp_put hoj (hfree j oj hoj hji hjun hnot) (fun cs b=>hsel i oi cs b hi) (fun cs b=>hsel j oj cs b hoj) hy h1
   have hfree':∀ k ok,ops[k]?=some ok→k≠i→(listed.setIfInBounds j true).getD k true=false →
     (∀ e∈ok.after,Region.binds .any e=true→e.on≠i)→oi.apart ops ok=true:=fun k ok hk hki hun hno=>by
    refine hfree k ok hk hki ?_ hno
    by_cases hjk:j=k
    ·subst hjk; exact hjun
    ·rw [getD_set_ne true hjk] at hun; exact hun
   refine wpOp_mono' (fun a' w' h3=>?_) h2
   obtain ⟨h4,h5,h6⟩:=h3
   have hij:i≠j:=fun e=>hji e.symm
   rw [Array.setIfInBounds_comm _ _ hij] at h5 h6
   rw [hphi] at h5
   exact ⟨h5,ih (listed.setIfInBounds j true) a' w' hfree' (ready_mono hr (Ne.symm hji)) (hcl.set hj) h5 h4 h6⟩
end
def Cls (W0:World) (F F1:List Thing) (p:Nat) (w:World):Prop:=∃ X,Sts W0 w ((match p with | 0=>F | _=>F1)++X)
section
variable (P:Program) (W0:World) (N:Nat) (ds:List Deferred) (ops:Array Oper) (F F1:List Thing) (s:Nat) (Q:Exit→Act→World→Prop)
def GD (fuel:Nat) (listed:Array Bool) (kn:Kn) (L:List Thing):Prop :=
 ∀ a w,Has N ds kn a→Sts W0 w L→Closed ops listed→Cls W0 F F1 (ph s listed) w→wpAC P ops (Cls W0 F F1) s Q fuel listed a w
def QD (fuel:Nat) (listed:Array Bool):Exit→Act→World→Prop
 | .normal,a,w=>Closed ops listed→Cls W0 F F1 (ph s listed) w∧wpAC P ops (Cls W0 F F1) s Q fuel listed a w
 | _,_,_=>False
end
section
variable {P:Program} {W0:World} {N:Nat} {ds:List Deferred} {ops:Array Oper} {F F1:List Thing} {s:Nat} {Q:Exit→Act→World→Prop} {fuel:Nat} {listed:Array Bool} {kn:Kn} {L X:List Thing}
theorem GC.draw {id:Nat} (F F1 X:List Thing) (s n:Nat) (hn:ops.size=n) (hm:P.follows .mixedOrders=true) (hL:L.Perm (F++X)) (h:GD P W0 N ds ops F F1 s Q n (Array.replicate n false) kn L):GC P W0 N ds (.region id ops true) Q kn L:=by
 subst hn
 intro a w ha hs
 refine wp_region_any hm ?_
 have hs':Sts W0 { w with drawn:=w.drawn + 1 } L:=hs.drew
 have hno:∀ k,(Array.replicate ops.size false).getD k false=false:=fun k=>by
  rcases Nat.lt_or_ge k ops.size with h | h
  ·simp [h]
  ·simp [Array.getElem?_eq_none (show (Array.replicate ops.size false).size≤k by simpa using h)]
 have hp:ph s (Array.replicate ops.size false)=0:=by unfold ph; rw [hno]; rfl
 refine wpAny_of_AC _ _ _ _ (h _ _ ha hs' (fun j oj hj hl=>by rw [hno] at hl; cases hl) ?_)
 rw [hp]
 exact ⟨X,hs'.perm hL⟩
def stepB (ops:Array Oper) (s:Nat) (listed:Array Bool) (i:Nat):Bool :=
 !(Nat.beq i s) && (Region.ready .any ops listed).contains i && Region.free .any ops listed i && Region.noSelect ops
def earlyB (ops:Array Oper) (s i:Nat):Bool:=match ops[s]? with
 | some os=>os.after.any fun e=>Region.binds .any e && Nat.beq e.on i
 | none=>false
theorem GD.first {i:Nat} {o:Oper} {v:Value} {d:Nat} (ok:Nat→Bool) (hok:ok 0=true) (hB:stepB ops s listed i=true) (he:ok 1=true∨earlyB ops s i=true) (hi:ops[i]?=some o) (hd:o.dst=some d) (hN:Nat.blt d N=true) (hy:∀ a,Has N ds kn a→Yld P ops (Cls W0 F F1) ok o v a)
  (h:GD P W0 N ds ops F F1 s Q fuel (listed.setIfInBounds i true) ((d,v)::kn) L):GD P W0 N ds ops F F1 s Q (fuel + 1) listed kn L:=by
 intro a w ha hs hcl hC
 simp only [stepB,Bool.and_eq_true,Bool.not_eq_true'] at hB
 obtain ⟨⟨⟨h1,h2⟩,h3⟩,h4⟩:=hB
 have h1':i≠s:=fun e=>by subst e; simp at h1
 have hr:i∈Region.ready .any ops listed:=by simpa using h2
 refine wpAC_first (ok:=ok) hi (Region.noSelect_spec h4) h1' hok ?_ _ _ _ _ (Region.free_spec hi h3) hr hcl hC (hy a ha) ?_
 ·refine he.imp id fun h=>?_
  unfold earlyB at h
  split at h
  ·rename_i os ho
   obtain ⟨e,he1,he2⟩:∃ e,e∈os.after∧(Region.binds .any e && Nat.beq e.on i)=true:=by
    rw [← Array.any_toList,List.any_eq_true] at h
    obtain ⟨e,h1,h2⟩:=h
    exact ⟨e,by simpa using h1,h2⟩
   simp only [Bool.and_eq_true] at he2
   exact ⟨os,e,ho,he1,he2.1,Nat.eq_of_beq_eq_true he2.2⟩
  ·cases h
 rw [hd]
 refine h _ _ (ha.put d v hN) hs (hcl.set hr) ?_
 have:ph s (listed.setIfInBounds i true)=ph s listed:=by unfold ph; rw [getD_set_ne false h1']
 rw [this]; exact hC
theorem GD.val {i:Nat} {o:Oper} {v:Value} {d:Nat} (hB:stepB ops s listed i=true) (he:earlyB ops s i=true∨∀ p w,Cls W0 F F1 p w→Cls W0 F F1 0 w) (hi:ops[i]?=some o) (hx:∀ X,EX P W0 kn (F++X) o v) (hd:o.dst=some d) (hN:Nat.blt d N=true) (hon:On ops kn o)
  (h:GD P W0 N ds ops F F1 s Q fuel (listed.setIfInBounds i true) ((d,v)::kn) L):GD P W0 N ds ops F F1 s Q (fuel + 1) listed kn L:=by
 rcases he with he | he
 ·refine GD.first (fun p=>Nat.beq p 0) rfl hB (.inr he) hi hd hN (fun a ha=>.inl ⟨hon N ds a ha,fun p hp w' ⟨X',hs'⟩=>?_⟩) h
  obtain rfl:p=0:=Nat.eq_of_beq_eq_true hp
  exact hx X' a.eval w' ha.ev hs'
 ·refine GD.first (fun p=>true) rfl hB (.inl rfl) hi hd hN (fun a ha=>.inl ⟨hon N ds a ha,fun p hp w' hc=>?_⟩) h
  obtain ⟨X',hs'⟩:=he p w' hc
  exact hx X' a.eval w' ha.ev hs'
theorem GD.pure {i:Nat} {o:Oper} {v:Value} {d:Nat} (hB:stepB ops s listed i=true) (hi:ops[i]?=some o) (hx:∀ L,EX P W0 kn L o v) (hd:o.dst=some d) (hN:Nat.blt d N=true) (hon:On ops kn o)
  (h:GD P W0 N ds ops F F1 s Q fuel (listed.setIfInBounds i true) ((d,v)::kn) L):GD P W0 N ds ops F F1 s Q (fuel + 1) listed kn L :=
 GD.first (fun _=>true) rfl hB (.inl rfl) hi hd hN (fun a ha=>.inl ⟨hon N ds a ha,fun p hp w' ⟨X',hs'⟩=>hx _ a.eval w' ha.ev hs'⟩) h
theorem GD.off {i:Nat} {o:Oper} {d:Nat} (hB:stepB ops s listed i=true) (hi:ops[i]?=some o) (hd:o.dst=some d) (hN:Nat.blt d N=true) (hoff:Off ops kn o)
  (h:GD P W0 N ds ops F F1 s Q fuel (listed.setIfInBounds i true) ((d,undef)::kn) L):GD P W0 N ds ops F F1 s Q (fuel + 1) listed kn L :=
 GD.first (fun _=>true) rfl hB (.inl rfl) hi hd hN (fun a ha=>.inr ⟨hoff N ds a ha,rfl⟩) h
theorem GD.actOne {i:Nat} {o:Oper} (hi:ops[i]?=some o) (h:GL P W0 N ds ops (QD P W0 ops F F1 s Q fuel (listed.setIfInBounds i true)) [o] kn L) (a:Act) (w:World) (ha:Has N ds kn a) (hs:Sts W0 w L) (hcl:Closed ops (listed.setIfInBounds i true)) :
  wpOp P ops (fun _ _ _=>False) i (fun a' w'=>Cls W0 F F1 (ph s (listed.setIfInBounds i true)) w'∧wpAC P ops (Cls W0 F F1) s Q fuel (listed.setIfInBounds i true) a' w') a w:=by
 have h1:=h a w ha hs
 unfold wpOp
 simp only [hi]
 simp only [wpL] at h1
 have hq:∀ (a:Act) (w:World),¬ QD P W0 ops F F1 s Q fuel (listed.setIfInBounds i true) .outgrown a w:=fun _ _ h=>h
 split
 ·rename_i hw
  rw [if_pos hw] at h1
  rcases h1 with h1 | ⟨_,_,_,hh⟩
  ·refine .inl ?_
   unfold Oper.wp at h1 ⊢
   generalize (execOp a.eval o).run P w=r at h1 ⊢
   cases r with
   | ok n w' =>
    cases n <;> simp only [Oper.upon] at h1 ⊢
    case value u=>exact h1 hcl
    case skip=>exact h1 hcl
    case defer dd=>exact h1 hcl
    case enter f args =>
     refine Calls.mono h1 fun e w'' he=>?_
     cases e with
     | returned u=>exact he hcl
     | panicked ch=>exact he
     | outgrown=>obtain ⟨_,_,hh⟩:=he; exact hh.elim
    case row r args=>exact Rows.mono h1 fun _ _ hh=>hh hcl
   | halt x w' =>
    cases x <;> simp only [Oper.upon] at h1
    exact h1.elim
  ·exact hh.elim
 ·rename_i hw
  rw [if_neg hw] at h1
  exact h1 hcl
theorem GD.act (i:Nat) {o:Oper} (hr:Region.ready .any ops listed=[i]) (hi:ops[i]?=some o) (h:GL P W0 N ds ops (QD P W0 ops F F1 s Q fuel (listed.setIfInBounds i true)) [o] kn L):GD P W0 N ds ops F F1 s Q (fuel + 1) listed kn L:=by
 intro a w ha hs hcl hC
 refine ⟨fun e=>(by rw [hr] at e; cases e),fun j hj=>?_⟩
 have hj':=hj
 rw [hr] at hj
 obtain rfl:j=i:=by simpa using hj
 exact GD.actOne hi h a w ha hs (hcl.set hj')
theorem GD.act2 (i j:Nat) {o o':Oper} (hr:Region.ready .any ops listed=[i,j]) (hi:ops[i]?=some o) (hj:ops[j]?=some o') (h:GL P W0 N ds ops (QD P W0 ops F F1 s Q fuel (listed.setIfInBounds i true)) [o] kn L)
  (h':GL P W0 N ds ops (QD P W0 ops F F1 s Q fuel (listed.setIfInBounds j true)) [o'] kn L):GD P W0 N ds ops F F1 s Q (fuel + 1) listed kn L:=by
 intro a w ha hs hcl hC
 refine ⟨fun e=>(by rw [hr] at e; cases e),fun k hk=>?_⟩
 have hk':=hk
 rw [hr] at hk
 rcases (by simpa using hk:k=i∨k=j) with rfl | rfl
 ·exact GD.actOne hi h a w ha hs (hcl.set hk')
 ·exact GD.actOne hj h' a w ha hs (hcl.set hk')
theorem GD.done (hr:Region.ready .any ops listed=[]) (h:GE W0 N ds .normal Q kn L):GD P W0 N ds ops F F1 s Q fuel listed kn L:=by
 intro a w ha hs hcl hC
 cases fuel with
 | zero=>exact ⟨hr,h a w ha hs⟩
 | succ n=>exact ⟨fun _=>h a w ha hs,fun i hi=>by rw [hr] at hi; cases hi⟩
end
end
section
open Go.RowKit
structure Ents {α:Type} (enc:α→Value) (kvs:List (α × Value)) (es:Array MapEntry) (ck:Nat):Prop where
 kv:es.toList.map (fun e=>(e.key,e.val))=kvs.map (fun p=>(enc p.1,p.2))
 nodup:(es.toList.map (·.born)).Nodup
 born:∀ e∈es.toList,e.born < ck
@[irreducible] def Mp {α:Type} (enc:α→Value) (b:Nat) (kvs:List (α × Value)):Thing where
 is W F:=(∃ es ck,W.heap[b]?=some (.map es ck)∧Ents enc kvs es ck)∧∀ x,F x↔x=b
 lt W F h x hx:=by
  rw [(h.2 x).1 hx]
  obtain ⟨⟨es,ck,hb,_⟩,_⟩:=h
  rcases Nat.lt_or_ge b W.heap.size with h2 | h2
  ·exact h2
  ·rw [Array.getElem?_eq_none h2] at hb; cases hb
 keep W W' F h e:=⟨by obtain ⟨⟨es,ck,hb,h2⟩,h3⟩:=h; exact ⟨es,ck,(e b ((h3 b).2 rfl)).trans hb,h2⟩,h.2⟩
structure KeyL {α:Type} [DecidableEq α] (P:Program) (K:TypeId) (enc:α→Value):Prop where
 eq:∀ a b w,(Op.equal K (enc a) (enc b)).run P w=.ok (decide (a=b)) w
 check:∀ a e w,(Instr.checkKey e 10000 K (enc a)).run P w=.ok () w
 now:∃ kd,P.underlying K=some kd∧((∀ a b,Instr.sameNow kd (enc a) (enc b)=some (decide (a=b)))∨(∀ a b,Instr.sameNow kd (enc a) (enc b)=none))
 bits:∀ a,Instr.sameBits 10000 (enc a) (enc a)=true
def look {α:Type} [DecidableEq α] (kvs:List (α × Value)) (a:α):Option Value:=(kvs.find? (fun p=>decide (a=p.1))).map (·.2)
def lookAt {α:Type} [DecidableEq α] (a:α):List (α × Value)→Nat→Option (Nat × Value)
 | [],_=>none
 | p::r,i=>if a=p.1 then some (i,p.2) else lookAt a r (i + 1)
theorem lookAt_look {α:Type} [DecidableEq α] (a:α):∀ (kvs:List (α × Value)) (i:Nat),(lookAt a kvs i).map (·.2)=look kvs a
 | [],i=>rfl
 | p::r,i=>by
  have:=lookAt_look a r (i + 1)
  simp only [lookAt,look,List.find?_cons] at this ⊢
  by_cases h:a=p.1 <;> simp [h] at this ⊢
  exact this
def setK {α:Type} [DecidableEq α] (a:α) (v:Value):List (α × Value)→List (α × Value)
 | []=>[(a,v)]
 | p::r=>if a=p.1 then (a,v)::r else p::setK a v r
section
variable {α:Type} [DecidableEq α] {P:Program} {K:TypeId} {enc:α→Value} {W0 W w:World} {L L' R:List Thing} {kn:Kn} {b:Nat} {kvs:List (α × Value)}
theorem run_findAsking (law:KeyL P K enc) (a:α) (w:World):∀ (es:List MapEntry) (kvs:List (α × Value)) (i:Nat),es.map (fun e=>(e.key,e.val))=kvs.map (fun p=>(enc p.1,p.2))→(Instr.findAsking K (enc a) es i).run P w=.ok (lookAt a kvs i) w
 | [],kvs,i,h=>by
  cases kvs with
  | nil=>rfl
  | cons p r=>simp at h
 | e::es,kvs,i,h=>by
  cases kvs with
  | nil=>simp at h
  | cons p r =>
   simp only [List.map_cons,List.cons.injEq,Prod.mk.injEq] at h
   obtain ⟨⟨h1,h2⟩,h3⟩:=h
   simp only [Instr.findAsking,Sem.run_bind,h1,law.eq a p.1 w,Result.andThen_ok]
   by_cases e:a=p.1
   ·simp [e,lookAt,h2]
   ·simp only [decide_eq_false e,Bool.false_eq_true,if_false,lookAt,if_neg e]
    exact run_findAsking law a w es r (i + 1) h3
theorem findNow_some {kd:TypeDesc} (hn:∀ a b:α,Instr.sameNow kd (enc a) (enc b)=some (decide (a=b))) (a:α):∀ (es:List MapEntry) (kvs:List (α × Value)) (i:Nat),es.map (fun e=>(e.key,e.val))=kvs.map (fun p=>(enc p.1,p.2))→Instr.findNow kd (enc a) es i=some (lookAt a kvs i)
 | [],kvs,i,h=>by
  cases kvs with
  | nil=>rfl
  | cons p r=>simp at h
 | e::es,kvs,i,h=>by
  cases kvs with
  | nil=>simp at h
  | cons p r =>
   simp only [List.map_cons,List.cons.injEq,Prod.mk.injEq] at h
   obtain ⟨⟨h1,h2⟩,h3⟩:=h
   simp only [Instr.findNow,h1,hn a p.1]
   by_cases e:a=p.1
   ·simp [e,lookAt,h2]
   ·simp only [decide_eq_false e,lookAt,if_neg e]
    exact findNow_some hn a es r (i + 1) h3
theorem run_findKey (law:KeyL P K enc) (a:α) (w:World) {es:List MapEntry} {kvs:List (α × Value)} (h:es.map (fun e=>(e.key,e.val))=kvs.map (fun p=>(enc p.1,p.2))):(Instr.findKey K (enc a) es).run P w=.ok (lookAt a kvs 0) w:=by
 obtain ⟨kd,hk,hn | hn⟩:=law.now
 ·simp only [Instr.findKey,underlying,Sem.run_bind,run_program,Result.andThen_ok,hk,Sem.run_pure,findNow_some hn a es kvs 0 h]
 ·cases es with
  | nil =>
   cases kvs with
   | nil=>simp only [Instr.findKey,underlying,Sem.run_bind,run_program,Result.andThen_ok,hk,Sem.run_pure,Instr.findNow,lookAt]
   | cons p r=>simp at h
  | cons e es =>
   have h1:Instr.findNow kd (enc a) (e::es) 0=none:=by
    cases kvs with
    | nil=>simp at h
    | cons p r =>
     simp only [List.map_cons,List.cons.injEq,Prod.mk.injEq] at h
     simp only [Instr.findNow,h.1.1,hn a p.1]
   simp only [Instr.findKey,underlying,Sem.run_bind,run_program,Result.andThen_ok,hk,Sem.run_pure,h1]
   exact run_findAsking law a w (e::es) kvs 0 h
theorem Sts.mp (h:Sts W0 W L) (p:Pick L (Mp enc b kvs) R):∃ es ck,W.heap[b]?=some (.map es ck)∧Ents enc kvs es ck:=by
 obtain ⟨F,hF⟩:=(h.pick p).fact
 unfold Mp at hF
 exact hF.1
theorem run_getMap {es:Array MapEntry} {ck:Nat} (h:w.heap[b]?=some (.map es ck)):(getObj b).run P w=.ok (.map es ck) w:=by
 simp only [getObj,Sem.run,h]
def ZV (P:Program) (t:TypeId) (z:Value):Prop:=(P.info? t).map (·.zero)=some (some z)
theorem ZV.run {t:TypeId} {z:Value} (h:ZV P t z) (w:World):(zeroValue t).run P w=.ok z w:=by
 unfold ZV at h
 cases hi:P.info? t with
 | none=>simp [hi] at h
 | some i=>rw [hi] at h; simp at h; simp [zeroValue,typeInfo,hi,h]
def lookV (z:Value) (o:Option Value):Value:=match o with
 | some v=>v
 | none=>z
theorem run_lookup (law:KeyL P K enc) {T E:TypeId} (hT:P.underlying T=some (.map K E)) {z:Value} (hz:ZV P E z) {es:Array MapEntry} {ck:Nat} (hb:w.heap[b]?=some (.map es ck)) (he:Ents enc kvs es ck) (a:α) (ok:Bool) :
  (Instr.lookup T (.map (some b)) (enc a) ok).run P w=.ok (if ok then .tuple #[lookV z (look kvs a),.bool (look kvs a).isSome] else lookV z (look kvs a)) w:=by
 have h1:=run_findKey law a w he.kv
 have h2:=lookAt_look a kvs 0
 simp only [Instr.lookup,underlying,Sem.run_bind,run_program,Result.andThen_ok,hT,Sem.run_pure,run_getMap hb,law.check a _ w,h1]
 cases h3:lookAt a kvs 0 with
 | none=>rw [h3] at h2; simp at h2; simp [← h2,hz.run w,lookV]
 | some q=>obtain ⟨i,v⟩:=q; rw [h3] at h2; simp at h2; simp [← h2,lookV]
theorem EX.lookup {d g T E x y ty ps af a z} (hx:ev kn x=some (.map (some b))) (hy:ev kn y=some (enc a)) (p:Pick L (Mp enc b kvs) R) (law:KeyL P K enc) (hT:P.underlying T=some (.map K E)) (hz:ZV P E z) :
  EX P W0 kn L ⟨d,.lookup T x y false,ty,ps,af,g⟩ (lookV z (look kvs a)):=fun ρ w he hs=>by
 obtain ⟨es,ck,hb,hen⟩:=hs.mp p
 simp only [execOp,he x _ hx,he y _ hy,Sem.run_bind,run_lookup law hT hz hb hen a false,Result.andThen_ok]; rfl
theorem EX.lookupOk {d g T E x y ty ps af a z} (hx:ev kn x=some (.map (some b))) (hy:ev kn y=some (enc a)) (p:Pick L (Mp enc b kvs) R) (law:KeyL P K enc) (hT:P.underlying T=some (.map K E)) (hz:ZV P E z) :
  EX P W0 kn L ⟨d,.lookup T x y true,ty,ps,af,g⟩ (.tuple #[lookV z (look kvs a),.bool (look kvs a).isSome]):=fun ρ w he hs=>by
 obtain ⟨es,ck,hb,hen⟩:=hs.mp p
 simp only [execOp,he x _ hx,he y _ hy,Sem.run_bind,run_lookup law hT hz hb hen a true,Result.andThen_ok]; rfl
theorem EX.lenM {d g ty ps af T E x} (hx:ev kn x=some (.map (some b))) (p:Pick L (Mp enc b kvs) R) (hT:P.underlying T=some (.map K E)):EX P W0 kn L ⟨d,.call { callee:=.builtin .len,args:=#[x],argTypes:=#[T] },ty,ps,af,g⟩ (.int .i64 kvs.length):=fun ρ w he hs=>by
 obtain ⟨es,ck,hb,hen⟩:=hs.mp p
 have hl:es.size=kvs.length:=by have:=congrArg List.length hen.kv; simpa using this
 simp [execOp,resolve,invoke,builtin,Builtin.len_,underlying,hT,he x _ hx,goInt,run_getMap hb,hl]
theorem Sts.newMp (enc:α→Value) (h:Sts W0 W L):Sts W0 (W.alloc (.map #[] 0)) (Mp enc W.heap.size []::L):=by
 unfold Mp
 refine h.more ((Below.refl _ _).alloc (Nat.le_refl _) _) (A:=fun x=>x=W.heap.size) ⟨⟨#[],0,heap_alloc_new W _,⟨by simp,by simp,by simp⟩⟩,fun x=>Iff.rfl⟩ (fun b e=>by rw [e]; exact Nat.le_refl _)
theorem EF.makeMap (enc:α→Value) {d g T ty pos af}:EF P W0 kn L ⟨d,.makeMap T none,ty,pos,af,g⟩ (fun b:Nat=>.map (some b)) (fun b=>Mp enc b []::L) (fun _=>True):=fun ρ w he hs=>by
 refine ⟨w.heap.size,w.alloc (.map #[] 0),trivial,?_,hs.newMp enc⟩
 simp only [execOp,Sem.run_bind,Option.map_none,Instr.makeMap,Sem.run_pure,Result.andThen_ok,run_newObj]; rfl
theorem Sts.setMp {kvs':List (α × Value)} {es':Array MapEntry} {ck':Nat} (h:Sts W0 W (Mp enc b kvs::L)) (he:Ents enc kvs' es' ck'):Sts W0 { W with heap:=W.heap.setIfInBounds b (.map es' ck') } (Mp enc b kvs'::L):=by
 obtain ⟨es,ck,hb,hen⟩:=h.mp .here
 have hlt:b < W.heap.size:=by
  rcases Nat.lt_or_ge b W.heap.size with h2 | h2
  ·exact h2
  ·rw [Array.getElem?_eq_none h2] at hb; cases hb
 unfold Mp at *
 refine h.turn (A:=fun x=>x=b) ⟨rfl,rfl,rfl⟩ (by simp) (fun F hF=>⟨⟨⟨es',ck',by simp [hlt],he⟩,fun x=>Iff.rfl⟩,fun x hx=>.inl ((hF.2 x).2 hx),fun x hx hn=>?_⟩)
 have hne:b≠x:=fun e=>hn ((hF.2 x).2 e.symm)
 simp [Array.getElem?_setIfInBounds_ne hne]
theorem run_setObj {es:Array MapEntry} {ck:Nat} (h:w.heap[b]?=some (.map es ck)) (o:Obj):(setObj b o).run P w=.ok () { w with heap:=w.heap.setIfInBounds b o }:=by
 simp only [setObj,Sem.run,h]
theorem lookAt_ge {a:α}:∀ {kvs:List (α × Value)} {i j:Nat} {v:Value},lookAt a kvs i=some (j,v)→i≤j∧j - i < kvs.length∧(kvs[j - i]?).map (·.1)=some a
 | [],i,j,v,h=>by simp [lookAt] at h
 | p::r,i,j,v,h=>by
  simp only [lookAt] at h
  by_cases e:a=p.1
  ·rw [if_pos e] at h; simp at h; obtain ⟨rfl,rfl⟩:=h; simp [e]
  ·rw [if_neg e] at h
   obtain ⟨h1,h2,h3⟩:=lookAt_ge h
   have:j - i=(j - (i + 1)) + 1:=by omega
   exact ⟨by omega,by simp; omega,by rw [this]; simpa using h3⟩
theorem setK_none {a:α} {v:Value}:∀ {kvs:List (α × Value)} {i:Nat},lookAt a kvs i=none→setK a v kvs=kvs++[(a,v)]
 | [],i,h=>rfl
 | p::r,i,h=>by
  simp only [lookAt] at h
  by_cases e:a=p.1
  ·rw [if_pos e] at h; simp at h
  ·rw [if_neg e] at h; simp only [setK,if_neg e,setK_none h,List.cons_append]
theorem setK_some {a:α} {v u:Value}:∀ {kvs:List (α × Value)} {i j:Nat},lookAt a kvs i=some (j,u)→setK a v kvs=kvs.set (j - i) (a,v)
 | [],i,j,h=>by simp [lookAt] at h
 | p::r,i,j,h=>by
  simp only [lookAt] at h
  by_cases e:a=p.1
  ·rw [if_pos e] at h; simp at h; obtain ⟨rfl,rfl⟩:=h; simp [setK,e]
  ·rw [if_neg e] at h
   have hg:=lookAt_ge h
   rw [show j - i=(j - (i + 1)) + 1 by omega]
   simp only [setK,if_neg e,setK_some h,List.set_cons_succ]
theorem map_modify {es:Array MapEntry} (i:Nat) (f:MapEntry→MapEntry):(es.modify i f).toList=es.toList.modify i f:=by simp
theorem Ents.set {es:Array MapEntry} {ck:Nat} (h:Ents enc kvs es ck) {a:α} {i:Nat} {u:Value} (hl:lookAt a kvs 0=some (i,u)) (v:Value):Ents enc (setK a v kvs) (es.modify i fun e=>{ e with key:=enc a,val:=v }) ck:=by
 obtain ⟨h1,h2,h3⟩:=lookAt_ge hl
 simp only [Nat.sub_zero] at h2 h3
 refine ⟨?_,?_,?_⟩
 ·rw [setK_some hl,Nat.sub_zero,map_modify]
  have hk:=h.kv
  apply List.ext_getElem?
  intro j
  have hj:=congrArg (fun l=>l[j]?) hk
  simp only [List.getElem?_map] at hj
  simp only [List.getElem?_map,List.getElem?_modify,List.getElem?_set]
  by_cases e:i=j
  ·subst e
   simp only [if_true,h2]
   rw [List.getElem?_eq_getElem (by have:=congrArg List.length hk; simp at this; simpa [this] using h2)]
   simp
  ·simp only [if_neg e]
   rw [← hj]
   cases es.toList[j]? <;> simp
 ·rw [map_modify]
  rw [show (es.toList.modify i fun e=>{ e with key:=enc a,val:=v }).map (·.born)=es.toList.map (·.born) from by
   apply List.ext_getElem?; intro j; simp only [List.getElem?_map,List.getElem?_modify]; cases es.toList[j]? <;> by_cases e:i=j <;> simp [e]]
  exact h.nodup
 ·intro e he
  rw [map_modify] at he
  obtain ⟨j,hj⟩:=List.getElem?_of_mem he
  rw [List.getElem?_modify] at hj
  cases hq:es.toList[j]? with
  | none=>simp [hq] at hj
  | some e0 =>
   have:=h.born e0 (List.mem_of_getElem? hq)
   simp only [hq,Option.map_eq_map,Option.map_some,Option.some.injEq] at hj
   by_cases c:i=j
   ·rw [if_pos c] at hj; rw [← hj]; exact this
   ·rw [if_neg c] at hj; rw [← hj]; exact this
theorem Ents.push {es:Array MapEntry} {ck:Nat} (h:Ents enc kvs es ck) {a:α} (hl:lookAt a kvs 0=none) (v:Value):Ents enc (setK a v kvs) (es.push { key:=enc a,val:=v,born:=ck }) (ck + 1):=by
 refine ⟨?_,?_,?_⟩
 ·rw [setK_none hl]; simp [h.kv]
 ·simp only [Array.toList_push,List.map_append,List.map_cons,List.map_nil]
  refine List.nodup_append.2 ⟨h.nodup,by simp,?_⟩
  intro x hx y hy
  simp at hy; subst hy
  obtain ⟨e,he,rfl⟩:=List.mem_map.1 hx
  exact Nat.ne_of_lt (h.born e he)
 ·intro e he
  simp only [Array.toList_push,List.mem_append,List.mem_singleton] at he
  rcases he with he | rfl
  ·exact Nat.lt_succ_of_lt (h.born e he)
  ·exact Nat.lt_succ_self _
theorem run_mapUpdate (law:KeyL P K enc) {T E:TypeId} (hT:P.underlying T=some (.map K E)) {es:Array MapEntry} {ck:Nat} (hb:w.heap[b]?=some (.map es ck)) (hen:Ents enc kvs es ck) (a:α) (v:Value) :
  ∃ es' ck',(Instr.mapUpdate T (.map (some b)) (enc a) v).run P w=.ok () { w with heap:=w.heap.setIfInBounds b (.map es' ck') }∧Ents enc (setK a v kvs) es' ck':=by
 have h1:=run_findKey law a w hen.kv
 cases h3:lookAt a kvs 0 with
 | none =>
  refine ⟨es.push { key:=enc a,val:=v,born:=ck },ck + 1,?_,hen.push h3 v⟩
  simp only [Instr.mapUpdate,underlying,Sem.run_bind,run_program,Result.andThen_ok,hT,Sem.run_pure,run_getMap hb,law.check a _ w,h1,h3,run_setObj hb]
 | some q =>
  obtain ⟨i,u⟩:=q
  refine ⟨es.modify i fun e=>{ e with key:=enc a,val:=v },ck,?_,hen.set h3 v⟩
  obtain ⟨g1,g2,g3⟩:=lookAt_ge h3
  simp only [Nat.sub_zero] at g2 g3
  have hk:((es[i]?).map (·.key)).getD (enc a)=enc a:=by
   have hj:=congrArg (fun l=>(l[i]?).map (·.1)) hen.kv
   simp only [List.getElem?_map,Option.map_map] at hj
   have e1:(es[i]?).map (·.key)=(kvs[i]?).map (fun p=>enc p.1):=by
    have:es[i]?=es.toList[i]?:=by simp
    rw [this]
    exact hj
   rw [e1]
   cases hq:kvs[i]? with
   | none=>rfl
   | some p=>rw [hq] at g3; simp at g3; simp [g3]
  simp only [Instr.mapUpdate,underlying,Sem.run_bind,run_program,Result.andThen_ok,hT,Sem.run_pure,run_getMap hb,law.check a _ w,h1,h3,hk,Instr.keyThatStays,law.bits a,if_true,run_setObj hb]
theorem EU.mapUpdate {d g T E x y z ty ps af a v} (hx:ev kn x=some (.map (some b))) (hy:ev kn y=some (enc a)) (hz:ev kn z=some v) (p:Swap L (Mp enc b kvs) (Mp enc b (setK a v kvs)) L') (law:KeyL P K enc) (hT:P.underlying T=some (.map K E)) :
  EU P W0 kn L ⟨d,.mapUpdate T x y z,ty,ps,af,g⟩ L':=fun ρ w he hs=>by
 obtain ⟨R,p1,p2⟩:=p.perm
 have hs2:=hs.perm p1
 obtain ⟨es,ck,hb,hen⟩:=hs2.mp .here
 obtain ⟨es',ck',hr,he'⟩:=run_mapUpdate (w:=w) law hT hb hen a v
 refine ⟨_,?_,(hs2.setMp he').perm p2⟩
 simp only [execOp,he x _ hx,he y _ hy,he z _ hz,Sem.run_bind,hr,Result.andThen_ok]; rfl
end
end
end Go.Proofs.YtadggjnohohedaaGreatDoor
