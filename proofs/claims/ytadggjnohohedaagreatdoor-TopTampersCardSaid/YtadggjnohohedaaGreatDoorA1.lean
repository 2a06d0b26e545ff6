/- TopTampers: for every input the call returns true; part A1 of the proof. -/
import Derived.Test.YtadggjnohohedaaGreatDoorA0
import Derived.ScopeJumps
import Derived.Maps.AppendAt
import Derived.IntWalk
import Derived.Laws.StructEq
import GoSem.Core.View
set_option linter.unusedVariables false
set_option linter.unusedSimpArgs false
set_option linter.unusedSectionVars false
namespace Go.Proofs.YtadggjnohohedaaGreatDoor
section
open Go.RowKit
class HasBk (L:List Thing) (b:Nat) (t:outParam TypeId) (C:outParam (List Value)):Prop where
 ex:∃ R,Pick L (Bk b t C) R
instance (priority:=high) HasBk.here {b t C L}:HasBk (Bk b t C::L) b t C:=⟨_,.here⟩
instance (priority:=low) HasBk.there {U b t C L} [h:HasBk L b t C]:HasBk (U::L) b t C:=⟨h.ex.elim fun R p=>⟨_,.there p⟩⟩
class SwBk (L:List Thing) (b:Nat) (t:TypeId) (C C':List Value) (L':outParam (List Thing)):Prop where
 sw:Swap L (Bk b t C) (Bk b t C') L'
instance (priority:=high) SwBk.here {b t C C' L}:SwBk (Bk b t C::L) b t C C' (Bk b t C'::L):=⟨.here⟩
instance (priority:=low) SwBk.there {U b t C C' L L'} [h:SwBk L b t C C' L']:SwBk (U::L) b t C C' (U::L'):=⟨.there h.sw⟩
class HasMp (L:List Thing) (b:Nat) {α:outParam Type} (enc:outParam (α→Value)) (kvs:outParam (List (α × Value))):Prop where
 ex:∃ R,Pick L (Mp enc b kvs) R
instance (priority:=high) HasMp.here {α:Type} {enc:α→Value} {b kvs L}:HasMp (Mp enc b kvs::L) b enc kvs:=⟨_,.here⟩
instance (priority:=low) HasMp.there {α:Type} {enc:α→Value} {U b kvs L} [h:HasMp L b enc kvs]:HasMp (U::L) b enc kvs:=⟨h.ex.elim fun R p=>⟨_,.there p⟩⟩
instance (priority:=high) HasMp.here2 {α:Type} {enc:α→Value} {b kvs F X}:HasMp ((Mp enc b kvs::F)++X) b enc kvs:=⟨_,.here⟩
instance (priority:=low) HasMp.there2 {α:Type} {enc:α→Value} {U b kvs F X} [h:HasMp (F++X) b enc kvs]:HasMp ((U::F)++X) b enc kvs:=⟨h.ex.elim fun R p=>⟨_,.there p⟩⟩
instance (priority:=high) HasMp.nil2 {α:Type} {enc:α→Value} {b kvs X} [h:HasMp X b enc kvs]:HasMp ([]++X) b enc kvs:=⟨h.ex⟩
class SwMp {α:Type} (L:List Thing) (enc:α→Value) (b:Nat) (kvs kvs':List (α × Value)) (L':outParam (List Thing)):Prop where
 sw:Swap L (Mp enc b kvs) (Mp enc b kvs') L'
instance (priority:=high) SwMp.here {α:Type} {enc:α→Value} {b kvs kvs' L}:SwMp (Mp enc b kvs::L) enc b kvs kvs' (Mp enc b kvs'::L):=⟨.here⟩
instance (priority:=low) SwMp.there {α:Type} {enc:α→Value} {U b kvs kvs' L L'} [h:SwMp L enc b kvs kvs' L']:SwMp (U::L) enc b kvs kvs' (U::L'):=⟨.there h.sw⟩
class HasRw (L:List Thing) (g:Nat) (e size n c:outParam Nat) (xs:outParam (List Value)):Prop where
 ex:∃ R,Pick L (Rw e size (.slice (some ⟨g,0,none⟩) n c) n xs) R
instance (priority:=high) HasRw.here {g e size n c xs L}:HasRw (Rw e size (.slice (some ⟨g,0,none⟩) n c) n xs::L) g e size n c xs:=⟨_,.here⟩
instance (priority:=low) HasRw.there {U g e size n c xs L} [h:HasRw L g e size n c xs]:HasRw (U::L) g e size n c xs:=⟨h.ex.elim fun R p=>⟨_,.there p⟩⟩
instance (priority:=high) HasBk.here2 {b t C F X}:HasBk ((Bk b t C::F)++X) b t C:=⟨_,.here⟩
instance (priority:=low) HasBk.there2 {U b t C F X} [h:HasBk (F++X) b t C]:HasBk ((U::F)++X) b t C:=⟨h.ex.elim fun R p=>⟨_,.there p⟩⟩
instance (priority:=high) HasBk.nil2 {b t C X} [h:HasBk X b t C]:HasBk ([]++X) b t C:=⟨h.ex⟩
instance (priority:=high) SwBk.here2 {b t C C' F X}:SwBk ((Bk b t C::F)++X) b t C C' (Bk b t C'::(F++X)):=⟨.here⟩
instance (priority:=low) SwBk.there2 {U b t C C' F X L'} [h:SwBk (F++X) b t C C' L']:SwBk ((U::F)++X) b t C C' (U::L'):=⟨.there h.sw⟩
instance (priority:=high) SwBk.nil2 {b t C C' X L'} [h:SwBk X b t C C' L']:SwBk ([]++X) b t C C' L':=⟨h.sw⟩
instance (priority:=high) HasRw.here2 {g e size n c xs F X}:HasRw ((Rw e size (.slice (some ⟨g,0,none⟩) n c) n xs::F)++X) g e size n c xs:=⟨_,.here⟩
instance (priority:=low) HasRw.there2 {U g e size n c xs F X} [h:HasRw (F++X) g e size n c xs]:HasRw ((U::F)++X) g e size n c xs:=⟨h.ex.elim fun R p=>⟨_,.there p⟩⟩
instance (priority:=high) HasRw.nil2 {g e size n c xs X} [h:HasRw X g e size n c xs]:HasRw ([]++X) g e size n c xs:=⟨h.ex⟩
inductive App:List Thing→List Thing→List Thing→Prop
 | a0 {R}:App [] R R
 | a1 {T R}:App [T] R (T::R)
 | a2 {T U R}:App [T,U] R (T::U::R)
 | a3 {T U V R}:App [T,U,V] R (T::U::V::R)
 | a4 {T U V X R}:App [T,U,V,X] R (T::U::V::X::R)
 | c {T M R L} (h:App M R L):App (T::M) R (T::L)
theorem App.eq {M R L:List Thing} (h:App M R L):L=M++R:=by
 induction h with
 | c _ ih=>rw [ih]; rfl
 | _=>rfl
inductive Split:List Thing→List Thing→List Thing→Prop
 | e {R}:Split R [] R
 | t {T L F X} (h:Split L F X):Split (T::L) (T::F) X
 | f {T L F X} (h:Split L F X):Split (T::L) F (T::X)
theorem Split.perm {L F X:List Thing} (h:Split L F X):L.Perm (F++X):=by
 induction h with
 | e=>exact List.Perm.refl _
 | t _ ih=>exact List.Perm.cons _ ih
 | f _ ih=>exact (List.Perm.cons _ ih).trans List.perm_middle.symm
section
variable {L R M:List Thing} {T U V X Y Z A B:Thing}
theorem Pick.p0:Pick (T::L) T L:=.here
theorem Pick.p1:Pick (U::T::L) T (U::L):=.there .here
theorem Pick.p2:Pick (V::U::T::L) T (V::U::L):=.there (.there .here)
theorem Pick.p3:Pick (X::V::U::T::L) T (X::V::U::L):=.there (.there (.there .here))
theorem Picks.one (p:Pick L T R):Picks L [T] R:=.cons p .nil
end
section
variable {P:Program} {W0:World} {N:Nat} {ds:List Deferred} {ops:Array Oper} {Q:Exit→Act→World→Prop} {kn kn':Kn} {L L' L'' M R:List Thing} {r:List Oper} {b o:Nat} {t:TypeId} {C C':List Value} {fuel:Nat} {listed:Array Bool} {F X:List Thing} {fr:Nat→Bool}
theorem EX.ld {d g t' x ty ps af v} (hx:ev kn x=some (.pointer (some ⟨b,o,none⟩))) [p:HasBk L b t C] (hc:lc C o=some v) (h1:One P t'):EX P W0 kn L ⟨d,.load t' x,ty,ps,af,g⟩ v:=p.ex.elim fun R p=>EX.load hx p hc h1
theorem EX.ldN {d g t' x ty ps af n cs} (hx:ev kn x=some (.pointer (some ⟨b,o,none⟩))) [p:HasBk L b t C] (h1:Many P t' n) (hc:cutL C o n=some cs):EX P W0 kn L ⟨d,.load t' x,ty,ps,af,g⟩ (.agg cs.toArray):=p.ex.elim fun R p=>EX.loadN hx p h1 hc
theorem EX.ldR {d g t' x ty ps af v e size n c k xs} (hx:ev kn x=some (.pointer (some ⟨b,k,none⟩))) [p:HasRw L b e size n c xs] (hc:xs[k]?=some v) (h1:One P t'):EX P W0 kn L ⟨d,.load t' x,ty,ps,af,g⟩ v:=p.ex.elim fun R p=>EX.loadRw hx p hc h1
theorem EX.ldRN {d g t' x ty ps af e size n c k xs m} {cs:List Value} (hx:ev kn x=some (.pointer (some ⟨b,k,none⟩))) [p:HasRw L b e size n c xs] (h1:Many P t' m) (hl:cs.length=m) (hc:∀ j,j < m→xs[k + j]?=cs[j]?) :
  EX P W0 kn L ⟨d,.load t' x,ty,ps,af,g⟩ (.agg cs.toArray):=p.ex.elim fun R p=>EX.loadRwN hx p h1 hl hc
theorem EU.st {d g T x y ty pos af v n} (hx:ev kn x=some (.pointer (some ⟨b,o,none⟩))) (hy:ev kn y=some v) (hs1:SZ P T n) (hn:Nat.beq (vc v).length n=true) (ho:ones (vc v)=true) [p:HasBk L b t C] (hC:putL C o (vc v)=some C')
  [q:SwBk L b t C C' L']:EU P W0 kn L ⟨d,.store T x y,ty,pos,af,g⟩ L':=EU.store hx hy hs1 hn ho hC q.sw
theorem Off.undef {o:Oper} {j d:Nat} {want:Bool} (h:o.guard=some (j,want)) {oj:Oper} (hj:ops[j]?=some oj) (hd:oj.dst=some d) (hb:lk kn d=some Go.undef):Off ops kn o:=by
 intro N ds a ha
 have:yielded ops a.tmps j=none:=by simp [yielded,hj,hd,ha.slot hb,Go.undef]
 simp [Region.wanted,h,this]
theorem EX.lk {α:Type} [DecidableEq α] {enc:α→Value} {kvs:List (α × Value)} {K:TypeId} {d g T E x y ty ps af a z} (hx:ev kn x=some (.map (some b))) [p:HasMp L b enc kvs] (hy:ev kn y=some (enc a)) (law:KeyL P K enc) (hT:P.underlying T=some (.map K E)) (hz:ZV P E z) :
  EX P W0 kn L ⟨d,.lookup T x y false,ty,ps,af,g⟩ (lookV z (look kvs a)):=p.ex.elim fun R p=>EX.lookup hx hy p law hT hz
theorem EX.lkOk {α:Type} [DecidableEq α] {enc:α→Value} {kvs:List (α × Value)} {K:TypeId} {d g T E x y ty ps af a z} (hx:ev kn x=some (.map (some b))) [p:HasMp L b enc kvs] (hy:ev kn y=some (enc a)) (law:KeyL P K enc) (hT:P.underlying T=some (.map K E)) (hz:ZV P E z) :
  EX P W0 kn L ⟨d,.lookup T x y true,ty,ps,af,g⟩ (.tuple #[lookV z (look kvs a),.bool (look kvs a).isSome]):=p.ex.elim fun R p=>EX.lookupOk hx hy p law hT hz
theorem EU.mu {α:Type} [DecidableEq α] {enc:α→Value} {kvs:List (α × Value)} {K:TypeId} {d g T E x y z ty ps af a v} (hx:ev kn x=some (.map (some b))) [p:HasMp L b enc kvs] (hy:ev kn y=some (enc a)) (hz:ev kn z=some v) [q:SwMp L enc b kvs (setK a v kvs) L'] (law:KeyL P K enc) (hT:P.underlying T=some (.map K E)) :
  EU P W0 kn L ⟨d,.mapUpdate T x y z,ty,ps,af,g⟩ L':=EU.mapUpdate hx hy hz q.sw law hT
theorem L.v {o:Oper} {v:Value} {d:Nat} (hx:EX P W0 kn L o v) (hd:o.dst=some d) (hN:Nat.blt d N=true) (hg:o.guard=none) (h:GL P W0 N ds ops Q r ((d,v)::kn) L):GL P W0 N ds ops Q (o::r) kn L:=GL.val hx hd hN (.free hg) h
theorem L.f {α:Type} {o:Oper} {v:α→Value} {T:α→List Thing} {C:α→Prop} {d:Nat} (hx:EF P W0 kn L o v T C) (hd:o.dst=some d) (hN:Nat.blt d N=true) (hg:o.guard=none) (h:∀ x,C x→GL P W0 N ds ops Q r ((d,v x)::kn) (T x)):GL P W0 N ds ops Q (o::r) kn L :=
 GL.eff hx hd hN (.free hg) h
theorem L.u {o:Oper} {T:List Thing} (hx:EU P W0 kn L o T) (hd:o.dst=none) (hg:o.guard=none) (h:GL P W0 N ds ops Q r kn T):GL P W0 N ds ops Q (o::r) kn L:=GL.do hx hd (.free hg) h
theorem GL.case (d:Nat) {b:Bool} (hb:lk kn d=some (.bool b)) (ht:b=true→GL P W0 N ds ops Q r kn L) (hf:b=false→GL P W0 N ds ops Q r kn L):GL P W0 N ds ops Q r kn L:=by
 cases b with
 | true=>exact ht rfl
 | false=>exact hf rfl
theorem GD.case (d:Nat) {b:Bool} {F1:List Thing} {s:Nat} (hb:lk kn d=some (.bool b)) (ht:b=true→GD P W0 N ds ops F F1 s Q fuel listed kn L) (hf:b=false→GD P W0 N ds ops F F1 s Q fuel listed kn L):GD P W0 N ds ops F F1 s Q fuel listed kn L:=by
 cases b with
 | true=>exact ht rfl
 | false=>exact hf rfl
inductive Sub (kn:Kn):Kn→Prop
 | n:Sub kn []
 | c {d v kn'} (h:lk kn d=some v) (r:Sub kn kn'):Sub kn ((d,v)::kn')
theorem Sub.all {kn kn':Kn} (h:Sub kn kn'):∀ p∈kn',lk kn p.1=some p.2:=by
 induction h with
 | n=>intro p hp; exact (List.not_mem_nil hp).elim
 | c h _ ih =>
  intro p hp
  rcases List.mem_cons.1 hp with rfl | hp
  ·exact h
  ·exact ih p hp
theorem GC.lp {σ:Type} {c:Code} (k:σ→Kn) (T:σ→List Thing) (C:σ→Prop) (m:σ→Nat) (s0:σ) (hk:Sub kn (k s0)) (hL:Part L (T s0)) (hc:C s0)
  (h:∀ s,C s→GC P W0 N ds c (Exit.then (fun a w=>∃ s',(m s' < m s∧C s')∧Has N ds (k s') a∧Sts W0 w (T s')) Q) (k s) (T s)):GC P W0 N ds (.loop c) Q kn L:=by
 refine GC.loop (σ:={s // C s}) (fun s=>k s.1) (fun s=>T s.1) (fun s=>m s.1) ⟨s0,hc⟩ (fun s a w ha hs=>?_) hk.all hL
 refine wp_mono (h s.1 s.2 a w ha hs) ?_
 intro e a' w' hq
 cases e with
 | normal=>obtain ⟨s',⟨h1,h2⟩,h3,h4⟩:=hq; exact ⟨⟨s',h2⟩,h1,h3,h4⟩
 | _=>exact hq
theorem GE.ag {σ:Type} {k:σ→Kn} {T:σ→List Thing} {C:σ→Prop} {m:σ→Nat} {s:σ} (s':σ) (hk:Sub kn (k s')) (hL:Part L (T s')) (hm:m s' < m s) (hc:C s') :
  GE W0 N ds .normal (Exit.then (fun a w=>∃ s',(m s' < m s∧C s')∧Has N ds (k s') a∧Sts W0 w (T s')) Q) kn L:=fun a w ha hs=>⟨s',⟨hm,hc⟩,ha.sub hk.all,hs.part hL⟩
theorem GC.ls {c:Code} (hk:Sub kn kn') (hL:Part L L') (h:GC P W0 N ds c Q kn' L'):GC P W0 N ds c Q kn L:=GC.less h hk.all hL
theorem GC.join {σ:Type} {x y:Code} (k:σ→Kn) (T:σ→List Thing) (C:σ→Prop) (hy:∀ s,C s→GC P W0 N ds y Q (k s) (T s)) (hx:GC P W0 N ds x (Exit.then (fun a w=>∃ s,C s∧Has N ds (k s) a∧Sts W0 w (T s)) Q) kn L):GC P W0 N ds (.seq x y) Q kn L:=by
 intro a w ha hs
 refine wp_seq (wp_mono (hx a w ha hs) ?_)
 intro e a' w' hq
 cases e with
 | normal=>obtain ⟨s,hc,ha',hs'⟩:=hq; exact hy s hc a' w' ha' hs'
 | _=>exact hq
theorem GE.jn {σ:Type} {k:σ→Kn} {T:σ→List Thing} {C:σ→Prop} (s:σ) (hk:Sub kn (k s)) (hL:Part L (T s)) (hc:C s):GE W0 N ds .normal (Exit.then (fun a w=>∃ s,C s∧Has N ds (k s) a∧Sts W0 w (T s)) Q) kn L :=
 fun a w ha hs=>⟨s,hc,ha.sub hk.all,hs.part hL⟩
theorem GC.label {i:Nat} (h:GE W0 N ds .normal Q kn L):GC P W0 N ds (.label i) Q kn L:=fun a w ha hs=>wp_label (h a w ha hs)
theorem GC.goto {i:Nat} (h:GE W0 N ds (.goto i) Q kn L):GC P W0 N ds (.goto i) Q kn L:=fun a w ha hs=>wp_goto (h a w ha hs)
theorem GC.scope {σ:Type} {c rest:Code} (l:Nat) (k:σ→Kn) (T:σ→List Thing) (C:σ→Prop) (hf:findLabel c l=some rest)
  (hr:∀ s,C s→GC P W0 N ds rest (Exit.jump l (fun _ _=>False) Q) (k s) (T s)) (h:GC P W0 N ds c (Exit.jump l (fun a w=>∃ s,C s∧Has N ds (k s) a∧Sts W0 w (T s)) Q) kn L):GC P W0 N ds (.scope c) Q kn L:=by
 intro a w ha hs
 refine wp_scope_jumps l (fun a w=>∃ s,C s∧Has N ds (k s) a∧Sts W0 w (T s)) (fun _ _=>0) hf (h a w ha hs) ?_
 rintro a w ⟨s,hc,ha',hs'⟩
 refine wp_mono (hr s hc a w ha' hs') ?_
 intro e a' w' hq
 cases e with
 | goto j=>exact hq.2.elim
 | _=>exact hq
theorem GC.ex {σ:Type} {c:Code} {T:σ→List Thing} (hL:∀ w,Sts W0 w L→∃ s,Sts W0 w (T s)) (h:∀ s,GC P W0 N ds c Q kn (T s)):GC P W0 N ds c Q kn L:=fun a w ha hs=>(hL w hs).elim fun s hs'=>h s a w ha hs'
theorem GL.ex {σ:Type} {T:σ→List Thing} (hL:∀ w,Sts W0 w L→∃ s,Sts W0 w (T s)) (h:∀ s,GL P W0 N ds ops Q r kn (T s)):GL P W0 N ds ops Q r kn L:=fun a w ha hs=>(hL w hs).elim fun s hs'=>h s a w ha hs'
theorem K.c {o:Oper} {f:FuncId} {args:List Value} {M':List Thing} {v:Value} {d:Nat} (hx:EC P kn o f args) (hc:Fn1 P f args.toArray M v M') (hp:Picks L M R) (ha:App M' R L'') (hd:o.dst=some d) (hN:Nat.blt d N=true) (hon:On ops kn o)
  (h:GL P W0 N ds ops Q r ((d,v)::kn) L''):GL P W0 N ds ops Q (o::r) kn L:=GL.call hx hc hp hd hN hon (ha.eq ▸ h)
theorem K.x {α:Type} {o:Oper} {f:FuncId} {args:List Value} {v:α→Value} {M':α→List Thing} {C:α→Prop} {L3:α→List Thing} {d:Nat} (hx:EC P kn o f args) (hc:FnX P f args M v M' C) (hp:Picks L M R) (ha:∀ x,App (M' x) R (L3 x)) (hd:o.dst=some d)
  (hN:Nat.blt d N=true) (hon:On ops kn o) (h:∀ x,C x→GL P W0 N ds ops Q r ((d,v x)::kn) (L3 x)):GL P W0 N ds ops Q (o::r) kn L:=GL.callX hx hc hp hd hN hon (fun x hcx=>(ha x).eq ▸ h x hcx)
theorem K.x0 {α:Type} {o:Oper} {f:FuncId} {args:List Value} {v:α→Value} {M':α→List Thing} {C:α→Prop} {L3:α→List Thing} (hx:EC P kn o f args) (hc:FnX P f args M v M' C) (hp:Picks L M R) (ha:∀ x,App (M' x) R (L3 x)) (hd:o.dst=none)
  (hon:On ops kn o) (h:∀ x,C x→GL P W0 N ds ops Q r kn (L3 x)):GL P W0 N ds ops Q (o::r) kn L:=GL.callX0 hx hc hp hd hon (fun x hcx=>(ha x).eq ▸ h x hcx)
theorem K.p {α β:Type} {o:Oper} {f:FuncId} {args:List Value} {v:α→Value} {M':α→List Thing} {C:α→Prop} {ch:β→List PanicEntry} {M'':β→List Thing} {D:β→Prop} {L3:α→List Thing} {L4:β→List Thing} {d:Nat} (hx:EC P kn o f args)
  (hc:FnP P f args M v M' C ch M'' D) (hp:Picks L M R) (ha:∀ x,App (M' x) R (L3 x)) (hb:∀ y,App (M'' y) R (L4 y)) (hd:o.dst=some d) (hN:Nat.blt d N=true) (hon:On ops kn o) (h:∀ x,C x→GL P W0 N ds ops Q r ((d,v x)::kn) (L3 x))
  (h':∀ y,D y→GE W0 N ds (.panic (ch y)) Q kn (L4 y)):GL P W0 N ds ops Q (o::r) kn L:=GL.callP hx hc hp hd hN hon (fun x hcx=>(ha x).eq ▸ h x hcx) (fun y hy=>(hb y).eq ▸ h' y hy)
theorem K.p0 {α β:Type} {o:Oper} {f:FuncId} {args:List Value} {v:α→Value} {M':α→List Thing} {C:α→Prop} {ch:β→List PanicEntry} {M'':β→List Thing} {D:β→Prop} {L3:α→List Thing} {L4:β→List Thing} (hx:EC P kn o f args)
  (hc:FnP P f args M v M' C ch M'' D) (hp:Picks L M R) (ha:∀ x,App (M' x) R (L3 x)) (hb:∀ y,App (M'' y) R (L4 y)) (hd:o.dst=none) (hon:On ops kn o) (h:∀ x,C x→GL P W0 N ds ops Q r kn (L3 x))
  (h':∀ y,D y→GE W0 N ds (.panic (ch y)) Q kn (L4 y)):GL P W0 N ds ops Q (o::r) kn L:=GL.callP0 hx hc hp hd hon (fun x hcx=>(ha x).eq ▸ h x hcx) (fun y hy=>(hb y).eq ▸ h' y hy)
theorem GC.dr {id:Nat} (F1:List Thing) (s n:Nat) (hn:ops.size=n) (hm:P.follows .mixedOrders=true) (hL:Split L F X) (h:GD P W0 N ds ops F F1 s Q n (Array.replicate n false) kn L):GC P W0 N ds (.region id ops true) Q kn L :=
 GC.draw F F1 X s n hn hm hL.perm h
theorem GC.dr1 {id:Nat} (n:Nat) (hn:ops.size=n) (hm:P.follows .mixedOrders=true) (hL:Split L F X) (h:GD P W0 N ds ops F F n Q n (Array.replicate n false) kn L):GC P W0 N ds (.region id ops true) Q kn L :=
 GC.draw F F X n n hn hm hL.perm h
theorem one_cls:∀ p w,Cls W0 F F p w→Cls W0 F F 0 w:=fun p w h=>by unfold Cls at *; cases p <;> exact h
theorem D.v (i:Nat) {o:Oper} {v:Value} {d n:Nat} (hB:stepB ops n listed i=true) (hi:ops[i]?=some o) (hx:∀ X,EX P W0 kn (F++X) o v) (hd:o.dst=some d) (hN:Nat.blt d N=true) (hg:o.guard=none)
  (h:GD P W0 N ds ops F F n Q fuel (listed.setIfInBounds i true) ((d,v)::kn) L):GD P W0 N ds ops F F n Q (fuel + 1) listed kn L:=GD.val hB (.inr one_cls) hi hx hd hN (.free hg) h
theorem D.g (i:Nat) {o:Oper} {v:Value} {d n:Nat} (hB:stepB ops n listed i=true) (hi:ops[i]?=some o) (hx:∀ X,EX P W0 kn (F++X) o v) (hd:o.dst=some d) (hN:Nat.blt d N=true) (hon:On ops kn o)
  (h:GD P W0 N ds ops F F n Q fuel (listed.setIfInBounds i true) ((d,v)::kn) L):GD P W0 N ds ops F F n Q (fuel + 1) listed kn L:=GD.val hB (.inr one_cls) hi hx hd hN hon h
theorem D.e (i:Nat) {o:Oper} {v:Value} {d s:Nat} {F1:List Thing} (hB:stepB ops s listed i=true) (he:earlyB ops s i=true) (hi:ops[i]?=some o) (hx:∀ X,EX P W0 kn (F++X) o v) (hd:o.dst=some d) (hN:Nat.blt d N=true) (hg:o.guard=none)
  (h:GD P W0 N ds ops F F1 s Q fuel (listed.setIfInBounds i true) ((d,v)::kn) L):GD P W0 N ds ops F F1 s Q (fuel + 1) listed kn L:=GD.val hB (.inl he) hi hx hd hN (.free hg) h
theorem D.p (i:Nat) {o:Oper} {v:Value} {d s:Nat} {F1:List Thing} (hB:stepB ops s listed i=true) (hi:ops[i]?=some o) (hx:∀ L,EX P W0 kn L o v) (hd:o.dst=some d) (hN:Nat.blt d N=true) (hg:o.guard=none)
  (h:GD P W0 N ds ops F F1 s Q fuel (listed.setIfInBounds i true) ((d,v)::kn) L):GD P W0 N ds ops F F1 s Q (fuel + 1) listed kn L:=GD.pure hB hi hx hd hN (.free hg) h
theorem D.pg (i:Nat) {o:Oper} {v:Value} {d s:Nat} {F1:List Thing} (hB:stepB ops s listed i=true) (hi:ops[i]?=some o) (hx:∀ L,EX P W0 kn L o v) (hd:o.dst=some d) (hN:Nat.blt d N=true) (hon:On ops kn o)
  (h:GD P W0 N ds ops F F1 s Q fuel (listed.setIfInBounds i true) ((d,v)::kn) L):GD P W0 N ds ops F F1 s Q (fuel + 1) listed kn L:=GD.pure hB hi hx hd hN hon h
theorem D.off (i:Nat) {o:Oper} {d s:Nat} {F1:List Thing} (hB:stepB ops s listed i=true) (hi:ops[i]?=some o) (hd:o.dst=some d) (hN:Nat.blt d N=true) (hoff:Off ops kn o)
  (h:GD P W0 N ds ops F F1 s Q fuel (listed.setIfInBounds i true) ((d,undef)::kn) L):GD P W0 N ds ops F F1 s Q (fuel + 1) listed kn L:=GD.off hB hi hd hN hoff h
theorem D.n {n:Nat} (hL:Part L (F++X)) (h:GD P W0 N ds ops F F n Q fuel listed kn L):GL P W0 N ds ops (QD P W0 ops F F n Q fuel listed) [] kn L :=
 fun a w ha hs hcl=>by
  have hc:Cls W0 F F (ph n listed) w:=by unfold Cls; cases ph n listed <;> exact ⟨X,hs.part hL⟩
  exact ⟨hc,h a w ha hs hcl hc⟩
theorem D.n0 {s:Nat} {F1:List Thing} (hp:ph s listed=0) (hL:Part L (F++X)) (h:GD P W0 N ds ops F F1 s Q fuel listed kn L):GL P W0 N ds ops (QD P W0 ops F F1 s Q fuel listed) [] kn L :=
 fun a w ha hs hcl=>by
  have hc:Cls W0 F F1 (ph s listed) w:=by rw [hp]; exact ⟨X,hs.part hL⟩
  exact ⟨hc,h a w ha hs hcl hc⟩
theorem D.n1 {s:Nat} {F1:List Thing} (hp:ph s listed=1) (hL:Part L (F1++X)) (h:GD P W0 N ds ops F F1 s Q fuel listed kn L):GL P W0 N ds ops (QD P W0 ops F F1 s Q fuel listed) [] kn L :=
 fun a w ha hs hcl=>by
  have hc:Cls W0 F F1 (ph s listed) w:=by rw [hp]; exact ⟨X,hs.part hL⟩
  exact ⟨hc,h a w ha hs hcl hc⟩
theorem Fn.go {f:FuncId} {fn:Func} {c:Code} {args:List Value} {post:Ending→(List Thing→Prop)→Prop} (hf:P.funcs[f]?=some fn) (hb:fn.body=some c) (hn:fn.ntmps=N) (hN:Nat.ble args.length N=true)
  (h:∀ W0 R,GC P W0 N [] c (bodyPost P fn (fun e w'=>post e (fun T=>Sts W0 w' (T++R)))) (argKn 0 args) (M++R)):Fn P f args.toArray M post:=Fn.enter hf hb hn hN h
theorem GC.app {c:Code} (ha:App M R L) (h:GC P W0 N ds c Q kn L):GC P W0 N ds c Q kn (M++R):=ha.eq ▸ h
end
end
section
open Go.RowKit
theorem wi {n:Int} (h:-9223372036854775808≤n∧n≤9223372036854775807):IntKind.i64.wrap n=n:=IntWalk.i64_in n h
theorem wb {n:Int} (h:0≤n∧n≤255):IntKind.u8.wrap n=n:=IntWalk.u8_in n h
def APt (P:Program) (T e size bytes:Nat) (z:Value):Prop:=P.underlying T=some (.slice e)∧(P.info? e).map (fun i=>(i.zero,i.size,i.bytes))=some (some z,size,bytes)∧(vc z).length=size∧0 < size
def Sl (n:Nat) (v:Value):Prop:=∃ a c,v=.slice a n c
section
variable {P:Program} {W0 W w:World} {L L' R:List Thing} {kn:Kn} {b g:Nat}
theorem Sts.appendRw {e size n m:Nat} {v v':Value} {xs ys:List Value} (h:Sts W0 W (Rw e size v n xs::L)) (hown:w.ownsRow 0 e size v' m ys) (hg:W.grownBy w v.ownBlock) (hat:v'.ownBlock=v.ownBlock∨v'.ownBlock=some W.heap.size):Sts W0 w (Rw e size v' m ys::L):=by
 unfold Rw at *
 refine h.append hown hg (fun b hb=>?_)
 rcases hat with e | e
 ·exact .inl (e ▸ hb)
 ·rw [e] at hb; injection hb with hb; exact .inr (by omega)
theorem append_run {T e size bytes:Nat} {z:Value} (hT:APt P T e size bytes z) {v:Value} {n:Nat} {xs:List Value} (hown:W.ownsRow 0 e size v n xs) {a:Addr} {m c:Nat} {news:List Value} (hl:news.length=m * size) (hnews:∀ j u,news[j]?=some u→W.cell? (a.add j)=some u)
  (h1:∀ u∈news,u.oneCell'=true) (h63:n + m≤maxLen) (hby:(n + m) * bytes≤140737488355328) (ty:TypeId) :
  ∃ v' w',(Builtin.append_ #[T,T] ty #[v,.slice (some a) m c]).run P W=.ok v' w'∧w'.ownsRow 0 e size v' (n + m) (xs++news)∧W.grownBy w' v.ownBlock∧(v'.ownBlock=v.ownBlock∨v'.ownBlock=some W.heap.size):=by
 obtain ⟨h2,h3,h4,h5⟩:=hT
 obtain ⟨i,hi,hz,hs,hb⟩:∃ i,P.info? e=some i∧i.zero=some z∧i.size=size∧i.bytes=bytes:=by
  cases hi:P.info? e with
  | none=>simp [hi] at h3
  | some i=>rw [hi] at h3; simp at h3; exact ⟨i,rfl,h3⟩
 obtain ⟨v',w',r1,r2,r3,r4,r5⟩:=run_append_own_at (P:=P) W 0 T ty e i z size bytes h2 hi hz hs hb (by rw [vc_eq]; simpa using h4) h5 v n xs hown a m c news hl hnews h1 h63 hby (Nat.zero_le _)
 exact ⟨v',w',r1,r2,r3,r5⟩
theorem EF.append {d gu x y ty pos af T e size bytes z v n xs m c t} {C:List Value} {L3:Value→List Thing} (hx:ev kn x=some v) (hy:ev kn y=some (.slice (some ⟨b,0,none⟩) m c)) (hT:APt P T e size bytes z) (p:∀ v',Swap L (Rw e size v n xs) (Rw e size v' (n + m) (xs++C)) (L3 v'))
  (q:Pick L (Bk b t C) R) (hl:C.length=m * size) (h1:ones C=true) (h63:n + m≤maxLen) (hby:(n + m) * bytes≤140737488355328) :
  EF P W0 kn L ⟨d,.call { callee:=.builtin .append,args:=#[x,y],argTypes:=#[T,T] },ty,pos,af,gu⟩ (fun v':Value=>v') L3 (Sl (n + m)):=fun ρ w he hs=>by
 obtain ⟨R',p1,p2⟩:=(p v).perm
 have hs2:=hs.perm p1
 have hown:=hs2.rw .here
 have hat:=hs.bk q
 obtain ⟨v',w',r1,r2,r3,r4⟩:=append_run (P:=P) (a:=⟨b,0,none⟩) (c:=c) hT hown hl (fun j u hj=>by rw [add_off,Nat.zero_add,hat.rd]; simpa using hj) (ones_spec h1) h63 hby ty
 have hs3:=hs2.appendRw r2 r3 r4
 have hf:=row_form r2
 obtain ⟨a,c',e1,_⟩:=hf
 refine ⟨v',w',⟨a,c',e1⟩,?_,?_⟩
 ·simp only [execOp,resolve,invoke,builtin,Sem.run_bind,Sem.run_pure,Result.andThen_ok,List.map_toArray,List.map_cons,List.map_nil,he x _ hx,he y _ hy,r1]
 ·obtain ⟨R2,q1,q2⟩:=(p v').perm
  have hR:(Rw e size v n xs::R').Perm (Rw e size v n xs::R2):=p1.symm.trans q1
  exact (hs3.perm (List.Perm.cons _ ((List.perm_cons _).1 hR))).perm q2
theorem EX.eqlN {d g T ty' x y ty ps af a e} (hx:ev kn x=some (.pointer a)) (hy:ev kn y=some (.pointer none)) (hT:P.underlying T=some (.pointer e)):EX P W0 kn L ⟨d,.binOp .eql T x y ty',ty,ps,af,g⟩ (.bool a.isNone):=fun ρ w he hs=>by
 have hp:P.underlying T=some (.pointer (P.pointee T)):=by unfold Program.pointee; rw [hT]
 have h1:=run_eql_pointer_nil (P:=P) w T a hp
 have h2:(eqGuard .eql T x y (.pointer a) (.pointer none)).run P w=.ok () w:=by simp [eqGuard]
 simp only [execOp,he x _ hx,he y _ hy,Sem.run_bind,h1,h2,Result.andThen_ok]
 cases a <;> rfl
theorem EX.neqN {d g T ty' x y ty ps af a e} (hx:ev kn x=some (.pointer a)) (hy:ev kn y=some (.pointer none)) (hT:P.underlying T=some (.pointer e)):EX P W0 kn L ⟨d,.binOp .neq T x y ty',ty,ps,af,g⟩ (.bool a.isSome):=fun ρ w he hs=>by
 have hp:P.underlying T=some (.pointer (P.pointee T)):=by unfold Program.pointee; rw [hT]
 have h1:=run_neq_pointer_nil (P:=P) w T a hp
 have h2:(eqGuard .neq T x y (.pointer a) (.pointer none)).run P w=.ok () w:=by simp [eqGuard]
 simp only [execOp,he x _ hx,he y _ hy,Sem.run_bind,h1,h2,Result.andThen_ok]
 cases a <;> rfl
theorem EX.max2 {d g ty ps af x y k m n r tys} (hx:ev kn x=some (.int k m)) (hy:ev kn y=some (.int k n)) (hr:(if n > m then n else m)=r):EX P W0 kn L ⟨d,.call { callee:=.builtin .max,args:=#[x,y],argTypes:=tys },ty,ps,af,g⟩ (.int k r):=fun ρ w he hs=>by
 subst hr; simp [execOp,resolve,invoke,builtin,Builtin.max_,Builtin.max2,he x _ hx,he y _ hy]
theorem EX.max3 {d g ty ps af x y z k m n q r tys} (hx:ev kn x=some (.int k m)) (hy:ev kn y=some (.int k n)) (hz:ev kn z=some (.int k q)) (hr:(if q > (if n > m then n else m) then q else (if n > m then n else m))=r):EX P W0 kn L ⟨d,.call { callee:=.builtin .max,args:=#[x,y,z],argTypes:=tys },ty,ps,af,g⟩ (.int k r):=fun ρ w he hs=>by
 subst hr; simp [execOp,resolve,invoke,builtin,Builtin.max_,Builtin.max2,he x _ hx,he y _ hy,he z _ hz]
theorem EX.indexS {d g T x i ty ps af s k m} (hx:ev kn x=some (.string s)) (hi:ev kn i=some (.int k m)) (hT:P.underlying T=some .string) (hb:0≤m∧m.toNat < s.size):EX P W0 kn L ⟨d,.index T x i,ty,ps,af,g⟩ (.int .u8 (s[m.toNat]'hb.2).toNat):=fun ρ w he hs=>by
 simp only [execOp,he x _ hx,he i _ hi,Instr.index,asIntOf,underlying,Sem.run_bind,Sem.run_pure,run_program,Result.andThen_ok,hT,hb.1,if_true,getElem?_pos s m.toNat hb.2]
theorem EX.indexA {d g T x i ty ps af cs k m n s r} (hx:ev kn x=some (.agg cs)) (hi:ev kn i=some (.int k m)) (hT:AR P T n s) (h1:Bool) (hb:0≤m∧m < (n:Int)) (hp:∀ e w,P.underlying T=some (.array n e)→(part e cs (m.toNat * s)).run P w=.ok r w) :
  EX P W0 kn L ⟨d,.index T x i,ty,ps,af,g⟩ r:=fun ρ w he hs=>by
 obtain ⟨e,h1,h2⟩:=hT
 have hsz:(sizeOf e).run P w=.ok s w:=by
  cases hi:P.info? e with
  | none=>simp [hi] at h2
  | some i=>rw [hi] at h2; simp at h2; simp [sizeOf,typeInfo,hi,h2]
 simp only [execOp,he x _ hx,he i _ hi,Instr.index,asIntOf,underlying,Sem.run_bind,Sem.run_pure,run_program,Result.andThen_ok,h1,hb,and_self,if_true,hsz,hp e w h1]
end
end
section
structure Tm where
 kind:Int
 s:ByteArray
 n:Int
 a:Int
 b:Int
 c:Int
theorem Tm.ext' {x y:Tm} (h:x.kind=y.kind∧x.s=y.s∧x.n=y.n∧x.a=y.a∧x.b=y.b∧x.c=y.c):x=y:=by
 cases x; cases y; simp only at h; obtain ⟨rfl,rfl,rfl,rfl,rfl,rfl⟩:=h; rfl
instance:DecidableEq Tm:=fun x y=>decidable_of_iff (x.kind=y.kind∧x.s=y.s∧x.n=y.n∧x.a=y.a∧x.b=y.b∧x.c=y.c) ⟨Tm.ext',fun h=>by rw [h]; exact ⟨rfl,rfl,rfl,rfl,rfl,rfl⟩⟩
def i64 (x:Int):Prop:=-9223372036854775808≤x∧x≤9223372036854775807
def u64 (x:Int):Prop:=0≤x∧x≤18446744073709551615
structure Tm.Fits (t:Tm):Prop where
 kind:i64 t.kind
 s:t.s.size≤140737488355328
 n:u64 t.n
 a:i64 t.a
 b:i64 t.b
 c:i64 t.c
def tm0:Tm:=⟨0,⟨#[]⟩,0,0,0,0⟩
def Tm.parts (t:Tm):List Int :=
 if t.kind=3∨t.kind=5∨t.kind=9 then [t.a]
 else if t.kind=4∨t.kind=6∨t.kind=7∨t.kind=8∨t.kind=11 then [t.a,t.b]
 else if t.kind=10 then [t.a,t.b,t.c]
 else []
def Tm.only (t : Tm) : Tm :=
  { kind := t.kind, s := if t.kind = 1 then t.s else ⟨#[]⟩, n := if t.kind = 2 ∨ t.kind = 9 ∨ t.kind = 10 then t.n else 0,
    a := t.parts[0]?.getD 0, b := t.parts[1]?.getD 0, c := t.parts[2]?.getD 0 }
def Tm.may (l:List Tm) (t:Tm):Bool :=
 decide (1≤t.kind) && decide (t.kind < 12) && decide (t=t.only) && decide (t.s.size≤1000) && !(decide (t.kind=4) && decide (t.b < t.a)) && t.parts.all (fun p=>decide (1≤p) && decide (p≤l.length))
def putT (l:List Tm) (most:Int) (t:Tm):Int × Int × List Tm :=
 if t.may l then
  match l.findIdx? (·=t) with
  | some i=>((i:Int) + 1,0,l)
  | none=>if most≤(l.length:Int) then (0,4,l) else ((l.length:Int) + 1,0,l++[t])
 else (0,1,l)
def getT (l:List Tm) (name:Int):Tm:=if 1≤name∧name≤l.length then l.getD (name.toNat - 1) tm0 else tm0
def isT (l:List Tm) (name:Int):Bool:=decide (1≤name) && decide (name≤l.length)
end
section
open Go.RowKit
set_option maxRecDepth 100000
def tcells (t:Tm):List Value:=[.int .i64 t.kind,.string t.s,.int .u64 t.n,.int .i64 t.a,.int .i64 t.b,.int .i64 t.c]
def tval (t:Tm):Value:=.agg #[.int .i64 t.kind,.string t.s,.int .u64 t.n,.int .i64 t.a,.int .i64 t.b,.int .i64 t.c]
theorem eq94 (t u:Tm) (w:World):(Op.equalIn 10000 94 (tval t) (tval u)).run Tryz.prog w=.ok (decide (t=u)) w:=by
 have hS:Tryz.prog.underlying 94=some (.struct (Tryz.prog.fieldsOf 94)):=by kernel_rfl
 have u3:=Tryz.underlying3
 have u9:=Tryz.underlying9
 have u30:=Tryz.underlying30
 unfold tval
 rw [run_equalIn_agg w 9999 94 _ _ hS (by kernel_rfl)]
 simp only [Program.fieldsOf,Tryz.underlying94]
 go_simp
 obtain ⟨k,s,n,a,b,c⟩:=t
 obtain ⟨k',s',n',a',b',c'⟩:=u
 have hs:=bytes_beq s s'
 simp only [beq_iff_eq] at hs ⊢
 simp only [Tm.mk.injEq]
 by_cases h1:k=k' <;> by_cases h2:s=s' <;> by_cases h3:n=n' <;> by_cases h4:a=a' <;> by_cases h5:b=b' <;> by_cases h6:c=c' <;> simp_all
theorem EX.neqTm {W0 kn L d g ty' x y ty ps af} {t u:Tm} (hx:ev kn x=some (tval t)) (hy:ev kn y=some (tval u)):EX Tryz.prog W0 kn L ⟨d,.binOp .neq 94 x y ty',ty,ps,af,g⟩ (.bool (decide (t≠u))):=fun ρ w he hs=>by
 have hg:(eqGuard .neq 94 x y (tval t) (tval u)).run Tryz.prog w=.ok () w:=run_eqGuard_agg w .neq 94 x y _ _ (by kernel_rfl)
 have hb:(binOp .neq 94 (tval t) (tval u)).run Tryz.prog w=.ok (.bool (!decide (t=u))) w:=by
  have:=run_neq_struct (P:=Tryz.prog) w 94 #[.int .i64 t.kind,.string t.s,.int .u64 t.n,.int .i64 t.a,.int .i64 t.b,.int .i64 t.c] #[.int .i64 u.kind,.string u.s,.int .u64 u.n,.int .i64 u.a,.int .i64 u.b,.int .i64 u.c]
  unfold tval at *
  rw [this]
  have h2:=eq94 t u w
  unfold tval at h2
  rw [h2]; rfl
 simp only [execOp,he x _ hx,he y _ hy,Sem.run_bind,hg,Result.andThen_ok,hb]
 by_cases e:t=u <;> simp [e]
end
section
open Go.RowKit
set_option maxRecDepth 100000
def i64s (l:List Int):List Value:=l.map fun x=>Value.int .i64 x
theorem i64s_len (l:List Int):(i64s l).length=l.length:=by simp [i64s]
theorem i64s_getD {l:List Int} {k:Nat} (h:k < l.length):(i64s l)[k]?=some (.int .i64 (l[k]?.getD 0)):=by simp [i64s,h]
def tsC (l:List Tm):List Value:=l.flatMap tcells
theorem tsC_len (l:List Tm):(tsC l).length=l.length * 6:=by
 unfold tsC
 induction l with
 | nil=>rfl
 | cons x l ih=>simp only [List.flatMap_cons,List.length_append,ih,List.length_cons,tcells,List.length_nil]; omega
theorem tsC_app (l m:List Tm):tsC (l++m)=tsC l++tsC m:=by unfold tsC; rw [List.flatMap_append]
theorem tsC_at {l:List Tm} {k:Nat} (hk:k < l.length):∀ j,j < 6→(tsC l)[k * 6 + j]?=(tcells l[k])[j]?:=by
 intro j hj
 induction l generalizing k with
 | nil=>simp at hk
 | cons x l ih =>
  have e:tsC (x::l)=tcells x++tsC l:=rfl
  have h6:(tcells x).length=6:=rfl
  rw [e]
  cases k with
  | zero=>rw [List.getElem?_append_left (by omega),Nat.zero_mul,Nat.zero_add]; rfl
  | succ k =>
   rw [List.getElem?_append_right (by omega),h6,show (k + 1) * 6 + j - 6=k * 6 + j by omega]
   exact ih (by simpa using hk)
theorem parts_len (t:Tm):t.parts.length≤3:=by
 unfold Tm.parts
 split
 ·simp
 ·split
  ·simp
  ·split <;> simp
theorem parts_leaf {W0 w:World} {R:List Thing} {b b1:Nat} {C1:List Value} {t:Tm} {l:List Int} (h:Sts W0 w (Bk b 3 (i64s l)::Bk b1 94 C1::R)) (hp:t.parts=l) :
  ∃ v,Sl t.parts.length v∧Ending.returned (.slice (some ⟨b,0,none⟩) l.length l.length)=.returned v∧Sts W0 w ([Rw 3 1 v t.parts.length (i64s t.parts)]++R):=by
 rw [hp]
 have hl:l.length≤maxLen:=by have:=parts_len t; rw [hp] at this; unfold maxLen; omega
 exact ⟨_,⟨_,_,rfl⟩,rfl,(h.part (.take .p0 (.drop .refl))).toRw (by simp [i64s]) hl⟩
theorem parts_none {W0 w:World} {R:List Thing} {b1:Nat} {C1:List Value} {t:Tm} (h:Sts W0 w (Bk b1 94 C1::R)) (hp:t.parts=[]) :
  ∃ v,Sl t.parts.length v∧Ending.returned (.slice none 0 0)=.returned v∧Sts W0 w ([Rw 3 1 v t.parts.length (i64s t.parts)]++R):=by
 rw [hp]
 exact ⟨_,⟨_,_,rfl⟩,rfl,(h.part (.drop .refl)).nilRw 3 1⟩
theorem parts_fn (t:Tm) :
  FnX Tryz.prog 70 [tval t] [] (fun v:Value=>v) (fun v=>[Rw 3 1 v t.parts.length (i64s t.parts)]) (Sl t.parts.length):=by
 refine Fn.go Tryz.func70 rfl Tryz.ntmps70 rfl (fun W0 R=>?_)
 refine GC.app .a0 ?_
 refine GC.seq ?_
 refine GC.region ?_
 refine GL.eff (EF.boxA rfl) rfl rfl (.free rfl) (fun b1 _=>?_)
 refine L.v (EX.assign rfl) rfl rfl rfl ?_
 refine GL.nil ?_
 refine GE.seq ?_
 refine GC.seq ?_
 refine GC.seq ?_
 refine GC.region ?_
 refine L.v (EX.fieldAddr rfl fa94_0) rfl rfl rfl ?_
 refine L.v (EX.ld rfl rfl one3) rfl rfl rfl ?_
 refine GL.nil ?_
 refine GE.seq ?_
 refine GC.block ?_
 refine GC.seq ?_
 refine GC.seq ?_
 refine GC.region ?_
 refine L.v (EX.eql rfl rfl) rfl rfl rfl ?_
 refine L.v (EX.assign rfl) rfl rfl rfl ?_
 refine GL.nil ?_
 refine GE.seq ?_
 refine GC.cond rfl (fun c5=>?_) (fun c5=>?_)
 ·refine GC.skip ?_
  refine GE.seq ?_
  refine GC.condT rfl c5 ?_
  refine GC.seq ?_
  refine GC.region ?_
  refine L.v (EX.fieldAddr rfl fa94_3) rfl rfl rfl ?_
  refine L.v (EX.ld rfl rfl one3) rfl rfl rfl ?_
  refine GL.eff (EF.buildSlice rfl bs40 rfl rfl rfl) rfl rfl (.free rfl) (fun b11 _=>?_)
  refine L.v (EX.assign rfl) rfl rfl rfl ?_
  refine GL.nil ?_
  refine GE.seq ?_
  refine GC.ret (GE.block_ret (GE.then_ret ?_))
  refine GE.out rfl rfl (fun w h=>?_)
  simp only [decide_eq_true_eq,decide_eq_false_iff_not] at *
  exact parts_leaf (l:=[t.a]) h (if_pos (by omega))
 ·refine GC.seq ?_
  refine GC.region ?_
  refine L.v (EX.eql rfl rfl) rfl rfl rfl ?_
  refine L.v (EX.assign rfl) rfl rfl rfl ?_
  refine GL.nil ?_
  refine GE.seq ?_
  refine GC.cond rfl (fun c5_1=>?_) (fun c5_1=>?_)
  ·refine GC.skip ?_
   refine GE.seq ?_
   refine GC.condT rfl c5_1 ?_
   refine GC.seq ?_
   refine GC.region ?_
   refine L.v (EX.fieldAddr rfl fa94_3) rfl rfl rfl ?_
   refine L.v (EX.ld rfl rfl one3) rfl rfl rfl ?_
   refine GL.eff (EF.buildSlice rfl bs40 rfl rfl rfl) rfl rfl (.free rfl) (fun b11_1 _=>?_)
   refine L.v (EX.assign rfl) rfl rfl rfl ?_
   refine GL.nil ?_
   refine GE.seq ?_
   refine GC.ret (GE.block_ret (GE.then_ret ?_))
   refine GE.out rfl rfl (fun w h=>?_)
   simp only [decide_eq_true_eq,decide_eq_false_iff_not] at *
   exact parts_leaf (l:=[t.a]) h (if_pos (by omega))
  ·refine GC.region ?_
   refine L.v (EX.eql rfl rfl) rfl rfl rfl ?_
   refine L.v (EX.assign rfl) rfl rfl rfl ?_
   refine GL.nil ?_
   refine GE.seq ?_
   refine GC.cond rfl (fun c5_2=>?_) (fun c5_2=>?_)
   ·refine GC.seq ?_
    refine GC.region ?_
    refine L.v (EX.fieldAddr rfl fa94_3) rfl rfl rfl ?_
    refine L.v (EX.ld rfl rfl one3) rfl rfl rfl ?_
    refine GL.eff (EF.buildSlice rfl bs40 rfl rfl rfl) rfl rfl (.free rfl) (fun b11_2 _=>?_)
    refine L.v (EX.assign rfl) rfl rfl rfl ?_
    refine GL.nil ?_
    refine GE.seq ?_
    refine GC.ret (GE.block_ret (GE.then_ret ?_))
    refine GE.out rfl rfl (fun w h=>?_)
    simp only [decide_eq_true_eq,decide_eq_false_iff_not] at *
    exact parts_leaf (l:=[t.a]) h (if_pos (by omega))
   ·refine GC.seq ?_
    refine GC.seq ?_
    refine GC.region ?_
    refine L.v (EX.eql rfl rfl) rfl rfl rfl ?_
    refine L.v (EX.assign rfl) rfl rfl rfl ?_
    refine GL.nil ?_
    refine GE.seq ?_
    refine GC.cond rfl (fun c12=>?_) (fun c12=>?_)
    ·refine GC.skip ?_
     refine GE.seq ?_
     refine GC.condT rfl c12 ?_
     refine GC.seq ?_
     refine GC.region ?_
     refine L.v (EX.fieldAddr rfl fa94_3) rfl rfl rfl ?_
     refine L.v (EX.ld rfl rfl one3) rfl rfl rfl ?_
     refine L.v (EX.fieldAddr rfl fa94_4) rfl rfl rfl ?_
     refine L.v (EX.ld rfl rfl one3) rfl rfl rfl ?_
     refine GL.eff (EF.buildSlice rfl bs40 rfl rfl rfl) rfl rfl (.free rfl) (fun b22 _=>?_)
     refine L.v (EX.assign rfl) rfl rfl rfl ?_
     refine GL.nil ?_
     refine GE.seq ?_
     refine GC.ret (GE.block_ret (GE.then_ret ?_))
     refine GE.out rfl rfl (fun w h=>?_)
     simp only [decide_eq_true_eq,decide_eq_false_iff_not] at *
     exact parts_leaf (l:=[t.a,t.b]) h ((if_neg (by omega)).trans (if_pos (by omega)))
    ·refine GC.seq ?_
     refine GC.region ?_
     refine L.v (EX.eql rfl rfl) rfl rfl rfl ?_
     refine L.v (EX.assign rfl) rfl rfl rfl ?_
     refine GL.nil ?_
     refine GE.seq ?_
     refine GC.cond rfl (fun c12_1=>?_) (fun c12_1=>?_)
     ·refine GC.skip ?_
      refine GE.seq ?_
      refine GC.condT rfl c12_1 ?_
      refine GC.seq ?_
      refine GC.region ?_
      refine L.v (EX.fieldAddr rfl fa94_3) rfl rfl rfl ?_
      refine L.v (EX.ld rfl rfl one3) rfl rfl rfl ?_
      refine L.v (EX.fieldAddr rfl fa94_4) rfl rfl rfl ?_
      refine L.v (EX.ld rfl rfl one3) rfl rfl rfl ?_
      refine GL.eff (EF.buildSlice rfl bs40 rfl rfl rfl) rfl rfl (.free rfl) (fun b22_1 _=>?_)
      refine L.v (EX.assign rfl) rfl rfl rfl ?_
      refine GL.nil ?_
      refine GE.seq ?_
      refine GC.ret (GE.block_ret (GE.then_ret ?_))
      refine GE.out rfl rfl (fun w h=>?_)
      simp only [decide_eq_true_eq,decide_eq_false_iff_not] at *
      exact parts_leaf (l:=[t.a,t.b]) h ((if_neg (by omega)).trans (if_pos (by omega)))
     ·refine GC.seq ?_
      refine GC.region ?_
      refine L.v (EX.eql rfl rfl) rfl rfl rfl ?_
      refine L.v (EX.assign rfl) rfl rfl rfl ?_
      refine GL.nil ?_
      refine GE.seq ?_
      refine GC.cond rfl (fun c12_2=>?_) (fun c12_2=>?_)
      ·refine GC.skip ?_
       refine GE.seq ?_
       refine GC.condT rfl c12_2 ?_
       refine GC.seq ?_
       refine GC.region ?_
       refine L.v (EX.fieldAddr rfl fa94_3) rfl rfl rfl ?_
       refine L.v (EX.ld rfl rfl one3) rfl rfl rfl ?_
       refine L.v (EX.fieldAddr rfl fa94_4) rfl rfl rfl ?_
       refine L.v (EX.ld rfl rfl one3) rfl rfl rfl ?_
       refine GL.eff (EF.buildSlice rfl bs40 rfl rfl rfl) rfl rfl (.free rfl) (fun b22_2 _=>?_)
       refine L.v (EX.assign rfl) rfl rfl rfl ?_
       refine GL.nil ?_
       refine GE.seq ?_
       refine GC.ret (GE.block_ret (GE.then_ret ?_))
       refine GE.out rfl rfl (fun w h=>?_)
       simp only [decide_eq_true_eq,decide_eq_false_iff_not] at *
       exact parts_leaf (l:=[t.a,t.b]) h ((if_neg (by omega)).trans (if_pos (by omega)))
      ·refine GC.seq ?_
       refine GC.region ?_
       refine L.v (EX.eql rfl rfl) rfl rfl rfl ?_
       refine L.v (EX.assign rfl) rfl rfl rfl ?_
       refine GL.nil ?_
       refine GE.seq ?_
       refine GC.cond rfl (fun c12_3=>?_) (fun c12_3=>?_)
       ·refine GC.skip ?_
        refine GE.seq ?_
        refine GC.condT rfl c12_3 ?_
        refine GC.seq ?_
        refine GC.region ?_
        refine L.v (EX.fieldAddr rfl fa94_3) rfl rfl rfl ?_
        refine L.v (EX.ld rfl rfl one3) rfl rfl rfl ?_
        refine L.v (EX.fieldAddr rfl fa94_4) rfl rfl rfl ?_
        refine L.v (EX.ld rfl rfl one3) rfl rfl rfl ?_
        refine GL.eff (EF.buildSlice rfl bs40 rfl rfl rfl) rfl rfl (.free rfl) (fun b22_3 _=>?_)
        refine L.v (EX.assign rfl) rfl rfl rfl ?_
        refine GL.nil ?_
        refine GE.seq ?_
        refine GC.ret (GE.block_ret (GE.then_ret ?_))
        refine GE.out rfl rfl (fun w h=>?_)
        simp only [decide_eq_true_eq,decide_eq_false_iff_not] at *
        exact parts_leaf (l:=[t.a,t.b]) h ((if_neg (by omega)).trans (if_pos (by omega)))
       ·refine GC.region ?_
        refine L.v (EX.eql rfl rfl) rfl rfl rfl ?_
        refine L.v (EX.assign rfl) rfl rfl rfl ?_
        refine GL.nil ?_
        refine GE.seq ?_
        refine GC.cond rfl (fun c12_4=>?_) (fun c12_4=>?_)
        ·refine GC.seq ?_
         refine GC.region ?_
         refine L.v (EX.fieldAddr rfl fa94_3) rfl rfl rfl ?_
         refine L.v (EX.ld rfl rfl one3) rfl rfl rfl ?_
         refine L.v (EX.fieldAddr rfl fa94_4) rfl rfl rfl ?_
         refine L.v (EX.ld rfl rfl one3) rfl rfl rfl ?_
         refine GL.eff (EF.buildSlice rfl bs40 rfl rfl rfl) rfl rfl (.free rfl) (fun b22_4 _=>?_)
         refine L.v (EX.assign rfl) rfl rfl rfl ?_
         refine GL.nil ?_
         refine GE.seq ?_
         refine GC.ret (GE.block_ret (GE.then_ret ?_))
         refine GE.out rfl rfl (fun w h=>?_)
         simp only [decide_eq_true_eq,decide_eq_false_iff_not] at *
         exact parts_leaf (l:=[t.a,t.b]) h ((if_neg (by omega)).trans (if_pos (by omega)))
        ·refine GC.seq ?_
         refine GC.region ?_
         refine L.v (EX.eql rfl rfl) rfl rfl rfl ?_
         refine L.v (EX.assign rfl) rfl rfl rfl ?_
         refine GL.nil ?_
         refine GE.seq ?_
         refine GC.cond rfl (fun c23=>?_) (fun c23=>?_)
         ·refine GC.seq ?_
          refine GC.region ?_
          refine L.v (EX.fieldAddr rfl fa94_3) rfl rfl rfl ?_
          refine L.v (EX.ld rfl rfl one3) rfl rfl rfl ?_
          refine L.v (EX.fieldAddr rfl fa94_4) rfl rfl rfl ?_
          refine L.v (EX.ld rfl rfl one3) rfl rfl rfl ?_
          refine L.v (EX.fieldAddr rfl fa94_5) rfl rfl rfl ?_
          refine L.v (EX.ld rfl rfl one3) rfl rfl rfl ?_
          refine GL.eff (EF.buildSlice rfl bs40 rfl rfl rfl) rfl rfl (.free rfl) (fun b31 _=>?_)
          refine L.v (EX.assign rfl) rfl rfl rfl ?_
          refine GL.nil ?_
          refine GE.seq ?_
          refine GC.ret (GE.block_ret (GE.then_ret ?_))
          refine GE.out rfl rfl (fun w h=>?_)
          simp only [decide_eq_true_eq,decide_eq_false_iff_not] at *
          exact parts_leaf (l:=[t.a,t.b,t.c]) h ((if_neg (by omega)).trans ((if_neg (by omega)).trans (if_pos (by omega))))
         ·refine GC.skip ?_
          refine GE.block ?_
          refine GE.seq ?_
          refine GC.seq ?_
          refine GC.region ?_
          refine L.v (EX.assign rfl) rfl rfl rfl ?_
          refine GL.nil ?_
          refine GE.seq ?_
          refine GC.ret ?_
          refine GE.out rfl rfl (fun w h=>?_)
          simp only [decide_eq_true_eq,decide_eq_false_iff_not] at *
          exact parts_none h ((if_neg (by omega)).trans ((if_neg (by omega)).trans (if_neg (by omega))))
end
section
open Go.RowKit
set_option maxRecDepth 100000
theorem putL_one:∀ (C:List Value) (o:Nat) (v:Value),o < C.length→putL C o [v]=some (C.set o v)
 | [],o,v,h=>by simp at h
 | c::C,0,v,h=>by cases C <;> rfl
 | c::C,o + 1,v,h=>by simp only [putL,putL_one C o v (by simpa using h)]; rfl
theorem EU.stAt {P:Program} {W0:World} {kn:Kn} {L L':List Thing} {b o:Nat} {t:TypeId} {C:List Value} {d g T x y ty pos af v} (hx:ev kn x=some (.pointer (some ⟨b,o,none⟩))) (hy:ev kn y=some v) (hs1:SZ P T 1) (ho:on1 v=true) [p:HasBk L b t C] (hl:o < C.length)
  [q:SwBk L b t C (C.set o v) L']:EU P W0 kn L ⟨d,.store T x y,ty,pos,af,g⟩ L':=by
 have hv:vc v=[v]:=by cases v <;> first | rfl | (exact absurd ho (by simp [on1]))
 exact EU.store hx hy hs1 (by rw [hv]; rfl) (by rw [hv]; simp [ones,ho]) (by rw [hv]; exact putL_one C o v hl) q.sw
def pk (l:List Int) (i j:Nat):Int:=if j < i then l[j]?.getD 0 else 0
def onlyC (t:Tm) (k:Nat):List Value:=[.int .i64 t.kind,.string t.only.s,.int .u64 t.only.n,.int .i64 (pk t.parts k 0),.int .i64 (pk t.parts k 1),.int .i64 (pk t.parts k 2)]
theorem onlyC_set (t:Tm) (k:Nat) (hk:k < t.parts.length):(onlyC t k).set (3 + k) (.int .i64 (t.parts[k]?.getD 0))=onlyC t (k + 1):=by
 have:=parts_len t
 match k,hk with
 | 0,_=>simp [onlyC,pk]
 | 1,_=>simp [onlyC,pk]
 | 2,_=>simp [onlyC,pk]
 | k + 3,h=>omega
theorem onlyC_end (t:Tm) (n:Nat) (h:t.parts.length=n):onlyC t n=tcells t.only:=by
 have hp:∀ j,pk t.parts n j=t.parts[j]?.getD 0:=fun j=>by
  unfold pk; split
  ·rfl
  ·rw [List.getElem?_eq_none (by omega)]; rfl
 simp only [onlyC,hp]; rfl
theorem index3_0 (b:Nat) (W:World):(Instr.index 306 (.agg #[.pointer (some ⟨b,3,none⟩),.pointer (some ⟨b,4,none⟩),.pointer (some ⟨b,5,none⟩)]) (.int .i64 0)).run Tryz.prog W=.ok (.pointer (some ⟨b,3,none⟩)) W:=by kernel_rfl
theorem index3_1 (b:Nat) (W:World):(Instr.index 306 (.agg #[.pointer (some ⟨b,3,none⟩),.pointer (some ⟨b,4,none⟩),.pointer (some ⟨b,5,none⟩)]) (.int .i64 1)).run Tryz.prog W=.ok (.pointer (some ⟨b,4,none⟩)) W:=by kernel_rfl
theorem index3_2 (b:Nat) (W:World):(Instr.index 306 (.agg #[.pointer (some ⟨b,3,none⟩),.pointer (some ⟨b,4,none⟩),.pointer (some ⟨b,5,none⟩)]) (.int .i64 2)).run Tryz.prog W=.ok (.pointer (some ⟨b,5,none⟩)) W:=by kernel_rfl
theorem EX.index3 {W0 kn L d g x i ty ps af} {b k:Nat} (hx:ev kn x=some (.agg #[.pointer (some ⟨b,3,none⟩),.pointer (some ⟨b,4,none⟩),.pointer (some ⟨b,5,none⟩)])) (hi:ev kn i=some (.int .i64 (k:Int))) (hk:k < 3) :
  EX Tryz.prog W0 kn L ⟨d,.index 306 x i,ty,ps,af,g⟩ (.pointer (some ⟨b,3 + k,none⟩)):=fun ρ w he hs=>by
 simp only [execOp,he x _ hx,he i _ hi,Sem.run_bind]
 have:(Instr.index 306 (.agg #[.pointer (some ⟨b,3,none⟩),.pointer (some ⟨b,4,none⟩),.pointer (some ⟨b,5,none⟩)]) (.int .i64 (k:Int))).run Tryz.prog w=.ok (.pointer (some ⟨b,3 + k,none⟩)) w:=by
  match k,hk with
  | 0,_=>exact index3_0 b w
  | 1,_=>exact index3_1 b w
  | 2,_=>exact index3_2 b w
 rw [this]; rfl
theorem only_fn (t:Tm) :
  Fn1 Tryz.prog 117 [tval t].toArray [] (tval t.only) []:=by
 refine Fn.go Tryz.func117 rfl Tryz.ntmps117 rfl (fun W0 R=>?_)
 refine GC.app .a0 ?_
 refine GC.seq ?_
 refine GC.region ?_
 refine GL.eff (EF.boxA rfl) rfl rfl (.free rfl) (fun b1 _=>?_)
 refine GL.eff (EF.alloc al94) rfl rfl (.free rfl) (fun b2 _=>?_)
 refine GL.nil ?_
 refine GE.seq ?_
 refine GC.seq ?_
 refine GC.region ?_
 refine L.v (EX.fieldAddr rfl fa94_0) rfl rfl rfl ?_
 refine L.v (EX.ld rfl rfl one3) rfl rfl rfl ?_
 refine L.v (EX.build rfl bd94 rfl) rfl rfl rfl ?_
 refine GL.eff (EF.alloc al94) rfl rfl (.free rfl) (fun b3 _=>?_)
 refine GL.do (EU.st rfl rfl sz94 rfl rfl rfl) rfl (.free rfl) ?_
 refine GL.nil ?_
 refine GE.seq ?_
 refine GC.join (σ:=ByteArray × Int) (fun s=>[(1,ptr b1),(2,ptr b2),(3,ptr b3)]) (fun s=>[Bk b3 94 [.int .i64 t.kind,.string s.1,.int .u64 s.2,.int .i64 0,.int .i64 0,.int .i64 0],Bk b2 94 [.int .i64 0,.string ⟨#[]⟩,.int .u64 0,.int .i64 0,.int .i64 0,.int .i64 0],Bk b1 94 (tcells t)]++R) (fun s=>s.1=t.only.s∧s.2=t.only.n) (fun s hs=>?_) ?_
 ·obtain ⟨S,N⟩:=s
  obtain ⟨rfl,rfl⟩:=hs
  obtain ⟨n,hn⟩:∃ n,t.parts.length=n:=⟨_,rfl⟩
  have hn3:=parts_len t
  rw [hn] at hn3
  refine GC.app .a3 ?_
  refine GC.seq ?_
  refine GC.seq ?_
  refine GC.region ?_
  refine L.v (EX.ldN rfl many94 rfl) rfl rfl rfl ?_
  refine K.x (EC.direct en70 rfl) (parts_fn t) .nil (fun _=>.a1) rfl rfl (.free rfl) (fun v hv=>?_)
  obtain ⟨av,cv,rfl⟩:=hv
  rw [hn]
  refine L.v (EX.lenL rfl Tryz.underlying40) rfl rfl rfl ?_
  refine L.v (EX.move rfl) rfl rfl rfl ?_
  refine GL.nil ?_
  refine GE.seq ?_
  refine GC.block ?_
  refine GC.lp (σ:=Nat) (fun s=>[(26,.int .i64 (s:Int)),(24,.slice av n cv),(25,.int .i64 (n:Int)),(3,ptr b3),(2,ptr b2)]) (fun s=>[Rw 3 1 (.slice av n cv) n (i64s t.parts),Bk b3 94 (onlyC t s),Bk b2 94 [.int .i64 0,.string ⟨#[]⟩,.int .u64 0,.int .i64 0,.int .i64 0,.int .i64 0]]++R) (fun s=>s≤n) (fun s=>n - s) 0 (.c rfl (.c rfl (.c rfl (.c rfl (.c rfl .n))))) (.take .p0 (.take .p0 (.take .p0 (.drop .refl)))) (by omega) (fun s hs=>?_)
  refine GC.app .a3 ?_
  refine GC.seq ?_
  refine GC.region ?_
  refine L.v (EX.lss rfl rfl) rfl rfl rfl ?_
  refine GL.nil ?_
  refine GE.seq ?_
  refine GC.seq ?_
  refine GC.cond rfl (fun c27=>?_) (fun c27=>?_)
  ·simp only [decide_eq_true_eq] at c27
   have hkn:s < n:=by omega
   refine GC.know (fun w h=>h.rwSome .p0 (by omega)) (fun hg=>?_)
   obtain ⟨g,rfl⟩:=hg
   refine GC.skip ?_
   refine GE.seq ?_
   refine GC.seq ?_
   refine GC.block ?_
   refine GC.seq ?_
   refine GC.region ?_
   refine L.v (EX.move rfl) rfl rfl rfl ?_
   refine L.v (EX.indexAddr (a:=s) rfl rfl sl40 (by omega) (by simp)) rfl rfl rfl ?_
   refine L.v (EX.ldR rfl (i64s_getD (by omega)) one3) rfl rfl rfl ?_
   refine L.v (EX.assign rfl) rfl rfl rfl ?_
   refine L.v (EX.assign rfl) rfl rfl rfl ?_
   refine GL.nil ?_
   refine GE.seq ?_
   refine GC.region ?_
   refine L.v (EX.fieldAddr rfl fa94_3) rfl rfl rfl ?_
   refine L.v (EX.fieldAddr rfl fa94_4) rfl rfl rfl ?_
   refine L.v (EX.fieldAddr rfl fa94_5) rfl rfl rfl ?_
   refine L.v (EX.build rfl bd306 rfl) rfl rfl rfl ?_
   refine L.v (EX.move rfl) rfl rfl rfl ?_
   refine L.v (EX.index3 rfl rfl (by omega)) rfl rfl rfl ?_
   refine L.v (EX.move rfl) rfl rfl rfl ?_
   refine L.v (EX.nilCheck rfl) rfl rfl rfl ?_
   refine GL.do (EU.stAt rfl rfl sz3 rfl (by simp [onlyC]; omega)) rfl (.free rfl) ?_
   refine GL.nil ?_
   refine GE.block ?_
   refine GE.seq ?_
   refine GC.region ?_
   refine L.v (EX.add rfl rfl (wi (by omega))) rfl rfl rfl ?_
   refine L.v (EX.move rfl) rfl rfl rfl ?_
   refine GL.nil ?_
   rw [onlyC_set t s (by omega)]
   exact GE.ag (s + 1) (.c (by rw [← Int.natCast_succ]; rfl) (.c rfl (.c rfl (.c rfl (.c rfl .n))))) .refl (by omega) (by omega)
  ·simp only [decide_eq_false_iff_not] at c27
   obtain rfl:s=n:=by omega
   refine GC.exit (GE.then_exit (GE.then_exit (GE.block_hit ?_)))
   refine GE.seq ?_
   refine GC.seq ?_
   refine GC.region ?_
   rw [onlyC_end t s hn]
   refine L.v (EX.ldN rfl many94 rfl) rfl rfl rfl ?_
   refine GL.do (EU.st rfl rfl sz94 rfl rfl rfl) rfl (.free rfl) ?_
   refine GL.nil ?_
   refine GE.seq ?_
   refine GC.ret ?_
   refine GE.outR1 rfl (.cellN rfl .p2 many94 rfl) (fun w h=>?_)
   exact ⟨rfl,h.part (.drop (.drop (.drop .refl)))⟩
 ·refine GC.seq ?_
  refine GC.region ?_
  refine L.v (EX.fieldAddr rfl fa94_0) rfl rfl rfl ?_
  refine L.v (EX.ld rfl rfl one3) rfl rfl rfl ?_
  refine GL.nil ?_
  refine GE.seq ?_
  refine GC.block ?_
  refine GC.seq ?_
  refine GC.region ?_
  refine L.v (EX.eql rfl rfl) rfl rfl rfl ?_
  refine L.v (EX.assign rfl) rfl rfl rfl ?_
  refine GL.nil ?_
  refine GE.seq ?_
  refine GC.cond rfl (fun c11=>?_) (fun c11=>?_)
  ·refine GC.region ?_
   refine L.v (EX.fieldAddr rfl fa94_1) rfl rfl rfl ?_
   refine L.v (EX.ld rfl rfl one9) rfl rfl rfl ?_
   refine L.v (EX.fieldAddr rfl fa94_1) rfl rfl rfl ?_
   refine GL.do (EU.st rfl rfl sz9 rfl rfl rfl) rfl (.free rfl) ?_
   refine GL.nil ?_
   refine GE.block ?_
   simp only [decide_eq_true_eq,decide_eq_false_iff_not] at *
   exact GE.jn (t.s,0) (.c rfl (.c rfl (.c rfl .n))) .refl (⟨(if_pos (by omega)).symm,(if_neg (by omega)).symm⟩)
  ·refine GC.seq ?_
   refine GC.seq ?_
   refine GC.region ?_
   refine L.v (EX.eql rfl rfl) rfl rfl rfl ?_
   refine L.v (EX.assign rfl) rfl rfl rfl ?_
   refine GL.nil ?_
   refine GE.seq ?_
   refine GC.cond rfl (fun c16=>?_) (fun c16=>?_)
   ·refine GC.skip ?_
    refine GE.seq ?_
    refine GC.condT rfl c16 ?_
    refine GC.region ?_
    refine L.v (EX.fieldAddr rfl fa94_2) rfl rfl rfl ?_
    refine L.v (EX.ld rfl rfl one30) rfl rfl rfl ?_
    refine L.v (EX.fieldAddr rfl fa94_2) rfl rfl rfl ?_
    refine GL.do (EU.st rfl rfl sz30 rfl rfl rfl) rfl (.free rfl) ?_
    refine GL.nil ?_
    refine GE.block ?_
    simp only [decide_eq_true_eq,decide_eq_false_iff_not] at *
    exact GE.jn (⟨#[]⟩,t.n) (.c rfl (.c rfl (.c rfl .n))) .refl (⟨(if_neg (by omega)).symm,(if_pos (by omega)).symm⟩)
   ·refine GC.seq ?_
    refine GC.region ?_
    refine L.v (EX.eql rfl rfl) rfl rfl rfl ?_
    refine L.v (EX.assign rfl) rfl rfl rfl ?_
    refine GL.nil ?_
    refine GE.seq ?_
    refine GC.cond rfl (fun c16_1=>?_) (fun c16_1=>?_)
    ·refine GC.skip ?_
     refine GE.seq ?_
     refine GC.condT rfl c16_1 ?_
     refine GC.region ?_
     refine L.v (EX.fieldAddr rfl fa94_2) rfl rfl rfl ?_
     refine L.v (EX.ld rfl rfl one30) rfl rfl rfl ?_
     refine L.v (EX.fieldAddr rfl fa94_2) rfl rfl rfl ?_
     refine GL.do (EU.st rfl rfl sz30 rfl rfl rfl) rfl (.free rfl) ?_
     refine GL.nil ?_
     refine GE.block ?_
     simp only [decide_eq_true_eq,decide_eq_false_iff_not] at *
     exact GE.jn (⟨#[]⟩,t.n) (.c rfl (.c rfl (.c rfl .n))) .refl (⟨(if_neg (by omega)).symm,(if_pos (by omega)).symm⟩)
    ·refine GC.region ?_
     refine L.v (EX.eql rfl rfl) rfl rfl rfl ?_
     refine L.v (EX.assign rfl) rfl rfl rfl ?_
     refine GL.nil ?_
     refine GE.seq ?_
     refine GC.cond rfl (fun c16_2=>?_) (fun c16_2=>?_)
     ·refine GC.region ?_
      refine L.v (EX.fieldAddr rfl fa94_2) rfl rfl rfl ?_
      refine L.v (EX.ld rfl rfl one30) rfl rfl rfl ?_
      refine L.v (EX.fieldAddr rfl fa94_2) rfl rfl rfl ?_
      refine GL.do (EU.st rfl rfl sz30 rfl rfl rfl) rfl (.free rfl) ?_
      refine GL.nil ?_
      refine GE.block ?_
      simp only [decide_eq_true_eq,decide_eq_false_iff_not] at *
      exact GE.jn (⟨#[]⟩,t.n) (.c rfl (.c rfl (.c rfl .n))) .refl (⟨(if_neg (by omega)).symm,(if_pos (by omega)).symm⟩)
     ·refine GC.skip ?_
      refine GE.block ?_
      simp only [decide_eq_true_eq,decide_eq_false_iff_not] at *
      exact GE.jn (⟨#[]⟩,0) (.c rfl (.c rfl (.c rfl .n))) .refl (⟨(if_neg (by omega)).symm,(if_neg (by omega)).symm⟩)
end
section
open Go.RowKit
set_option maxRecDepth 100000
structure StoreX where
 gl:Nat
 cl:Nat
 gd:Nat
 cd:Nat
 mb:Nat
 ds:List Int
structure StoreG (l:List Tm) (ds:List Int):Prop where
 deep:ds.length=l.length + 1
 nodup:l.Nodup
 room:l.length≤2000000
def names (l:List Tm):List (Tm × Value):=l.zipIdx.map fun p=>(p.1,.int .i64 ((p.2:Int) + 1))
def storeL (bs:Nat) (l:List Tm) (most:Int) (x:StoreX):List Thing :=
 [Bk bs 109 [.slice (some ⟨x.gl,0,none⟩) (l.length + 1) x.cl,.slice (some ⟨x.gd,0,none⟩) (l.length + 1) x.cd,.map (some x.mb),.int .i64 most],
  Rw 94 6 (.slice (some ⟨x.gl,0,none⟩) (l.length + 1) x.cl) (l.length + 1) (tsC (tm0::l)),
  Rw 3 1 (.slice (some ⟨x.gd,0,none⟩) (l.length + 1) x.cd) (l.length + 1) (i64s x.ds),
  Mp tval x.mb (names l),Fact (StoreG l x.ds)]
@[irreducible] def St (bs:Nat) (l:List Tm) (most:Int):Thing:=AnyT fun x=>Thing.all (storeL bs l most x)
theorem st_open {W0 W:World} {R:List Thing} {bs:Nat} {l:List Tm} {most:Int} (h:Sts W0 W (St bs l most::R)):∃ x,Sts W0 W (storeL bs l most x++R):=by
 unfold St at h
 obtain ⟨x,h⟩:=h.of_some
 exact ⟨x,h.of_all⟩
theorem st_close {W0 W:World} {R:List Thing} {bs:Nat} {l:List Tm} {most:Int} (x:StoreX) (h:Sts W0 W (storeL bs l most x++R)):Sts W0 W (St bs l most::R):=by
 unfold St
 exact Sts.to_some x h.to_all
theorem st_good {W0 W:World} {L R:List Thing} {bs:Nat} {l:List Tm} {most:Int} (h:Sts W0 W L) (p:Pick L (St bs l most) R):l.length≤2000000∧l.Nodup:=by
 obtain ⟨x,h⟩:=st_open (h.pick p)
 have h2:Sts W0 W (Fact (StoreG l x.ds)::_):=h.pick (.there (.there (.there (.there .here))))
 exact ⟨h2.of_fact.1.room,h2.of_fact.1.nodup⟩
theorem len_fn (bs:Nat) (l:List Tm) (most:Int) :
  Fn1 Tryz.prog 9 [ptr bs].toArray [St bs l most] (.int .i64 (l.length:Nat)) [St bs l most]:=by
 refine Fn.go Tryz.func9 rfl Tryz.ntmps9 rfl (fun W0 R=>?_)
 refine GC.app .a1 ?_
 refine GC.know (fun w h=>st_good h .here) (fun hg=>?_)
 obtain ⟨hroom,_⟩:=hg
 refine GC.ex (fun w h=>st_open h) (fun x=>?_)
 refine GC.app (.c (.c (.c (.c (.c .a0))))) ?_
 refine GC.seq ?_
 refine GC.region ?_
 refine L.v (EX.assign rfl) rfl rfl rfl ?_
 refine GL.nil ?_
 refine GE.seq ?_
 refine GC.seq ?_
 refine GC.region ?_
 refine L.v (EX.move rfl) rfl rfl rfl ?_
 refine L.v (EX.nilCheck rfl) rfl rfl rfl ?_
 refine L.v (EX.fieldAddr rfl fa109_0) rfl rfl rfl ?_
 refine L.v (EX.ld rfl rfl one106) rfl rfl rfl ?_
 refine L.v (EX.lenL rfl Tryz.underlying106) rfl rfl rfl ?_
 refine L.v (EX.sub rfl rfl (show IntKind.i64.wrap (((l.length + 1:Nat):Int) - 1)=(l.length:Int) from by rw [show (((l.length + 1:Nat):Int) - 1)=(l.length:Int) by omega]; exact wi (by omega))) rfl rfl rfl ?_
 refine L.v (EX.assign rfl) rfl rfl rfl ?_
 refine GL.nil ?_
 refine GE.seq ?_
 refine GC.ret ?_
 refine GE.out rfl rfl (fun w h=>?_)
 exact ⟨rfl,st_close x h⟩
theorem getT_in {l:List Tm} {i:Nat} (h1:1≤i) (h2:i≤l.length):getT l i=(tm0::l)[i]'(by simp; omega)∧isT l i=true:=by
 obtain ⟨j,rfl⟩:∃ j,i=j + 1:=⟨i - 1,by omega⟩
 unfold getT isT
 refine ⟨?_,by simp; omega⟩
 rw [if_pos ⟨by omega,by omega⟩]
 simp [List.getD_eq_getElem?_getD,List.getElem?_eq_getElem (show j < l.length by omega)]
theorem getT_out {l:List Tm} {name:Int} (h:name < 1∨(l.length:Int) < name):getT l name=tm0∧isT l name=false:=by
 unfold getT isT
 refine ⟨if_neg (by omega),?_⟩
 rw [Bool.and_eq_false_iff,decide_eq_false_iff_not,decide_eq_false_iff_not]; omega
theorem get_fn (bs:Nat) (l:List Tm) (most name:Int) :
  Fn1 Tryz.prog 147 [ptr bs,.int .i64 name].toArray [St bs l most] (.tuple #[tval (getT l name),.bool (isT l name)]) [St bs l most]:=by
 refine Fn.go Tryz.func147 rfl Tryz.ntmps147 rfl (fun W0 R=>?_)
 refine GC.app .a1 ?_
 refine GC.seq ?_
 refine GC.region ?_
 refine GL.eff (EF.alloc al94) rfl rfl (.free rfl) (fun b4 _=>?_)
 refine L.v (EX.assign rfl) rfl rfl rfl ?_
 refine GL.nil ?_
 refine GE.seq ?_
 refine GC.seq ?_
 refine GC.seq ?_
 refine GC.region ?_
 refine L.v (EX.move rfl) rfl rfl rfl ?_
 refine L.v (EX.lss rfl rfl) rfl rfl rfl ?_
 refine L.v (EX.move rfl) rfl rfl rfl ?_
 refine GL.case 8 rfl (fun g8=>?_) (fun g8=>?_)
 ·refine GL.off rfl rfl (.guard rfl rfl rfl rfl g8) ?_
  refine GL.off rfl rfl (.guard rfl rfl rfl rfl g8) ?_
  refine GL.off rfl rfl (.guard rfl rfl rfl rfl g8) ?_
  refine GL.off rfl rfl (.guard rfl rfl rfl rfl g8) ?_
  refine L.v (EX.pickT rfl g8 rfl) rfl rfl rfl ?_
  refine GL.nil ?_
  refine GE.seq ?_
  refine GC.condT rfl rfl ?_
  refine GC.seq ?_
  refine GC.region ?_
  refine L.v (EX.build rfl bd94 rfl) rfl rfl rfl ?_
  refine GL.do (EU.st rfl rfl sz94 rfl rfl rfl) rfl (.free rfl) ?_
  refine L.v (EX.assign rfl) rfl rfl rfl ?_
  refine GL.nil ?_
  refine GE.seq ?_
  refine GC.ret (GE.then_ret ?_)
  refine GE.outR rfl (.cons (.cellN rfl .p0 many94 rfl) (.cons (.tmp rfl) .nil)) rfl (fun w h=>?_)
  simp only [decide_eq_true_eq,decide_eq_false_iff_not] at *
  have hg:=getT_out (l:=l) (name:=name) (by omega)
  rw [hg.1,hg.2]
  exact ⟨rfl,h.part (.take .p1 (.drop .refl))⟩
 ·refine GL.val (EX.move rfl) rfl rfl (.guard rfl rfl rfl rfl g8) ?_
  refine GL.val (EX.move rfl) rfl rfl (.guard rfl rfl rfl rfl g8) ?_
  refine K.c (EC.direct en9 rfl) (len_fn _ _ _) (.one .p1) .a1 rfl rfl (.guard rfl rfl rfl rfl g8) ?_
  refine GL.val (EX.gtr rfl rfl) rfl rfl (.guard rfl rfl rfl rfl g8) ?_
  refine L.v (EX.pickF rfl g8 rfl) rfl rfl rfl ?_
  refine GL.nil ?_
  refine GE.seq ?_
  refine GC.cond rfl (fun c13=>?_) (fun c13=>?_)
  ·refine GC.seq ?_
   refine GC.region ?_
   refine L.v (EX.build rfl bd94 rfl) rfl rfl rfl ?_
   refine GL.do (EU.st rfl rfl sz94 rfl rfl rfl) rfl (.free rfl) ?_
   refine L.v (EX.assign rfl) rfl rfl rfl ?_
   refine GL.nil ?_
   refine GE.seq ?_
   refine GC.ret (GE.then_ret ?_)
   refine GE.outR rfl (.cons (.cellN rfl .p1 many94 rfl) (.cons (.tmp rfl) .nil)) rfl (fun w h=>?_)
   simp only [decide_eq_true_eq,decide_eq_false_iff_not] at *
   have hg:=getT_out (l:=l) (name:=name) (by omega)
   rw [hg.1,hg.2]
   exact ⟨rfl,h.part (.take .p0 (.drop .refl))⟩
  ·simp only [decide_eq_true_eq,decide_eq_false_iff_not] at *
   have hin:1≤name∧name≤l.length:=by omega
   obtain ⟨i,rfl⟩:∃ i:Nat,name=i:=⟨name.toNat,by omega⟩
   have hi:i < (tm0::l).length:=by simp; omega
   refine GC.ex (fun w h=>st_open h) (fun x=>?_)
   refine GC.app (.c (.c (.c (.c (.c .a0))))) ?_
   refine GC.skip ?_
   refine GE.seq ?_
   refine GC.seq ?_
   refine GC.region ?_
   refine L.v (EX.move rfl) rfl rfl rfl ?_
   refine L.v (EX.nilCheck rfl) rfl rfl rfl ?_
   refine L.v (EX.fieldAddr rfl fa109_0) rfl rfl rfl ?_
   refine L.v (EX.ld rfl rfl one106) rfl rfl rfl ?_
   refine L.v (EX.move rfl) rfl rfl rfl ?_
   refine L.v (EX.indexAddr (a:=i * 6) rfl rfl sl106 (by omega) (by simp)) rfl rfl rfl ?_
   refine L.v (EX.ldRN rfl many94 rfl (tsC_at hi)) rfl rfl rfl ?_
   refine GL.do (EU.st rfl rfl sz94 rfl rfl rfl) rfl (.free rfl) ?_
   refine L.v (EX.assign rfl) rfl rfl rfl ?_
   refine GL.nil ?_
   refine GE.seq ?_
   refine GC.ret ?_
   refine GE.outR rfl (.cons (.cellN rfl (.there (.there (.p3))) many94 rfl) (.cons (.tmp rfl) .nil)) rfl (fun w h=>?_)
   have hg:=getT_in (l:=l) (i:=i) (by omega) (by omega)
   rw [hg.1,hg.2]
   exact ⟨rfl,st_close x (h.part (.take .p0 (.take .p0 (.take .p0 (.take .p0 (.take .p0 (.drop .refl)))))))⟩
end
section
open Go.RowKit
set_option maxRecDepth 100000
theorem may_iff (t:Tm) (l:List Tm):t.may l=true↔(1≤t.kind∧t.kind < 12∧t=t.only∧t.s.size≤1000∧¬ (t.kind=4∧t.b < t.a)∧∀ p∈t.parts,1≤p∧p≤l.length):=by
 unfold Tm.may
 simp only [Bool.and_eq_true,decide_eq_true_eq,Bool.not_eq_true',Bool.and_eq_false_iff,decide_eq_false_iff_not,List.all_eq_true]
 constructor
 ·rintro ⟨⟨⟨⟨⟨h1,h2⟩,h3⟩,h4⟩,h5⟩,h6⟩
  exact ⟨h1,h2,h3,h4,fun h=>h5.elim (fun g=>g h.1) (fun g=>g h.2),h6⟩
 ·rintro ⟨h1,h2,h3,h4,h5,h6⟩
  exact ⟨⟨⟨⟨⟨h1,h2⟩,h3⟩,h4⟩,(Classical.em (t.kind=4)).elim (fun g=>.inr (fun h=>h5 ⟨g,h⟩)) .inl⟩,h6⟩
theorem getD_mem {l:List Int} {s:Nat} (h:s < l.length):l[s]?.getD 0∈l:=by rw [List.getElem?_eq_getElem h]; exact List.getElem_mem h
theorem may_all {t:Tm} {l:List Tm} {n:Nat} (hn:t.parts.length=n) (h:∀ j,j < n→1≤t.parts[j]?.getD 0∧t.parts[j]?.getD 0≤l.length):∀ p∈t.parts,1≤p∧p≤(l.length:Int):=by
 intro p hp
 obtain ⟨j,hj⟩:=List.getElem?_of_mem hp
 have hlt:j < n:=by
  rcases Nat.lt_or_ge j t.parts.length with h | h
  ·omega
  ·rw [List.getElem?_eq_none h] at hj; cases hj
 have:=h j hlt
 rw [hj] at this; exact this
theorem may_no {t:Tm} {l:List Tm} (h:¬ (1≤t.kind∧t.kind < 12∧t=t.only∧t.s.size≤1000∧¬ (t.kind=4∧t.b < t.a)∧∀ p∈t.parts,1≤p∧p≤l.length)):t.may l=false:=by
 rw [← may_iff] at h; simpa using h
theorem may_fn (bs:Nat) (l:List Tm) (most:Int) (t:Tm) :
  Fn1 Tryz.prog 69 [ptr bs,tval t].toArray [St bs l most] (.bool (t.may l)) [St bs l most]:=by
 obtain ⟨n,hn⟩:∃ n,t.parts.length=n:=⟨_,rfl⟩
 have hn3:=parts_len t
 rw [hn] at hn3
 refine Fn.go Tryz.func69 rfl Tryz.ntmps69 rfl (fun W0 R=>?_)
 refine GC.app .a1 ?_
 refine GC.seq ?_
 refine GC.region ?_
 refine GL.eff (EF.boxA rfl) rfl rfl (.free rfl) (fun b3 _=>?_)
 refine L.v (EX.assign rfl) rfl rfl rfl ?_
 refine GL.nil ?_
 refine GE.seq ?_
 refine GC.seq ?_
 refine GC.seq ?_
 refine GC.dr1 32 rfl (by kernel_rfl) (.t (.t .e)) ?_
 refine D.p 0 (by kernel_rfl) rfl (fun X=>EX.fieldAddr rfl fa94_0) rfl rfl rfl ?_
 refine D.v 1 (by kernel_rfl) rfl (fun X=>EX.ld rfl rfl one3) rfl rfl rfl ?_
 refine D.p 2 (by kernel_rfl) rfl (fun X=>EX.lss rfl rfl) rfl rfl rfl ?_
 refine D.p 3 (by kernel_rfl) rfl (fun X=>EX.move rfl) rfl rfl rfl ?_
 refine GD.case 10 rfl (fun g10=>?_) (fun g10=>?_)
 ·refine D.off 4 (by kernel_rfl) rfl rfl rfl (.guard rfl rfl rfl rfl g10) ?_
  refine D.off 5 (by kernel_rfl) rfl rfl rfl (.guard rfl rfl rfl rfl g10) ?_
  refine D.off 6 (by kernel_rfl) rfl rfl rfl (.guard rfl rfl rfl rfl g10) ?_
  refine D.p 7 (by kernel_rfl) rfl (fun X=>EX.pickT rfl g10 rfl) rfl rfl rfl ?_
  refine D.p 8 (by kernel_rfl) rfl (fun X=>EX.move rfl) rfl rfl rfl ?_
  refine D.off 9 (by kernel_rfl) rfl rfl rfl (.guard rfl rfl rfl rfl rfl) ?_
  refine D.off 10 (by kernel_rfl) rfl rfl rfl (.guard rfl rfl rfl rfl rfl) ?_
  refine GD.act 11 (by kernel_rfl) rfl ?_
  refine GL.off rfl rfl (.guard rfl rfl rfl rfl rfl) ?_
  refine D.n .refl ?_
  refine D.off 12 (by kernel_rfl) rfl rfl rfl (.guard rfl rfl rfl rfl rfl) ?_
  refine D.p 13 (by kernel_rfl) rfl (fun X=>EX.pickT rfl rfl rfl) rfl rfl rfl ?_
  refine D.p 14 (by kernel_rfl) rfl (fun X=>EX.move rfl) rfl rfl rfl ?_
  refine D.off 15 (by kernel_rfl) rfl rfl rfl (.guard rfl rfl rfl rfl rfl) ?_
  refine D.off 16 (by kernel_rfl) rfl rfl rfl (.guard rfl rfl rfl rfl rfl) ?_
  refine D.off 17 (by kernel_rfl) rfl rfl rfl (.guard rfl rfl rfl rfl rfl) ?_
  refine D.off 18 (by kernel_rfl) rfl rfl rfl (.guard rfl rfl rfl rfl rfl) ?_
  refine D.p 19 (by kernel_rfl) rfl (fun X=>EX.pickT rfl rfl rfl) rfl rfl rfl ?_
  refine D.p 20 (by kernel_rfl) rfl (fun X=>EX.move rfl) rfl rfl rfl ?_
  refine D.off 21 (by kernel_rfl) rfl rfl rfl (.guard rfl rfl rfl rfl rfl) ?_
  refine D.off 22 (by kernel_rfl) rfl rfl rfl (.guard rfl rfl rfl rfl rfl) ?_
  refine D.off 23 (by kernel_rfl) rfl rfl rfl (.guard rfl rfl rfl rfl rfl) ?_
  refine D.off 24 (by kernel_rfl) rfl rfl rfl (.guard rfl rfl rfl rfl rfl) ?_
  refine D.off 25 (by kernel_rfl) rfl rfl rfl (.undef rfl rfl rfl rfl) ?_
  refine D.off 26 (by kernel_rfl) rfl rfl rfl (.undef rfl rfl rfl rfl) ?_
  refine D.off 27 (by kernel_rfl) rfl rfl rfl (.undef rfl rfl rfl rfl) ?_
  refine D.off 28 (by kernel_rfl) rfl rfl rfl (.undef rfl rfl rfl rfl) ?_
  refine D.off 29 (by kernel_rfl) rfl rfl rfl (.undef rfl rfl rfl rfl) ?_
  refine D.off 30 (by kernel_rfl) rfl rfl rfl (.guard rfl rfl rfl rfl rfl) ?_
  refine D.p 31 (by kernel_rfl) rfl (fun X=>EX.pickT rfl rfl rfl) rfl rfl rfl ?_
  refine GD.done (by kernel_rfl) ?_
  refine GE.seq ?_
  refine GC.condT rfl rfl ?_
  refine GC.seq ?_
  refine GC.region ?_
  refine L.v (EX.assign rfl) rfl rfl rfl ?_
  refine GL.nil ?_
  refine GE.seq ?_
  refine GC.ret (GE.then_ret ?_)
  refine GE.out rfl rfl (fun w h=>?_)
  simp only [decide_eq_true_eq,decide_eq_false_iff_not,Bool.not_eq_true,ne_eq,Decidable.not_not] at *
  first
  | exact ⟨by rw [may_no (by rintro ⟨h1,h2,h3,h4,h5,h6⟩; first | omega | contradiction | (have h7:=h6 (t.parts[s]?.getD 0) (getD_mem (by omega)); omega))],h.part (.take .p1 (.drop .refl))⟩
  | exact ⟨by rw [(may_iff t l).2 ⟨by omega,by omega,by assumption,by omega,by omega,may_all hn hall⟩],h.part (.take .p1 (.drop .refl))⟩
 ·refine D.pg 4 (by kernel_rfl) rfl (fun X=>EX.fieldAddr rfl fa94_0) rfl rfl (.guard rfl rfl rfl rfl g10) ?_
  refine D.g 5 (by kernel_rfl) rfl (fun X=>EX.ld rfl rfl one3) rfl rfl (.guard rfl rfl rfl rfl g10) ?_
  refine D.pg 6 (by kernel_rfl) rfl (fun X=>EX.geq rfl rfl) rfl rfl (.guard rfl rfl rfl rfl g10) ?_
  refine D.p 7 (by kernel_rfl) rfl (fun X=>EX.pickF rfl g10 rfl) rfl rfl rfl ?_
  refine D.p 8 (by kernel_rfl) rfl (fun X=>EX.move rfl) rfl rfl rfl ?_
  refine GD.case 15 rfl (fun g15=>?_) (fun g15=>?_)
  ·refine D.off 9 (by kernel_rfl) rfl rfl rfl (.guard rfl rfl rfl rfl g15) ?_
   refine D.off 10 (by kernel_rfl) rfl rfl rfl (.guard rfl rfl rfl rfl g15) ?_
   refine GD.act 11 (by kernel_rfl) rfl ?_
   refine GL.off rfl rfl (.guard rfl rfl rfl rfl g15) ?_
   refine D.n .refl ?_
   refine D.off 12 (by kernel_rfl) rfl rfl rfl (.guard rfl rfl rfl rfl g15) ?_
   refine D.p 13 (by kernel_rfl) rfl (fun X=>EX.pickT rfl g15 rfl) rfl rfl rfl ?_
   refine D.p 14 (by kernel_rfl) rfl (fun X=>EX.move rfl) rfl rfl rfl ?_
   refine D.off 15 (by kernel_rfl) rfl rfl rfl (.guard rfl rfl rfl rfl rfl) ?_
   refine D.off 16 (by kernel_rfl) rfl rfl rfl (.guard rfl rfl rfl rfl rfl) ?_
   refine D.off 17 (by kernel_rfl) rfl rfl rfl (.guard rfl rfl rfl rfl rfl) ?_
   refine D.off 18 (by kernel_rfl) rfl rfl rfl (.guard rfl rfl rfl rfl rfl) ?_
   refine D.p 19 (by kernel_rfl) rfl (fun X=>EX.pickT rfl rfl rfl) rfl rfl rfl ?_
   refine D.p 20 (by kernel_rfl) rfl (fun X=>EX.move rfl) rfl rfl rfl ?_
   refine D.off 21 (by kernel_rfl) rfl rfl rfl (.guard rfl rfl rfl rfl rfl) ?_
   refine D.off 22 (by kernel_rfl) rfl rfl rfl (.guard rfl rfl rfl rfl rfl) ?_
   refine D.off 23 (by kernel_rfl) rfl rfl rfl (.guard rfl rfl rfl rfl rfl) ?_
   refine D.off 24 (by kernel_rfl) rfl rfl rfl (.guard rfl rfl rfl rfl rfl) ?_
   refine D.off 25 (by kernel_rfl) rfl rfl rfl (.undef rfl rfl rfl rfl) ?_
   refine D.off 26 (by kernel_rfl) rfl rfl rfl (.undef rfl rfl rfl rfl) ?_
   refine D.off 27 (by kernel_rfl) rfl rfl rfl (.undef rfl rfl rfl rfl) ?_
   refine D.off 28 (by kernel_rfl) rfl rfl rfl (.undef rfl rfl rfl rfl) ?_
   refine D.off 29 (by kernel_rfl) rfl rfl rfl (.undef rfl rfl rfl rfl) ?_
   refine D.off 30 (by kernel_rfl) rfl rfl rfl (.guard rfl rfl rfl rfl rfl) ?_
   refine D.p 31 (by kernel_rfl) rfl (fun X=>EX.pickT rfl rfl rfl) rfl rfl rfl ?_
   refine GD.done (by kernel_rfl) ?_
   refine GE.seq ?_
   refine GC.condT rfl rfl ?_
   refine GC.seq ?_
   refine GC.region ?_
   refine L.v (EX.assign rfl) rfl rfl rfl ?_
   refine GL.nil ?_
   refine GE.seq ?_
   refine GC.ret (GE.then_ret ?_)
   refine GE.out rfl rfl (fun w h=>?_)
   simp only [decide_eq_true_eq,decide_eq_false_iff_not,Bool.not_eq_true,ne_eq,Decidable.not_not] at *
   first
   | exact ⟨by rw [may_no (by rintro ⟨h1,h2,h3,h4,h5,h6⟩; first | omega | contradiction | (have h7:=h6 (t.parts[s]?.getD 0) (getD_mem (by omega)); omega))],h.part (.take .p1 (.drop .refl))⟩
   | exact ⟨by rw [(may_iff t l).2 ⟨by omega,by omega,by assumption,by omega,by omega,may_all hn hall⟩],h.part (.take .p1 (.drop .refl))⟩
  ·refine D.g 9 (by kernel_rfl) rfl (fun X=>EX.ldN rfl many94 rfl) rfl rfl (.guard rfl rfl rfl rfl g15) ?_
   refine D.g 10 (by kernel_rfl) rfl (fun X=>EX.ldN rfl many94 rfl) rfl rfl (.guard rfl rfl rfl rfl g15) ?_
   refine GD.act 11 (by kernel_rfl) rfl ?_
   refine K.c (EC.direct en117 rfl) (only_fn t) .nil .a0 rfl rfl (.guard rfl rfl rfl rfl g15) ?_
   refine D.n .refl ?_
   refine D.pg 12 (by kernel_rfl) rfl (fun X=>EX.neqTm (t:=t) (u:=t.only) rfl rfl) rfl rfl (.guard rfl rfl rfl rfl g15) ?_
   refine D.p 13 (by kernel_rfl) rfl (fun X=>EX.pickF rfl g15 rfl) rfl rfl rfl ?_
   refine D.p 14 (by kernel_rfl) rfl (fun X=>EX.move rfl) rfl rfl rfl ?_
   refine GD.case 21 rfl (fun g21=>?_) (fun g21=>?_)
   ·refine D.off 15 (by kernel_rfl) rfl rfl rfl (.guard rfl rfl rfl rfl g21) ?_
    refine D.off 16 (by kernel_rfl) rfl rfl rfl (.guard rfl rfl rfl rfl g21) ?_
    refine D.off 17 (by kernel_rfl) rfl rfl rfl (.guard rfl rfl rfl rfl g21) ?_
    refine D.off 18 (by kernel_rfl) rfl rfl rfl (.guard rfl rfl rfl rfl g21) ?_
    refine D.p 19 (by kernel_rfl) rfl (fun X=>EX.pickT rfl g21 rfl) rfl rfl rfl ?_
    refine D.p 20 (by kernel_rfl) rfl (fun X=>EX.move rfl) rfl rfl rfl ?_
    refine D.off 21 (by kernel_rfl) rfl rfl rfl (.guard rfl rfl rfl rfl rfl) ?_
    refine D.off 22 (by kernel_rfl) rfl rfl rfl (.guard rfl rfl rfl rfl rfl) ?_
    refine D.off 23 (by kernel_rfl) rfl rfl rfl (.guard rfl rfl rfl rfl rfl) ?_
    refine D.off 24 (by kernel_rfl) rfl rfl rfl (.guard rfl rfl rfl rfl rfl) ?_
    refine D.off 25 (by kernel_rfl) rfl rfl rfl (.undef rfl rfl rfl rfl) ?_
    refine D.off 26 (by kernel_rfl) rfl rfl rfl (.undef rfl rfl rfl rfl) ?_
    refine D.off 27 (by kernel_rfl) rfl rfl rfl (.undef rfl rfl rfl rfl) ?_
    refine D.off 28 (by kernel_rfl) rfl rfl rfl (.undef rfl rfl rfl rfl) ?_
    refine D.off 29 (by kernel_rfl) rfl rfl rfl (.undef rfl rfl rfl rfl) ?_
    refine D.off 30 (by kernel_rfl) rfl rfl rfl (.guard rfl rfl rfl rfl rfl) ?_
    refine D.p 31 (by kernel_rfl) rfl (fun X=>EX.pickT rfl rfl rfl) rfl rfl rfl ?_
    refine GD.done (by kernel_rfl) ?_
    refine GE.seq ?_
    refine GC.condT rfl rfl ?_
    refine GC.seq ?_
    refine GC.region ?_
    refine L.v (EX.assign rfl) rfl rfl rfl ?_
    refine GL.nil ?_
    refine GE.seq ?_
    refine GC.ret (GE.then_ret ?_)
    refine GE.out rfl rfl (fun w h=>?_)
    simp only [decide_eq_true_eq,decide_eq_false_iff_not,Bool.not_eq_true,ne_eq,Decidable.not_not] at *
    first
    | exact ⟨by rw [may_no (by rintro ⟨h1,h2,h3,h4,h5,h6⟩; first | omega | contradiction | (have h7:=h6 (t.parts[s]?.getD 0) (getD_mem (by omega)); omega))],h.part (.take .p1 (.drop .refl))⟩
    | exact ⟨by rw [(may_iff t l).2 ⟨by omega,by omega,by assumption,by omega,by omega,may_all hn hall⟩],h.part (.take .p1 (.drop .refl))⟩
   ·refine D.pg 15 (by kernel_rfl) rfl (fun X=>EX.fieldAddr rfl fa94_1) rfl rfl (.guard rfl rfl rfl rfl g21) ?_
    refine D.g 16 (by kernel_rfl) rfl (fun X=>EX.ld rfl rfl one9) rfl rfl (.guard rfl rfl rfl rfl g21) ?_
    refine D.pg 17 (by kernel_rfl) rfl (fun X=>EX.lenS rfl Tryz.underlying9) rfl rfl (.guard rfl rfl rfl rfl g21) ?_
    refine D.pg 18 (by kernel_rfl) rfl (fun X=>EX.gtr rfl rfl) rfl rfl (.guard rfl rfl rfl rfl g21) ?_
    refine D.p 19 (by kernel_rfl) rfl (fun X=>EX.pickF rfl g21 rfl) rfl rfl rfl ?_
    refine D.p 20 (by kernel_rfl) rfl (fun X=>EX.move rfl) rfl rfl rfl ?_
    refine GD.case 27 rfl (fun g27=>?_) (fun g27=>?_)
    ·refine D.off 21 (by kernel_rfl) rfl rfl rfl (.guard rfl rfl rfl rfl g27) ?_
     refine D.off 22 (by kernel_rfl) rfl rfl rfl (.guard rfl rfl rfl rfl g27) ?_
     refine D.off 23 (by kernel_rfl) rfl rfl rfl (.guard rfl rfl rfl rfl g27) ?_
     refine D.off 24 (by kernel_rfl) rfl rfl rfl (.guard rfl rfl rfl rfl g27) ?_
     refine D.off 25 (by kernel_rfl) rfl rfl rfl (.undef rfl rfl rfl rfl) ?_
     refine D.off 26 (by kernel_rfl) rfl rfl rfl (.undef rfl rfl rfl rfl) ?_
     refine D.off 27 (by kernel_rfl) rfl rfl rfl (.undef rfl rfl rfl rfl) ?_
     refine D.off 28 (by kernel_rfl) rfl rfl rfl (.undef rfl rfl rfl rfl) ?_
     refine D.off 29 (by kernel_rfl) rfl rfl rfl (.undef rfl rfl rfl rfl) ?_
     refine D.off 30 (by kernel_rfl) rfl rfl rfl (.guard rfl rfl rfl rfl g27) ?_
     refine D.p 31 (by kernel_rfl) rfl (fun X=>EX.pickT rfl g27 rfl) rfl rfl rfl ?_
     refine GD.done (by kernel_rfl) ?_
     refine GE.seq ?_
     refine GC.condT rfl rfl ?_
     refine GC.seq ?_
     refine GC.region ?_
     refine L.v (EX.assign rfl) rfl rfl rfl ?_
     refine GL.nil ?_
     refine GE.seq ?_
     refine GC.ret (GE.then_ret ?_)
     refine GE.out rfl rfl (fun w h=>?_)
     simp only [decide_eq_true_eq,decide_eq_false_iff_not,Bool.not_eq_true,ne_eq,Decidable.not_not] at *
     first
     | exact ⟨by rw [may_no (by rintro ⟨h1,h2,h3,h4,h5,h6⟩; first | omega | contradiction | (have h7:=h6 (t.parts[s]?.getD 0) (getD_mem (by omega)); omega))],h.part (.take .p1 (.drop .refl))⟩
     | exact ⟨by rw [(may_iff t l).2 ⟨by omega,by omega,by assumption,by omega,by omega,may_all hn hall⟩],h.part (.take .p1 (.drop .refl))⟩
    ·refine D.pg 21 (by kernel_rfl) rfl (fun X=>EX.fieldAddr rfl fa94_0) rfl rfl (.guard rfl rfl rfl rfl g27) ?_
     refine D.g 22 (by kernel_rfl) rfl (fun X=>EX.ld rfl rfl one3) rfl rfl (.guard rfl rfl rfl rfl g27) ?_
     refine D.pg 23 (by kernel_rfl) rfl (fun X=>EX.eql rfl rfl) rfl rfl (.guard rfl rfl rfl rfl g27) ?_
     refine D.pg 24 (by kernel_rfl) rfl (fun X=>EX.move rfl) rfl rfl (.guard rfl rfl rfl rfl g27) ?_
     refine GD.case 31 rfl (fun g31=>?_) (fun g31=>?_)
     ·refine D.pg 25 (by kernel_rfl) rfl (fun X=>EX.fieldAddr rfl fa94_3) rfl rfl (.guard rfl rfl rfl rfl g31) ?_
      refine D.g 26 (by kernel_rfl) rfl (fun X=>EX.ld rfl rfl one3) rfl rfl (.guard rfl rfl rfl rfl g31) ?_
      refine D.pg 27 (by kernel_rfl) rfl (fun X=>EX.fieldAddr rfl fa94_4) rfl rfl (.guard rfl rfl rfl rfl g31) ?_
      refine D.g 28 (by kernel_rfl) rfl (fun X=>EX.ld rfl rfl one3) rfl rfl (.guard rfl rfl rfl rfl g31) ?_
      refine D.pg 29 (by kernel_rfl) rfl (fun X=>EX.gtr rfl rfl) rfl rfl (.guard rfl rfl rfl rfl g31) ?_
      refine D.pg 30 (by kernel_rfl) rfl (fun X=>EX.pickT rfl g31 rfl) rfl rfl (.guard rfl rfl rfl rfl g27) ?_
      refine D.p 31 (by kernel_rfl) rfl (fun X=>EX.pickF rfl g27 rfl) rfl rfl rfl ?_
      refine GD.done (by kernel_rfl) ?_
      refine GE.seq ?_
      refine GC.cond rfl (fun c38=>?_) (fun c38=>?_)
      ·refine GC.seq ?_
       refine GC.region ?_
       refine L.v (EX.assign rfl) rfl rfl rfl ?_
       refine GL.nil ?_
       refine GE.seq ?_
       refine GC.ret (GE.then_ret ?_)
       refine GE.out rfl rfl (fun w h=>?_)
       simp only [decide_eq_true_eq,decide_eq_false_iff_not,Bool.not_eq_true,ne_eq,Decidable.not_not] at *
       first
       | exact ⟨by rw [may_no (by rintro ⟨h1,h2,h3,h4,h5,h6⟩; first | omega | contradiction | (have h7:=h6 (t.parts[s]?.getD 0) (getD_mem (by omega)); omega))],h.part (.take .p1 (.drop .refl))⟩
       | exact ⟨by rw [(may_iff t l).2 ⟨by omega,by omega,by assumption,by omega,by omega,may_all hn hall⟩],h.part (.take .p1 (.drop .refl))⟩
      ·refine GC.skip ?_
       refine GE.seq ?_
       refine GC.seq ?_
       refine GC.seq ?_
       refine GC.region ?_
       refine L.v (EX.ldN rfl many94 rfl) rfl rfl rfl ?_
       refine K.x (EC.direct en70 rfl) (parts_fn t) .nil (fun _=>.a1) rfl rfl (.free rfl) (fun v hv=>?_)
       obtain ⟨av,cv,rfl⟩:=hv
       rw [hn]
       refine L.v (EX.lenL rfl Tryz.underlying40) rfl rfl rfl ?_
       refine L.v (EX.move rfl) rfl rfl rfl ?_
       refine GL.nil ?_
       refine GE.seq ?_
       refine GC.block ?_
       refine GC.lp (σ:=Nat) (fun s=>[(42,.int .i64 (s:Int)),(40,.slice av n cv),(41,.int .i64 (n:Int)),(0,ptr bs)]) (fun s=>[Rw 3 1 (.slice av n cv) n (i64s t.parts),St bs l most]++R) (fun s=>s≤n∧∀ j,j < s→1≤t.parts[j]?.getD 0∧t.parts[j]?.getD 0≤l.length) (fun s=>n - s) 0 (.c rfl (.c rfl (.c rfl (.c rfl .n)))) (.take .p0 (.take .p1 (.drop .refl))) (⟨Nat.zero_le _,fun j hj=>by omega⟩) (fun s hs=>?_)
       refine GC.app .a2 ?_
       obtain ⟨hsn,hall⟩:=hs
       refine GC.seq ?_
       refine GC.region ?_
       refine L.v (EX.lss rfl rfl) rfl rfl rfl ?_
       refine GL.nil ?_
       refine GE.seq ?_
       refine GC.seq ?_
       refine GC.cond rfl (fun c43=>?_) (fun c43=>?_)
       ·simp only [decide_eq_true_eq] at c43
        have hsn:s < n:=by omega
        refine GC.know (fun w h=>h.rwSome .p0 (by omega)) (fun hg=>?_)
        obtain ⟨g,rfl⟩:=hg
        refine GC.skip ?_
        refine GE.seq ?_
        refine GC.seq ?_
        refine GC.block ?_
        refine GC.seq ?_
        refine GC.region ?_
        refine L.v (EX.indexAddr (a:=s) rfl rfl sl40 (by omega) (by simp)) rfl rfl rfl ?_
        refine L.v (EX.ldR rfl (i64s_getD (by omega)) one3) rfl rfl rfl ?_
        refine L.v (EX.assign rfl) rfl rfl rfl ?_
        refine GL.nil ?_
        refine GE.seq ?_
        refine GC.seq ?_
        refine GC.region ?_
        refine L.v (EX.move rfl) rfl rfl rfl ?_
        refine L.v (EX.lss rfl rfl) rfl rfl rfl ?_
        refine L.v (EX.move rfl) rfl rfl rfl ?_
        refine GL.case 48 rfl (fun g48=>?_) (fun g48=>?_)
        ·refine GL.off rfl rfl (.guard rfl rfl rfl rfl g48) ?_
         refine GL.off rfl rfl (.guard rfl rfl rfl rfl g48) ?_
         refine GL.off rfl rfl (.guard rfl rfl rfl rfl g48) ?_
         refine GL.off rfl rfl (.guard rfl rfl rfl rfl g48) ?_
         refine L.v (EX.pickT rfl g48 rfl) rfl rfl rfl ?_
         refine GL.nil ?_
         refine GE.seq ?_
         refine GC.condT rfl rfl ?_
         refine GC.seq ?_
         refine GC.region ?_
         refine L.v (EX.assign rfl) rfl rfl rfl ?_
         refine GL.nil ?_
         refine GE.seq ?_
         refine GC.ret (GE.block_ret (GE.then_ret (GE.then_ret (GE.block_ret (GE.then_ret ?_)))))
         refine GE.out rfl rfl (fun w h=>?_)
         simp only [decide_eq_true_eq,decide_eq_false_iff_not,Bool.not_eq_true,ne_eq,Decidable.not_not] at *
         first
         | exact ⟨by rw [may_no (by rintro ⟨h1,h2,h3,h4,h5,h6⟩; first | omega | contradiction | (have h7:=h6 (t.parts[s]?.getD 0) (getD_mem (by omega)); omega))],h.part (.take .p1 (.drop .refl))⟩
         | exact ⟨by rw [(may_iff t l).2 ⟨by omega,by omega,by assumption,by omega,by omega,may_all hn hall⟩],h.part (.take .p1 (.drop .refl))⟩
        ·refine GL.val (EX.move rfl) rfl rfl (.guard rfl rfl rfl rfl g48) ?_
         refine GL.val (EX.move rfl) rfl rfl (.guard rfl rfl rfl rfl g48) ?_
         refine K.c (EC.direct en9 rfl) (len_fn _ _ _) (.one .p1) .a1 rfl rfl (.guard rfl rfl rfl rfl g48) ?_
         refine GL.val (EX.gtr rfl rfl) rfl rfl (.guard rfl rfl rfl rfl g48) ?_
         refine L.v (EX.pickF rfl g48 rfl) rfl rfl rfl ?_
         refine GL.nil ?_
         refine GE.seq ?_
         refine GC.cond rfl (fun c53=>?_) (fun c53=>?_)
         ·refine GC.seq ?_
          refine GC.region ?_
          refine L.v (EX.assign rfl) rfl rfl rfl ?_
          refine GL.nil ?_
          refine GE.seq ?_
          refine GC.ret (GE.block_ret (GE.then_ret (GE.then_ret (GE.block_ret (GE.then_ret ?_)))))
          refine GE.out rfl rfl (fun w h=>?_)
          simp only [decide_eq_true_eq,decide_eq_false_iff_not,Bool.not_eq_true,ne_eq,Decidable.not_not] at *
          first
          | exact ⟨by rw [may_no (by rintro ⟨h1,h2,h3,h4,h5,h6⟩; first | omega | contradiction | (have h7:=h6 (t.parts[s]?.getD 0) (getD_mem (by omega)); omega))],h.part (.take .p0 (.drop .refl))⟩
          | exact ⟨by rw [(may_iff t l).2 ⟨by omega,by omega,by assumption,by omega,by omega,may_all hn hall⟩],h.part (.take .p0 (.drop .refl))⟩
         ·refine GC.skip ?_
          refine GE.block ?_
          refine GE.seq ?_
          refine GC.region ?_
          refine L.v (EX.add rfl rfl (wi (by omega))) rfl rfl rfl ?_
          refine L.v (EX.move rfl) rfl rfl rfl ?_
          refine GL.nil ?_
          simp only [decide_eq_true_eq,decide_eq_false_iff_not,Bool.not_eq_true,ne_eq,Decidable.not_not] at *
          have hnext:∀ j,j < s + 1→1≤t.parts[j]?.getD 0∧t.parts[j]?.getD 0≤l.length:=by
           intro j hj
           rcases Nat.lt_or_ge j s with h | h
           ·exact hall j h
           ·obtain rfl:j=s:=by omega
            exact ⟨by omega,by omega⟩
          exact GE.ag (s + 1) (.c (by rw [← Int.natCast_succ]; rfl) (.c rfl (.c rfl (.c rfl .n)))) (.take .p1 .refl) (by omega) (⟨by omega,hnext⟩)
       ·simp only [decide_eq_false_iff_not] at c43
        obtain rfl:s=n:=by omega
        refine GC.exit (GE.then_exit (GE.then_exit (GE.block_hit ?_)))
        refine GE.seq ?_
        refine GC.seq ?_
        refine GC.region ?_
        refine L.v (EX.assign rfl) rfl rfl rfl ?_
        refine GL.nil ?_
        refine GE.seq ?_
        refine GC.ret ?_
        refine GE.out rfl rfl (fun w h=>?_)
        simp only [decide_eq_true_eq,decide_eq_false_iff_not,Bool.not_eq_true,ne_eq,Decidable.not_not] at *
        first
        | exact ⟨by rw [may_no (by rintro ⟨h1,h2,h3,h4,h5,h6⟩; first | omega | contradiction | (have h7:=h6 (t.parts[s]?.getD 0) (getD_mem (by omega)); omega))],h.part (.take .p1 (.drop .refl))⟩
        | exact ⟨by rw [(may_iff t l).2 ⟨by omega,by omega,by assumption,by omega,by omega,may_all hn hall⟩],h.part (.take .p1 (.drop .refl))⟩
     ·refine D.off 25 (by kernel_rfl) rfl rfl rfl (.guard rfl rfl rfl rfl g31) ?_
      refine D.off 26 (by kernel_rfl) rfl rfl rfl (.guard rfl rfl rfl rfl g31) ?_
      refine D.off 27 (by kernel_rfl) rfl rfl rfl (.guard rfl rfl rfl rfl g31) ?_
      refine D.off 28 (by kernel_rfl) rfl rfl rfl (.guard rfl rfl rfl rfl g31) ?_
      refine D.off 29 (by kernel_rfl) rfl rfl rfl (.guard rfl rfl rfl rfl g31) ?_
      refine D.pg 30 (by kernel_rfl) rfl (fun X=>EX.pickF rfl g31 rfl) rfl rfl (.guard rfl rfl rfl rfl g27) ?_
      refine D.p 31 (by kernel_rfl) rfl (fun X=>EX.pickF rfl g27 rfl) rfl rfl rfl ?_
      refine GD.done (by kernel_rfl) ?_
      refine GE.seq ?_
      refine GC.condF rfl rfl ?_
      refine GC.skip ?_
      refine GE.seq ?_
      refine GC.seq ?_
      refine GC.seq ?_
      refine GC.region ?_
      refine L.v (EX.ldN rfl many94 rfl) rfl rfl rfl ?_
      refine K.x (EC.direct en70 rfl) (parts_fn t) .nil (fun _=>.a1) rfl rfl (.free rfl) (fun v hv=>?_)
      obtain ⟨av,cv,rfl⟩:=hv
      rw [hn]
      refine L.v (EX.lenL rfl Tryz.underlying40) rfl rfl rfl ?_
      refine L.v (EX.move rfl) rfl rfl rfl ?_
      refine GL.nil ?_
      refine GE.seq ?_
      refine GC.block ?_
      refine GC.lp (σ:=Nat) (fun s=>[(42,.int .i64 (s:Int)),(40,.slice av n cv),(41,.int .i64 (n:Int)),(0,ptr bs)]) (fun s=>[Rw 3 1 (.slice av n cv) n (i64s t.parts),St bs l most]++R) (fun s=>s≤n∧∀ j,j < s→1≤t.parts[j]?.getD 0∧t.parts[j]?.getD 0≤l.length) (fun s=>n - s) 0 (.c rfl (.c rfl (.c rfl (.c rfl .n)))) (.take .p0 (.take .p1 (.drop .refl))) (⟨Nat.zero_le _,fun j hj=>by omega⟩) (fun s hs=>?_)
      refine GC.app .a2 ?_
      obtain ⟨hsn,hall⟩:=hs
      refine GC.seq ?_
      refine GC.region ?_
      refine L.v (EX.lss rfl rfl) rfl rfl rfl ?_
      refine GL.nil ?_
      refine GE.seq ?_
      refine GC.seq ?_
      refine GC.cond rfl (fun c43_1=>?_) (fun c43_1=>?_)
      ·simp only [decide_eq_true_eq] at c43_1
       have hsn:s < n:=by omega
       refine GC.know (fun w h=>h.rwSome .p0 (by omega)) (fun hg=>?_)
       obtain ⟨g,rfl⟩:=hg
       refine GC.skip ?_
       refine GE.seq ?_
       refine GC.seq ?_
       refine GC.block ?_
       refine GC.seq ?_
       refine GC.region ?_
       refine L.v (EX.indexAddr (a:=s) rfl rfl sl40 (by omega) (by simp)) rfl rfl rfl ?_
       refine L.v (EX.ldR rfl (i64s_getD (by omega)) one3) rfl rfl rfl ?_
       refine L.v (EX.assign rfl) rfl rfl rfl ?_
       refine GL.nil ?_
       refine GE.seq ?_
       refine GC.seq ?_
       refine GC.region ?_
       refine L.v (EX.move rfl) rfl rfl rfl ?_
       refine L.v (EX.lss rfl rfl) rfl rfl rfl ?_
       refine L.v (EX.move rfl) rfl rfl rfl ?_
       refine GL.case 48 rfl (fun g48_1=>?_) (fun g48_1=>?_)
       ·refine GL.off rfl rfl (.guard rfl rfl rfl rfl g48_1) ?_
        refine GL.off rfl rfl (.guard rfl rfl rfl rfl g48_1) ?_
        refine GL.off rfl rfl (.guard rfl rfl rfl rfl g48_1) ?_
        refine GL.off rfl rfl (.guard rfl rfl rfl rfl g48_1) ?_
        refine L.v (EX.pickT rfl g48_1 rfl) rfl rfl rfl ?_
        refine GL.nil ?_
        refine GE.seq ?_
        refine GC.condT rfl rfl ?_
        refine GC.seq ?_
        refine GC.region ?_
        refine L.v (EX.assign rfl) rfl rfl rfl ?_
        refine GL.nil ?_
        refine GE.seq ?_
        refine GC.ret (GE.block_ret (GE.then_ret (GE.then_ret (GE.block_ret (GE.then_ret ?_)))))
        refine GE.out rfl rfl (fun w h=>?_)
        simp only [decide_eq_true_eq,decide_eq_false_iff_not,Bool.not_eq_true,ne_eq,Decidable.not_not] at *
        first
        | exact ⟨by rw [may_no (by rintro ⟨h1,h2,h3,h4,h5,h6⟩; first | omega | contradiction | (have h7:=h6 (t.parts[s]?.getD 0) (getD_mem (by omega)); omega))],h.part (.take .p1 (.drop .refl))⟩
        | exact ⟨by rw [(may_iff t l).2 ⟨by omega,by omega,by assumption,by omega,by omega,may_all hn hall⟩],h.part (.take .p1 (.drop .refl))⟩
       ·refine GL.val (EX.move rfl) rfl rfl (.guard rfl rfl rfl rfl g48_1) ?_
        refine GL.val (EX.move rfl) rfl rfl (.guard rfl rfl rfl rfl g48_1) ?_
        refine K.c (EC.direct en9 rfl) (len_fn _ _ _) (.one .p1) .a1 rfl rfl (.guard rfl rfl rfl rfl g48_1) ?_
        refine GL.val (EX.gtr rfl rfl) rfl rfl (.guard rfl rfl rfl rfl g48_1) ?_
        refine L.v (EX.pickF rfl g48_1 rfl) rfl rfl rfl ?_
        refine GL.nil ?_
        refine GE.seq ?_
        refine GC.cond rfl (fun c53_1=>?_) (fun c53_1=>?_)
        ·refine GC.seq ?_
         refine GC.region ?_
         refine L.v (EX.assign rfl) rfl rfl rfl ?_
         refine GL.nil ?_
         refine GE.seq ?_
         refine GC.ret (GE.block_ret (GE.then_ret (GE.then_ret (GE.block_ret (GE.then_ret ?_)))))
         refine GE.out rfl rfl (fun w h=>?_)
         simp only [decide_eq_true_eq,decide_eq_false_iff_not,Bool.not_eq_true,ne_eq,Decidable.not_not] at *
         first
         | exact ⟨by rw [may_no (by rintro ⟨h1,h2,h3,h4,h5,h6⟩; first | omega | contradiction | (have h7:=h6 (t.parts[s]?.getD 0) (getD_mem (by omega)); omega))],h.part (.take .p0 (.drop .refl))⟩
         | exact ⟨by rw [(may_iff t l).2 ⟨by omega,by omega,by assumption,by omega,by omega,may_all hn hall⟩],h.part (.take .p0 (.drop .refl))⟩
        ·refine GC.skip ?_
         refine GE.block ?_
         refine GE.seq ?_
         refine GC.region ?_
         refine L.v (EX.add rfl rfl (wi (by omega))) rfl rfl rfl ?_
         refine L.v (EX.move rfl) rfl rfl rfl ?_
         refine GL.nil ?_
         simp only [decide_eq_true_eq,decide_eq_false_iff_not,Bool.not_eq_true,ne_eq,Decidable.not_not] at *
         have hnext:∀ j,j < s + 1→1≤t.parts[j]?.getD 0∧t.parts[j]?.getD 0≤l.length:=by
          intro j hj
          rcases Nat.lt_or_ge j s with h | h
          ·exact hall j h
          ·obtain rfl:j=s:=by omega
           exact ⟨by omega,by omega⟩
         exact GE.ag (s + 1) (.c (by rw [← Int.natCast_succ]; rfl) (.c rfl (.c rfl (.c rfl .n)))) (.take .p1 .refl) (by omega) (⟨by omega,hnext⟩)
      ·simp only [decide_eq_false_iff_not] at c43_1
       obtain rfl:s=n:=by omega
       refine GC.exit (GE.then_exit (GE.then_exit (GE.block_hit ?_)))
       refine GE.seq ?_
       refine GC.seq ?_
       refine GC.region ?_
       refine L.v (EX.assign rfl) rfl rfl rfl ?_
       refine GL.nil ?_
       refine GE.seq ?_
       refine GC.ret ?_
       refine GE.out rfl rfl (fun w h=>?_)
       simp only [decide_eq_true_eq,decide_eq_false_iff_not,Bool.not_eq_true,ne_eq,Decidable.not_not] at *
       first
       | exact ⟨by rw [may_no (by rintro ⟨h1,h2,h3,h4,h5,h6⟩; first | omega | contradiction | (have h7:=h6 (t.parts[s]?.getD 0) (getD_mem (by omega)); omega))],h.part (.take .p1 (.drop .refl))⟩
       | exact ⟨by rw [(may_iff t l).2 ⟨by omega,by omega,by assumption,by omega,by omega,may_all hn hall⟩],h.part (.take .p1 (.drop .refl))⟩
end
section
open Go.RowKit
set_option maxRecDepth 100000
theorem len_blk (bs m c:Nat) (a:Option Addr) (v1 v2 v3:Value) (h1:1≤m) (h2:m≤3000000):Fn1 Tryz.prog 9 [ptr bs].toArray [Bk bs 109 [.slice a m c,v1,v2,v3]] (.int .i64 ((m:Int) - 1)) [Bk bs 109 [.slice a m c,v1,v2,v3]]:=by
 refine Fn.go Tryz.func9 rfl Tryz.ntmps9 rfl (fun W0 R=>?_)
 refine GC.app .a1 ?_
 refine GC.seq ?_
 refine GC.region ?_
 refine L.v (EX.assign rfl) rfl rfl rfl ?_
 refine GL.nil ?_
 refine GE.seq ?_
 refine GC.seq ?_
 refine GC.region ?_
 refine L.v (EX.move rfl) rfl rfl rfl ?_
 refine L.v (EX.nilCheck rfl) rfl rfl rfl ?_
 refine L.v (EX.fieldAddr rfl fa109_0) rfl rfl rfl ?_
 refine L.v (EX.ld rfl rfl one106) rfl rfl rfl ?_
 refine L.v (EX.lenL rfl Tryz.underlying106) rfl rfl rfl ?_
 refine L.v (EX.sub rfl rfl (wi (by omega))) rfl rfl rfl ?_
 refine L.v (EX.assign rfl) rfl rfl rfl ?_
 refine GL.nil ?_
 refine GE.seq ?_
 refine GC.ret ?_
 refine GE.out rfl rfl (fun w h=>?_)
 exact ⟨rfl,h⟩
theorem law94:KeyL Tryz.prog 94 tval:=by
 refine ⟨eq94,?_,⟨_,Tryz.underlying94,.inr (fun a b=>rfl)⟩,?_⟩
 ·intro a e w
  have u3:=Tryz.underlying3
  have u9:=Tryz.underlying9
  have u30:=Tryz.underlying30
  unfold tval
  rw [Instr.checkKey]
  simp only [Sem.run_bind,run_underlying Tryz.underlying94,Result.andThen_ok]
  go_simp
  have ci:∀ k,(Instr.checkKey e 9999 3 (.int .i64 k)).run Tryz.prog w=.ok () w:=fun k=>by rw [Instr.checkKey]; simp [run_underlying Tryz.underlying3]
  have cs:∀ k,(Instr.checkKey e 9999 9 (.string k)).run Tryz.prog w=.ok () w:=fun k=>by rw [Instr.checkKey]; simp [run_underlying Tryz.underlying9]
  have cu:∀ k,(Instr.checkKey e 9999 30 (.int .u64 k)).run Tryz.prog w=.ok () w:=fun k=>by rw [Instr.checkKey]; simp [run_underlying Tryz.underlying30]
  simp only [ci,cs,cu,Result.andThen_ok]
 ·intro a
  unfold tval
  rw [Instr.sameBits]
  simp only [Instr.sameBits,List.zip_cons_cons,List.zip_nil_left,List.all_cons,List.all_nil,List.zip_nil_right]
  simp
  rw [beq_toListBytes]; simp
theorem lookAt_zip {t : Tm} : ∀ (l : List Tm) (i k : Nat), lookAt t (l.zipIdx k |>.map fun p => (p.1, Value.int .i64 ((p.2 : Int) + 1))) i = (l.findIdx? (· = t)).map fun j => (i + j, Value.int .i64 (((k + j : Nat) : Int) + 1))
  | [], i, k => rfl
  | x :: l, i, k => by
    simp only [List.zipIdx_cons, List.map_cons, lookAt, List.findIdx?_cons]
    by_cases e : t = x
    · subst e; simp
    · have e' : ¬ x = t := fun h => e h.symm
      rw [if_neg e, lookAt_zip l (i + 1) (k + 1)]
      simp only [decide_eq_false e', Bool.false_eq_true, if_false]
      cases l.findIdx? (fun x => decide (x = t)) with
      | none => rfl
      | some j => simp only [Option.map_some]; congr 2; · omega
                  · simp only [Value.int.injEq, true_and]; omega
theorem look_names (l:List Tm) (t:Tm):look (names l) t=(l.findIdx? (·=t)).map fun j=>Value.int .i64 ((j:Int) + 1):=by
 rw [← lookAt_look t (names l) 0]
 unfold names
 rw [lookAt_zip l 0 0]
 cases l.findIdx? (fun x=>decide (x=t)) with
 | none=>rfl
 | some j=>simp
theorem find_none {l:List Tm} {t:Tm} (h:look (names l) t=none):l.findIdx? (·=t)=none:=by
 rw [look_names] at h
 cases hq:l.findIdx? (·=t) with
 | none=>rfl
 | some j=>rw [hq] at h; simp at h
theorem names_app {l:List Tm} {t:Tm} (h:look (names l) t=none):setK t (.int .i64 ((l.length:Int) + 1)) (names l)=names (l++[t]):=by
 have:lookAt t (names l) 0=none:=by
  have:=lookAt_look t (names l) 0
  rw [h] at this
  cases hq:lookAt t (names l) 0 with
  | none=>rfl
  | some q=>rw [hq] at this; simp at this
 rw [setK_none this]
 simp [names,List.zipIdx_append]
theorem put_close {W0 w:World} {R:List Thing} {bs:Nat} {l:List Tm} {most:Int} {t:Tm} {mb:Nat} {ds:List Int} {al ad:Option Addr} {cl cd:Nat} {d:Int}
  (h:Sts W0 w (Bk bs 109 [.slice al (l.length + 1 + 1) cl,.slice ad (l.length + 1 + 1) cd,.map (some mb),.int .i64 most]::Rw 94 6 (.slice al (l.length + 1 + 1) cl) (l.length + 1 + 1) (tsC (tm0::l)++tcells t) ::
   Rw 3 1 (.slice ad (l.length + 1 + 1) cd) (l.length + 1 + 1) (i64s ds++[.int .i64 d])::Mp tval mb (setK t (.int .i64 ((l.length:Int) + 1)) (names l))::Fact (StoreG l ds)::R))
  (hl:look (names l) t=none) (hroom:l.length < 2000000):Sts W0 w (St bs (l++[t]) most::R):=by
 obtain ⟨gl,rfl⟩:=h.rwSome .p1 (by omega)
 obtain ⟨gd,rfl⟩:=h.rwSome .p2 (by omega)
 have h5:Sts W0 w (Fact (StoreG l ds)::_):=h.pick (.there (.there (.there (.there .here))))
 obtain ⟨hg,h6⟩:=h5.of_fact
 have hg':StoreG (l++[t]) (ds++[d]):=by
  refine ⟨by simp [hg.deep],?_,by simp; omega⟩
  refine List.nodup_append.2 ⟨hg.nodup,by simp,fun a ha b hb=>?_⟩
  simp at hb; subst hb
  intro e; subst e
  have h7:=look_names l a
  rw [hl] at h7
  cases hq:l.findIdx? (·=a) with
  | none=>rw [List.findIdx?_eq_none_iff] at hq; have:=hq a ha; simp at this
  | some j=>rw [hq] at h7; simp at h7
 refine st_close ⟨gl,cl,gd,cd,mb,ds++[d]⟩ ?_
 unfold storeL
 rw [← names_app hl]
 have e1:(l++[t]).length + 1=l.length + 1 + 1:=by simp
 have e2:tsC (tm0::(l++[t]))=tsC (tm0::l)++tcells t:=by rw [← List.cons_append,tsC_app]; rfl
 have e3:i64s (ds++[d])=i64s ds++[.int .i64 d]:=by simp [i64s]
 rw [e1,e2,e3]
 have h8:=Sts.to_fact hg' h6
 exact h8.perm (List.perm_middle (a:=Fact (StoreG (l++[t]) (ds++[d]))) (l₁:=[_,_,_,_]) (l₂:=R)).symm
theorem put_fn (bs:Nat) (l:List Tm) (most:Int) (t:Tm) (hm:most≤1048576) :
  Fn1 Tryz.prog 25 [ptr bs,tval t].toArray [St bs l most] (.tuple #[.int .i64 (putT l most t).1,.int .i64 (putT l most t).2.1]) [St bs (putT l most t).2.2 most]:=by
 obtain ⟨n,hn⟩:∃ n,t.parts.length=n:=⟨_,rfl⟩
 have hn3:=parts_len t
 rw [hn] at hn3
 refine Fn.go Tryz.func25 rfl Tryz.ntmps25 rfl (fun W0 R=>?_)
 refine GC.app .a1 ?_
 refine GC.know (fun w h=>st_good h .here) (fun hg=>?_)
 obtain ⟨hroom,hnd⟩:=hg
 refine GC.seq ?_
 refine GC.region ?_
 refine GL.eff (EF.boxA rfl) rfl rfl (.free rfl) (fun b3 _=>?_)
 refine L.v (EX.assign rfl) rfl rfl rfl ?_
 refine L.v (EX.assign rfl) rfl rfl rfl ?_
 refine GL.nil ?_
 refine GE.seq ?_
 refine GC.seq ?_
 refine GC.seq ?_
 refine GC.region ?_
 refine L.v (EX.move rfl) rfl rfl rfl ?_
 refine L.v (EX.ldN rfl many94 rfl) rfl rfl rfl ?_
 refine K.c (EC.direct en69 rfl) (may_fn bs l most t) (.one .p1) .a1 rfl rfl (.free rfl) ?_
 refine L.v (EX.not rfl) rfl rfl rfl ?_
 refine GL.nil ?_
 refine GE.seq ?_
 refine GC.cond rfl (fun c15=>?_) (fun c15=>?_)
 ·have hno:t.may l=false:=by simpa using c15
  refine GC.seq ?_
  refine GC.region ?_
  refine L.v (EX.assign rfl) rfl rfl rfl ?_
  refine L.v (EX.assign rfl) rfl rfl rfl ?_
  refine GL.nil ?_
  refine GE.seq ?_
  refine GC.ret (GE.then_ret ?_)
  refine GE.outs rfl rfl rfl (fun w h=>?_)
  exact ⟨by unfold putT; simp [hno],by unfold putT; simpa [hno] using h.part (.take .p0 (.drop .refl))⟩
 ·have hmay:t.may l=true:=by simpa using c15
  have hpr:=((may_iff t l).1 hmay).2.2.2.2.2
  refine GC.ex (fun w h=>st_open h) (fun x=>?_)
  refine GC.app (.c (.c (.c (.c (.c .a0))))) ?_
  refine GC.know (fun w h=>(h.pick (.there (.there (.there (.there .here))))).of_fact.1) (fun hsg=>?_)
  have hdl:=hsg.deep
  refine GC.skip ?_
  refine GE.seq ?_
  refine GC.seq ?_
  refine GC.seq ?_
  refine GC.dr1 11 rfl (by kernel_rfl) (.t (.t (.t (.t (.t (.t .e)))))) ?_
  refine D.p 0 (by kernel_rfl) rfl (fun X=>EX.move rfl) rfl rfl rfl ?_
  refine D.p 1 (by kernel_rfl) rfl (fun X=>EX.nilCheck rfl) rfl rfl rfl ?_
  refine D.p 2 (by kernel_rfl) rfl (fun X=>EX.fieldAddr rfl fa109_2) rfl rfl rfl ?_
  refine D.v 3 (by kernel_rfl) rfl (fun X=>EX.ld rfl rfl one107) rfl rfl rfl ?_
  refine D.v 4 (by kernel_rfl) rfl (fun X=>EX.ldN rfl many94 rfl) rfl rfl rfl ?_
  refine D.v 5 (by kernel_rfl) rfl (fun X=>EX.lkOk (a:=t) rfl rfl law94 Tryz.underlying107 zv3) rfl rfl rfl ?_
  refine D.p 6 (by kernel_rfl) rfl (fun X=>EX.move rfl) rfl rfl rfl ?_
  refine D.p 7 (by kernel_rfl) rfl (fun X=>EX.extract rfl rfl) rfl rfl rfl ?_
  refine D.p 8 (by kernel_rfl) rfl (fun X=>EX.extract rfl rfl) rfl rfl rfl ?_
  refine D.p 9 (by kernel_rfl) rfl (fun X=>EX.assign rfl) rfl rfl rfl ?_
  refine D.p 10 (by kernel_rfl) rfl (fun X=>EX.assign rfl) rfl rfl rfl ?_
  refine GD.done (by kernel_rfl) ?_
  refine GE.seq ?_
  refine GC.seq ?_
  refine GC.region ?_
  refine L.v (EX.move rfl) rfl rfl rfl ?_
  refine GL.nil ?_
  refine GE.seq ?_
  refine GC.cond rfl (fun c25=>?_) (fun c25=>?_)
  ·refine GC.seq ?_
   refine GC.region ?_
   refine L.v (EX.move rfl) rfl rfl rfl ?_
   refine L.v (EX.assign rfl) rfl rfl rfl ?_
   refine L.v (EX.assign rfl) rfl rfl rfl ?_
   refine GL.nil ?_
   refine GE.seq ?_
   refine GC.ret (GE.then_ret ?_)
   refine GE.outs rfl rfl rfl (fun w h=>?_)
   obtain ⟨j,hj⟩:∃ j,l.findIdx? (·=t)=some j:=by
    have:=look_names l t
    cases hq:l.findIdx? (·=t) with
    | none=>rw [hq] at this; simp [this] at c25
    | some j=>exact ⟨j,rfl⟩
   have hl2:=look_names l t
   rw [hj] at hl2
   rw [hl2]
   have e:(putT l most t).2.2=l:=by unfold putT; simp [hmay,hj]
   rw [e]
   exact ⟨by unfold putT; simp [hmay,hj,lookV],st_close x (h.part (.take .p0 (.take .p0 (.take .p0 (.take .p0 (.take .p0 (.drop .refl)))))))⟩
  ·have hlk:look (names l) t=none:=by simpa using c25
   refine GC.skip ?_
   refine GE.seq ?_
   refine GC.seq ?_
   refine GC.seq ?_
   refine GC.dr1 7 rfl (by kernel_rfl) (.t (.t (.t (.t (.t (.t .e)))))) ?_
   refine D.p 0 (by kernel_rfl) rfl (fun X=>EX.move rfl) rfl rfl rfl ?_
   refine D.p 2 (by kernel_rfl) rfl (fun X=>EX.move rfl) rfl rfl rfl ?_
   refine D.p 3 (by kernel_rfl) rfl (fun X=>EX.nilCheck rfl) rfl rfl rfl ?_
   refine D.p 4 (by kernel_rfl) rfl (fun X=>EX.fieldAddr rfl fa109_3) rfl rfl rfl ?_
   refine D.v 5 (by kernel_rfl) rfl (fun X=>EX.ld rfl rfl one3) rfl rfl rfl ?_
   refine GD.act 1 (by kernel_rfl) rfl ?_
   refine K.c (EC.direct en9 rfl) (len_blk _ _ _ _ _ _ _ (by omega) (by omega)) (.one .p0) .a1 rfl rfl (.free rfl) ?_
   refine D.n .refl ?_
   refine D.p 6 (by kernel_rfl) rfl (fun X=>EX.geq rfl rfl) rfl rfl rfl ?_
   refine GD.done (by kernel_rfl) ?_
   refine GE.seq ?_
   refine GC.cond rfl (fun c33=>?_) (fun c33=>?_)
   ·refine GC.seq ?_
    refine GC.region ?_
    refine L.v (EX.assign rfl) rfl rfl rfl ?_
    refine L.v (EX.assign rfl) rfl rfl rfl ?_
    refine GL.nil ?_
    refine GE.seq ?_
    refine GC.ret (GE.then_ret ?_)
    refine GE.outs rfl rfl rfl (fun w h=>?_)
    simp only [decide_eq_true_eq] at c33
    have hj:=find_none hlk
    have hbig:most≤(l.length:Int):=by omega
    have e:(putT l most t).2.2=l:=by unfold putT; simp [hmay,hj,hbig]
    rw [e]
    exact ⟨by unfold putT; simp [hmay,hj,hbig],st_close x (h.part (.take .p0 (.take .p0 (.take .p0 (.take .p0 (.take .p0 (.drop .refl)))))))⟩
   ·simp only [decide_eq_false_iff_not] at c33
    refine GC.skip ?_
    refine GE.seq ?_
    refine GC.seq ?_
    refine GC.region ?_
    refine L.v (EX.assign rfl) rfl rfl rfl ?_
    refine GL.nil ?_
    refine GE.seq ?_
    refine GC.seq ?_
    refine GC.seq ?_
    refine GC.region ?_
    refine L.v (EX.ldN rfl many94 rfl) rfl rfl rfl ?_
    refine K.x (EC.direct en70 rfl) (parts_fn t) .nil (fun _=>.a1) rfl rfl (.free rfl) (fun v hv=>?_)
    obtain ⟨av,cv,rfl⟩:=hv
    rw [hn]
    refine L.v (EX.lenL rfl Tryz.underlying40) rfl rfl rfl ?_
    refine L.v (EX.move rfl) rfl rfl rfl ?_
    refine GL.nil ?_
    refine GE.seq ?_
    refine GC.block ?_
    refine GC.lp (σ:=Nat × Int) (fun s=>[(37,.int .i64 (s.1:Int)),(35,.slice av n cv),(36,.int .i64 (n:Int)),(8,.int .i64 s.2),(0,ptr bs),(3,ptr b3)]) (fun s=>[Rw 3 1 (.slice av n cv) n (i64s t.parts)]++storeL bs l most x++Bk b3 94 (tcells t)::R) (fun s=>s.1≤n) (fun s=>n - s.1) (0,0) (.c rfl (.c rfl (.c rfl (.c rfl (.c rfl (.c rfl .n)))))) .refl (Nat.zero_le _) (fun s hs=>?_)
    refine GC.app (M:=Rw 3 1 (.slice av n cv) n (i64s t.parts)::storeL bs l most x) (R:=Bk b3 94 (tcells t)::R) (.c (.c (.c (.c (.c (.c .a0)))))) ?_
    refine GC.seq ?_
    refine GC.region ?_
    refine L.v (EX.lss rfl rfl) rfl rfl rfl ?_
    refine GL.nil ?_
    refine GE.seq ?_
    refine GC.seq ?_
    refine GC.cond rfl (fun c38=>?_) (fun c38=>?_)
    ·simp only [decide_eq_true_eq] at c38
     have hsn:s.1 < n:=by omega
     refine GC.know (fun w h=>h.rwSome .p0 (by omega)) (fun hg=>?_)
     obtain ⟨g,rfl⟩:=hg
     have hp:=hpr (t.parts[s.1]?.getD 0) (getD_mem (by omega))
     obtain ⟨q,hq⟩:∃ q:Nat,t.parts[s.1]?.getD 0=q:=⟨(t.parts[s.1]?.getD 0).toNat,by omega⟩
     refine GC.skip ?_
     refine GE.seq ?_
     refine GC.seq ?_
     refine GC.block ?_
     refine GC.seq ?_
     refine GC.region ?_
     refine L.v (EX.indexAddr (a:=s.1) rfl rfl sl40 (by omega) (by simp)) rfl rfl rfl ?_
     refine L.v (EX.ldR rfl (i64s_getD (by omega)) one3) rfl rfl rfl ?_
     refine L.v (EX.assign rfl) rfl rfl rfl ?_
     refine GL.nil ?_
     refine GE.seq ?_
     refine GC.region ?_
     refine L.v (EX.move rfl) rfl rfl rfl ?_
     refine L.v (EX.move rfl) rfl rfl rfl ?_
     refine L.v (EX.nilCheck rfl) rfl rfl rfl ?_
     refine L.v (EX.fieldAddr rfl fa109_1) rfl rfl rfl ?_
     refine L.v (EX.ld rfl rfl one40) rfl rfl rfl ?_
     refine L.v (EX.move rfl) rfl rfl rfl ?_
     refine L.v (EX.indexAddr (a:=q) rfl rfl sl40 (by omega) (by rw [hq]; simp)) rfl rfl rfl ?_
     refine L.v (EX.ldR rfl (i64s_getD (by omega)) one3) rfl rfl rfl ?_
     refine L.v (EX.max2 rfl rfl rfl) rfl rfl rfl ?_
     refine L.v (EX.assign rfl) rfl rfl rfl ?_
     refine GL.nil ?_
     refine GE.block ?_
     refine GE.seq ?_
     refine GC.region ?_
     refine L.v (EX.add rfl rfl (wi (by omega))) rfl rfl rfl ?_
     refine L.v (EX.move rfl) rfl rfl rfl ?_
     refine GL.nil ?_
     exact GE.ag (s.1 + 1,_) (.c (by rw [← Int.natCast_succ]; rfl) (.c rfl (.c rfl (.c rfl (.c rfl (.c rfl .n)))))) .refl (by omega) (by omega)
    ·refine GC.exit (GE.then_exit (GE.then_exit (GE.block_hit ?_)))
     refine GE.seq ?_
     refine GC.seq ?_
     refine GC.region ?_
     refine L.v (EX.move rfl) rfl rfl rfl ?_
     refine L.v (EX.nilCheck rfl) rfl rfl rfl ?_
     refine L.v (EX.fieldAddr rfl fa109_0) rfl rfl rfl ?_
     refine L.v (EX.ld rfl rfl one106) rfl rfl rfl ?_
     refine L.v (EX.lenL rfl Tryz.underlying106) rfl rfl rfl ?_
     refine L.v (EX.assign rfl) rfl rfl rfl ?_
     refine GL.nil ?_
     refine GE.seq ?_
     refine GC.seq ?_
     refine GC.dr [] 19 23 rfl (by kernel_rfl) (.f (.t (.f (.f (.f (.f (.t .e))))))) ?_
     refine D.p 0 (by kernel_rfl) rfl (fun X=>EX.move rfl) rfl rfl rfl ?_
     refine D.p 1 (by kernel_rfl) rfl (fun X=>EX.move rfl) rfl rfl rfl ?_
     refine D.p 2 (by kernel_rfl) rfl (fun X=>EX.move rfl) rfl rfl rfl ?_
     refine D.p 3 (by kernel_rfl) rfl (fun X=>EX.nilCheck rfl) rfl rfl rfl ?_
     refine D.p 4 (by kernel_rfl) rfl (fun X=>EX.fieldAddr rfl fa109_0) rfl rfl rfl ?_
     refine D.e 5 (by kernel_rfl) (by kernel_rfl) rfl (fun X=>EX.ld rfl rfl one106) rfl rfl rfl ?_
     refine D.e 6 (by kernel_rfl) (by kernel_rfl) rfl (fun X=>EX.ldN rfl many94 rfl) rfl rfl rfl ?_
     refine D.p 9 (by kernel_rfl) rfl (fun X=>EX.move rfl) rfl rfl rfl ?_
     refine D.p 10 (by kernel_rfl) rfl (fun X=>EX.nilCheck rfl) rfl rfl rfl ?_
     refine D.p 11 (by kernel_rfl) rfl (fun X=>EX.fieldAddr rfl fa109_1) rfl rfl rfl ?_
     refine D.e 12 (by kernel_rfl) (by kernel_rfl) rfl (fun X=>EX.ld rfl rfl one40) rfl rfl rfl ?_
     refine D.p 13 (by kernel_rfl) rfl (fun X=>EX.move rfl) rfl rfl rfl ?_
     refine D.p 14 (by kernel_rfl) rfl (fun X=>EX.add rfl rfl rfl) rfl rfl rfl ?_
     refine GD.act2 7 15 (by kernel_rfl) rfl rfl ?_ ?_
     ·refine GL.eff (EF.buildSlice rfl bs106 rfl rfl rfl) rfl rfl (.free rfl) (fun b63 _=>?_)
      refine D.n0 (by kernel_rfl) (.take .p2 (.take (.there (.there (.there (.p3)))) .refl)) ?_
      refine GD.act2 8 15 (by kernel_rfl) rfl rfl ?_ ?_
      ·refine GL.eff (EF.append rfl rfl ⟨ap106.1,ap106.2,rfl,by decide⟩ (fun v=>.there (.there (.there (.here)))) .p0 (rfl) (rfl) (by unfold maxLen; omega) (by omega)) rfl rfl (.free rfl) (fun v64 hv64=>?_)
       obtain ⟨av64,cv64,rfl⟩:=hv64
       refine D.n0 (by kernel_rfl) (.take .p2 (.take (.there (.there (.there (.p3)))) .refl)) ?_
       refine GD.act 15 (by kernel_rfl) rfl ?_
       refine GL.eff (EF.buildSlice rfl bs40 rfl rfl rfl) rfl rfl (.free rfl) (fun b71 _=>?_)
       refine D.n0 (by kernel_rfl) (.take .p3 (.take (.there (.there (.there (.there (.p3))))) .refl)) ?_
       refine GD.act 16 (by kernel_rfl) rfl ?_
       refine GL.eff (EF.append rfl rfl ⟨ap40.1,ap40.2,rfl,by decide⟩ (fun v=>.there (.there (.there (.there (.there (.here)))))) .p0 (rfl) (rfl) (by unfold maxLen; omega) (by omega)) rfl rfl (.free rfl) (fun v72 hv72=>?_)
       obtain ⟨av72,cv72,rfl⟩:=hv72
       refine D.n0 (by kernel_rfl) (.take .p3 (.take (.there (.there (.there (.there (.p3))))) .refl)) ?_
       refine D.p 17 (by kernel_rfl) rfl (fun X=>EX.nilCheck rfl) rfl rfl rfl ?_
       refine D.p 18 (by kernel_rfl) rfl (fun X=>EX.fieldAddr rfl fa109_0) rfl rfl rfl ?_
       refine GD.act 19 (by kernel_rfl) rfl ?_
       refine GL.do (EU.st rfl rfl sz106 rfl rfl rfl) rfl (.free rfl) ?_
       refine D.n1 (by kernel_rfl) .refl ?_
       refine D.p 20 (by kernel_rfl) rfl (fun X=>EX.nilCheck rfl) rfl rfl rfl ?_
       refine D.p 21 (by kernel_rfl) rfl (fun X=>EX.fieldAddr rfl fa109_1) rfl rfl rfl ?_
       refine GD.act 22 (by kernel_rfl) rfl ?_
       refine GL.do (EU.st rfl rfl sz40 rfl rfl rfl) rfl (.free rfl) ?_
       refine D.n1 (by kernel_rfl) .refl ?_
       refine GD.done (by kernel_rfl) ?_
       refine GE.seq ?_
       refine GC.seq ?_
       refine GC.dr1 7 rfl (by kernel_rfl) (.t (.t (.t (.t (.t (.t (.f (.t (.t .e))))))))) ?_
       refine D.p 0 (by kernel_rfl) rfl (fun X=>EX.move rfl) rfl rfl rfl ?_
       refine D.p 1 (by kernel_rfl) rfl (fun X=>EX.nilCheck rfl) rfl rfl rfl ?_
       refine D.p 2 (by kernel_rfl) rfl (fun X=>EX.fieldAddr rfl fa109_2) rfl rfl rfl ?_
       refine D.v 3 (by kernel_rfl) rfl (fun X=>EX.ld rfl rfl one107) rfl rfl rfl ?_
       refine D.v 4 (by kernel_rfl) rfl (fun X=>EX.ldN rfl many94 rfl) rfl rfl rfl ?_
       refine D.p 5 (by kernel_rfl) rfl (fun X=>EX.move rfl) rfl rfl rfl ?_
       refine GD.act 6 (by kernel_rfl) rfl ?_
       refine GL.do (EU.mu (a:=t) rfl rfl rfl law94 Tryz.underlying107) rfl (.free rfl) ?_
       refine D.n (.take .p0 (.take .p0 (.take .p0 (.take .p0 (.take .p0 (.take .p0 (.take .p1 (.take .p1 .refl)))))))) ?_
       refine GD.done (by kernel_rfl) ?_
       refine GE.seq ?_
       refine GC.seq ?_
       refine GC.region ?_
       refine L.v (EX.move rfl) rfl rfl rfl ?_
       refine L.v (EX.assign rfl) rfl rfl rfl ?_
       refine L.v (EX.assign rfl) rfl rfl rfl ?_
       refine GL.nil ?_
       refine GE.seq ?_
       refine GC.ret ?_
       refine GE.outs rfl rfl rfl (fun w h=>?_)
       have hj:=find_none hlk
       have hbig:¬ most≤(l.length:Int):=by omega
       have e:(putT l most t).2.2=l++[t]:=by unfold putT; simp [hmay,hj,hbig]
       rw [e]
       exact ⟨by unfold putT; simp [hmay,hj,hbig],put_close (h.part (.take .p3 (.take .p3 (.take .p3 (.take .p3 (.take .p3 (.drop (.drop (.drop (.drop .refl)))))))))) hlk (by omega)⟩
      ·refine GL.eff (EF.buildSlice rfl bs40 rfl rfl rfl) rfl rfl (.free rfl) (fun b71_1 _=>?_)
       refine D.n0 (by kernel_rfl) (.take .p3 (.take (.there (.there (.there (.there (.p3))))) .refl)) ?_
       refine GD.act 8 (by kernel_rfl) rfl ?_
       refine GL.eff (EF.append rfl rfl ⟨ap106.1,ap106.2,rfl,by decide⟩ (fun v=>.there (.there (.there (.there (.here))))) .p1 (rfl) (rfl) (by unfold maxLen; omega) (by omega)) rfl rfl (.free rfl) (fun v64 hv64=>?_)
       obtain ⟨av64,cv64,rfl⟩:=hv64
       refine D.n0 (by kernel_rfl) (.take .p3 (.take (.there (.there (.there (.there (.p3))))) .refl)) ?_
       refine GD.act 16 (by kernel_rfl) rfl ?_
       refine GL.eff (EF.append rfl rfl ⟨ap40.1,ap40.2,rfl,by decide⟩ (fun v=>.there (.there (.there (.there (.there (.here)))))) .p0 (rfl) (rfl) (by unfold maxLen; omega) (by omega)) rfl rfl (.free rfl) (fun v72 hv72=>?_)
       obtain ⟨av72,cv72,rfl⟩:=hv72
       refine D.n0 (by kernel_rfl) (.take .p3 (.take (.there (.there (.there (.there (.p3))))) .refl)) ?_
       refine D.p 17 (by kernel_rfl) rfl (fun X=>EX.nilCheck rfl) rfl rfl rfl ?_
       refine D.p 18 (by kernel_rfl) rfl (fun X=>EX.fieldAddr rfl fa109_0) rfl rfl rfl ?_
       refine GD.act 19 (by kernel_rfl) rfl ?_
       refine GL.do (EU.st rfl rfl sz106 rfl rfl rfl) rfl (.free rfl) ?_
       refine D.n1 (by kernel_rfl) .refl ?_
       refine D.p 20 (by kernel_rfl) rfl (fun X=>EX.nilCheck rfl) rfl rfl rfl ?_
       refine D.p 21 (by kernel_rfl) rfl (fun X=>EX.fieldAddr rfl fa109_1) rfl rfl rfl ?_
       refine GD.act 22 (by kernel_rfl) rfl ?_
       refine GL.do (EU.st rfl rfl sz40 rfl rfl rfl) rfl (.free rfl) ?_
       refine D.n1 (by kernel_rfl) .refl ?_
       refine GD.done (by kernel_rfl) ?_
       refine GE.seq ?_
       refine GC.seq ?_
       refine GC.dr1 7 rfl (by kernel_rfl) (.t (.t (.t (.t (.t (.t (.f (.t (.t .e))))))))) ?_
       refine D.p 0 (by kernel_rfl) rfl (fun X=>EX.move rfl) rfl rfl rfl ?_
       refine D.p 1 (by kernel_rfl) rfl (fun X=>EX.nilCheck rfl) rfl rfl rfl ?_
       refine D.p 2 (by kernel_rfl) rfl (fun X=>EX.fieldAddr rfl fa109_2) rfl rfl rfl ?_
       refine D.v 3 (by kernel_rfl) rfl (fun X=>EX.ld rfl rfl one107) rfl rfl rfl ?_
       refine D.v 4 (by kernel_rfl) rfl (fun X=>EX.ldN rfl many94 rfl) rfl rfl rfl ?_
       refine D.p 5 (by kernel_rfl) rfl (fun X=>EX.move rfl) rfl rfl rfl ?_
       refine GD.act 6 (by kernel_rfl) rfl ?_
       refine GL.do (EU.mu (a:=t) rfl rfl rfl law94 Tryz.underlying107) rfl (.free rfl) ?_
       refine D.n (.take .p0 (.take .p0 (.take .p0 (.take .p0 (.take .p0 (.take .p0 (.take .p1 (.take .p1 .refl)))))))) ?_
       refine GD.done (by kernel_rfl) ?_
       refine GE.seq ?_
       refine GC.seq ?_
       refine GC.region ?_
       refine L.v (EX.move rfl) rfl rfl rfl ?_
       refine L.v (EX.assign rfl) rfl rfl rfl ?_
       refine L.v (EX.assign rfl) rfl rfl rfl ?_
       refine GL.nil ?_
       refine GE.seq ?_
       refine GC.ret ?_
       refine GE.outs rfl rfl rfl (fun w h=>?_)
       have hj:=find_none hlk
       have hbig:¬ most≤(l.length:Int):=by omega
       have e:(putT l most t).2.2=l++[t]:=by unfold putT; simp [hmay,hj,hbig]
       rw [e]
       exact ⟨by unfold putT; simp [hmay,hj,hbig],put_close (h.part (.take .p3 (.take .p3 (.take .p3 (.take .p3 (.take .p3 (.drop (.drop (.drop (.drop .refl)))))))))) hlk (by omega)⟩
     ·refine GL.eff (EF.buildSlice rfl bs40 rfl rfl rfl) rfl rfl (.free rfl) (fun b71_2 _=>?_)
      refine D.n0 (by kernel_rfl) (.take .p2 (.take (.there (.there (.there (.p3)))) .refl)) ?_
      refine GD.act 7 (by kernel_rfl) rfl ?_
      refine GL.eff (EF.buildSlice rfl bs106 rfl rfl rfl) rfl rfl (.free rfl) (fun b63_1 _=>?_)
      refine D.n0 (by kernel_rfl) (.take .p3 (.take (.there (.there (.there (.there (.p3))))) .refl)) ?_
      refine GD.act 8 (by kernel_rfl) rfl ?_
      refine GL.eff (EF.append rfl rfl ⟨ap106.1,ap106.2,rfl,by decide⟩ (fun v=>.there (.there (.there (.there (.here))))) .p0 (rfl) (rfl) (by unfold maxLen; omega) (by omega)) rfl rfl (.free rfl) (fun v64 hv64=>?_)
      obtain ⟨av64,cv64,rfl⟩:=hv64
      refine D.n0 (by kernel_rfl) (.take .p3 (.take (.there (.there (.there (.there (.p3))))) .refl)) ?_
      refine GD.act 16 (by kernel_rfl) rfl ?_
      refine GL.eff (EF.append rfl rfl ⟨ap40.1,ap40.2,rfl,by decide⟩ (fun v=>.there (.there (.there (.there (.there (.here)))))) .p1 (rfl) (rfl) (by unfold maxLen; omega) (by omega)) rfl rfl (.free rfl) (fun v72 hv72=>?_)
      obtain ⟨av72,cv72,rfl⟩:=hv72
      refine D.n0 (by kernel_rfl) (.take .p3 (.take (.there (.there (.there (.there (.p3))))) .refl)) ?_
      refine D.p 17 (by kernel_rfl) rfl (fun X=>EX.nilCheck rfl) rfl rfl rfl ?_
      refine D.p 18 (by kernel_rfl) rfl (fun X=>EX.fieldAddr rfl fa109_0) rfl rfl rfl ?_
      refine GD.act 19 (by kernel_rfl) rfl ?_
      refine GL.do (EU.st rfl rfl sz106 rfl rfl rfl) rfl (.free rfl) ?_
      refine D.n1 (by kernel_rfl) .refl ?_
      refine D.p 20 (by kernel_rfl) rfl (fun X=>EX.nilCheck rfl) rfl rfl rfl ?_
      refine D.p 21 (by kernel_rfl) rfl (fun X=>EX.fieldAddr rfl fa109_1) rfl rfl rfl ?_
      refine GD.act 22 (by kernel_rfl) rfl ?_
      refine GL.do (EU.st rfl rfl sz40 rfl rfl rfl) rfl (.free rfl) ?_
      refine D.n1 (by kernel_rfl) .refl ?_
      refine GD.done (by kernel_rfl) ?_
      refine GE.seq ?_
      refine GC.seq ?_
      refine GC.dr1 7 rfl (by kernel_rfl) (.t (.t (.t (.t (.t (.t (.f (.t (.t .e))))))))) ?_
      refine D.p 0 (by kernel_rfl) rfl (fun X=>EX.move rfl) rfl rfl rfl ?_
      refine D.p 1 (by kernel_rfl) rfl (fun X=>EX.nilCheck rfl) rfl rfl rfl ?_
      refine D.p 2 (by kernel_rfl) rfl (fun X=>EX.fieldAddr rfl fa109_2) rfl rfl rfl ?_
      refine D.v 3 (by kernel_rfl) rfl (fun X=>EX.ld rfl rfl one107) rfl rfl rfl ?_
      refine D.v 4 (by kernel_rfl) rfl (fun X=>EX.ldN rfl many94 rfl) rfl rfl rfl ?_
      refine D.p 5 (by kernel_rfl) rfl (fun X=>EX.move rfl) rfl rfl rfl ?_
      refine GD.act 6 (by kernel_rfl) rfl ?_
      refine GL.do (EU.mu (a:=t) rfl rfl rfl law94 Tryz.underlying107) rfl (.free rfl) ?_
      refine D.n (.take .p0 (.take .p0 (.take .p0 (.take .p0 (.take .p0 (.take .p0 (.take .p1 (.take .p1 .refl)))))))) ?_
      refine GD.done (by kernel_rfl) ?_
      refine GE.seq ?_
      refine GC.seq ?_
      refine GC.region ?_
      refine L.v (EX.move rfl) rfl rfl rfl ?_
      refine L.v (EX.assign rfl) rfl rfl rfl ?_
      refine L.v (EX.assign rfl) rfl rfl rfl ?_
      refine GL.nil ?_
      refine GE.seq ?_
      refine GC.ret ?_
      refine GE.outs rfl rfl rfl (fun w h=>?_)
      have hj:=find_none hlk
      have hbig:¬ most≤(l.length:Int):=by omega
      have e:(putT l most t).2.2=l++[t]:=by unfold putT; simp [hmay,hj,hbig]
      rw [e]
      exact ⟨by unfold putT; simp [hmay,hj,hbig],put_close (h.part (.take .p3 (.take .p3 (.take .p3 (.take .p3 (.take .p3 (.drop (.drop (.drop (.drop .refl)))))))))) hlk (by omega)⟩
end
section
structure Sy where
 ck:Int
 k:Int
 h:Int
 n:Int
instance:DecidableEq Sy:=fun x y=>decidable_of_iff (x.ck=y.ck∧x.k=y.k∧x.h=y.h∧x.n=y.n) ⟨fun h=>by cases x; cases y; simp at h; simp [h],fun h=>by rw [h]; exact ⟨rfl,rfl,rfl,rfl⟩⟩
end
section
open Go.RowKit
set_option maxRecDepth 100000

end
section
open Go.RowKit
set_option maxRecDepth 100000
theorem is_fn (bs:Nat) (l:List Tm) (most:Int) (name:Int) :
  Fn1 Tryz.prog 131 [ptr bs,.int .i64 name].toArray [St bs l most] (.bool (isT l name)) [St bs l most]:=by
 refine Fn.go Tryz.func131 rfl Tryz.ntmps131 rfl (fun W0 R=>?_)
 refine GC.app .a1 ?_
 refine GC.seq ?_
 refine GC.region ?_
 refine L.v (EX.assign rfl) rfl rfl rfl ?_
 refine GL.nil ?_
 refine GE.seq ?_
 refine GC.seq ?_
 refine GC.region ?_
 refine L.v (EX.move rfl) rfl rfl rfl ?_
 refine L.v (EX.move rfl) rfl rfl rfl ?_
 refine K.c (EC.direct en147 rfl) (get_fn _ _ _ _) (.one .p0) .a1 rfl rfl (.free rfl) ?_
 refine L.v (EX.move rfl) rfl rfl rfl ?_
 refine L.v (EX.extract rfl rfl) rfl rfl rfl ?_
 refine L.v (EX.extract rfl rfl) rfl rfl rfl ?_
 refine GL.eff (EF.alloc al94) rfl rfl (.free rfl) (fun b5 _=>?_)
 refine GL.do (EU.st rfl rfl sz94 rfl rfl rfl) rfl (.free rfl) ?_
 refine L.v (EX.assign rfl) rfl rfl rfl ?_
 refine GL.nil ?_
 refine GE.seq ?_
 refine GC.seq ?_
 refine GC.region ?_
 refine L.v (EX.move rfl) rfl rfl rfl ?_
 refine L.v (EX.assign rfl) rfl rfl rfl ?_
 refine GL.nil ?_
 refine GE.seq ?_
 refine GC.ret ?_
 refine GE.out rfl rfl (fun w h=>?_)
 exact ⟨rfl,h.part (.take .p1 (.drop .refl))⟩
end
section
open Go.RowKit
set_option maxRecDepth 100000

end
end Go.Proofs.YtadggjnohohedaaGreatDoor
namespace Go.Proofs.YtadggjnohohedaaGreatDoor
namespace EV
noncomputable section
inductive Pos where
 | h
 | o (p:Pos)
 | i (p:Pos)
def Pos.succ (p:Pos):Pos:=Pos.rec (.o .h) (fun q _=>.i q) (fun _ ih=>.o ih) p
def Pos.nat (p:Pos):Nat:=Pos.rec 1 (fun _ ih=>Nat.mul 2 ih) (fun _ ih=>Nat.succ (Nat.mul 2 ih)) p
inductive T (α:Type) where
 | e
 | n (l:T α) (v:Option α) (r:T α)
def T.get {α:Type} (p:Pos) (t:T α):Option α :=
 Pos.rec (motive:=fun _=>T α→Option α) (fun t=>T.rec none (fun _ v _ _ _=>v) t) (fun _ ih t=>T.rec none (fun l _ _ _ _=>ih l) t) (fun _ ih t=>T.rec none (fun _ _ r _ _=>ih r) t) p t
def T.put {α:Type} (p:Pos) (x:Option α) (t:T α):T α :=
 Pos.rec (motive:=fun _=>T α→T α) (fun t=>T.rec (.n .e x .e) (fun l _ r _ _=>.n l x r) t)
  (fun _ ih t=>T.rec (.n (ih .e) none .e) (fun l v r _ _=>.n (ih l) v r) t) (fun _ ih t=>T.rec (.n .e none (ih .e)) (fun l v r _ _=>.n l v (ih r)) t) p t
inductive SV where
 | i (k:IntKind) (n:Int)
 | b (x:Bool)
 | s (n v:Nat)
 | p (i:Pos) (o:Nat)
 | g (b o:Nat)
 | pn
 | sl (i:Pos) (o n c:Nat)
 | sr (i:Pos) (n:Nat)
 | sn
 | m (i:Pos)
 | mn
 | f (fn:Pos) (us cs:List SV)
 | fn
 | ni
 | a (l:List SV)
 | t (l:List SV)
 | w (k:IntKind) (a b:Nat)
 | y (k:IntKind)
 | z (m d:Nat)
 | q (i:Pos)
inductive Ob where
 | c (t:Nat) (cs:List SV)
 | r (t z:Nat) (cs:List SV)
 | m (k:IntKind) (kvs:List (Int × SV))
 | it (m:Pos)
 | mi (j:Pos) (n:Nat) (k:IntKind) (kvs:List (Int × SV))
 | me (j:Pos) (k:IntKind) (n:Int) (kvs:List (Int × SV))
 | st (n:Nat) (rev:List Nat) (most:Nat) (F:Option (List Nat))
 | ro (t:Nat) (cs:List SV)
 | si (n v pos:Nat)
inductive O where
 | l (i:Nat)
 | t (p:Pos)
 | c (v:SV)
inductive A2 where
 | add | sub | mul | quo | rem | and | or | shl | shr | lss | leq | gtr | geq | eql | neq
inductive TK where
 | s | l | m | p | o
 | a (z:List SV)
inductive V where
 | mv (x:O)
 | pick (c x y:O)
 | ext (x:O) (i:Nat)
 | nc (x:O)
 | fa (off:Nat) (x:O)
 | fld (off n:Nat) (ag:Bool) (x:O)
 | ld (x:O)
 | ldn (n:Nat) (x:O)
 | ar (op:A2) (k:TK) (x y:O)
 | not (x:O)
 | cvi (k:IntKind) (x:O)
 | cvs (x:O)
 | bld (z:List SV) (ps:List (Nat × Nat × O))
 | mkf (f:Pos) (us cs:List O)
 | ln (k:TK) (x:O)
 | ia (z:Nat) (x i:O)
 | iar (n z:Nat) (x i:O)
 | ixs (x i:O)
 | ixa (n z:Nat) (ag:Bool) (x i:O)
 | sls (x:O) (lo hi:Option O)
 | sla (n z:Nat) (x:O) (lo hi:Option O)
 | sln (z:Nat) (x lo:O)
 | lk (j:IntKind) (z:SV) (x k:O) (ok:Bool)
 | mx (x y:O)
 | mx3 (x y z:O)
 | mn2 (x y:O)
 | ldg (b:Nat) (l:List SV) (x:O)
 | bad
inductive E where
 | al (t:Nat) (z:List SV)
 | box (t:Nat) (x:O)
 | bsl (t z n:Nat) (zs:List SV) (ps:List (Nat × Nat × O))
 | st (n:Nat) (x y:O)
 | ap (t z b:Nat) (x y:O)
 | mkm (k:IntKind)
 | mu (j:IntKind) (x k v:O)
 | del (j:IntKind) (x k:O)
 | rng (x:O)
 | nxt (x:O)
 | ent (x:O)
 | rgs (x:O)
 | nxs (x:O)
 | cvb (t:Nat) (x:O)
 | men (j:IntKind) (z:SV) (x k:O)
 | mst (x s v:O)
 | bad
inductive CO where
 | v (g:Option (O × Bool)) (o:V) (b:Nat)
 | e (g:Option (O × Bool)) (o:E)
 | fl (t:Nat) (z:List SV)
 | c (g:Option (O × Bool)) (f:Pos) (xs:List O)
 | cv (g:Option (O × Bool)) (x:O) (xs:List O)
 | df (x:O)
 | fb (g:Option (O × Bool)) (t z n:Nat) (zs:List SV) (ps:List (Nat × Nat × O))
inductive CC where
 | skip
 | ops (l:List CO) (wb:List (Pos × Nat))
 | drw (pm:List Nat) (l:List CO) (wb:List (Pos × Nat))
 | seq (a b:CC)
 | cond (c:O) (a b:CC)
 | block (i:Nat) (a:CC)
 | loop (a:CC)
 | exit (i:Nat)
 | ret
inductive RVr where
 | t (p:Pos)
 | c (p:Pos) (n:Nat) (ag:Bool)
structure CF where
 res:List RVr
 body:CC
 keep:Nat
 np:Nat
def nth {α:Type} (l:List α) (i:Nat):Option α :=
 List.rec (motive:=fun _=>Nat→Option α) (fun _=>none) (fun x _ ih i=>Nat.rec (some x) (fun j _=>ih j) i) l i
def front {α:Type} (n:Nat) (l:List α):Option (List α) :=
 Nat.rec (motive:=fun _=>List α→Option (List α)) (fun _=>some []) (fun _ ih l=>List.rec none (fun x r _=>Option.rec none (fun r=>some (x::r)) (ih r)) l) n l
def back {α:Type} (n:Nat) (l:List α):Option (List α) :=
 Nat.rec (motive:=fun _=>List α→Option (List α)) (fun l=>some l) (fun _ ih l=>List.rec none (fun _ r _=>ih r) l) n l
def lay {α:Type} (vs l:List α):Option (List α) :=
 List.rec (motive:=fun _=>List α→Option (List α)) (fun l=>some l) (fun v _ ih l=>List.rec none (fun _ r _=>Option.rec none (fun r=>some (v::r)) (ih r)) l) vs l
def layAt {α:Type} (n:Nat) (vs l:List α):Option (List α) :=
 Nat.rec (motive:=fun _=>List α→Option (List α)) (fun l=>lay vs l) (fun _ ih l=>List.rec none (fun x r _=>Option.rec none (fun r=>some (x::r)) (ih r)) l) n l
def app {α:Type} (l m:List α):List α:=List.rec m (fun x _ ih=>x::ih) l
def len {α:Type} (l:List α):Nat:=List.rec 0 (fun _ _ ih=>Nat.succ ih) l
def on (fr:T SV) (env:List SV) (x:O):Option SV:=O.rec (fun i=>nth env i) (fun p=>T.get p fr) (fun v=>some v) x
abbrev LK:=O→Option SV
def ob {β:Type} (x:Option SV) (k:SV→Option β):Option β:=Option.rec none k x
def ons (lk:LK) (xs:List O):Option (List SV):=List.rec (some []) (fun x _ ih=>Option.rec none (fun v=>Option.rec none (fun vs=>some (v::vs)) ih) (lk x)) xs
def cells (v:SV):Option (List SV):=match v with
 | .a l=>some l
 | .t _=>none
 | v=>some [v]
def und:SV:=.t []
def top (k:IntKind):Nat:=match k with
 | .i8=>127 | .i16=>32767 | .i32=>2147483647 | .i64=>9223372036854775807 | .u8=>255 | .u16=>65535 | .u32=>4294967295 | .u64=>18446744073709551615
def sgn (k:IntKind):Bool:=match k with
 | .i8 | .i16 | .i32 | .i64=>true
 | _=>false
def wr (k:IntKind) (n:Int):Int:=match n with
 | .ofNat c=>bif Nat.ble c (top k) then .ofNat c else k.wrap (.ofNat c)
 | .negSucc c=>bif and (sgn k) (Nat.ble c (top k)) then .negSucc c else k.wrap (.negSucc c)
def ilt (a b:Int):Bool:=match a,b with
 | .ofNat a,.ofNat b=>Nat.blt a b
 | .ofNat _,.negSucc _=>false
 | .negSucc _,.ofNat _=>true
 | .negSucc a,.negSucc b=>Nat.blt b a
def ieq (a b:Int):Bool:=match a,b with
 | .ofNat a,.ofNat b=>Nat.beq a b
 | .negSucc a,.negSucc b=>Nat.beq a b
 | _,_=>false
def arI (op:A2) (k:IntKind) (a b:Int):Option SV:=match op with
 | .add=>some (.i k (wr k (a + b)))
 | .sub=>some (.i k (wr k (a - b)))
 | .mul=>some (.i k (wr k (a * b)))
 | .lss=>some (.b (ilt a b))
 | .leq=>some (.b (!ilt b a))
 | .gtr=>some (.b (ilt b a))
 | .geq=>some (.b (!ilt a b))
 | .eql=>some (.b (ieq a b))
 | .neq=>some (.b (!ieq a b))
 | .quo=>match a,b with
  | .ofNat a,.ofNat b=>bif Nat.beq b 0 then none else some (.i k (wr k (.ofNat (Nat.div a b))))
  | _,_=>none
 | .rem=>match a,b with
  | .ofNat a,.ofNat b=>bif Nat.beq b 0 then none else some (.i k (.ofNat (Nat.mod a b)))
  | _,_=>none
 | .or=>some (.i k (k.wrap ((BitVec.ofInt k.bits a ||| BitVec.ofInt k.bits b).toNat:Int)))
 | .and=>some (.i k (k.wrap ((BitVec.ofInt k.bits a &&& BitVec.ofInt k.bits b).toNat:Int)))
 | _=>none
def shI (op:A2) (k:IntKind) (a b:Int):Option SV:=match b with
 | .ofNat n=>match op with
  | .shl=>some (.i k (k.wrap (a * 2 ^ (min n k.bits))))
  | .shr=>some (.i k (a.fdiv (2 ^ (min n k.bits))))
  | _=>none
 | _=>none
def isSh (op:A2):Bool:=match op with
 | .shl=>true
 | .shr=>true
 | _=>false
def keq (j k:IntKind):Bool:=Nat.beq (top j) (top k)
def seq (n v m w:Nat):Bool:=bif Nat.beq n m then Nat.beq v w else false
def arS (op:A2) (n v m w:Nat):Option SV:=match op with
 | .add=>bif Nat.ble (Nat.add n m) 1000000 then some (.s (Nat.add n m) (Nat.add (Nat.mul v (Nat.pow 256 m)) w)) else none
 | .eql=>some (.b (seq n v m w))
 | .neq=>some (.b (!seq n v m w))
 | _=>none
def isNil (v:SV):Option Bool:=match v with
 | .pn=>some true
 | .p _ _=>some false
 | _=>none
def isNilS (v:SV):Option Bool:=match v with
 | .sn=>some true
 | .sl _ _ _ _=>some false
 | .sr _ _=>some false
 | _=>none
def eq1 (x y:SV):Option Bool:=match x,y with
 | .i j a,.i k b=>bif keq j k then some (ieq a b) else none
 | .s n v,.s m w=>some (seq n v m w)
 | .b x,.b y=>some (bif x then y else !y)
 | _,_=>none
def eqs (l m:List SV):Option Bool :=
 List.rec (motive:=fun _=>List SV→Option Bool) (fun m=>List.rec (some true) (fun _ _ _=>none) m)
  (fun x _ ih m=>List.rec none (fun y r _=>Option.rec none (fun b=>Option.rec none (fun c=>some (bif b then c else false)) (ih r)) (eq1 x y)) m) l m
def shp (x z:SV):Bool:=match x,z with
 | .i j _,.i k _=>keq j k
 | .s _ _,.s _ _=>true
 | .b _,.b _=>true
 | _,_=>false
def shps (l z:List SV):Bool :=
 List.rec (motive:=fun _=>List SV→Bool) (fun z=>List.rec true (fun _ _ _=>false) z) (fun x _ ih z=>List.rec false (fun y r _=>and (shp x y) (ih r)) z) l z
def eqO (op:A2) (b:Option Bool):Option SV:=match op with
 | .eql=>b.map .b
 | .neq=>b.map fun b=>.b (!b)
 | _=>none
def arV (op:A2) (tk:TK) (x y:SV):Option SV:=match x with
 | .i k a=>match y with
  | .i j b=>bif isSh op then shI op k a b else bif keq k j then arI op k a b else none
  | .z m e=>match k,a,op with
   | .i64,.ofNat d,.add=>bif and (Nat.ble d 256) (Nat.ble e 256) then some (.z m (Nat.add d e)) else none
   | _,_,_=>none
  | _=>none
 | .s n v=>match y with
  | .s m w=>arS op n v m w
  | _=>none
 | .a l=>match y,tk with
  | .a m,.a z=>bif shps l z then eqO op (eqs l m) else none
  | _,_=>none
 | .w k a b=>match k,y,op with
  | .i64,.i .i64 (.ofNat m),.rem=>bif Nat.beq m 7 then (bif Nat.beq a 7 then some (.z 0 0) else some (.i .i64 (.ofNat a))) else bif Nat.beq m 4 then (bif Nat.beq b 4 then none else some (.i .i64 (.ofNat b))) else none
  | _,_,_=>none
 | .y k=>match k,y,op with
  | .i64,.i .i64 (.ofNat m),.rem=>bif Nat.beq m 0 then none else some (.z m 0)
  | _,_,_=>none
 | x=>match y,tk with
  | .pn,.p=>eqO op (isNil x)
  | .sn,.l=>eqO op (isNilS x)
  | _,_=>none
def cellsOf (me:T Ob) (i:Pos):Option (List SV):=match T.get i me with
 | some (.c _ cs)=>some cs
 | some (.r _ _ cs)=>some cs
 | some (.ro _ cs)=>some cs
 | _=>none
def sub (off n:Nat) (cs:List SV):Option (List SV):=Option.rec none (fun r=>front n r) (back off cs)
def ldV (me:T Ob) (v:SV):Option SV:=match v with
 | .p i o=>Option.rec none (fun cs=>nth cs o) (cellsOf me i)
 | _=>none
def ldN (me:T Ob) (n:Nat) (v:SV):Option SV:=match v with
 | .p i o=>Option.rec none (fun cs=>Option.rec none (fun l=>some (.a l)) (sub o n cs)) (cellsOf me i)
 | _=>none
def bytesN (l:List SV) (n v:Nat):Option SV :=
 List.rec (motive:=fun _=>Nat→Nat→Option SV) (fun n v=>some (.s n v)) (fun x _ ih n v=>match x with
  | .i .u8 (.ofNat c)=>bif Nat.blt c 256 then ih (Nat.succ n) (Nat.add (Nat.mul v 256) c) else none
  | _=>none) l n v
def look (kvs:List (Int × SV)) (k:Int):Option SV :=
 List.rec none (fun p _ ih=>bif ieq k p.1 then some p.2 else ih) kvs
def setM (kvs:List (Int × SV)) (k:Int) (v:SV):List (Int × SV) :=
 List.rec [(k,v)] (fun p r ih=>bif ieq k p.1 then (k,v)::r else p::ih) kvs
def delM (kvs:List (Int × SV)) (k:Int):List (Int × SV) :=
 List.rec [] (fun p r ih=>bif ieq k p.1 then r else p::ih) kvs
def fill (lk:LK) (ps:List (Nat × Nat × O)) (z:List SV):Option (List SV) :=
 List.rec (motive:=fun _=>List SV→Option (List SV)) (fun z=>some z) (fun p _ ih z=>Option.rec none (fun v=>Option.rec none (fun cs=>bif Nat.beq (len cs) p.2.1 then Option.rec none (fun z=>ih z) (layAt p.1 cs z) else none) (cells v)) (lk p.2.2)) ps z
def atom (v:SV):Bool:=match v with
 | .f _ _ _=>false
 | .a _=>false
 | .t _=>false
 | _=>true
def atoms (l:List SV):Bool:=List.rec true (fun v _ ih=>and (atom v) ih) l
def addOff (n:Nat) (v:SV):Option SV:=match v with
 | .p i o=>some (.p i (Nat.add o n))
 | .g b o=>some (.g b (Nat.add o n))
 | _=>none
def lenV (me:T Ob) (k:TK) (v:SV):Option SV:=match k,v with
 | .s,.s n _=>some (.i .i64 (.ofNat n))
 | .l,.sl _ _ n _=>some (.i .i64 (.ofNat n))
 | .l,.sr _ n=>some (.i .i64 (.ofNat n))
 | .l,.sn=>some (.i .i64 (.ofNat 0))
 | .m,.m i=>match T.get i me with
  | some (.m _ kvs)=>some (.i .i64 (.ofNat (len kvs)))
  | _=>none
 | _,_=>none
def iaV (z:Nat) (x i:SV):Option SV:=match i with
 | .i _ (.ofNat j)=>match x with
  | .sl i o n _=>bif Nat.blt j n then some (.p i (Nat.add o (Nat.mul j z))) else none
  | .sr i n=>bif Nat.blt j n then some (.p i (Nat.mul j z)) else none
  | _=>none
 | _=>none
def iarV (n z:Nat) (x i:SV):Option SV:=match i with
 | .i _ (.ofNat j)=>bif Nat.blt j n then addOff (Nat.mul j z) x else none
 | _=>none
def ixsV (x i:SV):Option SV:=match x,i with
 | .s n v,.i _ (.ofNat j)=>bif Nat.blt j n then some (.i .u8 (.ofNat (Nat.mod (Nat.div v (Nat.pow 256 (Nat.sub (Nat.sub n 1) j))) 256))) else none
 | _,_=>none
def cut (off n:Nat) (ag:Bool) (x:SV):Option SV:=match x with
 | .a cs=>bif ag then Option.rec none (fun l=>some (.a l)) (sub off n cs) else nth cs off
 | _=>none
def ixaV (n z:Nat) (ag:Bool) (x i:SV):Option SV:=match i with
 | .i _ (.ofNat j)=>bif Nat.blt j n then cut (Nat.mul j z) z ag x else none
 | _=>none
def bnd (lk:LK) (x:Option O) (d:Nat):Option Nat:=match x with
 | none=>some d
 | some x=>match lk x with
  | some (.i _ (.ofNat j))=>some j
  | _=>none
def slsV (x:SV) (lo hi:Option Nat) (hn:Bool):Option SV:=match x with
 | .s n v=>match lo with
  | some l=>match (bif hn then some n else hi) with
   | some h=>bif and (Nat.ble l h) (Nat.ble h n) then some (.s (Nat.sub h l) (Nat.mod (Nat.div v (Nat.pow 256 (Nat.sub n h))) (Nat.pow 256 (Nat.sub h l)))) else none
   | none=>none
  | none=>none
 | _=>none
def slnV (x lo:SV):Option SV:=match x,lo with
 | .sn,.i .i64 (.ofNat n)=>bif Nat.beq n 0 then some .sn else none
 | _,_=>none
def slaV (n z:Nat) (x:SV) (lo hi:Option Nat):Option SV:=match x with
 | .p i o=>match lo,hi with
  | some l,some h=>bif and (Nat.ble l h) (Nat.ble h n) then some (.sl i (bif Nat.beq n l then o else Nat.add o (Nat.mul l z)) (Nat.sub h l) (Nat.sub n l)) else none
  | _,_=>none
 | _=>none
def keyI (kk:IntKind) (k:SV):Option Int:=match k with
 | .i j n=>bif keq j kk then some n else none
 | _=>none
def keyP (k:SV):Option Int:=match k with
 | .a [.i .i64 (.ofNat a),.i .i64 (.ofNat b)]=>bif Nat.blt b 4294967296 then some (.ofNat (Nat.add (Nat.mul a 4294967296) b)) else none
 | _=>none
def keyN (kk:IntKind) (k:SV):Option Int:=bif keq kk .u16 then keyP k else keyI kk k
def lkV (me:T Ob) (kk:IntKind) (z x k:SV) (ok:Bool):Option SV:=match x with
 | .m i=>match T.get i me with
  | some (.m k0 kvs)=>bif keq kk k0 then (match keyN kk k with
   | none=>none
   | some n=>(match look kvs n with
    | none=>some (bif ok then .t [z,.b false] else z)
    | some v=>some (bif ok then .t [v,.b true] else v))) else none
  | _=>none
 | _=>none
def mnV (x y:SV):Option SV:=match x,y with
 | .i k a,.i j b=>bif keq k j then some (bif ilt b a then .i k b else .i k a) else none
 | _,_=>none
def mxV (x y:SV):Option SV:=match x,y with
 | .i k a,.i j b=>bif keq k j then some (bif ilt a b then .i k b else .i k a) else none
 | _,_=>none
def ldgV (b:Nat) (l:List SV) (x:SV):Option SV:=match x with
 | .g b' o=>bif Nat.beq b b' then nth l o else none
 | _=>none
def pickV (c x y:SV):Option SV:=match c with
 | .b b=>some (bif b then x else y)
 | _=>none
def ncV (x:SV):Option SV:=match x with
 | .p i o=>some (.p i o)
 | .g b o=>some (.g b o)
 | _=>none
def extV (x:SV) (i:Nat):Option SV:=match x with
 | .t l=>nth l i
 | _=>none
def notV (x:SV):Option SV:=match x with
 | .b x=>some (.b (!x))
 | _=>none
def cviV (k:IntKind) (x:SV):Option SV:=match x with
 | .i _ n=>some (.i k (wr k n))
 | .w .u8 a b=>match k with
  | .i64=>some (.w .i64 a b)
  | _=>none
 | .y .u8=>match k with
  | .i64=>some (.y .i64)
  | _=>none
 | _=>none
def sliceCells (me:T Ob) (z:Nat) (y:SV):Option (Nat × List SV):=match y with
 | .sl i o n _=>Option.rec none (fun cs=>Option.rec none (fun l=>some (n,l)) (sub o (Nat.mul n z) cs)) (cellsOf me i)
 | .sr i n=>Option.rec none (fun cs=>Option.rec none (fun l=>some (n,l)) (front (Nat.mul n z) cs)) (cellsOf me i)
 | _=>none
def cvsV (me:T Ob) (x:SV):Option SV:=match x with
 | .sn=>some (.s 0 0)
 | x=>match sliceCells me 1 x with
  | some (_,l)=>bytesN l 0 0
  | none=>none
def val (lk:LK) (me:T Ob) (o:V):Option SV:=match o with
 | .mv x=>lk x
 | .pick c x y=>ob (lk c) fun c=>ob (lk x) fun x=>ob (lk y) fun y=>pickV c x y
 | .ext x i=>ob (lk x) fun v=>extV v i
 | .nc x=>ob (lk x) fun v=>ncV v
 | .fa off x=>ob (lk x) fun v=>addOff off v
 | .fld off n ag x=>ob (lk x) fun v=>cut off n ag v
 | .ld x=>ob (lk x) fun v=>ldV me v
 | .ldn n x=>ob (lk x) fun v=>ldN me n v
 | .ar op k x y=>ob (lk x) fun x=>ob (lk y) fun y=>arV op k x y
 | .not x=>ob (lk x) fun v=>notV v
 | .cvi k x=>ob (lk x) fun v=>cviV k v
 | .cvs x=>ob (lk x) fun v=>cvsV me v
 | .bld z ps=>(fill lk ps z).map .a
 | .mkf f us cs=>Option.rec none (fun us=>Option.rec none (fun cs=>bif and (atoms us) (atoms cs) then some (.f f us cs) else none) (ons lk cs)) (ons lk us)
 | .ln k x=>ob (lk x) fun v=>lenV me k v
 | .ia z x i=>ob (lk x) fun x=>ob (lk i) fun i=>iaV z x i
 | .iar n z x i=>ob (lk x) fun x=>ob (lk i) fun i=>iarV n z x i
 | .ixs x i=>ob (lk x) fun x=>ob (lk i) fun i=>ixsV x i
 | .ixa n z ag x i=>ob (lk x) fun x=>ob (lk i) fun i=>ixaV n z ag x i
 | .sln _ x lo=>ob (lk x) fun x=>ob (lk lo) fun l=>slnV x l
 | .sls x lo hi=>ob (lk x) fun x=>slsV x (bnd lk lo 0) (bnd lk hi 0) hi.isNone
 | .sla n z x lo hi=>ob (lk x) fun x=>slaV n z x (bnd lk lo 0) (bnd lk hi n)
 | .lk j z x k ok=>ob (lk x) fun x=>ob (lk k) fun k=>lkV me j z x k ok
 | .mx x y=>ob (lk x) fun x=>ob (lk y) fun y=>mxV x y
 | .mx3 x y z=>ob (lk x) fun x=>ob (lk y) fun y=>ob (lk z) fun z=>ob (mxV x y) fun u=>mxV u z
 | .mn2 x y=>ob (lk x) fun x=>ob (lk y) fun y=>mnV x y
 | .ldg b l x=>ob (lk x) fun x=>ldgV b l x
 | .bad=>none
inductive R3 where
 | no
 | ok (v:SV) (me:T Ob) (nx:Pos)
def stE (n:Nat) (me:T Ob) (nx:Pos) (x y:SV):R3:=match x with
 | .p i o=>match T.get i me with
  | some (.c t cs)=>Option.rec .no (fun ys=>bif Nat.beq (len ys) n then Option.rec .no (fun cs=>.ok und (T.put i (some (.c t cs)) me) nx) (layAt o ys cs) else .no) (cells y)
  | _=>.no
 | _=>.no
def apE (t z b:Nat) (me:T Ob) (nx:Pos) (x y:SV):R3:=match sliceCells me z y with
 | none=>.no
 | some (n,l)=>bif Nat.beq n 0 then .no else match x with
  | .sn=>bif Nat.ble (Nat.mul n (Nat.succ b)) 1000000 then .ok (.sr nx n) (T.put nx (some (.r t z l)) me) (Pos.succ nx) else .no
  | .sr i m=>match T.get i me with
   | some (.r t' z' cs)=>bif and (Nat.beq (len cs) (Nat.mul m z)) (and (Nat.beq t t') (and (Nat.beq z z') (Nat.ble (Nat.mul (Nat.add m n) (Nat.succ b)) 1000000))) then .ok (.sr nx (Nat.add m n)) (T.put nx (some (.r t z (app cs l))) (T.put i none me)) (Pos.succ nx) else .no
   | _=>.no
  | _=>.no
def muE (kk:IntKind) (me:T Ob) (nx:Pos) (x y v:SV):R3:=match x with
 | .m i=>match T.get i me with
  | some (.m k kvs)=>bif keq kk k then (match keyN kk y with
   | some n=>Option.rec .no (fun _=>.ok und (T.put i (some (.m k (setM kvs n v))) me) nx) (cells v)
   | none=>.no) else .no
  | _=>.no
 | _=>.no
def delE (kk:IntKind) (me:T Ob) (nx:Pos) (x y:SV):R3:=match x with
 | .m i=>match T.get i me with
  | some (.m k kvs)=>bif keq kk k then (match keyN kk y with
   | some n=>.ok und (T.put i (some (.m k (delM kvs n))) me) nx
   | none=>.no) else .no
  | some (.mi jj nn k kvs)=>bif keq kk k then (match keyN kk y with
   | some n=>.ok und (T.put i (some (.mi jj nn k (delM kvs n))) me) nx
   | none=>.no) else .no
  | _=>.no
 | _=>.no
def rngE (me:T Ob) (nx:Pos) (x:SV):R3:=match x with
 | .m i=>match T.get i me with
  | some (.m k kvs)=>bif Nat.ble (len kvs) 1 then .ok (.p nx 0) (T.put nx (some (.it i)) (T.put i (some (.mi nx 0 k kvs)) me)) (Pos.succ nx) else .no
  | _=>.no
 | _=>.no
def overE (me:T Ob) (nx:Pos) (i j:Pos) (k:IntKind) (kvs:List (Int × SV)):R3:=.ok (.t [.b false]) (T.put j none (T.put i (some (.m k kvs)) me)) nx
def nxtE (me:T Ob) (nx:Pos) (x:SV):R3:=match x with
 | .p j 0=>match T.get j me with
  | some (.it i)=>match T.get i me with
   | some (.mi j' n k kvs)=>bif Nat.beq j.nat j'.nat then (match kvs with
    | []=>overE me nx i j k kvs
    | [(a,b)]=>match n with
     | 0=>bif keq k .u16 then .no else .ok (.t [.b true,.i k a,b]) (T.put i (some (.mi j' 1 k kvs)) me) nx
     | _=>overE me nx i j k kvs
    | _=>.no) else .no
   | _=>.no
  | _=>.no
 | _=>.no
def entE (me:T Ob) (nx:Pos) (x:SV):R3:=match x with
 | .p j 0=>match T.get j me with
  | some (.it i)=>match T.get i me with
   | some (.mi j' n k kvs)=>bif Nat.beq j.nat j'.nat then (match n,kvs with
    | 1,[(a,b)]=>bif keq k .u16 then .no else .ok (.t [.i k a,b]) me nx
    | _,_=>.no) else .no
   | _=>.no
  | _=>.no
 | _=>.no
def rgsE (me:T Ob) (nx:Pos) (x:SV):R3:=match x with
 | .s n v=>.ok (.p nx 0) (T.put nx (some (.si n v 0)) me) (Pos.succ nx)
 | _=>.no
def byteOf (n v j:Nat):Nat:=Nat.mod (Nat.div v (Nat.pow 256 (Nat.sub (Nat.sub n 1) j))) 256
def nxsE (me:T Ob) (nx:Pos) (x:SV):R3:=match x with
 | .p j 0=>match T.get j me with
  | some (.si n v pos)=>bif Nat.blt pos n then (bif Nat.blt (byteOf n v pos) 128 then .ok (.t [.b true,.i .i64 (.ofNat pos),.i .i32 (.ofNat (byteOf n v pos))]) (T.put j (some (.si n v (Nat.succ pos))) me) nx else .no) else .ok (.t [.b false]) me nx
  | _=>.no
 | _=>.no
def bytL (n v:Nat) (acc:List SV):List SV:=Nat.rec (motive:=fun _=>Nat→List SV→List SV) (fun _ acc=>acc) (fun _ ih v acc=>ih (Nat.div v 256) (.i .u8 (.ofNat (Nat.mod v 256))::acc)) n v acc
def cvbE (t:Nat) (me:T Ob) (nx:Pos) (x:SV):R3:=match x with
 | .s n v=>.ok (.sr nx n) (T.put nx (some (.ro t (bytL n v []))) me) (Pos.succ nx)
 | _=>.no
def menE (kk:IntKind) (z:SV) (me:T Ob) (nx:Pos) (x y:SV):R3:=match x with
 | .m i=>match T.get i me with
  | some (.m k kvs)=>bif keq kk k then (match keyN kk y with
   | some n=>(match look kvs n with
    | some v=>.ok (.t [v,.q nx]) (T.put i (some (.me nx k n (setM kvs n v))) me) (Pos.succ nx)
    | none=>.ok (.t [z,.q nx]) (T.put i (some (.me nx k n (setM kvs n z))) me) (Pos.succ nx))
   | none=>.no) else .no
  | _=>.no
 | _=>.no
def mstE (me:T Ob) (nx:Pos) (x s v:SV):R3:=match x,s with
 | .m i,.q j=>match T.get i me with
  | some (.me j' k n kvs)=>bif Nat.beq j.nat j'.nat then Option.rec .no (fun _=>.ok und (T.put i (some (.m k (setM kvs n v))) me) nx) (cells v) else .no
  | _=>.no
 | _,_=>.no
def r1 (x:Option SV) (k:SV→R3):R3:=Option.rec .no k x
def eff (lk:LK) (me:T Ob) (nx:Pos) (o:E):R3:=match o with
 | .al t z=>.ok (.p nx 0) (T.put nx (some (.c t z)) me) (Pos.succ nx)
 | .box t x=>r1 (lk x) fun v=>Option.rec .no (fun cs=>.ok (.p nx 0) (T.put nx (some (.c t cs)) me) (Pos.succ nx)) (cells v)
 | .bsl t z n zs ps=>Option.rec .no (fun l=>.ok (.sr nx n) (T.put nx (some (.r t z l)) me) (Pos.succ nx)) (fill lk ps zs)
 | .st n x y=>r1 (lk x) fun x=>r1 (lk y) fun y=>stE n me nx x y
 | .ap t z b x y=>r1 (lk x) fun x=>r1 (lk y) fun y=>apE t z b me nx x y
 | .mkm k=>.ok (.m nx) (T.put nx (some (.m k [])) me) (Pos.succ nx)
 | .mu j x y v=>r1 (lk x) fun x=>r1 (lk y) fun y=>r1 (lk v) fun v=>muE j me nx x y v
 | .del j x y=>r1 (lk x) fun x=>r1 (lk y) fun y=>delE j me nx x y
 | .rng x=>r1 (lk x) fun x=>rngE me nx x
 | .nxt x=>r1 (lk x) fun x=>nxtE me nx x
 | .ent x=>r1 (lk x) fun x=>entE me nx x
 | .rgs x=>r1 (lk x) fun x=>rgsE me nx x
 | .nxs x=>r1 (lk x) fun x=>nxsE me nx x
 | .cvb t x=>r1 (lk x) fun x=>cvbE t me nx x
 | .men j z x y=>r1 (lk x) fun x=>r1 (lk y) fun y=>menE j z me nx x y
 | .mst x y v=>r1 (lk x) fun x=>r1 (lk y) fun y=>r1 (lk v) fun v=>mstE me nx x y v
 | .bad=>.no
inductive X where
 | nrm
 | ext (i:Nat)
 | ret
 | pan (e:SV)
inductive RC where
 | no
 | ok (x:X) (fr:T SV) (me:T Ob) (nx:Pos) (ds:List SV)
inductive RF where
 | no
 | ret (v:SV) (me:T Ob) (nx:Pos)
 | pan (e:SV) (me:T Ob) (nx:Pos)
inductive R1 where
 | no
 | ok (v:SV) (me:T Ob) (nx:Pos) (ds:List SV)
 | pan (e:SV) (me:T Ob) (nx:Pos) (ds:List SV)
inductive RR where
 | no
 | ok (env:List SV) (me:T Ob) (nx:Pos) (ds:List SV)
 | pan (e:SV) (me:T Ob) (nx:Pos) (ds:List SV)
abbrev CL:=Pos→List SV→T Ob→Pos→RF
def gd (lk:LK) (g:Option (O × Bool)):Option Bool:=match g with
 | none=>some true
 | some (x,w)=>match lk x with
  | some (.b y)=>some (bif w then y else !y)
  | some (.t [])=>some false
  | _=>none
def eqA (x y:SV):Bool:=match x,y with
 | .i j a,.i k b=>and (keq j k) (ieq a b)
 | .b x,.b y=>bif x then y else !y
 | .s n v,.s m w=>seq n v m w
 | .p i o,.p j q=>and (Nat.beq i.nat j.nat) (Nat.beq o q)
 | .pn,.pn=>true
 | .sl i o n c,.sl j p m d=>and (Nat.beq i.nat j.nat) (and (Nat.beq o p) (and (Nat.beq n m) (Nat.beq c d)))
 | .sr i n,.sr j m=>and (Nat.beq i.nat j.nat) (Nat.beq n m)
 | .sn,.sn=>true
 | .m i,.m j=>Nat.beq i.nat j.nat
 | .fn,.fn=>true
 | .mn,.mn=>true
 | .ni,.ni=>true
 | _,_=>false
def allA (l m:List SV):Bool :=
 List.rec (motive:=fun _=>List SV→Bool) (fun m=>List.rec true (fun _ _ _=>false) m) (fun x _ ih m=>List.rec false (fun y r _=>and (eqA x y) (ih r)) m) l m
def same (x y:SV):Bool:=match x,y with
 | .a l,.a m=>allA l m
 | x,y=>eqA x y
def allS (l m:List SV):Bool :=
 List.rec (motive:=fun _=>List SV→Bool) (fun m=>List.rec true (fun _ _ _=>false) m) (fun x _ ih m=>List.rec false (fun y r _=>and (same x y) (ih r)) m) l m
def same2 (x y:SV):Bool:=match x,y with
 | .t l,.t m=>allS l m
 | x,y=>same x y
def vals (lk:LK) (o:V) (v:SV) (b:Nat) (ms:List (T Ob)):Bool :=
 Nat.rec (motive:=fun _=>List (T Ob)→Bool) (fun _=>true) (fun _ ih ms=>List.rec true (fun m r _=>Option.rec false (fun w=>and (same2 v w) (ih r)) (val lk m o)) ms) b ms
def ints (l:List SV):Bool:=List.rec true (fun v _ ih=>match v with
 | .i _ _=>ih
 | _=>false) l
def call (cl:CL) (f:Pos) (vs:List SV) (me:T Ob) (nx:Pos) (ds:List SV):R1:=RF.rec .no (fun v me nx=>.ok v me nx ds) (fun e me nx=>.pan e me nx ds) (cl f vs me nx)
def run1 (cl:CL) (lk:LK) (me:T Ob) (nx:Pos) (ds:List SV) (o:CO):R1:=match o with
 | .v _ o _=>Option.rec .no (fun v=>.ok v me nx ds) (val lk me o)
 | .e _ o=>R3.rec .no (fun v me nx=>.ok v me nx ds) (eff lk me nx o)
 | .c _ f xs=>Option.rec .no (fun vs=>call cl f vs me nx ds) (ons lk xs)
 | .cv _ x xs=>Option.rec .no (fun f=>match f with
  | .f f us cs=>Option.rec .no (fun vs=>call cl f (app us (app vs cs)) me nx ds) (ons lk xs)
  | _=>.no) (lk x)
 | .df x=>Option.rec .no (fun v=>.ok und me nx (v::ds)) (lk x)
 | .fl t z=>.ok (.p nx 0) (T.put nx (some (.c t z)) me) (Pos.succ nx) ds
 | .fb _ t z n zs ps=>Option.rec .no (fun l=>bif ints l then .ok (.sr nx n) (T.put nx (some (.r t z l)) me) (Pos.succ nx) ds else .no) (fill lk ps zs)
def grd (o:CO):Option (O × Bool):=match o with
 | .v g _ _=>g
 | .e g _=>g
 | .c g _ _=>g
 | .cv g _ _=>g
 | .df _=>none
 | .fl _ _=>none
 | .fb g _ _ _ _ _=>g
def isFb (o:CO):Bool:=match o with
 | .fb _ _ _ _ _ _=>true
 | _=>false
def hasFb (l:List CO):Bool:=List.rec false (fun o _ ih=>or (isFb o) ih) l
def offR (o:CO) (me:T Ob) (nx:Pos) (ds:List SV):R1:=bif isFb o then .no else .ok und me nx ds
def step1 (cl:CL) (lk:LK) (me:T Ob) (nx:Pos) (ds:List SV) (o:CO):R1:=Option.rec .no (fun b=>bif b then run1 cl lk me nx ds o else offR o me nx ds) (gd lk (grd o))
def ops (cl:CL) (fr:T SV) (l:List CO) (env:List SV) (me:T Ob) (nx:Pos) (ds:List SV):RR :=
 List.rec (motive:=fun _=>List SV→T Ob→Pos→List SV→RR) (fun env me nx ds=>.ok env me nx ds)
  (fun o _ ih env me nx ds=>R1.rec .no (fun v me nx ds=>ih (v::env) me nx ds) (fun e me nx ds=>.pan e me nx ds) (step1 cl (on fr env) me nx ds o)) l env me nx ds
inductive RD where
 | no
 | ok (env:List SV) (me:T Ob) (nx:Pos) (ds:List SV) (ms:List (T Ob))
 | pan (e:SV) (me:T Ob) (nx:Pos) (ds:List SV) (ms:List (T Ob))
def RD.ms (r:RD):List (T Ob):=RD.rec [] (fun _ _ _ _ ms=>ms) (fun _ _ _ _ ms=>ms) r
def push (m:T Ob) (r:RD):RD:=RD.rec .no (fun env me nx ds ms=>.ok env me nx ds (m::ms)) (fun e me nx ds ms=>.pan e me nx ds (m::ms)) r
def fin (lk:LK) (o:CO) (v:SV) (me:T Ob) (r:RD):RD:=match o with
 | .v g o b=>match b with
  | 0=>r
  | b=>Option.rec .no (fun on=>bif on then (bif vals lk o v b (RD.ms r) then r else .no) else r) (gd lk g)
 | _=>push me r
def dops (cl:CL) (fr:T SV) (l:List CO) (env:List SV) (me:T Ob) (nx:Pos) (ds:List SV):RD :=
 List.rec (motive:=fun _=>List SV→T Ob→Pos→List SV→RD) (fun env me nx ds=>.ok env me nx ds [])
  (fun o _ ih env me nx ds=>R1.rec .no (fun v me' nx' ds'=>fin (on fr env) o v me' (ih (v::env) me' nx' ds')) (fun e me nx ds=>.pan e me nx ds []) (step1 cl (on fr env) me nx ds o)) l env me nx ds
def RD.rr (b:Bool) (r:RD):RR:=RD.rec .no (fun env me nx ds _=>.ok env me nx ds) (fun e me nx ds _=>bif b then .no else .pan e me nx ds) r
def wbs (wb:List (Pos × Nat)) (env:List SV) (fr:T SV):Option (T SV) :=
 List.rec (motive:=fun _=>T SV→Option (T SV)) (fun fr=>some fr) (fun p _ ih fr=>Option.rec none (fun v=>ih (T.put p.1 (some v) fr)) (nth env p.2)) wb fr
def wbf (wb:List (Pos × Nat)) (fr:T SV):T SV:=List.rec (motive:=fun _=>T SV→T SV) (fun fr=>fr) (fun p _ ih fr=>ih (T.put p.1 none fr)) wb fr
def rgn (wb:List (Pos × Nat)) (fr:T SV) (r:RR):RC:=RR.rec .no (fun env me nx ds=>Option.rec .no (fun fr=>.ok .nrm fr me nx ds) (wbs wb env fr)) (fun e me nx ds=>.ok (.pan e) (wbf wb fr) me nx ds) r
def thn (r:RC) (k:T SV→T Ob→Pos→List SV→RC):RC:=RC.rec .no (fun x fr me nx ds=>X.rec (k fr me nx ds) (fun i=>.ok (.ext i) fr me nx ds) (.ok .ret fr me nx ds) (fun e=>.ok (.pan e) fr me nx ds) x) r
def blk (j:Nat) (r:RC):RC:=RC.rec .no (fun x fr me nx ds=>X.rec (.ok .nrm fr me nx ds) (fun i=>bif Nat.beq i j then .ok .nrm fr me nx ds else .ok (.ext i) fr me nx ds) (.ok .ret fr me nx ds) (fun e=>.ok (.pan e) fr me nx ds) x) r
def cnd (c:Option SV) (a b:RC):RC:=match c with
 | some (.b t)=>bif t then a else b
 | _=>.no
def loopN (n:Nat) (body:T SV→T Ob→Pos→List SV→RC):T SV→T Ob→Pos→List SV→RC :=
 Nat.rec (fun _ _ _ _=>.no) (fun _ ih fr me nx ds=>thn (body fr me nx ds) ih) n
def code (cl:CL) (c:CC) (fr:T SV) (me:T Ob) (nx:Pos) (ds:List SV):RC :=
 CC.rec (motive:=fun _=>T SV→T Ob→Pos→List SV→RC) (fun fr me nx ds=>.ok .nrm fr me nx ds) (fun l wb fr me nx ds=>rgn wb fr (ops cl fr l [] me nx ds)) (fun _ l wb fr me nx ds=>rgn wb fr (RD.rr (hasFb l) (dops cl fr l [] me nx ds)))
  (fun _ _ iha ihb fr me nx ds=>thn (iha fr me nx ds) ihb) (fun c _ _ iha ihb fr me nx ds=>cnd (on fr [] c) (iha fr me nx ds) (ihb fr me nx ds)) (fun i _ ih fr me nx ds=>blk i (ih fr me nx ds))
  (fun _ ih fr me nx ds=>loopN 4096 ih fr me nx ds) (fun i fr me nx ds=>.ok (.ext i) fr me nx ds) (fun fr me nx ds=>.ok .ret fr me nx ds) c fr me nx ds
def resV (r:RVr) (fr:T SV) (me:T Ob):Option SV:=match r with
 | .t p=>T.get p fr
 | .c p n ag=>Option.rec none (fun v=>bif ag then ldN me n v else ldV me v) (T.get p fr)
def nt (v:SV):Bool:=match v with
 | .t _=>false
 | _=>true
def resL (rs:List RVr) (fr:T SV) (me:T Ob):Option (List SV) :=
 List.rec (some []) (fun r _ ih=>Option.rec none (fun v=>bif nt v then Option.rec none (fun vs=>some (v::vs)) ih else none) (resV r fr me)) rs
def tup (l:List SV):SV:=match l with
 | [v]=>v
 | l=>.t l
def ended (ds:List SV) (e:Option SV) (me:T Ob):Option (Option SV × T Ob) :=
 List.rec (motive:=fun _=>Option SV→T Ob→Option (Option SV × T Ob)) (fun e me=>some (e,me)) (fun d _ ih e me=>Option.rec (ih none me) (fun v=>match d,v with
  | .p i o,.i k n=>match T.get i me with
   | some (.c t cs)=>Option.rec none (fun cs=>ih none (T.put i (some (.c t cs)) me)) (layAt o [.i k n] cs)
   | _=>none
  | _,_=>none) e) ds e me
def res (rs:List RVr) (fr:T SV) (me:T Ob) (nx:Pos):RF:=Option.rec .no (fun vs=>.ret (tup vs) me nx) (resL rs fr me)
def leave (rs:List RVr) (r:RC):RF:=RC.rec .no (fun x fr me nx ds=>X.rec
 (Option.rec .no (fun q=>res rs fr q.2 nx) (ended ds none me)) (fun _=>.no)
 (Option.rec .no (fun q=>res rs fr q.2 nx) (ended ds none me))
 (fun e=>Option.rec .no (fun q=>Option.rec (res rs fr q.2 nx) (fun e=>.pan e q.2 nx) q.1) (ended ds (some e) me)) x) r
def args (vs:List SV) (p:Pos) (fr:T SV):T SV :=
 List.rec (motive:=fun _=>Pos→T SV→T SV) (fun _ fr=>fr) (fun v _ ih p fr=>ih p.succ (T.put p (some v) fr)) vs p fr
def runK (cl:CL) (cf:CF) (vs:List SV) (me:T Ob) (nx:Pos):RF:=bif Nat.beq (len vs) cf.np then leave cf.res (code cl cf.body (args vs .h .e) me nx []) else .no
end
end EV
end Go.Proofs.YtadggjnohohedaaGreatDoor
