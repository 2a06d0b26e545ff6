/- TopTampers: for every input the call returns true; part A3 of the proof. -/
import Derived.Test.YtadggjnohohedaaGreatDoorA2
import Derived.Maps.RangeRun
import Derived.Laws.RangeString
import Derived.Lib.ConvBytes
set_option linter.unusedVariables false
set_option linter.unusedSimpArgs false
set_option linter.unusedSectionVars false
namespace Go.Proofs.YtadggjnohohedaaGreatDoor
namespace EV
noncomputable section
open Go.RowKit
open Go.ChangeMaps (setBlock)
section
variable {W0 W W':World} {L:List Thing} {b c n:Nat} {k:IntKind} {kvs kvs':List (Int × Value)}
theorem Sts.weak {T T':Thing} (h:Sts W0 W (T::L)) {A:Nat→Prop} (hT:∀ F,T.is W F→T'.is W A∧∀ x,A x→F x):Sts W0 W (T'::L) :=
 h.turn (A:=A) ⟨rfl,rfl,rfl⟩ (Nat.le_refl _) (fun F hF=>⟨(hT F hF).1,fun x hx=>.inl ((hT F hF).2 x hx),fun x hx hn=>rfl⟩)
theorem Sts.mit (h:Sts W0 W (Mp (ienc k) b kvs::L)) {es:Array MapEntry} {ck:Nat} (hb:W.heap[b]?=some (.map es ck)) (he:Ents (ienc k) kvs es ck) :
  Sts W0 (W.alloc (.mapIter (some b) ck #[] ck)) (Mit b W.heap.size 0 k kvs::L):=by
 have hlt:b < W.heap.size:=by
  rcases Nat.lt_or_ge b W.heap.size with h2 | h2
  ·exact h2
  ·rw [Array.getElem?_eq_none h2] at hb; cases hb
 have hbl:=(Below.refl W.heap.size W).alloc (Nat.le_refl _) (.mapIter (some b) ck #[] ck)
 refine h.turn (A:=fun x=>x=b∨x=W.heap.size) ⟨rfl,rfl,rfl⟩ hbl.size (fun F hF=>?_)
 unfold Mp at hF
 refine ⟨⟨⟨by omega,es,ck,ck,#[],ck,(hbl.block b hlt).trans hb,heap_alloc_new W _,he,he.born,Nat.le_refl _,rfl,rfl⟩,fun x=>Iff.rfl⟩,fun x hx=>?_,fun x hx hn=>hbl.block x hx⟩
 rcases hx with rfl | rfl
 ·exact .inl ((hF.2 _).2 rfl)
 ·exact .inr (Nat.le_refl _)
theorem Sts.unmit (h:Sts W0 W (Mit b c n k kvs::L)):Sts W0 W (Mp (ienc k) b kvs::L):=by
 refine Sts.weak h (A:=fun x=>x=b) (fun F hF=>?_)
 obtain ⟨⟨hn,es,ck,since,seen,c0,h1,h2,h3,_⟩,h4⟩:=hF
 unfold Mp
 exact ⟨⟨⟨es,ck,h1,h3⟩,fun x=>Iff.rfl⟩,fun x hx=>(h4 x).2 (.inl hx)⟩
theorem Sts.mitOf (h:Sts W0 W (Mit b c n k kvs::L)):∃ es ck since seen c0,b≠c∧W.heap[b]?=some (.map es ck)∧W.heap[c]?=some (.mapIter (some b) since seen c0)∧Ents (ienc k) kvs es ck∧(∀ e∈es.toList,e.born < since)∧since≤c0∧c0=ck∧sawn n seen es:=by
 obtain ⟨F,hF⟩:=h.fact
 obtain ⟨⟨hn,es,ck,since,seen,c0,hr⟩,h4⟩:=hF
 exact ⟨es,ck,since,seen,c0,hn,hr⟩
theorem Sts.mitSet {n' x:Nat} (h:Sts W0 W (Mit b c n k kvs::L)) {es':Array MapEntry} {ck' since':Nat} {seen':Array Nat} {c0':Nat} (hne:b≠c) (hbc:x=b∨x=c) {o:Obj}
  (h1:(setBlock W x o).heap[b]?=some (.map es' ck')) (h2:(setBlock W x o).heap[c]?=some (.mapIter (some b) since' seen' c0')) (h3:Ents (ienc k) kvs' es' ck') (h4:∀ e∈es'.toList,e.born < since') (h5:since'≤c0') (h6:c0'=ck')
  (h7:sawn n' seen' es'):Sts W0 (setBlock W x o) (Mit b c n' k kvs'::L):=by
 refine h.turn (A:=fun x=>x=b∨x=c) ⟨rfl,rfl,rfl⟩ (by simp [setBlock]) (fun F hF=>⟨⟨⟨hne,es',ck',since',seen',c0',h1,h2,h3,h4,h5,h6,h7⟩,fun x=>Iff.rfl⟩,fun y hy=>.inl ((hF.2 y).2 hy),fun y hy hn=>?_⟩)
 have hxy:x≠y:=fun e=>hn ((hF.2 y).2 (e ▸ hbc))
 simp [setBlock,Array.getElem?_setIfInBounds_ne hxy]
theorem heap_setBlock {x:Nat} {o:Obj} (hx:x < W.heap.size):(setBlock W x o).heap[x]?=some o:=by simp [setBlock,hx]
theorem heap_setBlock_ne {x y:Nat} {o:Obj} (hx:x≠y):(setBlock W x o).heap[y]?=W.heap[y]?:=by simp [setBlock,Array.getElem?_setIfInBounds_ne hx]
theorem lt_heap {x:Nat} {o:Obj} (h:W.heap[x]?=some o):x < W.heap.size:=by
 rcases Nat.lt_or_ge x W.heap.size with h2 | h2
 ·exact h2
 ·rw [Array.getElem?_eq_none h2] at h; cases h
end
theorem Ents_del {α:Type} [DecidableEq α] {enc:α→Value} {kvs:List (α × Value)} {es:Array MapEntry} {ck:Nat} (h:Ents enc kvs es ck) (i:Nat):Ents enc (kvs.eraseIdx i) (es.eraseIdxIfInBounds i) ck:=by
 have e1:(es.eraseIdxIfInBounds i).toList=es.toList.eraseIdx i:=by
  unfold Array.eraseIdxIfInBounds
  split
  ·simp
  ·rename_i hi; rw [List.eraseIdx_of_length_le (by simpa using hi)]
 refine ⟨?_,?_,?_⟩
 ·rw [e1,Go.ChangeMaps.map_eraseIdx,h.kv,Go.ChangeMaps.map_eraseIdx]
 ·rw [e1,Go.ChangeMaps.map_eraseIdx]; exact h.nodup.sublist (List.eraseIdx_sublist _ _)
 ·intro e he
  rw [e1] at he
  exact h.born e ((List.eraseIdx_sublist _ _).subset he)
theorem mem_erase {es:Array MapEntry} {i:Nat} {e:MapEntry} (h:e∈(es.eraseIdxIfInBounds i).toList):e∈es.toList:=by
 unfold Array.eraseIdxIfInBounds at h
 split at h
 ·simp at h; have:=(List.eraseIdx_sublist es.toList i).subset h; simpa using this
 ·exact h
theorem run_delete {P:Program} {K:TypeId} {k:IntKind} (law:KeyL P K (ienc k)) {T E ty:TypeId} {tys:Array TypeId} (hT:P.underlying T=some (.map K E)) (h0:tys[0]?=some T) {w:World} {b:Nat} {kvs:List (Int × Value)} {es:Array MapEntry} {ck:Nat}
  (hb:w.heap[b]?=some (.map es ck)) (hen:Ents (ienc k) kvs es ck) (a:Int) :
  ∃ es',(Builtin.delete_ tys ty #[.map (some b),ienc k a]).run P w=.ok (.tuple #[]) (setBlock w b (.map es' ck))∧Ents (ienc k) (delK a kvs) es' ck∧∀ e∈es'.toList,e∈es.toList:=by
 have h1:=run_findKey law a w hen.kv
 cases h3:lookAt a kvs 0 with
 | none =>
  refine ⟨es,?_,by rw [delK_none h3]; exact hen,fun e he=>he⟩
  simp only [Builtin.delete_,h0,underlying,Sem.run_bind,run_program,Result.andThen_ok,hT,Sem.run_pure,run_getMap hb,law.check a _ w,h1,h3,run_setObj hb,List.getElem?_toArray,List.getElem?_cons_zero,List.getElem?_cons_succ]
  rfl
 | some q =>
  obtain ⟨i,u⟩:=q
  refine ⟨es.eraseIdxIfInBounds i,?_,by rw [delK_some h3,Nat.sub_zero]; exact Ents_del hen i,fun e he=>mem_erase he⟩
  simp only [Builtin.delete_,h0,underlying,Sem.run_bind,run_program,Result.andThen_ok,hT,Sem.run_pure,run_getMap hb,law.check a _ w,h1,h3,run_setObj hb,List.getElem?_toArray,List.getElem?_cons_zero,List.getElem?_cons_succ]
  rfl
theorem nat_h:Pos.h.nat=1:=rfl
theorem nat_inj:∀ {i j:Pos},i.nat=j.nat→i=j
 | .h,.h,_=>rfl
 | .h,.o q,h=>by have:=Pos.nat_pos q; rw [nat_h,Pos.nat_o] at h; omega
 | .h,.i q,h=>by have:=Pos.nat_pos q; rw [nat_h,Pos.nat_i] at h; omega
 | .o p,.h,h=>by have:=Pos.nat_pos p; rw [nat_h,Pos.nat_o] at h; omega
 | .i p,.h,h=>by have:=Pos.nat_pos p; rw [nat_h,Pos.nat_i] at h; omega
 | .o p,.i q,h=>by rw [Pos.nat_o,Pos.nat_i] at h; omega
 | .i p,.o q,h=>by rw [Pos.nat_o,Pos.nat_i] at h; omega
 | .o p,.o q,h=>by rw [Pos.nat_o,Pos.nat_o] at h; exact congrArg Pos.o (nat_inj (by omega))
 | .i p,.i q,h=>by rw [Pos.nat_i,Pos.nat_i] at h; exact congrArg Pos.i (nat_inj (by omega))
theorem delK_perm {a:Int} {l m:List (Int × Value)} (p:l.Perm m) (h:(m.map (·.1)).Nodup):(delK a l).Perm (delK a m):=by
 rw [delK_filter h,delK_filter ((p.map (·.1)).nodup_iff.2 h)]
 exact p.filter _
theorem lookAt_val {a:Int}:∀ {l:List (Int × Value)} {i j:Nat} {u:Value},lookAt a l i=some (j,u)→(l[j - i]?).map (·.2)=some u
 | [],i,j,u,h=>by simp [lookAt] at h
 | p::r,i,j,u,h=>by
  simp only [lookAt] at h
  by_cases e:a=p.1
  ·rw [if_pos e] at h; simp at h; obtain ⟨rfl,rfl⟩:=h; simp
  ·rw [if_neg e] at h
   have hg:=lookAt_ge h
   rw [show j - i=(j - (i + 1)) + 1 by omega]
   simpa using lookAt_val h
theorem lookAt_pushN {a:Int} {z:Value}:∀ {l:List (Int × Value)} {i:Nat},lookAt a l i=none→lookAt a (l++[(a,z)]) i=some (i + l.length,z)
 | [],i,h=>by simp [lookAt]
 | p::r,i,h=>by
  simp only [lookAt] at h
  by_cases e:a=p.1
  ·rw [if_pos e] at h; simp at h
  ·rw [if_neg e] at h
   simp only [List.cons_append,lookAt,if_neg e,lookAt_pushN h,List.length_cons]
   congr 2; omega
theorem lookAt_push {a:Int} {z:Value} {l:List (Int × Value)} (h:lookAt a l 0=none):lookAt a (l++[(a,z)]) 0=some (l.length,z):=by
 rw [lookAt_pushN h]; simp
theorem lookAt_setN {a:Int} {v:Value}:∀ {l:List (Int × Value)} {i j:Nat} {u:Value},lookAt a l i=some (j,u)→lookAt a (l.set (j - i) (a,v)) i=some (j,v)
 | [],i,j,u,h=>by simp [lookAt] at h
 | p::r,i,j,u,h=>by
  simp only [lookAt] at h
  by_cases e:a=p.1
  ·rw [if_pos e] at h; simp at h; obtain ⟨rfl,rfl⟩:=h; simp [lookAt]
  ·rw [if_neg e] at h
   have hg:=lookAt_ge h
   rw [show j - i=(j - (i + 1)) + 1 by omega]
   simp only [List.set_cons_succ,lookAt,if_neg e,lookAt_setN h]
theorem lookAt_set {a:Int} {v:Value} {l:List (Int × Value)} {j:Nat} {u:Value} (h:lookAt a l 0=some (j,u)):lookAt a (l.set j (a,v)) 0=some (j,v):=by
 have:=lookAt_setN (v:=v) h; rwa [Nat.sub_zero] at this
section
variable {P:Program} {K E T:TypeId} {k:IntKind} {w W0 W:World} {b:Nat} {kvs:List (Int × Value)} {es:Array MapEntry} {ck:Nat} {L:List Thing}
theorem es_modify_congr {f f':MapEntry→MapEntry} {i:Nat} (h:∀ e,es[i]?=some e→f e=f' e):es.modify i f=es.modify i f':=by
 apply Array.ext_getElem?
 intro j
 simp only [Array.getElem?_modify]
 by_cases e:i=j
 ·subst e
  cases hq:es[i]? with
  | none=>simp
  | some e0=>simp [h e0 hq]
 ·simp [e]
theorem ent_at (hen:Ents (ienc k) kvs es ck) {a:Int} {i:Nat} {u:Value} (hl:lookAt a kvs 0=some (i,u)):∃ e,es[i]?=some e∧e.key=ienc k a∧e.val=u:=by
 obtain ⟨g1,g2,g3⟩:=lookAt_ge hl
 simp only [Nat.sub_zero] at g2 g3
 have hlen:es.toList.length=kvs.length:=by have:=congrArg List.length hen.kv; simpa using this
 have hi:i < es.toList.length:=by omega
 refine ⟨es[i]'(by simpa using hi),by simp,?_,?_⟩
 ·have hj:=congrArg (fun l=>(l[i]?).map (·.1)) hen.kv
  simp only [List.getElem?_map,Option.map_map] at hj
  rw [List.getElem?_eq_getElem hi,List.getElem?_eq_getElem g2] at hj
  rw [List.getElem?_eq_getElem g2] at g3
  simp at hj g3
  rw [hj,g3]
 ·have hj:=congrArg (fun l=>(l[i]?).map (·.2)) hen.kv
  simp only [List.getElem?_map,Option.map_map] at hj
  rw [List.getElem?_eq_getElem hi,List.getElem?_eq_getElem g2] at hj
  have hu:=lookAt_val hl
  rw [Nat.sub_zero,List.getElem?_eq_getElem g2] at hu
  simp at hj hu
  rw [hj,hu]
theorem run_mapEntry (law:KeyL P K (ienc k)) (hT:P.underlying T=some (.map K E)) {z:Value} (hz:ZV P E z) (hb:w.heap[b]?=some (.map es ck)) (hen:Ents (ienc k) kvs es ck) (a:Int) :
  ∃ (es':Array MapEntry) (ck' born j:Nat),(Instr.mapEntry T (.map (some b)) (ienc k a)).run P w=.ok (.tuple #[(look' kvs a).getD z,.int .i64 (born:Int)]) (setBlock w b (.map es' ck')) ∧
   Ents (ienc k) (setK a ((look' kvs a).getD z) kvs) es' ck'∧lookAt a (setK a ((look' kvs a).getD z) kvs) 0=some (j,(look' kvs a).getD z)∧(es'[j]?).map (·.born)=some born:=by
 have h1:=run_findKey law a w hen.kv
 have h2:(lookAt a kvs 0).map (·.2)=look' kvs a:=lookAt_look a kvs 0
 cases h3:lookAt a kvs 0 with
 | none =>
  rw [h3] at h2; simp only [Option.map_none] at h2
  rw [← h2]; simp only [Option.getD_none]
  have hlen:es.size=kvs.length:=by have:=congrArg List.length hen.kv; simpa using this
  refine ⟨es.push { key:=ienc k a,val:=z,born:=ck },ck + 1,ck,kvs.length,?_,hen.push h3 z,?_,?_⟩
  ·simp only [Instr.mapEntry,underlying,Sem.run_bind,run_program,Result.andThen_ok,hT,Sem.run_pure,run_getMap hb,law.check a _ w,h1,h3,hz.run,run_setObj hb]
   rfl
  ·rw [setK_none h3]; exact lookAt_push h3
  ·rw [← hlen]; simp
 | some q =>
  obtain ⟨i,u⟩:=q
  rw [h3] at h2; simp only [Option.map_some] at h2
  rw [← h2]; simp only [Option.getD_some]
  obtain ⟨e,e1,e2,e3⟩:=ent_at hen h3
  refine ⟨es.modify i fun e=>{ e with key:=ienc k a,val:=u },ck,e.born,i,?_,hen.set h3 u,?_,?_⟩
  ·have hm:(es.modify i fun e=>{ e with key:=ienc k a })=es.modify i fun e=>{ e with key:=ienc k a,val:=u }:=es_modify_congr (fun e' he=>by rw [e1] at he; injection he with he; subst he; simp [e3])
   have hk:((es[i]?).map (·.key)).getD (ienc k a)=ienc k a:=by rw [e1]; simp [e2]
   simp only [Instr.mapEntry,underlying,Sem.run_bind,run_program,Result.andThen_ok,hT,Sem.run_pure,run_getMap hb,law.check a _ w,h1,h3,hk,Instr.keyThatStays,law.bits a,if_true,hm,run_setObj hb]
   rw [e1]; rfl
  ·rw [setK_some h3,Nat.sub_zero]; exact lookAt_set h3
  ·simp [Array.getElem?_modify,e1]
theorem Sts.toMen {n:Int} {kvs':List (Int × Value)} {es':Array MapEntry} {ck' born j:Nat} {u:Value} (h:Sts W0 W (Mp (ienc k) b kvs::L)) (he:Ents (ienc k) kvs' es' ck') (hl:lookAt n kvs' 0=some (j,u)) (hj:(es'[j]?).map (·.born)=some born) :
  Sts W0 (setBlock W b (.map es' ck')) (Men b born k n kvs'::L):=by
 obtain ⟨es,ck,hb,hen⟩:=h.mp .here
 have hlt:=lt_heap hb
 unfold Mp at h
 refine h.turn (A:=fun x=>x=b) ⟨rfl,rfl,rfl⟩ (by simp [setBlock]) (fun F hF=>⟨⟨⟨es',ck',j,u,heap_setBlock hlt,he,hl,hj⟩,fun x=>Iff.rfl⟩,fun x hx=>.inl ((hF.2 x).2 hx),fun x hx hn=>?_⟩)
 have hne:b≠x:=fun e=>hn ((hF.2 x).2 e.symm)
 exact heap_setBlock_ne hne
theorem Sts.menOf {n:Int} {born:Nat} (h:Sts W0 W (Men b born k n kvs::L)):∃ es ck j u,W.heap[b]?=some (.map es ck)∧Ents (ienc k) kvs es ck∧lookAt n kvs 0=some (j,u)∧(es[j]?).map (·.born)=some born:=by
 obtain ⟨_,A,⟨h1,_⟩,_⟩:=h
 exact h1
theorem Sts.ofMen {n:Int} {kvs':List (Int × Value)} {es':Array MapEntry} {ck' born:Nat} (h:Sts W0 W (Men b born k n kvs::L)) (he:Ents (ienc k) kvs' es' ck'):Sts W0 (setBlock W b (.map es' ck')) (Mp (ienc k) b kvs'::L):=by
 obtain ⟨es,ck,j,u,hb,_⟩:=Sts.menOf h
 have hlt:=lt_heap hb
 unfold Mp
 refine h.turn (A:=fun x=>x=b) ⟨rfl,rfl,rfl⟩ (by simp [setBlock]) (fun F hF=>⟨⟨⟨es',ck',heap_setBlock hlt,he⟩,fun x=>Iff.rfl⟩,fun x hx=>.inl ((hF.2 x).2 hx),fun x hx hn=>?_⟩)
 have hne:b≠x:=fun e=>hn ((hF.2 x).2 e.symm)
 exact heap_setBlock_ne hne
theorem run_entryStore {T:TypeId} {n:Int} {born j:Nat} {u:Value} (hb:w.heap[b]?=some (.map es ck)) (hen:Ents (ienc k) kvs es ck) (hl:lookAt n kvs 0=some (j,u)) (hj:(es[j]?).map (·.born)=some born) (v:Value) :
  ∃ es',(Instr.entryStore T (.map (some b)) (.int .i64 (born:Int)) v).run P w=.ok () (setBlock w b (.map es' ck))∧Ents (ienc k) (setK n v kvs) es' ck:=by
 obtain ⟨e,e1,e2,e3⟩:=ent_at hen hl
 rw [e1] at hj; simp only [Option.map_some,Option.some.injEq] at hj; subst hj
 have hjs:j < es.size:=by
  rcases Nat.lt_or_ge j es.size with h | h
  ·exact h
  ·rw [Array.getElem?_eq_none h] at e1; cases e1
 have hej:es[j]=e:=by rw [Array.getElem?_eq_getElem hjs] at e1; exact Option.some.inj e1
 have hf:es.findIdx? (fun x=>(x.born:Int) == (e.born:Int))=some j:=by
  rw [Array.findIdx?_eq_some_iff_getElem]
  refine ⟨hjs,by simp [hej],fun i hi=>?_⟩
  have hi':i < es.size:=by omega
  have hnd:=hen.nodup
  simp only [beq_iff_eq]
  intro hc
  have hc':es[i].born=es[j].born:=by rw [hej]; exact_mod_cast hc
  have:=List.pairwise_iff_getElem.1 hnd i j (by simpa using hi') (by simpa using hjs) hi
  exact this (by simpa using hc')
 refine ⟨es.modify j fun e=>{ e with key:=ienc k n,val:=v },?_,hen.set hl v⟩
 have hm:(es.modify j fun e=>{ e with val:=v })=es.modify j fun e=>{ e with key:=ienc k n,val:=v }:=es_modify_congr (fun e' he=>by rw [e1] at he; injection he with he; subst he; simp [e2])
 simp only [Instr.entryStore,Sem.run_bind,run_getMap hb,Result.andThen_ok,asInt,asIntOf,Sem.run_pure,hf,hm,run_setObj hb]
 rfl
end
section
variable {P:Program} {w W0:World} {rv:Operand→Value} {g:G} {me me':T Ob} {R:List Thing} {nx nx':Pos} {y z u:Operand} {a b c v:SV} {d:Option Tmp} {ty:TypeId} {pos:String} {af:Array Edge} {gd:Option (Nat × Bool)} (hs:Std rv)
include hs
omit hs in
theorem den_m {i:Pos} {x:Value} (h:den g (.m i)=some x):∃ q,g.rho i=some q∧x=.map (some q.1):=by
 simp only [den,den2,den1,den0,Option.map_eq_some_iff] at h
 obtain ⟨q,h1,rfl⟩:=h; exact ⟨q,h1,rfl⟩
theorem e_del {T K E:Nat} {kk:IntKind} {tys:Array TypeId} (hT:P.underlying T=some (.map K E)) (hK:KeyL P K (ienc kk)) (h0:tys[0]?=some T) (hy:den g a=some (rv y)) (hz:den g b=some (rv z)) (hf:g.fresh nx) (hm:Sts W0 w (mem g me++R)) (h:delE kk me nx a b=.ok v me' nx') :
  ∃ g' x w',After P W0 g nx R w rv ⟨d,.call { callee:=.builtin .delete,args:=#[y,z],argTypes:=tys },ty,pos,af,gd⟩ v me' nx' g' x w':=by
 have hop:∀ x w',(Builtin.delete_ tys ty #[rv y,rv z]).run P w=.ok x w'→(execOp rv ⟨d,.call { callee:=.builtin .delete,args:=#[y,z],argTypes:=tys },ty,pos,af,gd⟩).run P w=.ok (.value x) w':=by
  intro x w' hr
  simp only [execOp,resolve,invoke,builtin,Sem.run_bind,Sem.run_pure,Result.andThen_ok,List.map_toArray,List.map_cons,List.map_nil,hr]
 unfold delE at h
 split at h
 ·rename_i i
  obtain ⟨q,hq,e⟩:=den_m hy
  cases hg:EV.T.get i me with
  | none=>rw [hg] at h; cases h
  | some o =>
   rw [hg] at h
   cases o with
   | m k kvs =>
    dsimp only at h
    cases hc:keq kk k with
    | false=>rw [hc] at h; cases h
    | true =>
     rw [hc] at h; simp only [cond_true] at h
     have e2:=keq_eq hc
     subst e2
     cases hn:keyN kk b with
     | none=>rw [hn] at h; cases h
     | some n =>
     rw [hn] at h; dsimp only at h
     have ez:=key_enc hn hz
     injection h with h1 h2 h3; subst h1; subst h2; subst h3
     obtain ⟨x,k1⟩:=(mout hm hg).of_some
     obtain ⟨⟨k2,k3,k4,k5⟩,k6⟩:=k1.of_both.of_fact
     obtain rfl:q=(x.1,x.2.1):=by rw [hq] at k2; exact Option.some.inj k2
     obtain ⟨es,ck,hb,hen⟩:=k6.mp .here
     obtain ⟨es',r1,r2,r3⟩:=run_delete (ty:=ty) hK hT h0 hb hen n
     refine ⟨g,.tuple #[],_,G.ext.refl _ _,hf,Nat.le_refl _,rfl,?_,Or.inl (hop _ _ (by rw [e,ez]; exact r1))⟩
     exact mback (Sts.to_some (x.1,x.2.1,delK n x.2.2.1,delK n x.2.2.2) (Sts.to_both (Sts.to_fact ⟨hq,delM_den k3,delK_perm k4 (by rw [kvDen_keys k3]; exact k5),k5.sublist delM_keys⟩ (k6.setMp r2))))
   | mi jj nn k kvs =>
    dsimp only at h
    cases hc:keq kk k with
    | false=>rw [hc] at h; cases h
    | true =>
     rw [hc] at h; simp only [cond_true] at h
     have e2:=keq_eq hc
     subst e2
     cases hn:keyN kk b with
     | none=>rw [hn] at h; cases h
     | some n =>
     rw [hn] at h; dsimp only at h
     have ez:=key_enc hn hz
     injection h with h1 h2 h3; subst h1; subst h2; subst h3
     obtain ⟨x,k1⟩:=(mout hm hg).of_some
     obtain ⟨⟨k2,k2',k3,k4,k5⟩,k6⟩:=k1.of_both.of_fact
     obtain rfl:q=(x.1,x.2.1):=by rw [hq] at k2; exact Option.some.inj k2
     obtain ⟨es,ck,since,seen,c0,m1,m2,m3,m4,m5,m6,m7,m8⟩:=Sts.mitOf k6
     obtain ⟨es',r1,r2,r3⟩:=run_delete (ty:=ty) hK hT h0 m2 m4 n
     refine ⟨g,.tuple #[],_,G.ext.refl _ _,hf,Nat.le_refl _,rfl,?_,Or.inl (hop _ _ (by rw [e,ez]; exact r1))⟩
     refine mback (Sts.to_some (x.1,x.2.1,x.2.2.1,x.2.2.2.1,delK n x.2.2.2.2.1,delK n x.2.2.2.2.2) (Sts.to_both (Sts.to_fact ⟨hq,k2',delM_den k3,delK_perm k4 (by rw [kvDen_keys k3]; exact k5),k5.sublist delM_keys⟩ ?_)))
     refine Sts.mitSet k6 (es':=es') (ck':=ck) (since':=since) (seen':=seen) (c0':=c0) m1 (.inl rfl) (heap_setBlock (lt_heap m2)) ((heap_setBlock_ne m1).trans m3) r2 (fun e he=>m5 e (r3 e he)) m6 m7 ?_
     cases nn with
     | zero=>exact m8
     | succ nn=>obtain ⟨s,q1,q2⟩:=m8; exact ⟨s,q1,fun e he=>q2 e (r3 e he)⟩
   | _=>cases h
 ·cases h
theorem e_men {T K E:Nat} {kk:IntKind} {zz:SV} {zv:Value} (hT:P.underlying T=some (.map K E)) (hK:KeyL P K (ienc kk)) (hzv:ZV P E zv) (hzz:den2 g zz=some zv) (hy:den g a=some (rv y)) (hz:den g b=some (rv z)) (hf:g.fresh nx) (hm:Sts W0 w (mem g me++R)) (h:menE kk zz me nx a b=.ok v me' nx') :
  ∃ g' x w',After P W0 g nx R w rv ⟨d,.mapEntry T y z,ty,pos,af,gd⟩ v me' nx' g' x w':=by
 unfold menE at h
 split at h
 ·rename_i i
  obtain ⟨q,hq,e⟩:=den_m hy
  cases hg:EV.T.get i me with
  | none=>rw [hg] at h; cases h
  | some o =>
   rw [hg] at h
   cases o with
   | m k kvs =>
    dsimp only at h
    cases hc:keq kk k with
    | false=>rw [hc] at h; cases h
    | true =>
     rw [hc] at h; simp only [cond_true] at h
     have e2:=keq_eq hc
     subst e2
     cases hn:keyN kk b with
     | none=>rw [hn] at h; cases h
     | some n =>
     rw [hn] at h; dsimp only at h
     have ez:=key_enc hn hz
     obtain ⟨x,k1⟩:=(mout hm hg).of_some
     obtain ⟨⟨k2,k3,k4,k5⟩,k6⟩:=k1.of_both.of_fact
     obtain rfl:q=(x.1,x.2.1):=by rw [hq] at k2; exact Option.some.inj k2
     obtain ⟨es,ck,hb,hen⟩:=k6.mp .here
     obtain ⟨es',ck',born,j,r1,r2,r3,r4⟩:=run_mapEntry hK hT hzv hb hen n
     have hlp:=look_perm k4 (by rw [kvDen_keys k3]; exact k5) n
     obtain ⟨l1,l2⟩:=look_den n k3
     have key:∀ vv vz,den2 g vv=some vz→(look' x.2.2.2 n).getD zv=vz→R3.ok (.t [vv,.q nx]) (EV.T.put i (some (.me nx kk n (setM kvs n vv))) me) (Pos.succ nx)=R3.ok v me' nx' →
       ∃ g' x w',After P W0 g nx R w rv ⟨d,.mapEntry T y z,ty,pos,af,gd⟩ v me' nx' g' x w':=by
      intro vv vz hvv hlk hr
      injection hr with h1 h2 h3; subst h1; subst h2; subst h3
      rw [hlk] at r1 r2 r3
      have hle:=(G.set_ext g nx (born,0)).le hf
      have hst:=Sts.toMen k6 r2 r3 r4
      have s2:=mem_mono hle (hst.perm List.perm_middle.symm)
      have s3:=s2.perm List.perm_middle
      refine ⟨g.set nx (born,0),.tuple #[vz,.int .i64 (born:Int)],setBlock w x.1 (.map es' ck'),G.set_ext _ _ _,G.set_fresh hf _,le_succ nx,?_,?_,Or.inl ?_⟩
      ·exact den_t' (dens_mk (den2_mono hle _ _ hvv) (dens_mk (x:=.q nx) (v:=.int .i64 (born:Int)) (by simp [den2,den1,den0,G.set_at]) rfl))
      ·exact mback (Sts.to_some (x.1,x.2.1,born,0,setK n vz x.2.2.1,setK n vz x.2.2.2) (Sts.to_both (Sts.to_fact ⟨hle.2.2 _ _ hq,G.set_at g nx _,kvDen_mono hle (setM_den hvv k3),setK_perm2 k4 (by rw [kvDen_keys k3]; exact k5),(setM_keys k5).1⟩ s3)))
      ·simp only [execOp,e,ez,Sem.run_bind,r1,Result.andThen_ok,Sem.run_pure]
     cases hl:look kvs n with
     | none =>
      rw [hl] at h
      exact key zz zv hzz (by rw [hlp,l2 hl]; rfl) h
     | some v1 =>
      rw [hl] at h
      obtain ⟨vv,m1,m2⟩:=l1 v1 hl
      exact key v1 vv m1 (by rw [hlp,m2]; rfl) h
   | _=>cases h
 ·cases h
omit hs in
theorem den_q {i:Pos} {x:Value} (h:den g (.q i)=some x):∃ q,g.rho i=some q∧x=.int .i64 (q.1:Int):=by
 simp only [den,den2,den1,den0,Option.map_eq_some_iff] at h
 obtain ⟨q,h1,rfl⟩:=h; exact ⟨q,h1,rfl⟩
theorem e_mst {T:Nat} (hy:den g a=some (rv y)) (hz:den g b=some (rv z)) (hu:den g c=some (rv u)) (hf:g.fresh nx) (hm:Sts W0 w (mem g me++R)) (h:mstE me nx a b c=.ok v me' nx') :
  ∃ g' x w',After P W0 g nx R w rv ⟨d,.entryStore T y z u,ty,pos,af,gd⟩ v me' nx' g' x w':=by
 unfold mstE at h
 split at h
 ·rename_i i j
  obtain ⟨q,hq,e⟩:=den_m hy
  obtain ⟨q2,hq2,e2⟩:=den_q hz
  cases hg:EV.T.get i me with
  | none=>rw [hg] at h; cases h
  | some o =>
   rw [hg] at h
   cases o with
   | me j' k n kvs =>
    dsimp only at h
    cases hb:Nat.beq j.nat j'.nat with
    | false=>rw [hb] at h; cases h
    | true =>
     rw [hb] at h; simp only [cond_true] at h
     have:=nat_inj (Nat.eq_of_beq_eq_true hb); subst this
     obtain ⟨cc,hcc⟩:∃ cc,cells c=some cc:=by
      cases h0:cells c with
      | none=>rw [h0] at h; cases h
      | some cc=>exact ⟨cc,rfl⟩
     rw [hcc] at h; dsimp only at h
     have hu2:=den_2 hu hcc
     injection h with h1 h2 h3; subst h1; subst h2; subst h3
     obtain ⟨x,k1⟩:=(mout hm hg).of_some
     obtain ⟨⟨k2,k2',k3,k4,k5⟩,k6⟩:=k1.of_both.of_fact
     obtain rfl:q=(x.1,x.2.1):=by rw [hq] at k2; exact Option.some.inj k2
     obtain rfl:q2=(x.2.2.1,x.2.2.2.1):=by rw [hq2] at k2'; exact Option.some.inj k2'
     obtain ⟨es,ck,j0,u0,m1,m2,m3,m4⟩:=Sts.menOf k6
     obtain ⟨es',r1,r2⟩:=run_entryStore (P:=P) (T:=T) m1 m2 m3 m4 (rv u)
     refine ⟨g,undef,setBlock w x.1 (.map es' ck),G.ext.refl _ _,hf,Nat.le_refl _,rfl,?_,Or.inr ⟨by simp only [execOp,e,e2,Sem.run_bind,r1,Result.andThen_ok,Sem.run_pure],rfl⟩⟩
     exact mback (Sts.to_some (x.1,x.2.1,setK n (rv u) x.2.2.2.2.1,setK n (rv u) x.2.2.2.2.2) (Sts.to_both (Sts.to_fact ⟨hq,setM_den hu2 k3,setK_perm2 k4 (by rw [kvDen_keys k3]; exact k5),(setM_keys k5).1⟩ (Sts.ofMen k6 r2))))
   | _=>cases h
 ·cases h
theorem e_rng {T K E:Nat} (hT:P.underlying T=some (.map K E)) (hy:den g a=some (rv y)) (hf:g.fresh nx) (hm:Sts W0 w (mem g me++R)) (h:rngE me nx a=.ok v me' nx') :
  ∃ g' x w',After P W0 g nx R w rv ⟨d,.range T y,ty,pos,af,gd⟩ v me' nx' g' x w':=by
 unfold rngE at h
 split at h
 ·rename_i i
  obtain ⟨q,hq,e⟩:=den_m hy
  cases hg:EV.T.get i me with
  | none=>rw [hg] at h; cases h
  | some o =>
   rw [hg] at h
   cases o with
   | m k kvs =>
    dsimp only at h
    cases hc:Nat.ble (len kvs) 1 with
    | false=>rw [hc] at h; cases h
    | true =>
     rw [hc] at h; simp only [cond_true] at h
     injection h with h1 h2 h3; subst h1; subst h2; subst h3
     obtain ⟨x,k1⟩:=(mout hm hg).of_some
     obtain ⟨⟨k2,k3,k4,k5⟩,k6⟩:=k1.of_both.of_fact
     obtain rfl:q=(x.1,x.2.1):=by rw [hq] at k2; exact Option.some.inj k2
     obtain ⟨es,ck,hb,hen⟩:=k6.mp .here
     have hst:=Sts.mit k6 hb hen
     have hle:=(G.set_ext g nx (w.heap.size,0)).le hf
     have hne:nx≠i:=fun e=>by
      subst e; rw [hf nx (Nat.le_refl _)] at hq; cases hq
     have s1:Sts W0 (w.alloc (.mapIter (some x.1) ck #[] ck)) (mem g (EV.T.put i none me)++(Mit x.1 w.heap.size 0 k x.2.2.2::R)):=hst.perm List.perm_middle.symm
     have s2:=(mem_mono hle s1).perm List.perm_middle
     have s3:Sts W0 (w.alloc (.mapIter (some x.1) ck #[] ck)) (OT (g.set nx (w.heap.size,0)) i (.mi nx 0 k kvs)::(mem (g.set nx (w.heap.size,0)) (EV.T.put i none me)++R)) :=
      Sts.to_some (x.1,x.2.1,w.heap.size,0,x.2.2.1,x.2.2.2) (Sts.to_both (Sts.to_fact ⟨hle.2.2 _ _ hq,G.set_at g nx _,kvDen_mono hle k3,k4,k5⟩ s2))
     have s4:=mback s3
     have s5:Sts W0 (w.alloc (.mapIter (some x.1) ck #[] ck)) (OT (g.set nx (w.heap.size,0)) nx (.it i)::(mem (g.set nx (w.heap.size,0)) (EV.T.put i (some (.mi nx 0 k kvs)) me)++R)) :=
      Sts.to_some (w.heap.size,0) (Sts.to_fact (G.set_at g nx _) s4)
     refine ⟨g.set nx (w.heap.size,0),.pointer (some ⟨w.heap.size,0,none⟩),_,G.set_ext _ _ _,G.set_fresh hf _,le_succ nx,den_p' (G.set_at g nx _),minto s5 ?_,Or.inl ?_⟩
     ·rw [EV.T.get_other _ i nx me hne]; exact get_nx hm hf
     ·simp only [execOp,Instr.range,underlying,Sem.run_bind,run_program,Result.andThen_ok,hT,e,Sem.run_pure,run_getMap hb,run_newObj]
      rfl
   | _=>cases h
 ·cases h
omit hs in
theorem get_ne {i j:Pos} {o o':Ob} (h:EV.T.get i me=some o) (h':EV.T.get j me=some o') (hn:o≠o'):i≠j:=fun e=>by subst e; rw [h] at h'; exact hn (Option.some.inj h')
omit hs in
theorem over {i j:Pos} {n:Nat} {k:IntKind} {kvs:List (Int × SV)} (hm:Sts W0 w (mem g me++R)) (hi:EV.T.get i me=some (.mi j n k kvs)) (hj:EV.T.get j me=some (.it i)):Sts W0 w (mem g (EV.T.put j none (EV.T.put i (some (.m k kvs)) me))++R):=by
 have hne:j≠i:=get_ne hj hi (by intro e; cases e)
 obtain ⟨x,k1⟩:=(mout hm hi).of_some
 obtain ⟨⟨k2,k2',k3,k4,k5⟩,k6⟩:=k1.of_both.of_fact
 have s0:Sts W0 w (OT g i (.m k kvs)::(mem g (EV.T.put i none me)++R)):=Sts.to_some (x.1,x.2.1,x.2.2.2.2.1,x.2.2.2.2.2) (Sts.to_both (Sts.to_fact ⟨k2,k3,k4,k5⟩ (Sts.unmit k6)))
 have s1:=mback s0
 have hg:EV.T.get j (EV.T.put i (some (.m k kvs)) me)=some (.it i):=by rw [EV.T.get_other _ i j me hne]; exact hj
 exact (mout s1 hg).tail
theorem e_nxt (hy : den g a = some (rv y)) (hf : g.fresh nx) (hm : Sts W0 w (mem g me ++ R)) (h : nxtE me nx a = .ok v me' nx') :
    ∃ g' x w', After P W0 g nx R w rv ⟨d, .next y false, ty, pos, af, gd⟩ v me' nx' g' x w' := by
  unfold nxtE at h
  split at h
  · rename_i j
    obtain ⟨q, hq, e⟩ := den_p hy
    cases hg : EV.T.get j me with
    | none => rw [hg] at h; cases h
    | some o =>
      rw [hg] at h
      cases o with
      | it i =>
        dsimp only at h
        cases hi : EV.T.get i me with
        | none => rw [hi] at h; cases h
        | some o2 =>
          rw [hi] at h
          cases o2 with
          | mi j' n k kvs =>
            dsimp only at h
            cases hb : Nat.beq j.nat j'.nat with
            | false => rw [hb] at h; cases h
            | true =>
              rw [hb] at h; simp only [cond_true] at h
              have := nat_inj (Nat.eq_of_beq_eq_true hb); subst this
              obtain ⟨x, k1⟩ := (mout hm hi).of_some
              obtain ⟨⟨k2, k2', k3, k4, k5⟩, k6⟩ := k1.of_both.of_fact
              obtain ⟨es, ck, since, seen, c0, m1, m2, m3, m4, m5, m6, m7, m8⟩ := Sts.mitOf k6
              obtain rfl : q = (x.2.2.1, x.2.2.2.1) := by rw [hq] at k2'; exact Option.some.inj k2'
              have hlen : es.toList.length = kvs.length := by
                have q1 := congrArg List.length m4.kv
                have q2 := kvDen_len k3
                have q3 := k4.length_eq
                simp only [List.length_map] at q1
                omega
              have hlo : leftOf es seen = #[] → (Instr.next (.pointer (some ⟨x.2.2.1, 0, none⟩)) false ty).run P w = .ok (.tuple #[.bool false]) w := by
                intro hl
                rcases run_next_at (P := P) w ty x.2.2.1 x.1 since c0 seen es ck m3 m2 m5 m6 with ⟨_, h2⟩ | ⟨e0, h1, _⟩
                · exact h2
                · rw [hl] at h1; simp at h1
              have hov : ∀ v0, overE me nx i j k kvs = .ok v0 me' nx' → leftOf es seen = #[] → v0 = v →
                  ∃ g' x w', After P W0 g nx R w rv ⟨d, .next y false, ty, pos, af, gd⟩ v me' nx' g' x w' := by
                intro v0 ho hl hv
                unfold overE at ho
                injection ho with h1 h2 h3; subst hv; subst h1; subst h2; subst h3
                refine ⟨g, .tuple #[.bool false], w, G.ext.refl _ _, hf, Nat.le_refl _, rfl, over hm hi hg, Or.inl ?_⟩
                simp only [execOp, Sem.run_bind, e, hlo hl, Result.andThen_ok]; rfl
              cases kvs with
              | nil =>
                have hes : es = #[] := by
                  have : es.toList = [] := List.length_eq_zero_iff.1 (by simpa using hlen)
                  simpa using this
                exact hov _ h (by rw [hes]; rfl) rfl
              | cons p r =>
                obtain ⟨a1, b1⟩ := p
                cases r with
                | nil =>
                  cases n with
                  | zero =>
                    dsimp only at h
                    cases hu : keq k .u16 with
                    | true => rw [hu] at h; cases h
                    | false =>
                    rw [hu] at h; simp only [cond_false] at h
                    injection h with h1 h2 h3; subst h1; subst h2; subst h3
                    have hseen : seen = #[] := m8
                    subst hseen
                    obtain ⟨e0, he0⟩ : ∃ e0, es.toList = [e0] := List.length_eq_one_iff.1 (by simpa using hlen)
                    rcases run_next_at (P := P) w ty x.2.2.1 x.1 since c0 #[] es ck m3 m2 m5 m6 with ⟨h1, _⟩ | ⟨e1, h1, w1, h2, h3⟩
                    · simp [leftOf] at h1
                      exact (h1 e0 (by have : e0 ∈ es.toList := by rw [he0]; simp
                                       simpa using this)).elim
                    · have he1 : e1 = e0 := by
                        simp [leftOf] at h1
                        have : e1 ∈ es.toList := by simpa using h1
                        rw [he0] at this; simpa using this
                      subst he1
                      have hkv := m4.kv
                      rw [he0] at hkv
                      obtain ⟨kv0, hkv0⟩ : ∃ kv0, x.2.2.2.2.2 = [kv0] := by
                        refine List.length_eq_one_iff.1 ?_
                        have := congrArg List.length hkv; simpa using this.symm
                      rw [hkv0] at hkv k4
                      simp only [List.map_cons, List.map_nil, List.cons.injEq, Prod.mk.injEq, and_true] at hkv
                      have hp : [kv0] = x.2.2.2.2.1 := List.singleton_perm.1 k4
                      simp only [kvDen] at k3
                      cases q1 : den2 g b1 with
                      | none => simp [q1] at k3
                      | some v1 =>
                        simp [q1] at k3
                        rw [← k3] at hp
                        simp only [List.cons.injEq, and_true] at hp
                        subst hp
                        have hst : Sts W0 w1 (Mit x.1 x.2.2.1 0 k x.2.2.2.2.2 :: (mem g (EV.T.put i none me) ++ R)) := by
                          rcases h2 with rfl | rfl
                          · exact k6
                          · exact k6.drew
                        have hh : w1.heap = w.heap := by rcases h2 with rfl | rfl <;> rfl
                        refine ⟨g, .tuple #[.bool true, .int k a1, v1], _, G.ext.refl _ _, hf, Nat.le_refl _, ?_, ?_, Or.inl (by simp only [execOp, Sem.run_bind, e, h3, Result.andThen_ok]; rw [hkv.1, hkv.2, ienc_i hu]; rfl)⟩
                        · exact den_t' (dens_mk rfl (dens_mk rfl (dens_mk q1 rfl)))
                        · refine mback (Sts.to_some (x.1, x.2.1, x.2.2.1, x.2.2.2.1, x.2.2.2.2.1, x.2.2.2.2.2) (Sts.to_both (Sts.to_fact ⟨k2, k2', ?_, ?_, k5⟩ ?_)))
                          · simp [kvDen, q1, k3]
                          · rw [hkv0, ← k3]
                          · refine Sts.mitSet hst (es' := es) (ck' := ck) (since' := since) (seen' := #[].push e1.born) (c0' := ck) m1 (.inr rfl) ?_ (heap_setBlock (lt_heap (by rw [hh]; exact m3))) m4 m5 (by omega) rfl ⟨e1.born, rfl, fun e he => by rw [he0] at he; simp at he; rw [he]⟩
                            rw [heap_setBlock_ne (Ne.symm m1), hh]; exact m2
                  | succ n =>
                    dsimp only at h
                    obtain ⟨s, q1, q2⟩ := m8
                    refine hov _ h ?_ rfl
                    unfold leftOf
                    rw [Array.filter_eq_empty_iff]
                    intro e0 he0
                    have := q2 e0 (by simpa using he0)
                    rw [q1, this]; simp
                | cons p2 r2 => dsimp only at h; cases h
          | _ => cases h
      | _ => cases h
  · cases h
theorem e_ent (hy:den g a=some (rv y)) (hf:g.fresh nx) (hm:Sts W0 w (mem g me++R)) (h:entE me nx a=.ok v me' nx') :
  ∃ g' x w',After P W0 g nx R w rv ⟨d,.entry y,ty,pos,af,gd⟩ v me' nx' g' x w':=by
 unfold entE at h
 split at h
 ·rename_i j
  obtain ⟨q,hq,e⟩:=den_p hy
  cases hg:EV.T.get j me with
  | none=>rw [hg] at h; cases h
  | some o =>
   rw [hg] at h
   cases o with
   | it i =>
    dsimp only at h
    cases hi:EV.T.get i me with
    | none=>rw [hi] at h; cases h
    | some o2 =>
     rw [hi] at h
     cases o2 with
     | mi j' n k kvs =>
      dsimp only at h
      cases hb:Nat.beq j.nat j'.nat with
      | false=>rw [hb] at h; cases h
      | true =>
       rw [hb] at h; simp only [cond_true] at h
       have:=nat_inj (Nat.eq_of_beq_eq_true hb); subst this
       obtain ⟨x,k1⟩:=(mout hm hi).of_some
       obtain ⟨⟨k2,k2',k3,k4,k5⟩,k6⟩:=k1.of_both.of_fact
       obtain ⟨es,ck,since,seen,c0,m1,m2,m3,m4,m5,m6,m7,m8⟩:=Sts.mitOf k6
       obtain rfl:q=(x.2.2.1,x.2.2.2.1):=by rw [hq] at k2'; exact Option.some.inj k2'
       split at h
       ·rename_i a1 b1
        cases hu:keq k .u16 with
        | true=>rw [hu] at h; cases h
        | false =>
        rw [hu] at h; simp only [cond_false] at h
        injection h with h1 h2 h3; subst h1; subst h2; subst h3
        obtain ⟨s,q1,q2⟩:=m8
        have hlen:es.toList.length=1:=by
         have q1:=congrArg List.length m4.kv
         have q2:=kvDen_len k3
         have q3:=k4.length_eq
         simp only [List.length_map,List.length_cons,List.length_nil] at q1 q2
         omega
        obtain ⟨e0,he0⟩:∃ e0,es.toList=[e0]:=List.length_eq_one_iff.1 hlen
        have hs0:=q2 e0 (by rw [he0]; simp)
        have hkv:=m4.kv
        rw [he0] at hkv
        obtain ⟨kv0,hkv0⟩:∃ kv0,x.2.2.2.2.2=[kv0]:=by
         refine List.length_eq_one_iff.1 ?_
         have:=congrArg List.length hkv; simpa using this.symm
        rw [hkv0] at hkv k4
        simp only [List.map_cons,List.map_nil,List.cons.injEq,Prod.mk.injEq,and_true] at hkv
        have hp:[kv0]=x.2.2.2.2.1:=List.singleton_perm.1 k4
        simp only [kvDen] at k3
        cases q3:den2 g b1 with
        | none=>simp [q3] at k3
        | some v1 =>
         simp [q3] at k3
         rw [← k3] at hp
         simp only [List.cons.injEq,and_true] at hp
         subst hp
         refine ⟨g,.tuple #[.int k a1,v1],w,G.ext.refl _ _,hf,Nat.le_refl _,den_t' (dens_mk rfl (dens_mk q3 rfl)),hm,Or.inl ?_⟩
         have:=run_entry_at (P:=P) w x.2.2.1 x.1 since #[] es ck e0 (by rw [m3,q1,hs0,m7]) m2 (by rw [he0]; simp) m4.nodup
         simp only [execOp,Sem.run_bind,e,this,Result.andThen_ok]
         rw [hkv.1,hkv.2,ienc_i hu]; rfl
       ·cases h
     | _=>cases h
   | _=>cases h
 ·cases h
theorem e_rgs {T:Nat} (hT:P.underlying T=some .string) (hy:den g a=some (rv y)) (hf:g.fresh nx) (hm:Sts W0 w (mem g me++R)) (h:rgsE me nx a=.ok v me' nx') :
  ∃ g' x w',After P W0 g nx R w rv ⟨d,.range T y,ty,pos,af,gd⟩ v me' nx' g' x w':=by
 unfold rgsE at h
 split at h
 ·rename_i n m
  injection h with h1 h2 h3; subst h1; subst h2; subst h3
  obtain ⟨hlt,ey⟩:=den_s hy
  have hst:Sts W0 (w.alloc (.stringIter (byt n m) 0)) (Si w.heap.size (byt n m) 0::(mem g me++R)) :=
   hm.more ((Below.refl _ _).alloc (Nat.le_refl _) _) (A:=fun x=>x=w.heap.size) ⟨heap_alloc_new w _,fun x=>Iff.rfl⟩ (fun b e=>by rw [e]; exact Nat.le_refl _)
  have hle:=(G.set_ext g nx (w.heap.size,0)).le hf
  have h2:Sts W0 (w.alloc (.stringIter (byt n m) 0)) (OT (g.set nx (w.heap.size,0)) nx (.si n m 0)::(mem g me++R)):=Sts.to_some (w.heap.size,0) (Sts.to_both (Sts.to_fact ⟨G.set_at g nx _,hlt⟩ hst))
  have h4:=mem_mono hle (h2.perm List.perm_middle.symm)
  refine ⟨g.set nx (w.heap.size,0),.pointer (some ⟨w.heap.size,0,none⟩),_,G.set_ext _ _ _,G.set_fresh hf _,le_succ nx,den_p' (G.set_at g nx _),minto (h4.perm List.perm_middle) (get_nx hm hf),Or.inl ?_⟩
  simp only [execOp,ey,Sem.run_bind,run_range_string w T _ hT,Result.andThen_ok]
  rfl
 ·cases h
omit hs in
theorem byte_at {n m j:Nat} (hj:j < n) (hs:j < (byt n m).size):((byt n m)[j]'hs).toNat=byteOf n m j:=by
 have h1:=byts_get n (v:=m) hj
 have h2:(byt n m)[j]'hs=(byts n m)[j]'(by rw [byts_len]; exact hj):=by
  show (byt n m).data[j]'_=_
  simp [byt]
 have h3:=List.getElem?_eq_getElem (l:=byts n m) (i:=j) (by rw [byts_len]; exact hj)
 rw [h3] at h1
 rw [h2,Option.some.inj h1]
 show _=m / 256 ^ (n - 1 - j) % 256
 simp
theorem e_nxs (hy:den g a=some (rv y)) (hf:g.fresh nx) (hm:Sts W0 w (mem g me++R)) (h:nxsE me nx a=.ok v me' nx') :
  ∃ g' x w',After P W0 g nx R w rv ⟨d,.next y true,ty,pos,af,gd⟩ v me' nx' g' x w':=by
 unfold nxsE at h
 split at h
 ·rename_i j
  obtain ⟨q,hq,e⟩:=den_p hy
  cases hg:EV.T.get j me with
  | none=>rw [hg] at h; cases h
  | some o =>
   rw [hg] at h
   cases o with
   | si n m p =>
    dsimp only at h
    obtain ⟨x,k1⟩:=(mout hm hg).of_some
    obtain ⟨⟨k2,k3⟩,k4⟩:=k1.of_both.of_fact
    obtain rfl:q=x:=by rw [hq] at k2; exact Option.some.inj k2
    obtain ⟨F,hF⟩:=k4.fact
    have hb:=hF.1
    cases hlt:Nat.blt p n with
    | false =>
     rw [hlt] at h
     simp only [cond_false] at h
     injection h with h1 h2 h3; subst h1; subst h2; subst h3
     have hnl:¬ p < (byt n m).size:=by
      rw [byt_size]; intro hh; rw [blt_eq] at hlt; simp [hh] at hlt
     refine ⟨g,.tuple #[.bool false],w,G.ext.refl _ _,hf,Nat.le_refl _,rfl,hm,Or.inl ?_⟩
     simp [execOp,e,Instr.next,getObj,Sem.run,hb,hnl]
    | true =>
     rw [hlt] at h
     simp only [cond_true] at h
     have hpn:p < n:=by rw [blt_eq] at hlt; simpa using hlt
     have hps:p < (byt n m).size:=by rw [byt_size]; exact hpn
     cases hc:Nat.blt (byteOf n m p) 128 with
     | false=>rw [hc] at h; cases h
     | true =>
      rw [hc] at h
      simp only [cond_true] at h
      injection h with h1 h2 h3; subst h1; subst h2; subst h3
      have hbt:=byte_at hpn hps
      have ha:((byt n m)[p]'hps).toNat < 128:=by rw [hbt]; rw [blt_eq] at hc; simpa using hc
      have hst:Sts W0 (setBlock w q.1 (.stringIter (byt n m) (p + 1))) (Si q.1 (byt n m) (p + 1)::(mem g (EV.T.put j none me)++R)):=by
       refine k4.turn (A:=fun x=>x=q.1) ⟨rfl,rfl,rfl⟩ (by simp [setBlock]) (fun F hF=>⟨⟨heap_setBlock (lt_heap hF.1),fun x=>Iff.rfl⟩,fun y hy=>.inl ((hF.2 y).2 hy),fun y hy hn=>?_⟩)
       exact heap_setBlock_ne (fun e=>hn ((hF.2 y).2 e.symm))
      refine ⟨g,.tuple #[.bool true,.int .i64 p,.int .i32 (byteOf n m p)],_,G.ext.refl _ _,hf,Nat.le_refl _,rfl,mback (Sts.to_some q (Sts.to_both (Sts.to_fact ⟨k2,k3⟩ hst))),Or.inl ?_⟩
      simp only [execOp,e,Instr.next,getObj,setObj,Sem.run_bind,Sem.run,hb,Result.andThen,hps,if_true,decode_ascii _ p hps ha,hbt]
      simp [goInt,Sem.run,hb,setBlock]
   | _=>cases h
 ·cases h
omit hs in
theorem bytL_den:∀ (n v:Nat) (acc:List SV) (xs:List Value),dens (den1 g) acc=some xs→dens (den1 g) (bytL n v acc)=some ((byts n v).map (fun c=>Value.int .u8 c.toNat)++xs)
 | 0,v,acc,xs,h=>h
 | n + 1,v,acc,xs,h=>by
  have h':bytL (n + 1) v acc=bytL n (Nat.div v 256) (.i .u8 (.ofNat (Nat.mod v 256))::acc):=rfl
  rw [h']
  have h1:dens (den1 g) (SV.i .u8 (.ofNat (Nat.mod v 256))::acc)=some (.int .u8 ((v % 256:Nat):Int)::xs):=dens_mk rfl h
  rw [bytL_den n _ _ _ h1]
  have e1:(UInt8.ofNat (v % 256)).toNat=v % 256:=by simp
  show some (List.map _ (byts n (v / 256))++_)=_
  simp [byts,e1]
theorem e_cvb {s t e:Nat} (h1:P.underlying s=some .string) (h2:P.underlying t=some (.slice e)) (h3:P.underlying e=some (.int .u8)) (hy:den g a=some (rv y)) (hf:g.fresh nx) (hm:Sts W0 w (mem g me++R)) (h:cvbE e me nx a=.ok v me' nx') :
  ∃ g' x w',After P W0 g nx R w rv ⟨d,.convert s t y,ty,pos,af,gd⟩ v me' nx' g' x w':=by
 unfold cvbE at h
 split at h
 ·rename_i n m
  injection h with q1 q2 q3; subst q1; subst q2; subst q3
  obtain ⟨hlt,ey⟩:=den_s hy
  have hd:dens (den1 g) (bytL n m [])=some ((byts n m).map fun c=>Value.int .u8 c.toNat):=by
   have:=bytL_den (g:=g) n m [] [] rfl
   simpa using this
  have hbel:Below w.heap.size w (Lib.bytesWorld w e (byt n m)):=by
   refine ⟨rfl,rfl,rfl,?_,fun b hb=>Lib.bytesWorld_at_old w e _ b hb⟩
   rw [Lib.bytesWorld_size]; omega
  have hst:Sts W0 (Lib.bytesWorld w e (byt n m)) (Ro w.heap.size ((byts n m).map fun c=>Value.int .u8 c.toNat)::(mem g me++R)):=by
   refine hm.more hbel (A:=fun x=>x=w.heap.size) ⟨⟨_,_,_,Lib.bytesWorld_at_new w e _,fun j v hv=>?_⟩,fun x=>Iff.rfl⟩ (fun b e=>by rw [e]; exact Nat.le_refl _)
   have hj:j < (byts n m).length:=by
    rcases Nat.lt_or_ge j (byts n m).length with h' | h'
    ·exact h'
    ·rw [List.getElem?_eq_none (by simpa using h')] at hv; cases hv
   rw [List.getElem?_map,List.getElem?_eq_getElem hj] at hv
   simp only [Option.map_some,Option.some.injEq] at hv
   subst hv
   unfold Lib.bytesCells
   rw [Array.getElem?_append_left (by simpa [byt] using hj)]
   simp [byt,List.getElem?_eq_getElem hj]
  have hle:=(G.set_ext g nx (w.heap.size,grownCap w n 0 e)).le hf
  have s2:Sts W0 (Lib.bytesWorld w e (byt n m)) (OT (g.set nx (w.heap.size,grownCap w n 0 e)) nx (.ro e (bytL n m []))::(mem g me++R)):=Sts.to_some (w.heap.size,grownCap w n 0 e,_) (Sts.to_both (Sts.to_fact ⟨G.set_at g nx _,dens_mono (den1_mono hle) hd⟩ hst))
  have s4:=mem_mono hle (s2.perm List.perm_middle.symm)
  refine ⟨g.set nx (w.heap.size,grownCap w n 0 e),.slice (some ⟨w.heap.size,0,none⟩) n (grownCap w n 0 e),_,G.set_ext _ _ _,G.set_fresh hf _,le_succ nx,den_sr (G.set_at g nx _),minto (s4.perm List.perm_middle) (get_nx hm hf),Or.inl ?_⟩
  have hr:=Lib.run_convert_string_bytes (P:=P) w s t e (byt n m) h1 h2 h3
  rw [byt_size] at hr
  simp only [execOp,ey,Sem.run_bind,hr,Result.andThen_ok]; rfl
 ·cases h
end
end
noncomputable section
open Go.RowKit
def trip3:List (Nat × Nat × O)→List (Nat × Operand)→Nat→Bool
 | [],[],_=>true
 | (off,size,x)::qs,(i,y)::ps,z=>Nat.beq off (i * z) && Nat.beq size z && trip3 qs ps z
 | _,_,_=>false
theorem parts3 {oq:O→Operand→Bool} {z:Nat}:∀ {qs:List (Nat × Nat × O)} {ps:List (Nat × Operand)},oqp oq qs ps=true→trip3 qs ps z=true→parts (fun i=>some (i * z,z)) oq qs ps=true
 | [],[],_,_=>rfl
 | (off,size,x)::qs,(i,y)::ps,h,ht=>by
  simp only [oqp,trip3,Bool.and_eq_true] at h ht
  have e1:=Nat.eq_of_beq_eq_true ht.1.1
  have e2:=Nat.eq_of_beq_eq_true ht.1.2
  subst e1; subst e2
  simp only [parts,Nat.beq_refl,h.1,parts3 h.2 ht.2,Bool.and_self]
 | [],_::_,h,_=>by cases h
 | _::_,[],h,_=>by cases h
def chkE (F:FT) (oq:O→Operand→Bool):Op→E→Bool
 | .alloc t,.al t' z=>Nat.beq t t' && F.al t z
 | .box t y,.box t' x=>Nat.beq t t' && oq x y
 | .buildSlice T m ps,.bsl t z n zs qs=>Nat.beq m n && (match n with
  | 0=>F.bs0 T t z && zs.isEmpty && qs.isEmpty && ps.isEmpty
  | _=>F.bs T t z n zs && oqp oq qs ps.toList && trip3 qs ps.toList z)
 | .store t y z,.st n x x'=>F.sz t n && oq x y && oq x' z
 | .call { callee:=.builtin .append,args:=⟨[y,z]⟩,argTypes:=⟨[T,T']⟩ },.ap t zz b x x'=>Nat.beq T T' && F.ap T t zz b && oq x y && oq x' z
 | .makeMap t none,.mkm k=>true
 | .mapUpdate T y z u,.mu k x x' x''=>F.mp T k && oq x y && oq x' z && oq x'' u
 | .insert T y z u,.mu k x x' x''=>F.mp T k && oq x y && oq x' z && oq x'' u
 | .call { callee:=.builtin .delete,args:=⟨[y,z]⟩,argTypes:=⟨T::_⟩ },.del k x x'=>F.mp T k && oq x y && oq x' z
 | .range T y,.rng x=>F.tk .m T && oq x y
 | .range T y,.rgs x=>F.str T && oq x y
 | .next y true,.nxs x=>oq x y
 | .convert s t y,.cvb e x=>F.toB s t e && oq x y
 | .mapEntry T y z,.men k zz x x'=>F.lk T k zz && oq x y && oq x' z
 | .entryStore T y z u,.mst x x' x''=>oq x y && oq x' z && oq x'' u
 | _,.bad=>true
 | .next y false,.nxt x=>oq x y
 | .entry y,.ent x=>oq x y
 | _,_=>false
section
variable {P:Program} {w W0:World} {rv:Operand→Value} {g:G} {me me':T Ob} {R:List Thing} {nx nx':Pos} {v:SV} {F:FT} {lk:LK} {oq:O→Operand→Bool} {d:Option Tmp} {ty:TypeId} {pos:String} {af:Array Edge} {gd:Option (Nat × Bool)}
theorem r1_some {x:Option SV} {k:SV→R3} (h:r1 x k=.ok v me' nx'):∃ u,x=some u∧k u=.ok v me' nx':=by
 cases x with
 | none=>cases h
 | some u=>exact ⟨u,rfl,h⟩
theorem toArr {α:Type} (a:Array α):a=a.toList.toArray:=by simp
theorem eff_sound (hs:Std rv) (hF:F.Ok P W0) (hq:∀ x y v,oq x y=true→lk x=some v→den g v=some (rv y)) (hf:g.fresh nx) (hm:Sts W0 w (mem g me++R)) {op:Op} {o:E} (hc:chkE F oq op o=true) (h:eff lk me nx o=.ok v me' nx') :
  ∃ g' x w',After P W0 g nx R w rv ⟨d,op,ty,pos,af,gd⟩ v me' nx' g' x w':=by
 unfold chkE at hc
 split at hc
 ·rename_i t t' z
  simp only [Bool.and_eq_true] at hc
  have:=Nat.eq_of_beq_eq_true hc.1; subst this
  obtain ⟨zs,h1,h2⟩:=hF.al _ _ hc.2
  have h':R3.ok (.p nx 0) (T.put nx (some (.c t z)) me) (Pos.succ nx)=R3.ok v me' nx':=h
  injection h' with a1 a2 a3; subst a1; subst a2; subst a3
  exact e_al hs h1 (h2 g) hf hm
 ·rename_i t y t' x
  simp only [Bool.and_eq_true] at hc
  have:=Nat.eq_of_beq_eq_true hc.1; subst this
  obtain ⟨u,h1,h⟩:=r1_some h
  have h':Option.rec (motive:=fun _=>R3) .no (fun cs=>.ok (.p nx 0) (T.put nx (some (.c t cs)) me) (Pos.succ nx)) (cells u)=R3.ok v me' nx':=h
  cases hcs:cells u with
  | none=>rw [hcs] at h'; cases h'
  | some cs =>
   rw [hcs] at h'
   injection h' with a1 a2 a3; subst a1; subst a2; subst a3
   exact e_box hs (hq _ _ _ hc.2 h1) hcs hf hm
 ·rename_i T m ps t z n zs qs
  simp only [Bool.and_eq_true] at hc
  have:=Nat.eq_of_beq_eq_true hc.1; subst this
  have h':Option.rec (motive:=fun _=>R3) .no (fun l=>.ok (.sr nx m) (EV.T.put nx (some (.r t z l)) me) (Pos.succ nx)) (fill lk qs zs)=R3.ok v me' nx':=h
  cases hl:fill lk qs zs with
  | none=>rw [hl] at h'; cases h'
  | some l =>
   rw [hl] at h'
   injection h' with a1 a2 a3; subst a1; subst a2; subst a3
   cases m with
   | zero =>
    have hc2:=hc.2
    simp only [Bool.and_eq_true] at hc2
    obtain ⟨⟨⟨c1,c2⟩,c3⟩,c4⟩:=hc2
    obtain ⟨k1,k2⟩:=hF.bs0 _ _ _ c1
    have e1:zs=[]:=by simpa using c2
    have e2:qs=[]:=by simpa using c3
    have e3:ps=#[]:=by simpa using c4
    subst e1; subst e2; subst e3
    have hl':some ([]:List SV)=some l:=hl
    injection hl' with hl'; subst hl'
    exact e_bsl0 hs k1 k2 hf hm
   | succ m =>
    have hc2:=hc.2
    simp only [Bool.and_eq_true] at hc2
    obtain ⟨⟨c1,c2⟩,c3⟩:=hc2
    obtain ⟨zero,k1,k2,k3,k4,k5⟩:=hF.bs _ _ _ _ _ c1
    have:=e_bsl (d:=d) (ty:=ty) (pos:=pos) (af:=af) (gd:=gd) hs hq k1 k2 k3 (k4 g) k5 (parts3 c2 c3) hl hf hm
    rw [← toArr] at this
    exact this
 ·simp only [Bool.and_eq_true] at hc
  obtain ⟨u,h1,h⟩:=r1_some h
  obtain ⟨u',h2,h⟩:=r1_some h
  exact e_st hs (hF.sz _ _ hc.1.1) (hq _ _ _ hc.1.2 h1) (hq _ _ _ hc.2 h2) hf hm h
 ·simp only [Bool.and_eq_true] at hc
  have:=Nat.eq_of_beq_eq_true hc.1.1.1; subst this
  obtain ⟨u,h1,h⟩:=r1_some h
  obtain ⟨u',h2,h⟩:=r1_some h
  obtain ⟨zv,k1⟩:=hF.ap _ _ _ _ hc.1.1.2
  exact e_ap hs k1 (hq _ _ _ hc.1.2 h1) (hq _ _ _ hc.2 h2) hf hm h
 ·rename_i t k
  have h':R3.ok (.m nx) (T.put nx (some (.m k [])) me) (Pos.succ nx)=R3.ok v me' nx':=h
  injection h' with a1 a2 a3; subst a1; subst a2; subst a3
  exact e_mkm hs hf hm
 ·simp only [Bool.and_eq_true] at hc
  obtain ⟨u,h1,h⟩:=r1_some h
  obtain ⟨u',h2,h⟩:=r1_some h
  obtain ⟨u'',h3,h⟩:=r1_some h
  obtain ⟨K,E,k1,k2⟩:=hF.mp _ _ hc.1.1.1
  exact e_mu hs k1 k2 (hq _ _ _ hc.1.1.2 h1) (hq _ _ _ hc.1.2 h2) (hq _ _ _ hc.2 h3) hf hm h
 ·simp only [Bool.and_eq_true] at hc
  obtain ⟨u,h1,h⟩:=r1_some h
  obtain ⟨u',h2,h⟩:=r1_some h
  obtain ⟨u'',h3,h⟩:=r1_some h
  obtain ⟨K,E,k1,k2⟩:=hF.mp _ _ hc.1.1.1
  obtain ⟨g',x,w',a⟩:=e_mu (d:=d) (ty:=ty) (pos:=pos) (af:=af) (gd:=gd) hs k1 k2 (hq _ _ _ hc.1.1.2 h1) (hq _ _ _ hc.1.2 h2) (hq _ _ _ hc.2 h3) hf hm h
  exact ⟨g',x,w',a.ext,a.fresh,a.le,a.den,a.sts,a.run⟩
 ·simp only [Bool.and_eq_true] at hc
  obtain ⟨u,h1,h⟩:=r1_some h
  obtain ⟨u',h2,h⟩:=r1_some h
  obtain ⟨K,E,k1,k2⟩:=hF.mp _ _ hc.1.1
  exact e_del hs k1 k2 (by simp) (hq _ _ _ hc.1.2 h1) (hq _ _ _ hc.2 h2) hf hm h
 ·simp only [Bool.and_eq_true] at hc
  obtain ⟨u,h1,h⟩:=r1_some h
  obtain ⟨td,k1,k2,k3⟩:=hF.tk _ _ hc.1
  cases td <;> simp only [tkOk,Bool.false_eq_true] at k2
  exact e_rng hs k1 (hq _ _ _ hc.2 h1) hf hm h
 ·simp only [Bool.and_eq_true] at hc
  obtain ⟨u,h1,h⟩:=r1_some h
  exact e_rgs hs (hF.str _ hc.1) (hq _ _ _ hc.2 h1) hf hm h
 ·obtain ⟨u,h1,h⟩:=r1_some h
  exact e_nxs hs (hq _ _ _ hc h1) hf hm h
 ·simp only [Bool.and_eq_true] at hc
  obtain ⟨u,h1,h⟩:=r1_some h
  obtain ⟨k1,k2,k3⟩:=hF.toB _ _ _ hc.1
  exact e_cvb hs k1 k2 k3 (hq _ _ _ hc.2 h1) hf hm h
 ·simp only [Bool.and_eq_true] at hc
  obtain ⟨u,h1,h⟩:=r1_some h
  obtain ⟨u',h2,h⟩:=r1_some h
  obtain ⟨K,E,zv,k1,k2,k3,k4⟩:=hF.lk _ _ _ hc.1.1
  exact e_men hs k1 k2 k3 (k4 g) (hq _ _ _ hc.1.2 h1) (hq _ _ _ hc.2 h2) hf hm h
 ·simp only [Bool.and_eq_true] at hc
  obtain ⟨u,h1,h⟩:=r1_some h
  obtain ⟨u',h2,h⟩:=r1_some h
  obtain ⟨u'',h3,h⟩:=r1_some h
  exact e_mst hs (hq _ _ _ hc.1.1 h1) (hq _ _ _ hc.1.2 h2) (hq _ _ _ hc.2 h3) hf hm h
 ·cases h
 ·obtain ⟨u,h1,h⟩:=r1_some h
  exact e_nxt hs (hq _ _ _ hc h1) hf hm h
 ·obtain ⟨u,h1,h⟩:=r1_some h
  exact e_ent hs (hq _ _ _ hc h1) hf hm h
 ·cases hc
end
theorem chkE_bsl {F:FT} {oq:O→Operand→Bool} {op:Op} {t z n:Nat} {zs:List SV} {qs:List (Nat × Nat × O)} (h0:Nat.blt 0 n=true) (h:chkE F oq op (.bsl t z n zs qs)=true) :
  ∃ T ps,op=.buildSlice T n ps∧F.bs T t z n zs=true∧oqp oq qs ps.toList=true∧trip3 qs ps.toList z=true:=by
 cases n with
 | zero=>cases h0
 | succ n =>
  generalize he:E.bsl t z (n + 1) zs qs=e at h
  unfold chkE at h
  split at h
  case h_3 =>
   injection he with e1 e2 e3 e4 e5; subst e1; subst e2; subst e3; subst e4; subst e5
   simp only [Bool.and_eq_true] at h
   have:=Nat.eq_of_beq_eq_true h.1; subst this
   exact ⟨_,_,rfl,h.2.1.1,h.2.1.2,h.2.2⟩
  all_goals first | (cases h; done) | (cases he; done)
def wrongV (x:Value):Value:=.iface 243 (.agg #[x])
def chain (x:Value):List PanicEntry:=[{ v:=wrongV x,recovered:=false }]
def SndF (P:Program) (W0:World) (cl:CL):Prop :=
 (∀ f vs me nx v me' nx',cl f vs me nx=.ret v me' nx'→∀ (W:World) (R:List Thing) (g:G) (xs:List Value),g.fresh nx→dens (den g) vs=some xs→Sts W0 W (mem g me++R) →
  Calls P (f.nat - 1) xs.toArray W fun e w'=>∃ g' x,e=.returned x∧g.ext g' nx∧g'.fresh nx'∧nx.nat≤nx'.nat∧den g' v=some x∧Sts W0 w' (mem g' me'++R)) ∧
 (∀ f vs me nx v me' nx',cl f vs me nx=.pan v me' nx'→∀ (W:World) (R:List Thing) (g:G) (xs:List Value),g.fresh nx→dens (den g) vs=some xs→Sts W0 W (mem g me++R) →
  Calls P (f.nat - 1) xs.toArray W fun e w'=>∃ g' x,e=.panicked (chain x)∧g.ext g' nx∧g'.fresh nx'∧nx.nat≤nx'.nat∧den g' v=some x∧Sts W0 w' (mem g' me'++R)) ∧
 (∀ f vs me nx,cl f vs me nx≠.no→Enters P (f.nat - 1))
def dfr (x:Value):Deferred:={ target:=.fn (.func 55) #[],args:=#[x] }
def Dfs (g:G):List SV→List Deferred→Prop
 | [],ds=>ds=[]
 | v::vs,ds=>∃ x r,ds=dfr x::r∧den g v=some x∧Dfs g vs r
theorem Dfs.mono {g g':G} (h:g.le g'):∀ {vs:List SV} {ds:List Deferred},Dfs g vs ds→Dfs g' vs ds
 | [],_,k=>k
 | v::vs,ds,⟨x,r,h1,h2,h3⟩=>⟨x,r,h1,den_mono h v x h2,Dfs.mono h h3⟩
def chkO (F:FT) (oq:O→Operand→Bool) (o:Oper):CO→Bool
 | .v _ v _=>o.dst.isSome && chkV F oq o.op v
 | .e _ e=>chkE F oq o.op e
 | .c _ f xs=>match o.op with
  | .call { callee:=.value (.func f'),args,.. }=>Nat.beq f.nat (f' + 1) && oqs oq xs args.toList
  | _=>false
 | .cv _ x xs=>match o.op with
  | .call { callee:=.value (.tmp y),args,.. }=>oq x (.tmp y) && oqs oq xs args.toList
  | _=>false
 | .df x=>match o.op with
  | .defer { callee:=.value (.func 55),args:=⟨[y]⟩,.. }=>oq x y && o.dst.isNone && o.guard.isNone
  | _=>false
 | .fl t z=>match o.op with
  | .alloc t'=>Nat.beq t t' && F.al t z && o.guard.isNone
  | _=>false
 | .fb _ t z n zs qs=>Nat.blt 0 n && chkE F oq o.op (.bsl t z n zs qs)
def wp1 (P:Program) (ops:Array Oper) (o:Oper) (K:Act→World→Prop) (Q:Exit→Act→World→Prop) (a:Act) (w:World):Prop :=
 if Region.wanted o (yielded ops a.tmps) then o.wp P a w K Q∨(o.asks P a w∧LetsOut Q) else K (a.put o.dst undef) w
section
variable {P:Program} {w W0:World} {a:Act} {g:G} {me me':T Ob} {R:List Thing} {nx nx':Pos} {v:SV} {F:FT} {lk:LK} {oq:O→Operand→Bool} {ops:Array Oper} {o:Oper} {c:CO} {dl dl':List SV} {cl:CL} {K:Act→World→Prop} {Q:Exit→Act→World→Prop}
theorem std_eval (a:Act):Std a.eval:=⟨fun v=>rfl,fun b=>rfl,fun f=>rfl⟩
theorem wp1_on (hw:Region.wanted o (yielded ops a.tmps)=true) (h:o.wp P a w K Q):wp1 P ops o K Q a w:=by unfold wp1; rw [if_pos hw]; exact .inl h
theorem wp1_off (hw:Region.wanted o (yielded ops a.tmps)=false) (h:K (a.put o.dst undef) w):wp1 P ops o K Q a w:=by unfold wp1; rw [if_neg (by rw [hw]; simp)]; exact h
theorem wp_val {x:Value} {w':World} (hr:(execOp a.eval o).run P w=.ok (.value x) w') (h:K (a.put o.dst x) w'):o.wp P a w K Q:=by unfold Oper.wp; rw [hr]; exact h
theorem wp_skp {w':World} (hr:(execOp a.eval o).run P w=.ok .skip w') (h:K (a.put o.dst undef) w'):o.wp P a w K Q:=by unfold Oper.wp; rw [hr]; exact h
theorem wp_Ye {x:Value} {w':World} (hr:Ye P w a.eval o x w') (h:K (a.put o.dst x) w'):o.wp P a w K Q:=by
 rcases hr with hr | ⟨hr,rfl⟩
 ·exact wp_val hr h
 ·exact wp_skp hr h
structure Sees (P:Program) (g:G) (lk:LK) (oq:O→Operand→Bool) (ops:Array Oper) (o:Oper) (c:CO) (a:Act):Prop where
 op:∀ x y v,oq x y=true→lk x=some v→den g v=some (a.eval y)
 gd:∀ b,gd lk (grd c)=some b→Region.wanted o (yielded ops a.tmps)=b
theorem step1_case {P':R1→Prop} {r:R1} (h:step1 cl lk me nx dl c=r) (hr:r≠.no):(∃ b,gd lk (grd c)=some b∧(bif b then run1 cl lk me nx dl c else offR c me nx dl)=r):=by
 unfold step1 at h
 cases hg:gd lk (grd c) with
 | none=>rw [hg] at h; exact (hr h.symm).elim
 | some b=>rw [hg] at h; exact ⟨b,rfl,h⟩
theorem enter_direct {f:Nat} {xs:List Operand} {tys:Array TypeId} {d:Option Tmp} {ty:TypeId} {ps:String} {af:Array Edge} {gd:Option (Nat × Bool)} (he:Enters P f):(execOp a.eval ⟨d,.call { callee:=.value (.func f),args:=xs.toArray,argTypes:=tys },ty,ps,af,gd⟩).run P w=.ok (.enter f (xs.map a.eval).toArray) w:=by
 have hx:evs (knf a.eval xs) xs=some (xs.map a.eval):=by
  have:∀ (l:List Operand),(∀ q∈l,q∈xs)→evs (knf a.eval xs) l=some (l.map a.eval):=by
   intro l
   induction l with
   | nil=>intro _; rfl
   | cons q r ih=>intro hall; simp only [evs,knf_mem (std_eval a) (hall q (by simp)),ih (fun q hq=>hall q (by simp [hq])),List.map_cons]
  exact this xs (fun q hq=>hq)
 exact EC.direct (kn:=knf a.eval xs) he hx a.eval w (knf_ev (std_eval a) xs)
theorem enter_closure {f t:Nat} {us cs:Array Value} {xs:List Operand} {tys:Array TypeId} {d:Option Tmp} {ty:TypeId} {ps:String} {af:Array Edge} {gd:Option (Nat × Bool)} (he:Enters P f) (ht:a.eval (.tmp t)=.func (.func f) us cs):(execOp a.eval ⟨d,.call { callee:=.value (.tmp t),args:=xs.toArray,argTypes:=tys },ty,ps,af,gd⟩).run P w=.ok (.enter f (us.toList++xs.map a.eval++cs.toList).toArray) w:=by
 have hx:evs (knf a.eval (.tmp t::xs)) xs=some (xs.map a.eval):=by
  have:∀ (l:List Operand),(∀ q∈l,q∈xs)→evs (knf a.eval (.tmp t::xs)) l=some (l.map a.eval):=by
   intro l
   induction l with
   | nil=>intro _; rfl
   | cons q r ih=>intro hall; simp only [evs,knf_mem (ys:=.tmp t::xs) (std_eval a) (List.mem_cons_of_mem _ (hall q (by simp))),ih (fun q hq=>hall q (by simp [hq])),List.map_cons]
  exact this xs (fun q hq=>hq)
 have hl:Proofs.YtadggjnohohedaaGreatDoor.lk (knf a.eval (.tmp t::xs)) t=some (.func (.func f) us cs):=by simp [knf,Proofs.YtadggjnohohedaaGreatDoor.lk,ht]
 exact EC.closure (kn:=knf a.eval (.tmp t::xs)) hl he hx a.eval w (knf_ev (std_eval a) _)
theorem den_f {p:Pos} {us cs:List SV} {x:Value} (h:den g (.f p us cs)=some x):∃ us' cs',dens (den g) us=some us'∧dens (den g) cs=some cs'∧x=.func (.func (p.nat - 1)) us'.toArray cs'.toArray:=by
 simp only [den,den2,den1] at h
 cases h1:dens (den0 g) us with
 | none=>simp [h1] at h
 | some us'=>cases h2:dens (den0 g) cs with
  | none=>simp [h1,h2] at h
  | some cs' =>
   simp [h1,h2] at h
   exact ⟨us',cs',dens_mono (fun x v e=>den0_3 e) h1,dens_mono (fun x v e=>den0_3 e) h2,h.symm⟩
theorem call_upon {f:FuncId} {xs:List Value} {vs:List SV} {fp:Pos} (hcl:SndF P W0 cl) (hf:g.fresh nx) (hm:Sts W0 w (mem g me++R)) (hfp:fp.nat - 1=f) (hd:dens (den g) vs=some xs) (hr:(execOp a.eval o).run P w=.ok (.enter f xs.toArray) w)
  (hcs:call cl fp vs me nx dl=.ok v me' nx' dl') (hK:∀ g' x w',g.ext g' nx→g'.fresh nx'→nx.nat≤nx'.nat→den g' v=some x→dl'=dl→Sts W0 w' (mem g' me'++R)→K (a.put o.dst x) w'):o.wp P a w K Q:=by
 unfold Oper.wp; rw [hr]
 unfold call at hcs
 cases hc:cl fp vs me nx with
 | no=>rw [hc] at hcs; cases hcs
 | pan e m n=>rw [hc] at hcs; cases hcs
 | ret e m n =>
  rw [hc] at hcs
  injection hcs with h1 h2 h3 h4; subst h1; subst h2; subst h3
  have:=hcl.1 _ _ _ _ _ _ _ hc w R g xs hf hd hm
  rw [hfp] at this
  refine this.mono ?_
  rintro e w' ⟨g',x,rfl,k1,k2,k3,k4,k5⟩
  exact hK g' x w' k1 k2 k3 k4 h4.symm k5
theorem call_upon_pan {f:FuncId} {xs:List Value} {vs:List SV} {fp:Pos} (hcl:SndF P W0 cl) (hf:g.fresh nx) (hm:Sts W0 w (mem g me++R)) (hfp:fp.nat - 1=f) (hd:dens (den g) vs=some xs) (hr:(execOp a.eval o).run P w=.ok (.enter f xs.toArray) w)
  (hcs:call cl fp vs me nx dl=.pan v me' nx' dl') (hQ:∀ g' x w',g.ext g' nx→g'.fresh nx'→nx.nat≤nx'.nat→den g' v=some x→dl'=dl→Sts W0 w' (mem g' me'++R)→Q (.panic (chain x)) a w'):o.wp P a w K Q:=by
 unfold Oper.wp; rw [hr]
 unfold call at hcs
 cases hc:cl fp vs me nx with
 | no=>rw [hc] at hcs; cases hcs
 | ret e m n=>rw [hc] at hcs; cases hcs
 | pan e m n =>
  rw [hc] at hcs
  injection hcs with h1 h2 h3 h4; subst h1; subst h2; subst h3
  have:=hcl.2.1 _ _ _ _ _ _ _ hc w R g xs hf hd hm
  rw [hfp] at this
  refine this.mono ?_
  rintro e w' ⟨g',x,rfl,k1,k2,k3,k4,k5⟩
  exact hQ g' x w' k1 k2 k3 k4 h4.symm k5
theorem call_enters {f:Pos} {vs:List SV} {r:R1} (hcl:SndF P W0 cl) (hc:call cl f vs me nx dl=r) (hr:r≠.no):Enters P (f.nat - 1):=by
 refine hcl.2.2 f vs me nx (fun e=>?_)
 unfold call at hc
 rw [e] at hc
 exact hr hc.symm
theorem ons_some {β:Type} {xs:List O} {k:List SV→R1} {r:R1} (h:Option.rec (motive:=fun _=>R1) .no k (ons lk xs)=r) (hr:r≠.no):∃ vs,ons lk xs=some vs∧k vs=r:=by
 cases hx:ons lk xs with
 | none=>rw [hx] at h; exact (hr h.symm).elim
 | some vs=>rw [hx] at h; exact ⟨vs,rfl,h⟩
theorem off_ok (h:offR c me nx dl=.ok v me' nx' dl'):R1.ok und me nx dl=.ok v me' nx' dl':=by
 unfold offR at h
 cases hb:isFb c with
 | true=>rw [hb] at h; cases h
 | false=>rw [hb] at h; exact h
theorem off_pan (h:offR c me nx dl=.pan v me' nx' dl'):False:=by
 unfold offR at h
 cases hb:isFb c with
 | true=>rw [hb] at h; cases h
 | false=>rw [hb] at h; cases h
theorem run_fb {g:Option (O × Bool)} {t z n:Nat} {zs:List SV} {ps:List (Nat × Nat × O)} (h:run1 cl lk me nx dl (.fb g t z n zs ps)=.ok v me' nx' dl') :
  ∃ l,fill lk ps zs=some l∧ints l=true∧v=.sr nx n∧me'=T.put nx (some (.r t z l)) me∧nx'=nx.succ∧dl'=dl:=by
 have hr':Option.rec (motive:=fun _=>R1) .no (fun l=>bif ints l then .ok (.sr nx n) (T.put nx (some (.r t z l)) me) (Pos.succ nx) dl else .no) (fill lk ps zs)=R1.ok v me' nx' dl':=h
 cases hl:fill lk ps zs with
 | none=>rw [hl] at hr'; cases hr'
 | some l =>
  rw [hl] at hr'
  dsimp only at hr'
  cases hi:ints l with
  | false=>rw [hi] at hr'; cases hr'
  | true =>
   rw [hi] at hr'
   injection hr' with h1 h2 h3 h4
   exact ⟨l,rfl,hi,h1.symm,h2.symm,h3.symm,h4.symm⟩
theorem step1_sound (hcl:SndF P W0 cl) (hF:F.Ok P W0) (hS:Sees P g lk oq ops o c a) (hd:Dfs g dl a.defers) (hf:g.fresh nx) (hm:Sts W0 w (mem g me++R)) (hc:chkO F oq o c=true) (h:step1 cl lk me nx dl c=.ok v me' nx' dl')
  (hK:∀ g' x df w',g.ext g' nx→g'.fresh nx'→nx.nat≤nx'.nat→den g' v=some x→Dfs g' dl' df→Sts W0 w' (mem g' me'++R)→K (({ a with defers:=df }:Act).put o.dst x) w'):wp1 P ops o K Q a w:=by
 obtain ⟨b,hb,hr⟩:=step1_case (P':=fun _=>True) h (by intro e; cases e)
 have hw:=hS.gd b hb
 cases b with
 | false =>
  simp only [cond_false] at hr
  injection off_ok hr with h1 h2 h3 h4; subst h1; subst h2; subst h3; subst h4
  exact wp1_off hw (hK g undef a.defers w (G.ext.refl _ _) hf (Nat.le_refl _) rfl hd hm)
 | true =>
  simp only [cond_true] at hr
  refine wp1_on hw ?_
  obtain ⟨dst,op,ty,pos,af,gdo⟩:=o
  cases c with
  | v g0 o0 b0 =>
   simp only [chkO,Bool.and_eq_true] at hc
   have hr':Option.rec (motive:=fun _=>R1) .no (fun v=>.ok v me nx dl) (val lk me o0)=R1.ok v me' nx' dl':=hr
   cases hv:val lk me o0 with
   | none=>rw [hv] at hr'; cases hr'
   | some u =>
    rw [hv] at hr'
    injection hr' with h1 h2 h3 h4; subst h1; subst h2; subst h3; subst h4
    obtain ⟨x,k1,k2⟩:=val_sound (std_eval a) hF hS.op hm hc.2 hv
    exact wp_val (k2 _ _ _ _ _) (hK g x a.defers w (G.ext.refl _ _) hf (Nat.le_refl _) k1 hd hm)
  | e g0 o0 =>
   simp only [chkO] at hc
   have hr':R3.rec (motive:=fun _=>R1) .no (fun v me nx=>.ok v me nx dl) (eff lk me nx o0)=R1.ok v me' nx' dl':=hr
   cases hv:eff lk me nx o0 with
   | no=>rw [hv] at hr'; cases hr'
   | ok u m n =>
    rw [hv] at hr'
    injection hr' with h1 h2 h3 h4; subst h1; subst h2; subst h3; subst h4
    obtain ⟨g',x,w',A⟩:=eff_sound (d:=dst) (ty:=ty) (pos:=pos) (af:=af) (gd:=gdo) (std_eval a) hF hS.op hf hm hc hv
    exact wp_Ye A.run (hK g' x a.defers w' A.ext A.fresh A.le A.den (hd.mono (A.ext.le hf)) A.sts)
  | c g0 f xs =>
   simp only [chkO] at hc
   split at hc
   ·rename_i op0 f' args tys
    simp only [Bool.and_eq_true] at hc
    obtain ⟨vs,hvs,hcall⟩:=ons_some (β:=Unit) hr (by intro e; cases e)
    have hfn:=Nat.eq_of_beq_eq_true hc.1
    have hen:=call_enters hcl hcall (by intro e; cases e)
    rw [show f.nat - 1=f' by omega] at hen
    have he:=enter_direct (a:=a) (w:=w) (xs:=args.toList) (tys:=tys) (d:=dst) (ty:=ty) (ps:=pos) (af:=af) (gd:=gdo) hen
    rw [← toArr] at he
    refine call_upon hcl hf hm (by omega) (ons_den hS.op hc.2 hvs) he hcall (fun g' x w' k1 k2 k3 k4 k5 k6=>?_)
    subst k5
    exact hK g' x a.defers w' k1 k2 k3 k4 (hd.mono (k1.le hf)) k6
   ·cases hc
  | cv g0 x xs =>
   simp only [chkO] at hc
   split at hc
   ·rename_i op0 y args tys
    simp only [Bool.and_eq_true] at hc
    have hr':Option.rec (motive:=fun _=>R1) .no (fun f=>match (generalizing:=false) f with
     | .f f us cs=>Option.rec (motive:=fun _=>R1) .no (fun vs=>call cl f (app us (app vs cs)) me nx dl) (ons lk xs)
     | _=>.no) (lk x)=R1.ok v me' nx' dl':=hr
    cases hx:lk x with
    | none=>rw [hx] at hr'; cases hr'
    | some fv =>
     rw [hx] at hr'
     cases fv with
     | f fp us cs =>
      dsimp only at hr'
      obtain ⟨vs,hvs,hcall⟩:=ons_some (β:=Unit) hr' (by intro e; cases e)
      have hdf:=hS.op _ _ _ hc.1 hx
      obtain ⟨us',cs',d1,d2,d3⟩:=den_f hdf
      have hen:=call_enters hcl hcall (by intro e; cases e)
      have he:=enter_closure (a:=a) (w:=w) (xs:=args.toList) (tys:=tys) (d:=dst) (ty:=ty) (ps:=pos) (af:=af) (gd:=gdo) hen d3
      rw [← toArr] at he
      refine call_upon hcl hf hm rfl (by rw [app_eq,app_eq,← List.append_assoc]; exact dens_app (dens_app d1 (ons_den hS.op hc.2 hvs)) d2) (by simpa using he) hcall (fun g' x w' k1 k2 k3 k4 k5 k6=>?_)
      subst k5
      exact hK g' x a.defers w' k1 k2 k3 k4 (hd.mono (k1.le hf)) k6
     | _=>cases hr'
   ·cases hc
  | df x =>
   simp only [chkO] at hc
   split at hc
   ·rename_i op0 y tys
    simp only [Bool.and_eq_true] at hc
    have hr':Option.rec (motive:=fun _=>R1) .no (fun v=>.ok und me nx (v::dl)) (lk x)=R1.ok v me' nx' dl':=hr
    cases hx:lk x with
    | none=>rw [hx] at hr'; cases hr'
    | some u =>
     rw [hx] at hr'
     injection hr' with h1 h2 h3 h4; subst h1; subst h2; subst h3; subst h4
     have hdx:=hS.op _ _ _ hc.1.1 hx
     have hrun:(execOp a.eval (⟨dst,.defer { callee:=.value (.func 55),args:=⟨[y]⟩,argTypes:=tys },ty,pos,af,gdo⟩:Oper)).run P w=.ok (.defer (dfr (a.eval y))) w:=by
      simp [execOp,resolve,Deferred.ofValue,Act.eval,dfr]
     unfold Oper.wp
     rw [hrun]
     exact hK g undef (dfr (a.eval y)::a.defers) w (G.ext.refl _ _) hf (Nat.le_refl _) rfl ⟨_,_,rfl,hdx,hd⟩ hm
   ·cases hc
  | fl t z =>
   simp only [chkO] at hc
   split at hc
   ·rename_i op0 t'
    simp only [Bool.and_eq_true] at hc
    have:=Nat.eq_of_beq_eq_true hc.1.1; subst this
    have hr':R1.ok (.p nx 0) (T.put nx (some (.c t z)) me) (Pos.succ nx) dl=R1.ok v me' nx' dl':=hr
    injection hr' with h1 h2 h3 h4; subst h1; subst h2; subst h3; subst h4
    obtain ⟨zs,k1,k2⟩:=hF.al _ _ hc.1.2
    obtain ⟨g',x,w',A⟩:=e_al (d:=dst) (ty:=ty) (pos:=pos) (af:=af) (gd:=gdo) (std_eval a) k1 (k2 g) hf hm
    exact wp_Ye A.run (hK g' x a.defers w' A.ext A.fresh A.le A.den (hd.mono (A.ext.le hf)) A.sts)
   ·cases hc
  | fb g0 t z n zs ps =>
   simp only [chkO,Bool.and_eq_true] at hc
   obtain ⟨l,hl,_,h1,h2,h3,h4⟩:=run_fb hr
   subst h1; subst h2; subst h3; subst h4
   have hv:eff lk me nx (.bsl t z n zs ps)=.ok (.sr nx n) (T.put nx (some (.r t z l)) me) nx.succ:=by
    show Option.rec (motive:=fun _=>R3) .no (fun l=>.ok (.sr nx n) (T.put nx (some (.r t z l)) me) (Pos.succ nx)) (fill lk ps zs)=_
    rw [hl]
   obtain ⟨g',x,w',A⟩:=eff_sound (d:=dst) (ty:=ty) (pos:=pos) (af:=af) (gd:=gdo) (std_eval a) hF hS.op hf hm hc.2 hv
   exact wp_Ye A.run (hK g' x a.defers w' A.ext A.fresh A.le A.den (hd.mono (A.ext.le hf)) A.sts)
theorem step1_panic (hcl:SndF P W0 cl) (hS:Sees P g lk oq ops o c a) (hd:Dfs g dl a.defers) (hf:g.fresh nx) (hm:Sts W0 w (mem g me++R)) (hc:chkO F oq o c=true) (h:step1 cl lk me nx dl c=.pan v me' nx' dl')
  (hQ:∀ g' x w',g.ext g' nx→g'.fresh nx'→nx.nat≤nx'.nat→den g' v=some x→Dfs g' dl' a.defers→Sts W0 w' (mem g' me'++R)→Q (.panic (chain x)) a w'):wp1 P ops o K Q a w:=by
 obtain ⟨b,hb,hr⟩:=step1_case (P':=fun _=>True) h (by intro e; cases e)
 have hw:=hS.gd b hb
 cases b with
 | false=>simp only [cond_false] at hr; exact (off_pan hr).elim
 | true =>
  simp only [cond_true] at hr
  refine wp1_on hw ?_
  obtain ⟨dst,op,ty,pos,af,gdo⟩:=o
  cases c with
  | v g0 o0 b0 =>
   have hr':Option.rec (motive:=fun _=>R1) .no (fun v=>.ok v me nx dl) (val lk me o0)=R1.pan v me' nx' dl':=hr
   cases hv:val lk me o0 with
   | none=>rw [hv] at hr'; cases hr'
   | some u=>rw [hv] at hr'; cases hr'
  | e g0 o0 =>
   have hr':R3.rec (motive:=fun _=>R1) .no (fun v me nx=>.ok v me nx dl) (eff lk me nx o0)=R1.pan v me' nx' dl':=hr
   cases hv:eff lk me nx o0 with
   | no=>rw [hv] at hr'; cases hr'
   | ok u m n=>rw [hv] at hr'; cases hr'
  | c g0 f xs =>
   simp only [chkO] at hc
   split at hc
   ·rename_i op0 f' args tys
    simp only [Bool.and_eq_true] at hc
    obtain ⟨vs,hvs,hcall⟩:=ons_some (β:=Unit) hr (by intro e; cases e)
    have hfn:=Nat.eq_of_beq_eq_true hc.1
    have hen:=call_enters hcl hcall (by intro e; cases e)
    rw [show f.nat - 1=f' by omega] at hen
    have he:=enter_direct (a:=a) (w:=w) (xs:=args.toList) (tys:=tys) (d:=dst) (ty:=ty) (ps:=pos) (af:=af) (gd:=gdo) hen
    rw [← toArr] at he
    refine call_upon_pan hcl hf hm (by omega) (ons_den hS.op hc.2 hvs) he hcall (fun g' x w' k1 k2 k3 k4 k5 k6=>?_)
    subst k5
    exact hQ g' x w' k1 k2 k3 k4 (hd.mono (k1.le hf)) k6
   ·cases hc
  | cv g0 x xs =>
   simp only [chkO] at hc
   split at hc
   ·rename_i op0 y args tys
    simp only [Bool.and_eq_true] at hc
    have hr':Option.rec (motive:=fun _=>R1) .no (fun f=>match (generalizing:=false) f with
     | .f f us cs=>Option.rec (motive:=fun _=>R1) .no (fun vs=>call cl f (app us (app vs cs)) me nx dl) (ons lk xs)
     | _=>.no) (lk x)=R1.pan v me' nx' dl':=hr
    cases hx:lk x with
    | none=>rw [hx] at hr'; cases hr'
    | some fv =>
     rw [hx] at hr'
     cases fv with
     | f fp us cs =>
      dsimp only at hr'
      obtain ⟨vs,hvs,hcall⟩:=ons_some (β:=Unit) hr' (by intro e; cases e)
      have hdf:=hS.op _ _ _ hc.1 hx
      obtain ⟨us',cs',d1,d2,d3⟩:=den_f hdf
      have hen:=call_enters hcl hcall (by intro e; cases e)
      have he:=enter_closure (a:=a) (w:=w) (xs:=args.toList) (tys:=tys) (d:=dst) (ty:=ty) (ps:=pos) (af:=af) (gd:=gdo) hen d3
      rw [← toArr] at he
      refine call_upon_pan hcl hf hm rfl (by rw [app_eq,app_eq,← List.append_assoc]; exact dens_app (dens_app d1 (ons_den hS.op hc.2 hvs)) d2) (by simpa using he) hcall (fun g' x w' k1 k2 k3 k4 k5 k6=>?_)
      subst k5
      exact hQ g' x w' k1 k2 k3 k4 (hd.mono (k1.le hf)) k6
     | _=>cases hr'
   ·cases hc
  | df x =>
   have hr':Option.rec (motive:=fun _=>R1) .no (fun v=>.ok und me nx (v::dl)) (lk x)=R1.pan v me' nx' dl':=hr
   cases hx:lk x with
   | none=>rw [hx] at hr'; cases hr'
   | some u=>rw [hx] at hr'; cases hr'
  | fl t z=>cases hr
  | fb g0 t z n zs ps =>
   have hr':Option.rec (motive:=fun _=>R1) .no (fun l=>bif ints l then .ok (.sr nx n) (T.put nx (some (.r t z l)) me) (Pos.succ nx) dl else .no) (fill lk ps zs)=R1.pan v me' nx' dl':=hr
   cases hl:fill lk ps zs with
   | none=>rw [hl] at hr'; cases hr'
   | some l =>
    rw [hl] at hr'; dsimp only at hr'
    cases hi:ints l with
    | false=>rw [hi] at hr'; cases hr'
    | true=>rw [hi] at hr'; cases hr'
end
end
noncomputable section
open Go.RowKit
def valR:List UInt8→Nat→Nat
 | [],v=>v
 | c::r,v=>valR r (v * 256 + c.toNat)
theorem byts_valR:∀ (l:List UInt8) (m v:Nat),byts (m + l.length) (valR l v)=byts m v++l
 | [],m,v=>by simp [valR]
 | c::r,m,v=>by
  have h:=byts_valR r (m + 1) (v * 256 + c.toNat)
  have hc:c.toNat < 256:=c.toNat_lt
  have e1:(v * 256 + c.toNat) / 256=v:=by omega
  have e2:(v * 256 + c.toNat) % 256=c.toNat:=by omega
  have hb:byts (m + 1) (v * 256 + c.toNat)=byts m v++[c]:=by
   simp only [byts,e1,e2]; simp
  rw [hb] at h
  simp only [valR,List.length_cons]
  rw [show m + (r.length + 1)=m + 1 + r.length by omega,h]; simp
theorem valR_lt:∀ (l:List UInt8) (m v:Nat),v < 256 ^ m→valR l v < 256 ^ (m + l.length)
 | [],m,v,h=>by simpa [valR] using h
 | c::r,m,v,h=>by
  have hc:c.toNat < 256:=c.toNat_lt
  have:=valR_lt r (m + 1) (v * 256 + c.toNat) (by rw [Nat.pow_succ]; omega)
  simp only [valR,List.length_cons]
  rw [show m + (r.length + 1)=m + 1 + r.length by omega]; exact this
def cq1:SV→Value→Bool
 | .i k n,.int k' m=>keq k k' && ieq n m
 | .b x,.bool y=>x == y
 | .s n v,.string s=>Nat.beq s.data.toList.length n && Nat.beq (valR s.data.toList 0) v
 | .pn,.pointer none=>true
 | .sn,.slice none 0 0=>true
 | .mn,.map none=>true
 | .fn,.nilFunc=>true
 | .ni,.nilIface=>true
 | _,_=>false
def cqs:List SV→List Value→Bool
 | [],[]=>true
 | x::xs,y::ys=>cq1 x y && cqs xs ys
 | _,_=>false
def cq:SV→Value→Bool
 | .a l,.agg xs=>cqs l xs.toList
 | x,y=>cq1 x y
theorem cq1_den {g:G} {x:SV} {v:Value} (h:cq1 x v=true):den0 g x=some v:=by
 unfold cq1 at h
 split at h
 ·simp only [Bool.and_eq_true] at h
  have e1:=keq_eq h.1
  have e2:=h.2; rw [ieq_eq] at e2
  simp only [decide_eq_true_eq] at e2
  subst e1; subst e2; rfl
 ·simp only [beq_iff_eq] at h; subst h; rfl
 ·rename_i n v s
  simp only [Bool.and_eq_true] at h
  have e1:=Nat.eq_of_beq_eq_true h.1
  have e2:=Nat.eq_of_beq_eq_true h.2
  have h1:=byts_valR s.data.toList 0 0
  have h2:=valR_lt s.data.toList 0 0 (by simp)
  rw [e2] at h1 h2
  rw [Nat.zero_add,e1] at h1 h2
  have h3:byt n v=s:=by
   unfold byt
   rw [h1]
   obtain ⟨⟨l⟩⟩:=s
   rfl
  simp [den0,h2,h3]
 all_goals first | rfl | (cases h; done)
theorem cqs_den {g:G}:∀ {l:List SV} {xs:List Value},cqs l xs=true→dens (den1 g) l=some xs
 | [],[],_=>rfl
 | x::l,y::ys,h=>by
  simp only [cqs,Bool.and_eq_true] at h
  exact dens_mk (den0_1 (cq1_den h.1)) (cqs_den h.2)
 | [],_::_,h=>by cases h
 | _::_,[],h=>by cases h
theorem cq_den {g:G} {x:SV} {v:Value} (h:cq x v=true):den g x=some v:=by
 unfold cq at h
 split at h
 ·rename_i l xs
  rw [den_a' (cqs_den h)]
 ·exact den0_3 (cq1_den h)
def isD (d:Option Nat) (t:Nat):Bool:=match d with
 | some e=>Nat.beq e t
 | none=>false
def findD (t:Nat) (ds:List (Option Nat)) (i:Nat):Option Nat :=
 List.rec (motive:=fun _=>Nat→Option Nat) (fun _=>none) (fun d _ ih i=>bif isD d t then some i else ih (Nat.succ i)) ds i
theorem findD_cons (t:Nat) (d:Option Nat) (ds:List (Option Nat)) (i:Nat):findD t (d::ds) i=bif isD d t then some i else findD t ds (i + 1):=rfl
theorem findD_succ (t:Nat):∀ (ds:List (Option Nat)) (i:Nat),findD t ds (i + 1)=(findD t ds i).map (· + 1)
 | [],i=>rfl
 | d::ds,i=>by
  rw [findD_cons,findD_cons,findD_succ t ds (i + 1)]
  cases isD d t <;> rfl
theorem isD_eq {d:Option Nat} {t:Nat}:isD d t=true↔d=some t:=by
 cases d with
 | none=>simp [isD]
 | some e =>
  simp only [isD,Option.some.injEq]
  exact ⟨Nat.eq_of_beq_eq_true,fun h=>by subst h; exact Nat.beq_refl _⟩
theorem findD_none {t:Nat}:∀ {ds:List (Option Nat)} {i:Nat},findD t ds i=none↔some t∉ds
 | [],i=>by simp [findD]
 | d::ds,i=>by
  rw [findD_cons]
  cases h:isD d t with
  | true=>rw [isD_eq] at h; subst h; simp
  | false =>
   have hn:d≠some t:=fun e=>by rw [isD_eq.2 e] at h; cases h
   simp only [cond_false,findD_none (ds:=ds),List.mem_cons,not_or]
   exact ⟨fun h=>⟨fun e=>hn e.symm,h⟩,fun h=>h.2⟩
def putA (tm:Array Value) (d:Option Nat) (x:Value):Array Value:=match d with
 | some d=>tm.setIfInBounds d x
 | none=>tm
structure Env (g:G) (ds:List (Option Nat)) (env:List SV) (fr:T SV) (tm:Array Value):Prop where
 hit:∀ t i,findD t ds 0=some i→∃ v x,nth env i=some v∧den g v=some x∧tm[t]?=some x
 old:∀ t,findD t ds 0=none→∀ p v,p.nat=t + 1→T.get p fr=some v→∃ x,den g v=some x∧tm[t]?=some x
def Frm (g:G) (fr:T SV) (tm:Array Value):Prop:=∀ p v,T.get p fr=some v→∃ x,den g v=some x∧tm[p.nat - 1]?=some x
section
variable {g g':G} {ds:List (Option Nat)} {env:List SV} {fr fr':T SV} {tm:Array Value} {v:SV} {x:Value} {d:Option Nat}
theorem Env.start (h:Frm g fr tm):Env g [] [] fr tm:=by
 refine ⟨fun t i hi=>(by cases hi),fun t _ p v hp hg=>?_⟩
 obtain ⟨x,h1,h2⟩:=h p v hg
 exact ⟨x,h1,by rw [hp] at h2; simpa using h2⟩
theorem Env.mono (hle:g.le g') (h:Env g ds env fr tm):Env g' ds env fr tm:=by
 refine ⟨fun t i hi=>?_,fun t hi p v hp hg=>?_⟩
 ·obtain ⟨v,x,h1,h2,h3⟩:=h.hit t i hi
  exact ⟨v,x,h1,den_mono hle v x h2,h3⟩
 ·obtain ⟨x,h1,h2⟩:=h.old t hi p v hp hg
  exact ⟨x,den_mono hle v x h1,h2⟩
theorem nth_cons (v:SV) (env:List SV) (i:Nat):nth (v::env) (i + 1)=nth env i:=rfl
theorem Env.put (h:Env g ds env fr tm) (hv:den g v=some x) (hd:∀ e,d=some e→e < tm.size):Env g (d::ds) (v::env) fr (putA tm d x):=by
 refine ⟨fun t i hi=>?_,fun t hi p u hp hg=>?_⟩
 ·rw [findD_cons] at hi
  cases hb:isD d t with
  | true =>
   rw [hb] at hi
   injection hi with hi; subst hi
   rw [isD_eq] at hb; subst hb
   exact ⟨v,x,rfl,hv,by simp [putA,hd t rfl]⟩
  | false =>
   rw [hb] at hi
   simp only [cond_false,findD_succ,Option.map_eq_some_iff] at hi
   obtain ⟨j,hj,rfl⟩:=hi
   obtain ⟨u,y,h1,h2,h3⟩:=h.hit t j hj
   refine ⟨u,y,by rw [nth_cons]; exact h1,h2,?_⟩
   cases d with
   | none=>exact h3
   | some e =>
    have hne:e≠t:=fun e'=>by subst e'; simp [isD] at hb
    simpa [putA,Array.getElem?_setIfInBounds_ne hne] using h3
 ·rw [findD_cons] at hi
  cases hb:isD d t with
  | true=>rw [hb] at hi; cases hi
  | false =>
   rw [hb] at hi
   simp only [cond_false,findD_succ,Option.map_eq_none_iff] at hi
   obtain ⟨y,h1,h2⟩:=h.old t hi p u hp hg
   refine ⟨y,h1,?_⟩
   cases d with
   | none=>exact h2
   | some e =>
    have hne:e≠t:=fun e'=>by subst e'; simp [isD] at hb
    simpa [putA,Array.getElem?_setIfInBounds_ne hne] using h2
end
def oqB (ds:List (Option Nat)):O→Operand→Bool
 | .l i,.tmp t=>(match findD t ds 0 with | some j=>Nat.beq i j | none=>false)
 | .t p,.tmp t=>Nat.beq p.nat (t + 1) && (findD t ds 0).isNone
 | .c (.g b 0),.global b'=>Nat.beq b b'
 | .c (.f p [] []),.func f=>Nat.beq p.nat (f + 1)
 | .c v,.const u=>cq v u
 | _,_=>false
def gqB (L:List Oper) (ds:List (Option Nat)):Option (Nat × Bool)→Option (O × Bool)→Bool
 | none,none=>true
 | some (j,w),some (.l i,w')=>(w == w') && (match (L[j]?).bind (·.dst) with
  | some d=>(match findD d ds 0 with | some k=>Nat.beq i k | none=>false)
  | none=>false)
 | _,_=>false
section
variable {P:Program} {g:G} {ds:List (Option Nat)} {env:List SV} {fr:T SV} {a:Act} {ops:Array Oper} {o:Oper} {c:CO} {F:FT}
theorem oqB_sound (h:Env g ds env fr a.tmps) {x:O} {y:Operand} {v:SV} (hq:oqB ds x y=true) (hv:on fr env x=some v):den g v=some (a.eval y):=by
 unfold oqB at hq
 split at hq
 ·rename_i i t
  split at hq
  ·rename_i j hj
   have:=Nat.eq_of_beq_eq_true hq; subst this
   obtain ⟨u,x,h1,h2,h3⟩:=h.hit t i hj
   have hv':nth env i=some v:=hv
   rw [h1] at hv'; injection hv' with hv'; subst hv'
   rw [h2]; simp [Act.eval,Array.getD_eq_getD_getElem?,h3]
  ·cases hq
 ·rename_i p t
  simp only [Bool.and_eq_true] at hq
  have hv':T.get p fr=some v:=hv
  obtain ⟨x,h1,h2⟩:=h.old t (by simpa using hq.2) p v (Nat.eq_of_beq_eq_true hq.1) hv'
  rw [h1]; simp [Act.eval,Array.getD_eq_getD_getElem?,h2]
 ·have:=Nat.eq_of_beq_eq_true hq; subst this
  have hv':some (SV.g _ 0)=some v:=hv
  injection hv' with hv'; subst hv'; rfl
 ·rename_i p f
  have e:=Nat.eq_of_beq_eq_true hq
  have hv':some (SV.f p [] [])=some v:=hv
  injection hv' with hv'; subst hv'
  simp [den,den2,den1,dens,Act.eval,e]
 ·rename_i _ _ w u
  have hv':some w=some v:=hv
  injection hv' with hv'; subst hv'
  exact cq_den hq
 ·cases hq
theorem gqB_sound (h:Env g ds env fr a.tmps) (hq:gqB ops.toList ds o.guard (grd c)=true) {b:Bool} (hb:gd (on fr env) (grd c)=some b):Region.wanted o (yielded ops a.tmps)=b:=by
 unfold gqB at hq
 split at hq
 ·rename_i h1 h2
  rw [h2] at hb
  injection hb with hb; subst hb
  simp [Region.wanted,h1]
 ·rename_i j w i w' h1 h2
  rw [h2] at hb
  simp only [Bool.and_eq_true,beq_iff_eq] at hq
  obtain ⟨rfl,hq⟩:=hq
  split at hq
  ·rename_i d hd
   split at hq
   ·rename_i k hk
    have:=Nat.eq_of_beq_eq_true hq; subst this
    obtain ⟨u,x,e1,e2,e3⟩:=h.hit d i hk
    have hgd:(match (generalizing:=false) nth env i with
     | some (.b y)=>some (bif w then y else !y)
     | some (.t [])=>some false
     | _=>none)=some b:=hb
    rw [e1] at hgd
    cases u with
    | b y =>
     simp only [Option.some.injEq] at hgd
     have ex:=den_b e2; subst ex
     have hy:yielded ops a.tmps j=some y:=by
      have hd':(ops[j]?).bind (·.dst)=some d:=by simpa using hd
      simp [yielded,hd',e3]
     simp only [Region.wanted,h1,hy]
     subst hgd
     cases w <;> cases y <;> rfl
    | t l =>
     cases l with
     | cons _ _=>cases hgd
     | nil =>
      have ex:x=undef:=(Option.some.inj e2).symm
      subst ex
      have hy:yielded ops a.tmps j=none:=by
       have hd':(ops[j]?).bind (·.dst)=some d:=by simpa using hd
       simp [yielded,hd',e3,undef]
      simp only [Region.wanted,h1,hy]
      injection hgd with hgd
    | _=>cases hgd
   ·cases hq
  ·cases hq
 ·cases hq
theorem sees (h:Env g ds env fr a.tmps) (hq:gqB ops.toList ds o.guard (grd c)=true):Sees P g (on fr env) (oqB ds) ops o c a :=
 ⟨fun x y v h1 h2=>oqB_sound h h1 h2,fun b hb=>gqB_sound h hq hb⟩
end
def dok (N:Nat) (d:Option Nat):Bool:=match d with
 | some d=>Nat.blt d N
 | none=>true
def chkL (F:FT) (N:Nat) (L:List Oper):List Oper→List CO→List (Option Nat)→Bool
 | [],[],_=>true
 | o::os,c::cs,ds=>gqB L ds o.guard (grd c) && chkO F (oqB ds) o c && dok N o.dst && chkL F N L os cs (o.dst::ds)
 | _,_,_=>false
def dsts:List Oper→List (Option Nat)→List (Option Nat)
 | [],ds=>ds
 | o::os,ds=>dsts os (o.dst::ds)
theorem mem_dsts {d:Option Nat}:∀ {l:List Oper} {ds:List (Option Nat)},d∈dsts l ds↔(∃ o∈l,o.dst=d)∨d∈ds
 | [],ds=>by simp [dsts]
 | o::l,ds=>by
  simp only [dsts,mem_dsts (l:=l),List.mem_cons]
  constructor
  ·rintro (⟨o',h1,h2⟩ | h | h)
   ·exact .inl ⟨o',.inr h1,h2⟩
   ·exact .inl ⟨o,.inl rfl,h.symm⟩
   ·exact .inr h
  ·rintro (⟨o',h1 | h1,h2⟩ | h)
   ·subst h1; exact .inr (.inl h2.symm)
   ·exact .inl ⟨o',h1,h2⟩
   ·exact .inr (.inr h)
theorem blt_lt {a b:Nat} (h:Nat.blt a b=true):a < b:=by simp [Nat.blt] at h; omega
section
variable {P:Program} {W0:World} {R:List Thing} {F:FT} {N:Nat} {cl:CL} {fr:T SV} {opr:Array Oper} {Q:Exit→Act→World→Prop}
theorem put_tmps (a:Act) (df:List Deferred) (d:Option Nat) (x:Value):(({ a with defers:=df }:Act).put d x).tmps=putA a.tmps d x:=by cases d <;> rfl
theorem put_defers' (a:Act) (df:List Deferred) (d:Option Nat) (x:Value):(({ a with defers:=df }:Act).put d x).defers=df:=by cases d <;> rfl
theorem put_size (a:Act) (df:List Deferred) (d:Option Nat) (x:Value):(({ a with defers:=df }:Act).put d x).tmps.size=a.tmps.size:=by cases d <;> simp [Act.put]
theorem put_other (a:Act) (df:List Deferred) (d:Option Nat) (x:Value) {t:Nat} (h:d≠some t):(({ a with defers:=df }:Act).put d x).tmps[t]?=a.tmps[t]?:=by
 cases d with
 | none=>rfl
 | some e=>simp only [Act.put]; exact Array.getElem?_setIfInBounds_ne (fun e'=>h (by rw [e']))
theorem ops_sound (hcl:SndF P W0 cl) (hF:F.Ok P W0):∀ (os:List Oper) (cs:List CO) (ds:List (Option Nat)) (env:List SV) (me:T Ob) (nx:Pos) (dl:List SV) (g:G) (a:Act) (w:World) (r:RR),
  chkL F N opr.toList os cs ds=true→ops cl fr cs env me nx dl=r→r≠.no→Env g ds env fr a.tmps→a.tmps.size=N→Dfs g dl a.defers→g.fresh nx→Sts W0 w (mem g me++R) →
  (∀ env' me' nx' dl',r=.ok env' me' nx' dl'→∀ g' a' w',g.ext g' nx→g'.fresh nx'→nx.nat≤nx'.nat→Env g' (dsts os ds) env' fr a'.tmps→a'.tmps.size=N→Dfs g' dl' a'.defers→Sts W0 w' (mem g' me'++R)→Q .normal a' w') →
  (∀ v me' nx' dl',r=.pan v me' nx' dl'→∀ g' x a' w',g.ext g' nx→g'.fresh nx'→nx.nat≤nx'.nat→den g' v=some x→(∀ t,some t∉dsts os ds→a'.tmps[t]?=a.tmps[t]?)→a'.tmps.size=N→Dfs g' dl' a'.defers→Sts W0 w' (mem g' me'++R)→Q (.panic (chain x)) a' w') →
  wpL P opr Q os a w
 | [],[],ds,env,me,nx,dl,g,a,w,r,hc,hr,hne,hE,hN,hd,hf,hm,hK,hQ=>by
  have hr':RR.ok env me nx dl=r:=hr
  exact hK env me nx dl hr'.symm g a w (G.ext.refl _ _) hf (Nat.le_refl _) hE hN hd hm
 | o::os,c::cs,ds,env,me,nx,dl,g,a,w,r,hc,hr,hne,hE,hN,hd,hf,hm,hK,hQ=>by
  simp only [chkL,Bool.and_eq_true] at hc
  obtain ⟨⟨⟨c1,c2⟩,c3⟩,c4⟩:=hc
  have hr':R1.rec (motive:=fun _=>RR) .no (fun v me nx dl=>ops cl fr cs (v::env) me nx dl) (fun e me nx dl=>.pan e me nx dl) (step1 cl (on fr env) me nx dl c)=r:=hr
  have hdlt:∀ e,o.dst=some e→e < a.tmps.size:=fun e he=>by
   rw [he] at c3; rw [hN]; exact blt_lt c3
  show wp1 P opr o (wpL P opr Q os) Q a w
  cases hs:step1 cl (on fr env) me nx dl c with
  | no=>rw [hs] at hr'; exact (hne hr'.symm).elim
  | ok v me1 nx1 dl1 =>
   rw [hs] at hr'
   refine step1_sound hcl hF (sees hE c1) hd hf hm c2 hs (fun g1 x df w1 k1 k2 k3 k4 k5 k6=>?_)
   refine ops_sound hcl hF os cs (o.dst::ds) (v::env) me1 nx1 dl1 g1 _ w1 r c4 hr' hne ?_ (by rw [put_size]; exact hN) (by rw [put_defers']; exact k5) k2 k6 (fun env' me' nx' dl' e g' a' w' j1 j2 j3 j4 j5 j6 j7=>?_) (fun u me' nx' dl' e g' y a' w' j1 j2 j3 j4 j5 j6 j7 j8=>?_)
   ·rw [put_tmps]; exact (hE.mono (k1.le hf)).put k4 hdlt
   ·exact hK env' me' nx' dl' e g' a' w' (k1.trans j1 k3) j2 (Nat.le_trans k3 j3) j4 j5 j6 j7
   ·refine hQ u me' nx' dl' e g' y a' w' (k1.trans j1 k3) j2 (Nat.le_trans k3 j3) j4 (fun t ht=>?_) j6 j7 j8
    rw [j5 t ht]
    exact put_other a df o.dst x (fun e=>ht (mem_dsts.2 (.inl ⟨o,by simp,e⟩)))
  | pan v me1 nx1 dl1 =>
   rw [hs] at hr'
   exact step1_panic hcl (sees hE c1) hd hf hm c2 hs (fun g1 x w1 k1 k2 k3 k4 k5 k6=>hQ v me1 nx1 dl1 hr'.symm g1 x a w1 k1 k2 k3 k4 (fun t _=>rfl) hN k5 k6)
 | [],_::_,_,_,_,_,_,_,_,_,_,hc,_,_,_,_,_,_,_,_,_=>by cases hc
 | _::_,[],_,_,_,_,_,_,_,_,_,hc,_,_,_,_,_,_,_,_,_=>by cases hc
end
def inW (t:Nat) (wb:List (Pos × Nat)):Bool:=match wb with
 | []=>false
 | p::r=>Nat.beq p.1.nat (t + 1) || inW t r
def chkW1 (K:Nat) (ds:List (Option Nat)):List (Pos × Nat)→Bool
 | []=>true
 | p::r=>(match findD (p.1.nat - 1) ds 0 with | some i=>Nat.beq i p.2 | none=>false) && K.testBit (p.1.nat - 1) && chkW1 K ds r
def chkW2 (K:Nat) (wb:List (Pos × Nat)):List (Option Nat)→Bool
 | []=>true
 | none::r=>chkW2 K wb r
 | some t::r=>(!K.testBit t || inW t wb) && chkW2 K wb r
theorem inW_mem {t:Nat}:∀ {wb:List (Pos × Nat)},inW t wb=true→∃ p∈wb,p.1.nat=t + 1
 | [],h=>by cases h
 | p::r,h=>by
  simp only [inW,Bool.or_eq_true] at h
  rcases h with h | h
  ·exact ⟨p,by simp,Nat.eq_of_beq_eq_true h⟩
  ·obtain ⟨q,h1,h2⟩:=inW_mem h
   exact ⟨q,by simp [h1],h2⟩
theorem chkW1_mem {K:Nat} {ds:List (Option Nat)}:∀ {wb:List (Pos × Nat)},chkW1 K ds wb=true→∀ p∈wb,findD (p.1.nat - 1) ds 0=some p.2∧K.testBit (p.1.nat - 1)=true
 | [],_,p,hp=>by cases hp
 | q::r,h,p,hp=>by
  simp only [chkW1,Bool.and_eq_true] at h
  rcases List.mem_cons.1 hp with rfl | hp
  ·have h1:=h.1.1
   split at h1
   ·rename_i i hi
    rw [hi,Nat.eq_of_beq_eq_true h1]; exact ⟨rfl,h.1.2⟩
   ·cases h1
  ·exact chkW1_mem h.2 p hp
theorem chkW2_mem {K:Nat} {wb:List (Pos × Nat)}:∀ {ds:List (Option Nat)},chkW2 K wb ds=true→∀ t,some t∈ds→K.testBit t=true→inW t wb=true
 | [],_,t,ht,_=>by cases ht
 | none::r,h,t,ht,hk=>chkW2_mem (ds:=r) h t (by simpa using ht) hk
 | some u::r,h,t,ht,hk=>by
  simp only [chkW2,Bool.and_eq_true,Bool.or_eq_true,Bool.not_eq_true'] at h
  rcases List.mem_cons.1 ht with e | ht
  ·injection e with e; subst e
   rcases h.1 with h1 | h1
   ·rw [hk] at h1; cases h1
   ·exact h1
  ·exact chkW2_mem h.2 t ht hk
theorem wbs_get {env:List SV}:∀ {wb:List (Pos × Nat)} {fr fr':T SV},wbs wb env fr=some fr'→∀ p,(∃ i v,(p,i)∈wb∧nth env i=some v∧T.get p fr'=some v)∨((∀ i,(p,i)∉wb)∧T.get p fr'=T.get p fr)
 | [],fr,fr',h,p=>by
  have h':some fr=some fr':=h
  injection h' with h'; subst h'; exact .inr ⟨fun i hi=>(by cases hi),rfl⟩
 | (q,j)::r,fr,fr',h,p=>by
  have h':Option.rec (motive:=fun _=>Option (T SV)) none (fun v=>wbs r env (T.put q (some v) fr)) (nth env j)=some fr':=h
  cases hn:nth env j with
  | none=>rw [hn] at h'; cases h'
  | some v =>
   rw [hn] at h'
   rcases wbs_get (wb:=r) h' p with ⟨i,u,h1,h2,h3⟩ | ⟨h1,h2⟩
   ·exact .inl ⟨i,u,by simp [h1],h2,h3⟩
   ·by_cases e:p=q
    ·subst e
     exact .inl ⟨j,v,by simp,hn,by rw [h2,EV.T.get_same]⟩
    ·refine .inr ⟨fun i hi=>?_,by rw [h2,EV.T.get_other _ q p fr e]⟩
     rcases List.mem_cons.1 hi with e' | hi
     ·injection e' with e1 e2; exact e e1
     ·exact h1 i hi
theorem wbf_get:∀ {wb:List (Pos × Nat)} {fr:T SV} (p:Pos),((∃ i,(p,i)∈wb)∧T.get p (wbf wb fr)=none)∨((∀ i,(p,i)∉wb)∧T.get p (wbf wb fr)=T.get p fr)
 | [],fr,p=>.inr ⟨fun i hi=>(by cases hi),rfl⟩
 | (q,j)::r,fr,p=>by
  have h':wbf ((q,j)::r) fr=wbf r (T.put q none fr):=rfl
  rw [h']
  rcases wbf_get (wb:=r) (fr:=T.put q none fr) p with ⟨⟨i,h1⟩,h2⟩ | ⟨h1,h2⟩
  ·exact .inl ⟨⟨i,by simp [h1]⟩,h2⟩
  ·by_cases e:p=q
   ·subst e
    exact .inl ⟨⟨j,by simp⟩,by rw [h2,EV.T.get_same]⟩
   ·refine .inr ⟨fun i hi=>?_,by rw [h2,EV.T.get_other _ q p fr e]⟩
    rcases List.mem_cons.1 hi with e' | hi
    ·injection e' with e1 e2; exact e e1
    ·exact h1 i hi
def Kept (K:Nat) (fr:T SV):Prop:=∀ p v,T.get p fr=some v→K.testBit (p.nat - 1)=true
section
variable {g:G} {K:Nat} {ds:List (Option Nat)} {wb:List (Pos × Nat)} {env:List SV} {fr fr':T SV} {tm:Array Value}
theorem pos_nat (p:Pos):p.nat=p.nat - 1 + 1:=by have:=Pos.nat_pos p; omega
theorem wbs_frm (hk:Kept K fr) (h1:chkW1 K ds wb=true) (h2:chkW2 K wb ds=true) (hE:Env g ds env fr tm) (h:wbs wb env fr=some fr'):Frm g fr' tm∧Kept K fr':=by
 refine ⟨fun p v hg=>?_,fun p v hg=>?_⟩
 ·rcases wbs_get h p with ⟨i,u,k1,k2,k3⟩ | ⟨k1,k2⟩
  ·rw [k3] at hg; injection hg with hg; subst hg
   obtain ⟨v',x,e1,e2,e3⟩:=hE.hit _ _ (chkW1_mem h1 _ k1).1
   rw [k2] at e1; injection e1 with e1; subst e1
   exact ⟨x,e2,e3⟩
  ·rw [k2] at hg
   cases hfd:findD (p.nat - 1) ds 0 with
   | none=>exact hE.old _ hfd p v (pos_nat p) hg
   | some i =>
    exfalso
    have hmem:some (p.nat - 1)∈ds:=by
     refine Classical.not_not.1 (fun hn=>?_)
     rw [findD_none.2 hn] at hfd; cases hfd
    obtain ⟨q,hq,hqn⟩:=inW_mem (chkW2_mem h2 _ hmem (hk p v hg))
    have:=nat_inj (hqn.trans (pos_nat p).symm); subst this
    exact k1 q.2 hq
 ·rcases wbs_get h p with ⟨i,u,k1,k2,k3⟩ | ⟨k1,k2⟩
  ·exact (chkW1_mem h1 _ k1).2
  ·rw [k2] at hg; exact hk p v hg
theorem wbf_frm {tm':Array Value} (hk:Kept K fr) (h2:chkW2 K wb ds=true) (hF:Frm g fr tm) (hsame:∀ t,some t∉ds→tm'[t]?=tm[t]?):Frm g (wbf wb fr) tm'∧Kept K (wbf wb fr):=by
 refine ⟨fun p v hg=>?_,fun p v hg=>?_⟩
 ·rcases wbf_get (wb:=wb) (fr:=fr) p with ⟨⟨i,k1⟩,k2⟩ | ⟨k1,k2⟩
  ·rw [k2] at hg; cases hg
  ·rw [k2] at hg
   obtain ⟨x,e1,e2⟩:=hF p v hg
   refine ⟨x,e1,?_⟩
   rw [hsame]
   ·exact e2
   ·intro hmem
    obtain ⟨q,hq,hqn⟩:=inW_mem (chkW2_mem h2 _ hmem (hk p v hg))
    have:=nat_inj (hqn.trans (pos_nat p).symm); subst this
    exact k1 q.2 hq
 ·rcases wbf_get (wb:=wb) (fr:=fr) p with ⟨_,k2⟩ | ⟨k1,k2⟩
  ·rw [k2] at hg; cases hg
  ·rw [k2] at hg; exact hk p v hg
end
end
noncomputable section
open Go.RowKit
def isEv:CO→Bool
 | .v _ _ _=>false
 | _=>true
def isFl:CO→Bool
 | .fl _ _=>true
 | .fb _ _ _ _ _ _=>true
 | _=>false
structure St where
 me:T Ob
 nx:Pos
 dl:List SV
def nev (cs:List CO) (j k:Nat):Nat:=((cs.drop j).take (k - j)).countP isEv
theorem allA_eq (hh:∀ x y,eqA x y=true→x=y):∀ {l m:List SV},allA l m=true→l=m
 | [],[],_=>rfl
 | x::l,y::m,h=>by
  have h':(and (eqA x y) (allA l m))=true:=h
  simp only [Bool.and_eq_true] at h'
  rw [hh x y h'.1,allA_eq hh h'.2]
 | [],_::_,h=>by cases h
 | _::_,[],h=>by cases h
theorem ieq_of {a b:Int} (h:ieq a b=true):a=b:=by rw [ieq_eq] at h; simpa using h
theorem seq_of {n v m w:Nat} (h:EV.seq n v m w=true):n=m∧v=w:=by
 unfold EV.seq at h
 cases hb:Nat.beq n m with
 | false=>rw [hb] at h; cases h
 | true=>rw [hb] at h; exact ⟨Nat.eq_of_beq_eq_true hb,Nat.eq_of_beq_eq_true h⟩
theorem eqA_eq:∀ x y,eqA x y=true→x=y:=by
 intro x y h
 unfold eqA at h
 split at h
 ·simp only [Bool.and_eq_true] at h; rw [keq_eq h.1,ieq_of h.2]
 ·rename_i x y; cases x <;> cases y <;> first | rfl | cases h
 ·obtain ⟨h1,h2⟩:=seq_of h; rw [h1,h2]
 ·simp only [Bool.and_eq_true] at h; rw [nat_inj (Nat.eq_of_beq_eq_true h.1),Nat.eq_of_beq_eq_true h.2]
 ·rfl
 ·simp only [Bool.and_eq_true] at h; rw [nat_inj (Nat.eq_of_beq_eq_true h.1),Nat.eq_of_beq_eq_true h.2.1,Nat.eq_of_beq_eq_true h.2.2.1,Nat.eq_of_beq_eq_true h.2.2.2]
 ·simp only [Bool.and_eq_true] at h; rw [nat_inj (Nat.eq_of_beq_eq_true h.1),Nat.eq_of_beq_eq_true h.2]
 ·rfl
 ·rw [nat_inj (Nat.eq_of_beq_eq_true h)]
 ·rfl
 ·rfl
 ·rfl
 ·cases h
theorem same_eq {x y:SV} (h:same x y=true):x=y:=by
 unfold same at h
 split at h
 ·rw [allA_eq eqA_eq h]
 ·exact eqA_eq _ _ h
theorem allS_eq:∀ {l m:List SV},allS l m=true→l=m
 | [],[],_=>rfl
 | x::l,y::m,h=>by
  have h':(and (same x y) (allS l m))=true:=h
  simp only [Bool.and_eq_true] at h'
  rw [same_eq h'.1,allS_eq h'.2]
 | [],_::_,h=>by cases h
 | _::_,[],h=>by cases h
theorem same2_eq {x y:SV} (h:same2 x y=true):x=y:=by
 unfold same2 at h
 split at h
 ·rw [allS_eq h]
 ·exact same_eq h
theorem vals_spec {lk:LK} {o:V} {v:SV}:∀ {b:Nat} {ms:List (T Ob)},vals lk o v b ms=true→∀ q m,q < b→ms[q]?=some m→val lk m o=some v
 | 0,_,_,q,m,hq,_=>by omega
 | b + 1,[],_,q,m,_,hm=>by simp at hm
 | b + 1,m0::r,h,q,m,hq,hm=>by
  have h':Option.rec (motive:=fun _=>Bool) false (fun w=>and (same2 v w) (vals lk o v b r)) (val lk m0 o)=true:=h
  cases hv:val lk m0 o with
  | none=>rw [hv] at h'; cases h'
  | some w =>
   rw [hv] at h'
   simp only [Bool.and_eq_true] at h'
   cases q with
   | zero=>simp at hm; subst hm; rw [hv,same2_eq h'.1]
   | succ q=>exact vals_spec h'.2 q m (by omega) (by simpa using hm)
section
variable {cl:CL} {fr:T SV}
theorem step1_v {lk : LK} {me me' : T Ob} {nx nx' : Pos} {dl dl' : List SV} {g : Option (O × Bool)} {o : V} {b : Nat} {v : SV} (h : step1 cl lk me nx dl (.v g o b) = .ok v me' nx' dl') :
    me' = me ∧ nx' = nx ∧ dl' = dl ∧ (gd lk g = some true → val lk me o = some v) := by
  obtain ⟨t, ht, hr⟩ := step1_case (P' := fun _ => True) h (by intro e; cases e)
  cases t with
  | false =>
    simp only [cond_false] at hr
    injection off_ok hr with h1 h2 h3 h4
    exact ⟨h2.symm, h3.symm, h4.symm, fun e => by have ht' : gd lk g = some false := ht
                                                  rw [ht'] at e; cases e⟩
  | true =>
    simp only [cond_true] at hr
    have hr' : Option.rec (motive := fun _ => R1) .no (fun v => .ok v me nx dl) (val lk me o) = R1.ok v me' nx' dl' := hr
    cases hv : val lk me o with
    | none => rw [hv] at hr'; cases hr'
    | some u =>
      rw [hv] at hr'
      injection hr' with h1 h2 h3 h4
      exact ⟨h2.symm, h3.symm, h4.symm, fun _ => by rw [h1]⟩
structure Trc (cl:CL) (fr:T SV) (cs:List CO) (env:List SV) (s0:St) (vs:List SV) (ss:List St):Prop where
 len:ss.length=vs.length + 1
 le:vs.length≤cs.length
 zero:ss[0]?=some s0
 step:∀ j c v s s',cs[j]?=some c→vs[j]?=some v→ss[j]?=some s→ss[j + 1]?=some s'→step1 cl (on fr ((vs.take j).reverse++env)) s.me s.nx s.dl c=.ok v s'.me s'.nx s'.dl
 read:∀ j v g o b,cs[j]?=some (.v g o b)→vs[j]?=some v→gd (on fr ((vs.take j).reverse++env)) g=some true→∀ k s,j≤k→k≤vs.length→nev cs j k≤b→ss[k]?=some s→val (on fr ((vs.take j).reverse++env)) s.me o=some v
def Ends (cl:CL) (fr:T SV) (cs:List CO) (env:List SV) (vs:List SV) (ss:List St):RD→Prop
 | .no=>False
 | .ok env' me' nx' dl' _=>vs.length=cs.length∧env'=vs.reverse++env∧ss[vs.length]?=some ⟨me',nx',dl'⟩
 | .pan e me' nx' dl' _=>∃ c s,cs[vs.length]?=some c∧ss[vs.length]?=some s∧step1 cl (on fr (vs.reverse++env)) s.me s.nx s.dl c=.pan e me' nx' dl'
theorem nev_zero (cs:List CO) (k:Nat) (c:CO):nev (c::cs) 0 (k + 1)=(if isEv c then 1 else 0) + nev cs 0 k:=by
 simp [nev,List.countP_cons,Nat.add_comm]
theorem nev_succ (cs:List CO) (j k:Nat) (c:CO):nev (c::cs) (j + 1) (k + 1)=nev cs j k:=by simp [nev]
theorem nev_self (cs:List CO) (j:Nat):nev cs j j=0:=by simp [nev]
theorem ms_push (m:T Ob) {r:RD} (h:r≠.no):(push m r).ms=m::r.ms:=by
 cases r with
 | no=>exact (h rfl).elim
 | ok=>rfl
 | pan=>rfl
theorem push_no {m:T Ob} {r:RD} (h:push m r≠.no):r≠.no:=by
 intro e; subst e; exact h rfl
theorem push_ends {m:T Ob} {r:RD} {cs:List CO} {env vs:List SV} {ss:List St} (h:Ends cl fr cs env vs ss r):Ends cl fr cs env vs ss (push m r):=by
 cases r with
 | no=>exact h
 | ok=>exact h
 | pan=>exact h
theorem cond_no {b:Bool} {r r':RD} (h:(bif b then r else .no)=r') (hr:r'≠.no):b=true∧r=r':=by
 cases b with
 | false=>exact (hr h.symm).elim
 | true=>exact ⟨rfl,h⟩
def Msx (cs:List CO) (s0:St) (vs:List SV) (ss:List St) (r:RD):Prop:=∀ k s,k≤vs.length→ss[k]?=some s→(nev cs 0 k=0→s.me=s0.me)∧(∀ q,nev cs 0 k=q + 1→(r.ms)[q]?=some s.me)
theorem dops_trace:∀ (cs:List CO) (env:List SV) (s0:St) (r:RD),dops cl fr cs env s0.me s0.nx s0.dl=r→r≠.no →
  ∃ vs ss,Trc cl fr cs env s0 vs ss∧Ends cl fr cs env vs ss r∧Msx cs s0 vs ss r
 | [],env,s0,r,h,hr=>by
  have h':RD.ok env s0.me s0.nx s0.dl []=r:=h
  subst h'
  refine ⟨[],[s0],⟨rfl,Nat.le_refl _,rfl,fun j c v s s' hc=>(by simp at hc),fun j v g o b hc=>(by simp at hc)⟩,⟨rfl,rfl,rfl⟩,?_⟩
  intro k s hk hs
  have:k=0:=by simpa using hk
  subst this
  simp at hs; subst hs
  exact ⟨fun _=>rfl,fun q hq=>by simp [nev] at hq⟩
 | c::cs,env,s0,r,h,hr=>by
  have h':R1.rec (motive:=fun _=>RD) .no (fun v me' nx' ds'=>fin (on fr env) c v me' (dops cl fr cs (v::env) me' nx' ds')) (fun e me nx ds=>.pan e me nx ds []) (step1 cl (on fr env) s0.me s0.nx s0.dl c)=r:=h
  cases hs:step1 cl (on fr env) s0.me s0.nx s0.dl c with
  | no=>rw [hs] at h'; exact (hr h'.symm).elim
  | pan e me nx ds =>
   rw [hs] at h'
   have h2:RD.pan e me nx ds []=r:=h'
   subst h2
   refine ⟨[],[s0],⟨rfl,by simp,rfl,fun j c v s s' hc hv=>(by simp at hv),fun j v g o b hc hv=>(by simp at hv)⟩,⟨c,s0,rfl,rfl,by simpa using hs⟩,?_⟩
   intro k s hk hs
   have:k=0:=by simpa using hk
   subst this
   simp at hs; subst hs
   exact ⟨fun _=>rfl,fun q hq=>by simp [nev] at hq⟩
  | ok v me1 nx1 dl1 =>
   rw [hs] at h'
   dsimp only at h'
   have key:∃ r1,dops cl fr cs (v::env) me1 nx1 dl1=r1∧r1≠.no∧(∀ vs ss,Ends cl fr cs (v::env) vs ss r1→Ends cl fr cs (v::env) vs ss r)∧r.ms=(if isEv c then me1::r1.ms else r1.ms) ∧
     (∀ g o b,c=.v g o b→gd (on fr env) g=some true→∀ q m,q < b→(r1.ms)[q]?=some m→val (on fr env) m o=some v):=by
    refine ⟨_,rfl,?_⟩
    cases c with
    | v g o b =>
     have h2:(match (generalizing:=false) b with
      | 0=>dops cl fr cs (v::env) me1 nx1 dl1
      | b=>Option.rec (motive:=fun _=>RD) .no (fun t=>bif t then (bif vals (on fr env) o v b (RD.ms (dops cl fr cs (v::env) me1 nx1 dl1)) then dops cl fr cs (v::env) me1 nx1 dl1 else .no) else dops cl fr cs (v::env) me1 nx1 dl1) (gd (on fr env) g))=r:=h'
     cases b with
     | zero =>
      have h3:dops cl fr cs (v::env) me1 nx1 dl1=r:=h2
      rw [h3]
      exact ⟨hr,fun vs ss h=>h,rfl,fun g o b e hg q m hq=>by injection e with e1 e2 e3; subst e3; omega⟩
     | succ b =>
      have h3:Option.rec (motive:=fun _=>RD) .no (fun t=>bif t then (bif vals (on fr env) o v (b + 1) (RD.ms (dops cl fr cs (v::env) me1 nx1 dl1)) then dops cl fr cs (v::env) me1 nx1 dl1 else .no) else dops cl fr cs (v::env) me1 nx1 dl1) (gd (on fr env) g)=r:=h2
      cases hg:gd (on fr env) g with
      | none=>rw [hg] at h3; exact (hr h3.symm).elim
      | some t =>
       rw [hg] at h3
       cases t with
       | false =>
        have h4:dops cl fr cs (v::env) me1 nx1 dl1=r:=h3
        rw [h4]
        exact ⟨hr,fun vs ss h=>h,rfl,fun g' o' b' e hg' q m hq=>by injection e with e1 e2 e3; subst e1; rw [hg] at hg'; cases hg'⟩
       | true =>
        obtain ⟨h4,h5⟩:=cond_no (show (bif vals (on fr env) o v (b + 1) (RD.ms (dops cl fr cs (v::env) me1 nx1 dl1)) then dops cl fr cs (v::env) me1 nx1 dl1 else .no)=r from h3) hr
        rw [h5] at h4 ⊢
        exact ⟨hr,fun vs ss h=>h,rfl,fun g' o' b' e hg' q m hq hm=>by injection e with e1 e2 e3; subst e2; subst e3; exact vals_spec h4 q m hq hm⟩
    | _ =>
     have h2:push me1 (dops cl fr cs (v::env) me1 nx1 dl1)=r:=h'
     have h3:=push_no (h2 ▸ hr)
     refine ⟨h3,fun vs ss h=>h2 ▸ push_ends h,by rw [← h2,ms_push _ h3]; rfl,fun g' o' b' e=>by cases e⟩
   obtain ⟨r1,k1,k2,k3,k4,k5⟩:=key
   obtain ⟨vs,ss,t1,t2,t3⟩:=dops_trace cs (v::env) ⟨me1,nx1,dl1⟩ r1 k1 k2
   have henv:∀ j,((v::vs).take (j + 1)).reverse++env=(vs.take j).reverse++(v::env):=fun j=>by simp
   refine ⟨v::vs,s0::ss,⟨by simp [t1.len],by simp [t1.le],rfl,?_,?_⟩,?_,?_⟩
   ·intro j c' v' s s' hc hv hss hss'
    cases j with
    | zero =>
     simp at hc hv hss; subst hc; subst hv; subst hss
     have:ss[0]?=some s':=by simpa using hss'
     rw [t1.zero] at this; injection this with this; subst this
     simpa using hs
    | succ j =>
     rw [henv j]
     exact t1.step j c' v' s s' (by simpa using hc) (by simpa using hv) (by simpa using hss) (by simpa using hss')
   ·intro j v' g o b hc hv hg k s hjk hk hn hss
    cases j with
    | zero =>
     simp at hc hv; subst hc; subst hv
     have hg0:gd (on fr env) g=some true:=by simpa using hg
     obtain ⟨e1,e2,e3,e4⟩:=step1_v hs
     cases k with
     | zero=>simp at hss; subst hss; simpa using e4 hg0
     | succ k =>
      rw [nev_zero] at hn
      simp only [isEv,Bool.false_eq_true,if_false,Nat.zero_add] at hn
      have hss':ss[k]?=some s:=by simpa using hss
      obtain ⟨m1,m2⟩:=t3 k s (by simpa using hk) hss'
      cases hq:nev cs 0 k with
      | zero =>
       have:=m1 hq
       simp only at this
       rw [this,e1]; simpa using e4 hg0
      | succ q=>simpa using k5 g o b rfl hg0 q s.me (by omega) (m2 q hq)
    | succ j =>
     rw [henv j] at hg ⊢
     cases k with
     | zero=>omega
     | succ k =>
      rw [nev_succ] at hn
      exact t1.read j v' g o b (by simpa using hc) (by simpa using hv) hg k s (by omega) (by simpa using hk) hn (by simpa using hss)
   ·have:=k3 vs ss t2
    cases r with
    | no=>exact this
    | ok env' me' nx' dl' ms =>
     obtain ⟨a1,a2,a3⟩:=this
     exact ⟨by simp [a1],by rw [a2]; simp,by simpa using a3⟩
    | pan e me' nx' dl' ms =>
     obtain ⟨c',s,a1,a2,a3⟩:=this
     refine ⟨c',s,by simpa using a1,by simpa using a2,?_⟩
     rw [show (v::vs).reverse++env=vs.reverse++(v::env) by simp]; exact a3
   ·intro k s hk hss
    cases k with
    | zero =>
     simp at hss; subst hss
     exact ⟨fun _=>rfl,fun q hq=>by simp [nev] at hq⟩
    | succ k =>
     have hss':ss[k]?=some s:=by simpa using hss
     obtain ⟨m1,m2⟩:=t3 k s (by simpa using hk) hss'
     rw [nev_zero,k4]
     cases hev:isEv c with
     | false =>
      simp only [Bool.false_eq_true,if_false,Nat.zero_add]
      refine ⟨fun hz=>?_,m2⟩
      rw [m1 hz]
      cases c with
      | v g o b=>exact (step1_v hs).1
      | _=>cases hev
     | true =>
      simp only [if_true]
      refine ⟨fun hz=>by omega,fun q hq=>?_⟩
      cases q with
      | zero=>rw [m1 (by omega)]; rfl
      | succ q=>simpa using m2 q (by omega)
end
end
noncomputable section
open Go.RowKit
def memV:V→Bool
 | .ld _=>true
 | .ldn _ _=>true
 | .cvs _=>true
 | .lk _ _ _ _ _=>true
 | .ln .m _=>true
 | _=>false
theorem val_free {lk:LK} {o:V} {me me':T Ob} (h:memV o=false):val lk me o=val lk me' o:=by
 cases o with
 | ln k x =>
  cases k with
  | m=>cases h
  | _ =>
   show ob (lk x) (fun v=>lenV me _ v)=ob (lk x) (fun v=>lenV me' _ v)
   congr 1 <;> (funext v; cases v <;> rfl)
 | _=>first | rfl | (cases h; done)
def ask:List (Nat × Nat)→Nat→Nat
 | [],_=>0
 | p::r,i=>bif Nat.beq p.1 i then p.2 else ask r i
def maskOf (M:List (Nat × Nat)):List Edge→Nat
 | []=>0
 | e::r=>bif Region.binds .any e then (2 ^ e.on ||| ask M e.on) ||| maskOf M r else maskOf M r
def mask1 (L:List Oper) (M:List (Nat × Nat)) (i:Nat):Nat:=match L[i]? with
 | some o=>maskOf M o.after.toList
 | none=>0
def masks (L:List Oper):List Nat→List (Nat × Nat)→List (Nat × Nat)
 | [],M=>M
 | i::r,M=>masks L r ((i,mask1 L M i)::M)
def MaskOk (L:List Oper) (M:List (Nat × Nat)):Prop:=∀ i t,(ask M i).testBit t=true→∀ (lst:Nat→Prop),(∀ j o,L[j]?=some o→lst j→∀ e∈o.after.toList,Region.binds .any e=true→lst e.on) →
 (∀ o,L[i]?=some o→∀ e∈o.after.toList,Region.binds .any e=true→lst e.on)→lst t
theorem maskOf_bit {M:List (Nat × Nat)} {t:Nat}:∀ {es:List Edge},(maskOf M es).testBit t=true→∃ e∈es,Region.binds .any e=true∧(t=e.on∨(ask M e.on).testBit t=true)
 | [],h=>by simp [maskOf] at h
 | e::r,h=>by
  simp only [maskOf] at h
  cases hb:Region.binds .any e with
  | false =>
   rw [hb] at h
   obtain ⟨e',h1,h2⟩:=maskOf_bit (es:=r) h
   exact ⟨e',by simp [h1],h2⟩
  | true =>
   rw [hb] at h
   simp only [cond_true,Nat.testBit_or,Bool.or_eq_true] at h
   rcases h with (h | h) | h
   ·refine ⟨e,by simp,hb,.inl ?_⟩
    rw [Nat.testBit_two_pow] at h
    exact (of_decide_eq_true h).symm
   ·exact ⟨e,by simp,hb,.inr h⟩
   ·obtain ⟨e',h1,h2⟩:=maskOf_bit (es:=r) h
    exact ⟨e',by simp [h1],h2⟩
theorem maskOk_masks {L:List Oper}:∀ {pm:List Nat} {M:List (Nat × Nat)},MaskOk L M→MaskOk L (masks L pm M)
 | [],M,h=>h
 | i::r,M,h=>by
  refine maskOk_masks (pm:=r) ?_
  intro j t ht lst hcl hsrc
  simp only [ask] at ht
  cases hb:Nat.beq i j with
  | false=>rw [hb] at ht; exact h j t ht lst hcl hsrc
  | true =>
   rw [hb] at ht
   have:=Nat.eq_of_beq_eq_true hb; subst this
   simp only [cond_true,mask1] at ht
   cases ho:L[i]? with
   | none=>rw [ho] at ht; simp at ht
   | some o =>
    rw [ho] at ht
    obtain ⟨e,h1,h2,h3⟩:=maskOf_bit ht
    have hl:=hsrc o ho e h1 h2
    rcases h3 with rfl | h3
    ·exact hl
    ·exact h e.on t h3 lst hcl (fun o' ho'=>hcl e.on o' ho' hl)
theorem maskOk_nil (L:List Oper):MaskOk L []:=fun i t h=>by simp [ask] at h
def oldOk (M:List (Nat × Nat)) (i t:Nat):List Oper→Nat→Bool
 | [],_=>true
 | o::r,u=>(!isD o.dst t || (ask M u).testBit i) && oldOk M i t r (u + 1)
theorem oldOk_spec {M:List (Nat × Nat)} {i t:Nat}:∀ {L:List Oper} {k:Nat},oldOk M i t L k=true→∀ u o,L[u]?=some o→o.dst=some t→(ask M (k + u)).testBit i=true
 | [],k,_,u,o,h,_=>by simp at h
 | o'::r,k,hc,u,o,h,hd=>by
  simp only [oldOk,Bool.and_eq_true,Bool.or_eq_true,Bool.not_eq_true'] at hc
  cases u with
  | zero =>
   simp at h; subst h
   rcases hc.1 with h1 | h1
   ·rw [isD_eq.2 hd] at h1; cases h1
   ·simpa using h1
  | succ u =>
   have:=oldOk_spec hc.2 u o (by simpa using h) hd
   rwa [show k + 1 + u=k + (u + 1) by omega] at this
def oqD (L:List Oper) (M:List (Nat × Nat)) (pre:List (Nat × CO)) (i m:Nat) (s:Bool):O→Operand→Bool
 | .l q,.tmp t=>(match pre[q]? with
  | some (src,c)=>(match L[src]? with | some o=>isD o.dst t | none=>false) && m.testBit src && (!isFl c || s)
  | none=>false)
 | .t p,.tmp t=>Nat.beq p.nat (t + 1) && oldOk M i t L 0
 | .c (.g b 0),.global b'=>Nat.beq b b'
 | .c (.f p [] []),.func f=>Nat.beq p.nat (f + 1)
 | .c v,.const u=>cq v u
 | _,_=>false
def gqD (L:List Oper) (pre:List (Nat × CO)) (m:Nat):Option (Nat × Bool)→Option (O × Bool)→Bool
 | none,none=>true
 | some (j,w),some (.l q,w')=>(w == w') && (match pre[q]? with
  | some (src,c)=>Nat.beq src j && m.testBit src && !isFl c && (match L[src]? with | some o=>o.dst.isSome | none=>false)
  | none=>false)
 | _,_=>false
def evAt:Nat→List (Nat × CO)→Option Nat
 | _,[]=>none
 | b,(i,c)::r=>if isEv c then (match b with | 0=>some i | b + 1=>evAt b r) else evAt b r
def lastOk (m:Nat):List (Nat × CO)→Bool
 | []=>true
 | (i,c)::r=>if isEv c && !isFl c then m.testBit i else lastOk m r
def strictOf (m:Nat) (pre:List (Nat × CO)):Bool:=pre.all fun q=>!isEv q.2 || m.testBit q.1
def edgesOk (pre:List (Nat × CO)) (es:List Edge):Bool:=es.all fun e=>!Region.binds .any e || pre.any (fun q=>Nat.beq q.1 e.on)
def dstOk (L:List Oper) (pre:List (Nat × CO)) (d:Option Nat):Bool:=match d with
 | none=>true
 | some t=>pre.all fun q=>match L[q.1]? with
  | some o=>!isD o.dst t
  | none=>true
def kindOk (M:List (Nat × Nat)) (i m:Nat) (s:Bool) (o:Oper) (pre rest:List (Nat × CO)):CO→Bool
 | .v _ v b=>(!memV v || (s && (match evAt b rest with | some e=>(ask M e).testBit i | none=>true))) && lastOk m pre
 | .fl _ _=>o.dst.isSome
 | .fb _ _ _ _ _ _=>o.dst.isSome
 | _=>s
def chk1 (F:FT) (N:Nat) (L:List Oper) (M:List (Nat × Nat)) (pre:List (Nat × CO)) (i:Nat) (c:CO) (rest:List (Nat × CO)):Bool:=match L[i]? with
 | none=>false
 | some o=>edgesOk pre o.after.toList && !(pre.any fun q=>Nat.beq q.1 i) && gqD L pre (ask M i) o.guard (grd c) && chkO F (oqD L M pre i (ask M i) (strictOf (ask M i) pre)) o c && dok N o.dst && dstOk L pre o.dst && kindOk M i (ask M i) (strictOf (ask M i) pre) o pre rest c
def chkR (F:FT) (N:Nat) (L:List Oper) (M:List (Nat × Nat)):List (Nat × CO)→List (Nat × CO)→Bool
 | _,[]=>true
 | pre,(i,c)::rest=>chk1 F N L M pre i c rest && chkR F N L M ((i,c)::pre) rest
def cover (pm:List Nat):Nat→Bool
 | 0=>true
 | n + 1=>pm.any (fun i=>Nat.beq i n) && cover pm n
def chkD (F:FT) (N:Nat) (L:List Oper) (pm:List Nat) (cs:List CO):Bool:=Nat.beq pm.length cs.length && chkR F N L (masks L pm []) [] (pm.zip cs) && cover pm L.length
theorem chkR_spec {F:FT} {N:Nat} {L:List Oper} {M:List (Nat × Nat)}:∀ {rest pre:List (Nat × CO)},chkR F N L M pre rest=true→∀ j i c,rest[j]?=some (i,c)→chk1 F N L M ((rest.take j).reverse++pre) i c (rest.drop (j + 1))=true
 | [],pre,_,j,i,c,h=>by simp at h
 | (i',c')::rest,pre,hc,j,i,c,h=>by
  simp only [chkR,Bool.and_eq_true] at hc
  cases j with
  | zero=>simp at h; obtain ⟨rfl,rfl⟩:=h; simpa using hc.1
  | succ j =>
   have:=chkR_spec hc.2 j i c (by simpa using h)
   simpa using this
theorem cover_spec {pm:List Nat}:∀ {n i:Nat},cover pm n=true→i < n→i∈pm
 | 0,i,_,h=>by omega
 | n + 1,i,hc,h=>by
  simp only [cover,Bool.and_eq_true] at hc
  by_cases e:i=n
  ·subst e
   obtain ⟨x,h1,h2⟩:=List.any_eq_true.1 hc.1
   have:=Nat.eq_of_beq_eq_true h2; subst this; exact h1
  ·exact cover_spec hc.2 (by omega)
def Lst (listed:Array Bool) (i:Nat):Prop:=listed.getD i false=true
theorem lst_set {listed:Array Bool} {i j:Nat} (hi:i < listed.size):Lst (listed.setIfInBounds i true) j↔j=i∨Lst listed j:=by
 unfold Lst
 by_cases e:i=j
 ·subst e; simp [hi]
 ·rw [getD_set_ne false e]; exact ⟨.inr,fun h=>h.resolve_left (Ne.symm e)⟩
def pth (pl:List (Nat × CO)) (ss:List St) (q:Nat × Nat):Thing:=match pl[q.1]? with
 | some (_,.fl t z)=>AnyT fun xs:List Value=>(Fact (∀ g,dens (den1 g) z=some xs)).both (Bk q.2 t xs)
 | some (_,.fb _ t z n _ _)=>AnyT fun xs:List Value=>(Fact (∃ s s' l,ss[q.1]?=some s∧ss[q.1 + 1]?=some s'∧T.get s.nx s'.me=some (.r t z l)∧∀ g,dens (den1 g) l=some xs)).both (Rw t z (.slice (some ⟨q.2,0,none⟩) n n) n xs)
 | _=>Fact True
def pval (c:CO) (b:Nat):Value:=match c with
 | .fb _ _ _ n _ _=>.slice (some ⟨b,0,none⟩) n n
 | _=>.pointer (some ⟨b,0,none⟩)
structure Dr (P:Program) (W0:World) (F:FT) (N:Nat) (opr:Array Oper) (M:List (Nat × Nat)) (pl:List (Nat × CO)) (cl:CL) (fr:T SV) (g0:G) (tm0:Array Value) (s0:St) (vs:List SV) (ss:List St):Prop where
 hcl:SndF P W0 cl
 hF:F.Ok P W0
 chk:∀ j i c,pl[j]?=some (i,c)→chk1 F N opr.toList M (pl.take j).reverse i c (pl.drop (j + 1))=true
 msk:MaskOk opr.toList M
 cov:∀ i,i < opr.size→∃ (j:Nat) (c:CO),pl[j]?=some (i,c)
 trc:Trc cl fr (pl.map (·.2)) [] s0 vs ss
 fbk:vs.length=pl.length∨∀ (j i:Nat) (c:CO),pl[j]?=some (i,c)→isFb c=false
 frm:Frm g0 fr tm0
 fr0:g0.fresh s0.nx
structure Inv (N:Nat) (opr:Array Oper) (pl:List (Nat × CO)) (W0:World) (R:List Thing) (g0:G) (tm0:Array Value) (s0:St) (vs:List SV) (ss:List St) (k:Nat) (g:G) (PL:List (Nat × Nat)) (listed:Array Bool) (a:Act) (w:World):Prop where
 lsz:listed.size=opr.size
 cls:Closed opr listed
 kle:k≤vs.length
 st:∃ s,ss[k]?=some s∧g.fresh s.nx∧s0.nx.nat≤s.nx.nat∧Dfs g s.dl a.defers∧Sts W0 w (mem g s.me++(PL.map (pth pl ss)++R))
 ext:g0.ext g s0.nx
 size:a.tmps.size=N
 ev1:∀ j i c,pl[j]?=some (i,c)→isEv c=true→j < k→Lst listed i
 ev2:∀ j i c,pl[j]?=some (i,c)→isEv c=true→isFl c=false→Lst listed i→j < k
 vl:∀ j i c o v,pl[j]?=some (i,c)→vs[j]?=some v→Lst listed i→(isFl c=true→j < k)→opr[i]?=some o→∃ x,den g v=some x∧∀ d,o.dst=some d→a.tmps[d]?=some x
 vlt:∀ j i c,pl[j]?=some (i,c)→Lst listed i→isFl c=false→j < vs.length
 pnd:∀ j i c o,pl[j]?=some (i,c)→isFl c=true→Lst listed i→k≤j→opr[i]?=some o→∃ b,(j,b)∈PL∧∀ d,o.dst=some d→a.tmps[d]?=some (pval c b)
 old:∀ t,(∀ i o,opr[i]?=some o→o.dst=some t→¬ Lst listed i)→a.tmps[t]?=tm0[t]?
section
variable {P:Program} {F:FT} {N:Nat} {opr:Array Oper} {M:List (Nat × Nat)} {pl:List (Nat × CO)} {cl:CL} {fr:T SV} {g0 g:G} {tm0:Array Value} {s0:St} {vs:List SV} {ss:List St} {W0 w:World} {R:List Thing} {k:Nat} {PL:List (Nat × Nat)} {listed:Array Bool} {a:Act}
structure Pos1 (F:FT) (N:Nat) (opr:Array Oper) (M:List (Nat × Nat)) (pl:List (Nat × CO)) (j i:Nat) (c:CO) (o:Oper):Prop where
 op:opr[i]?=some o
 edges:edgesOk (pl.take j).reverse o.after.toList=true
 fresh:((pl.take j).reverse.any fun q=>Nat.beq q.1 i)=false
 grd:gqD opr.toList (pl.take j).reverse (ask M i) o.guard (grd c)=true
 chk:chkO F (oqD opr.toList M (pl.take j).reverse i (ask M i) (strictOf (ask M i) (pl.take j).reverse)) o c=true
 dok:dok N o.dst=true
 dst:dstOk opr.toList (pl.take j).reverse o.dst=true
 kind:kindOk M i (ask M i) (strictOf (ask M i) (pl.take j).reverse) o (pl.take j).reverse (pl.drop (j + 1)) c=true
theorem Dr.pos (D:Dr P W0 F N opr M pl cl fr g0 tm0 s0 vs ss) {j i:Nat} {c:CO} (h:pl[j]?=some (i,c)):∃ o,Pos1 F N opr M pl j i c o:=by
 have hc:=D.chk j i c h
 unfold chk1 at hc
 cases ho:opr.toList[i]? with
 | none=>rw [ho] at hc; cases hc
 | some o =>
  rw [ho] at hc
  simp only [Bool.and_eq_true,Bool.not_eq_true'] at hc
  obtain ⟨⟨⟨⟨⟨⟨h1,h2⟩,h3⟩,h4⟩,h5⟩,h6⟩,h7⟩:=hc
  exact ⟨o,by simpa using ho,h1,h2,h3,h4,h5,h6,h7⟩
theorem take_rev_mem {j p:Nat} {x:Nat × CO} (h:pl[p]?=some x) (hp:p < j):x∈(pl.take j).reverse:=by
 rw [List.mem_reverse]
 exact List.mem_of_getElem? (i:=p) (by rw [List.getElem?_take_of_lt hp]; exact h)
theorem take_rev_get {j q:Nat} {x:Nat × CO} (h:(pl.take j).reverse[q]?=some x):∃ p,p < j∧pl[p]?=some x∧p + q + 1=min j pl.length:=by
 have hq:q < (pl.take j).reverse.length:=by
  rcases Nat.lt_or_ge q (pl.take j).reverse.length with h' | h'
  ·exact h'
  ·rw [List.getElem?_eq_none h'] at h; cases h
 have hlen:(pl.take j).reverse.length=min j pl.length:=by simp
 rw [List.getElem?_reverse (by simpa using hq)] at h
 simp only [List.length_take] at h
 rw [hlen] at hq
 rw [List.getElem?_take_of_lt (by omega)] at h
 exact ⟨_,by omega,h,by omega⟩
theorem Dr.uniq (D:Dr P W0 F N opr M pl cl fr g0 tm0 s0 vs ss) {j j' i:Nat} {c c':CO} (h:pl[j]?=some (i,c)) (h':pl[j']?=some (i,c')):j=j':=by
 rcases Nat.lt_trichotomy j j' with hlt | heq | hlt
 ·obtain ⟨o,p⟩:=D.pos h'
  have:=p.fresh
  rw [List.any_eq_false] at this
  exact (this _ (take_rev_mem h hlt) (Nat.beq_refl i)).elim
 ·exact heq
 ·obtain ⟨o,p⟩:=D.pos h
  have:=p.fresh
  rw [List.any_eq_false] at this
  exact (this _ (take_rev_mem h' hlt) (Nat.beq_refl i)).elim
theorem Dr.dst_ne (D:Dr P W0 F N opr M pl cl fr g0 tm0 s0 vs ss) {j j' i i':Nat} {c c':CO} {o o':Oper} (h:pl[j]?=some (i,c)) (h':pl[j']?=some (i',c')) (hj:j≠j') (ho:opr[i]?=some o) (ho':opr[i']?=some o') {d:Nat} (hd:o'.dst=some d):o.dst≠some d:=by
 intro e
 have key:∀ {j j' i i':Nat} {c c':CO} {o o':Oper},pl[j]?=some (i,c)→pl[j']?=some (i',c')→j < j'→opr[i]?=some o→opr[i']?=some o'→∀ d,o.dst=some d→o'.dst=some d→False:=by
  intro j j' i i' c c' o o' h h' hlt ho ho' d hd hd'
  obtain ⟨o2,p⟩:=D.pos h'
  obtain rfl:o2=o':=by have:=p.op; rw [ho'] at this; exact (Option.some.inj this).symm
  have h1:=p.dst
  rw [hd'] at h1
  simp only [dstOk,List.all_eq_true] at h1
  have h2:=h1 _ (take_rev_mem h hlt)
  have ho2:opr.toList[i]?=some o:=by simpa using ho
  simp only [ho2,isD_eq.2 hd] at h2
  cases h2
 rcases Nat.lt_or_gt_of_ne hj with hlt | hlt
 ·exact key h h' hlt ho ho' d e hd
 ·exact key h' h hlt ho' ho d hd e
structure Rdy (opr:Array Oper) (listed:Array Bool) (i:Nat) (o:Oper):Prop where
 op:opr[i]?=some o
 not:¬ Lst listed i
 src:∀ e∈o.after.toList,Region.binds .any e=true→Lst listed e.on
theorem ready_of (hsz:listed.size=opr.size) {i:Nat} (h:i∈Region.ready .any opr listed):∃ o,Rdy opr listed i o:=by
 obtain ⟨h1,o,h2,h3⟩:=mem_ready.1 h
 refine ⟨o,h2,fun hl=>?_,fun e he hb=>h3 e (by simpa using he) hb⟩
 have hlt:i < opr.size:=by
  rcases Nat.lt_or_ge i opr.size with h' | h'
  ·exact h'
  ·rw [Array.getElem?_eq_none h'] at h2; cases h2
 unfold Lst at hl
 have hlt':i < listed.size:=by omega
 simp [hlt'] at h1 hl
 rw [h1] at hl; cases hl
theorem Dr.masked (D:Dr P W0 F N opr M pl cl fr g0 tm0 s0 vs ss) (hcl:Closed opr listed) {i t:Nat} (hsrc:∀ o,opr[i]?=some o→∀ e∈o.after.toList,Region.binds .any e=true→Lst listed e.on) (h:(ask M i).testBit t=true):Lst listed t :=
 D.msk i t h (Lst listed) (fun j o ho hl e he hb=>hcl j o (by simpa using ho) hl e (by simpa using he) hb) (fun o ho=>hsrc o (by simpa using ho))
theorem Rdy.masked (D:Dr P W0 F N opr M pl cl fr g0 tm0 s0 vs ss) (hcl:Closed opr listed) {i t:Nat} {o:Oper} (r:Rdy opr listed i o) (h:(ask M i).testBit t=true):Lst listed t :=
 D.masked hcl (fun o' ho'=>by have:=r.op; rw [ho'] at this; obtain rfl:=Option.some.inj this; exact r.src) h
theorem Dr.behind (D:Dr P W0 F N opr M pl cl fr g0 tm0 s0 vs ss) (hcl:Closed opr listed) {u i:Nat} (h:(ask M u).testBit i=true) (hn:¬ Lst listed i):¬ Lst listed u:=fun hu =>
 hn (D.masked hcl (fun o ho e he hb=>hcl u o ho hu e (by simpa using he) hb) h)
theorem step1_fl {lk:LK} {me me':T Ob} {nx nx':Pos} {dl dl':List SV} {t:Nat} {z:List SV} {v:SV} (h:step1 cl lk me nx dl (.fl t z)=.ok v me' nx' dl'):v=.p nx 0∧me'=T.put nx (some (.c t z)) me∧nx'=Pos.succ nx∧dl'=dl:=by
 have h':R1.ok (.p nx 0) (T.put nx (some (.c t z)) me) (Pos.succ nx) dl=R1.ok v me' nx' dl':=h
 injection h' with h1 h2 h3 h4
 exact ⟨h1.symm,h2.symm,h3.symm,h4.symm⟩
theorem step1_fb {lk:LK} {me me':T Ob} {nx nx':Pos} {dl dl':List SV} {g:Option (O × Bool)} {t z n:Nat} {zs:List SV} {ps:List (Nat × Nat × O)} {v:SV} (h:step1 cl lk me nx dl (.fb g t z n zs ps)=.ok v me' nx' dl') :
  ∃ l,gd lk g=some true∧fill lk ps zs=some l∧ints l=true∧v=.sr nx n∧me'=T.put nx (some (.r t z l)) me∧nx'=Pos.succ nx∧dl'=dl:=by
 obtain ⟨b,hb,hr⟩:=step1_case (P':=fun _=>True) h (by intro e; cases e)
 cases b with
 | false=>simp only [cond_false] at hr; cases hr
 | true =>
  simp only [cond_true] at hr
  exact ⟨_,hb,(run_fb hr).choose_spec⟩
theorem getE {α:Type} {l:List α} {k:Nat} (h:k < l.length):∃ x,l[k]?=some x:=⟨_,List.getElem?_eq_getElem h⟩
theorem Inv.adv (D:Dr P W0 F N opr M pl cl fr g0 tm0 s0 vs ss) (h:Inv N opr pl W0 R g0 tm0 s0 vs ss k g PL listed a w) (hk:k < vs.length) (hl:∀ i c,pl[k]?=some (i,c)→isEv c=true→Lst listed i) :
  ∃ g' PL',Inv N opr pl W0 R g0 tm0 s0 vs ss (k + 1) g' PL' listed a w:=by
 have hlen:vs.length≤pl.length:=by simpa using D.trc.le
 obtain ⟨⟨i,c⟩,hp⟩:=getE (l:=pl) (k:=k) (by omega)
 obtain ⟨v,hv⟩:=getE (l:=vs) hk
 obtain ⟨s,hs,h1,h2,h3,h4⟩:=h.st
 obtain ⟨s',hs'⟩:=getE (l:=ss) (k:=k + 1) (by rw [D.trc.len]; omega)
 have hcs:(pl.map (·.2))[k]?=some c:=by simp [hp]
 have hst:=D.trc.step k c v s s' hcs hv hs hs'
 cases hev:isEv c with
 | false =>
  cases c with
  | v g1 o1 b1 =>
   obtain ⟨e1,e2,e3,_⟩:=step1_v hst
   refine ⟨g,PL,h.lsz,h.cls,hk,⟨s',hs',by rw [e2]; exact h1,by rw [e2]; exact h2,by rw [e3]; exact h3,by rw [e1]; exact h4⟩,h.ext,h.size,?_,?_,?_,h.vlt,?_,h.old⟩
   ·intro j' i' c' hp' he' hj'
    by_cases e:j'=k
    ·subst e; rw [hp] at hp'; injection hp' with hp'; injection hp' with _ e2; subst e2; cases he'
    ·exact h.ev1 j' i' c' hp' he' (by omega)
   ·intro j' i' c' hp' he' hf' hl'
    have:=h.ev2 j' i' c' hp' he' hf' hl'; omega
   ·intro j' i' c' o v' hp' hv' hl' hf' ho
    refine h.vl j' i' c' o v' hp' hv' hl' (fun hfl=>?_) ho
    have:=hf' hfl
    by_cases e:j'=k
    ·subst e; rw [hp] at hp'; injection hp' with hp'; injection hp' with _ e2; subst e2; cases hfl
    ·omega
   ·intro j' i' c' o hp' hf' hl' hj' ho
    exact h.pnd j' i' c' o hp' hf' hl' (by omega) ho
  | _=>cases hev
 | true =>
  have hli:=hl i c hp hev
  cases hfl:isFl c with
  | false =>
   have:=h.ev2 k i c hp hev hfl hli; omega
  | true =>
   cases c with
   | fl t z =>
    obtain ⟨e1,e2,e3,e4⟩:=step1_fl hst
    obtain ⟨o,po⟩:=D.pos hp
    obtain ⟨b,hb,htm⟩:=h.pnd k i _ o hp hfl hli (Nat.le_refl _) po.op
    have hperm:=List.perm_cons_erase hb
    have s1:Sts W0 w (pth pl ss (k,b)::(mem g s.me++((PL.erase (k,b)).map (pth pl ss)++R))):=by
     refine h4.perm ?_
     refine (((hperm.map (pth pl ss)).append_right R).append_left (mem g s.me)).trans ?_
     simp only [List.map_cons,List.cons_append]
     exact List.perm_middle
    have hpth:pth pl ss (k,b)=AnyT fun xs:List Value=>(Fact (∀ g,dens (den1 g) z=some xs)).both (Bk b t xs):=by
     unfold pth; simp only [hp]
    rw [hpth] at s1
    obtain ⟨xs,s2⟩:=s1.of_some
    obtain ⟨hz,s3⟩:=s2.of_both.of_fact
    have s4:=new_c (nx:=s.nx) h1 s3.tail (hz g) s3
    have hext:g.ext (g.set s.nx (b,0)) s.nx:=G.set_ext _ _ _
    have hle:=hext.le h1
    refine ⟨g.set s.nx (b,0),PL.erase (k,b),h.lsz,h.cls,hk,⟨s',hs',by rw [e3]; exact G.set_fresh h1 _,by rw [e3]; exact Nat.le_trans h2 (le_succ _),by rw [e4]; exact h3.mono hle,by rw [e2]; exact s4⟩,h.ext.trans hext h2,h.size,?_,?_,?_,h.vlt,?_,h.old⟩
    ·intro j' i' c' hp' he' hj'
     by_cases e:j'=k
     ·subst e; rw [hp] at hp'; injection hp' with hp'; injection hp' with q1 q2; subst q1; exact hli
     ·exact h.ev1 j' i' c' hp' he' (by omega)
    ·intro j' i' c' hp' he' hf' hl'
     have:=h.ev2 j' i' c' hp' he' hf' hl'; omega
    ·intro j' i' c' o' v' hp' hv' hl' hf' ho
     by_cases e:j'=k
     ·subst e
      rw [hp] at hp'; injection hp' with hp'; injection hp' with q1 q2; subst q1
      rw [hv] at hv'; injection hv' with hv'; subst hv'
      obtain rfl:o=o':=by have:=po.op; rw [ho] at this; exact (Option.some.inj this).symm
      exact ⟨_,by rw [e1]; exact den_p' (G.set_at g s.nx _),htm⟩
     ·obtain ⟨x,q1,q2⟩:=h.vl j' i' c' o' v' hp' hv' hl' (fun hfl'=>by have:=hf' hfl'; omega) ho
      exact ⟨x,den_mono hle _ _ q1,q2⟩
    ·intro j' i' c' o' hp' hf' hl' hj' ho
     obtain ⟨b',q1,q2⟩:=h.pnd j' i' c' o' hp' hf' hl' (by omega) ho
     refine ⟨b',?_,q2⟩
     refine (List.mem_erase_of_ne (fun e=>?_)).2 q1
     injection e with e1 e2; omega
   | fb g1 t z n zs qs =>
    obtain ⟨l,_,_,_,e1,e2,e3,e4⟩:=step1_fb hst
    obtain ⟨o,po⟩:=D.pos hp
    obtain ⟨b,hb,htm⟩:=h.pnd k i _ o hp hfl hli (Nat.le_refl _) po.op
    have hperm:=List.perm_cons_erase hb
    have s1:Sts W0 w (pth pl ss (k,b)::(mem g s.me++((PL.erase (k,b)).map (pth pl ss)++R))):=by
     refine h4.perm ?_
     refine (((hperm.map (pth pl ss)).append_right R).append_left (mem g s.me)).trans ?_
     simp only [List.map_cons,List.cons_append]
     exact List.perm_middle
    have hpth:pth pl ss (k,b)=AnyT fun xs:List Value=>(Fact (∃ s s' l,ss[k]?=some s∧ss[k + 1]?=some s'∧T.get s.nx s'.me=some (.r t z l)∧∀ g,dens (den1 g) l=some xs)).both (Rw t z (.slice (some ⟨b,0,none⟩) n n) n xs):=by
     unfold pth; simp only [hp]
    rw [hpth] at s1
    obtain ⟨xs,s2⟩:=s1.of_some
    obtain ⟨⟨sa,sb,l',m1,m2,m3,hz⟩,s3⟩:=s2.of_both.of_fact
    obtain rfl:sa=s:=by rw [hs] at m1; exact (Option.some.inj m1).symm
    obtain rfl:sb=s':=by rw [hs'] at m2; exact (Option.some.inj m2).symm
    have hl':l'=l:=by
     rw [e2,T.get_same] at m3
     injection m3 with m3; injection m3 with _ _ m3; exact m3.symm
    subst hl'
    have s4:=new_r (nx:=sa.nx) h1 (get_nx s3.tail h1) (hz g) s3
    have hext:g.ext (g.set sa.nx (b,n)) sa.nx:=G.set_ext _ _ _
    have hle:=hext.le h1
    refine ⟨g.set sa.nx (b,n),PL.erase (k,b),h.lsz,h.cls,hk,⟨sb,hs',by rw [e3]; exact G.set_fresh h1 _,by rw [e3]; exact Nat.le_trans h2 (le_succ _),by rw [e4]; exact h3.mono hle,by rw [e2]; exact s4⟩,h.ext.trans hext h2,h.size,?_,?_,?_,h.vlt,?_,h.old⟩
    ·intro j' i' c' hp' he' hj'
     by_cases e:j'=k
     ·subst e; rw [hp] at hp'; injection hp' with hp'; injection hp' with q1 q2; subst q1; exact hli
     ·exact h.ev1 j' i' c' hp' he' (by omega)
    ·intro j' i' c' hp' he' hf' hl'
     have:=h.ev2 j' i' c' hp' he' hf' hl'; omega
    ·intro j' i' c' o' v' hp' hv' hl' hf' ho
     by_cases e:j'=k
     ·subst e
      rw [hp] at hp'; injection hp' with hp'; injection hp' with q1 q2; subst q1
      rw [hv] at hv'; injection hv' with hv'; subst hv'
      obtain rfl:o=o':=by have:=po.op; rw [ho] at this; exact (Option.some.inj this).symm
      exact ⟨_,by rw [e1]; exact den_sr (G.set_at g sa.nx _),htm⟩
     ·obtain ⟨x,q1,q2⟩:=h.vl j' i' c' o' v' hp' hv' hl' (fun hfl'=>by have:=hf' hfl'; omega) ho
      exact ⟨x,den_mono hle _ _ q1,q2⟩
    ·intro j' i' c' o' hp' hf' hl' hj' ho
     obtain ⟨b',q1,q2⟩:=h.pnd j' i' c' o' hp' hf' hl' (by omega) ho
     refine ⟨b',?_,q2⟩
     refine (List.mem_erase_of_ne (fun e=>?_)).2 q1
     injection e with e1 e2; omega
   | _=>cases hfl
theorem Inv.to (D:Dr P W0 F N opr M pl cl fr g0 tm0 s0 vs ss):∀ (n k:Nat) (g:G) (PL:List (Nat × Nat)),Inv N opr pl W0 R g0 tm0 s0 vs ss k g PL listed a w→k + n≤vs.length→(∀ q,k≤q→q < k + n→∀ i c,pl[q]?=some (i,c)→isEv c=true→Lst listed i) →
  ∃ g' PL',Inv N opr pl W0 R g0 tm0 s0 vs ss (k + n) g' PL' listed a w
 | 0,k,g,PL,h,_,_=>⟨g,PL,h⟩
 | n + 1,k,g,PL,h,hk,hl=>by
  obtain ⟨g',PL',h'⟩:=h.adv D (by omega) (fun i c hp he=>hl k (Nat.le_refl _) (by omega) i c hp he)
  obtain ⟨g'',PL'',h''⟩:=Inv.to D n (k + 1) g' PL' h' (by omega) (fun q h1 h2=>hl q (by omega) (by omega))
  exact ⟨g'',PL'',by rw [show k + (n + 1)=k + 1 + n by omega]; exact h''⟩
theorem Inv.sees (D:Dr P W0 F N opr M pl cl fr g0 tm0 s0 vs ss) (h:Inv N opr pl W0 R g0 tm0 s0 vs ss k g PL listed a w) {j i:Nat} {c:CO} {o:Oper} (p:Pos1 F N opr M pl j i c o) (hj:j≤vs.length) (r:Rdy opr listed i o)
  (hs:strictOf (ask M i) (pl.take j).reverse=true→j≤k):Sees P g (on fr ((vs.take j).reverse++[])) (oqD opr.toList M (pl.take j).reverse i (ask M i) (strictOf (ask M i) (pl.take j).reverse)) opr o c a:=by
 have hlen:vs.length≤pl.length:=by simpa using D.trc.le
 have hval:∀ q src c0 v,(pl.take j).reverse[q]?=some (src,c0)→nth ((vs.take j).reverse++[]) q=some v→∃ p0,p0 < j∧pl[p0]?=some (src,c0)∧vs[p0]?=some v:=by
  intro q src c0 v h1 h2
  obtain ⟨p0,q1,q2,q3⟩:=take_rev_get h1
  refine ⟨p0,q1,q2,?_⟩
  rw [nth_eq,List.append_nil] at h2
  have hq:q < (vs.take j).length:=by
   rcases Nat.lt_or_ge q (vs.take j).length with h' | h'
   ·exact h'
   ·rw [List.getElem?_eq_none (by simpa using h')] at h2; cases h2
  rw [List.getElem?_reverse hq] at h2
  simp only [List.length_take] at h2 hq
  rw [List.getElem?_take_of_lt (by omega)] at h2
  rw [show p0=min j vs.length - 1 - q by omega]; exact h2
 refine ⟨fun x y v hq hv=>?_,fun b hb=>?_⟩
 ·unfold oqD at hq
  split at hq
  ·rename_i q t
   split at hq
   ·rename_i src c0 hpre
    simp only [Bool.and_eq_true,Bool.or_eq_true,Bool.not_eq_true'] at hq
    obtain ⟨⟨k1,k2⟩,k3⟩:=hq
    have hv':nth ((vs.take j).reverse++[]) q=some v:=hv
    obtain ⟨p0,m1,m2,m3⟩:=hval q src c0 v hpre hv'
    cases ho:opr.toList[src]? with
    | none=>rw [ho] at k1; cases k1
    | some o' =>
     rw [ho] at k1
     have hd:=isD_eq.1 k1
     obtain ⟨x,n1,n2⟩:=h.vl p0 src c0 o' v m2 m3 (r.masked D h.cls k2) (fun hfl=>by
      rcases k3 with k3 | k3
      ·rw [k3] at hfl; cases hfl
      ·have:=hs k3; omega) (by simpa using ho)
     rw [n1]; simp [Act.eval,Array.getD_eq_getD_getElem?,n2 t hd]
   ·cases hq
  ·rename_i p' t
   simp only [Bool.and_eq_true] at hq
   have hv':T.get p' fr=some v:=hv
   obtain ⟨x,n1,n2⟩:=D.frm p' v hv'
   have hpt:=Nat.eq_of_beq_eq_true hq.1
   rw [hpt] at n2
   have hold:=h.old t (fun u o' ho' hd'=>by
    have:=oldOk_spec hq.2 u o' (by simpa using ho') hd'
    rw [Nat.zero_add] at this
    exact D.behind h.cls this r.not)
   have hle:g0.le g:=h.ext.le D.fr0
   rw [den_mono hle _ _ n1]
   have n3:tm0[t]?=some x:=by simpa using n2
   simp [Act.eval,Array.getD_eq_getD_getElem?,hold,n3]
  ·have:=Nat.eq_of_beq_eq_true hq; subst this
   have hv':some (SV.g _ 0)=some v:=hv
   injection hv' with hv'; subst hv'; rfl
  ·rename_i p' f
   have e:=Nat.eq_of_beq_eq_true hq
   have hv':some (SV.f p' [] [])=some v:=hv
   injection hv' with hv'; subst hv'
   simp [den,den2,den1,dens,Act.eval,e]
  ·rename_i _ _ w' u
   have hv':some w'=some v:=hv
   injection hv' with hv'; subst hv'
   exact cq_den hq
  ·cases hq
 ·have hq:=p.grd
  unfold gqD at hq
  split at hq
  ·rename_i h1 h2
   rw [h2] at hb
   injection hb with hb; subst hb
   simp [Region.wanted,h1]
  ·rename_i j' w' q w'' h1 h2
   rw [h2] at hb
   simp only [Bool.and_eq_true,beq_iff_eq] at hq
   obtain ⟨rfl,hq⟩:=hq
   split at hq
   ·rename_i src c0 hpre
    simp only [Bool.and_eq_true,Bool.not_eq_true'] at hq
    obtain ⟨⟨⟨k1,k2⟩,k3⟩,k4⟩:=hq
    have:=Nat.eq_of_beq_eq_true k1; subst this
    have hgd:(match (generalizing:=false) (nth ((vs.take j).reverse++[]) q:Option SV) with
     | some (SV.b y)=>some (bif w' then y else !y)
     | some (SV.t [])=>some false
     | _=>none)=some b:=hb
    cases hn:nth ((vs.take j).reverse++[]) q with
    | none=>rw [hn] at hgd; cases hgd
    | some v =>
     rw [hn] at hgd
     cases v with
     | b y =>
      simp only [Option.some.injEq] at hgd
      obtain ⟨p0,m1,m2,m3⟩:=hval q src c0 _ hpre hn
      cases ho:opr.toList[src]? with
      | none=>rw [ho] at k4; cases k4
      | some o' =>
       rw [ho] at k4
       obtain ⟨d,hd⟩:=Option.isSome_iff_exists.1 k4
       obtain ⟨x,n1,n2⟩:=h.vl p0 src c0 o' _ m2 m3 (r.masked D h.cls k2) (fun hfl=>by rw [k3] at hfl; cases hfl) (by simpa using ho)
       have ex:=den_b n1; subst ex
       have ho2:opr[src]?=some o':=by simpa using ho
       have hy:yielded opr a.tmps src=some y:=by
        simp [yielded,ho2,hd,n2 d hd]
       simp only [Region.wanted,h1,hy]
       subst hgd
       cases w' <;> cases y <;> rfl
     | t l =>
      cases l with
      | cons _ _=>cases hgd
      | nil =>
       obtain ⟨p0,m1,m2,m3⟩:=hval q src c0 _ hpre hn
       cases ho:opr.toList[src]? with
       | none=>rw [ho] at k4; cases k4
       | some o' =>
        rw [ho] at k4
        obtain ⟨d,hd⟩:=Option.isSome_iff_exists.1 k4
        obtain ⟨x,n1,n2⟩:=h.vl p0 src c0 o' _ m2 m3 (r.masked D h.cls k2) (fun hfl=>by rw [k3] at hfl; cases hfl) (by simpa using ho)
        have ex:x=undef:=(Option.some.inj n1).symm
        subst ex
        have ho2:opr[src]?=some o':=by simpa using ho
        have hy:yielded opr a.tmps src=none:=by
         simp [yielded,ho2,hd,n2 d hd,undef]
        simp only [Region.wanted,h1,hy]
        injection hgd with hgd
     | _=>cases hgd
   ·cases hq
  ·cases hq
end
end
end EV
end Go.Proofs.YtadggjnohohedaaGreatDoor
