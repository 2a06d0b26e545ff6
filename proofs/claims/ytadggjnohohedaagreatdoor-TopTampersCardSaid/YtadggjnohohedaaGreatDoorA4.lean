/- TopTampers: for every input the call returns true; part A4 of the proof. -/
import Derived.Test.YtadggjnohohedaaGreatDoorA3
import Derived.ScopeJumps
import Derived.Laws.StructEq
import Derived.ChangeKeysEq
set_option linter.unusedVariables false
set_option linter.unusedSimpArgs false
set_option linter.unusedSectionVars false
namespace Go.Proofs.YtadggjnohohedaaGreatDoor
namespace EV
noncomputable section
open Go.RowKit
theorem Sts.mid {W0 W:World} {A B R:List Thing} (h:Sts W0 W (A++(B++R))):Sts W0 W (A++R):=by
 have h1:Sts W0 W (B++(A++R)):=by
  refine h.perm ?_
  rw [← List.append_assoc,← List.append_assoc]
  exact List.perm_append_comm.append_right R
 clear h
 induction B with
 | nil=>exact h1
 | cons T B ih=>exact ih h1.tail
theorem evAt_none:∀ {l:List (Nat × CO)} {b:Nat},evAt b l=none→∀ n,((l.map (·.2)).take n).countP isEv≤b
 | [],b,_,n=>by simp
 | (i,c)::r,b,h,n=>by
  cases n with
  | zero=>simp
  | succ n =>
   simp only [evAt] at h
   simp only [List.map_cons,List.take_succ_cons,List.countP_cons]
   cases hc:isEv c with
   | false =>
    rw [hc] at h
    have:=evAt_none (l:=r) (b:=b) (by simpa using h) n
    simpa using this
   | true =>
    rw [hc] at h
    cases b with
    | zero=>simp at h
    | succ b =>
     have:=evAt_none (l:=r) (b:=b) (by simpa using h) n
     simp; omega
theorem evAt_some:∀ {l:List (Nat × CO)} {b e:Nat},evAt b l=some e→∀ n,b < ((l.map (·.2)).take n).countP isEv→∃ p c,p < n∧l[p]?=some (e,c)∧isEv c=true
 | [],b,e,h,n,_=>by simp [evAt] at h
 | (i,c)::r,b,e,h,n,hn=>by
  cases n with
  | zero=>simp at hn
  | succ n =>
   simp only [evAt] at h
   simp only [List.map_cons,List.take_succ_cons,List.countP_cons] at hn
   cases hc:isEv c with
   | false =>
    rw [hc] at h hn
    obtain ⟨p,c',h1,h2,h3⟩:=evAt_some (l:=r) (b:=b) (by simpa using h) n (by simpa using hn)
    exact ⟨p + 1,c',by omega,by simpa using h2,h3⟩
   | true =>
    rw [hc] at h hn
    cases b with
    | zero =>
     simp at h; subst h
     exact ⟨0,c,by omega,rfl,hc⟩
    | succ b =>
     obtain ⟨p,c',h1,h2,h3⟩:=evAt_some (l:=r) (b:=b) (by simpa using h) n (by simp at hn; omega)
     exact ⟨p + 1,c',by omega,by simpa using h2,h3⟩
theorem lastOk_spec {pl:List (Nat × CO)} {m:Nat}:∀ {j m0 i0:Nat} {c0:CO},lastOk m (pl.take j).reverse=true→pl[m0]?=some (i0,c0)→isEv c0=true→isFl c0=false→m0 < j→∃ p i' c',m0≤p∧p < j∧pl[p]?=some (i',c')∧isEv c'=true∧isFl c'=false∧m.testBit i'=true
 | 0,_,_,_,_,_,_,_,h=>by omega
 | j + 1,m0,i0,c0,h,hp,he,hf,hlt=>by
  cases hj:pl[j]? with
  | none =>
   have h1:pl.length≤j:=by
    rcases Nat.lt_or_ge j pl.length with h' | h'
    ·rw [List.getElem?_eq_getElem h'] at hj; cases hj
    ·exact h'
   have h2:m0 < pl.length:=by
    rcases Nat.lt_or_ge m0 pl.length with h' | h'
    ·exact h'
    ·rw [List.getElem?_eq_none h'] at hp; cases hp
   have h3:pl.take (j + 1)=pl.take j:=by rw [List.take_of_length_le (by omega),List.take_of_length_le h1]
   rw [h3] at h
   obtain ⟨p,i',c',q1,q2,q3⟩:=lastOk_spec h hp he hf (by omega)
   exact ⟨p,i',c',q1,by omega,q3⟩
  | some x =>
   obtain ⟨i1,c1⟩:=x
   have h3:(pl.take (j + 1)).reverse=(i1,c1)::(pl.take j).reverse:=by
    rw [List.take_add_one,hj]; simp
   rw [h3] at h
   simp only [lastOk] at h
   cases hc:(isEv c1 && !isFl c1) with
   | true =>
    rw [hc] at h
    simp only [Bool.and_eq_true,Bool.not_eq_true'] at hc
    exact ⟨j,i1,c1,by omega,by omega,hj,hc.1,hc.2,by simpa using h⟩
   | false =>
    rw [hc] at h
    have hne:m0≠j:=fun e=>by subst e; rw [hj] at hp; injection hp with hp; injection hp with e1 e2; subst e2; rw [he,hf] at hc; cases hc
    obtain ⟨p,i',c',q1,q2,q3⟩:=lastOk_spec (by simpa using h) hp he hf (by omega)
    exact ⟨p,i',c',q1,by omega,q3⟩
section
variable {P:Program} {F:FT} {N:Nat} {opr:Array Oper} {M:List (Nat × Nat)} {pl:List (Nat × CO)} {cl:CL} {fr:T SV} {g0 g:G} {tm0:Array Value} {s0:St} {vs:List SV} {ss:List St} {W0 w:World} {R:List Thing} {k:Nat} {PL:List (Nat × Nat)} {listed:Array Bool} {a:Act} {Q:Exit→Act→World→Prop}
theorem strict_spec {m j:Nat} (h:strictOf m (pl.take j).reverse=true) {q i:Nat} {c:CO} (hq:q < j) (hp:pl[q]?=some (i,c)) (he:isEv c=true):m.testBit i=true:=by
 unfold strictOf at h
 rw [List.all_eq_true] at h
 have:=h _ (take_rev_mem hp hq)
 rw [he] at this; simpa using this
theorem lt_of_dok {d:Nat} (h:dok N (some d)=true):d < N:=blt_lt h
theorem lst_mono {i:Nat} (hi:i < listed.size) {j:Nat} (h:Lst listed j):Lst (listed.setIfInBounds i true) j:=(lst_set hi).2 (.inr h)
theorem Rdy.lt {i:Nat} {o:Oper} (r:Rdy opr listed i o):i < opr.size:=by
 rcases Nat.lt_or_ge i opr.size with h' | h'
 ·exact h'
 ·have:=r.op; rw [Array.getElem?_eq_none h'] at this; cases this
theorem Inv.value (D:Dr P W0 F N opr M pl cl fr g0 tm0 s0 vs ss) (h:Inv N opr pl W0 R g0 tm0 s0 vs ss k g PL listed a w) {j i:Nat} {c:CO} {o:Oper} {v:SV} {x:Value} (hp:pl[j]?=some (i,c)) (r:Rdy opr listed i o) (hr:i∈Region.ready .any opr listed) (hc:isEv c=false) (hd:dok N o.dst=true)
  (hv:vs[j]?=some v) (hx:den g v=some x):Inv N opr pl W0 R g0 tm0 s0 vs ss k g PL (listed.setIfInBounds i true) (a.put o.dst x) w:=by
 have hi:i < listed.size:=by rw [h.lsz]; exact r.lt
 have hfl:isFl c=false:=by cases c <;> first | rfl | cases hc
 obtain ⟨s,q1,q2,q3,q4,q5⟩:=h.st
 have hput:(a.put o.dst x).tmps.size=a.tmps.size:=by cases o.dst <;> simp [Act.put]
 have hdf:(a.put o.dst x).defers=a.defers:=by cases o.dst <;> rfl
 have hoth:∀ {t:Nat},o.dst≠some t→(a.put o.dst x).tmps[t]?=a.tmps[t]?:=fun {t} ht=>put_other a a.defers o.dst x ht
 have hown:∀ d,o.dst=some d→(a.put o.dst x).tmps[d]?=some x:=fun d hd'=>by
  rw [hd'] at hd ⊢
  have:=lt_of_dok hd
  simp [Act.put,h.size,this]
 refine ⟨by simp [h.lsz],h.cls.set hr,h.kle,⟨s,q1,q2,q3,by rw [hdf]; exact q4,q5⟩,h.ext,by rw [hput]; exact h.size,fun j' i' c' hp' he' hj'=>lst_mono hi (h.ev1 j' i' c' hp' he' hj'),?_,?_,?_,?_,?_⟩
 ·intro j' i' c' hp' he' hf' hl'
  rcases (lst_set hi).1 hl' with e | hl'
  ·subst e
   have:=D.uniq hp hp'; subst this
   rw [hp] at hp'; injection hp' with hp'; injection hp' with _ e2; subst e2
   rw [hc] at he'; cases he'
  ·exact h.ev2 j' i' c' hp' he' hf' hl'
 ·intro j' i' c' o' v' hp' hv' hl' hf' ho'
  rcases (lst_set hi).1 hl' with e | hl'
  ·subst e
   have:=D.uniq hp hp'; subst this
   rw [hv] at hv'; injection hv' with hv'; subst hv'
   obtain rfl:o=o':=by have:=r.op; rw [ho'] at this; exact (Option.some.inj this).symm
   exact ⟨x,hx,hown⟩
  ·obtain ⟨y,m1,m2⟩:=h.vl j' i' c' o' v' hp' hv' hl' hf' ho'
   refine ⟨y,m1,fun d hd'=>?_⟩
   have hne:j≠j':=fun e=>by
    subst e; rw [hp] at hp'; injection hp' with hp'; injection hp' with e1 e2; subst e1; exact r.not hl'
   rw [hoth (D.dst_ne hp hp' hne r.op ho' hd')]
   exact m2 d hd'
 ·intro j' i' c' hp' hl' hf'
  rcases (lst_set hi).1 hl' with e | hl'
  ·subst e
   have:=D.uniq hp hp'; subst this
   rcases Nat.lt_or_ge j vs.length with h' | h'
   ·exact h'
   ·rw [List.getElem?_eq_none h'] at hv; cases hv
  ·exact h.vlt j' i' c' hp' hl' hf'
 ·intro j' i' c' o' hp' hf' hl' hj' ho'
  rcases (lst_set hi).1 hl' with e | hl'
  ·subst e
   have:=D.uniq hp hp'; subst this
   rw [hp] at hp'; injection hp' with hp'; injection hp' with _ e2; subst e2
   rw [hfl] at hf'; cases hf'
  ·obtain ⟨b,m1,m2⟩:=h.pnd j' i' c' o' hp' hf' hl' hj' ho'
   refine ⟨b,m1,fun d hd'=>?_⟩
   have hne:j≠j':=fun e=>by
    subst e; rw [hp] at hp'; injection hp' with hp'; injection hp' with e1 e2; subst e1; exact r.not hl'
   rw [hoth (D.dst_ne hp hp' hne r.op ho' hd')]
   exact m2 d hd'
 ·intro t ht
  rw [hoth (fun e=>ht i o r.op e ((lst_set hi).2 (.inl rfl)))]
  exact h.old t (fun i' o' ho' hd' hl'=>ht i' o' ho' hd' (lst_mono hi hl'))
theorem Inv.event (D:Dr P W0 F N opr M pl cl fr g0 tm0 s0 vs ss) {j:Nat} (h:Inv N opr pl W0 R g0 tm0 s0 vs ss j g PL listed a w) {i:Nat} {c:CO} {o:Oper} {v:SV} {x:Value} {s s':St} {g':G} {df:List Deferred} {w':World} (hp:pl[j]?=some (i,c)) (r:Rdy opr listed i o) (hr:i∈Region.ready .any opr listed) (hc:isEv c=true)
  (hfl:isFl c=false) (hd:dok N o.dst=true) (hs:ss[j]?=some s) (hv:vs[j]?=some v) (hs':ss[j + 1]?=some s') (h1:g.ext g' s.nx) (h2:g'.fresh s'.nx) (h3:s.nx.nat≤s'.nx.nat) (h4:den g' v=some x) (h5:Dfs g' s'.dl df) (h6:Sts W0 w' (mem g' s'.me++(PL.map (pth pl ss)++R))) :
  Inv N opr pl W0 R g0 tm0 s0 vs ss (j + 1) g' PL (listed.setIfInBounds i true) (({ a with defers:=df }:Act).put o.dst x) w':=by
 have hi:i < listed.size:=by rw [h.lsz]; exact r.lt
 obtain ⟨s1,q1,q2,q3,q4,q5⟩:=h.st
 obtain rfl:s1=s:=by rw [hs] at q1; exact (Option.some.inj q1).symm
 have hjv:j < vs.length:=by
  rcases Nat.lt_or_ge j vs.length with h' | h'
  ·exact h'
  ·rw [List.getElem?_eq_none h'] at hv; cases hv
 have hle:=h1.le q2
 have hoth:∀ {t:Nat},o.dst≠some t→(({ a with defers:=df }:Act).put o.dst x).tmps[t]?=a.tmps[t]?:=fun {t} ht=>put_other a df o.dst x ht
 have hown:∀ d,o.dst=some d→(({ a with defers:=df }:Act).put o.dst x).tmps[d]?=some x:=fun d hd'=>by
  rw [hd'] at hd ⊢
  have:=lt_of_dok hd
  simp [Act.put,h.size,this]
 refine ⟨by simp [h.lsz],h.cls.set hr,hjv,⟨s',hs',h2,Nat.le_trans q3 h3,by rw [put_defers']; exact h5,h6⟩,h.ext.trans h1 q3,by rw [put_size]; exact h.size,?_,?_,?_,?_,?_,?_⟩
 ·intro j' i' c' hp' he' hj'
  by_cases e:j'=j
  ·subst e; rw [hp] at hp'; injection hp' with hp'; injection hp' with e1 e2; subst e1; exact (lst_set hi).2 (.inl rfl)
  ·exact lst_mono hi (h.ev1 j' i' c' hp' he' (by omega))
 ·intro j' i' c' hp' he' hf' hl'
  rcases (lst_set hi).1 hl' with e | hl'
  ·subst e
   have:=D.uniq hp hp'; omega
  ·have:=h.ev2 j' i' c' hp' he' hf' hl'; omega
 ·intro j' i' c' o' v' hp' hv' hl' hf' ho'
  rcases (lst_set hi).1 hl' with e | hl'
  ·subst e
   have:=D.uniq hp hp'; subst this
   rw [hv] at hv'; injection hv' with hv'; subst hv'
   obtain rfl:o=o':=by have:=r.op; rw [ho'] at this; exact (Option.some.inj this).symm
   exact ⟨x,h4,hown⟩
  ·have hne:j≠j':=fun e=>by
    subst e; rw [hp] at hp'; injection hp' with hp'; injection hp' with e1 e2; subst e1; exact r.not hl'
   obtain ⟨y,m1,m2⟩:=h.vl j' i' c' o' v' hp' hv' hl' (fun hf=>by have:=hf' hf; omega) ho'
   refine ⟨y,den_mono hle _ _ m1,fun d hd'=>?_⟩
   rw [hoth (D.dst_ne hp hp' hne r.op ho' hd')]
   exact m2 d hd'
 ·intro j' i' c' hp' hl' hf'
  rcases (lst_set hi).1 hl' with e | hl'
  ·subst e
   have:=D.uniq hp hp'; omega
  ·exact h.vlt j' i' c' hp' hl' hf'
 ·intro j' i' c' o' hp' hf' hl' hj' ho'
  rcases (lst_set hi).1 hl' with e | hl'
  ·subst e
   have:=D.uniq hp hp'; omega
  ·obtain ⟨b,m1,m2⟩:=h.pnd j' i' c' o' hp' hf' hl' (by omega) ho'
   refine ⟨b,m1,fun d hd'=>?_⟩
   rw [hoth (D.dst_ne hp hp' (by omega) r.op ho' hd')]
   exact m2 d hd'
 ·intro t ht
  rw [hoth (fun e=>ht i o r.op e ((lst_set hi).2 (.inl rfl)))]
  exact h.old t (fun i' o' ho' hd' hl'=>ht i' o' ho' hd' (lst_mono hi hl'))
theorem Inv.float (D:Dr P W0 F N opr M pl cl fr g0 tm0 s0 vs ss) (h:Inv N opr pl W0 R g0 tm0 s0 vs ss k g PL listed a w) {j i bb:Nat} {c:CO} {o:Oper} {w':World} (hp:pl[j]?=some (i,c)) (hfl:isFl c=true) (r:Rdy opr listed i o) (hr:i∈Region.ready .any opr listed) (hd:dok N o.dst=true)
  (h6:∀ s,ss[k]?=some s→Sts W0 w (mem g s.me++(PL.map (pth pl ss)++R))→Sts W0 w' (pth pl ss (j,bb)::(mem g s.me++(PL.map (pth pl ss)++R)))) :
  Inv N opr pl W0 R g0 tm0 s0 vs ss k g ((j,bb)::PL) (listed.setIfInBounds i true) (a.put o.dst (pval c bb)) w':=by
 have hev:isEv c=true:=by cases c <;> first | rfl | cases hfl
 have hi:i < listed.size:=by rw [h.lsz]; exact r.lt
 obtain ⟨s,q1,q2,q3,q4,q5⟩:=h.st
 have hput:∀ x,(a.put o.dst x).tmps.size=a.tmps.size:=fun x=>by cases o.dst <;> simp [Act.put]
 have hdf:∀ x,(a.put o.dst x).defers=a.defers:=fun x=>by cases o.dst <;> rfl
 have hoth:∀ {x:Value} {t:Nat},o.dst≠some t→(a.put o.dst x).tmps[t]?=a.tmps[t]?:=fun {x t} ht=>put_other a a.defers o.dst x ht
 have hown:∀ x d,o.dst=some d→(a.put o.dst x).tmps[d]?=some x:=fun x d hd'=>by
  rw [hd'] at hd ⊢
  have:=lt_of_dok hd
  simp [Act.put,h.size,this]
 have hjk:k≤j:=by
  rcases Nat.lt_or_ge j k with h' | h'
  ·exact (r.not (h.ev1 j i _ hp hev h')).elim
  ·exact h'
 have hst:Sts W0 w' (mem g s.me++(((j,bb)::PL).map (pth pl ss)++R)):=by
  refine (h6 s q1 q5).perm ?_
  simp only [List.map_cons,List.cons_append]
  exact List.perm_middle.symm
 refine ⟨by simp [h.lsz],h.cls.set hr,h.kle,⟨s,q1,q2,q3,by rw [hdf]; exact q4,hst⟩,h.ext,by rw [hput]; exact h.size,fun j' i' c' hp' he' hj'=>lst_mono hi (h.ev1 j' i' c' hp' he' hj'),?_,?_,?_,?_,?_⟩
 ·intro j' i' c' hp' he' hf' hl'
  rcases (lst_set hi).1 hl' with e | hl'
  ·subst e
   have:=D.uniq hp hp'; subst this
   rw [hp] at hp'; injection hp' with hp'; injection hp' with _ e2; subst e2
   rw [hfl] at hf'; cases hf'
  ·exact h.ev2 j' i' c' hp' he' hf' hl'
 ·intro j' i' c' o' v' hp' hv' hl' hf' ho'
  rcases (lst_set hi).1 hl' with e | hl'
  ·subst e
   have:=D.uniq hp hp'; subst this
   rw [hp] at hp'; injection hp' with hp'; injection hp' with _ e2; subst e2
   have:=hf' hfl; omega
  ·obtain ⟨y,m1,m2⟩:=h.vl j' i' c' o' v' hp' hv' hl' hf' ho'
   refine ⟨y,m1,fun d hd'=>?_⟩
   have hne:j≠j':=fun e=>by
    subst e; rw [hp] at hp'; injection hp' with hp'; injection hp' with e1 e2; subst e1; exact r.not hl'
   rw [hoth (D.dst_ne hp hp' hne r.op ho' hd')]
   exact m2 d hd'
 ·intro j' i' c' hp' hl' hf'
  rcases (lst_set hi).1 hl' with e | hl'
  ·subst e
   have:=D.uniq hp hp'; subst this
   rw [hp] at hp'; injection hp' with hp'; injection hp' with _ e2; subst e2
   rw [hfl] at hf'; cases hf'
  ·exact h.vlt j' i' c' hp' hl' hf'
 ·intro j' i' c' o' hp' hf' hl' hj' ho'
  rcases (lst_set hi).1 hl' with e | hl'
  ·subst e
   have:=D.uniq hp hp'; subst this
   obtain rfl:o=o':=by have:=r.op; rw [ho'] at this; exact (Option.some.inj this).symm
   rw [hp] at hp'; injection hp' with hp'; injection hp' with _ e2; subst e2
   exact ⟨bb,by simp,hown _⟩
  ·obtain ⟨b,m1,m2⟩:=h.pnd j' i' c' o' hp' hf' hl' hj' ho'
   refine ⟨b,by simp [m1],fun d hd'=>?_⟩
   have hne:j≠j':=fun e=>by
    subst e; rw [hp] at hp'; injection hp' with hp'; injection hp' with e1 e2; subst e1; exact r.not hl'
   rw [hoth (D.dst_ne hp hp' hne r.op ho' hd')]
   exact m2 d hd'
 ·intro t' ht
  rw [hoth (fun e=>ht i o r.op e ((lst_set hi).2 (.inl rfl)))]
  exact h.old t' (fun i' o' ho' hd' hl'=>ht i' o' ho' hd' (lst_mono hi hl'))
def Pan (opr:Array Oper) (N:Nat) (cl:CL) (fr:T SV) (pl:List (Nat × CO)) (vs:List SV) (ss:List St) (W0:World) (R:List Thing) (g0:G) (tm0:Array Value) (s0:St) (Q:Exit→Act→World→Prop):Prop :=
 ∃ c s e me' nx' dl',(pl.map (·.2))[vs.length]?=some c∧ss[vs.length]?=some s∧step1 cl (on fr (vs.reverse++[])) s.me s.nx s.dl c=.pan e me' nx' dl' ∧
  ∀ g' x a' w',g0.ext g' s0.nx→g'.fresh nx'→s0.nx.nat≤nx'.nat→den g' e=some x→(∀ t,(∀ (i:Nat) (o:Oper),opr[i]?=some o→o.dst≠some t)→a'.tmps[t]?=tm0[t]?)→a'.tmps.size=N→Dfs g' dl' a'.defers→Sts W0 w' (mem g' me'++R)→Q (.panic (chain x)) a' w'
theorem pan_ev {lk:LK} {me me':T Ob} {nx nx':Pos} {dl dl':List SV} {c:CO} {e:SV} (h:step1 cl lk me nx dl c=.pan e me' nx' dl'):isEv c=true∧isFl c=false:=by
 obtain ⟨b,hb,hr⟩:=step1_case (P':=fun _=>True) h (by intro e; cases e)
 cases b with
 | false=>simp only [cond_false] at hr; exact (off_pan hr).elim
 | true =>
  simp only [cond_true] at hr
  cases c with
  | v g0 o0 b0 =>
   have hr':Option.rec (motive:=fun _=>R1) .no (fun v=>.ok v me nx dl) (val lk me o0)=R1.pan e me' nx' dl':=hr
   cases hv:val lk me o0 with
   | none=>rw [hv] at hr'; cases hr'
   | some u=>rw [hv] at hr'; cases hr'
  | fl t z=>cases hr
  | fb g0 t z n zs ps =>
   have hr':Option.rec (motive:=fun _=>R1) .no (fun l=>bif ints l then .ok (.sr nx n) (T.put nx (some (.r t z l)) me) (Pos.succ nx) dl else .no) (fill lk ps zs)=R1.pan e me' nx' dl':=hr
   cases hl:fill lk ps zs with
   | none=>rw [hl] at hr'; cases hr'
   | some l =>
    rw [hl] at hr'; dsimp only at hr'
    cases hi:ints l with
    | false=>rw [hi] at hr'; cases hr'
    | true=>rw [hi] at hr'; cases hr'
  | _=>exact ⟨rfl,rfl⟩
theorem ints_den {l:List SV} (h:ints l=true) (g g':G):dens (den1 g) l=dens (den1 g') l:=by
 induction l with
 | nil=>rfl
 | cons x r ih =>
  cases x with
  | i k n =>
   have h':ints r=true:=h
   show (match den1 g (.i k n),dens (den1 g) r with
    | some v,some vs=>some (v::vs)
    | _,_=>none)=(match den1 g' (.i k n),dens (den1 g') r with
    | some v,some vs=>some (v::vs)
    | _,_=>none)
   rw [ih h']; rfl
  | _=>cases h
theorem Inv.exec (D:Dr P W0 F N opr M pl cl fr g0 tm0 s0 vs ss) (h:Inv N opr pl W0 R g0 tm0 s0 vs ss k g PL listed a w) (hend:vs.length=pl.length∨Pan opr N cl fr pl vs ss W0 R g0 tm0 s0 Q) {i:Nat} (hr:i∈Region.ready .any opr listed) :
  wpOp P opr Q i (fun a' w'=>∃ k g PL,Inv N opr pl W0 R g0 tm0 s0 vs ss k g PL (listed.setIfInBounds i true) a' w') a w:=by
 obtain ⟨o,r⟩:=ready_of h.lsz hr
 obtain ⟨j,c,hp⟩:=D.cov i r.lt
 obtain ⟨o',p⟩:=D.pos hp
 obtain rfl:o=o':=by have:=r.op; rw [p.op] at this; exact (Option.some.inj this).symm
 have hlen:vs.length≤pl.length:=by simpa using D.trc.le
 have hcs:(pl.map (·.2))[j]?=some c:=by simp [hp]
 have hjp:j < pl.length:=by
  rcases Nat.lt_or_ge j pl.length with h' | h'
  ·exact h'
  ·rw [List.getElem?_eq_none h'] at hp; cases hp
 have hgoal:wp1 P opr o (fun a' w'=>∃ k g PL,Inv N opr pl W0 R g0 tm0 s0 vs ss k g PL (listed.setIfInBounds i true) a' w') Q a w→wpOp P opr Q i (fun a' w'=>∃ k g PL,Inv N opr pl W0 R g0 tm0 s0 vs ss k g PL (listed.setIfInBounds i true) a' w') a w:=fun hh=>by
  unfold wpOp; simp only [r.op]; exact hh
 refine hgoal ?_
 have hpan:∀ (hj:vs.length≤j),vs.length≠pl.length→Pan opr N cl fr pl vs ss W0 R g0 tm0 s0 Q→∃ i0 c0,pl[vs.length]?=some (i0,c0)∧isEv c0=true∧isFl c0=false:=by
  rintro hj hne ⟨c0,s,e,me',nx',dl',e1,e2,e3,e4⟩
  obtain ⟨k1,k2⟩:=pan_ev e3
  rw [List.getElem?_map,Option.map_eq_some_iff] at e1
  obtain ⟨⟨i0,c1⟩,e5,e6⟩:=e1
  simp only at e6; subst e6
  exact ⟨i0,c1,e5,k1,k2⟩
 have hadv:j≤vs.length→∃ k' g' PL',Inv N opr pl W0 R g0 tm0 s0 vs ss k' g' PL' listed a w∧(strictOf (ask M i) (pl.take j).reverse=true→j≤k'):=by
  intro hjv
  cases hs:strictOf (ask M i) (pl.take j).reverse with
  | false=>exact ⟨k,g,PL,h,fun e=>by cases e⟩
  | true =>
   rcases Nat.lt_or_ge k j with hkj | hkj
   ·obtain ⟨g',PL',h'⟩:=Inv.to D (j - k) k g PL h (by omega) (fun q h1 h2 i' c' hp' he'=>r.masked D h.cls (strict_spec hs (by omega) hp' he'))
    rw [show k + (j - k)=j by omega] at h'
    exact ⟨j,g',PL',h',fun _=>Nat.le_refl _⟩
   ·exact ⟨k,g,PL,h,fun _=>hkj⟩
 cases hc:isEv c with
 | false =>
  cases c with
  | v g1 v1 b1 =>
   have hkind:=p.kind
   simp only [kindOk,Bool.and_eq_true,Bool.or_eq_true,Bool.not_eq_true'] at hkind
   obtain ⟨k1,k2⟩:=hkind
   have hjv:j < vs.length:=by
    rcases Nat.lt_or_ge j vs.length with h' | h'
    ·exact h'
    ·exfalso
     rcases hend with he | he
     ·omega
     ·by_cases hne:vs.length=pl.length
      ·omega
      ·obtain ⟨i0,c0,q1,q2,q3⟩:=hpan h' hne he
       have hne':vs.length≠j:=fun e=>by
        rw [e,hp] at q1; injection q1 with q1; injection q1 with _ q1; subst q1; cases q2
       obtain ⟨p0,i',c',m1,m2,m3,m4,m5,m6⟩:=lastOk_spec k2 q1 q2 q3 (by omega)
       have:=h.ev2 p0 i' c' m3 m4 m5 (r.masked D h.cls m6)
       have:=h.kle
       omega
   obtain ⟨k',g',PL',h',hjk⟩:=hadv (Nat.le_of_lt hjv)
   obtain ⟨v,hv⟩:=getE (l:=vs) hjv
   obtain ⟨s,hs⟩:=getE (l:=ss) (k:=j) (by rw [D.trc.len]; omega)
   obtain ⟨s',hs'⟩:=getE (l:=ss) (k:=j + 1) (by rw [D.trc.len]; omega)
   have hst:=D.trc.step j _ v s s' hcs hv hs hs'
   have hS:=Inv.sees D h' p (Nat.le_of_lt hjv) r hjk
   obtain ⟨t,ht,hrr⟩:=step1_case (P':=fun _=>True) hst (by intro e; cases e)
   have hw:=hS.gd t ht
   have ht':gd (on fr ((vs.take j).reverse++[])) g1=some t:=ht
   cases t with
   | false =>
    simp only [cond_false] at hrr
    injection off_ok hrr with e1 e2 e3 e4
    exact wp1_off hw ⟨k',g',PL',h'.value D hp r hr hc p.dok hv (by rw [← e1]; rfl)⟩
   | true =>
    have hvj:=(step1_v hst).2.2.2 ht'
    obtain ⟨sk,m1,m2,m3,m4,m5⟩:=h'.st
    have hvk:val (on fr ((vs.take j).reverse++[])) sk.me v1=some v:=by
     cases hm:memV v1 with
     | false=>rw [val_free (me':=s.me) hm]; exact hvj
     | true =>
      obtain ⟨hstr,k3⟩:strictOf (ask M i) (pl.take j).reverse=true∧(match evAt b1 (pl.drop (j + 1)) with | some e=>(ask M e).testBit i | none=>true)=true:=by
       rcases k1 with k1 | k1
       ·rw [hm] at k1; cases k1
       ·exact k1
      have hjk':=hjk hstr
      refine D.trc.read j v g1 v1 b1 hcs hv ht' k' sk hjk' h'.kle ?_ m1
      rcases Nat.lt_or_ge b1 (nev (pl.map (·.2)) j k') with hlt | hge
      ·exfalso
       have hjlt:j < k':=by
        rcases Nat.lt_or_ge j k' with h1 | h1
        ·exact h1
        ·have:k'=j:=by omega
         rw [this,nev_self] at hlt; omega
       have hsplit:nev (pl.map (·.2)) j k'=(((pl.drop (j + 1)).map (·.2)).take (k' - j - 1)).countP isEv:=by
        unfold nev
        rw [List.drop_eq_getElem_cons (by simpa using hjp)]
        rw [show k' - j=(k' - j - 1) + 1 by omega,List.take_succ_cons,List.countP_cons]
        have hx:(pl.map (·.2))[j]'(by simpa using hjp)=CO.v g1 v1 b1:=by
         have:=List.getElem?_eq_getElem (l:=pl.map (·.2)) (i:=j) (by simpa using hjp)
         rw [hcs] at this; exact (Option.some.inj this).symm
        rw [hx]
        simp [isEv,List.map_drop]
       rw [hsplit] at hlt
       cases hev:evAt b1 (pl.drop (j + 1)) with
       | none=>have:=evAt_none hev (k' - j - 1); omega
       | some e =>
        rw [hev] at k3
        obtain ⟨q,c',n1,n2,n3⟩:=evAt_some hev (k' - j - 1) hlt
        rw [List.getElem?_drop] at n2
        have:=h'.ev1 (j + 1 + q) e c' n2 n3 (by omega)
        exact D.behind h.cls k3 r.not this
      ·exact hge
    have hchk:=p.chk
    simp only [chkO,Bool.and_eq_true] at hchk
    obtain ⟨dst,op,ty,pos,af,gdo⟩:=o
    obtain ⟨x,n1,n2⟩:=val_sound (std_eval a) D.hF hS.op m5 hchk.2 hvk
    exact wp1_on hw (wp_val (n2 _ _ _ _ _) ⟨k',g',PL',h'.value D hp r hr hc p.dok hv n1⟩)
  | _=>cases hc
 | true =>
  cases hfl:isFl c with
  | true =>
   cases c with
   | fl t z =>
    have hchk:=p.chk
    simp only [chkO] at hchk
    have hg:=p.grd
    obtain ⟨dst,op,ty,pos,af,gdo⟩:=o
    split at hchk
    ·rename_i t' hop
     simp only at hop; subst hop
     simp only [Bool.and_eq_true,Option.isNone_iff_eq_none] at hchk
     obtain ⟨⟨c1,c2⟩,c3⟩:=hchk
     have:=Nat.eq_of_beq_eq_true c1; subst this
     subst c3
     obtain ⟨zs,z1,z2⟩:=D.hF.al _ _ c2
     have hw:Region.wanted (⟨dst,.alloc t,ty,pos,af,none⟩:Oper) (yielded opr a.tmps)=true:=rfl
     obtain ⟨s,q1,q2,q3,q4,q5⟩:=h.st
     obtain ⟨bb,w',_,hrun,hst⟩:=(EF.alloc (kn:=[]) (d:=dst) (g:=none) (ty:=ty) (pos:=pos) (af:=af) z1) a.eval w (fun x v h=>knf_ev (std_eval a) [] x v h) q5
     have hpth:pth pl ss (j,bb)=AnyT fun xs:List Value=>(Fact (∀ g,dens (den1 g) z=some xs)).both (Bk bb t xs):=by
      unfold pth; simp only [hp]
     refine wp1_on hw (wp_val hrun ⟨k,g,(j,bb)::PL,h.float D hp rfl r hr p.dok (fun s1 e1 _=>?_)⟩)
     obtain rfl:s1=s:=by rw [q1] at e1; exact (Option.some.inj e1).symm
     rw [hpth]; exact Sts.to_some zs (Sts.to_both (Sts.to_fact z2 hst))
    ·cases hchk
   | fb g1 t z n zs ps =>
    have hjv:j < vs.length:=by
     rcases D.fbk with h1 | h1
     ·omega
     ·have:=h1 j i _ hp; cases this
    obtain ⟨k',g',PL',h',hjk⟩:=hadv (Nat.le_of_lt hjv)
    obtain ⟨v,hv⟩:=getE (l:=vs) hjv
    obtain ⟨s,hs⟩:=getE (l:=ss) (k:=j) (by rw [D.trc.len]; omega)
    obtain ⟨s',hs'⟩:=getE (l:=ss) (k:=j + 1) (by rw [D.trc.len]; omega)
    have hst:=D.trc.step j _ v s s' hcs hv hs hs'
    have hS:=Inv.sees D h' p (Nat.le_of_lt hjv) r hjk
    obtain ⟨l,f1,f2,f3,f4,f5,f6,f7⟩:=step1_fb hst
    have hw:=hS.gd true f1
    have hchk:=p.chk
    simp only [chkO,Bool.and_eq_true] at hchk
    obtain ⟨c1,c2⟩:=hchk
    obtain ⟨dst,op,ty,pos,af,gdo⟩:=o
    obtain ⟨TT,ps',hop,c3,c4,c5⟩:=chkE_bsl c1 c2
    simp only at hop; subst hop
    obtain ⟨zero,b1,b2,b3,b4,b5⟩:=D.hF.bs _ _ _ _ _ c3
    obtain ⟨sk,q1,q2,q3,q4,q5⟩:=h'.st
    obtain ⟨bb,w',xs,d1,d2,d3⟩:=bsl_row (d:=dst) (ty:=ty) (pos:=pos) (af:=af) (gd:=gdo) (std_eval a) hS.op b1 b2 b3 (b4 g') b5 (parts3 c4 c5) f2 q5
    rw [← toArr] at d2
    have hpth:pth pl ss (j,bb)=AnyT fun xs:List Value=>(Fact (∃ s s' l,ss[j]?=some s∧ss[j + 1]?=some s'∧T.get s.nx s'.me=some (.r t z l)∧∀ g,dens (den1 g) l=some xs)).both (Rw t z (.slice (some ⟨bb,0,none⟩) n n) n xs):=by
     unfold pth; simp only [hp]
    refine wp1_on hw (wp_val d2 ⟨k',g',(j,bb)::PL',h'.float D hp rfl r hr p.dok (fun s1 e1 _=>?_)⟩)
    obtain rfl:s1=sk:=by rw [q1] at e1; exact (Option.some.inj e1).symm
    rw [hpth]; exact Sts.to_some xs (Sts.to_both (Sts.to_fact ⟨s,s',l,hs,hs',by rw [f5,T.get_same],fun g2=>by rw [ints_den f3 g2 g']; exact d1⟩ d3))
   | _=>cases hfl
  | false =>
   have hkind:=p.kind
   have hstr:strictOf (ask M i) (pl.take j).reverse=true:=by
    cases c with
    | v _ _ _=>cases hc
    | fl _ _=>cases hfl
    | fb _ _ _ _ _ _=>cases hfl
    | _=>exact hkind
   have hjv:j≤vs.length:=by
    rcases Nat.lt_or_ge vs.length j with h' | h'
    ·exfalso
     rcases hend with he | he
     ·omega
     ·by_cases hne:vs.length=pl.length
      ·omega
      ·obtain ⟨i0,c0,q1,q2,q3⟩:=hpan (Nat.le_of_lt h') hne he
       have:=h.ev2 vs.length i0 c0 q1 q2 q3 (r.masked D h.cls (strict_spec hstr h' q1 q2))
       have:=h.kle
       omega
    ·exact h'
   obtain ⟨k',g',PL',h',hjk⟩:=hadv hjv
   have hkj:k'=j:=by
    have:=hjk hstr
    rcases Nat.lt_or_ge j k' with h1 | h1
    ·exact (r.not (h'.ev1 j i c hp hc h1)).elim
    ·omega
   subst hkj
   have hS:=Inv.sees D h' p hjv r (fun _=>Nat.le_refl _)
   obtain ⟨s,q1,q2,q3,q4,q5⟩:=h'.st
   rcases Nat.lt_or_ge k' vs.length with hlt | hge
   ·obtain ⟨v,hv⟩:=getE (l:=vs) hlt
    obtain ⟨s',hs'⟩:=getE (l:=ss) (k:=k' + 1) (by rw [D.trc.len]; omega)
    have hst:=D.trc.step k' c v s s' hcs hv q1 hs'
    exact step1_sound D.hcl D.hF hS q4 q2 q5 p.chk hst (fun g'' x df w'' n1 n2 n3 n4 n5 n6=>⟨k' + 1,g'',PL',h'.event D hp r hr hc hfl p.dok q1 hv hs' n1 n2 n3 n4 n5 n6⟩)
   ·have hkv:vs.length=k':=by omega
    rcases hend with he | he
    ·omega
    ·obtain ⟨c0,s1,e,me',nx',dl',e1,e2,e3,e4⟩:=he
     rw [hkv] at e1 e2
     rw [hcs] at e1; injection e1 with e1; subst e1
     rw [q1] at e2; injection e2 with e2; subst e2
     have htake:vs.take k'=vs:=List.take_of_length_le (by omega)
     rw [htake] at hS
     refine step1_panic D.hcl hS q4 q2 q5 p.chk e3 (fun g'' x w'' n1 n2 n3 n4 n5 n6=>?_)
     refine e4 g'' x a w'' (h'.ext.trans n1 q3) n2 (Nat.le_trans q3 n3) n4 (fun t ht=>h'.old t (fun i' o' ho' hd'=>(ht i' o' ho' hd').elim)) h'.size n5 (Sts.mid n6)
theorem Inv.all (D:Dr P W0 F N opr M pl cl fr g0 tm0 s0 vs ss) (h:Inv N opr pl W0 R g0 tm0 s0 vs ss k g PL listed a w) (hr:Region.ready .any opr listed=[]):∀ (j i:Nat) (c:CO),pl[j]?=some (i,c)→Lst listed i:=by
 intro j
 induction j using Nat.strongRecOn with
 | _ j ih =>
  intro i c hp
  refine Classical.not_not.1 (fun hn=>?_)
  obtain ⟨o,p⟩:=D.pos hp
  have hmem:i∈Region.ready .any opr listed:=by
   refine mem_ready.2 ⟨?_,o,p.op,fun e he hb=>?_⟩
   ·have hlt:i < listed.size:=by
     rw [h.lsz]
     rcases Nat.lt_or_ge i opr.size with h' | h'
     ·exact h'
     ·have:=p.op; rw [Array.getElem?_eq_none h'] at this; cases this
    unfold Lst at hn
    simp [hlt] at hn ⊢
    exact hn
   ·have h1:=p.edges
    unfold edgesOk at h1
    rw [List.all_eq_true] at h1
    have h2:=h1 e (by simpa using he)
    rw [hb] at h2
    simp only [Bool.not_true,Bool.false_or,List.any_eq_true] at h2
    obtain ⟨⟨i',c'⟩,h3,h4⟩:=h2
    have:=Nat.eq_of_beq_eq_true h4
    simp only at this; subst this
    rw [List.mem_reverse] at h3
    obtain ⟨q,hq⟩:=List.getElem?_of_mem h3
    have hqj:q < j:=by
     rcases Nat.lt_or_ge q j with h' | h'
     ·exact h'
     ·rw [List.getElem?_take_eq_none h'] at hq; cases hq
    rw [List.getElem?_take_of_lt hqj] at hq
    exact ih q hqj _ _ hq
  rw [hr] at hmem; cases hmem
theorem Inv.done (D:Dr P W0 F N opr M pl cl fr g0 tm0 s0 vs ss) (h:Inv N opr pl W0 R g0 tm0 s0 vs ss k g PL listed a w) (hall:∀ (j i:Nat) (c:CO),pl[j]?=some (i,c)→Lst listed i) (hend:vs.length=pl.length∨Pan opr N cl fr pl vs ss W0 R g0 tm0 s0 Q) :
  vs.length=pl.length∧∃ g' PL',Inv N opr pl W0 R g0 tm0 s0 vs ss vs.length g' PL' listed a w:=by
 have hfull:vs.length=pl.length:=by
  rcases hend with he | ⟨c0,s,e,me',nx',dl',e1,e2,e3,e4⟩
  ·exact he
  ·exfalso
   obtain ⟨k1,k2⟩:=pan_ev e3
   rw [List.getElem?_map,Option.map_eq_some_iff] at e1
   obtain ⟨⟨i0,c1⟩,e5,e6⟩:=e1
   simp only at e6; subst e6
   have:=h.ev2 vs.length i0 c1 e5 k1 k2 (hall _ _ _ e5)
   have:=h.kle
   omega
 refine ⟨hfull,?_⟩
 obtain ⟨g',PL',h'⟩:=Inv.to D (vs.length - k) k g PL h (by have:=h.kle; omega) (fun q _ _ i c hp _=>hall q i c hp)
 rw [show k + (vs.length - k)=vs.length by have:=h.kle; omega] at h'
 exact ⟨g',PL',h'⟩
def left (listed:Array Bool) (n:Nat):Nat:=(List.range n).countP fun i=>!listed.getD i false
theorem left_set {i n:Nat} (hn:listed.size=n) (hi:i < n) (hl:¬ Lst listed i):left (listed.setIfInBounds i true) n + 1=left listed n:=by
 have key:∀ m,m≤n→left (listed.setIfInBounds i true) m + (if i < m then 1 else 0)=left listed m:=by
  intro m
  induction m with
  | zero=>intro _; simp [left]
  | succ m ih =>
   intro hm
   have ih':=ih (by omega)
   unfold left at ih' ⊢
   rw [List.range_succ,List.countP_append,List.countP_append]
   simp only [List.countP_cons,List.countP_nil]
   by_cases e:i=m
   ·subst e
    have h1:(listed.setIfInBounds i true).getD i false=true:=(lst_set (by omega)).2 (.inl rfl)
    have h2:listed.getD i false=false:=by simpa [Lst] using hl
    rw [h1,h2]
    simp only [Nat.lt_irrefl,if_false,Nat.add_zero,Nat.lt_succ_self,if_true,Bool.not_true,Bool.not_false,Bool.false_eq_true] at ih' ⊢
    omega
   ·rw [getD_set_ne false e]
    have:(if i < m + 1 then 1 else 0)=(if i < m then 1 else 0:Nat):=by
     by_cases hlt:i < m
     ·simp [hlt,Nat.lt_succ_of_lt hlt]
     ·simp [hlt,show ¬ i < m + 1 by omega]
    rw [this]; omega
 have:=key n (Nat.le_refl _)
 rw [if_pos hi] at this; exact this
theorem left_zero {n i:Nat} (h:left listed n=0) (hi:i < n):Lst listed i:=by
 unfold left at h
 rw [List.countP_eq_zero] at h
 have:=h i (List.mem_range.2 hi)
 simpa [Lst] using this
theorem Inv.any (D:Dr P W0 F N opr M pl cl fr g0 tm0 s0 vs ss) (hend:vs.length=pl.length∨Pan opr N cl fr pl vs ss W0 R g0 tm0 s0 Q)
  (hQ:vs.length=pl.length→∀ g' PL' listed a w,Inv N opr pl W0 R g0 tm0 s0 vs ss vs.length g' PL' listed a w→(∀ (j i:Nat) (c:CO),pl[j]?=some (i,c)→Lst listed i)→Q .normal a w) :
  ∀ (fuel k:Nat) (g:G) (PL:List (Nat × Nat)) (listed:Array Bool) (a:Act) (w:World),Inv N opr pl W0 R g0 tm0 s0 vs ss k g PL listed a w→left listed opr.size≤fuel→wpAny P .any opr Q fuel listed a w
 | 0,k,g,PL,listed,a,w,h,hf=>by
  have hall:∀ (j i:Nat) (c:CO),pl[j]?=some (i,c)→Lst listed i:=fun j i c hp=>by
   obtain ⟨o,p⟩:=D.pos hp
   refine left_zero (n:=opr.size) (by omega) ?_
   rcases Nat.lt_or_ge i opr.size with h' | h'
   ·exact h'
   ·have:=p.op; rw [Array.getElem?_eq_none h'] at this; cases this
  obtain ⟨h1,g',PL',h2⟩:=h.done (Q:=Q) D hall hend
  refine ⟨?_,hQ h1 g' PL' listed a w h2 hall⟩
  refine List.eq_nil_iff_forall_not_mem.2 (fun i hi=>?_)
  obtain ⟨o,r⟩:=ready_of h.lsz hi
  exact r.not (left_zero (n:=opr.size) (by omega) r.lt)
 | fuel + 1,k,g,PL,listed,a,w,h,hf=>by
  refine ⟨fun hr=>?_,fun i hi=>?_⟩
  ·have hall:=h.all D hr
   obtain ⟨h1,g',PL',h2⟩:=h.done (Q:=Q) D hall hend
   exact hQ h1 g' PL' listed a w h2 hall
  ·obtain ⟨o,r⟩:=ready_of h.lsz hi
   have hl:=left_set h.lsz r.lt r.not
   refine wpOp_mono (fun a' w' ⟨k',g',PL',h'⟩=>Inv.any D hend hQ fuel k' g' PL' _ a' w' h' (by omega)) (h.exec D hend hi)
end
end
noncomputable section
open Go.RowKit
theorem findD_get {t:Nat}:∀ {ds:List (Option Nat)} {i j:Nat},findD t ds i=some j→i≤j∧ds[j - i]?=some (some t)
 | [],i,j,h=>by cases h
 | d::ds,i,j,h=>by
  rw [findD_cons] at h
  cases hb:isD d t with
  | true =>
   rw [hb] at h; injection h with h; subst h
   rw [isD_eq] at hb; subst hb
   exact ⟨Nat.le_refl _,by simp⟩
  | false =>
   rw [hb] at h
   obtain ⟨h1,h2⟩:=findD_get (ds:=ds) h
   exact ⟨by omega,by rw [show j - i=(j - (i + 1)) + 1 by omega]; simpa using h2⟩
def dsE (L:List Oper) (pm:List Nat):List (Option Nat):=(pm.map fun i=>(L[i]?).bind (·.dst)).reverse
theorem lst_replicate (n i:Nat):¬ Lst (Array.replicate n false) i:=by
 unfold Lst
 rcases Nat.lt_or_ge i n with h | h
 ·simp [h]
 ·simp [Array.getElem?_eq_none (show (Array.replicate n false).size≤i by simpa using h)]
section
variable {P:Program} {W0:World} {R:List Thing} {F:FT} {N:Nat} {cl:CL} {fr:T SV} {opr:Array Oper} {Q:Exit→Act→World→Prop}
theorem hasFb_mem:∀ {cs:List CO} {c:CO},hasFb cs=false→c∈cs→isFb c=false
 | [],c,_,h=>by cases h
 | d::cs,c,hf,h=>by
  have hf':(or (isFb d) (hasFb cs))=false:=hf
  simp only [Bool.or_eq_false_iff] at hf'
  rcases List.mem_cons.1 h with rfl | h
  ·exact hf'.1
  ·exact hasFb_mem hf'.2 h
theorem drw_sound (hcl:SndF P W0 cl) (hF:F.Ok P W0) (hmix:P.follows .mixedOrders=true) {id:Nat} {pm:List Nat} {cs:List CO} {me:T Ob} {nx:Pos} {dl:List SV} {g:G} {a:Act} {w:World} {r:RD} (hc:chkD F N opr.toList pm cs=true) (hr:dops cl fr cs [] me nx dl=r) (hne:r≠.no)
  (hfb:hasFb cs=false∨∃ env' me' nx' dl' ms,r=.ok env' me' nx' dl' ms)
  (hE:Frm g fr a.tmps) (hN:a.tmps.size=N) (hd:Dfs g dl a.defers) (hf:g.fresh nx) (hm:Sts W0 w (mem g me++R))
  (hK:∀ env' me' nx' dl' ms,r=.ok env' me' nx' dl' ms→∀ g' a' w',g.ext g' nx→g'.fresh nx'→nx.nat≤nx'.nat→Env g' (dsE opr.toList pm) env' fr a'.tmps→a'.tmps.size=N→Dfs g' dl' a'.defers→Sts W0 w' (mem g' me'++R)→Q .normal a' w')
  (hQ:∀ v me' nx' dl' ms,r=.pan v me' nx' dl' ms→∀ g' x a' w',g.ext g' nx→g'.fresh nx'→nx.nat≤nx'.nat→den g' v=some x→(∀ t,some t∉dsE opr.toList pm→a'.tmps[t]?=a.tmps[t]?)→a'.tmps.size=N→Dfs g' dl' a'.defers→Sts W0 w' (mem g' me'++R)→Q (.panic (chain x)) a' w') :
  (Code.region id opr true).wp P Q a w:=by
 simp only [chkD,Bool.and_eq_true] at hc
 obtain ⟨⟨c1,c2⟩,c3⟩:=hc
 have hlen:=Nat.eq_of_beq_eq_true c1
 have hsnd:(pm.zip cs).map (·.2)=cs:=by rw [List.map_snd_zip]; omega
 have hfst:(pm.zip cs).map (·.1)=pm:=by rw [List.map_fst_zip]; omega
 obtain ⟨vs,ss,t1,t2,_⟩:=dops_trace (cl:=cl) (fr:=fr) cs [] ⟨me,nx,dl⟩ r hr hne
 have D:Dr P W0 F N opr (masks opr.toList pm []) (pm.zip cs) cl fr g a.tmps ⟨me,nx,dl⟩ vs ss:=by
  refine ⟨hcl,hF,fun j i c hp=>?_,maskOk_masks (maskOk_nil _),fun i hi=>?_,by rw [hsnd]; exact t1,?_,hE,hf⟩
  ·have:=chkR_spec c2 j i c hp
   rwa [List.append_nil] at this
  ·have hmem:=cover_spec c3 (i:=i) (by simpa using hi)
   rw [← hfst] at hmem
   obtain ⟨⟨i',c⟩,h1,h2⟩:=List.mem_map.1 hmem
   simp only at h2; subst h2
   obtain ⟨j,hj⟩:=List.getElem?_of_mem h1
   exact ⟨j,c,hj⟩
  ·rcases hfb with h1 | h1
   ·right
    intro j i c hp
    have h2:(pm.zip cs)[j]?=some (i,c):=hp
    have h3:c∈cs:=by rw [← hsnd]; exact List.mem_map.2 ⟨_,List.mem_of_getElem? h2,rfl⟩
    exact hasFb_mem h1 h3
   ·left
    obtain ⟨env',me',nx',dl',ms,rfl⟩:=h1
    have h2:vs.length=cs.length:=t2.1
    rw [List.length_zip]; omega
 have hplen:(pm.zip cs).length=cs.length:=by rw [List.length_zip]; omega
 have hI:Inv N opr (pm.zip cs) W0 R g a.tmps ⟨me,nx,dl⟩ vs ss 0 g [] (Array.replicate opr.size false) a { w with drawn:=w.drawn + 1 }:=by
  refine ⟨by simp,fun j oj hj hl=>(lst_replicate _ _ hl).elim,Nat.zero_le _,⟨⟨me,nx,dl⟩,t1.zero,hf,Nat.le_refl _,hd,?_⟩,G.ext.refl _ _,hN,fun j i c hp he hj=>by omega,fun j i c hp he hf' hl=>(lst_replicate _ _ hl).elim,fun j i c o v hp hv hl=>(lst_replicate _ _ hl).elim,fun j i c hp hl=>(lst_replicate _ _ hl).elim,fun j i c o hp hf' hl=>(lst_replicate _ _ hl).elim,fun t _=>rfl⟩
  exact hm.drew
 have hdst:∀ {p i:Nat} {c:CO} {o:Oper} {t:Nat},(pm.zip cs)[p]?=some (i,c)→opr[i]?=some o→o.dst=some t→some t∈dsE opr.toList pm:=by
  intro p i c o t hp ho ht
  unfold dsE
  rw [List.mem_reverse]
  refine List.mem_map.2 ⟨i,?_,?_⟩
  ·rw [← hfst]; exact List.mem_map.2 ⟨_,List.mem_of_getElem? hp,rfl⟩
  ·have:opr.toList[i]?=some o:=by simpa using ho
   rw [this]; exact ht
 have hend:vs.length=(pm.zip cs).length∨Pan opr N cl fr (pm.zip cs) vs ss W0 R g a.tmps ⟨me,nx,dl⟩ Q:=by
  cases r with
  | no=>exact (hne rfl).elim
  | ok env' me' nx' dl' ms=>left; rw [hplen]; exact t2.1
  | pan e me' nx' dl' ms =>
   right
   obtain ⟨c,s,e1,e2,e3⟩:=t2
   refine ⟨c,s,e,me',nx',dl',by rw [hsnd]; exact e1,e2,e3,fun g' x a' w' k1 k2 k3 k4 k5 k6 k7 k8=>?_⟩
   refine hQ e me' nx' dl' ms rfl g' x a' w' k1 k2 k3 k4 (fun t ht=>k5 t (fun i o ho hd'=>?_)) k6 k7 k8
   have hi:i < opr.size:=by
    rcases Nat.lt_or_ge i opr.size with h' | h'
    ·exact h'
    ·rw [Array.getElem?_eq_none h'] at ho; cases ho
   obtain ⟨j,c',hp⟩:=D.cov i hi
   exact ht (hdst hp ho hd')
 refine wp_region_any hmix (Inv.any D hend ?_ _ 0 g [] _ a _ hI (by unfold left; exact Nat.le_trans List.countP_le_length (by simp)))
 intro hfull g' PL' listed a' w' h hall
 cases r with
 | no=>exact (hne rfl).elim
 | pan e me' nx' dl' ms =>
  obtain ⟨c,s,e1,e2,e3⟩:=t2
  have:cs.length≤vs.length:=by omega
  rw [List.getElem?_eq_none this] at e1; cases e1
 | ok env' me' nx' dl' ms =>
  obtain ⟨_,b2,b3⟩:=t2
  obtain ⟨s,q1,q2,q3,q4,q5⟩:=h.st
  rw [b3] at q1; injection q1 with q1; subst q1
  refine hK env' me' nx' dl' ms rfl g' a' w' h.ext q2 q3 ?_ h.size q4 (Sts.mid q5)
  have hvl:vs.length=pm.length:=by omega
  refine ⟨fun t q hq=>?_,fun t hq p v hp hg=>?_⟩
  ·obtain ⟨_,hg⟩:=findD_get hq
   rw [Nat.sub_zero] at hg
   unfold dsE at hg
   have hql:q < pm.length:=by
    rcases Nat.lt_or_ge q pm.length with h' | h'
    ·exact h'
    ·rw [List.getElem?_eq_none (by simpa using h')] at hg; cases hg
   rw [List.getElem?_reverse (by simpa using hql)] at hg
   simp only [List.length_map,List.getElem?_map,Option.map_eq_some_iff] at hg
   obtain ⟨i,g1,g2⟩:=hg
   obtain ⟨⟨i',c⟩,hp⟩:=getE (l:=pm.zip cs) (k:=pm.length - 1 - q) (by omega)
   have hi':i'=i:=by
    have:=congrArg (Option.map Prod.fst) hp
    rw [← List.getElem?_map,hfst,g1] at this
    simpa using this.symm
   subst hi'
   cases ho:opr.toList[i']? with
   | none=>rw [ho] at g2; cases g2
   | some o =>
    rw [ho] at g2
    have g2':o.dst=some t:=g2
    obtain ⟨v,hv⟩:=getE (l:=vs) (k:=pm.length - 1 - q) (by omega)
    obtain ⟨x,m1,m2⟩:=h.vl _ i' c o v hp hv (hall _ _ _ hp) (fun _=>by omega) (by simpa using ho)
    refine ⟨v,x,?_,m1,m2 t g2'⟩
    rw [b2,nth_eq,List.append_nil,List.getElem?_reverse (by omega),hvl]; exact hv
  ·rw [findD_none] at hq
   obtain ⟨x,n1,n2⟩:=hE p v hg
   have hold:=h.old t (fun i o ho hd' _=>by
    have hi:i < opr.size:=by
     rcases Nat.lt_or_ge i opr.size with h' | h'
     ·exact h'
     ·rw [Array.getElem?_eq_none h'] at ho; cases ho
    obtain ⟨j,c',hp'⟩:=D.cov i hi
    exact hq (hdst hp' ho hd'))
   refine ⟨x,den_mono (h.ext.le hf) _ _ n1,?_⟩
   rw [hold]
   rw [hp] at n2; simpa using n2
def badC:CC→Bool
 | .ops (.v none .bad _::_) _=>true
 | _=>false
def chkC (F:FT) (N K:Nat) (J:Option Nat):Code→CC→Bool
 | .skip,.skip=>true
 | .label _,.skip=>true
 | .goto l,.exit j=>(match J with | some m=>Nat.beq l m && Nat.beq j 1000 | none=>false)
 | .goto _,c=>badC c
 | .rangeFunc _ _ _ _,c=>badC c
 | .region _ opr false,.ops cs wb=>chkL F N opr.toList opr.toList cs [] && chkW1 K (dsts opr.toList []) wb && chkW2 K wb (dsts opr.toList [])
 | .region _ opr true,.drw pm cs wb=>chkD F N opr.toList pm cs && chkW1 K (dsE opr.toList pm) wb && chkW2 K wb (dsE opr.toList pm)
 | .seq x y,.seq c d=>chkC F N K J x c && chkC F N K J y d
 | .cond o x y,.cond c p q=>oqB [] c o && chkC F N K J x p && chkC F N K J y q
 | .block i x,.block j c=>Nat.beq i j && Nat.blt i 999 && chkC F N K J x c
 | .loop x,.loop c=>chkC F N K J x c
 | .scope x,c=>chkC F N K none x c
 | .exit i,.exit j=>Nat.beq i j && Nat.blt i 999
 | .ret,.ret=>true
 | _,_=>false
structure Stt (W0:World) (R:List Thing) (N K:Nat) (g:G) (fr:T SV) (me:T Ob) (nx:Pos) (dl:List SV) (a:Act) (w:World):Prop where
 frm:Frm g fr a.tmps
 kept:Kept K fr
 size:a.tmps.size=N
 dfs:Dfs g dl a.defers
 fresh:g.fresh nx
 sts:Sts W0 w (mem g me++R)
def Exi (J:Option Nat) (g:G):X→Exit→Prop
 | .nrm,e=>e=.normal
 | .ext i,e=>(i < 999∧e=.exit i)∨(i=1000∧∃ m,J=some m∧e=.goto m)
 | .ret,e=>e=.ret
 | .pan v,e=>∃ x,den g v=some x∧e=.panic (chain x)
def lwp (P:Program) (c:Code) (Q:Exit→Act→World→Prop) (a:Act) (w:World):Prop :=
 ∀ (b:Frame) (k:List Item) (cs:List Frame),∃ e a' w',Q e a' w'∧Arrives P (lone (b.at a (.code c::.inLoop c::k)) cs w) b k cs e a' w'
theorem wp_of_lwp {c:Code} {a:Act} {w:World} (h:lwp P c Q a w):(Code.loop c).wp P Q a w :=
 fun b k cs=>let ⟨e,a',w',q,arr⟩:=h b k cs; ⟨e,a',w',q,.of_steps (.one step_loop) arr⟩
theorem lwp_round {c:Code} {a:Act} {w:World} (h:c.wp P (Exit.then (lwp P c Q) Q) a w):lwp P c Q a w:=by
 intro b k cs
 obtain ⟨e,a₁,w₁,hq,harr⟩:=h b (.inLoop c::k) cs
 cases e with
 | normal =>
  obtain ⟨e₂,a₂,w₂,hq₂,harr₂⟩:=hq b k cs
  exact ⟨e₂,a₂,w₂,hq₂,.of_steps (Steps.trans harr (.one step_inLoop)) harr₂⟩
 | exit id=>exact ⟨_,a₁,w₁,hq,.pass (x:=.inLoop c) rfl (fun _ _=>.inl (by simp)) harr⟩
 | goto l=>exact ⟨_,a₁,w₁,hq,.pass (x:=.inLoop c) rfl (fun _ _=>.inl (by simp)) harr⟩
 | ret=>exact ⟨_,a₁,w₁,hq,.pass (x:=.inLoop c) rfl (fun _ _=>.inl (by simp)) harr⟩
 | panic ch=>exact ⟨_,a₁,w₁,hq,.pass (x:=.inLoop c) rfl (fun _ _=>.inl (by simp)) harr⟩
 | outgrown=>exact ⟨_,a₁,w₁,hq,.pass (x:=.inLoop c) rfl (fun _ _=>.inl (by simp)) harr⟩
theorem thn_ok {r:RC} {k:T SV→T Ob→Pos→List SV→RC} {e:X} {fr':T SV} {me':T Ob} {nx':Pos} {dl':List SV} (h:thn r k=.ok e fr' me' nx' dl') :
  (∃ fr me nx dl,r=.ok .nrm fr me nx dl∧k fr me nx dl=.ok e fr' me' nx' dl')∨(r=.ok e fr' me' nx' dl'∧e≠.nrm):=by
 unfold thn at h
 cases r with
 | no=>cases h
 | ok x fr me nx dl =>
  cases x with
  | nrm=>exact .inl ⟨fr,me,nx,dl,rfl,h⟩
  | ext i =>
   have h':RC.ok (.ext i) fr me nx dl=RC.ok e fr' me' nx' dl':=h
   injection h' with h1 h2 h3 h4 h5; subst h1; subst h2; subst h3; subst h4; subst h5
   exact .inr ⟨rfl,by intro e; cases e⟩
  | ret =>
   have h':RC.ok .ret fr me nx dl=RC.ok e fr' me' nx' dl':=h
   injection h' with h1 h2 h3 h4 h5; subst h1; subst h2; subst h3; subst h4; subst h5
   exact .inr ⟨rfl,by intro e; cases e⟩
  | pan v =>
   have h':RC.ok (.pan v) fr me nx dl=RC.ok e fr' me' nx' dl':=h
   injection h' with h1 h2 h3 h4 h5; subst h1; subst h2; subst h3; subst h4; subst h5
   exact .inr ⟨rfl,by intro e; cases e⟩
theorem exi_then {J:Option Nat} {g:G} {e:X} {E:Exit} {nxt:Act→World→Prop} {a:Act} {w:World} (h:Exi J g e E) (he:e≠.nrm) (hq:Q E a w):Exit.then nxt Q E a w:=by
 cases e with
 | nrm=>exact (he rfl).elim
 | ext i=>rcases h with ⟨_,rfl⟩ | ⟨_,m,_,rfl⟩ <;> exact hq
 | ret=>simp only [Exi] at h; subst h; exact hq
 | pan v=>obtain ⟨x,_,rfl⟩:=h; exact hq
theorem rgn_ok {wb:List (Pos × Nat)} {r:RR} {e:X} {fr':T SV} {me':T Ob} {nx':Pos} {dl':List SV} (h:rgn wb fr r=.ok e fr' me' nx' dl') :
  (∃ env,r=.ok env me' nx' dl'∧wbs wb env fr=some fr'∧e=.nrm)∨(∃ v,r=.pan v me' nx' dl'∧fr'=wbf wb fr∧e=.pan v):=by
 unfold rgn at h
 cases r with
 | no=>cases h
 | ok env me nx dl =>
  have h':Option.rec (motive:=fun _=>RC) .no (fun fr=>.ok .nrm fr me nx dl) (wbs wb env fr)=RC.ok e fr' me' nx' dl':=h
  cases hw:wbs wb env fr with
  | none=>rw [hw] at h'; cases h'
  | some f =>
   rw [hw] at h'
   injection h' with h1 h2 h3 h4 h5; subst h1; subst h2; subst h3; subst h4; subst h5
   exact .inl ⟨env,rfl,hw,rfl⟩
 | pan v me nx dl =>
  have h':RC.ok (.pan v) (wbf wb fr) me nx dl=RC.ok e fr' me' nx' dl':=h
  injection h' with h1 h2 h3 h4 h5; subst h1; subst h2; subst h3; subst h4; subst h5
  exact .inr ⟨v,rfl,rfl,rfl⟩
theorem code_bad {c:CC} {me:T Ob} {nx:Pos} {dl:List SV} (h:badC c=true):code cl c fr me nx dl=.no:=by
 unfold badC at h
 split at h
 ·rfl
 ·cases h
theorem code_sound (hcl:SndF P W0 cl) (hF:F.Ok P W0) (hmix:P.follows .mixedOrders=true) (K:Nat):∀ (x:Code) (J:Option Nat) (c:CC),chkC F N K J x c=true→∀ (fr:T SV) (me:T Ob) (nx:Pos) (dl:List SV) (g:G) (a:Act) (w:World) (e:X) (fr':T SV) (me':T Ob) (nx':Pos) (dl':List SV) (Q:Exit→Act→World→Prop),
  Stt W0 R N K g fr me nx dl a w→code cl c fr me nx dl=.ok e fr' me' nx' dl'→(∀ g' E a' w',Exi J g' e E→g.ext g' nx→nx.nat≤nx'.nat→Stt W0 R N K g' fr' me' nx' dl' a' w'→Q E a' w')→x.wp P Q a w:=by
 intro x
 induction x with
 | skip =>
  intro J c hc fr me nx dl g a w e fr' me' nx' dl' Q hS hr hK
  cases c <;> simp only [chkC,Bool.false_eq_true] at hc
  have h':RC.ok .nrm fr me nx dl=RC.ok e fr' me' nx' dl':=hr
  injection h' with h1 h2 h3 h4 h5; subst h1; subst h2; subst h3; subst h4; subst h5
  exact wp_skip (hK g .normal a w rfl (G.ext.refl _ _) (Nat.le_refl _) hS)
 | label l =>
  intro J c hc fr me nx dl g a w e fr' me' nx' dl' Q hS hr hK
  cases c <;> simp only [chkC,Bool.false_eq_true] at hc
  have h':RC.ok .nrm fr me nx dl=RC.ok e fr' me' nx' dl':=hr
  injection h' with h1 h2 h3 h4 h5; subst h1; subst h2; subst h3; subst h4; subst h5
  exact wp_label (hK g .normal a w rfl (G.ext.refl _ _) (Nat.le_refl _) hS)
 | rangeFunc f ps x y _ _ =>
  intro J c hc fr me nx dl g a w e fr' me' nx' dl' Q hS hr hK
  simp only [chkC] at hc
  rw [code_bad hc] at hr; cases hr
 | goto l =>
  intro J c hc fr me nx dl g a w e fr' me' nx' dl' Q hS hr hK
  by_cases he:∃ j,c=.exit j
  ·obtain ⟨j,rfl⟩:=he
   cases J with
   | none=>simp [chkC] at hc
   | some m =>
    simp only [chkC,Bool.and_eq_true] at hc
    have e1:=Nat.eq_of_beq_eq_true hc.1; subst e1
    have e2:=Nat.eq_of_beq_eq_true hc.2; subst e2
    have h':RC.ok (.ext 1000) fr me nx dl=RC.ok e fr' me' nx' dl':=hr
    injection h' with h1 h2 h3 h4 h5; subst h1; subst h2; subst h3; subst h4; subst h5
    exact wp_goto (hK g _ a w (.inr ⟨rfl,_,rfl,rfl⟩) (G.ext.refl _ _) (Nat.le_refl _) hS)
  ·have hc':badC c=true:=by
    cases c <;> first | exact (he ⟨_,rfl⟩).elim | simpa only [chkC] using hc
   rw [code_bad hc'] at hr; cases hr
 | region id opr draw =>
  intro J c hc fr me nx dl g a w e fr' me' nx' dl' Q hS hr hK
  cases draw with
  | false =>
   cases c <;> simp only [chkC,Bool.false_eq_true] at hc
   rename_i cs wb
   simp only [Bool.and_eq_true] at hc
   obtain ⟨⟨c1,c2⟩,c3⟩:=hc
   have hr':rgn wb fr (ops cl fr cs [] me nx dl)=.ok e fr' me' nx' dl':=hr
   refine wp_region_L ?_
   rcases rgn_ok hr' with ⟨env,h1,h2,rfl⟩ | ⟨v,h1,h2,rfl⟩
   ·refine ops_sound hcl hF opr.toList cs [] [] me nx dl g a w _ c1 h1 (by intro e; cases e) (Env.start hS.frm) hS.size hS.dfs hS.fresh hS.sts (fun env' me1 nx1 dl1 e1 g' a' w' k1 k2 k3 k4 k5 k6 k7=>?_) (fun v me1 nx1 dl1 e1=>by cases e1)
    injection e1 with e1 e2 e3 e4; subst e1; subst e2; subst e3; subst e4
    obtain ⟨f1,f2⟩:=wbs_frm hS.kept c2 c3 k4 h2
    exact hK g' .normal a' w' rfl k1 k3 ⟨f1,f2,k5,k6,k2,k7⟩
   ·refine ops_sound hcl hF opr.toList cs [] [] me nx dl g a w _ c1 h1 (by intro e; cases e) (Env.start hS.frm) hS.size hS.dfs hS.fresh hS.sts (fun env' me1 nx1 dl1 e1=>by cases e1) (fun v me1 nx1 dl1 e1 g' x a' w' k1 k2 k3 k4 k5 k6 k7 k8=>?_)
    injection e1 with e1 e2 e3 e4; subst e1; subst e2; subst e3; subst e4
    obtain ⟨f1,f2⟩:=wbf_frm (wb:=wb) hS.kept c3 hS.frm k5
    subst h2
    refine hK g' _ a' w' ⟨x,k4,rfl⟩ k1 k3 ⟨fun p v hg=>?_,f2,k6,k7,k2,k8⟩
    obtain ⟨y,y1,y2⟩:=f1 p v hg
    exact ⟨y,den_mono (k1.le hS.fresh) _ _ y1,y2⟩
  | true =>
   cases c <;> simp only [chkC,Bool.false_eq_true] at hc
   rename_i pm cs wb
   simp only [Bool.and_eq_true] at hc
   obtain ⟨⟨c1,c2⟩,c3⟩:=hc
   have hr':rgn wb fr (RD.rr (hasFb cs) (dops cl fr cs [] me nx dl))=.ok e fr' me' nx' dl':=hr
   rcases rgn_ok hr' with ⟨env,h1,h2,rfl⟩ | ⟨v,h1,h2,rfl⟩
   ·cases hd:dops cl fr cs [] me nx dl with
    | no=>rw [hd] at h1; cases h1
    | pan v m n d ms =>
     rw [hd] at h1
     have h1':(bif hasFb cs then RR.no else RR.pan v m n d)=RR.ok env me' nx' dl':=h1
     cases hb:hasFb cs <;> (rw [hb] at h1'; cases h1')
    | ok env1 m n d ms =>
     rw [hd] at h1
     have h1':RR.ok env1 m n d=RR.ok env me' nx' dl':=h1
     injection h1' with e1 e2 e3 e4; subst e1; subst e2; subst e3; subst e4
     refine drw_sound hcl hF hmix c1 hd (by intro e; cases e) (.inr ⟨_,_,_,_,_,rfl⟩) hS.frm hS.size hS.dfs hS.fresh hS.sts (fun env' me1 nx1 dl1 ms1 e1 g' a' w' k1 k2 k3 k4 k5 k6 k7=>?_) (fun v me1 nx1 dl1 ms1 e1=>by cases e1)
     injection e1 with e1 e2 e3 e4; subst e1; subst e2; subst e3; subst e4
     obtain ⟨f1,f2⟩:=wbs_frm hS.kept c2 c3 k4 h2
     exact hK g' .normal a' w' rfl k1 k3 ⟨f1,f2,k5,k6,k2,k7⟩
   ·cases hd:dops cl fr cs [] me nx dl with
    | no=>rw [hd] at h1; cases h1
    | ok env1 m n d ms=>rw [hd] at h1; cases h1
    | pan v1 m n d ms =>
     rw [hd] at h1
     have h1':(bif hasFb cs then RR.no else RR.pan v1 m n d)=RR.pan v me' nx' dl':=h1
     cases hb:hasFb cs with
     | true=>rw [hb] at h1'; cases h1'
     | false =>
     rw [hb] at h1'
     injection h1' with e1 e2 e3 e4; subst e1; subst e2; subst e3; subst e4
     refine drw_sound hcl hF hmix c1 hd (by intro e; cases e) (.inl hb) hS.frm hS.size hS.dfs hS.fresh hS.sts (fun env' me1 nx1 dl1 ms1 e1=>by cases e1) (fun v me1 nx1 dl1 ms1 e1 g' x a' w' k1 k2 k3 k4 k5 k6 k7 k8=>?_)
     injection e1 with e1 e2 e3 e4; subst e1; subst e2; subst e3; subst e4
     obtain ⟨f1,f2⟩:=wbf_frm (wb:=wb) hS.kept c3 hS.frm k5
     subst h2
     refine hK g' _ a' w' ⟨x,k4,rfl⟩ k1 k3 ⟨fun p v hg=>?_,f2,k6,k7,k2,k8⟩
     obtain ⟨y,y1,y2⟩:=f1 p v hg
     exact ⟨y,den_mono (k1.le hS.fresh) _ _ y1,y2⟩
 | seq x y ihx ihy =>
  intro J c hc fr me nx dl g a w e fr' me' nx' dl' Q hS hr hK
  cases c <;> simp only [chkC,Bool.false_eq_true] at hc
  rename_i c d
  simp only [Bool.and_eq_true] at hc
  have hr':thn (code cl c fr me nx dl) (code cl d)=.ok e fr' me' nx' dl':=hr
  refine wp_seq ?_
  rcases thn_ok hr' with ⟨fr1,me1,nx1,dl1,h1,h2⟩ | ⟨h1,h2⟩
  ·refine ihx J c hc.1 fr me nx dl g a w .nrm fr1 me1 nx1 dl1 _ hS h1 (fun g' E a' w' hE k1 k2 hS'=>?_)
   simp only [Exi] at hE; subst hE
   exact ihy J d hc.2 fr1 me1 nx1 dl1 g' a' w' e fr' me' nx' dl' Q hS' h2 (fun g'' E a'' w'' hE j1 j2 hS''=>hK g'' E a'' w'' hE (k1.trans j1 k2) (Nat.le_trans k2 j2) hS'')
  ·exact ihx J c hc.1 fr me nx dl g a w e fr' me' nx' dl' _ hS h1 (fun g' E a' w' hE k1 k2 hS'=>exi_then hE h2 (hK g' E a' w' hE k1 k2 hS'))
 | cond o x y ihx ihy =>
  intro J c hc fr me nx dl g a w e fr' me' nx' dl' Q hS hr hK
  cases c <;> simp only [chkC,Bool.false_eq_true] at hc
  rename_i c p q
  simp only [Bool.and_eq_true] at hc
  have hr':cnd (on fr [] c) (code cl p fr me nx dl) (code cl q fr me nx dl)=.ok e fr' me' nx' dl':=hr
  unfold cnd at hr'
  split at hr'
  ·rename_i t ht
   have he:=den_b (oqB_sound (Env.start hS.frm) hc.1.1 ht)
   cases t with
   | true=>exact wp_cond_true he (ihx J p hc.1.2 fr me nx dl g a w e fr' me' nx' dl' Q hS (by simpa using hr') hK)
   | false=>exact wp_cond_false he (ihy J q hc.2 fr me nx dl g a w e fr' me' nx' dl' Q hS (by simpa using hr') hK)
  ·cases hr'
 | block i x ih =>
  intro J c hc fr me nx dl g a w e fr' me' nx' dl' Q hS hr hK
  cases c <;> simp only [chkC,Bool.false_eq_true] at hc
  rename_i j c
  simp only [Bool.and_eq_true] at hc
  have:=Nat.eq_of_beq_eq_true hc.1.1; subst this
  have hi:i < 999:=by have:=Nat.le_of_ble_eq_true hc.1.2; omega
  have hr':blk i (code cl c fr me nx dl)=.ok e fr' me' nx' dl':=hr
  unfold blk at hr'
  refine wp_block ?_
  cases hcd:code cl c fr me nx dl with
  | no=>rw [hcd] at hr'; cases hr'
  | ok x1 fr1 me1 nx1 dl1 =>
   rw [hcd] at hr'
   refine ih J c hc.2 fr me nx dl g a w x1 fr1 me1 nx1 dl1 _ hS hcd (fun g' E a' w' hE k1 k2 hS'=>?_)
   cases x1 with
   | nrm =>
    have h':RC.ok .nrm fr1 me1 nx1 dl1=RC.ok e fr' me' nx' dl':=hr'
    injection h' with h1 h2 h3 h4 h5; subst h1; subst h2; subst h3; subst h4; subst h5
    simp only [Exi] at hE; subst hE
    exact hK g' .normal a' w' rfl k1 k2 hS'
   | ext l =>
    have h':(bif Nat.beq l i then RC.ok .nrm fr1 me1 nx1 dl1 else .ok (.ext l) fr1 me1 nx1 dl1)=RC.ok e fr' me' nx' dl':=hr'
    cases hb:Nat.beq l i with
    | true =>
     rw [hb] at h'
     have:=Nat.eq_of_beq_eq_true hb; subst this
     injection h' with h1 h2 h3 h4 h5; subst h1; subst h2; subst h3; subst h4; subst h5
     rcases hE with ⟨_,rfl⟩ | ⟨e1,_⟩
     ·simp only [Exit.inBlock,if_true]
      exact hK g' .normal a' w' rfl k1 k2 hS'
     ·omega
    | false =>
     rw [hb] at h'
     have hne:l≠i:=fun e=>by subst e; simp at hb
     injection h' with h1 h2 h3 h4 h5; subst h1; subst h2; subst h3; subst h4; subst h5
     rcases hE with ⟨e1,rfl⟩ | ⟨e1,m,e2,rfl⟩
     ·simp only [Exit.inBlock,if_neg hne]
      exact hK g' (.exit l) a' w' (.inl ⟨e1,rfl⟩) k1 k2 hS'
     ·exact hK g' (.goto m) a' w' (.inr ⟨e1,m,e2,rfl⟩) k1 k2 hS'
   | ret =>
    have h':RC.ok .ret fr1 me1 nx1 dl1=RC.ok e fr' me' nx' dl':=hr'
    injection h' with h1 h2 h3 h4 h5; subst h1; subst h2; subst h3; subst h4; subst h5
    simp only [Exi] at hE; subst hE
    exact hK g' .ret a' w' rfl k1 k2 hS'
   | pan v =>
    have h':RC.ok (.pan v) fr1 me1 nx1 dl1=RC.ok e fr' me' nx' dl':=hr'
    injection h' with h1 h2 h3 h4 h5; subst h1; subst h2; subst h3; subst h4; subst h5
    obtain ⟨x,y1,rfl⟩:=hE
    exact hK g' _ a' w' ⟨x,y1,rfl⟩ k1 k2 hS'
 | loop x ih =>
  intro J c hc fr me nx dl g a w e fr' me' nx' dl' Q hS hr hK
  cases c <;> simp only [chkC,Bool.false_eq_true] at hc
  rename_i c
  have hr':loopN 4096 (code cl c) fr me nx dl=.ok e fr' me' nx' dl':=hr
  refine wp_of_lwp ?_
  generalize 4096=n at hr'
  clear hr
  induction n generalizing fr me nx dl g a w with
  | zero=>cases hr'
  | succ n ihn =>
   have hr2:thn (code cl c fr me nx dl) (loopN n (code cl c))=.ok e fr' me' nx' dl':=hr'
   refine lwp_round ?_
   rcases thn_ok hr2 with ⟨fr1,me1,nx1,dl1,h1,h2⟩ | ⟨h1,h2⟩
   ·refine ih J c hc fr me nx dl g a w .nrm fr1 me1 nx1 dl1 _ hS h1 (fun g' E a' w' hE k1 k2 hS'=>?_)
    simp only [Exi] at hE; subst hE
    exact ihn fr1 me1 nx1 dl1 g' a' w' hS' (fun g'' E a'' w'' hE j1 j2 hS''=>hK g'' E a'' w'' hE (k1.trans j1 k2) (Nat.le_trans k2 j2) hS'') h2
   ·exact ih J c hc fr me nx dl g a w e fr' me' nx' dl' _ hS h1 (fun g' E a' w' hE k1 k2 hS'=>exi_then hE h2 (hK g' E a' w' hE k1 k2 hS'))
 | scope x ih =>
  intro J c hc fr me nx dl g a w e fr' me' nx' dl' Q hS hr hK
  have hc':chkC F N K none x c=true:=by cases c <;> simpa only [chkC] using hc
  refine wp_scope_straight (ih none c hc' fr me nx dl g a w e fr' me' nx' dl' _ hS hr (fun g' E a' w' hE k1 k2 hS'=>?_))
  cases e with
  | nrm=>simp only [Exi] at hE; subst hE; exact hK g' _ a' w' rfl k1 k2 hS'
  | ext i =>
   rcases hE with ⟨e1,rfl⟩ | ⟨_,_,e2,_⟩
   ·exact hK g' (.exit i) a' w' (.inl ⟨e1,rfl⟩) k1 k2 hS'
   ·cases e2
  | ret=>simp only [Exi] at hE; subst hE; exact hK g' _ a' w' rfl k1 k2 hS'
  | pan v=>obtain ⟨x,y1,rfl⟩:=hE; exact hK g' _ a' w' ⟨x,y1,rfl⟩ k1 k2 hS'
 | exit i =>
  intro J c hc fr me nx dl g a w e fr' me' nx' dl' Q hS hr hK
  cases c <;> simp only [chkC,Bool.false_eq_true] at hc
  simp only [Bool.and_eq_true] at hc
  have:=Nat.eq_of_beq_eq_true hc.1; subst this
  have hi:i < 999:=by have:=Nat.le_of_ble_eq_true hc.2; omega
  have h':RC.ok (.ext i) fr me nx dl=RC.ok e fr' me' nx' dl':=hr
  injection h' with h1 h2 h3 h4 h5; subst h1; subst h2; subst h3; subst h4; subst h5
  exact wp_exit (hK g _ a w (.inl ⟨hi,rfl⟩) (G.ext.refl _ _) (Nat.le_refl _) hS)
 | ret =>
  intro J c hc fr me nx dl g a w e fr' me' nx' dl' Q hS hr hK
  cases c <;> simp only [chkC,Bool.false_eq_true] at hc
  have h':RC.ok .ret fr me nx dl=RC.ok e fr' me' nx' dl':=hr
  injection h' with h1 h2 h3 h4 h5; subst h1; subst h2; subst h3; subst h4; subst h5
  exact wp_ret (hK g .ret a w rfl (G.ext.refl _ _) (Nat.le_refl _) hS)
 | _ =>
  intro J c hc
  cases c <;> simp only [chkC,Bool.false_eq_true] at hc
def chkS (F:FT) (N K:Nat) (x:Code) (c:CC):Bool:=match c with
 | .block 999 (.seq (.block 1000 (.seq c (.exit 999))) d)=>(match findLabel x 0 with | some r=>chkC F N K (some 0) x c && chkC F N K none r d | none=>false)
 | _=>false
def chkC1 (F:FT) (N K:Nat):Code→CC→Bool
 | .seq x y,.seq c d=>chkC F N K none x c && chkC1 F N K y d
 | .scope x,c=>chkC F N K none x c || chkS F N K x c
 | x,c=>chkC F N K none x c
theorem code_sound1 (hcl:SndF P W0 cl) (hF:F.Ok P W0) (hmix:P.follows .mixedOrders=true) (K:Nat):∀ (x:Code) (c:CC),chkC1 F N K x c=true→∀ (fr:T SV) (me:T Ob) (nx:Pos) (dl:List SV) (g:G) (a:Act) (w:World) (e:X) (fr':T SV) (me':T Ob) (nx':Pos) (dl':List SV) (Q:Exit→Act→World→Prop),
  Stt W0 R N K g fr me nx dl a w→code cl c fr me nx dl=.ok e fr' me' nx' dl'→(∀ g' E a' w',Exi none g' e E→g.ext g' nx→nx.nat≤nx'.nat→Stt W0 R N K g' fr' me' nx' dl' a' w'→Q E a' w')→x.wp P Q a w:=by
 intro x
 induction x with
 | seq x y ihx ihy =>
  intro c hc fr me nx dl g a w e fr' me' nx' dl' Q hS hr hK
  cases c <;> simp only [chkC1,chkC,Bool.false_eq_true] at hc
  rename_i c d
  simp only [Bool.and_eq_true] at hc
  have hr':thn (code cl c fr me nx dl) (code cl d)=.ok e fr' me' nx' dl':=hr
  refine wp_seq ?_
  rcases thn_ok hr' with ⟨fr1,me1,nx1,dl1,h1,h2⟩ | ⟨h1,h2⟩
  ·refine code_sound hcl hF hmix K x none c hc.1 fr me nx dl g a w .nrm fr1 me1 nx1 dl1 _ hS h1 (fun g' E a' w' hE k1 k2 hS'=>?_)
   simp only [Exi] at hE; subst hE
   exact ihy d hc.2 fr1 me1 nx1 dl1 g' a' w' e fr' me' nx' dl' Q hS' h2 (fun g'' E a'' w'' hE j1 j2 hS''=>hK g'' E a'' w'' hE (k1.trans j1 k2) (Nat.le_trans k2 j2) hS'')
  ·exact code_sound hcl hF hmix K x none c hc.1 fr me nx dl g a w e fr' me' nx' dl' _ hS h1 (fun g' E a' w' hE k1 k2 hS'=>exi_then hE h2 (hK g' E a' w' hE k1 k2 hS'))
 | scope x ih =>
  intro c hc fr me nx dl g a w e fr' me' nx' dl' Q hS hr hK
  have hc':(chkC F N K none x c || chkS F N K x c)=true:=by cases c <;> simpa only [chkC1] using hc
  simp only [Bool.or_eq_true] at hc'
  rcases hc' with hc' | hc'
  ·exact code_sound hcl hF hmix K (.scope x) none c (by cases c <;> simpa only [chkC] using hc') fr me nx dl g a w e fr' me' nx' dl' Q hS hr hK
  ·unfold chkS at hc'
   split at hc'
   ·rename_i c d
    split at hc'
    ·rename_i r hl
     simp only [Bool.and_eq_true] at hc'
     have hr1:blk 999 (thn (blk 1000 (thn (code cl c fr me nx dl) (fun fr me nx dl=>.ok (.ext 999) fr me nx dl))) (code cl d))=.ok e fr' me' nx' dl':=hr
     cases hcd:code cl c fr me nx dl with
     | no=>rw [hcd] at hr1; cases hr1
     | ok x1 fr1 me1 nx1 dl1 =>
      rw [hcd] at hr1
      cases x1 with
      | nrm =>
       have h':RC.ok .nrm fr1 me1 nx1 dl1=RC.ok e fr' me' nx' dl':=hr1
       injection h' with h1 h2 h3 h4 h5; subst h1; subst h2; subst h3; subst h4; subst h5
       refine wp_scope_jumps 0 (fun _ _=>False) (fun _ _=>0) hl (code_sound hcl hF hmix K x (some 0) c hc'.1 fr me nx dl g a w .nrm fr1 me1 nx1 dl1 _ hS hcd (fun g' E a' w' hE k1 k2 hS'=>?_)) (fun _ _ h=>h.elim)
       simp only [Exi] at hE; subst hE
       exact hK g' .normal a' w' rfl k1 k2 hS'
      | ext i =>
       by_cases hi:i=1000
       ·subst hi
        have h':blk 999 (code cl d fr1 me1 nx1 dl1)=RC.ok e fr' me' nx' dl':=hr1
        refine wp_scope_jumps 0 (fun a' w'=>∃ g',g.ext g' nx∧nx.nat≤nx1.nat∧Stt W0 R N K g' fr1 me1 nx1 dl1 a' w') (fun _ _=>0) hl (code_sound hcl hF hmix K x (some 0) c hc'.1 fr me nx dl g a w (.ext 1000) fr1 me1 nx1 dl1 _ hS hcd (fun g' E a' w' hE k1 k2 hS'=>?_)) (fun a1 w1 hJ=>?_)
        ·rcases hE with ⟨e1,_⟩ | ⟨_,m,e2,rfl⟩
         ·omega
         ·injection e2 with e2; subst e2
          exact ⟨rfl,g',k1,k2,hS'⟩
        ·obtain ⟨g1,k1,k2,hS1⟩:=hJ
         cases hd:code cl d fr1 me1 nx1 dl1 with
         | no=>rw [hd] at h'; cases h'
         | ok x2 fr2 me2 nx2 dl2 =>
          rw [hd] at h'
          refine code_sound hcl hF hmix K r none d hc'.2 fr1 me1 nx1 dl1 g1 a1 w1 x2 fr2 me2 nx2 dl2 _ hS1 hd (fun g' E a' w' hE j1 j2 hS'=>?_)
          cases x2 with
          | nrm =>
           have h'':RC.ok .nrm fr2 me2 nx2 dl2=RC.ok e fr' me' nx' dl':=h'
           injection h'' with h1 h2 h3 h4 h5; subst h1; subst h2; subst h3; subst h4; subst h5
           simp only [Exi] at hE; subst hE
           exact hK g' .normal a' w' rfl (k1.trans j1 k2) (Nat.le_trans k2 j2) hS'
          | ext i =>
           rcases hE with ⟨e1,rfl⟩ | ⟨_,_,e2,_⟩
           ·have h'':(bif Nat.beq i 999 then RC.ok .nrm fr2 me2 nx2 dl2 else .ok (.ext i) fr2 me2 nx2 dl2)=RC.ok e fr' me' nx' dl':=h'
            cases hb:Nat.beq i 999 with
            | true=>exact absurd (Nat.eq_of_beq_eq_true hb) (by omega)
            | false =>
             rw [hb] at h''
             injection h'' with h1 h2 h3 h4 h5; subst h1; subst h2; subst h3; subst h4; subst h5
             exact hK g' (.exit i) a' w' (.inl ⟨e1,rfl⟩) (k1.trans j1 k2) (Nat.le_trans k2 j2) hS'
           ·cases e2
          | ret =>
           have h'':RC.ok .ret fr2 me2 nx2 dl2=RC.ok e fr' me' nx' dl':=h'
           injection h'' with h1 h2 h3 h4 h5; subst h1; subst h2; subst h3; subst h4; subst h5
           simp only [Exi] at hE; subst hE
           exact hK g' .ret a' w' rfl (k1.trans j1 k2) (Nat.le_trans k2 j2) hS'
          | pan v =>
           have h'':RC.ok (.pan v) fr2 me2 nx2 dl2=RC.ok e fr' me' nx' dl':=h'
           injection h'' with h1 h2 h3 h4 h5; subst h1; subst h2; subst h3; subst h4; subst h5
           obtain ⟨y,y1,rfl⟩:=hE
           exact hK g' _ a' w' ⟨y,y1,rfl⟩ (k1.trans j1 k2) (Nat.le_trans k2 j2) hS'
       ·have hj:∀ g' E,Exi (some 0) g' (.ext i) E→i < 999∧E=.exit i:=fun g' E hE=>by
         rcases hE with h | ⟨h,_⟩
         ·exact h
         ·exact (hi h).elim
        have hb1:Nat.beq i 1000=false:=by
         cases hb:Nat.beq i 1000 with
         | true=>exact (hi (Nat.eq_of_beq_eq_true hb)).elim
         | false=>rfl
        have h':blk 999 (thn (bif Nat.beq i 1000 then RC.ok .nrm fr1 me1 nx1 dl1 else .ok (.ext i) fr1 me1 nx1 dl1) (code cl d))=RC.ok e fr' me' nx' dl':=hr1
        rw [hb1] at h'
        refine wp_scope_jumps 0 (fun _ _=>False) (fun _ _=>0) hl (code_sound hcl hF hmix K x (some 0) c hc'.1 fr me nx dl g a w (.ext i) fr1 me1 nx1 dl1 _ hS hcd (fun g' E a' w' hE k1 k2 hS'=>?_)) (fun _ _ h=>h.elim)
        obtain ⟨hi',rfl⟩:=hj g' E hE
        have h'':(bif Nat.beq i 999 then RC.ok .nrm fr1 me1 nx1 dl1 else .ok (.ext i) fr1 me1 nx1 dl1)=RC.ok e fr' me' nx' dl':=h'
        cases hb:Nat.beq i 999 with
        | true=>exact absurd (Nat.eq_of_beq_eq_true hb) (by omega)
        | false =>
         rw [hb] at h''
         injection h'' with h1 h2 h3 h4 h5; subst h1; subst h2; subst h3; subst h4; subst h5
         exact hK g' (.exit i) a' w' (.inl ⟨hi',rfl⟩) k1 k2 hS'
      | ret =>
       have h':RC.ok .ret fr1 me1 nx1 dl1=RC.ok e fr' me' nx' dl':=hr1
       injection h' with h1 h2 h3 h4 h5; subst h1; subst h2; subst h3; subst h4; subst h5
       refine wp_scope_jumps 0 (fun _ _=>False) (fun _ _=>0) hl (code_sound hcl hF hmix K x (some 0) c hc'.1 fr me nx dl g a w .ret fr1 me1 nx1 dl1 _ hS hcd (fun g' E a' w' hE k1 k2 hS'=>?_)) (fun _ _ h=>h.elim)
       simp only [Exi] at hE; subst hE
       exact hK g' .ret a' w' rfl k1 k2 hS'
      | pan v =>
       have h':RC.ok (.pan v) fr1 me1 nx1 dl1=RC.ok e fr' me' nx' dl':=hr1
       injection h' with h1 h2 h3 h4 h5; subst h1; subst h2; subst h3; subst h4; subst h5
       refine wp_scope_jumps 0 (fun _ _=>False) (fun _ _=>0) hl (code_sound hcl hF hmix K x (some 0) c hc'.1 fr me nx dl g a w (.pan v) fr1 me1 nx1 dl1 _ hS hcd (fun g' E a' w' hE k1 k2 hS'=>?_)) (fun _ _ h=>h.elim)
       obtain ⟨y,y1,rfl⟩:=hE
       exact hK g' _ a' w' ⟨y,y1,rfl⟩ k1 k2 hS'
    ·cases hc'
   ·cases hc'
 | _ =>
  intro c hc fr me nx dl g a w e fr' me' nx' dl' Q hS hr hK
  exact code_sound hcl hF hmix K _ none c (by simpa only [chkC1] using hc) fr me nx dl g a w e fr' me' nx' dl' Q hS hr hK
end
end
noncomputable section
open Go.RowKit
structure Endd (P:Program):Prop where
 inv:∀ x w,(invoke (.fn (.func 55) #[]) #[x]).run P w=.ok (.enter 55 #[x]) w
 quiet:∀ (x:Value) (W:World),CallsD P 55 #[x] .returning W fun e u' w'=>(∃ v,e=.returned v)∧u'=.returning∧∀ W0 L,Sts W0 W L→Sts W0 w' L
 caught:∀ (b o t:Nat) (C:List Value) (k:IntKind) (n:Int) (W0 W:World) (L:List Thing),Sts W0 W (Bk b t C::L)→o < C.length→CallsD P 55 #[.pointer (some ⟨b,o,none⟩)] (.panicking (chain (.int k n))) W fun e u' w'=>(∃ v,e=.returned v)∧settle u'=.returning∧Sts W0 w' (Bk b t (C.set o (.int k n))::L)
def chkRV (F:FT):ResultVar→RVr→Bool
 | .tmp t,.t p=>Nat.beq p.nat (t + 1)
 | .cell t ty,.c p n ag=>Nat.beq p.nat (t + 1) && (if ag then F.many ty n else F.one ty)
 | _,_=>false
def chkRs (F:FT):List ResultVar→List RVr→Bool
 | [],[]=>true
 | r::rs,q::qs=>chkRV F r q && chkRs F rs qs
 | _,_=>false
def bits (K:Nat):Nat→Bool
 | 0=>true
 | n + 1=>K.testBit n && bits K n
theorem bits_spec {K:Nat}:∀ {n i:Nat},bits K n=true→i < n→K.testBit i=true
 | 0,i,_,h=>by omega
 | n + 1,i,hb,h=>by
  simp only [bits,Bool.and_eq_true] at hb
  by_cases e:i=n
  ·subst e; exact hb.1
  ·exact bits_spec hb.2 (by omega)
def chkF (F:FT) (fn:Func) (cf:CF):Bool:=match fn.body with
 | some c=>chkC1 F fn.ntmps cf.keep c cf.body && chkRs F fn.results.toList cf.res && Nat.ble cf.np fn.ntmps && bits cf.keep cf.np
 | none=>false
theorem args_get:∀ (vs:List SV) (q:Pos) (fr:T SV) (p:Pos),(∃ i v,p.nat=q.nat + i∧vs[i]?=some v∧T.get p (args vs q fr)=some v)∨((∀ i,i < vs.length→p.nat≠q.nat + i)∧T.get p (args vs q fr)=T.get p fr)
 | [],q,fr,p=>.inr ⟨fun i h=>by simp at h,rfl⟩
 | v::r,q,fr,p=>by
  have h':args (v::r) q fr=args r q.succ (T.put q (some v) fr):=rfl
  rw [h']
  rcases args_get r q.succ (T.put q (some v) fr) p with ⟨i,u,h1,h2,h3⟩ | ⟨h1,h2⟩
  ·rw [Pos.nat_succ] at h1
   exact .inl ⟨i + 1,u,by omega,by simpa using h2,h3⟩
  ·by_cases e:p=q
   ·subst e
    exact .inl ⟨0,v,rfl,rfl,by rw [h2,EV.T.get_same]⟩
   ·refine .inr ⟨fun i hi=>?_,by rw [h2,EV.T.get_other _ q p fr e]⟩
    cases i with
    | zero=>intro e'; exact e (nat_inj (by omega))
    | succ i =>
     have:=h1 i (by simpa using hi)
     rw [Pos.nat_succ] at this; omega
section
variable {P:Program} {W0 w:World} {R:List Thing} {F:FT} {cl:CL} {g:G} {me:T Ob} {nx:Pos} {fr:T SV} {tm:Array Value}
theorem ret_one {t:TypeId} (h1:One P t) (hm:Sts W0 w (mem g me++R)) {a v:SV} {y:Value} (hy:den g a=some y) (h:ldV me a=some v):∃ x,den g v=some x∧∃ ad,y=.pointer (some ad)∧(loadVar t ad).run P w=.ok x w:=by
 unfold ldV at h
 split at h
 ·rename_i i o
  obtain ⟨q,e1,e2⟩:=den_p hy
  cases hc:cellsOf me i with
  | none=>simp [hc] at h
  | some cs =>
   rw [hc] at h
   simp only [nth_eq] at h
   obtain ⟨q',xs,k1,k2,k3⟩:=cells_at hm hc
   obtain rfl:q=q':=by rw [e1] at k1; exact Option.some.inj k1
   obtain ⟨x,h3,h4⟩:=dens_get k2 h
   have hrd:=k3 o x h3
   exact ⟨x,den1_3 h4,_,e2,by simp only [loadVar,Sem.run_bind,h1 w,Result.andThen_ok,Bool.false_eq_true,if_false,run_load,hrd]⟩
 ·cases h
theorem ret_many {t:TypeId} {n:Nat} (h1:Many P t n) (hm:Sts W0 w (mem g me++R)) {a v:SV} {y:Value} (hy:den g a=some y) (h:ldN me n a=some v):∃ x,den g v=some x∧∃ ad,y=.pointer (some ad)∧(loadVar t ad).run P w=.ok x w:=by
 unfold ldN at h
 split at h
 ·rename_i i o
  obtain ⟨q,e1,e2⟩:=den_p hy
  cases hc:cellsOf me i with
  | none=>simp [hc] at h
  | some cs =>
   rw [hc] at h
   cases hsb:sub o n cs with
   | none=>simp [hsb] at h
   | some l =>
    simp only [hsb,Option.some.injEq] at h; subst h
    obtain ⟨q',xs,k1,k2,k3⟩:=cells_at hm hc
    obtain rfl:q=q':=by rw [e1] at k1; exact Option.some.inj k1
    obtain ⟨s1,s2⟩:=sub_spec hsb
    have hd:=dens_take n (dens_drop o k2)
    rw [← s1] at hd
    have hl:((xs.drop o).take n).length=n:=by simp [dens_len k2]; omega
    refine ⟨_,den_a' hd,_,e2,?_⟩
    have hr:(loadCells ⟨q.1,o,none⟩ n).run P w=.ok ((xs.drop o).take n).toArray w:=by
     have:=load_cells (P:=P) (w:=w) (a:=⟨q.1,o,none⟩) (cs:=(xs.drop o).take n) (fun j hj=>by
      rw [add_off]
      have hj':j < n:=by rw [hl] at hj; exact hj
      have:xs[o + j]?=((xs.drop o).take n)[j]?:=by rw [List.getElem?_take_of_lt hj',List.getElem?_drop]
      rw [← this]
      have hlt:o + j < xs.length:=by rw [dens_len k2]; omega
      rw [List.getElem?_eq_getElem hlt]
      exact k3 _ _ (List.getElem?_eq_getElem hlt))
     rw [hl] at this; exact this
    simp only [loadVar,Sem.run_bind,(h1 w).1,(h1 w).2,Result.andThen_ok,if_true,hr,Sem.run_pure]
 ·cases h
theorem resV_sound (hF:F.Ok P W0) (hfr:Frm g fr tm) (hm:Sts W0 w (mem g me++R)) {r:ResultVar} {q:RVr} {v:SV} (hc:chkRV F r q=true) (h:resV q fr me=some v):∃ x,den g v=some x∧(rdR tm r).run P w=.ok x w:=by
 unfold chkRV at hc
 split at hc
 ·rename_i t p
  have hp:=Nat.eq_of_beq_eq_true hc
  have h':T.get p fr=some v:=h
  obtain ⟨x,h1,h2⟩:=hfr p v h'
  rw [hp] at h2
  refine ⟨x,h1,?_⟩
  have h3:tm[t]?=some x:=by simpa using h2
  simp [rdR,Array.getD_eq_getD_getElem?,h3]
 ·rename_i t ty p n ag
  simp only [Bool.and_eq_true] at hc
  have hp:=Nat.eq_of_beq_eq_true hc.1
  have h':Option.rec (motive:=fun _=>Option SV) none (fun v=>bif ag then ldN me n v else ldV me v) (T.get p fr)=some v:=h
  cases hg:T.get p fr with
  | none=>rw [hg] at h'; cases h'
  | some u =>
   rw [hg] at h'
   obtain ⟨y,h1,h2⟩:=hfr p u hg
   rw [hp] at h2
   have h3:tm[t]?=some y:=by simpa using h2
   cases ag with
   | true =>
    have hc2:F.many ty n=true:=by simpa using hc.2
    obtain ⟨x,k1,ad,k2,k3⟩:=ret_many (hF.many _ _ hc2) hm h1 (by simpa using h')
    subst k2
    exact ⟨x,k1,by simp only [rdR,Array.getD_eq_getD_getElem?,h3,Option.getD_some,asAddr,Sem.run_bind,Sem.run_pure,Result.andThen_ok,k3]⟩
   | false =>
    have hc2:F.one ty=true:=by simpa using hc.2
    obtain ⟨x,k1,ad,k2,k3⟩:=ret_one (hF.one _ hc2) hm h1 (by simpa using h')
    subst k2
    exact ⟨x,k1,by simp only [rdR,Array.getD_eq_getD_getElem?,h3,Option.getD_some,asAddr,Sem.run_bind,Sem.run_pure,Result.andThen_ok,k3]⟩
 ·cases hc
theorem nt_den2 {v:SV} {x:Value} (h:nt v=true) (hd:den g v=some x):den2 g v=some x:=by
 cases v with
 | t l=>cases h
 | _=>exact hd
theorem resL_sound (hF:F.Ok P W0) (hfr:Frm g fr tm) (hm:Sts W0 w (mem g me++R)):∀ {rs:List ResultVar} {qs:List RVr} {vs:List SV},chkRs F rs qs=true→resL qs fr me=some vs→∃ xs,dens (den2 g) vs=some xs∧(rs.mapM (rdR tm)).run P w=.ok xs w
 | [],[],vs,_,h=>by
  have h':some []=some vs:=h
  injection h' with h'; subst h'; exact ⟨[],rfl,rfl⟩
 | r::rs,q::qs,vs,hc,h=>by
  simp only [chkRs,Bool.and_eq_true] at hc
  have h':Option.rec (motive:=fun _=>Option (List SV)) none (fun v=>bif nt v then Option.rec (motive:=fun _=>Option (List SV)) none (fun vs=>some (v::vs)) (resL qs fr me) else none) (resV q fr me)=some vs:=h
  cases hv:resV q fr me with
  | none=>rw [hv] at h'; cases h'
  | some v =>
   rw [hv] at h'
   dsimp only at h'
   cases hn:nt v with
   | false=>rw [hn] at h'; cases h'
   | true =>
    rw [hn] at h'
    simp only [cond_true] at h'
    cases hl:resL qs fr me with
    | none=>rw [hl] at h'; cases h'
    | some us =>
     rw [hl] at h'
     injection h' with h'; subst h'
     obtain ⟨x,h1,h2⟩:=resV_sound hF hfr hm hc.1 hv
     obtain ⟨xs,h3,h4⟩:=resL_sound hF hfr hm hc.2 hl
     refine ⟨x::xs,dens_mk (nt_den2 hn h1) h3,?_⟩
     simp only [List.mapM_cons,Sem.run_bind,Sem.run_pure,Result.andThen_ok,h2,h4]
 | [],_::_,_,hc,_=>by cases hc
 | _::_,[],_,hc,_=>by cases hc
theorem res_sound (hF:F.Ok P W0) (hfr:Frm g fr tm) (hm:Sts W0 w (mem g me++R)) {fn:Func} {qs:List RVr} {v:SV} {me':T Ob} {nx':Pos} (hc:chkRs F fn.results.toList qs=true) (h:res qs fr me nx=.ret v me' nx'):me'=me∧nx'=nx∧∃ x,den g v=some x∧(results fn tm).run P w=.ok x w:=by
 have h':Option.rec (motive:=fun _=>RF) .no (fun vs=>.ret (tup vs) me nx) (resL qs fr me)=RF.ret v me' nx':=h
 cases hl:resL qs fr me with
 | none=>rw [hl] at h'; cases h'
 | some vs =>
  rw [hl] at h'
  injection h' with h1 h2 h3; subst h1; subst h2; subst h3
  refine ⟨rfl,rfl,?_⟩
  obtain ⟨xs,k1,k2⟩:=resL_sound hF hfr hm hc hl
  have hlen:=dens_len k1
  have hres:(results fn tm).run P w=.ok (if h:xs.toArray.size=1 then xs.toArray[0]'(by omega) else .tuple xs.toArray) w:=by
   rw [results_eq,Sem.run_bind,Array.mapM_eq_mapM_toList,Sem.run_map,k2]
   by_cases hs:xs.toArray.size=1
   ·simp only [Result.andThen_ok,dif_pos hs,Sem.run_pure]
   ·simp only [Result.andThen_ok,dif_neg hs,Sem.run_pure]
  rw [hres]
  match vs,xs,k1,hlen with
  | [],[],k1,_=>exact ⟨_,rfl,rfl⟩
  | [u],[x],k1,_ =>
   obtain ⟨y,ys,e1,e2,e3⟩:=dens_cons k1
   injection e3 with e3 e4; subst e3
   exact ⟨x,den2_3 e1,by simp⟩
  | u1::u2::r,x1::x2::ys,k1,_=>exact ⟨.tuple (x1::x2::ys).toArray,by show (dens (den2 g) _).map _=_; rw [k1]; rfl,by simp⟩
theorem leaves_ret (hE:Endd P) {fn:Func} {Rr:Ending→World→Prop}:∀ {dl:List SV} {ds:List Deferred} {w:World},Dfs g dl ds→(∀ w',(∀ W0 L,Sts W0 w L→Sts W0 w' L)→∃ v,(results fn tm).run P w'=.ok v w'∧Rr (.returned v) w')→Leaves P fn tm Rr ds .returning w
 | [],ds,w,hd,h=>by
  have:ds=[]:=hd
  subst this
  exact h w (fun _ _ h=>h)
 | d::dl,ds,w,hd,h=>by
  obtain ⟨x,r,rfl,h1,h2⟩:=hd
  refine leaves_cons (by intro e; cases e) (hE.inv x w) ((hE.quiet x w).mono ?_)
  rintro e u' w' ⟨⟨v,rfl⟩,rfl,k⟩
  exact leaves_ret hE h2 (fun w'' k2=>h w'' (fun W0 L hs=>k2 W0 L (k W0 L hs)))
theorem ended_none:∀ (dl:List SV) (me:T Ob),ended dl none me=some (none,me)
 | [],me=>rfl
 | d::dl,me=>ended_none dl me
theorem leaves_pan (hE:Endd P) {fn:Func} {Rr:Ending→World→Prop} {e:SV} {x:Value} (hx:den g e=some x):∀ {dl:List SV} {ds:List Deferred} {w:World} {q:Option SV × T Ob},Dfs g dl ds→ended dl (some e) me=some q→Sts W0 w (mem g me++R) →
  (∀ w',Sts W0 w' (mem g q.2++R)→(q.1=none→∃ v,(results fn tm).run P w'=.ok v w'∧Rr (.returned v) w')∧(∀ e',q.1=some e'→e'=e∧Rr (.panicked (chain x)) w'))→Leaves P fn tm Rr ds (.panicking (chain x)) w
 | [],ds,w,q,hd,h,hm,hK=>by
  have:ds=[]:=hd
  subst this
  have h':some (some e,me)=some q:=h
  injection h' with h'; subst h'
  exact ((hK w hm).2 e rfl).2
 | d::dl,ds,w,q,hd,h,hm,hK=>by
  obtain ⟨y,r,rfl,h1,h2⟩:=hd
  have h':(match (generalizing:=false) d,e with
   | .p i o,.i k n=>(match (generalizing:=false) T.get i me with
    | some (.c t cs)=>Option.rec (motive:=fun _=>Option (Option SV × T Ob)) none (fun cs=>ended dl none (T.put i (some (.c t cs)) me)) (layAt o [.i k n] cs)
    | _=>none)
   | _,_=>none)=some q:=h
  split at h'
  ·rename_i i o k n
   have ex:=den_i hx; subst ex
   split at h'
   ·rename_i t cs hg
    cases hl:layAt o [SV.i k n] cs with
    | none=>rw [hl] at h'; cases h'
    | some cs' =>
     rw [hl] at h'
     have h3:ended dl none (T.put i (some (.c t cs')) me)=some q:=h'
     rw [ended_none] at h3
     injection h3 with h3; subst h3
     obtain ⟨b3,b4⟩:=layAt_spec _ _ _ _ hl
     obtain ⟨qa,e1,rfl⟩:=den_p h1
     obtain ⟨xx,k1⟩:=(mout hm hg).of_some
     obtain ⟨⟨k2,k3⟩,k4⟩:=k1.of_both.of_fact
     obtain rfl:qa=(xx.1,xx.2.1):=by rw [e1] at k2; exact Option.some.inj k2
     have hxl:=dens_len k3
     have ho:o < xx.2.2.length:=by rw [hxl]; simp only [List.length_cons,List.length_nil] at b4; omega
     refine leaves_cons (by intro e; cases e) (hE.inv _ w) ((hE.caught _ o t xx.2.2 k n W0 w _ k4 ho).mono ?_)
     rintro e' u' w' ⟨⟨v,rfl⟩,hu,hst⟩
     show Leaves P fn tm Rr r (settle u') w'
     rw [hu]
     have hd:dens (den1 g) cs'=some (xx.2.2.set o (.int k n)):=by
      have hdd:=dens_app (dens_app (dens_take o k3) (dens_mk (show den1 g (.i k n)=some (.int k n) from rfl) (show dens (den1 g) []=some [] from rfl))) (dens_drop (o + 1) k3)
      rw [b3]
      simp only [List.length_cons,List.length_nil,Nat.zero_add]
      rw [hdd,List.set_eq_take_append_cons_drop,if_pos ho]
      simp
     have hst':Sts W0 w' (mem g (T.put i (some (.c t cs')) me)++R):=mback (Sts.to_some (xx.1,xx.2.1,xx.2.2.set o (.int k n)) (Sts.to_both (Sts.to_fact ⟨e1,hd⟩ hst)))
     exact leaves_ret hE h2 (fun w'' k=>(hK w'' (k _ _ hst')).1 rfl)
   ·cases h'
  ·cases h'
theorem leave_sound (hF:F.Ok P W0) (hE:Endd P) {fn:Func} {rs:List RVr} {e:X} {dl:List SV} {a:Act} {N K:Nat} {E:Exit} (hc:chkRs F fn.results.toList rs=true) (hS:Stt W0 R N K g fr me nx dl a w) (hX:Exi none g e E) {r:RF} (hr:leave rs (.ok e fr me nx dl)=r) (hne:r≠.no) {Rr:Ending→World→Prop}
  (hret:∀ v me' nx',r=.ret v me' nx'→∀ x w',nx'=nx→den g v=some x→Sts W0 w' (mem g me'++R)→Rr (.returned x) w') (hpan:∀ v me' nx',r=.pan v me' nx'→∀ x w',nx'=nx→den g v=some x→Sts W0 w' (mem g me'++R)→Rr (.panicked (chain x)) w'):bodyPostD P fn Rr E a w:=by
 have norm:(Option.rec (motive:=fun _=>RF) .no (fun q=>res rs fr q.2 nx) (ended dl none me))=r→Leaves P fn a.tmps Rr a.defers .returning w:=by
  intro h
  rw [ended_none] at h
  have h':res rs fr me nx=r:=h
  cases hres:res rs fr me nx with
  | no=>rw [hres] at h'; exact (hne h'.symm).elim
  | pan v m n =>
   exfalso
   have h2:Option.rec (motive:=fun _=>RF) .no (fun vs=>.ret (tup vs) me nx) (resL rs fr me)=RF.pan v m n:=hres
   cases hl:resL rs fr me with
   | none=>rw [hl] at h2; cases h2
   | some vs=>rw [hl] at h2; cases h2
  | ret v m n =>
   rw [hres] at h'
   refine leaves_ret hE hS.dfs (fun w' k=>?_)
   have hst:=k _ _ hS.sts
   obtain ⟨e1,e2,x,e3,e4⟩:=res_sound (fn:=fn) hF hS.frm hst hc hres
   subst e1; subst e2
   exact ⟨x,e4,hret v _ _ h'.symm x w' rfl e3 hst⟩
 cases e with
 | nrm=>simp only [Exi] at hX; subst hX; exact norm hr
 | ext i =>
  have:RF.no=r:=hr
  exact (hne this.symm).elim
 | ret=>simp only [Exi] at hX; subst hX; exact norm hr
 | pan v =>
  obtain ⟨x,hx,rfl⟩:=hX
  have h':Option.rec (motive:=fun _=>RF) .no (fun q:Option SV × T Ob=>Option.rec (motive:=fun _=>RF) (res rs fr q.2 nx) (fun e=>.pan e q.2 nx) q.1) (ended dl (some v) me)=r:=hr
  cases hen:ended dl (some v) me with
  | none=>rw [hen] at h'; exact (hne h'.symm).elim
  | some q =>
   rw [hen] at h'
   obtain ⟨q1,q2⟩:=q
   refine leaves_pan hE hx hS.dfs hen hS.sts (fun w' hst=>⟨fun hq=>?_,fun e' hq=>?_⟩)
   ·simp only at hq; subst hq
    have h2:res rs fr q2 nx=r:=h'
    cases hres:res rs fr q2 nx with
    | no=>rw [hres] at h2; exact (hne h2.symm).elim
    | pan v m n =>
     exfalso
     have h3:Option.rec (motive:=fun _=>RF) .no (fun vs=>.ret (tup vs) q2 nx) (resL rs fr q2)=RF.pan v m n:=hres
     cases hl:resL rs fr q2 with
     | none=>rw [hl] at h3; cases h3
     | some vs=>rw [hl] at h3; cases h3
    | ret v m n =>
     rw [hres] at h2
     obtain ⟨e1,e2,y,e3,e4⟩:=res_sound (fn:=fn) hF hS.frm hst hc hres
     subst e1; subst e2
     exact ⟨y,e4,hret v _ _ h2.symm y w' rfl e3 hst⟩
   ·simp only at hq; subst hq
    have he:e'=v:=by
     cases dl with
     | nil =>
      have:some (some v,me)=some (some e',q2):=hen
      injection this with this; injection this with t1 t2; injection t1 with t1; exact t1.symm
     | cons d dl =>
      exfalso
      have h3:(match (generalizing:=false) d,v with
       | .p i o,.i k n=>(match (generalizing:=false) T.get i me with
        | some (.c t cs)=>Option.rec (motive:=fun _=>Option (Option SV × T Ob)) none (fun cs=>ended dl none (T.put i (some (.c t cs)) me)) (layAt o [.i k n] cs)
        | _=>none)
       | _,_=>none)=some (some e',q2):=hen
      split at h3
      ·rename_i i o k n
       split at h3
       ·rename_i t cs hg
        cases hl:layAt o [SV.i k n] cs with
        | none=>rw [hl] at h3; cases h3
        | some cs' =>
         rw [hl] at h3
         have h4:ended dl none (T.put i (some (.c t cs')) me)=some (some e',q2):=h3
         rw [ended_none] at h4
         injection h4 with h4; injection h4 with h4; cases h4
       ·cases h3
      ·cases h3
    subst he
    have h2:RF.pan e' q2 nx=r:=h'
    exact ⟨rfl,hpan e' q2 nx h2.symm x w' rfl hx hst⟩
theorem fn_calls (hcl:SndF P W0 cl) (hF:F.Ok P W0) (hmix:P.follows .mixedOrders=true) (hE:Endd P) {f:Nat} {fn:Func} {cf:CF} (hf:P.funcs[f]?=some fn) (hc:chkF F fn cf=true) {vs:List SV} {r:RF} (hr:runK cl cf vs me nx=r) (hne:r≠.no)
  (W:World) (xs:List Value) (hfr:g.fresh nx) (hd:dens (den g) vs=some xs) (hm:Sts W0 W (mem g me++R)) {Rr:Ending→World→Prop}
  (hret:∀ v me' nx',r=.ret v me' nx'→∀ g' x w',g.ext g' nx→g'.fresh nx'→nx.nat≤nx'.nat→den g' v=some x→Sts W0 w' (mem g' me'++R)→Rr (.returned x) w')
  (hpan:∀ v me' nx',r=.pan v me' nx'→∀ g' x w',g.ext g' nx→g'.fresh nx'→nx.nat≤nx'.nat→den g' v=some x→Sts W0 w' (mem g' me'++R)→Rr (.panicked (chain x)) w'):Calls P f xs.toArray W Rr:=by
 unfold chkF at hc
 cases hb:fn.body with
 | none=>rw [hb] at hc; cases hc
 | some c =>
  rw [hb] at hc
  simp only [Bool.and_eq_true] at hc
  obtain ⟨⟨⟨c1,c2⟩,c3⟩,c4⟩:=hc
  have h':(bif Nat.beq (len vs) cf.np then leave cf.res (code cl cf.body (args vs .h .e) me nx []) else .no)=r:=hr
  cases hn:Nat.beq (len vs) cf.np with
  | false=>rw [hn] at h'; exact (hne h'.symm).elim
  | true =>
   rw [hn] at h'
   simp only [cond_true] at h'
   have hlen:=Nat.eq_of_beq_eq_true hn
   rw [len_eq] at hlen
   have hxl:=dens_len hd
   have hnp:cf.np≤fn.ntmps:=Nat.le_of_ble_eq_true c3
   refine calls_of_wp_defers hf hb ?_
   have hS:Stt W0 R fn.ntmps cf.keep g (args vs .h .e) me nx [] { tmps:=xs.toArray++Array.replicate (fn.ntmps - xs.toArray.size) undef,defers:=[] } W:=by
    refine ⟨fun p v hg=>?_,fun p v hg=>?_,?_,rfl,hfr,hm⟩
    ·rcases args_get vs .h .e p with ⟨i,u,h1,h2,h3⟩ | ⟨h1,h2⟩
     ·rw [hg] at h3; injection h3 with h3; subst h3
      obtain ⟨x,h4,h5⟩:=dens_get hd h2
      refine ⟨x,h5,?_⟩
      rw [nat_h] at h1
      rw [show p.nat - 1=i by omega]
      have hlt:i < xs.length:=by
       rcases Nat.lt_or_ge i xs.length with h' | h'
       ·exact h'
       ·rw [List.getElem?_eq_none h'] at h4; cases h4
      rw [Array.getElem?_append_left (by simpa using hlt)]
      simpa using h4
     ·rw [h2,EV.T.get_e] at hg; cases hg
    ·rcases args_get vs .h .e p with ⟨i,u,h1,h2,h3⟩ | ⟨h1,h2⟩
     ·rw [nat_h] at h1
      have hlt:i < vs.length:=by
       rcases Nat.lt_or_ge i vs.length with h' | h'
       ·exact h'
       ·rw [List.getElem?_eq_none h'] at h2; cases h2
      rw [show p.nat - 1=i by omega]
      exact bits_spec c4 (by omega)
     ·rw [h2,EV.T.get_e] at hg; cases hg
    ·simp; omega
   cases hcd:code cl cf.body (args vs .h .e) me nx [] with
   | no=>rw [hcd] at h'; exact (hne h'.symm).elim
   | ok e fr1 me1 nx1 dl1 =>
    rw [hcd] at h'
    refine code_sound1 hcl hF hmix cf.keep c cf.body c1 _ _ _ _ g _ W e fr1 me1 nx1 dl1 _ hS hcd (fun g' E a' w' hX k1 k2 hS'=>?_)
    exact leave_sound hF hE c2 hS' hX h' hne (fun v m n e1 x w' e2 e3 e4=>hret v m n e1 g' x w' k1 (e2 ▸ hS'.fresh) (e2 ▸ k2) e3 e4) (fun v m n e1 x w' e2 e3 e4=>hpan v m n e1 g' x w' k1 (e2 ▸ hS'.fresh) (e2 ▸ k2) e3 e4)
end
end
noncomputable section
open Go.RowKit
def in1 (l:List Nat) (a:Nat):Bool:=match l with
 | []=>false
 | x::r=>Nat.beq x a || in1 r a
def All1 (Q:Nat→Prop):List Nat→Prop
 | []=>True
 | x::r=>Q x∧All1 Q r
theorem in1_of {Q:Nat→Prop}:∀ {l:List Nat} {a:Nat},All1 Q l→in1 l a=true→Q a
 | x::r,a,⟨h1,h2⟩,h=>by
  simp only [in1,Bool.or_eq_true] at h
  rcases h with h | h
  ·have:=Nat.eq_of_beq_eq_true h; subst this; exact h1
  ·exact in1_of h2 h
def in2 (l:List (Nat × Nat)) (a b:Nat):Bool:=match l with
 | []=>false
 | x::r=>(Nat.beq x.1 a && Nat.beq x.2 b) || in2 r a b
def All2 (Q:Nat→Nat→Prop):List (Nat × Nat)→Prop
 | []=>True
 | x::r=>Q x.1 x.2∧All2 Q r
theorem in2_of {Q:Nat→Nat→Prop}:∀ {l:List (Nat × Nat)} {a b:Nat},All2 Q l→in2 l a b=true→Q a b
 | x::r,a,b,⟨h1,h2⟩,h=>by
  simp only [in2,Bool.or_eq_true,Bool.and_eq_true] at h
  rcases h with h | h
  ·have e1:=Nat.eq_of_beq_eq_true h.1; have e2:=Nat.eq_of_beq_eq_true h.2; subst e1; subst e2; exact h1
  ·exact in2_of h2 h
def in3 (l:List (Nat × Nat × Nat)) (a b c:Nat):Bool:=match l with
 | []=>false
 | x::r=>(Nat.beq x.1 a && Nat.beq x.2.1 b && Nat.beq x.2.2 c) || in3 r a b c
def All3 (Q:Nat→Nat→Nat→Prop):List (Nat × Nat × Nat)→Prop
 | []=>True
 | x::r=>Q x.1 x.2.1 x.2.2∧All3 Q r
theorem in3_of {Q:Nat→Nat→Nat→Prop}:∀ {l:List (Nat × Nat × Nat)} {a b c:Nat},All3 Q l→in3 l a b c=true→Q a b c
 | x::r,a,b,c,⟨h1,h2⟩,h=>by
  simp only [in3,Bool.or_eq_true,Bool.and_eq_true] at h
  rcases h with h | h
  ·have e1:=Nat.eq_of_beq_eq_true h.1.1; have e2:=Nat.eq_of_beq_eq_true h.1.2; have e3:=Nat.eq_of_beq_eq_true h.2; subst e1; subst e2; subst e3; exact h1
  ·exact in3_of h2 h
def in4 (l:List (Nat × Nat × Nat × Nat)) (a b c d:Nat):Bool:=match l with
 | []=>false
 | x::r=>(Nat.beq x.1 a && Nat.beq x.2.1 b && Nat.beq x.2.2.1 c && Nat.beq x.2.2.2 d) || in4 r a b c d
def All4 (Q:Nat→Nat→Nat→Nat→Prop):List (Nat × Nat × Nat × Nat)→Prop
 | []=>True
 | x::r=>Q x.1 x.2.1 x.2.2.1 x.2.2.2∧All4 Q r
theorem in4_of {Q:Nat→Nat→Nat→Nat→Prop}:∀ {l:List (Nat × Nat × Nat × Nat)} {a b c d:Nat},All4 Q l→in4 l a b c d=true→Q a b c d
 | x::r,a,b,c,d,⟨h1,h2⟩,h=>by
  simp only [in4,Bool.or_eq_true,Bool.and_eq_true] at h
  rcases h with h | h
  ·have e1:=Nat.eq_of_beq_eq_true h.1.1.1; have e2:=Nat.eq_of_beq_eq_true h.1.1.2; have e3:=Nat.eq_of_beq_eq_true h.1.2; have e4:=Nat.eq_of_beq_eq_true h.2; subst e1; subst e2; subst e3; subst e4; exact h1
  ·exact in4_of h2 h
def inK (l:List (Nat × IntKind)) (a:Nat) (k:IntKind):Bool:=match l with
 | []=>false
 | x::r=>(Nat.beq x.1 a && keq x.2 k) || inK r a k
def AllK (Q:Nat→IntKind→Prop):List (Nat × IntKind)→Prop
 | []=>True
 | x::r=>Q x.1 x.2∧AllK Q r
theorem inK_of {Q:Nat→IntKind→Prop}:∀ {l:List (Nat × IntKind)} {a:Nat} {k:IntKind},AllK Q l→inK l a k=true→Q a k
 | x::r,a,k,⟨h1,h2⟩,h=>by
  simp only [inK,Bool.or_eq_true,Bool.and_eq_true] at h
  rcases h with h | h
  ·have e1:=Nat.eq_of_beq_eq_true h.1; have e2:=keq_eq h.2; subst e1; subst e2; exact h1
  ·exact inK_of h2 h
def inZ (l:List (Nat × List SV)) (a:Nat) (z:List SV):Bool:=match l with
 | []=>false
 | x::r=>bif Nat.beq x.1 a then allA z x.2 else inZ r a z
def AllZ (Q:Nat→List SV→Prop):List (Nat × List SV)→Prop
 | []=>True
 | x::r=>Q x.1 x.2∧AllZ Q r
theorem inZ_of {Q:Nat→List SV→Prop}:∀ {l:List (Nat × List SV)} {a:Nat} {z:List SV},AllZ Q l→inZ l a z=true→Q a z
 | x::r,a,z,⟨h1,h2⟩,h=>by
  simp only [inZ] at h
  cases hb:Nat.beq x.1 a with
  | true =>
   rw [hb] at h
   have e1:=Nat.eq_of_beq_eq_true hb; subst e1
   rw [allA_eq eqA_eq (show allA z x.2=true from h)]; exact h1
  | false=>rw [hb] at h; exact inZ_of h2 h
def inB (l:List (Nat × List SV × List (Nat × Nat))) (a:Nat) (z:List SV) (ps:List (Nat × Nat × Nat)):Bool:=match l with
 | []=>false
 | x::r=>bif Nat.beq x.1 a then allA z x.2.1 && (ps.all fun p=>match nth x.2.2 p.1 with
  | some q=>Nat.beq q.1 p.2.1 && Nat.beq q.2 p.2.2
  | none=>false) else inB r a z ps
def AllB (Q:Nat→List SV→List (Nat × Nat)→Prop):List (Nat × List SV × List (Nat × Nat))→Prop
 | []=>True
 | x::r=>Q x.1 x.2.1 x.2.2∧AllB Q r
theorem inB_of {Q:Nat→List SV→List (Nat × Nat)→Prop}:∀ {l:List (Nat × List SV × List (Nat × Nat))} {a:Nat} {z:List SV} {ps:List (Nat × Nat × Nat)},AllB Q l→inB l a z ps=true→∃ pl,Q a z pl∧∀ p∈ps,pl[p.1]?=some (p.2.1,p.2.2)
 | x::r,a,z,ps,⟨h1,h2⟩,h=>by
  simp only [inB] at h
  cases hb:Nat.beq x.1 a with
  | true =>
   rw [hb] at h
   simp only [cond_true,Bool.and_eq_true,List.all_eq_true] at h
   have e1:=Nat.eq_of_beq_eq_true hb; subst e1
   refine ⟨x.2.2,by rw [allA_eq eqA_eq h.1]; exact h1,fun p hp=>?_⟩
   have:=h.2 p hp
   rw [nth_eq] at this
   cases hq:x.2.2[p.1]? with
   | none=>rw [hq] at this; cases this
   | some q =>
    rw [hq] at this
    simp only [Bool.and_eq_true] at this
    rw [← Nat.eq_of_beq_eq_true this.1,← Nat.eq_of_beq_eq_true this.2]
  | false=>rw [hb] at h; exact inB_of h2 h
def rep (z:List SV):Nat→List SV
 | 0=>[]
 | n + 1=>z++rep z n
theorem rep_den {g:G} {z:List SV} {zs:List Value} (h:dens (den1 g) z=some zs):∀ n,dens (den1 g) (rep z n)=some (zeros zs n)
 | 0=>rfl
 | n + 1=>dens_app h (rep_den h n)
def inR (l:List (Nat × Nat × Nat × List SV)) (a e s n:Nat) (zs:List SV):Bool:=match l with
 | []=>false
 | x::r=>bif Nat.beq x.1 a then Nat.beq x.2.1 e && Nat.beq x.2.2.1 s && Nat.ble (n * s) 1000 && Nat.blt 0 n && Nat.ble n 1000 && allA zs (rep x.2.2.2 n) else inR r a e s n zs
def AllR (Q:Nat→Nat→Nat→List SV→Prop):List (Nat × Nat × Nat × List SV)→Prop
 | []=>True
 | x::r=>Q x.1 x.2.1 x.2.2.1 x.2.2.2∧AllR Q r
theorem inR_of {Q:Nat→Nat→Nat→List SV→Prop}:∀ {l:List (Nat × Nat × Nat × List SV)} {a e s n:Nat} {zs:List SV},AllR Q l→inR l a e s n zs=true→∃ z,Q a e s z∧n * s≤1000∧0 < n∧n≤1000∧zs=rep z n
 | x::r,a,e,s,n,zs,⟨h1,h2⟩,h=>by
  simp only [inR] at h
  cases hb:Nat.beq x.1 a with
  | true =>
   rw [hb] at h
   simp only [cond_true,Bool.and_eq_true] at h
   obtain ⟨⟨⟨⟨⟨k1,k2⟩,k3⟩,k4⟩,k5⟩,k6⟩:=h
   have e1:=Nat.eq_of_beq_eq_true hb; subst e1
   have e2:=Nat.eq_of_beq_eq_true k1; subst e2
   have e3:=Nat.eq_of_beq_eq_true k2; subst e3
   exact ⟨_,h1,Nat.le_of_ble_eq_true k3,blt_lt k4,Nat.le_of_ble_eq_true k5,allA_eq eqA_eq k6⟩
  | false=>rw [hb] at h; exact inR_of h2 h
def ShT (P:Program) (t:TypeId):SV→Prop
 | .i k _=>P.underlying t=some (.int k)
 | .s _ _=>P.underlying t=some .string
 | .b _=>P.underlying t=some .bool
 | _=>False
def FlatF (P:Program):List Field→Nat→List SV→Prop
 | [],_,[]=>True
 | f :: fs, k, z :: zs => (f.name == "_") = false ∧ f.offset = k ∧ ShT P f.type z ∧ FlatF P fs (k + 1) zs
 | _,_,_=>False
theorem ShT.one {P:Program} {t:TypeId} {z:SV} (h:ShT P t z):One P t:=by
 cases z <;> simp only [ShT] at h <;> exact One.of h rfl
theorem eq1_run {P:Program} {w:World} {g:G} {d:Nat} {t:TypeId} {z x y:SV} {u v:Value} {b:Bool} (hz:ShT P t z) (hs:shp x z=true) (h:eq1 x y=some b) (hx:den1 g x=some u) (hy:den1 g y=some v):(Op.equalIn (d + 1) t u v).run P w=.ok b w:=by
 unfold eq1 at h
 split at h
 ·rename_i j m k n
  cases hk:keq j k with
  | false=>rw [hk] at h; cases h
  | true =>
   rw [hk] at h; simp only [cond_true,Option.some.injEq] at h; subst h
   have:=keq_eq hk; subst this
   have e1:u=.int j m:=by simpa [den1,den0,eq_comm] using hx
   have e2:v=.int j n:=by simpa [den1,den0,eq_comm] using hy
   subst e1; subst e2
   cases z <;> simp only [shp,Bool.false_eq_true] at hs
   simp only [ShT] at hz
   rw [run_equalIn_int w d t _ _ m n hz,ieq_eq]
   rfl
 ·rename_i n m n' m'
  injection h with h; subst h
  have hx':den g (.s n m)=some u:=hx
  have hy':den g (.s n' m')=some v:=hy
  obtain ⟨l1,rfl⟩:=den_s hx'
  obtain ⟨l2,rfl⟩:=den_s hy'
  cases z <;> simp only [shp,Bool.false_eq_true] at hs
  simp only [ShT] at hz
  rw [run_equalIn_string w d t _ _ hz,seq_eq l1 l2]
  congr 1
  have hs:=bytes_beq (byt n m) (byt n' m')
  by_cases e:byt n m=byt n' m' <;> simp_all
 ·rename_i p q
  injection h with h; subst h
  have e1:u=.bool p:=by simpa [den1,den0,eq_comm] using hx
  have e2:v=.bool q:=by simpa [den1,den0,eq_comm] using hy
  subst e1; subst e2
  cases z <;> simp only [shp,Bool.false_eq_true] at hs
  simp only [ShT] at hz
  rw [run_equalIn_bool w d t p q hz]
  cases p <;> cases q <;> rfl
 ·cases h
theorem eqs_run {P:Program} {w:World} {g:G} {d:Nat}:∀ {fs:List Field} {k:Nat} {zs l m:List SV} {b:Bool} {us vs pu pv:List Value},FlatF P fs k zs→shps l zs=true→eqs l m=some b→dens (den1 g) l=some us→dens (den1 g) m=some vs→pu.length=k→pv.length=k →
  (Op.eqFields (d + 1) (pu++us).toArray (pv++vs).toArray fs).run P w=.ok b w
 | [],k,[],l,m,b,us,vs,pu,pv,hf,hs,he,hu,hv,h1,h2=>by
  cases l with
  | cons x r=>exact (by have h':false=true:=hs; cases h')
  | nil =>
   cases m with
   | cons y r=>exact (by have h':(none:Option Bool)=some b:=he; cases h')
   | nil =>
    have h':some true=some b:=he
    injection h' with h'; subst h'; rfl
 | f::fs,k,z::zs,l,m,b,us,vs,pu,pv,hf,hs,he,hu,hv,h1,h2=>by
  obtain ⟨f1,f2,f3,f4⟩:=hf
  cases l with
  | nil=>exact (by have h':false=true:=hs; cases h')
  | cons x l =>
   have hs':(and (shp x z) (shps l zs))=true:=hs
   simp only [Bool.and_eq_true] at hs'
   cases m with
   | nil=>exact (by have h':(none:Option Bool)=some b:=he; cases h')
   | cons y m =>
    have he':Option.rec (motive:=fun _=>Option Bool) none (fun b=>Option.rec (motive:=fun _=>Option Bool) none (fun c=>some (bif b then c else false)) (eqs l m)) (eq1 x y)=some b:=he
    obtain ⟨u,us',a1,a2,rfl⟩:=dens_cons hu
    obtain ⟨v,vs',b1,b2,rfl⟩:=dens_cons hv
    cases hq:eq1 x y with
    | none=>rw [hq] at he'; cases he'
    | some b0 =>
     rw [hq] at he'
     cases hr:eqs l m with
     | none=>rw [hr] at he'; cases he'
     | some c =>
      rw [hr] at he'
      injection he' with he'; subst he'
      have hname : f.name ≠ "_" := fun e => by rw [e] at f1; simp at f1
      have hp1:(part f.type (pu++u::us').toArray f.offset).run P w=.ok u w:=by
       have:(pu++u::us')[k]?=some u:=by rw [← h1]; simp
       simp only [part,Sem.run_bind,f3.one w,Result.andThen_ok,Bool.false_eq_true,if_false,List.getElem?_toArray,f2,this,Sem.run_pure]
      have hp2:(part f.type (pv++v::vs').toArray f.offset).run P w=.ok v w:=by
       have:(pv++v::vs')[k]?=some v:=by rw [← h2]; simp
       simp only [part,Sem.run_bind,f3.one w,Result.andThen_ok,Bool.false_eq_true,if_false,List.getElem?_toArray,f2,this,Sem.run_pure]
      simp only [Op.eqFields,if_pos hname,Sem.run_bind,hp1,Result.andThen_ok,hp2,eq1_run (w:=w) (d:=d) f3 hs'.1 hq a1 b1]
      cases b0 with
      | false=>simp
      | true =>
       simp only [Bool.not_true,Bool.false_eq_true,if_false,cond_true]
       have:=eqs_run (w:=w) (d:=d) (pu:=pu++[u]) (pv:=pv++[v]) f4 hs'.2 hr a2 b2 (by simp [h1]) (by simp [h2])
       simpa using this
 | [],k,z::zs,l,m,b,us,vs,pu,pv,hf,hs,he,hu,hv,h1,h2=>hf.elim
 | f::fs,k,[],l,m,b,us,vs,pu,pv,hf,hs,he,hu,hv,h1,h2=>hf.elim
theorem eqT_of {P:Program} {T:TypeId} {zz:List SV} (hS:P.underlying T=some (.struct (P.fieldsOf T))) (hf:FlatF P (P.fieldsOf T).toList 0 zz) (h1:P.stoodInHeld T=false) (h2:P.eqGuardType P.depth T=false):EqT P T zz:=by
 intro g l m xs ys b0 w rv y z T' op v hsh hl hm hy hz h
 have hrun:∀ b,eqs l m=some b→(Op.equalIn 10000 T (.agg xs.toArray) (.agg ys.toArray)).run P w=.ok b w:=by
  intro b hb
  have:=eqs_run (P:=P) (w:=w) (d:=9998) (pu:=[]) (pv:=[]) hf hsh hb hl hm rfl rfl
  rw [run_equalIn_agg w 9999 T _ _ hS h1]
  simpa using this
 have hg:∀ op,(eqGuard op T y z (.agg xs.toArray) (.agg ys.toArray)).run P w=.ok () w:=fun op=>run_eqGuard_agg w op T y z _ _ h2
 cases hq:eqs l m with
 | none=>rw [hq] at h; cases op <;> cases h
 | some b =>
  rw [hq] at h
  cases op <;> simp only [eqO,Option.map_some,Option.some.injEq,reduceCtorEq] at h
  ·subst h
   refine ⟨.bool b,rfl,fun d ty ps af gd=>?_⟩
   simp only [execOp,a2,hy,hz,Sem.run_bind,hg,Result.andThen_ok,run_eql_struct,hrun b hq,Sem.run_pure]
  ·subst h
   refine ⟨.bool (!b),rfl,fun d ty ps af gd=>?_⟩
   simp only [execOp,a2,hy,hz,Sem.run_bind,hg,Result.andThen_ok,run_neq_struct,hrun b hq,Sem.run_pure]
theorem shps_app:∀ {z1 z2 l:List SV},shps l (z1++z2)=true→∃ l1 l2,l=l1++l2∧shps l1 z1=true∧shps l2 z2=true
 | [],z2,l,h=>⟨[],l,rfl,rfl,h⟩
 | z::z1,z2,[],h=>by have h':false=true:=h; cases h'
 | z::z1,z2,x::l,h=>by
  have h':(and (shp x z) (shps l (z1++z2)))=true:=h
  simp only [Bool.and_eq_true] at h'
  obtain ⟨l1,l2,rfl,a,b⟩:=shps_app h'.2
  exact ⟨x::l1,l2,rfl,(by show (and (shp x z) (shps l1 z1))=true; rw [h'.1,a]; rfl),b⟩
theorem shps_len:∀ {z l:List SV},shps l z=true→l.length=z.length
 | [],[],_=>rfl
 | [],x::l,h=>by have h':false=true:=h; cases h'
 | z::z1,[],h=>by have h':false=true:=h; cases h'
 | z::z1,x::l,h=>by
  have h':(and (shp x z) (shps l z1))=true:=h
  simp only [Bool.and_eq_true] at h'
  simp [shps_len h'.2]
theorem eqs_app:∀ {l1 l2 m:List SV} {b:Bool},eqs (l1++l2) m=some b→∃ m1 m2 b1 b2,m=m1++m2∧eqs l1 m1=some b1∧eqs l2 m2=some b2∧b=(bif b1 then b2 else false)
 | [],l2,m,b,h=>⟨[],m,true,b,rfl,rfl,h,rfl⟩
 | x::l1,l2,[],b,h=>by have h':(none:Option Bool)=some b:=h; cases h'
 | x::l1,l2,y::m,b,h=>by
  have h':Option.rec (motive:=fun _=>Option Bool) none (fun b=>Option.rec (motive:=fun _=>Option Bool) none (fun c=>some (bif b then c else false)) (eqs (l1++l2) m)) (eq1 x y)=some b:=h
  cases hq:eq1 x y with
  | none=>rw [hq] at h'; cases h'
  | some b0 =>
   rw [hq] at h'
   cases hr:eqs (l1++l2) m with
   | none=>rw [hr] at h'; cases h'
   | some c =>
    rw [hr] at h'
    injection h' with h'; subst h'
    obtain ⟨m1,m2,b1,b2,rfl,e1,e2,rfl⟩:=eqs_app hr
    refine ⟨y::m1,m2,(bif b0 then b1 else false),b2,rfl,?_,e2,?_⟩
    ·show Option.rec (motive:=fun _=>Option Bool) none (fun b=>Option.rec (motive:=fun _=>Option Bool) none (fun c=>some (bif b then c else false)) (eqs l1 m1)) (eq1 x y)=_
     rw [hq,e1]
    ·cases b0 <;> rfl
theorem eqs_len:∀ {l m:List SV} {b:Bool},eqs l m=some b→l.length=m.length
 | [],[],b,h=>rfl
 | [],x::l,b,h=>by have h':(none:Option Bool)=some b:=h; cases h'
 | z::z1,[],b,h=>by have h':(none:Option Bool)=some b:=h; cases h'
 | x::l,y::m,b,h=>by
  have h':Option.rec (motive:=fun _=>Option Bool) none (fun b=>Option.rec (motive:=fun _=>Option Bool) none (fun c=>some (bif b then c else false)) (eqs l m)) (eq1 x y)=some b:=h
  cases hq:eq1 x y with
  | none=>rw [hq] at h'; cases h'
  | some b0 =>
   rw [hq] at h'
   cases hr:eqs l m with
   | none=>rw [hr] at h'; cases h'
   | some c=>simp [eqs_len hr]
theorem dens_appE {d:SV→Option Value}:∀ {l m:List SV} {xs:List Value},dens d (l++m)=some xs→∃ us vs,dens d l=some us∧dens d m=some vs∧xs=us++vs
 | [],m,xs,h=>⟨[],xs,rfl,h,rfl⟩
 | x::l,m,xs,h=>by
  obtain ⟨v,us,h1,h2,rfl⟩:=dens_cons h
  obtain ⟨a,b,h3,h4,rfl⟩:=dens_appE h2
  exact ⟨v::a,b,dens_mk h1 h3,h4,rfl⟩
theorem part_many {P:Program} {w:World} {e:TypeId} {c:Nat} {pu us rs:List Value} (hm:Many P e c) (h:us.length=c) {j:Nat} (hj:pu.length=j * c):(part e (pu++(us++rs)).toArray (j * c)).run P w=.ok (.agg us.toArray) w:=by
 subst h
 have e1:((pu++(us++rs)).toArray.extract (j * us.length) (j * us.length + us.length))=us.toArray:=by
  have:(pu++(us++rs)).drop (j * us.length)=us++rs:=by rw [← hj]; simp
  simp [List.extract_eq_take_drop,this]
 simp only [part,Sem.run_bind,(hm w).1,Result.andThen_ok,if_true,(hm w).2,Sem.run_pure,e1]
theorem items_run {P:Program} {w:World} {g:G} {d:Nat} {e:TypeId} {z:List SV} (hc:P.cellsOf e=z.length) (hm:Many P e z.length) (hS:P.underlying e=some (.struct (P.fieldsOf e))) (hf:FlatF P (P.fieldsOf e).toList 0 z) (h1:P.stoodInHeld e=false) :
  ∀ {k j:Nat} {l m:List SV} {b:Bool} {us vs pu pv:List Value},shps l (rep z k)=true→eqs l m=some b→dens (den1 g) l=some us→dens (den1 g) m=some vs→pu.length=j * z.length→pv.length=j * z.length →
  (Op.eqItems (d + 2) e (P.cellsOf e) (pu++us).toArray (pv++vs).toArray (List.range' j k)).run P w=.ok b w
 | 0,j,l,m,b,us,vs,pu,pv,hs,he,hu,hv,hp,hq=>by
  cases l with
  | cons x r=>exact (by have h':false=true:=hs; cases h')
  | nil =>
   cases m with
   | cons y r=>exact (by have h':(none:Option Bool)=some b:=he; cases h')
   | nil =>
    have h':some true=some b:=he
    injection h' with h'; subst h'; rfl
 | k + 1,j,l,m,b,us,vs,pu,pv,hs,he,hu,hv,hp,hq=>by
  obtain ⟨l1,l2,rfl,s1,s2⟩:=shps_app (z1:=z) (z2:=rep z k) hs
  obtain ⟨m1,m2,b1,b2,rfl,e1,e2,rfl⟩:=eqs_app he
  obtain ⟨u1,u2,hu1,hu2,rfl⟩:=dens_appE hu
  obtain ⟨v1,v2,hv1,hv2,rfl⟩:=dens_appE hv
  have n1:u1.length=z.length:=by rw [dens_len hu1,shps_len s1]
  have n2:v1.length=z.length:=by rw [dens_len hv1,← eqs_len e1,shps_len s1]
  have p1:=part_many (P:=P) (w:=w) (pu:=pu) (us:=u1) (rs:=u2) hm n1 hp
  have p2:=part_many (P:=P) (w:=w) (pu:=pv) (us:=v1) (rs:=v2) hm n2 hq
  have p3:(Op.equalIn (d + 2) e (.agg u1.toArray) (.agg v1.toArray)).run P w=.ok b1 w:=by
   have:=eqs_run (P:=P) (w:=w) (d:=d) (pu:=[]) (pv:=[]) hf s1 e1 hu1 hv1 rfl rfl
   rw [run_equalIn_agg w (d + 1) e _ _ hS h1]
   simpa using this
  simp only [List.range'_succ,Op.eqItems,Sem.run_bind,hc,p1,p2,Result.andThen_ok,p3]
  cases b1 with
  | false=>simp
  | true =>
   simp only [Bool.not_true,Bool.false_eq_true,if_false,cond_true]
   have:=items_run (w:=w) (d:=d) hc hm hS hf h1 (k:=k) (j:=j + 1) (pu:=pu++u1) (pv:=pv++v1) s2 e2 hu2 hv2 (by simp [hp,n1,Nat.add_mul]) (by simp [hq,n2,Nat.add_mul])
   simpa [hc] using this
theorem eqTA_of {P:Program} {T e:TypeId} {n:Nat} {z zz:List SV} (hA:P.underlying T=some (.array n e)) (hi:∃ i,P.info? e=some i) (hc:P.cellsOf e=z.length) (hm:Many P e z.length) (hS:P.underlying e=some (.struct (P.fieldsOf e))) (hf:FlatF P (P.fieldsOf e).toList 0 z) (h1:P.stoodInHeld e=false) (h2:P.eqGuardType P.depth T=false) (hz:zz=rep z n):EqT P T zz:=by
 subst hz
 intro g l m xs ys b0 w rv y z' T' op v hsh hl hm' hy hz h
 obtain ⟨i,hi⟩:=hi
 have hrun:∀ b,eqs l m=some b→(Op.equalIn 10000 T (.agg xs.toArray) (.agg ys.toArray)).run P w=.ok b w:=by
  intro b hb
  have:=items_run (P:=P) (w:=w) (d:=9997) (pu:=[]) (pv:=[]) (j:=0) hc hm hS hf h1 hsh hb hl hm' (by simp) (by simp)
  rw [run_equalIn_array w 9999 _ _ hA hi,List.range_eq_range']
  simpa using this
 have hg:∀ op,(eqGuard op T y z' (.agg xs.toArray) (.agg ys.toArray)).run P w=.ok () w:=fun op=>run_eqGuard_agg w op T y z' _ _ h2
 cases hq:eqs l m with
 | none=>rw [hq] at h; cases op <;> cases h
 | some b =>
  rw [hq] at h
  cases op <;> simp only [eqO,Option.map_some,Option.some.injEq,reduceCtorEq] at h
  ·subst h
   refine ⟨.bool b,rfl,fun d ty ps af gd=>?_⟩
   simp only [execOp,a2,hy,hz,Sem.run_bind,hg,Result.andThen_ok,run_eql_struct,hrun b hq,Sem.run_pure]
  ·subst h
   refine ⟨.bool (!b),rfl,fun d ty ps af gd=>?_⟩
   simp only [execOp,a2,hy,hz,Sem.run_bind,hg,Result.andThen_ok,run_neq_struct,hrun b hq,Sem.run_pure]
end
section
set_option maxRecDepth 100000
def p1:Pos:=.h
def p2:Pos:=(.o p1)
def p3:Pos:=(.i p1)
def p4:Pos:=(.o p2)
def p5:Pos:=(.i p2)
def p6:Pos:=(.o p3)
def p7:Pos:=(.i p3)
def p8:Pos:=(.o p4)
def p9:Pos:=(.i p4)
def p10:Pos:=(.o p5)
def p11:Pos:=(.i p5)
def p12:Pos:=(.o p6)
def p13:Pos:=(.i p6)
def p14:Pos:=(.o p7)
def p15:Pos:=(.i p7)
def p16:Pos:=(.o p8)
def p17:Pos:=(.i p8)
def p18:Pos:=(.o p9)
def p19:Pos:=(.i p9)
def p20:Pos:=(.o p10)
def p21:Pos:=(.i p10)
def p22:Pos:=(.o p11)
def p23:Pos:=(.i p11)
def p24:Pos:=(.o p12)
def p25:Pos:=(.i p12)
def p26:Pos:=(.o p13)
def p27:Pos:=(.i p13)
def p28:Pos:=(.o p14)
def p29:Pos:=(.i p14)
def p30:Pos:=(.o p15)
def p31:Pos:=(.i p15)
def p32:Pos:=(.o p16)
def p33:Pos:=(.i p16)
def p34:Pos:=(.o p17)
def p35:Pos:=(.i p17)
def p36:Pos:=(.o p18)
def p37:Pos:=(.i p18)
def p38:Pos:=(.o p19)
def p39:Pos:=(.i p19)
def p40:Pos:=(.o p20)
def p41:Pos:=(.i p20)
def p42:Pos:=(.o p21)
def p43:Pos:=(.i p21)
def p44:Pos:=(.o p22)
def p45:Pos:=(.i p22)
def p46:Pos:=(.o p23)
def p47:Pos:=(.i p23)
def p48:Pos:=(.o p24)
def p49:Pos:=(.i p24)
def p50:Pos:=(.o p25)
def p51:Pos:=(.i p25)
def p52:Pos:=(.o p26)
def p53:Pos:=(.i p26)
def p54:Pos:=(.o p27)
def p55:Pos:=(.i p27)
def p56:Pos:=(.o p28)
def p57:Pos:=(.i p28)
def p58:Pos:=(.o p29)
def p59:Pos:=(.i p29)
def p60:Pos:=(.o p30)
def p61:Pos:=(.i p30)
def p62:Pos:=(.o p31)
def p63:Pos:=(.i p31)
def p64:Pos:=(.o p32)
def p65:Pos:=(.i p32)
def p66:Pos:=(.o p33)
def p67:Pos:=(.i p33)
def p68:Pos:=(.o p34)
def p69:Pos:=(.i p34)
def p70:Pos:=(.o p35)
def p71:Pos:=(.i p35)
def p72:Pos:=(.o p36)
def p73:Pos:=(.i p36)
def p74:Pos:=(.o p37)
def p75:Pos:=(.i p37)
def p76:Pos:=(.o p38)
def p77:Pos:=(.i p38)
def p78:Pos:=(.o p39)
def p79:Pos:=(.i p39)
def p80:Pos:=(.o p40)
def p81:Pos:=(.i p40)
def p82:Pos:=(.o p41)
def p83:Pos:=(.i p41)
def p84:Pos:=(.o p42)
def p85:Pos:=(.i p42)
def p86:Pos:=(.o p43)
def p87:Pos:=(.i p43)
def p88:Pos:=(.o p44)
def p89:Pos:=(.i p44)
def p90:Pos:=(.o p45)
def p91:Pos:=(.i p45)
def p92:Pos:=(.o p46)
def p93:Pos:=(.i p46)
def p94:Pos:=(.o p47)
def p95:Pos:=(.i p47)
def p96:Pos:=(.o p48)
def p97:Pos:=(.i p48)
def p98:Pos:=(.o p49)
def p99:Pos:=(.i p49)
def p100:Pos:=(.o p50)
def p101:Pos:=(.i p50)
def p102:Pos:=(.o p51)
def p103:Pos:=(.i p51)
def p104:Pos:=(.o p52)
def p105:Pos:=(.i p52)
def p106:Pos:=(.o p53)
def p107:Pos:=(.i p53)
def p108:Pos:=(.o p54)
def p109:Pos:=(.i p54)
def p110:Pos:=(.o p55)
def p111:Pos:=(.i p55)
def p112:Pos:=(.o p56)
def p113:Pos:=(.i p56)
def p114:Pos:=(.o p57)
def p115:Pos:=(.i p57)
def p116:Pos:=(.o p58)
def p117:Pos:=(.i p58)
def p118:Pos:=(.o p59)
def p119:Pos:=(.i p59)
def p120:Pos:=(.o p60)
def p121:Pos:=(.i p60)
def p122:Pos:=(.o p61)
def p123:Pos:=(.i p61)
def p124:Pos:=(.o p62)
def p125:Pos:=(.i p62)
def p126:Pos:=(.o p63)
def p127:Pos:=(.i p63)
def p128:Pos:=(.o p64)
def p129:Pos:=(.i p64)
def p130:Pos:=(.o p65)
def p131:Pos:=(.i p65)
def p132:Pos:=(.o p66)
def p133:Pos:=(.i p66)
def p134:Pos:=(.o p67)
def p135:Pos:=(.i p67)
def p136:Pos:=(.o p68)
def p137:Pos:=(.i p68)
def p138:Pos:=(.o p69)
def p140:Pos:=(.o p70)
def p145:Pos:=(.i p72)
def p146:Pos:=(.o p73)
def p147:Pos:=(.i p73)
def p148:Pos:=(.o p74)
def p149:Pos:=(.i p74)
def p150:Pos:=(.o p75)
def p151:Pos:=(.i p75)
def p152:Pos:=(.o p76)
def p153:Pos:=(.i p76)
def p154:Pos:=(.o p77)
def p155:Pos:=(.i p77)
def p157:Pos:=(.i p78)
def p158:Pos:=(.o p79)
def p159:Pos:=(.i p79)
def p160:Pos:=(.o p80)
def p161:Pos:=(.i p80)
def p162:Pos:=(.o p81)
def p163:Pos:=(.i p81)
def p164:Pos:=(.o p82)
def p165:Pos:=(.i p82)
def p166:Pos:=(.o p83)
def p167:Pos:=(.i p83)
def p168:Pos:=(.o p84)
def p169:Pos:=(.i p84)
def p170:Pos:=(.o p85)
def p173:Pos:=(.i p86)
def p174:Pos:=(.o p87)
def p175:Pos:=(.i p87)
def p176:Pos:=(.o p88)
def p178:Pos:=(.o p89)
def p179:Pos:=(.i p89)
def p180:Pos:=(.o p90)
def p181:Pos:=(.i p90)
def p182:Pos:=(.o p91)
def p183:Pos:=(.i p91)
def p184:Pos:=(.o p92)
def p185:Pos:=(.i p92)
def p186:Pos:=(.o p93)
def p187:Pos:=(.i p93)
def p188:Pos:=(.o p94)
def p189:Pos:=(.i p94)
def p190:Pos:=(.o p95)
def p191:Pos:=(.i p95)
def p192:Pos:=(.o p96)
def p193:Pos:=(.i p96)
def p194:Pos:=(.o p97)
def p195:Pos:=(.i p97)
def p196:Pos:=(.o p98)
def p197:Pos:=(.i p98)
def p198:Pos:=(.o p99)
def p199:Pos:=(.i p99)
def p200:Pos:=(.o p100)
def p201:Pos:=(.i p100)
def p202:Pos:=(.o p101)
def p203:Pos:=(.i p101)
def p204:Pos:=(.o p102)
def p207:Pos:=(.i p103)
def p208:Pos:=(.o p104)
def p210:Pos:=(.o p105)
def p211:Pos:=(.i p105)
def p212:Pos:=(.o p106)
def p213:Pos:=(.i p106)
def p214:Pos:=(.o p107)
def p215:Pos:=(.i p107)
def p216:Pos:=(.o p108)
def p217:Pos:=(.i p108)
def p219:Pos:=(.i p109)
def p220:Pos:=(.o p110)
def p221:Pos:=(.i p110)
def p222:Pos:=(.o p111)
def p223:Pos:=(.i p111)
def p224:Pos:=(.o p112)
def p225:Pos:=(.i p112)
def p226:Pos:=(.o p113)
def p227:Pos:=(.i p113)
def p228:Pos:=(.o p114)
def p229:Pos:=(.i p114)
def p230:Pos:=(.o p115)
def p231:Pos:=(.i p115)
def p232:Pos:=(.o p116)
def p233:Pos:=(.i p116)
def p234:Pos:=(.o p117)
def p235:Pos:=(.i p117)
def p236:Pos:=(.o p118)
def p237:Pos:=(.i p118)
def p238:Pos:=(.o p119)
def p239:Pos:=(.i p119)
def p249:Pos:=(.i p124)
def p250:Pos:=(.o p125)
def p251:Pos:=(.i p125)
def p252:Pos:=(.o p126)
def p254:Pos:=(.o p127)
def p255:Pos:=(.i p127)
def p256:Pos:=(.o p128)
def p257:Pos:=(.i p128)
def p259:Pos:=(.i p129)
def p264:Pos:=(.o p132)
def p267:Pos:=(.i p133)
def p270:Pos:=(.o p135)
def p271:Pos:=(.i p135)
def p272:Pos:=(.o p136)
def p273:Pos:=(.i p136)
def p274:Pos:=(.o p137)
def p275:Pos:=(.i p137)
def p276:Pos:=(.o p138)
def p277:Pos:=(.i p138)
def p300:Pos:=(.o p150)
def p301:Pos:=(.i p150)
def p304:Pos:=(.o p152)
def p338:Pos:=(.o p169)
def p339:Pos:=(.i p169)
def p340:Pos:=(.o p170)
def p341:Pos:=(.i p170)
def p346:Pos:=(.o p173)
def p349:Pos:=(.i p174)
def p375:Pos:=(.i p187)
def p380:Pos:=(.o p190)
def p381:Pos:=(.i p190)
def p384:Pos:=(.o p192)
def fields0:List SV:=[.s 3 4276803,.s 4 1313030466,.s 3 4276819,.s 2 16706,.s 3 4276803,.s 1 78,.s 3 4276819,.s 6 75047075270227,.s 1 65,.s 1 78]
def z3:List SV:=[(.i .i64 0)]
def z27:List SV:=[(.i .i64 0)]
def z30:List SV:=[(.i .u64 0)]
def z31:List SV:=[(.i .i64 0),(.i .i64 0),(.i .i64 0)]
def z34:List SV:=[(.i .i64 0),(.s 0 0),(.b false),(.i .i64 0),.sn,(.i .i64 0)]
def z40:List SV:=[.sn]
def z47:List SV:=[(.i .i64 0),(.i .i64 0),(.i .i64 0),(.i .i64 0),(.i .i64 0),(.i .u64 0),(.s 0 0)]
def z56:List SV:=[(.b false),(.b false),(.b false),(.b false)]
def z60:List SV:=[(.i .i64 0),(.i .i64 0)]
def z61:List SV:=[(.i .i64 0),(.i .i64 0),(.i .i64 0),(.i .i64 0)]
def z62:List SV:=[(.i .i64 0),(.i .i64 0)]
def z64:List SV:=[(.i .i64 0),(.i .i64 0),(.i .i64 0),(.i .i64 0)]
def z65:List SV:=[(.i .i64 0),(.i .i64 0),(.i .i64 0),(.i .i64 0),(.i .i64 0),(.i .i64 0),(.i .i64 0),(.i .i64 0)]
def z72:List SV:=[(.i .i64 0),(.i .i64 0),.sn,(.s 0 0),(.i .i64 0)]
def z79:List SV:=[.pn,(.i .i64 0),(.i .i64 0),.sn,(.s 0 0),(.i .i64 0),(.i .u64 0),(.i .u64 0),(.i .u64 0),.pn,.sn,.mn,.mn]
def z81:List SV:=[(.i .i64 0),(.i .u64 0),(.i .u64 0),(.s 0 0),(.i .i64 0),(.i .i64 0),(.i .i64 0),(.i .i64 0),(.i .i64 0),(.i .i64 0),(.i .i64 0),(.i .u64 0),(.i .u64 0)]
def z83:List SV:=[(.i .i64 0),(.i .i64 0),(.i .i64 0),(.i .u64 0)]
def z85:List SV:=[(.i .i64 0),(.i .i64 0),(.i .i64 0),(.i .u64 0),(.i .i64 0),(.i .i64 0),(.s 0 0)]
def z89:List SV:=[(.i .i64 0),(.i .i64 0),(.i .i64 0),(.i .i64 0),(.i .u64 0),(.i .i64 0),(.i .i64 0),(.s 0 0),(.i .u64 0)]
def z94:List SV:=[(.i .i64 0),(.s 0 0),(.i .u64 0),(.i .i64 0),(.i .i64 0),(.i .i64 0)]
def z96:List SV:=[(.i .u64 0),(.i .i64 0),(.i .i64 0),(.s 0 0)]
def z109:List SV:=[.sn,.sn,.mn,(.i .i64 0)]
def z112:List SV:=[(.i .u64 0),(.i .u64 0),(.i .u64 0)]
def z120:List SV:=[(.i .u64 0),(.i .u64 0),(.i .u64 0),(.i .u64 0),(.i .u64 0),(.i .u64 0),(.i .u64 0),(.i .u64 0),(.i .u64 0)]
def z122:List SV:=[.pn,(.i .u64 0),(.i .u64 0),(.i .u64 0),(.i .u64 0),(.i .u64 0),(.i .u64 0),(.i .u64 0),(.i .u64 0),(.i .u64 0)]
def z126:List SV:=[(.i .i64 0),(.i .i64 0),(.i .i64 0),(.i .i64 0)]
def z142:List SV:=[.pn,.sn,(.i .u64 0),(.i .u64 0),.sn,.sn,.mn,(.b false),(.b false)]
def z147:List SV:=[(.i .i64 0),(.i .i64 0),(.i .i64 0),(.i .i64 0),(.s 0 0),(.i .i64 0)]
def z171:List SV:=[.pn,(.i .i64 0),(.i .i64 0),(.i .i64 0),(.i .u64 0)]
def z172:List SV:=[.sn]
def z178:List SV:=[(.i .u64 0),(.i .u64 0),(.i .u64 0)]
def z188:List SV:=[(.i .u64 0),(.i .u64 0),.pn,.pn,.pn]
def z198:List SV:=[(.i .i64 0),(.i .u64 0),(.i .u64 0),(.s 0 0),(.i .i64 0),(.i .i64 0),(.i .i64 0),(.i .i64 0),(.i .i64 0),(.i .i64 0),(.i .i64 0),(.i .u64 0),(.i .u64 0),(.i .i64 0),(.i .u64 0),(.i .i64 0),(.i .i64 0)]
def z201:List SV:=[(.i .i64 0),(.i .i64 0)]
def z203:List SV:=[(.i .i64 0),(.i .i64 0),(.i .i64 0)]
def z205:List SV:=[(.i .u64 0),(.i .u64 0)]
def z208:List SV:=[.sn]
def z210:List SV:=[(.i .i64 0),(.i .i64 0),(.i .u64 0),(.i .u64 0),.sn]
def z212:List SV:=[(.i .i64 0),(.i .i64 0),(.i .i64 0),(.i .i64 0),(.i .i64 0),(.i .u64 0),(.i .u64 0),.sn,.pn,(.i .i64 0),(.i .i64 0),(.i .i64 0),(.i .i64 0)]
def z217:List SV:=[(.i .u64 0),(.i .u64 0),(.i .u64 0),(.i .u64 0),(.i .u64 0),(.i .u64 0),(.i .u64 0),(.i .u64 0),(.i .u64 0)]
def z220:List SV:=[.sn,(.i .i64 0),.sn]
def z228:List SV:=[.fn,.fn,.fn,.fn,.fn,.fn,.fn,.fn,.fn,.fn]
def z238:List SV:=[.pn,.pn,.pn,.pn,.pn,.pn,.pn,.pn,(.i .i64 0)]
def z241:List SV:=[.mn,(.i .i64 0),(.i .i64 0),(.i .i64 0)]
def z243:List SV:=[(.i .i64 0)]
def z248:List SV:=[.sn]
def z274:List SV:=[(.i .i64 0),.mn,(.i .u64 0)]
def z284:List SV:=[(.s 0 0),(.i .i64 0),(.i .i64 0)]
def z291:List SV:=[(.i .i64 0),(.i .i64 0),(.s 0 0)]
def z308:List SV:=[(.i .i64 0),(.i .i64 0),(.i .i64 0),(.i .u64 0),(.i .i64 0),(.i .i64 0),(.i .u64 0),(.i .i64 0),(.i .i64 0),(.i .i64 0)]
def z361:List SV:=[(.i .i64 0),(.i .i64 0),(.i .u64 0),(.i .u64 0)]
def z364:List SV:=[.fn,.fn,.fn,.fn,.fn,.fn,.fn,.fn,.fn,.fn,.fn,.fn]
def z412:List SV:=[(.i .u8 0),(.i .u8 0),(.i .u8 0),(.i .u8 0),(.i .u8 0),(.i .u8 0),(.i .u8 0),(.i .u8 0),(.i .u8 0),(.i .u8 0),(.i .u8 0),(.i .u8 0),(.i .u8 0),(.i .u8 0),(.i .u8 0),(.i .u8 0),(.i .u8 0),(.i .u8 0),(.i .u8 0),(.i .u8 0),(.i .u8 0),(.i .u8 0),(.i .u8 0),(.i .u8 0)]
end
noncomputable section
open Go.RowKit
def BDq (P:Program) (t:TypeId) (z:List SV) (l:List (Nat × Nat)):Prop:=∃ zs pl,(∀ g,dens (den1 g) z=some zs)∧BD P t zs pl∧∀ (i:Nat) (q:Nat × Nat),l[i]?=some q→pl i=some q
def inL (l:List (Nat × IntKind × SV)) (a:Nat) (k:IntKind) (z:SV):Bool:=match l with
 | []=>false
 | x::r=>bif Nat.beq x.1 a then keq x.2.1 k && same z x.2.2 else inL r a k z
def AllL (Q:Nat→IntKind→SV→Prop):List (Nat × IntKind × SV)→Prop
 | []=>True
 | x::r=>Q x.1 x.2.1 x.2.2∧AllL Q r
theorem inL_of {Q:Nat→IntKind→SV→Prop}:∀ {l:List (Nat × IntKind × SV)} {a:Nat} {k:IntKind} {z:SV},AllL Q l→inL l a k z=true→Q a k z
 | x::r,a,k,z,⟨h1,h2⟩,h=>by
  simp only [inL] at h
  cases hb:Nat.beq x.1 a with
  | true =>
   rw [hb] at h
   simp only [cond_true,Bool.and_eq_true] at h
   have e1:=Nat.eq_of_beq_eq_true hb; subst e1
   have e2:=keq_eq h.1; subst e2
   rw [same_eq h.2]; exact h1
  | false=>rw [hb] at h; exact inL_of h2 h
theorem All2.imp {Q Q':Nat→Nat→Prop} (h:∀ a b,Q a b→Q' a b):∀ {l:List (Nat × Nat)},All2 Q l→All2 Q' l
 | [],_=>trivial
 | x::r,⟨h1,h2⟩=>⟨h _ _ h1,All2.imp h h2⟩
end
end EV
end Go.Proofs.YtadggjnohohedaaGreatDoor
