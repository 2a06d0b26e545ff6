/- TopAlone: for every input the call returns true; part A1 of the proof. -/
import Derived.Test.YtadggjnohohedaaGreatDoorA0
import GoSem.Core.View
import Derived.Lib.BufferMore
import Derived.Laws.BytesArg
import Derived.ChangeKeysEq
import Derived.Laws.StructEq
import Derived.Lib.LazyBuf
import Derived.Laws.Slices
import Derived.Laws.Strings2
set_option linter.unusedVariables false
set_option linter.unusedSimpArgs false
set_option linter.unusedSectionVars false
set_option maxRecDepth 1000000
open Go.RowKit
namespace Go.Proofs.YtadggjnohohedaaGreatDoor
section
theorem EA:∀ (C:List Value) (o:Nat) (v:Value),o < C.length→gV C o [v]=some (C.set o v)
 | [],o,v,h=>by simp at h
 | c::C,0,v,h=>by cases C <;> rfl
 | c::C,o + 1,v,h=>by simp only [gV,EA C o v (by simpa using h)]; rfl
theorem aEh {p:Prop} (h:p:=by
  refine Au ?_;simp only [dB] at *;exact GE.jn (⟨#[]⟩,t.n) (.c rfl (.c rfl (.c rfl .n))) .refl (⟨(if_neg (by omega)).symm,(if_pos (by omega)).symm⟩)):p:=h
theorem EU.yA {P:Program} {W0:World} {kn:Kn} {L L':List aA} {b o:Nat} {t:TypeId} {C:List Value} {d g T x y ty pos af v} (hx:ev kn x=some (.pointer (some ⟨b,o,none⟩))) (hy:ev kn y=some v) (hs1:SZ P T 1) (ho:Y7 v=true) [p:eJ L b t C] (hl:o < C.length)
  [q:pD L b t C (C.set o v) L']:EU P W0 kn L ⟨d,.store T x y,ty,pos,af,g⟩ L':=by
 have hv:vc v=[v]:=by cases v <;> first | rfl | (exact absurd ho (by simp [Y7]))
 exact EU.store hx hy hs1 (by rw [hv]; rfl) (by rw [hv]; simp [ones,ho]) (by rw [hv]; exact EA C o v hl) q.sw
def pk (l:List Int) (i j:Nat):Int:=if j < i then l[j]?.getD 0 else 0
def pY (t:Tm) (k:Nat):List Value:=[.int .i64 t.kind,.string t.only.s,.int .u64 t.only.n,.int .i64 (pk t.parts k 0),.int .i64 (pk t.parts k 1),.int .i64 (pk t.parts k 2)]
theorem PS (t:Tm) (k:Nat) (hk:k < t.parts.length):(pY t k).set (3 + k) (.int .i64 (t.parts[k]?.getD 0))=pY t (k + 1):=by
 have:=jT t;match k,hk with
 | 0,_=>simp [pY,pk]
 | 1,_=>simp [pY,pk]
 | 2,_=>simp [pY,pk]
 | k + 3,h=>omega
theorem PT (t:Tm) (n:Nat) (h:t.parts.length=n):pY t n=eK t.only:=by
 have hp:∀ j,pk t.parts n j=t.parts[j]?.getD 0:=fun j=>by
  unfold pk; split
  ·rfl
  rw [List.getElem?_eq_none (by omega)]; rfl
 simp only [pY,hp]; rfl
theorem XZ (b:Nat) (W:World):(Instr.index 306 (.agg #[.pointer (some ⟨b,3,none⟩),.pointer (some ⟨b,4,none⟩),.pointer (some ⟨b,5,none⟩)]) (.int .i64 0)).run Tryz.prog W=.ok (.pointer (some ⟨b,3,none⟩)) W:=by kernel_rfl
theorem XY (b:Nat) (W:World):(Instr.index 306 (.agg #[.pointer (some ⟨b,3,none⟩),.pointer (some ⟨b,4,none⟩),.pointer (some ⟨b,5,none⟩)]) (.int .i64 1)).run Tryz.prog W=.ok (.pointer (some ⟨b,4,none⟩)) W:=by kernel_rfl
theorem XX (b:Nat) (W:World):(Instr.index 306 (.agg #[.pointer (some ⟨b,3,none⟩),.pointer (some ⟨b,4,none⟩),.pointer (some ⟨b,5,none⟩)]) (.int .i64 2)).run Tryz.prog W=.ok (.pointer (some ⟨b,5,none⟩)) W:=by kernel_rfl
theorem EX.aEp {W0 kn L d g x i ty ps af} {b k:Nat} (hx:ev kn x=some (.agg #[.pointer (some ⟨b,3,none⟩),.pointer (some ⟨b,4,none⟩),.pointer (some ⟨b,5,none⟩)])) (hi:ev kn i=some (.int .i64 (k:Int))) (hk:k < 3) :
  EX Tryz.prog W0 kn L ⟨d,.index 306 x i,ty,ps,af,g⟩ (.pointer (some ⟨b,3 + k,none⟩)):=fun ρ w he hs=>by
 simp only [execOp,he x _ hx,he i _ hi,Sem.run_bind];have:(Instr.index 306 (.agg #[.pointer (some ⟨b,3,none⟩),.pointer (some ⟨b,4,none⟩),.pointer (some ⟨b,5,none⟩)]) (.int .i64 (k:Int))).run Tryz.prog w=.ok (.pointer (some ⟨b,3 + k,none⟩)) w:=by
  match k,hk with
  | 0,_=>exact XZ b w
  | 1,_=>exact XY b w
  | 2,_=>exact XX b w
 rw [this]; rfl
theorem J2 (t:Tm) :
  tD Tryz.prog 117 [dE t].toArray [] (dE t.only) []:=by
 refine Fg Tryz.func117 Tryz.ntmps117 fun W0 R=>?_;refine Au ?_;refine Ef (EF.bV rfl) fun b1 _=>?_;refine Ef (EF.alloc aL) fun b2 _=>?_;refine Au ?_;refine Ef (EF.alloc aL) fun b3 _=>?_;refine Lt ?_;refine Zn ?_;refine GC.join (σ:=ByteArray × Int) (fun s=>[(1,ptr b1),(2,ptr b2),(3,ptr b3)]) (fun s=>[Bk b3 94 [.int .i64 t.kind,.string s.1,.int .u64 s.2,.int .i64 0,.int .i64 0,.int .i64 0],Bk b2 94 [.int .i64 0,.string ⟨#[]⟩,.int .u64 0,.int .i64 0,.int .i64 0,.int .i64 0],Bk b1 94 (eK t)]++R) (fun s=>s.1=t.only.s∧s.2=t.only.n) (fun s hs=>?_) ?_
 ·obtain ⟨S,N⟩:=s;obtain ⟨rfl,rfl⟩:=hs;obtain ⟨n,hn⟩:∃ n,t.parts.length=n:=⟨_,rfl⟩;have hn3:=jT t;rw [hn] at hn3;refine GC.app .a3 ?_;refine Au ?_;refine Ky (vZ t) fun v hv=>?_;obtain ⟨av,cv,rfl⟩:=hv;rw [hn];refine Au ?_;refine GC.lp (σ:=Nat) (fun s=>[(26,.int .i64 (s:Int)),(24,.slice av n cv),(25,.int .i64 (n:Int)),(3,ptr b3),(2,ptr b2)]) (fun s=>[Rw 3 1 (.slice av n cv) n (aJ t.parts),Bk b3 94 (pY t s),Bk b2 94 [.int .i64 0,.string ⟨#[]⟩,.int .u64 0,.int .i64 0,.int .i64 0,.int .i64 0]]++R) (fun s=>s≤n) (fun s=>n - s) 0 (.c rfl (.c rfl (.c rfl (.c rfl (.c rfl .n))))) (.t0 (.t0 (.t0 (.d .refl)))) (by omega) (fun s hs=>?_);refine GC.app .a3 ?_;refine Au ?_;refine GC.cond rfl (fun c27=>?_) (fun c27=>?_)
  ·simp only [decide_eq_true_eq] at c27;have hkn:s < n:=by omega
   refine GC.know (fun w h=>h.dV .p0 (by omega)) (fun hg=>?_);obtain ⟨g,rfl⟩:=hg;refine Au ?_;refine Lu rfl (EX.indexAddr (a:=s) rfl rfl sL (by omega) (by simp)) ?_;refine Lu rfl (EX.tU rfl (kC (by omega)) oN) ?_;refine Au ?_;refine Lu rfl (EX.build rfl aM8 rfl) ?_;refine Au ?_;refine Lu rfl (EX.aEp rfl rfl (by omega)) ?_;refine Au ?_;refine Ed (EU.yA rfl rfl sZ rfl (by simp [pY]; omega)) ?_;refine Au ?_;refine La ?_;refine Au ?_;rw [PS t s (by omega)];exact GE.ag (s + 1) (.c (by rw [← Int.natCast_succ]; rfl) (.c rfl (.c rfl (.c rfl (.c rfl .n))))) .refl (by omega) (by omega)
  simp only [decide_eq_false_iff_not] at c27;obtain rfl:s=n:=by omega
  refine GC.exit (GE.bE (GE.bE (GE.dT ?_)));refine Ze (Zt ?_);rw [PT t s hn];refine Au ?_;refine GE.tO rfl (.fV rfl .p2 mN rfl) (fun w h=>?_);exact ⟨rfl,h.part (.d (.d (.d .refl)))⟩
 refine Au ?_;refine GC.cond rfl (fun c11=>?_) (fun c11=>?_)
 ·refine Au ?_;simp only [dB] at *;exact GE.jn (t.s,0) (.c rfl (.c rfl (.c rfl .n))) .refl (⟨(if_pos (by omega)).symm,(if_neg (by omega)).symm⟩)
 refine Au ?_;refine GC.cond rfl (fun c16=>?_) (fun c16=>?_)
 ·refine Au ?_;refine GC.aQ rfl c16 ?_;exact aEh
 refine Au ?_;refine GC.cond rfl (fun aAt=>?_) (fun aAt=>?_)
 ·refine Au ?_;refine GC.aQ rfl aAt ?_;exact aEh
 refine Au ?_;refine GC.cond rfl (fun aM2=>?_) (fun aM2=>?_)
 ·exact aEh
 refine Au ?_;simp only [dB] at *;exact GE.jn (⟨#[]⟩,0) (.c rfl (.c rfl (.c rfl .n))) .refl (⟨(if_neg (by omega)).symm,(if_neg (by omega)).symm⟩)
end
section
structure A1 where
 gl:Nat
 cl:Nat
 gd:Nat
 cd:Nat
 mb:Nat
 ds:List Int
structure mK (l:List Tm) (ds:List Int):Prop where
 deep:ds.length=l.length + 1
 nodup:l.Nodup
 room:l.length≤2000000
def names (l:List Tm):List (Tm × Value):=l.zipIdx.map fun p=>(p.1,.int .i64 ((p.2:Int) + 1))
def rE (bs:Nat) (l:List Tm) (most:Int) (x:A1):List aA :=
 [Bk bs 109 [.slice (some ⟨x.gl,0,none⟩) (l.length + 1) x.cl,.slice (some ⟨x.gd,0,none⟩) (l.length + 1) x.cd,.map (some x.mb),.int .i64 most],
  Rw 94 6 (.slice (some ⟨x.gl,0,none⟩) (l.length + 1) x.cl) (l.length + 1) (fL (cW::l)),
  Rw 3 1 (.slice (some ⟨x.gd,0,none⟩) (l.length + 1) x.cd) (l.length + 1) (aJ x.ds),
  Mp dE x.mb (names l),Fact (mK l x.ds)]
@[irreducible] def St (bs:Nat) (l:List Tm) (most:Int):aA:=lD fun x=>aA.all (rE bs l most x)
theorem uQ {W0 W:World} {R:List aA} {bs:Nat} {l:List Tm} {most:Int} (h:aB W0 W (St bs l most::R)):∃ x,aB W0 W (rE bs l most x++R):=by
 unfold St at h;obtain ⟨x,h⟩:=h.aP;exact ⟨x,h.hU⟩
theorem iI {W0 W:World} {R:List aA} {bs:Nat} {l:List Tm} {most:Int} (x:A1) (h:aB W0 W (rE bs l most x++R)):aB W0 W (St bs l most::R):=by
 unfold St;exact aB.bR x h.eX
theorem uR {W0 W:World} {L R:List aA} {bs:Nat} {l:List Tm} {most:Int} (h:aB W0 W L) (p:Pick L (St bs l most) R):l.length≤2000000∧l.Nodup:=by
 obtain ⟨x,h⟩:=uQ (h.pick p);have h2:aB W0 W (Fact (mK l x.ds)::_):=h.pick .p4;exact ⟨h2.aN.1.room,h2.aN.1.nodup⟩
theorem oP (bs:Nat) (l:List Tm) (most:Int) :
  tD Tryz.prog 9 [ptr bs].toArray [St bs l most] (.int .i64 (l.length:Nat)) [St bs l most]:=by
 refine Fg Tryz.func9 Tryz.ntmps9 fun W0 R=>?_;refine GC.know (fun w h=>uR h .here) (fun hg=>?_);obtain ⟨hroom,_⟩:=hg;refine GC.ex (fun w h=>uQ h) (fun x=>?_);refine GC.app (.c (.c (.c (.c (.c .a0))))) ?_;refine Au ?_;refine Lu rfl (EX.sub rfl rfl (show IntKind.i64.wrap (((l.length + 1:Nat):Int) - 1)=(l.length:Int) from by rw [show (((l.length + 1:Nat):Int) - 1)=(l.length:Int) by omega]; exact wi (by omega))) ?_;refine Au ?_;refine Go fun w h=>?_;exact ⟨rfl,iI x h⟩
theorem MR {l:List Tm} {i:Nat} (h1:1≤i) (h2:i≤l.length):aO l i=(cW::l)[i]'(by simp; omega)∧eI l i=true:=by
 obtain ⟨j,rfl⟩:∃ j,i=j + 1:=⟨i - 1,by omega⟩;unfold aO eI;refine ⟨?_,by simp; omega⟩;rw [if_pos ⟨by omega,by omega⟩];simp [List.getD_eq_getElem?_getD,List.getElem?_eq_getElem (show j < l.length by omega)]
theorem FL {l:List Tm} {name:Int} (h:name < 1∨(l.length:Int) < name):aO l name=cW∧eI l name=false:=by
 unfold aO eI;refine ⟨if_neg (by omega),?_⟩;rw [Bool.and_eq_false_iff,decide_eq_false_iff_not,decide_eq_false_iff_not]; omega
theorem jL (bs:Nat) (l:List Tm) (most name:Int) :
  tD Tryz.prog 147 [ptr bs,.int .i64 name].toArray [St bs l most] (.tuple #[dE (aO l name),.bool (eI l name)]) [St bs l most]:=by
 refine Fg Tryz.func147 Tryz.ntmps147 fun W0 R=>?_;refine Au ?_;refine Ef (EF.alloc aL) fun b4 _=>?_;refine Au ?_;refine GL.case 8 rfl (fun g8=>?_) (fun g8=>?_)
 ·refine Au ?_;refine GC.aQ rfl rfl ?_;refine Au ?_;refine Gq fun w h=>?_;simp only [dB] at *;have hg:=FL (l:=l) (name:=name) (by omega);rw [hg.1,hg.2];exact ⟨rfl,h.part (.t1 (.d .refl))⟩
 refine Au ?_;refine K.c (EC.direct eN rfl) (oP _ _ _) (.one .p1) .a1 rfl rfl (.guard rfl rfl rfl rfl g8) ?_;refine Au ?_;refine GC.cond rfl (fun c13=>?_) (fun c13=>?_)
 ·refine Au ?_;refine Gq fun w h=>?_;simp only [dB] at *;have hg:=FL (l:=l) (name:=name) (by omega);rw [hg.1,hg.2];exact ⟨rfl,h.part (.t0 (.d .refl))⟩
 simp only [dB] at *;have hin:1≤name∧name≤l.length:=by omega
 obtain ⟨i,rfl⟩:∃ i:Nat,name=i:=⟨name.toNat,by omega⟩;have hi:i < (cW::l).length:=by simp; omega
 refine GC.ex (fun w h=>uQ h) (fun x=>?_);refine GC.app (.c (.c (.c (.c (.c .a0))))) ?_;refine Au ?_;refine Lu rfl (EX.indexAddr (a:=i * 6) rfl rfl sL (by omega) (by simp)) ?_;refine Lu rfl (EX.rW rfl (mN rfl) rfl (TE hi)) ?_;refine Au ?_;refine Gq fun w h=>?_;have hg:=MR (l:=l) (i:=i) (by omega) (by omega);rw [hg.1,hg.2];exact ⟨rfl,iI x (h.part (.t0 (.t0 (.t0 (.t0 (.t0 (.d .refl)))))))⟩
end
section
theorem QM {p:Prop} (h:p:=by
  refine Au ?_;refine Go fun w h=>?_;simp only [dB,ne_eq,dC] at *;first
  | exact ⟨by rw [WZ (by rintro ⟨h1,h2,h3,h4,h5,h6⟩; first | omega | contradiction | (have h7:=h6 (t.parts[s]?.getD 0) (wR (by omega)); omega))],h.part (.t1 (.d .refl))⟩
  | exact ⟨by rw [(uY t l).2 ⟨by omega,by omega,by assumption,by omega,by omega,ME hn hall⟩],h.part (.t1 (.d .refl))⟩):p:=h
theorem aKx {p:Prop} (h:p:=by
  refine Au ?_;refine Ky (vZ t) fun v hv=>?_;obtain ⟨av,cv,rfl⟩:=hv;rw [hn];refine Au ?_;refine GC.lp (σ:=Nat) (fun s=>[(42,.int .i64 (s:Int)),(40,.slice av n cv),(41,.int .i64 (n:Int)),(0,ptr bs)]) (fun s=>[Rw 3 1 (.slice av n cv) n (aJ t.parts),St bs l most]++R) (fun s=>s≤n∧∀ j,j < s→1≤t.parts[j]?.getD 0∧t.parts[j]?.getD 0≤l.length) (fun s=>n - s) 0 (.c rfl (.c rfl (.c rfl (.c rfl .n)))) (.t0 (.t1 (.d .refl))) (⟨Nat.zero_le _,fun j hj=>by omega⟩) (fun s hs=>?_);refine GC.app .a2 ?_;obtain ⟨hsn,hall⟩:=hs;refine Au ?_;refine GC.cond rfl (fun c43=>?_) (fun c43=>?_)
  ·simp only [decide_eq_true_eq] at c43;have hsn:s < n:=by omega
   refine GC.know (fun w h=>h.dV .p0 (by omega)) (fun hg=>?_);obtain ⟨g,rfl⟩:=hg;refine Au ?_;refine Lu rfl (EX.indexAddr (a:=s) rfl rfl sL (by omega) (by simp)) ?_;refine Lu rfl (EX.tU rfl (kC (by omega)) oN) ?_;refine Au ?_;refine GL.case 48 rfl (fun g48=>?_) (fun g48=>?_)
   ·refine Au ?_;refine GC.aQ rfl rfl ?_;exact QM
   refine Au ?_;refine K.c (EC.direct eN rfl) (oP _ _ _) (.one .p1) .a1 rfl rfl (.guard rfl rfl rfl rfl g48) ?_;refine Au ?_;refine GC.cond rfl (fun c53=>?_) (fun c53=>?_)
   ·refine Au ?_;refine Go fun w h=>?_;simp only [dB,ne_eq,dC] at *;first
    | exact ⟨by rw [WZ (by rintro ⟨h1,h2,h3,h4,h5,h6⟩; first | omega | contradiction | (have h7:=h6 (t.parts[s]?.getD 0) (wR (by omega)); omega))],h.part (.t0 (.d .refl))⟩
    | exact ⟨by rw [(uY t l).2 ⟨by omega,by omega,by assumption,by omega,by omega,ME hn hall⟩],h.part (.t0 (.d .refl))⟩
   ·refine Au ?_;refine La ?_;refine Au ?_;simp only [dB,ne_eq,dC] at *;have hnext:∀ j,j < s + 1→1≤t.parts[j]?.getD 0∧t.parts[j]?.getD 0≤l.length:=by
     intro j hj;rcases Nat.lt_or_ge j s with h | h
     ·exact hall j h
     obtain rfl:j=s:=by omega
     exact ⟨by omega,by omega⟩
    exact GE.ag (s + 1) (.c (by rw [← Int.natCast_succ]; rfl) (.c rfl (.c rfl (.c rfl .n)))) (.t1 .refl) (by omega) (⟨by omega,hnext⟩)
  simp only [decide_eq_false_iff_not] at c43;obtain rfl:s=n:=by omega
  exact QM):p:=h
theorem aKw {p:Prop} (h:p:=by
  refine Ga 11 ?_;refine Au ?_;refine D.n .refl ?_;refine Dq 0 [12,13,14,15,16,17,18,19,20,21,22,23,24,25,26,27,28,29,30,31] ?_;refine Gd ?_;refine Au ?_;refine GC.aQ rfl rfl ?_;exact QM):p:=h
theorem uY (t:Tm) (l:List Tm):t.may l=true↔(1≤t.kind∧t.kind < 12∧t=t.only∧t.s.size≤1000∧¬ (t.kind=4∧t.b < t.a)∧∀ p∈t.parts,1≤p∧p≤l.length):=by
 unfold Tm.may;simp only [Bool.and_eq_true,decide_eq_true_eq,Bool.not_eq_true',Bool.and_eq_false_iff,decide_eq_false_iff_not,List.all_eq_true];constructor
 ·rintro ⟨⟨⟨⟨⟨h1,h2⟩,h3⟩,h4⟩,h5⟩,h6⟩;exact ⟨h1,h2,h3,h4,fun h=>h5.elim (fun g=>g h.1) (fun g=>g h.2),h6⟩
 rintro ⟨h1,h2,h3,h4,h5,h6⟩;exact ⟨⟨⟨⟨⟨h1,h2⟩,h3⟩,h4⟩,(Classical.em (t.kind=4)).elim (fun g=>.inr (fun h=>h5 ⟨g,h⟩)) .inl⟩,h6⟩
theorem wR {l:List Int} {s:Nat} (h:s < l.length):l[s]?.getD 0∈l:=by rw [List.getElem?_eq_getElem h]; exact List.getElem_mem h
theorem ME {t:Tm} {l:List Tm} {n:Nat} (hn:t.parts.length=n) (h:∀ j,j < n→1≤t.parts[j]?.getD 0∧t.parts[j]?.getD 0≤l.length):∀ p∈t.parts,1≤p∧p≤(l.length:Int):=by
 intro p hp;obtain ⟨j,hj⟩:=List.getElem?_of_mem hp;have hlt:j < n:=by
  rcases Nat.lt_or_ge j t.parts.length with h | h
  ·omega
  rw [List.getElem?_eq_none h] at hj; cases hj
 have:=h j hlt;rw [hj] at this; exact this
theorem WZ {t:Tm} {l:List Tm} (h:¬ (1≤t.kind∧t.kind < 12∧t=t.only∧t.s.size≤1000∧¬ (t.kind=4∧t.b < t.a)∧∀ p∈t.parts,1≤p∧p≤l.length)):t.may l=false:=by
 rw [← uY] at h; simpa using h
theorem aDx (bs:Nat) (l:List Tm) (most:Int) (t:Tm) :
  tD Tryz.prog 69 [ptr bs,dE t].toArray [St bs l most] (.bool (t.may l)) [St bs l most]:=by
 obtain ⟨n,hn⟩:∃ n,t.parts.length=n:=⟨_,rfl⟩;have hn3:=jT t;rw [hn] at hn3;refine Fg Tryz.func69 Tryz.ntmps69 fun W0 R=>?_;refine Au ?_;refine Ef (EF.bV rfl) fun b3 _=>?_;refine Au ?_;refine Gr 32 (.t (.t .e)) ?_;refine Dq 28 [0,1,2,3] ?_;refine GD.case 10 rfl (fun g10=>?_) (fun g10=>?_)
 ·refine Dq 21 [4,5,6,7,8,9,10] ?_;exact aKw
 refine Dq 23 [4,5,6,7,8] ?_;refine GD.case 15 rfl (fun g15=>?_) (fun g15=>?_)
 ·refine Dq 21 [9,10] ?_;exact aKw
 refine Dq 21 [9,10] ?_;refine Ga 11 ?_;refine K.c (EC.direct eN rfl) (J2 t) .nil .a0 rfl rfl (.guard rfl rfl rfl rfl g15) ?_;refine D.n .refl ?_;refine Dh 12 rfl (fun X=>EX.aIo (t:=t) (u:=t.only) rfl rfl) (.q g15) ?_;refine Dq 17 [13,14] ?_;refine GD.case 21 rfl (fun g21=>?_) (fun g21=>?_)
 ·refine Dq 0 [15,16,17,18,19,20,21,22,23,24,25,26,27,28,29,30,31] ?_;refine Gd ?_;refine Au ?_;refine GC.aQ rfl rfl ?_;exact QM
 refine Dq 11 [15,16,17,18,19,20] ?_;refine GD.case 27 rfl (fun MV=>?_) (fun MV=>?_)
 ·refine Dq 0 [21,22,23,24,25,26,27,28,29,30,31] ?_;refine Gd ?_;refine Au ?_;refine GC.aQ rfl rfl ?_;exact QM
 refine Dq 7 [21,22,23,24] ?_;refine GD.case 31 rfl (fun T0=>?_) (fun T0=>?_)
 ·refine Dq 0 [25,26,27,28,29,30,31] ?_;refine Gd ?_;refine Au ?_;refine GC.cond rfl (fun c38=>?_) (fun c38=>?_)
  ·exact QM
  exact aKx
 refine Dq 0 [25,26,27,28,29,30,31] ?_;refine Gd ?_;refine Au ?_;refine GC.bH rfl rfl ?_;exact aKx
end
section
theorem aKv {p:Prop} (h:p:=by
  obtain ⟨aTs,aTm,rfl⟩:=aK4;refine D.n0 (by kernel_rfl) (.t3 (.t7 .refl)) ?_;refine Ds 17 ?_;refine Ds 18 ?_;refine Ga 19 ?_;refine Au ?_;refine D.n1 (by kernel_rfl) .refl ?_;refine Ds 20 ?_;refine Ds 21 ?_;refine Ga 22 ?_;refine Au ?_;refine D.n1 (by kernel_rfl) .refl ?_;refine Gd ?_;refine Au ?_;refine Gr 7 (.t (.t (.t (.t (.t (.t (.f (.t (.t .e))))))))) ?_;refine Dq 1 [0,1,2,3,4,5] ?_;refine Ga 6 ?_;refine Ed (EU.mu (a:=t) rfl rfl rfl aAc uN) ?_;refine D.n (.t0 (.t0 (.t0 (.t0 (.t0 (.t0 (.t1 (.t1 .refl)))))))) ?_;refine Gd ?_;refine Au ?_;refine Gs fun w h=>?_;have hj:=AA hlk;have hbig:¬ most≤(l.length:Int):=by omega
  have e:(bF l most t).2.2=l++[t]:=by unfold bF; simp [hmay,hj,hbig]
  rw [e];exact ⟨by unfold bF; simp [hmay,hj,hbig],PB (h.part (.t3 (.t3 (.t3 (.t3 (.t3 (.d (.d (.d (.d .refl)))))))))) hlk (by omega)⟩):p:=h
theorem aKu {p:Prop} (h:p:=by
  refine D.n0 (by kernel_rfl) (.t3 (.t7 .refl)) ?_;refine Ga 16 ?_;refine Ef (EF.append rfl rfl NV (fun v=>.there (.there (.there (.there (.there (.here)))))) .p0 (rfl) (rfl) (by unfold maxLen; omega) (by omega)) fun v72 aK4=>?_;exact aKv):p:=h
theorem P5 (bs m c:Nat) (a:Option Addr) (v1 v2 v3:Value) (h1:1≤m) (h2:m≤3000000):tD Tryz.prog 9 [ptr bs].toArray [Bk bs 109 [.slice a m c,v1,v2,v3]] (.int .i64 ((m:Int) - 1)) [Bk bs 109 [.slice a m c,v1,v2,v3]]:=by
 refine Fg Tryz.func9 Tryz.ntmps9 fun W0 R=>?_;refine Au ?_;refine La ?_;refine Au ?_;refine Go fun w h=>?_;exact ⟨rfl,h⟩
theorem aAc:dX Tryz.prog 94 dE:=by
 refine ⟨aLo,?_,⟨_,Tryz.underlying94,.inr (fun a b=>rfl)⟩,?_⟩
 ·intro a e w;have u3:=Tryz.underlying3;have u9:=Tryz.underlying9;have u30:=Tryz.underlying30;unfold dE;rw [Instr.checkKey];simp only [Sem.run_bind,run_underlying Tryz.underlying94,Result.andThen_ok]
  go_simp
  have ci:∀ k,(Instr.checkKey e 9999 3 (.int .i64 k)).run Tryz.prog w=.ok () w:=fun k=>by rw [Instr.checkKey]; simp [run_underlying Tryz.underlying3]
  have cs:∀ k,(Instr.checkKey e 9999 9 (.string k)).run Tryz.prog w=.ok () w:=fun k=>by rw [Instr.checkKey]; simp [run_underlying Tryz.underlying9]
  have cu:∀ k,(Instr.checkKey e 9999 30 (.int .u64 k)).run Tryz.prog w=.ok () w:=fun k=>by rw [Instr.checkKey]; simp [run_underlying Tryz.underlying30]
  simp only [ci,cs,cu,Result.andThen_ok]
 intro a;unfold dE;rw [Instr.sameBits];simp only [Instr.sameBits,List.zip_cons_cons,List.zip_nil_left,List.all_cons,List.all_nil,List.zip_nil_right];simp;rw [beq_toListBytes]; simp
theorem wI {t : Tm} : ∀ (l : List Tm) (i k : Nat), aM t (l.zipIdx k |>.map fun p => (p.1, Value.int .i64 ((p.2 : Int) + 1))) i = (l.findIdx? (· = t)).map fun j => (i + j, Value.int .i64 (((k + j : Nat) : Int) + 1))
  | [], i, k => rfl
  | x :: l, i, k => by
    simp only [List.zipIdx_cons, List.map_cons, aM, List.findIdx?_cons]
    by_cases e : t = x
    · subst e; simp
    · have e' : ¬ x = t := fun h => e h.symm
      rw [if_neg e, wI l (i + 1) (k + 1)]
      simp only [decide_eq_false e', Bool.false_eq_true, if_false]
      cases l.findIdx? (fun x => decide (x = t)) with
      | none => rfl
      | some j => simp only [Option.map_some]; congr 2; · omega
                  · simp only [Value.int.injEq, true_and]; omega
theorem kZ (l:List Tm) (t:Tm):look (names l) t=(l.findIdx? (·=t)).map fun j=>Value.int .i64 ((j:Int) + 1):=by
 rw [← fD t (names l) 0];unfold names;rw [wI l 0 0];cases l.findIdx? (fun x=>decide (x=t)) with
 | none=>rfl
 | some j=>simp
theorem AA {l:List Tm} {t:Tm} (h:look (names l) t=none):l.findIdx? (·=t)=none:=by
 rw [kZ] at h;cases hq:l.findIdx? (·=t) with
 | none=>rfl
 | some j=>rw [hq] at h; simp at h
theorem QB {l:List Tm} {t:Tm} (h:look (names l) t=none):cG t (.int .i64 ((l.length:Int) + 1)) (names l)=names (l++[t]):=by
 have:aM t (names l) 0=none:=by
  have:=fD t (names l) 0;rw [h] at this;cases hq:aM t (names l) 0 with
  | none=>rfl
  | some q=>rw [hq] at this; simp at this
 rw [eD this];simp [names,List.zipIdx_append]
theorem PB {W0 w:World} {R:List aA} {bs:Nat} {l:List Tm} {most:Int} {t:Tm} {mb:Nat} {ds:List Int} {al ad:Option Addr} {cl cd:Nat} {d:Int}
  (h:aB W0 w (Bk bs 109 [.slice al (l.length + 1 + 1) cl,.slice ad (l.length + 1 + 1) cd,.map (some mb),.int .i64 most]::Rw 94 6 (.slice al (l.length + 1 + 1) cl) (l.length + 1 + 1) (fL (cW::l)++eK t) ::
   Rw 3 1 (.slice ad (l.length + 1 + 1) cd) (l.length + 1 + 1) (aJ ds++[.int .i64 d])::Mp dE mb (cG t (.int .i64 ((l.length:Int) + 1)) (names l))::Fact (mK l ds)::R))
  (hl:look (names l) t=none) (hroom:l.length < 2000000):aB W0 w (St bs (l++[t]) most::R):=by
 obtain ⟨gl,rfl⟩:=h.dV .p1 (by omega);obtain ⟨gd,rfl⟩:=h.dV .p2 (by omega);have h5:aB W0 w (Fact (mK l ds)::_):=h.pick .p4;obtain ⟨hg,h6⟩:=h5.aN;have hg':mK (l++[t]) (ds++[d]):=by
  refine ⟨by simp [hg.deep],?_,by simp; omega⟩;refine List.nodup_append.2 ⟨hg.nodup,by simp,fun a ha b hb=>?_⟩;simp at hb; subst hb;intro e; subst e;have h7:=kZ l a;rw [hl] at h7;cases hq:l.findIdx? (·=a) with
  | none=>rw [List.findIdx?_eq_none_iff] at hq; have:=hq a ha; simp at this
  | some j=>rw [hq] at h7; simp at h7
 refine iI ⟨gl,cl,gd,cd,mb,ds++[d]⟩ ?_;unfold rE;rw [← QB hl];have e1:(l++[t]).length + 1=l.length + 1 + 1:=by simp
 have e2:fL (cW::(l++[t]))=fL (cW::l)++eK t:=by rw [← List.cons_append,uL]; rfl
 have e3:aJ (ds++[d])=aJ ds++[.int .i64 d]:=by simp [aJ]
 rw [e1,e2,e3];have h8:=aB.bB hg' h6;exact h8.perm (List.perm_middle (a:=Fact (mK (l++[t]) (ds++[d]))) (l₁:=[_,_,_,_]) (l₂:=R)).symm
theorem UL (bs:Nat) (l:List Tm) (most:Int) (t:Tm) (hm:most≤1048576) :
  tD Tryz.prog 25 [ptr bs,dE t].toArray [St bs l most] (.tuple #[.int .i64 (bF l most t).1,.int .i64 (bF l most t).2.1]) [St bs (bF l most t).2.2 most]:=by
 obtain ⟨n,hn⟩:∃ n,t.parts.length=n:=⟨_,rfl⟩;have hn3:=jT t;rw [hn] at hn3;refine Fg Tryz.func25 Tryz.ntmps25 fun W0 R=>?_;refine GC.know (fun w h=>uR h .here) (fun hg=>?_);obtain ⟨hroom,hnd⟩:=hg;refine Au ?_;refine Ef (EF.bV rfl) fun b3 _=>?_;refine Au ?_;refine Kc (aDx bs l most t) (.one .p1) ?_;refine Au ?_;refine GC.cond rfl (fun c15=>?_) (fun c15=>?_)
 ·have hno:t.may l=false:=by simpa using c15
  refine Au ?_;refine Gs fun w h=>?_;exact ⟨by unfold bF; simp [hno],by unfold bF; simpa [hno] using h.part (.t0 (.d .refl))⟩
 have hmay:t.may l=true:=by simpa using c15
 have hpr:=((uY t l).1 hmay).2.2.2.2.2;refine GC.ex (fun w h=>uQ h) (fun x=>?_);refine GC.app (.c (.c (.c (.c (.c .a0))))) ?_;refine GC.know (fun w h=>(h.pick .p4).aN.1) (fun hsg=>?_);have hdl:=hsg.deep;refine Au ?_;refine Gr 11 (.t (.t (.t (.t (.t (.t .e)))))) ?_;refine Dq 6 [0,1,2,3,4] ?_;refine Dv 5 rfl (fun X=>EX.QI (a:=t) rfl rfl aAc uN zV) ?_;refine Dq 0 [6,7,8,9,10] ?_;refine Gd ?_;refine Au ?_;refine GC.cond rfl (fun c25=>?_) (fun c25=>?_)
 ·refine Au ?_;refine Gs fun w h=>?_;obtain ⟨j,hj⟩:∃ j,l.findIdx? (·=t)=some j:=by
   have:=kZ l t;cases hq:l.findIdx? (·=t) with
   | none=>rw [hq] at this; simp [this] at c25
   | some j=>exact ⟨j,rfl⟩
  have hl2:=kZ l t;rw [hj] at hl2;rw [hl2];have e:(bF l most t).2.2=l:=by unfold bF; simp [hmay,hj]
  rw [e];exact ⟨by unfold bF; simp [hmay,hj,fT],iI x (h.part (.t0 (.t0 (.t0 (.t0 (.t0 (.d .refl)))))))⟩
 have hlk:look (names l) t=none:=by simpa using c25
 refine Au ?_;refine Gr 7 (.t (.t (.t (.t (.t (.t .e)))))) ?_;refine Dq 2 [0,2,3,4,5] ?_;refine Ga 1 ?_;refine K.c (EC.direct eN rfl) (P5 _ _ _ _ _ _ _ (by omega) (by omega)) (.one .p0) .a1 rfl rfl (.free rfl) ?_;refine D.n .refl ?_;refine Ds 6 ?_;refine Gd ?_;refine Au ?_;refine GC.cond rfl (fun c33=>?_) (fun c33=>?_)
 ·refine Au ?_;refine Gs fun w h=>?_;simp only [decide_eq_true_eq] at c33;have hj:=AA hlk;have hbig:most≤(l.length:Int):=by omega
  have e:(bF l most t).2.2=l:=by unfold bF; simp [hmay,hj,hbig]
  rw [e];exact ⟨by unfold bF; simp [hmay,hj,hbig],iI x (h.part (.t0 (.t0 (.t0 (.t0 (.t0 (.d .refl)))))))⟩
 simp only [decide_eq_false_iff_not] at c33;refine Au ?_;refine Ky (vZ t) fun v hv=>?_;obtain ⟨av,cv,rfl⟩:=hv;rw [hn];refine Au ?_;refine GC.lp (σ:=Nat × Int) (fun s=>[(37,.int .i64 (s.1:Int)),(35,.slice av n cv),(36,.int .i64 (n:Int)),(8,.int .i64 s.2),(0,ptr bs),(3,ptr b3)]) (fun s=>[Rw 3 1 (.slice av n cv) n (aJ t.parts)]++rE bs l most x++Bk b3 94 (eK t)::R) (fun s=>s.1≤n) (fun s=>n - s.1) (0,0) (.c rfl (.c rfl (.c rfl (.c rfl (.c rfl (.c rfl .n)))))) .refl (Nat.zero_le _) (fun s hs=>?_);refine GC.app (M:=Rw 3 1 (.slice av n cv) n (aJ t.parts)::rE bs l most x) (R:=Bk b3 94 (eK t)::R) (.c (.c (.c (.c (.c (.c .a0)))))) ?_;refine Au ?_;refine GC.cond rfl (fun c38=>?_) (fun c38=>?_)
 ·simp only [decide_eq_true_eq] at c38;have hsn:s.1 < n:=by omega
  refine GC.know (fun w h=>h.dV .p0 (by omega)) (fun hg=>?_);obtain ⟨g,rfl⟩:=hg;have hp:=hpr (t.parts[s.1]?.getD 0) (wR (by omega));obtain ⟨q,hq⟩:∃ q:Nat,t.parts[s.1]?.getD 0=q:=⟨(t.parts[s.1]?.getD 0).toNat,by omega⟩;refine Au ?_;refine Lu rfl (EX.indexAddr (a:=s.1) rfl rfl sL (by omega) (by simp)) ?_;refine Lu rfl (EX.tU rfl (kC (by omega)) oN) ?_;refine Au ?_;refine Lu rfl (EX.indexAddr (a:=q) rfl rfl sL (by omega) (by rw [hq]; simp)) ?_;refine Lu rfl (EX.tU rfl (kC (by omega)) oN) ?_;refine Lu rfl (EX.max2 rfl rfl rfl) ?_;refine Au ?_;refine La ?_;refine Au ?_;exact GE.ag (s.1 + 1,_) (.c (by rw [← Int.natCast_succ]; rfl) (.c rfl (.c rfl (.c rfl (.c rfl (.c rfl .n)))))) .refl (by omega) (by omega)
 refine Au ?_;refine GC.dr [] 19 23 rfl (by kernel_rfl) (.f (.t (.f (.f (.f (.f (.t .e))))))) ?_;refine Ds 0 ?_;refine Ds 1 ?_;refine Ds 2 ?_;refine Ds 3 ?_;refine Ds 4 ?_;refine D.e 5 (by kernel_rfl) (by kernel_rfl) rfl (fun X=>EX.ld rfl rfl oN) rfl rfl rfl ?_;refine D.e 6 (by kernel_rfl) (by kernel_rfl) rfl (fun X=>EX.EZ rfl mN rfl) rfl rfl rfl ?_;refine Ds 9 ?_;refine Ds 10 ?_;refine Ds 11 ?_;refine D.e 12 (by kernel_rfl) (by kernel_rfl) rfl (fun X=>EX.ld rfl rfl oN) rfl rfl rfl ?_;refine Ds 13 ?_;refine Dp 14 rfl (fun X=>EX.add rfl rfl rfl) ?_;refine GD.xS 7 15 (by kernel_rfl) rfl rfl ?_ ?_
 ·refine Ef (EF.buildSlice rfl bS rfl rfl rfl) fun b63 _=>?_;refine D.n0 (by kernel_rfl) (.t2 (.t6 .refl)) ?_;refine GD.xS 8 15 (by kernel_rfl) rfl rfl ?_ ?_
  ·refine Ef (EF.append rfl rfl NV (fun v=>.there (.there (.there (.here)))) .p0 (rfl) (rfl) (by unfold maxLen; omega) (by omega)) fun v64 hv64=>?_;obtain ⟨aNh,aMq,rfl⟩:=hv64;refine D.n0 (by kernel_rfl) (.t2 (.t6 .refl)) ?_;refine Ga 15 ?_;refine Ef (EF.buildSlice rfl bS rfl rfl rfl) fun b71 _=>?_;exact aKu
  refine Ef (EF.buildSlice rfl bS rfl rfl rfl) fun aTa _=>?_;refine D.n0 (by kernel_rfl) (.t3 (.t7 .refl)) ?_;refine Ga 8 ?_;refine Ef (EF.append rfl rfl NV (fun v=>.there (.there (.there (.there (.here))))) .p1 (rfl) (rfl) (by unfold maxLen; omega) (by omega)) fun v64 hv64=>?_;obtain ⟨aNh,aMq,rfl⟩:=hv64;exact aKu
 refine Ef (EF.buildSlice rfl bS rfl rfl rfl) fun aS9 _=>?_;refine D.n0 (by kernel_rfl) (.t2 (.t6 .refl)) ?_;refine Ga 7 ?_;refine Ef (EF.buildSlice rfl bS rfl rfl rfl) fun aTb _=>?_;refine D.n0 (by kernel_rfl) (.t3 (.t7 .refl)) ?_;refine Ga 8 ?_;refine Ef (EF.append rfl rfl NV (fun v=>.there (.there (.there (.there (.here))))) .p0 (rfl) (rfl) (by unfold maxLen; omega) (by omega)) fun v64 hv64=>?_;obtain ⟨aNh,aMq,rfl⟩:=hv64;refine D.n0 (by kernel_rfl) (.t3 (.t7 .refl)) ?_;refine Ga 16 ?_;refine Ef (EF.append rfl rfl NV (fun v=>.there (.there (.there (.there (.there (.here)))))) .p1 (rfl) (rfl) (by unfold maxLen; omega) (by omega)) fun v72 aK4=>?_;exact aKv
end
section
def TJ (most:Int) (l:List Tm) (s:ByteArray):Int × Int × List Tm:=bF l most ⟨1,s,0,0,0,0⟩
def tW (most:Int) (l:List Tm) (a b:Int):Int × Int × List Tm:=bF l most ⟨8,⟨#[]⟩,0,a,b,0⟩
def qQ (most:Int) (l:List Tm) (key label:Int):Int × Int × List Tm:=bF l most ⟨9,⟨#[]⟩,label,key,0,0⟩
def kG (most:Int) (l:List Tm) (e key label:Int):Int × Int × List Tm:=if e≠0 then (0,e,l) else qQ most l key label
def QE (a:Int) (b:Int × Int × List Tm):Int × Int × Int × List Tm:=if b.2.1≠0 then (0,0,b.2.1,b.2.2) else (a,b.1,0,b.2.2)
def WT (most:Int) (h:Int × Int × List Tm):Int × Int × Int × List Tm :=
 if h.2.1≠0 then (0,0,h.2.1,h.2.2) else QE (kG most h.2.2 h.2.1 h.1 1).1 (kG most (kG most h.2.2 h.2.1 h.1 1).2.2 (kG most h.2.2 h.2.1 h.1 1).2.1 h.1 2)
def rP (most:Int) (l:List Tm) (key inp:Int):Int × Int × Int × List Tm:=WT most (tW most l key inp)
def H2 (most:Int) (l:List Tm) (a:Int):Int × Int × List Tm:=bF l most ⟨3,⟨#[]⟩,0,a,0,0⟩
def MH (most:Int) (l:List Tm) (a:Int):Int × Int × List Tm:=bF l most ⟨5,⟨#[]⟩,0,a,0,0⟩
def pC (most:Int) (l:List Tm) (sec pub:Int):Int × Int × List Tm :=
 if eI l sec=false∨(aO l pub).kind≠3 then (0,1,l)
 else if sec > (aO l pub).a then bF l most ⟨4,⟨#[]⟩,0,(aO l pub).a,sec,0⟩ else bF l most ⟨4,⟨#[]⟩,0,sec,(aO l pub).a,0⟩
def mM (most:Int) (l:List Tm) (sec box:Int):Int × Int × List Tm :=
 if eI l sec=false∨eI l box=false then (0,1,l)
 else if (aO l box).kind≠6∨(aO l box).a≠sec then (0,10,l)
 else bF l most ⟨7,⟨#[]⟩,0,sec,(aO l box).b,0⟩
def pW (l:List Tm) (key n beside sealed:Int):Int × Int :=
 if eI l key=false∨eI l beside=false∨eI l sealed=false then (0,1)
 else if (aO l sealed).kind≠10∨(aO l sealed).a≠key∨(aO l sealed).n≠n∨(aO l sealed).b≠beside then (0,9)
 else ((aO l sealed).c,0)
structure Sy where
 ck:Int
 k:Int
 h:Int
 n:Int
instance:DecidableEq Sy:=fun x y=>decidable_of_iff (x.ck=y.ck∧x.k=y.k∧x.h=y.h∧x.n=y.n) ⟨fun h=>by cases x; cases y; simp at h; simp [h],fun h=>by rw [h]; exact ⟨rfl,rfl,rfl,rfl⟩⟩
def D9:Sy:=⟨0,0,0,0⟩
def BF (r:Int × Int × List Tm):Sy × Int × List Tm:=if r.2.1≠0 then (D9,r.2.1,r.2.2) else (⟨r.1,0,r.1,0⟩,0,r.2.2)
def kR (most:Int) (l:List Tm) (s:ByteArray):Sy × Int × List Tm:=BF (TJ most l s)
def HW (y:Sy) (r:Int × Int × List Tm):Sy × Int × List Tm:=if r.2.1≠0 then (D9,r.2.1,r.2.2) else (⟨y.ck,y.k,r.1,y.n⟩,0,r.2.2)
def kQ (most:Int) (l:List Tm) (y:Sy) (x:Int):Sy × Int × List Tm:=HW y (tW most l y.h x)
def LB (y:Sy) (r:Int × Int × Int × List Tm):Sy × Int × List Tm:=if r.2.2.1≠0 then (D9,r.2.2.1,r.2.2.2) else (⟨r.1,r.2.1,y.h,0⟩,0,r.2.2.2)
def lF (most:Int) (l:List Tm) (y:Sy) (x:Int):Sy × Int × List Tm:=LB y (rP most l y.ck x)
def IC (y:Sy):Bool:=decide (y≠⟨y.ck,0,y.h,y.n⟩) && decide (y.n < 18446744073709551615)
def LA (x:Int) (r:Sy × Int × List Tm):Sy × Int × Int × List Tm:=if r.2.1=0 then (r.1,x,0,r.2.2) else (D9,0,r.2.1,r.2.2)
def jR (most:Int) (l:List Tm) (y:Sy) (sealed x e:Int):Sy × Int × Int × List Tm:=if e≠0 then (D9,0,e,l) else LA x (kQ most l ⟨y.ck,y.k,y.h,(y.n + 1) % 18446744073709551616⟩ sealed)
def gH (most:Int) (l:List Tm) (y:Sy) (sealed:Int):Sy × Int × Int × List Tm :=
 if IC y=false then (D9,0,7,l) else jR most l y sealed (pW l y.k y.n y.h sealed).1 (pW l y.k y.n y.h sealed).2
end
section
theorem BJ (bs:Nat) (l:List Tm) (most k:Int) (s:ByteArray) (n a b c:Int) (hm:most≤1048576):tD Tryz.prog 25 [ptr bs,.agg #[.int .i64 k,.string s,.int .u64 n,.int .i64 a,.int .i64 b,.int .i64 c]].toArray [St bs l most]
  (.tuple #[.int .i64 (bF l most ⟨k,s,n,a,b,c⟩).1,.int .i64 (bF l most ⟨k,s,n,a,b,c⟩).2.1]) [St bs (bF l most ⟨k,s,n,a,b,c⟩).2.2 most]:=UL bs l most ⟨k,s,n,a,b,c⟩ hm
theorem aKt {p:Prop} (h:p:=by
  refine Au ?_;refine Lu rfl (EX.cE rfl rfl aR (by omega) rfl) ?_;refine Au ?_;refine Lu rfl (EX.cE rfl rfl aR (by omega) rfl) ?_;refine Au ?_;refine Kc (BJ _ _ _ _ _ _ _ _ _ hm) (.one .p2) ?_;refine Au ?_;refine Gs fun w h=>?_;simp only [dB,ne_eq,dC] at *;simp_all only [pC,ne_eq,not_true_eq_false,not_false_eq_true,if_true,if_false,true_or,or_true,or_false,false_or,reduceCtorEq,gt_iff_lt,Bool.and_eq_true,Bool.and_eq_false_iff,or_self,and_self];exact ⟨by first | rfl | trivial,h.part (.t0 (.d (.d (.d .refl))))⟩):p:=h
theorem R5 {p:Prop} (h:p:=by
  refine Au ?_;refine Kc (BJ _ _ _ _ _ _ _ _ _ hm) (.one .p0) ?_;refine Au ?_;refine Gs fun w h=>?_;exact ⟨rfl,h.part .refl⟩):p:=h
theorem aKs {p:Prop} (h:p:=by
  refine Au ?_;refine Gs fun w h=>?_;simp only [dB,ne_eq,dC] at *;simp_all only [rP,WT,QE,ne_eq,not_true_eq_false,not_false_eq_true,if_true,if_false,true_or,or_true,or_false,false_or,reduceCtorEq,gt_iff_lt,Bool.and_eq_true,Bool.and_eq_false_iff,or_self,and_self];exact ⟨by first | rfl | trivial,h.part (.t3 (.d (.d (.d .refl))))⟩):p:=h
theorem aKr {p:Prop} (h:p:=by
  refine Au ?_;refine Gs fun w h=>?_;simp only [dB,ne_eq,dC] at *;simp_all only [pC,ne_eq,not_true_eq_false,not_false_eq_true,if_true,if_false,true_or,or_true,or_false,false_or,reduceCtorEq,gt_iff_lt,Bool.and_eq_true,Bool.and_eq_false_iff,or_self,and_self];exact ⟨by first | rfl | trivial,h.part (.t1 (.d (.d .refl)))⟩):p:=h
theorem MQ (bs:Nat) (l:List Tm) (most:Int) (a b:Int) (hm:most≤1048576) :
  tD Tryz.prog 150 [ptr bs,.int .i64 a,.int .i64 b].toArray [St bs l most] (.tuple #[.int .i64 (tW most l a b).1,.int .i64 (tW most l a b).2.1]) [St bs (tW most l a b).2.2 most]:=by
 refine Fg Tryz.func150 Tryz.ntmps150 fun W0 R=>?_;exact R5
theorem RT (bs:Nat) (l:List Tm) (most:Int) (key label:Int) (hm:most≤1048576) :
  tD Tryz.prog 130 [ptr bs,.int .i64 key,.int .u64 label].toArray [St bs l most] (.tuple #[.int .i64 (qQ most l key label).1,.int .i64 (qQ most l key label).2.1]) [St bs (qQ most l key label).2.2 most]:=by
 refine Fg Tryz.func130 Tryz.ntmps130 fun W0 R=>?_;exact R5
theorem NH (be bt bh:Nat) (bs:Nat) (l:List Tm) (most:Int) (e h label:Int) (hm:most≤1048576) :
  tD Tryz.prog 180 [.int .u64 label,ptr be,ptr bt,ptr bh].toArray [Bk be 27 [.int .i64 e],Bk bt 22 [ptr bs],Bk bh 3 [.int .i64 h],St bs l most] (.int .i64 (kG most l e h label).1) [Bk be 27 [.int .i64 (kG most l e h label).2.1],Bk bt 22 [ptr bs],Bk bh 3 [.int .i64 h],St bs (kG most l e h label).2.2 most]:=by
 refine Fg Tryz.func180 Tryz.ntmps180 fun W0 R=>?_;refine Au ?_;refine GC.cond rfl (fun c8=>?_) (fun c8=>?_)
 ·refine Au ?_;refine Go fun w h=>?_;simp only [dB,ne_eq,dC] at *;simp_all only [kG,ne_eq,not_true_eq_false,not_false_eq_true,if_true,if_false,true_or,or_true,or_false,false_or,reduceCtorEq,gt_iff_lt,Bool.and_eq_true,Bool.and_eq_false_iff,or_self,and_self];exact ⟨by first | rfl | trivial,h.part .refl⟩
 refine Au ?_;refine Kc (RT _ _ _ _ _ hm) (.one .p3) ?_;refine Au ?_;refine Go fun w h=>?_;simp only [dB,ne_eq,dC] at *;simp_all only [kG,ne_eq,not_true_eq_false,not_false_eq_true,if_true,if_false,true_or,or_true,or_false,false_or,reduceCtorEq,gt_iff_lt,Bool.and_eq_true,Bool.and_eq_false_iff,or_self,and_self];exact ⟨by first | rfl | trivial,h.part (.t1 (.t1 (.t1 .refl)))⟩
theorem aDs (bs:Nat) (l:List Tm) (most:Int) (key inp:Int) (hm:most≤1048576) :
  tD Tryz.prog 151 [ptr bs,.int .i64 key,.int .i64 inp].toArray [St bs l most] (.tuple #[.int .i64 (rP most l key inp).1,.int .i64 (rP most l key inp).2.1,.int .i64 (rP most l key inp).2.2.1]) [St bs (rP most l key inp).2.2.2 most]:=by
 refine Fg Tryz.func151 Tryz.ntmps151 fun W0 R=>?_;refine Au ?_;refine Ef (EF.ZS rfl rfl) fun b3 _=>?_;refine Au ?_;refine Kc (MQ _ _ _ _ _ hm) (.one .p1) ?_;refine Au ?_;refine Ef (EF.alloc aL) fun b9 _=>?_;refine Ef (EF.alloc aL) fun b10 _=>?_;refine Au ?_;refine GC.cond rfl (fun NQ=>?_) (fun NQ=>?_)
 ·refine Au ?_;refine Gr 4 (.t (.t (.t (.t .e)))) ?_;refine Dq 0 [0,1,2,3] ?_;refine Gd ?_;refine Au ?_;refine Gs fun w h=>?_;simp only [dB,ne_eq,dC] at *;simp_all only [rP,WT,QE,ne_eq,not_true_eq_false,not_false_eq_true,if_true,if_false,true_or,or_true,or_false,false_or,reduceCtorEq,gt_iff_lt,Bool.and_eq_true,Bool.and_eq_false_iff,or_self,and_self];exact ⟨by first | rfl | trivial,h.part (.t2 (.d (.d (.d .refl))))⟩
 refine Au ?_;refine Lu rfl (EX.makeFunc (fs:=[]) (cs:=[_,_,_]) rfl rfl) ?_;refine Au ?_;refine K.c (EC.closure rfl eN rfl) (NH _ _ _ _ _ _ _ _ _ hm) (.cons .p0 (.cons .p2 (.cons .p0 (.cons .p0 .nil)))) .a4 rfl rfl (.free rfl) ?_;refine Au ?_;refine K.c (EC.closure rfl eN rfl) (NH _ _ _ _ _ _ _ _ _ hm) (.cons .p0 (.cons .p0 (.cons .p0 (.cons .p0 .nil)))) .a4 rfl rfl (.free rfl) ?_;refine Au ?_;refine GC.cond rfl (fun c30=>?_) (fun c30=>?_)
 ·refine Au ?_;refine Gr 4 (.t (.t (.t (.t .e)))) ?_;refine Dq 0 [0,1,2,3] ?_;refine Gd ?_;exact aKs
 exact aKs
theorem aCb (bs:Nat) (l:List Tm) (most:Int) (a:Int) (hm:most≤1048576) :
  tD Tryz.prog 106 [ptr bs,.int .i64 a].toArray [St bs l most] (.tuple #[.int .i64 (H2 most l a).1,.int .i64 (H2 most l a).2.1]) [St bs (H2 most l a).2.2 most]:=by
 refine Fg Tryz.func106 Tryz.ntmps106 fun W0 R=>?_;exact R5
theorem R6 (bs:Nat) (l:List Tm) (most:Int) (a:Int) (hm:most≤1048576) :
  tD Tryz.prog 108 [ptr bs,.int .i64 a].toArray [St bs l most] (.tuple #[.int .i64 (MH most l a).1,.int .i64 (MH most l a).2.1]) [St bs (MH most l a).2.2 most]:=by
 refine Fg Tryz.func108 Tryz.ntmps108 fun W0 R=>?_;exact R5
theorem ZY (bs:Nat) (l:List Tm) (most:Int) (sec pub:Int) (hm:most≤1048576) :
  tD Tryz.prog 110 [ptr bs,.int .i64 sec,.int .i64 pub].toArray [St bs l most] (.tuple #[.int .i64 (pC most l sec pub).1,.int .i64 (pC most l sec pub).2.1]) [St bs (pC most l sec pub).2.2 most]:=by
 refine Fg Tryz.func110 Tryz.ntmps110 fun W0 R=>?_;refine Au ?_;refine Kc (jL _ _ _ _) (.one .p0) ?_;refine Au ?_;refine Ef (EF.alloc aL) fun b8 _=>?_;refine Au ?_;refine Kc (jL _ _ _ _) (.one .p1) ?_;refine Au ?_;refine Ef (EF.alloc aL) fun b10 _=>?_;refine Au ?_;refine GL.case 27 rfl (fun MV=>?_) (fun MV=>?_)
 ·refine Au ?_;refine GC.aQ rfl rfl ?_;exact aKr
 refine Au ?_;refine GC.cond rfl (fun c31=>?_) (fun c31=>?_)
 ·exact aKr
 refine Au ?_;refine Lu rfl (EX.build rfl KD rfl) ?_;refine Ef (EF.alloc aL) fun b12 _=>?_;refine Au ?_;refine Lu rfl (EX.cE rfl rfl aR (by omega) rfl) ?_;refine Au ?_;refine Lu rfl (EX.cE rfl rfl aR (by omega) rfl) ?_;refine Au ?_;refine GC.cond rfl (fun c40=>?_) (fun c40=>?_)
 ·refine Au ?_;refine Lu rfl (EX.cE rfl rfl aR (by omega) rfl) ?_;refine Au ?_;refine Lu rfl (EX.cE rfl rfl aR (by omega) rfl) ?_;refine Au ?_;refine Lu rfl (EX.build rfl KD rfl) ?_;exact aKt
 exact aKt
end
section
theorem XM {p:Prop} (h:p:=by
  refine Au ?_;refine Gs fun w h=>?_;simp only [dB,ne_eq,dC] at *;simp_all only [pW,ne_eq,not_true_eq_false,not_false_eq_true,if_true,if_false,true_or,or_true,or_false,false_or,reduceCtorEq,gt_iff_lt,Bool.and_eq_true,Bool.and_eq_false_iff,or_self,and_self];exact ⟨by first | rfl | trivial,h.part (.t1 (.d .refl))⟩):p:=h
theorem R4 {p:Prop} (h:p:=by
  refine Au ?_;refine Gs fun w h=>?_;simp only [List.all_cons,List.all_nil,Bool.and_true,Bool.and_eq_true,Bool.and_eq_false_iff] at *;simp only [dB,ne_eq,dC] at *;simp_all only [mM,ne_eq,not_true_eq_false,not_false_eq_true,if_true,if_false,true_or,or_true,or_false,false_or,reduceCtorEq,gt_iff_lt,Bool.and_eq_true,Bool.and_eq_false_iff,or_self,and_self];exact ⟨by first | rfl | trivial,h.part (.t0 (.d (.d .refl)))⟩):p:=h
theorem aEg {p:Prop} (h:p:=by
  refine Au ?_;refine Gs fun w h=>?_;simp only [dB,ne_eq,dC] at *;simp_all only [pW,ne_eq,not_true_eq_false,not_false_eq_true,if_true,if_false,true_or,or_true,or_false,false_or,reduceCtorEq,gt_iff_lt,Bool.and_eq_true,Bool.and_eq_false_iff,or_self,and_self];exact ⟨by first | rfl | trivial,h.part .refl⟩):p:=h
theorem all_false {xs:List Int} {p:Int→Bool} {k:Nat} (hk:k < xs.length) (h:p (xs[k]?.getD 0)=false):xs.all p=false:=by
 rw [List.all_eq_false];rw [List.getElem?_eq_getElem hk] at h;exact ⟨xs[k],List.getElem_mem hk,by simpa using h⟩
theorem all_true {xs:List Int} {p:Int→Bool} {n:Nat} (hn:xs.length=n) (h:∀ j,j < n→p (xs[j]?.getD 0)=true):xs.all p=true:=by
 rw [List.all_eq_true];intro x hx;obtain ⟨j,hj⟩:=List.getElem?_of_mem hx;have hlt:j < n:=by
  rcases Nat.lt_or_ge j xs.length with h | h
  ·omega
  rw [List.getElem?_eq_none h] at hj; cases hj
 have:=h j hlt;rw [hj] at this; exact this
theorem TI (bs:Nat) (l:List Tm) (most:Int) (xs:List Int) (a:Option Addr) (n c:Nat) (hx:xs.length=n) (hn:n≤1000) :
  tD Tryz.prog 152 [ptr bs,.slice a n c].toArray [St bs l most,Rw 3 1 (.slice a n c) n (aJ xs)] (.bool (xs.all (eI l))) [St bs l most,Rw 3 1 (.slice a n c) n (aJ xs)]:=by
 refine Fg Tryz.func152 Tryz.ntmps152 fun W0 R=>?_;refine Au ?_;refine GC.lp (σ:=Nat) (fun s=>[(11,.int .i64 (s:Int)),(9,.slice a n c),(10,.int .i64 (n:Int)),(0,ptr bs)]) (fun s=>[St bs l most,Rw 3 1 (.slice a n c) n (aJ xs)]++R) (fun s=>s≤n∧∀ j,j < s→eI l (xs[j]?.getD 0)=true) (fun s=>n - s) 0 (.c rfl (.c rfl (.c rfl (.c rfl .n)))) .refl (⟨Nat.zero_le _,fun j hj=>by omega⟩) (fun s hs=>?_);refine GC.app .a2 ?_;obtain ⟨hsn,hall⟩:=hs;refine Au ?_;refine GC.cond rfl (fun c12=>?_) (fun c12=>?_)
 ·simp only [decide_eq_true_eq] at c12;have hsn:s < n:=by omega
  refine GC.know (fun w h=>h.dV .p1 (by omega)) (fun hg=>?_);obtain ⟨g,rfl⟩:=hg;refine Au ?_;refine Lu rfl (EX.indexAddr (a:=s) rfl rfl sL (by omega) (by simp)) ?_;refine Lu rfl (EX.tU rfl (kC (by omega)) oN) ?_;refine Au ?_;refine Kc (jL _ _ _ _) (.one .p0) ?_;refine Au ?_;refine Ef (EF.alloc aL) fun b7 _=>?_;refine Au ?_;refine GC.cond rfl (fun NQ=>?_) (fun NQ=>?_)
  ·refine Au ?_;refine Go fun w h=>?_;simp only [dB,ne_eq,dC] at *;exact ⟨by rw [all_false (by omega) NQ],h.part (.t1 (.t1 (.d .refl)))⟩
  refine Au ?_;refine La ?_;refine Au ?_;simp only [dB,ne_eq,dC] at *;have hnext:∀ j,j < s + 1→eI l (xs[j]?.getD 0)=true:=by
   intro j hj;rcases Nat.lt_or_ge j s with h | h
   ·exact hall j h
   obtain rfl:j=s:=by omega
   exact NQ
  exact GE.ag (s + 1) (.c (by rw [← Int.natCast_succ]; rfl) (.c rfl (.c rfl (.c rfl .n)))) (.t1 (.t1 (.d .refl))) (by omega) (⟨by omega,hnext⟩)
 simp only [decide_eq_false_iff_not] at c12;obtain rfl:s=n:=by omega
 refine Au ?_;refine Go fun w h=>?_;exact ⟨by rw [all_true hx hall],h.part .refl⟩
theorem OJ (bs:Nat) (l:List Tm) (most:Int) (sec box:Int) (hm:most≤1048576) :
  tD Tryz.prog 210 [ptr bs,.int .i64 sec,.int .i64 box].toArray [St bs l most] (.tuple #[.int .i64 (mM most l sec box).1,.int .i64 (mM most l sec box).2.1]) [St bs (mM most l sec box).2.2 most]:=by
 refine Fg Tryz.func210 Tryz.ntmps210 fun W0 R=>?_;refine Au ?_;refine Kc (jL _ _ _ _) (.one .p0) ?_;refine Au ?_;refine Ef (EF.alloc aL) fun b8 _=>?_;refine Au ?_;refine Ef (EF.buildSlice rfl bS rfl rfl rfl) fun b20 _=>?_;refine GL.turn (fun w h=>h.uC (s:=1) (n:=2) rfl (by decide)) ?_;refine K.c (EC.direct eN rfl) (TI _ _ _ [sec,box] _ 2 _ rfl (by decide)) (.cons .p2 (.cons .p0 .nil)) .a2 rfl rfl (.free rfl) ?_;refine Au ?_;refine GC.cond rfl (fun c16=>?_) (fun c16=>?_)
 ·exact R4
 refine Au ?_;refine GL.case 27 rfl (fun MV=>?_) (fun MV=>?_)
 ·refine Au ?_;refine GC.aQ rfl rfl ?_;exact R4
 refine Au ?_;refine GC.cond rfl (fun c23=>?_) (fun c23=>?_)
 ·exact R4
 refine Au ?_;refine Kc (BJ _ _ _ _ _ _ _ _ _ hm) (.one .p0) ?_;exact R4
theorem MK (bs:Nat) (l:List Tm) (most:Int) (name:Int) :
  tD Tryz.prog 131 [ptr bs,.int .i64 name].toArray [St bs l most] (.bool (eI l name)) [St bs l most]:=by
 refine Fg Tryz.func131 Tryz.ntmps131 fun W0 R=>?_;refine Au ?_;refine Kc (jL _ _ _ _) (.one .p0) ?_;refine Au ?_;refine Ef (EF.alloc aL) fun b5 _=>?_;refine Au ?_;refine Go fun w h=>?_;exact ⟨rfl,h.part (.t1 (.d .refl))⟩
theorem J1 (bs:Nat) (l:List Tm) (most:Int) (key n beside sealed:Int) :
  tD Tryz.prog 218 [ptr bs,.int .i64 key,.int .u64 n,.int .i64 beside,.int .i64 sealed].toArray [St bs l most] (.tuple #[.int .i64 (pW l key n beside sealed).1,.int .i64 (pW l key n beside sealed).2]) [St bs l most]:=by
 refine Fg Tryz.func218 Tryz.ntmps218 fun W0 R=>?_;refine Au ?_;refine Kc (MK _ _ _ _) (.one .p0) ?_;refine Au ?_;refine GL.case 18 rfl (fun g18=>?_) (fun g18=>?_)
 ·refine Au ?_;refine GC.aQ rfl rfl ?_;exact aEg
 refine Au ?_;refine K.c (EC.direct eN rfl) (MK _ _ _ _) (.one .p0) .a1 rfl rfl (.guard rfl rfl rfl rfl g18) ?_;refine Au ?_;refine GL.case 24 rfl (fun g24=>?_) (fun g24=>?_)
 ·refine Au ?_;refine GC.aQ rfl rfl ?_;exact aEg
 refine Au ?_;refine K.c (EC.direct eN rfl) (MK _ _ _ _) (.one .p0) .a1 rfl rfl (.guard rfl rfl rfl rfl g24) ?_;refine Au ?_;refine GC.cond rfl (fun c29=>?_) (fun c29=>?_)
 ·exact aEg
 refine Au ?_;refine Kc (jL _ _ _ _) (.one .p0) ?_;refine Au ?_;refine Ef (EF.alloc aL) fun b12 _=>?_;refine Au ?_;refine GC.cond rfl (fun c36=>?_) (fun c36=>?_)
 ·exact XM
 refine Au ?_;refine GL.case 45 rfl (fun g45=>?_) (fun g45=>?_)
 ·refine Au ?_;refine GC.aQ rfl rfl ?_;exact XM
 refine Au ?_;refine GL.case 51 rfl (fun g51=>?_) (fun g51=>?_)
 ·refine Au ?_;refine GC.aQ rfl rfl ?_;exact XM
 refine Au ?_;refine GC.cond rfl (fun c40=>?_) (fun c40=>?_)
 ·exact XM
 exact XM
end
section
def zA (y:Sy):Value:=.agg #[.int .i64 y.ck,.int .i64 y.k,.int .i64 y.h,.int .u64 y.n]
theorem aKq {p:Prop} (h:p:=by
  refine Au ?_;refine Gq fun w h=>?_;simp only [dB,ne_eq,dC] at *;simp_all only [kR,BF,TJ,ne_eq,not_true_eq_false,not_false_eq_true,if_true,if_false,true_or,or_true,or_false,false_or,reduceCtorEq,gt_iff_lt,Bool.and_eq_true,Bool.and_eq_false_iff,or_self,and_self];exact ⟨by first | rfl | trivial,h.part (.t0 (.d .refl))⟩):p:=h
theorem aKp {p:Prop} (h:p:=by
  refine Au ?_;refine Gq fun w h=>?_;simp only [dB,ne_eq,dC] at *;simp_all only [kQ,HW,ne_eq,not_true_eq_false,not_false_eq_true,if_true,if_false,true_or,or_true,or_false,false_or,reduceCtorEq,gt_iff_lt,Bool.and_eq_true,Bool.and_eq_false_iff,or_self,and_self];exact ⟨by first | rfl | trivial,h.part (.t0 (.d (.d .refl)))⟩):p:=h
theorem aKo {p:Prop} (h:p:=by
  refine Au ?_;refine Gq fun w h=>?_;simp only [dB,ne_eq,dC] at *;simp_all only [lF,LB,ne_eq,not_true_eq_false,not_false_eq_true,if_true,if_false,true_or,or_true,or_false,false_or,reduceCtorEq,gt_iff_lt,Bool.and_eq_true,Bool.and_eq_false_iff,or_self,and_self];exact ⟨by first | rfl | trivial,h.part (.t0 (.d (.d .refl)))⟩):p:=h
theorem aKn {p:Prop} (h:p:=by
  refine Au ?_;refine Go fun w h=>?_;simp only [IC, *];exact ⟨by first | rfl | simp,h.part (.d .refl)⟩):p:=h
theorem aSg (t u:Sy) (w:World):(Op.equalIn 10000 83 (zA t) (zA u)).run Tryz.prog w=.ok (decide (t=u)) w:=by
 have hS:Tryz.prog.underlying 83=some (.struct (Tryz.prog.fieldsOf 83)):=by kernel_rfl
 have u3:=Tryz.underlying3;have u30:=Tryz.underlying30;unfold zA;rw [run_equalIn_agg w 9999 83 _ _ hS (by kernel_rfl)];simp only [Program.fieldsOf,Tryz.underlying83]
 go_simp
 obtain ⟨k,s,n,a⟩:=t;obtain ⟨k',s',n',a'⟩:=u;simp only [Sy.mk.injEq]
 by_cases h1:k=k' <;> by_cases h2:s=s' <;> by_cases h3:n=n' <;> by_cases h4:a=a' <;> simp_all
theorem EX.aIp {W0 kn L d g ty' x y ty ps af} (t u:Sy) (hx:ev kn x=some (zA t)) (hy:ev kn y=some (zA u)):EX Tryz.prog W0 kn L ⟨d,.binOp .neq 83 x y ty',ty,ps,af,g⟩ (.bool (decide (t≠u))):=fun ρ w he hs=>by
 have hg:(eqGuard .neq 83 x y (zA t) (zA u)).run Tryz.prog w=.ok () w:=run_eqGuard_agg w .neq 83 x y _ _ (by kernel_rfl);have hb:(binOp .neq 83 (zA t) (zA u)).run Tryz.prog w=.ok (.bool (!decide (t=u))) w:=by
  have:=run_neq_struct (P:=Tryz.prog) w 83 #[.int .i64 t.ck,.int .i64 t.k,.int .i64 t.h,.int .u64 t.n] #[.int .i64 u.ck,.int .i64 u.k,.int .i64 u.h,.int .u64 u.n];have h2:=aSg t u w;unfold zA at *;rw [this,h2]; rfl
 simp only [execOp,he x _ hx,he y _ hy,Sem.run_bind,hg,Result.andThen_ok,hb]
 by_cases e:t=u <;> simp [e]
theorem UE (y:Sy) :
  tD Tryz.prog 153 [zA y].toArray [] (.bool (IC y)) []:=by
 refine Fg Tryz.func153 Tryz.ntmps153 fun W0 R=>?_;refine Au ?_;refine Ef (EF.bV rfl) fun b1 _=>?_;refine Au ?_;refine Lu rfl (EX.aIp y ⟨y.ck,0,y.h,y.n⟩ rfl rfl) ?_;refine Au ?_;refine GL.case 12 rfl (fun g12=>?_) (fun g12=>?_)
 ·exact aKn
 exact aKn
theorem OW (bs:Nat) (l:List Tm) (most:Int) (s:ByteArray) (hm:most≤1048576) :
  tD Tryz.prog 105 [ptr bs,.string s].toArray [St bs l most] (.tuple #[zA (kR most l s).1,.int .i64 (kR most l s).2.1]) [St bs (kR most l s).2.2 most]:=by
 refine Fg Tryz.func105 Tryz.ntmps105 fun W0 R=>?_;refine Au ?_;refine Ef (EF.alloc aL) fun b4 _=>?_;refine Au ?_;refine Kc (BJ _ _ _ _ _ _ _ _ _ hm) (.one .p1) ?_;refine Au ?_;refine GC.cond rfl (fun c16=>?_) (fun c16=>?_)
 ·exact aKq
 exact aKq
theorem vP (bs:Nat) (l:List Tm) (most:Int) (y:Sy) (x:Int) (hm:most≤1048576) :
  tD Tryz.prog 107 [zA y,ptr bs,.int .i64 x].toArray [St bs l most] (.tuple #[zA (kQ most l y x).1,.int .i64 (kQ most l y x).2.1]) [St bs (kQ most l y x).2.2 most]:=by
 refine Fg Tryz.func107 Tryz.ntmps107 fun W0 R=>?_;refine Au ?_;refine Ef (EF.bV rfl) fun b3 _=>?_;refine Ef (EF.alloc aL) fun b6 _=>?_;refine Au ?_;refine Kc (MQ _ _ _ _ _ hm) (.one .p2) ?_;refine Au ?_;refine GC.cond rfl (fun c19=>?_) (fun c19=>?_)
 ·exact aKp
 exact aKp
theorem KW (bs:Nat) (l:List Tm) (most:Int) (y:Sy) (x:Int) (hm:most≤1048576) :
  tD Tryz.prog 109 [zA y,ptr bs,.int .i64 x].toArray [St bs l most] (.tuple #[zA (lF most l y x).1,.int .i64 (lF most l y x).2.1]) [St bs (lF most l y x).2.2 most]:=by
 refine Fg Tryz.func109 Tryz.ntmps109 fun W0 R=>?_;refine Au ?_;refine Ef (EF.bV rfl) fun b3 _=>?_;refine Ef (EF.alloc aL) fun b6 _=>?_;refine Au ?_;refine Kc (aDs _ _ _ _ _ hm) (.one .p2) ?_;refine Au ?_;refine GC.cond rfl (fun c21=>?_) (fun c21=>?_)
 ·exact aKo
 exact aKo
theorem F3 (bs:Nat) (l:List Tm) (most:Int) (y:Sy) (sealed x e:Int) (hm:most≤1048576) :
  tD Tryz.prog 154 [zA y,ptr bs,.int .i64 sealed,.int .i64 x,.int .i64 e].toArray [St bs l most] (.tuple #[zA (jR most l y sealed x e).1,.int .i64 (jR most l y sealed x e).2.1,.int .i64 (jR most l y sealed x e).2.2.1]) [St bs (jR most l y sealed x e).2.2.2 most]:=by
 refine Fg Tryz.func154 Tryz.ntmps154 fun W0 R=>?_;refine Au ?_;refine Ef (EF.bV rfl) fun b5 _=>?_;refine Ef (EF.alloc aL) fun b10 _=>?_;refine Lr.run (.a rfl (.a rfl .s)) rfl ?_;refine Zn ?_;refine GC.scope (σ:=Int × List Tm) 0 (fun s=>[(4,.int .i64 s.1),(10,ptr b10)]) (fun s=>[St bs s.2 most,Bk b10 83 [.int .i64 0,.int .i64 0,.int .i64 0,.int .u64 0]]++R) (fun s=>jR most l y sealed x e=(D9,0,s.1,s.2)) rfl (fun s hs=>?_) ?_
 ·refine GC.app .a2 ?_;refine Au ?_;refine Gq fun w h=>?_;rw [hs];exact ⟨rfl,h.part (.t0 (.d .refl))⟩
 refine Au ?_;refine Ef (EF.alloc aL) fun b13 _=>?_;refine Au ?_;refine GC.cond rfl (fun c15=>?_) (fun c15=>?_)
 ·refine Au ?_;simp only [dB,ne_eq,dC] at *;exact GE.QR (e,l) (.c rfl (.c rfl .n)) (.t3 (.t1 (.d (.d .refl)))) (by unfold jR; rw [if_pos (by simpa using c15)])
 refine Au ?_;refine Lu rfl (EX.add rfl rfl (IntKind.wrap_u64 _)) ?_;refine Au ?_;refine Kc (vP bs l most ⟨y.ck,y.k,y.h,(y.n + 1) % 18446744073709551616⟩ sealed hm) (.one .p3) ?_;refine Au ?_;refine GC.cond rfl (fun c28=>?_) (fun c28=>?_)
 ·refine Au ?_;refine Gq fun w h=>?_;simp only [dB,ne_eq,dC] at *;simp only [jR,LA,c15,c28,ne_eq,not_true_eq_false,if_false,if_true];exact ⟨rfl,h.part (.t0 (.d (.d (.d .refl))))⟩
 refine Au ?_;refine Gq fun w h=>?_;simp only [dB,ne_eq,dC] at *;rw [show jR most l y sealed x e=_ from by unfold jR LA; rw [if_neg (by simpa using c15),if_neg c28]];exact ⟨rfl,h.part (.t0 (.d (.d (.d .refl))))⟩
theorem DU (bs:Nat) (l:List Tm) (most:Int) (y:Sy) (sealed:Int) (hm:most≤1048576) :
  tD Tryz.prog 211 [zA y,ptr bs,.int .i64 sealed].toArray [St bs l most] (.tuple #[zA (gH most l y sealed).1,.int .i64 (gH most l y sealed).2.1,.int .i64 (gH most l y sealed).2.2.1]) [St bs (gH most l y sealed).2.2.2 most]:=by
 refine Fg Tryz.func211 Tryz.ntmps211 fun W0 R=>?_;refine Au ?_;refine Ef (EF.bV rfl) fun b3 _=>?_;refine Ef (EF.alloc aL) fun b6 _=>?_;refine Au ?_;refine Kc (UE y) .nil ?_;refine Au ?_;refine GC.cond rfl (fun c13=>?_) (fun c13=>?_)
 ·refine Au ?_;refine Gq fun w h=>?_;simp only [dB,ne_eq,dC] at *;simp_all only [gH,ne_eq,not_true_eq_false,not_false_eq_true,if_true,if_false,true_or,or_true,or_false,false_or,reduceCtorEq,gt_iff_lt,Bool.and_eq_true,Bool.and_eq_false_iff,or_self,and_self];exact ⟨by first | rfl | trivial,h.part (.t2 (.d (.d .refl)))⟩
 refine Au ?_;refine Kc (J1 _ _ _ _ _ _ _) (.one .p2) ?_;refine Au ?_;refine Kc (F3 _ _ _ y _ _ _ hm) (.one .p0) ?_;refine Au ?_;refine Gq fun w h=>?_;simp only [dB,ne_eq,dC] at *;simp_all only [gH,ne_eq,not_true_eq_false,not_false_eq_true,if_true,if_false,true_or,or_true,or_false,false_or,reduceCtorEq,gt_iff_lt,Bool.and_eq_true,Bool.and_eq_false_iff,or_self,and_self];exact ⟨by first | rfl | trivial,h.part (.t0 (.d (.d .refl)))⟩
end
end Go.Proofs.YtadggjnohohedaaGreatDoor
namespace Go.Proofs.YtadggjnohohedaaGreatDoor
namespace EV
noncomputable section
inductive Pos where
 | h
 | o (p:Pos)
 | i (p:Pos)
def Pos.succ (p:Pos):Pos:=Pos.rec (.o .h) (fun q _=>.i q) (fun _ ih=>.o ih) p
def Pos.nat (p:Pos):Nat:=Pos.rec 1 (fun _ ih=>Nat.mul 2 ih) (fun _ ih=>Nat.succ (Nat.mul 2 ih)) p
inductive T (α:Type) where
 | e
 | n (l:T α) (v:Option α) (r:T α)
def T.get {α:Type} (p:Pos) (t:T α):Option α :=
 Pos.rec (motive:=fun _=>T α→Option α) (fun t=>T.rec none (fun _ v _ _ _=>v) t) (fun _ ih t=>T.rec none (fun l _ _ _ _=>ih l) t) (fun _ ih t=>T.rec none (fun _ _ r _ _=>ih r) t) p t
def T.put {α:Type} (p:Pos) (x:Option α) (t:T α):T α :=
 Pos.rec (motive:=fun _=>T α→T α) (fun t=>T.rec (.n .e x .e) (fun l _ r _ _=>.n l x r) t)
  (fun _ ih t=>T.rec (.n (ih .e) none .e) (fun l v r _ _=>.n (ih l) v r) t) (fun _ ih t=>T.rec (.n .e none (ih .e)) (fun l v r _ _=>.n l v (ih r)) t) p t
inductive SV where
 | i (k:IntKind) (n:Int)
 | b (x:Bool)
 | s (n v:Nat)
 | p (i:Pos) (o:Nat)
 | g (b o:Nat)
 | pn
 | sl (i:Pos) (o n c:Nat)
 | sr (i:Pos) (n:Nat)
 | sn
 | m (i:Pos)
 | mn
 | f (fn:Pos) (us cs:List SV)
 | fn
 | ni
 | a (l:List SV)
 | t (l:List SV)
 | w (k:IntKind) (a b:Nat)
 | y (k:IntKind)
 | z (m d:Nat)
 | q (i:Pos)
inductive Ob where
 | c (t:Nat) (cs:List SV)
 | r (t z:Nat) (cs:List SV)
 | m (k:IntKind) (aD:List (Int × SV))
 | it (m:Pos)
 | mi (j:Pos) (n:Nat) (k:IntKind) (aD:List (Int × SV))
 | me (j:Pos) (k:IntKind) (n:Int) (aD:List (Int × SV))
 | st (n:Nat) (rev:List Nat) (most:Nat) (F:Option (List Nat))
 | ro (t:Nat) (cs:List SV)
 | si (n v pos:Nat)
inductive O where
 | l (i:Nat)
 | t (p:Pos)
 | c (v:SV)
inductive A2 where
 | add | sub | mul | quo | rem | and | or | shl | shr | lss | leq | gtr | geq | eql | neq
inductive TK where
 | s | l | m | p | o
 | a (z:List SV)
inductive V where
 | mv (x:O)
 | pick (c x y:O)
 | ext (x:O) (i:Nat)
 | nc (x:O)
 | fa (off:Nat) (x:O)
 | YU (off n:Nat) (ag:Bool) (x:O)
 | ld (x:O)
 | eH (n:Nat) (x:O)
 | ar (op:A2) (k:TK) (x y:O)
 | not (x:O)
 | cvi (k:IntKind) (x:O)
 | cvs (x:O)
 | fW (z:List SV) (ps:List (Nat × Nat × O))
 | IR (f:Pos) (us cs:List O)
 | ln (k:TK) (x:O)
 | ia (z:Nat) (x i:O)
 | yJ (n z:Nat) (x i:O)
 | ixs (x i:O)
 | ixa (n z:Nat) (ag:Bool) (x i:O)
 | sls (x:O) (lo hi:Option O)
 | sla (n z:Nat) (x:O) (lo hi:Option O)
 | sln (z:Nat) (x lo:O)
 | lk (j:IntKind) (z:SV) (x k:O) (ok:Bool)
 | mx (x y:O)
 | mx3 (x y z:O)
 | mn2 (x y:O)
 | ldg (b:Nat) (l:List SV) (x:O)
 | bad
inductive E where
 | al (t:Nat) (z:List SV)
 | box (t:Nat) (x:O)
 | nF (t z n:Nat) (zs:List SV) (ps:List (Nat × Nat × O))
 | st (n:Nat) (x y:O)
 | ap (t z b:Nat) (x y:O)
 | B5 (k:IntKind)
 | mu (j:IntKind) (x k v:O)
 | del (j:IntKind) (x k:O)
 | rng (x:O)
 | Z5 (x:O)
 | ent (x:O)
 | rgs (x:O)
 | nxs (x:O)
 | cvb (t:Nat) (x:O)
 | men (j:IntKind) (z:SV) (x k:O)
 | mst (x s v:O)
 | bad
inductive CO where
 | v (g:Option (O × Bool)) (o:V) (b:Nat)
 | e (g:Option (O × Bool)) (o:E)
 | fl (t:Nat) (z:List SV)
 | c (g:Option (O × Bool)) (f:Pos) (xs:List O)
 | cv (g:Option (O × Bool)) (x:O) (xs:List O)
 | df (x:O)
 | fb (g:Option (O × Bool)) (t z n:Nat) (zs:List SV) (ps:List (Nat × Nat × O))
inductive CC where
 | skip
 | ops (l:List CO) (wb:List (Pos × Nat))
 | fZ (pm:List Nat) (l:List CO) (wb:List (Pos × Nat))
 | seq (a b:CC)
 | cond (c:O) (a b:CC)
 | block (i:Nat) (a:CC)
 | loop (a:CC)
 | exit (i:Nat)
 | ret
inductive A3 where
 | t (p:Pos)
 | c (p:Pos) (n:Nat) (ag:Bool)
structure CF where
 res:List A3
 body:CC
 keep:Nat
 np:Nat
def nth {α:Type} (l:List α) (i:Nat):Option α :=
 List.rec (motive:=fun _=>Nat→Option α) (fun _=>none) (fun x _ ih i=>Nat.rec (some x) (fun j _=>ih j) i) l i
def front {α:Type} (n:Nat) (l:List α):Option (List α) :=
 Nat.rec (motive:=fun _=>List α→Option (List α)) (fun _=>some []) (fun _ ih l=>List.rec none (fun x r _=>Option.rec none (fun r=>some (x::r)) (ih r)) l) n l
def back {α:Type} (n:Nat) (l:List α):Option (List α) :=
 Nat.rec (motive:=fun _=>List α→Option (List α)) (fun l=>some l) (fun _ ih l=>List.rec none (fun _ r _=>ih r) l) n l
def lay {α:Type} (vs l:List α):Option (List α) :=
 List.rec (motive:=fun _=>List α→Option (List α)) (fun l=>some l) (fun v _ ih l=>List.rec none (fun _ r _=>Option.rec none (fun r=>some (v::r)) (ih r)) l) vs l
def iP {α:Type} (n:Nat) (vs l:List α):Option (List α) :=
 Nat.rec (motive:=fun _=>List α→Option (List α)) (fun l=>lay vs l) (fun _ ih l=>List.rec none (fun x r _=>Option.rec none (fun r=>some (x::r)) (ih r)) l) n l
def app {α:Type} (l m:List α):List α:=List.rec m (fun x _ ih=>x::ih) l
def len {α:Type} (l:List α):Nat:=List.rec 0 (fun _ _ ih=>Nat.succ ih) l
def on (fr:T SV) (env:List SV) (x:O):Option SV:=O.rec (fun i=>nth env i) (fun p=>T.get p fr) (fun v=>some v) x
abbrev LK:=O→Option SV
def ob {β:Type} (x:Option SV) (k:SV→Option β):Option β:=Option.rec none k x
def HC (lk:LK) (xs:List O):Option (List SV):=List.rec (some []) (fun x _ ih=>Option.rec none (fun v=>Option.rec none (fun vs=>some (v::vs)) ih) (lk x)) xs
def cells (v:SV):Option (List SV):=match v with
 | .a l=>some l
 | .t _=>none
 | v=>some [v]
def und:SV:=.t []
def top (k:IntKind):Nat:=match k with
 | .i8=>127 | .i16=>32767 | .i32=>2147483647 | .i64=>9223372036854775807 | .u8=>255 | .u16=>65535 | .u32=>4294967295 | .u64=>18446744073709551615
def sgn (k:IntKind):Bool:=match k with
 | .i8 | .i16 | .i32 | .i64=>true
 | _=>false
def wr (k:IntKind) (n:Int):Int:=match n with
 | .ofNat c=>bif Nat.ble c (top k) then .ofNat c else k.wrap (.ofNat c)
 | .negSucc c=>bif and (sgn k) (Nat.ble c (top k)) then .negSucc c else k.wrap (.negSucc c)
def ilt (a b:Int):Bool:=match a,b with
 | .ofNat a,.ofNat b=>Nat.blt a b
 | .ofNat _,.negSucc _=>false
 | .negSucc _,.ofNat _=>true
 | .negSucc a,.negSucc b=>Nat.blt b a
def ieq (a b:Int):Bool:=match a,b with
 | .ofNat a,.ofNat b=>Nat.beq a b
 | .negSucc a,.negSucc b=>Nat.beq a b
 | _,_=>false
def GR (op:A2) (k:IntKind) (a b:Int):Option SV:=match op with
 | .add=>some (.i k (wr k (a + b)))
 | .sub=>some (.i k (wr k (a - b)))
 | .mul=>some (.i k (wr k (a * b)))
 | .lss=>some (.b (ilt a b))
 | .leq=>some (.b (!ilt b a))
 | .gtr=>some (.b (ilt b a))
 | .geq=>some (.b (!ilt a b))
 | .eql=>some (.b (ieq a b))
 | .neq=>some (.b (!ieq a b))
 | .quo=>match a,b with
  | .ofNat a,.ofNat b=>bif Nat.beq b 0 then none else some (.i k (wr k (.ofNat (Nat.div a b))))
  | _,_=>none
 | .rem=>match a,b with
  | .ofNat a,.ofNat b=>bif Nat.beq b 0 then none else some (.i k (.ofNat (Nat.mod a b)))
  | _,_=>none
 | .or=>some (.i k (k.wrap ((BitVec.ofInt k.bits a ||| BitVec.ofInt k.bits b).toNat:Int)))
 | .and=>some (.i k (k.wrap ((BitVec.ofInt k.bits a &&& BitVec.ofInt k.bits b).toNat:Int)))
 | _=>none
def shI (op:A2) (k:IntKind) (a b:Int):Option SV:=match b with
 | .ofNat n=>match op with
  | .shl=>some (.i k (k.wrap (a * 2 ^ (min n k.bits))))
  | .shr=>some (.i k (a.fdiv (2 ^ (min n k.bits))))
  | _=>none
 | _=>none
def aK2 (op:A2):Bool:=match op with
 | .shl=>true
 | .shr=>true
 | _=>false
def kN (j k:IntKind):Bool:=Nat.beq (top j) (top k)
def seq (n v m w:Nat):Bool:=bif Nat.beq n m then Nat.beq v w else false
def arS (op:A2) (n v m w:Nat):Option SV:=match op with
 | .add=>bif Nat.ble (Nat.add n m) 1000000 then some (.s (Nat.add n m) (Nat.add (Nat.mul v (Nat.pow 256 m)) w)) else none
 | .eql=>some (.b (seq n v m w))
 | .neq=>some (.b (!seq n v m w))
 | _=>none
def isNil (v:SV):Option Bool:=match v with
 | .pn=>some true
 | .p _ _=>some false
 | _=>none
def wN (v:SV):Option Bool:=match v with
 | .sn=>some true
 | .sl _ _ _ _=>some false
 | .sr _ _=>some false
 | _=>none
def eq1 (x y:SV):Option Bool:=match x,y with
 | .i j a,.i k b=>bif kN j k then some (ieq a b) else none
 | .s n v,.s m w=>some (seq n v m w)
 | .b x,.b y=>some (bif x then y else !y)
 | _,_=>none
def eqs (l m:List SV):Option Bool :=
 List.rec (motive:=fun _=>List SV→Option Bool) (fun m=>List.rec (some true) (fun _ _ _=>none) m)
  (fun x _ ih m=>List.rec none (fun y r _=>Option.rec none (fun b=>Option.rec none (fun c=>some (bif b then c else false)) (ih r)) (eq1 x y)) m) l m
def E5 (x z:SV):Bool:=match x,z with
 | .i j _,.i k _=>kN j k
 | .s _ _,.s _ _=>true
 | .b _,.b _=>true
 | _,_=>false
def rF (l z:List SV):Bool :=
 List.rec (motive:=fun _=>List SV→Bool) (fun z=>List.rec true (fun _ _ _=>false) z) (fun x _ ih z=>List.rec false (fun y r _=>and (E5 x y) (ih r)) z) l z
def JV (op:A2) (b:Option Bool):Option SV:=match op with
 | .eql=>b.map .b
 | .neq=>b.map fun b=>.b (!b)
 | _=>none
def arV (op:A2) (tk:TK) (x y:SV):Option SV:=match x with
 | .i k a=>match y with
  | .i j b=>bif aK2 op then shI op k a b else bif kN k j then GR op k a b else none
  | .z m e=>match k,a,op with
   | .i64,.ofNat d,.add=>bif and (Nat.ble d 256) (Nat.ble e 256) then some (.z m (Nat.add d e)) else none
   | _,_,_=>none
  | _=>none
 | .s n v=>match y with
  | .s m w=>arS op n v m w
  | _=>none
 | .a l=>match y,tk with
  | .a m,.a z=>bif rF l z then JV op (eqs l m) else none
  | _,_=>none
 | .w k a b=>match k,y,op with
  | .i64,.i .i64 (.ofNat m),.rem=>bif Nat.beq m 7 then (bif Nat.beq a 7 then some (.z 0 0) else some (.i .i64 (.ofNat a))) else bif Nat.beq m 4 then (bif Nat.beq b 4 then none else some (.i .i64 (.ofNat b))) else none
  | _,_,_=>none
 | .y k=>match k,y,op with
  | .i64,.i .i64 (.ofNat m),.rem=>bif Nat.beq m 0 then none else some (.z m 0)
  | _,_,_=>none
 | x=>match y,tk with
  | .pn,.p=>JV op (isNil x)
  | .sn,.l=>JV op (wN x)
  | _,_=>none
def cellsOf (me:T Ob) (i:Pos):Option (List SV):=match T.get i me with
 | some (.c _ cs)=>some cs
 | some (.r _ _ cs)=>some cs
 | some (.ro _ cs)=>some cs
 | _=>none
def sub (off n:Nat) (cs:List SV):Option (List SV):=Option.rec none (fun r=>front n r) (back off cs)
def ldV (me:T Ob) (v:SV):Option SV:=match v with
 | .p i o=>Option.rec none (fun cs=>nth cs o) (cellsOf me i)
 | _=>none
def EZ (me:T Ob) (n:Nat) (v:SV):Option SV:=match v with
 | .p i o=>Option.rec none (fun cs=>Option.rec none (fun l=>some (.a l)) (sub o n cs)) (cellsOf me i)
 | _=>none
def JZ (l:List SV) (n v:Nat):Option SV :=
 List.rec (motive:=fun _=>Nat→Nat→Option SV) (fun n v=>some (.s n v)) (fun x _ ih n v=>match x with
  | .i .u8 (.ofNat c)=>bif Nat.blt c 256 then ih (Nat.succ n) (Nat.add (Nat.mul v 256) c) else none
  | _=>none) l n v
def look (aD:List (Int × SV)) (k:Int):Option SV :=
 List.rec none (fun p _ ih=>bif ieq k p.1 then some p.2 else ih) aD
def rG (aD:List (Int × SV)) (k:Int) (v:SV):List (Int × SV) :=
 List.rec [(k,v)] (fun p r ih=>bif ieq k p.1 then (k,v)::r else p::ih) aD
def GI (aD:List (Int × SV)) (k:Int):List (Int × SV) :=
 List.rec [] (fun p r ih=>bif ieq k p.1 then r else p::ih) aD
def fill (lk:LK) (ps:List (Nat × Nat × O)) (z:List SV):Option (List SV) :=
 List.rec (motive:=fun _=>List SV→Option (List SV)) (fun z=>some z) (fun p _ ih z=>Option.rec none (fun v=>Option.rec none (fun cs=>bif Nat.beq (len cs) p.2.1 then Option.rec none (fun z=>ih z) (iP p.1 cs z) else none) (cells v)) (lk p.2.2)) ps z
def atom (v:SV):Bool:=match v with
 | .f _ _ _=>false
 | .a _=>false
 | .t _=>false
 | _=>true
def atoms (l:List SV):Bool:=List.rec true (fun v _ ih=>and (atom v) ih) l
def xR (n:Nat) (v:SV):Option SV:=match v with
 | .p i o=>some (.p i (Nat.add o n))
 | .g b o=>some (.g b (Nat.add o n))
 | _=>none
def XG (me:T Ob) (k:TK) (v:SV):Option SV:=match k,v with
 | .s,.s n _=>some (.i .i64 (.ofNat n))
 | .l,.sl _ _ n _=>some (.i .i64 (.ofNat n))
 | .l,.sr _ n=>some (.i .i64 (.ofNat n))
 | .l,.sn=>some (.i .i64 (.ofNat 0))
 | .m,.m i=>match T.get i me with
  | some (.m _ aD)=>some (.i .i64 (.ofNat (len aD)))
  | _=>none
 | _,_=>none
def iaV (z:Nat) (x i:SV):Option SV:=match i with
 | .i _ (.ofNat j)=>match x with
  | .sl i o n _=>bif Nat.blt j n then some (.p i (Nat.add o (Nat.mul j z))) else none
  | .sr i n=>bif Nat.blt j n then some (.p i (Nat.mul j z)) else none
  | _=>none
 | _=>none
def aEu (n z:Nat) (x i:SV):Option SV:=match i with
 | .i _ (.ofNat j)=>bif Nat.blt j n then xR (Nat.mul j z) x else none
 | _=>none
def aEm (x i:SV):Option SV:=match x,i with
 | .s n v,.i _ (.ofNat j)=>bif Nat.blt j n then some (.i .u8 (.ofNat (Nat.mod (Nat.div v (Nat.pow 256 (Nat.sub (Nat.sub n 1) j))) 256))) else none
 | _,_=>none
def cut (off n:Nat) (ag:Bool) (x:SV):Option SV:=match x with
 | .a cs=>bif ag then Option.rec none (fun l=>some (.a l)) (sub off n cs) else nth cs off
 | _=>none
def aEn (n z:Nat) (ag:Bool) (x i:SV):Option SV:=match i with
 | .i _ (.ofNat j)=>bif Nat.blt j n then cut (Nat.mul j z) z ag x else none
 | _=>none
def bnd (lk:LK) (x:Option O) (d:Nat):Option Nat:=match x with
 | none=>some d
 | some x=>match lk x with
  | some (.i _ (.ofNat j))=>some j
  | _=>none
def E2 (x:SV) (lo hi:Option Nat) (hn:Bool):Option SV:=match x with
 | .s n v=>match lo with
  | some l=>match (bif hn then some n else hi) with
   | some h=>bif and (Nat.ble l h) (Nat.ble h n) then some (.s (Nat.sub h l) (Nat.mod (Nat.div v (Nat.pow 256 (Nat.sub n h))) (Nat.pow 256 (Nat.sub h l)))) else none
   | none=>none
  | none=>none
 | _=>none
def aBq (x lo:SV):Option SV:=match x,lo with
 | .sn,.i .i64 (.ofNat n)=>bif Nat.beq n 0 then some .sn else none
 | _,_=>none
def E4 (n z:Nat) (x:SV) (lo hi:Option Nat):Option SV:=match x with
 | .p i o=>match lo,hi with
  | some l,some h=>bif and (Nat.ble l h) (Nat.ble h n) then some (.sl i (bif Nat.beq n l then o else Nat.add o (Nat.mul l z)) (Nat.sub h l) (Nat.sub n l)) else none
  | _,_=>none
 | _=>none
def aKz (kk:IntKind) (k:SV):Option Int:=match k with
 | .i j n=>bif kN j kk then some n else none
 | _=>none
def aKy (k:SV):Option Int:=match k with
 | .a [.i .i64 (.ofNat a),.i .i64 (.ofNat b)]=>bif Nat.blt b 4294967296 then some (.ofNat (Nat.add (Nat.mul a 4294967296) b)) else none
 | _=>none
def uI (kk:IntKind) (k:SV):Option Int:=bif kN kk .u16 then aKy k else aKz kk k
def lkV (me:T Ob) (kk:IntKind) (z x k:SV) (ok:Bool):Option SV:=match x with
 | .m i=>match T.get i me with
  | some (.m k0 aD)=>bif kN kk k0 then (match uI kk k with
   | none=>none
   | some n=>(match look aD n with
    | none=>some (bif ok then .t [z,.b false] else z)
    | some v=>some (bif ok then .t [v,.b true] else v))) else none
  | _=>none
 | _=>none
def mnV (x y:SV):Option SV:=match x,y with
 | .i k a,.i j b=>bif kN k j then some (bif ilt b a then .i k b else .i k a) else none
 | _,_=>none
def WO (x y:SV):Option SV:=match x,y with
 | .i k a,.i j b=>bif kN k j then some (bif ilt a b then .i k b else .i k a) else none
 | _,_=>none
def aD2 (b:Nat) (l:List SV) (x:SV):Option SV:=match x with
 | .g b' o=>bif Nat.beq b b' then nth l o else none
 | _=>none
def VA (c x y:SV):Option SV:=match c with
 | .b b=>some (bif b then x else y)
 | _=>none
def ncV (x:SV):Option SV:=match x with
 | .p i o=>some (.p i o)
 | .g b o=>some (.g b o)
 | _=>none
def aE9 (x:SV) (i:Nat):Option SV:=match x with
 | .t l=>nth l i
 | _=>none
def aDo (x:SV):Option SV:=match x with
 | .b x=>some (.b (!x))
 | _=>none
def aFo (k:IntKind) (x:SV):Option SV:=match x with
 | .i _ n=>some (.i k (wr k n))
 | .w .u8 a b=>match k with
  | .i64=>some (.w .i64 a b)
  | _=>none
 | .y .u8=>match k with
  | .i64=>some (.y .i64)
  | _=>none
 | _=>none
def gF (me:T Ob) (z:Nat) (y:SV):Option (Nat × List SV):=match y with
 | .sl i o n _=>Option.rec none (fun cs=>Option.rec none (fun l=>some (n,l)) (sub o (Nat.mul n z) cs)) (cellsOf me i)
 | .sr i n=>Option.rec none (fun cs=>Option.rec none (fun l=>some (n,l)) (front (Nat.mul n z) cs)) (cellsOf me i)
 | _=>none
def aFl (me:T Ob) (x:SV):Option SV:=match x with
 | .sn=>some (.s 0 0)
 | x=>match gF me 1 x with
  | some (_,l)=>JZ l 0 0
  | none=>none
def val (lk:LK) (me:T Ob) (o:V):Option SV:=match o with
 | .mv x=>lk x
 | .pick c x y=>ob (lk c) fun c=>ob (lk x) fun x=>ob (lk y) fun y=>VA c x y
 | .ext x i=>ob (lk x) fun v=>aE9 v i
 | .nc x=>ob (lk x) fun v=>ncV v
 | .fa off x=>ob (lk x) fun v=>xR off v
 | .YU off n ag x=>ob (lk x) fun v=>cut off n ag v
 | .ld x=>ob (lk x) fun v=>ldV me v
 | .eH n x=>ob (lk x) fun v=>EZ me n v
 | .ar op k x y=>ob (lk x) fun x=>ob (lk y) fun y=>arV op k x y
 | .not x=>ob (lk x) fun v=>aDo v
 | .cvi k x=>ob (lk x) fun v=>aFo k v
 | .cvs x=>ob (lk x) fun v=>aFl me v
 | .fW z ps=>(fill lk ps z).map .a
 | .IR f us cs=>Option.rec none (fun us=>Option.rec none (fun cs=>bif and (atoms us) (atoms cs) then some (.f f us cs) else none) (HC lk cs)) (HC lk us)
 | .ln k x=>ob (lk x) fun v=>XG me k v
 | .ia z x i=>ob (lk x) fun x=>ob (lk i) fun i=>iaV z x i
 | .yJ n z x i=>ob (lk x) fun x=>ob (lk i) fun i=>aEu n z x i
 | .ixs x i=>ob (lk x) fun x=>ob (lk i) fun i=>aEm x i
 | .ixa n z ag x i=>ob (lk x) fun x=>ob (lk i) fun i=>aEn n z ag x i
 | .sln _ x lo=>ob (lk x) fun x=>ob (lk lo) fun l=>aBq x l
 | .sls x lo hi=>ob (lk x) fun x=>E2 x (bnd lk lo 0) (bnd lk hi 0) hi.isNone
 | .sla n z x lo hi=>ob (lk x) fun x=>E4 n z x (bnd lk lo 0) (bnd lk hi n)
 | .lk j z x k ok=>ob (lk x) fun x=>ob (lk k) fun k=>lkV me j z x k ok
 | .mx x y=>ob (lk x) fun x=>ob (lk y) fun y=>WO x y
 | .mx3 x y z=>ob (lk x) fun x=>ob (lk y) fun y=>ob (lk z) fun z=>ob (WO x y) fun u=>WO u z
 | .mn2 x y=>ob (lk x) fun x=>ob (lk y) fun y=>mnV x y
 | .ldg b l x=>ob (lk x) fun x=>aD2 b l x
 | .bad=>none
inductive R3 where
 | no
 | ok (v:SV) (me:T Ob) (nx:Pos)
def stE (n:Nat) (me:T Ob) (nx:Pos) (x y:SV):R3:=match x with
 | .p i o=>match T.get i me with
  | some (.c t cs)=>Option.rec .no (fun ys=>bif Nat.beq (len ys) n then Option.rec .no (fun cs=>.ok und (T.put i (some (.c t cs)) me) nx) (iP o ys cs) else .no) (cells y)
  | _=>.no
 | _=>.no
def apE (t z b:Nat) (me:T Ob) (nx:Pos) (x y:SV):R3:=match gF me z y with
 | none=>.no
 | some (n,l)=>bif Nat.beq n 0 then .no else match x with
  | .sn=>bif Nat.ble (Nat.mul n (Nat.succ b)) 1000000 then .ok (.sr nx n) (T.put nx (some (.r t z l)) me) (Pos.succ nx) else .no
  | .sr i m=>match T.get i me with
   | some (.r t' z' cs)=>bif and (Nat.beq (len cs) (Nat.mul m z)) (and (Nat.beq t t') (and (Nat.beq z z') (Nat.ble (Nat.mul (Nat.add m n) (Nat.succ b)) 1000000))) then .ok (.sr nx (Nat.add m n)) (T.put nx (some (.r t z (app cs l))) (T.put i none me)) (Pos.succ nx) else .no
   | _=>.no
  | _=>.no
def muE (kk:IntKind) (me:T Ob) (nx:Pos) (x y v:SV):R3:=match x with
 | .m i=>match T.get i me with
  | some (.m k aD)=>bif kN kk k then (match uI kk y with
   | some n=>Option.rec .no (fun _=>.ok und (T.put i (some (.m k (rG aD n v))) me) nx) (cells v)
   | none=>.no) else .no
  | _=>.no
 | _=>.no
def aFk (kk:IntKind) (me:T Ob) (nx:Pos) (x y:SV):R3:=match x with
 | .m i=>match T.get i me with
  | some (.m k aD)=>bif kN kk k then (match uI kk y with
   | some n=>.ok und (T.put i (some (.m k (GI aD n))) me) nx
   | none=>.no) else .no
  | some (.mi jj nn k aD)=>bif kN kk k then (match uI kk y with
   | some n=>.ok und (T.put i (some (.mi jj nn k (GI aD n))) me) nx
   | none=>.no) else .no
  | _=>.no
 | _=>.no
def aBv (me:T Ob) (nx:Pos) (x:SV):R3:=match x with
 | .m i=>match T.get i me with
  | some (.m k aD)=>bif Nat.ble (len aD) 1 then .ok (.p nx 0) (T.put nx (some (.it i)) (T.put i (some (.mi nx 0 k aD)) me)) (Pos.succ nx) else .no
  | _=>.no
 | _=>.no
def LP (me:T Ob) (nx:Pos) (i j:Pos) (k:IntKind) (aD:List (Int × SV)):R3:=.ok (.t [.b false]) (T.put j none (T.put i (some (.m k aD)) me)) nx
def aDm (me:T Ob) (nx:Pos) (x:SV):R3:=match x with
 | .p j 0=>match T.get j me with
  | some (.it i)=>match T.get i me with
   | some (.mi j' n k aD)=>bif Nat.beq j.nat j'.nat then (match aD with
    | []=>LP me nx i j k aD
    | [(a,b)]=>match n with
     | 0=>bif kN k .u16 then .no else .ok (.t [.b true,.i k a,b]) (T.put i (some (.mi j' 1 k aD)) me) nx
     | _=>LP me nx i j k aD
    | _=>.no) else .no
   | _=>.no
  | _=>.no
 | _=>.no
def aFg (me:T Ob) (nx:Pos) (x:SV):R3:=match x with
 | .p j 0=>match T.get j me with
  | some (.it i)=>match T.get i me with
   | some (.mi j' n k aD)=>bif Nat.beq j.nat j'.nat then (match n,aD with
    | 1,[(a,b)]=>bif kN k .u16 then .no else .ok (.t [.i k a,b]) me nx
    | _,_=>.no) else .no
   | _=>.no
  | _=>.no
 | _=>.no
def aBx (me:T Ob) (nx:Pos) (x:SV):R3:=match x with
 | .s n v=>.ok (.p nx 0) (T.put nx (some (.si n v 0)) me) (Pos.succ nx)
 | _=>.no
def byteOf (n v j:Nat):Nat:=Nat.mod (Nat.div v (Nat.pow 256 (Nat.sub (Nat.sub n 1) j))) 256
def aDn (me:T Ob) (nx:Pos) (x:SV):R3:=match x with
 | .p j 0=>match T.get j me with
  | some (.si n v pos)=>bif Nat.blt pos n then (bif Nat.blt (byteOf n v pos) 128 then .ok (.t [.b true,.i .i64 (.ofNat pos),.i .i32 (.ofNat (byteOf n v pos))]) (T.put j (some (.si n v (Nat.succ pos))) me) nx else .no) else .ok (.t [.b false]) me nx
  | _=>.no
 | _=>.no
def RZ (n v:Nat) (acc:List SV):List SV:=Nat.rec (motive:=fun _=>Nat→List SV→List SV) (fun _ acc=>acc) (fun _ ih v acc=>ih (Nat.div v 256) (.i .u8 (.ofNat (Nat.mod v 256))::acc)) n v acc
def aFp (t:Nat) (me:T Ob) (nx:Pos) (x:SV):R3:=match x with
 | .s n v=>.ok (.sr nx n) (T.put nx (some (.ro t (RZ n v []))) me) (Pos.succ nx)
 | _=>.no
def aDu (kk:IntKind) (z:SV) (me:T Ob) (nx:Pos) (x y:SV):R3:=match x with
 | .m i=>match T.get i me with
  | some (.m k aD)=>bif kN kk k then (match uI kk y with
   | some n=>(match look aD n with
    | some v=>.ok (.t [v,.q nx]) (T.put i (some (.me nx k n (rG aD n v))) me) (Pos.succ nx)
    | none=>.ok (.t [z,.q nx]) (T.put i (some (.me nx k n (rG aD n z))) me) (Pos.succ nx))
   | none=>.no) else .no
  | _=>.no
 | _=>.no
def aDp (me:T Ob) (nx:Pos) (x s v:SV):R3:=match x,s with
 | .m i,.q j=>match T.get i me with
  | some (.me j' k n aD)=>bif Nat.beq j.nat j'.nat then Option.rec .no (fun _=>.ok und (T.put i (some (.m k (rG aD n v))) me) nx) (cells v) else .no
  | _=>.no
 | _,_=>.no
def r1 (x:Option SV) (k:SV→R3):R3:=Option.rec .no k x
def nB (lk:LK) (me:T Ob) (nx:Pos) (o:E):R3:=match o with
 | .al t z=>.ok (.p nx 0) (T.put nx (some (.c t z)) me) (Pos.succ nx)
 | .box t x=>r1 (lk x) fun v=>Option.rec .no (fun cs=>.ok (.p nx 0) (T.put nx (some (.c t cs)) me) (Pos.succ nx)) (cells v)
 | .nF t z n zs ps=>Option.rec .no (fun l=>.ok (.sr nx n) (T.put nx (some (.r t z l)) me) (Pos.succ nx)) (fill lk ps zs)
 | .st n x y=>r1 (lk x) fun x=>r1 (lk y) fun y=>stE n me nx x y
 | .ap t z b x y=>r1 (lk x) fun x=>r1 (lk y) fun y=>apE t z b me nx x y
 | .B5 k=>.ok (.m nx) (T.put nx (some (.m k [])) me) (Pos.succ nx)
 | .mu j x y v=>r1 (lk x) fun x=>r1 (lk y) fun y=>r1 (lk v) fun v=>muE j me nx x y v
 | .del j x y=>r1 (lk x) fun x=>r1 (lk y) fun y=>aFk j me nx x y
 | .rng x=>r1 (lk x) fun x=>aBv me nx x
 | .Z5 x=>r1 (lk x) fun x=>aDm me nx x
 | .ent x=>r1 (lk x) fun x=>aFg me nx x
 | .rgs x=>r1 (lk x) fun x=>aBx me nx x
 | .nxs x=>r1 (lk x) fun x=>aDn me nx x
 | .cvb t x=>r1 (lk x) fun x=>aFp t me nx x
 | .men j z x y=>r1 (lk x) fun x=>r1 (lk y) fun y=>aDu j z me nx x y
 | .mst x y v=>r1 (lk x) fun x=>r1 (lk y) fun y=>r1 (lk v) fun v=>aDp me nx x y v
 | .bad=>.no
inductive X where
 | pH
 | ext (i:Nat)
 | ret
 | dL (e:SV)
inductive RC where
 | no
 | ok (x:X) (fr:T SV) (me:T Ob) (nx:Pos) (ds:List SV)
inductive RF where
 | no
 | ret (v:SV) (me:T Ob) (nx:Pos)
 | dL (e:SV) (me:T Ob) (nx:Pos)
inductive R1 where
 | no
 | ok (v:SV) (me:T Ob) (nx:Pos) (ds:List SV)
 | dL (e:SV) (me:T Ob) (nx:Pos) (ds:List SV)
inductive RR where
 | no
 | ok (env:List SV) (me:T Ob) (nx:Pos) (ds:List SV)
 | dL (e:SV) (me:T Ob) (nx:Pos) (ds:List SV)
abbrev CL:=Pos→List SV→T Ob→Pos→RF
def gd (lk:LK) (g:Option (O × Bool)):Option Bool:=match g with
 | none=>some true
 | some (x,w)=>match lk x with
  | some (.b y)=>some (bif w then y else !y)
  | some (.t [])=>some false
  | _=>none
def eqA (x y:SV):Bool:=match x,y with
 | .i j a,.i k b=>and (kN j k) (ieq a b)
 | .b x,.b y=>bif x then y else !y
 | .s n v,.s m w=>seq n v m w
 | .p i o,.p j q=>and (Nat.beq i.nat j.nat) (Nat.beq o q)
 | .pn,.pn=>true
 | .sl i o n c,.sl j p m d=>and (Nat.beq i.nat j.nat) (and (Nat.beq o p) (and (Nat.beq n m) (Nat.beq c d)))
 | .sr i n,.sr j m=>and (Nat.beq i.nat j.nat) (Nat.beq n m)
 | .sn,.sn=>true
 | .m i,.m j=>Nat.beq i.nat j.nat
 | .fn,.fn=>true
 | .mn,.mn=>true
 | .ni,.ni=>true
 | _,_=>false
def allA (l m:List SV):Bool :=
 List.rec (motive:=fun _=>List SV→Bool) (fun m=>List.rec true (fun _ _ _=>false) m) (fun x _ ih m=>List.rec false (fun y r _=>and (eqA x y) (ih r)) m) l m
def same (x y:SV):Bool:=match x,y with
 | .a l,.a m=>allA l m
 | x,y=>eqA x y
def aGe (l m:List SV):Bool :=
 List.rec (motive:=fun _=>List SV→Bool) (fun m=>List.rec true (fun _ _ _=>false) m) (fun x _ ih m=>List.rec false (fun y r _=>and (same x y) (ih r)) m) l m
def KZ (x y:SV):Bool:=match x,y with
 | .t l,.t m=>aGe l m
 | x,y=>same x y
def vals (lk:LK) (o:V) (v:SV) (b:Nat) (ms:List (T Ob)):Bool :=
 Nat.rec (motive:=fun _=>List (T Ob)→Bool) (fun _=>true) (fun _ ih ms=>List.rec true (fun m r _=>Option.rec false (fun w=>and (KZ v w) (ih r)) (val lk m o)) ms) b ms
def ints (l:List SV):Bool:=List.rec true (fun v _ ih=>match v with
 | .i _ _=>ih
 | _=>false) l
def call (cl:CL) (f:Pos) (vs:List SV) (me:T Ob) (nx:Pos) (ds:List SV):R1:=RF.rec .no (fun v me nx=>.ok v me nx ds) (fun e me nx=>.dL e me nx ds) (cl f vs me nx)
def aBu (cl:CL) (lk:LK) (me:T Ob) (nx:Pos) (ds:List SV) (o:CO):R1:=match o with
 | .v _ o _=>Option.rec .no (fun v=>.ok v me nx ds) (val lk me o)
 | .e _ o=>R3.rec .no (fun v me nx=>.ok v me nx ds) (nB lk me nx o)
 | .c _ f xs=>Option.rec .no (fun vs=>call cl f vs me nx ds) (HC lk xs)
 | .cv _ x xs=>Option.rec .no (fun f=>match f with
  | .f f us cs=>Option.rec .no (fun vs=>call cl f (app us (app vs cs)) me nx ds) (HC lk xs)
  | _=>.no) (lk x)
 | .df x=>Option.rec .no (fun v=>.ok und me nx (v::ds)) (lk x)
 | .fl t z=>.ok (.p nx 0) (T.put nx (some (.c t z)) me) (Pos.succ nx) ds
 | .fb _ t z n zs ps=>Option.rec .no (fun l=>bif ints l then .ok (.sr nx n) (T.put nx (some (.r t z l)) me) (Pos.succ nx) ds else .no) (fill lk ps zs)
def RG (o:CO):Option (O × Bool):=match o with
 | .v g _ _=>g
 | .e g _=>g
 | .c g _ _=>g
 | .cv g _ _=>g
 | .df _=>none
 | .fl _ _=>none
 | .fb g _ _ _ _ _=>g
def JD (o:CO):Bool:=match o with
 | .fb _ _ _ _ _ _=>true
 | _=>false
def qI (l:List CO):Bool:=List.rec false (fun o _ ih=>or (JD o) ih) l
def PV (o:CO) (me:T Ob) (nx:Pos) (ds:List SV):R1:=bif JD o then .no else .ok und me nx ds
def step1 (cl:CL) (lk:LK) (me:T Ob) (nx:Pos) (ds:List SV) (o:CO):R1:=Option.rec .no (fun b=>bif b then aBu cl lk me nx ds o else PV o me nx ds) (gd lk (RG o))
def ops (cl:CL) (fr:T SV) (l:List CO) (env:List SV) (me:T Ob) (nx:Pos) (ds:List SV):RR :=
 List.rec (motive:=fun _=>List SV→T Ob→Pos→List SV→RR) (fun env me nx ds=>.ok env me nx ds)
  (fun o _ ih env me nx ds=>R1.rec .no (fun v me nx ds=>ih (v::env) me nx ds) (fun e me nx ds=>.dL e me nx ds) (step1 cl (on fr env) me nx ds o)) l env me nx ds
inductive RD where
 | no
 | ok (env:List SV) (me:T Ob) (nx:Pos) (ds:List SV) (ms:List (T Ob))
 | dL (e:SV) (me:T Ob) (nx:Pos) (ds:List SV) (ms:List (T Ob))
def RD.ms (r:RD):List (T Ob):=RD.rec [] (fun _ _ _ _ ms=>ms) (fun _ _ _ _ ms=>ms) r
def push (m:T Ob) (r:RD):RD:=RD.rec .no (fun env me nx ds ms=>.ok env me nx ds (m::ms)) (fun e me nx ds ms=>.dL e me nx ds (m::ms)) r
def fin (lk:LK) (o:CO) (v:SV) (me:T Ob) (r:RD):RD:=match o with
 | .v g o b=>match b with
  | 0=>r
  | b=>Option.rec .no (fun on=>bif on then (bif vals lk o v b (RD.ms r) then r else .no) else r) (gd lk g)
 | _=>push me r
def kF (cl:CL) (fr:T SV) (l:List CO) (env:List SV) (me:T Ob) (nx:Pos) (ds:List SV):RD :=
 List.rec (motive:=fun _=>List SV→T Ob→Pos→List SV→RD) (fun env me nx ds=>.ok env me nx ds [])
  (fun o _ ih env me nx ds=>R1.rec .no (fun v me' nx' ds'=>fin (on fr env) o v me' (ih (v::env) me' nx' ds')) (fun e me nx ds=>.dL e me nx ds []) (step1 cl (on fr env) me nx ds o)) l env me nx ds
def RD.rr (b:Bool) (r:RD):RR:=RD.rec .no (fun env me nx ds _=>.ok env me nx ds) (fun e me nx ds _=>bif b then .no else .dL e me nx ds) r
def wbs (wb:List (Pos × Nat)) (env:List SV) (fr:T SV):Option (T SV) :=
 List.rec (motive:=fun _=>T SV→Option (T SV)) (fun fr=>some fr) (fun p _ ih fr=>Option.rec none (fun v=>ih (T.put p.1 (some v) fr)) (nth env p.2)) wb fr
def D0 (wb:List (Pos × Nat)) (fr:T SV):T SV:=List.rec (motive:=fun _=>T SV→T SV) (fun fr=>fr) (fun p _ ih fr=>ih (T.put p.1 none fr)) wb fr
def rgn (wb:List (Pos × Nat)) (fr:T SV) (r:RR):RC:=RR.rec .no (fun env me nx ds=>Option.rec .no (fun fr=>.ok .pH fr me nx ds) (wbs wb env fr)) (fun e me nx ds=>.ok (.dL e) (D0 wb fr) me nx ds) r
def thn (r:RC) (k:T SV→T Ob→Pos→List SV→RC):RC:=RC.rec .no (fun x fr me nx ds=>X.rec (k fr me nx ds) (fun i=>.ok (.ext i) fr me nx ds) (.ok .ret fr me nx ds) (fun e=>.ok (.dL e) fr me nx ds) x) r
def blk (j:Nat) (r:RC):RC:=RC.rec .no (fun x fr me nx ds=>X.rec (.ok .pH fr me nx ds) (fun i=>bif Nat.beq i j then .ok .pH fr me nx ds else .ok (.ext i) fr me nx ds) (.ok .ret fr me nx ds) (fun e=>.ok (.dL e) fr me nx ds) x) r
def cnd (c:Option SV) (a b:RC):RC:=match c with
 | some (.b t)=>bif t then a else b
 | _=>.no
def XF (n:Nat) (body:T SV→T Ob→Pos→List SV→RC):T SV→T Ob→Pos→List SV→RC :=
 Nat.rec (fun _ _ _ _=>.no) (fun _ ih fr me nx ds=>thn (body fr me nx ds) ih) n
def code (cl:CL) (c:CC) (fr:T SV) (me:T Ob) (nx:Pos) (ds:List SV):RC :=
 CC.rec (motive:=fun _=>T SV→T Ob→Pos→List SV→RC) (fun fr me nx ds=>.ok .pH fr me nx ds) (fun l wb fr me nx ds=>rgn wb fr (ops cl fr l [] me nx ds)) (fun _ l wb fr me nx ds=>rgn wb fr (RD.rr (qI l) (kF cl fr l [] me nx ds)))
  (fun _ _ iha ihb fr me nx ds=>thn (iha fr me nx ds) ihb) (fun c _ _ iha ihb fr me nx ds=>cnd (on fr [] c) (iha fr me nx ds) (ihb fr me nx ds)) (fun i _ ih fr me nx ds=>blk i (ih fr me nx ds))
  (fun _ ih fr me nx ds=>XF 4096 ih fr me nx ds) (fun i fr me nx ds=>.ok (.ext i) fr me nx ds) (fun fr me nx ds=>.ok .ret fr me nx ds) c fr me nx ds
def F7 (r:A3) (fr:T SV) (me:T Ob):Option SV:=match r with
 | .t p=>T.get p fr
 | .c p n ag=>Option.rec none (fun v=>bif ag then EZ me n v else ldV me v) (T.get p fr)
def nt (v:SV):Bool:=match v with
 | .t _=>false
 | _=>true
def yD (rs:List A3) (fr:T SV) (me:T Ob):Option (List SV) :=
 List.rec (some []) (fun r _ ih=>Option.rec none (fun v=>bif nt v then Option.rec none (fun vs=>some (v::vs)) ih else none) (F7 r fr me)) rs
def tup (l:List SV):SV:=match l with
 | [v]=>v
 | l=>.t l
def ended (ds:List SV) (e:Option SV) (me:T Ob):Option (Option SV × T Ob) :=
 List.rec (motive:=fun _=>Option SV→T Ob→Option (Option SV × T Ob)) (fun e me=>some (e,me)) (fun d _ ih e me=>Option.rec (ih none me) (fun v=>match d,v with
  | .p i o,.i k n=>match T.get i me with
   | some (.c t cs)=>Option.rec none (fun cs=>ih none (T.put i (some (.c t cs)) me)) (iP o [.i k n] cs)
   | _=>none
  | _,_=>none) e) ds e me
def res (rs:List A3) (fr:T SV) (me:T Ob) (nx:Pos):RF:=Option.rec .no (fun vs=>.ret (tup vs) me nx) (yD rs fr me)
def leave (rs:List A3) (r:RC):RF:=RC.rec .no (fun x fr me nx ds=>X.rec
 (Option.rec .no (fun q=>res rs fr q.2 nx) (ended ds none me)) (fun _=>.no)
 (Option.rec .no (fun q=>res rs fr q.2 nx) (ended ds none me))
 (fun e=>Option.rec .no (fun q=>Option.rec (res rs fr q.2 nx) (fun e=>.dL e q.2 nx) q.1) (ended ds (some e) me)) x) r
def args (vs:List SV) (p:Pos) (fr:T SV):T SV :=
 List.rec (motive:=fun _=>Pos→T SV→T SV) (fun _ fr=>fr) (fun v _ ih p fr=>ih p.succ (T.put p (some v) fr)) vs p fr
def runK (cl:CL) (cf:CF) (vs:List SV) (me:T Ob) (nx:Pos):RF:=bif Nat.beq (len vs) cf.np then leave cf.res (code cl cf.body (args vs .h .e) me nx []) else .no
end
noncomputable section
theorem Pos.jX (p:Pos):(Pos.o p).nat=2 * p.nat:=rfl
theorem Pos.jY (p:Pos):(Pos.i p).nat=2 * p.nat + 1:=rfl
theorem Pos.gR:∀ (p:Pos),0 < p.nat
 | .h=>Nat.one_pos
 | .o p=>by have:=Pos.gR p; rw [Pos.jX]; omega
 | .i p=>by rw [Pos.jY]; omega
theorem aCd:∀ {p q:Pos},p.nat=q.nat→p=q
 | .h,.h,_=>rfl
 | .h,.o q,h=>by have:=Pos.gR q; rw [Pos.jX] at h; have:Pos.h.nat=1:=rfl; omega
 | .h,.i q,h=>by have:=Pos.gR q; rw [Pos.jY] at h; have:Pos.h.nat=1:=rfl; omega
 | .o p,.h,h=>by have:=Pos.gR p; rw [Pos.jX] at h; have:Pos.h.nat=1:=rfl; omega
 | .i p,.h,h=>by have:=Pos.gR p; rw [Pos.jY] at h; have:Pos.h.nat=1:=rfl; omega
 | .o p,.o q,h=>by rw [Pos.jX,Pos.jX] at h; rw [aCd (p:=p) (q:=q) (by omega)]
 | .i p,.i q,h=>by rw [Pos.jY,Pos.jY] at h; rw [aCd (p:=p) (q:=q) (by omega)]
 | .o p,.i q,h=>by rw [Pos.jX,Pos.jY] at h; omega
 | .i p,.o q,h=>by rw [Pos.jX,Pos.jY] at h; omega
theorem Pos.bW:∀ (p:Pos),p.succ.nat=p.nat + 1
 | .h=>rfl
 | .o p=>rfl
 | .i p=>by show 2 * p.succ.nat=2 * p.nat + 1 + 1; rw [Pos.bW p]; omega
instance:DecidableEq Pos:=fun p q=>if h:p.nat=q.nat then .isTrue (aCd h) else .isFalse fun e=>h (by rw [e])
section
variable {α:Type}
def T.iV:T α→List (Pos × α)
 | .e=>[]
 | .n l v r=>(match v with | some x=>[(Pos.h,x)] | none=>[])++(l.iV.map fun q=>(Pos.o q.1,q.2))++(r.iV.map fun q=>(Pos.i q.1,q.2))
theorem T.eS (x:Option α):∀ (p:Pos) (t:T α),T.get p (T.put p x t)=x
 | .h,.e=>rfl
 | .h,.n _ _ _=>rfl
 | .o p,.e=>T.eS x p .e
 | .o p,.n l _ _=>T.eS x p l
 | .i p,.e=>T.eS x p .e
 | .i p,.n _ _ r=>T.eS x p r
theorem T.nS:∀ (p:Pos),T.get p (.e:T α)=none
 | .h=>rfl
 | .o _=>rfl
 | .i _=>rfl
theorem T.bO (x:Option α):∀ (p q:Pos) (t:T α),q≠p→T.get q (T.put p x t)=T.get q t
 | .h,.h,_,h=>(h rfl).elim
 | .h,.o q,.e,_=>T.nS q
 | .h,.i q,.e,_=>T.nS q
 | .h,.o _,.n _ _ _,_=>rfl
 | .h,.i _,.n _ _ _,_=>rfl
 | .o p,.h,.e,_=>rfl
 | .o p,.h,.n _ _ _,_=>rfl
 | .o p,.o q,.e,h=>(T.bO x p q .e (fun e=>h (by rw [e]))).trans (T.nS q)
 | .o p,.o q,.n l _ _,h=>T.bO x p q l (fun e=>h (by rw [e]))
 | .o p,.i q,.e,_=>T.nS q
 | .o p,.i q,.n _ _ _,_=>rfl
 | .i p,.h,.e,_=>rfl
 | .i p,.h,.n _ _ _,_=>rfl
 | .i p,.i q,.e,h=>(T.bO x p q .e (fun e=>h (by rw [e]))).trans (T.nS q)
 | .i p,.i q,.n _ _ r,h=>T.bO x p q r (fun e=>h (by rw [e]))
 | .i p,.o q,.e,_=>T.nS q
 | .i p,.o q,.n _ _ _,_=>rfl
theorem T.wY:∀ (p:Pos),(T.put p none (.e:T α)).iV=[]
 | .h=>rfl
 | .o p=>by show _++((T.put p none (.e:T α)).iV.map _)++_=_; rw [T.wY p]; rfl
 | .i p=>by show _++_++((T.put p none (.e:T α)).iV.map _)=_; rw [T.wY p]; rfl
theorem T.mE (x:α):∀ (p:Pos) (t:T α),(T.put p (some x) t).iV.Perm ((p,x)::(T.put p none t).iV)
 | .h,.e=>List.Perm.refl _
 | .h,.n l v r=>by show (([(Pos.h,x)]++_)++_).Perm ((Pos.h,x)::(([]++_)++_)); simp
 | .o p,.e=>by
  show (([]++(T.put p (some x) (.e:T α)).iV.map _)++[]).Perm ((Pos.o p,x)::(([]++(T.put p none (.e:T α)).iV.map _)++[]));simpa using (T.mE x p .e).map (fun q=>(Pos.o q.1,q.2))
 | .o p,.n l v r=>by
  have h:=(T.mE x p l).map (fun q=>(Pos.o q.1,q.2));simp only [List.map_cons] at h;exact ((h.append_left _).append_right _).trans ((List.perm_middle).append_right _)
 | .i p,.e=>by
  show (([]++[])++(T.put p (some x) (.e:T α)).iV.map _).Perm ((Pos.i p,x)::(([]++[])++(T.put p none (.e:T α)).iV.map _));simpa using (T.mE x p .e).map (fun q=>(Pos.i q.1,q.2))
 | .i p,.n l v r=>by
  have h:=(T.mE x p r).map (fun q=>(Pos.i q.1,q.2));simp only [List.map_cons] at h;exact (h.append_left _).trans List.perm_middle
theorem T.qO {x:α}:∀ {p:Pos} {t:T α},T.get p t=some x→t.iV.Perm ((p,x)::(T.put p none t).iV)
 | .h,.e,h=>by cases h
 | .h,.n l v r,h=>by
  have h':v=some x:=h;subst h';show (([(Pos.h,x)]++_)++_).Perm ((Pos.h,x)::(([]++_)++_)); simp
 | .o p,.e,h=>by cases h
 | .i p,.e,h=>by cases h
 | .o p,.n l v r,h=>by
  have h:=(T.qO (p:=p) (t:=l) h).map (fun q=>(Pos.o q.1,q.2));simp only [List.map_cons] at h;exact ((h.append_left _).append_right _).trans ((List.perm_middle).append_right _)
 | .i p,.n l v r,h=>by
  have h:=(T.qO (p:=p) (t:=r) h).map (fun q=>(Pos.i q.1,q.2));simp only [List.map_cons] at h;exact (h.append_left _).trans List.perm_middle
theorem T.sG:∀ {p:Pos} {t:T α},T.get p t=none→(T.put p none t).iV=t.iV
 | p,.e,_=>T.wY p
 | .h,.n l v r,h=>by have h':v=none:=h; subst h'; rfl
 | .o p,.n l v r,h=>by
  have:=T.sG (p:=p) (t:=l) h;show _++((T.put p none l).iV.map _)++_=_;rw [this]; rfl
 | .i p,.n l v r,h=>by
  have:=T.sG (p:=p) (t:=r) h;show _++_++((T.put p none r).iV.map _)=_;rw [this]; rfl
end
structure G where
 fQ:Pos→Option (Nat × Nat)
 w:Nat
 n:Nat
 hw:w < 256
 hn:n < 256
def G.BO (g:G) (m:Nat):Nat:=if m=0 then g.w % 7 else g.n % m
theorem G.O5 (g:G) (m:Nat):g.BO m < 256:=by
 unfold G.BO;split
 ·have:=Nat.mod_lt g.w (show 0 < 7 by decide); omega
 have:=Nat.mod_le g.n m; have:=g.hn; omega
def cA:Nat→Nat→List UInt8
 | 0,_=>[]
 | n + 1,v=>cA n (v / 256)++[UInt8.ofNat (v % 256)]
def dD (n v:Nat):ByteArray:=⟨(cA n v).toArray⟩
def aI (g:G):SV→Option Value
 | .i k n=>some (.int k n)
 | .b x=>some (.bool x)
 | .s n v=>if v < 256 ^ n then some (.string (dD n v)) else none
 | .p i o=>(g.fQ i).map fun q=>.pointer (some ⟨q.1,o,none⟩)
 | .g b o=>some (.pointer (some ⟨b,o,none⟩))
 | .pn=>some (.pointer none)
 | .sl i o n c=>(g.fQ i).map fun q=>.slice (some ⟨q.1,o,none⟩) n c
 | .sr i n=>(g.fQ i).map fun q=>.slice (some ⟨q.1,0,none⟩) n q.2
 | .sn=>some (.slice none 0 0)
 | .m i=>(g.fQ i).map fun q=>.map (some q.1)
 | .mn=>some (.map none)
 | .fn=>some .nilFunc
 | .ni=>some .nilIface
 | .w k a b=>if (a=7∨g.w % 7=a)∧(b=4∨g.w % 4=b) then some (.int k g.w) else none
 | .y k=>some (.int k g.n)
 | .z m d=>some (.int .i64 ((d + g.BO m:Nat):Int))
 | .q i=>(g.fQ i).map fun q=>.int .i64 (q.1:Int)
 | _=>none
def aF (d:SV→Option Value):List SV→Option (List Value)
 | []=>some []
 | x::r=>match d x,aF d r with
  | some v,some vs=>some (v::vs)
  | _,_=>none
def aE (g:G):SV→Option Value
 | .f fn us cs=>match aF (aI g) us,aF (aI g) cs with
  | some us,some cs=>some (.func (.func (fn.nat - 1)) us.toArray cs.toArray)
  | _,_=>none
 | v=>aI g v
def aT (g:G):SV→Option Value
 | .a l=>(aF (aE g) l).map fun vs=>.agg vs.toArray
 | v=>aE g v
def den (g:G):SV→Option Value
 | .t l=>(aF (aT g) l).map fun vs=>.tuple vs.toArray
 | v=>aT g v
def G.le (g g':G):Prop:=g'.w=g.w∧g'.n=g.n∧∀ i q,g.fQ i=some q→g'.fQ i=some q
def G.fresh (g:G) (nx:Pos):Prop:=∀ i,nx.nat≤i.nat→g.fQ i=none
def G.ext (g g':G) (nx:Pos):Prop:=g'.w=g.w∧g'.n=g.n∧∀ i,i.nat < nx.nat→g'.fQ i=g.fQ i
def G.set (g:G) (i:Pos) (q:Nat × Nat):G:={ g with fQ:=fun j=>if j=i then some q else g.fQ j }
section
variable {g g' g'':G} {nx nx':Pos}
theorem G.le.refl (g:G):g.le g:=⟨rfl,rfl,fun _ _ h=>h⟩
theorem G.le.trans (h:g.le g') (h':g'.le g''):g.le g'':=⟨h'.1.trans h.1,h'.2.1.trans h.2.1,fun i q e=>h'.2.2 i q (h.2.2 i q e)⟩
theorem G.ext.refl (g:G) (nx:Pos):g.ext g nx:=⟨rfl,rfl,fun _ _=>rfl⟩
theorem G.ext.trans (h:g.ext g' nx) (h':g'.ext g'' nx') (hn:nx.nat≤nx'.nat):g.ext g'' nx:=⟨h'.1.trans h.1,h'.2.1.trans h.2.1,fun i hi=>(h'.2.2 i (Nat.lt_of_lt_of_le hi hn)).trans (h.2.2 i hi)⟩
theorem G.ext.le (h:g.ext g' nx) (hf:g.fresh nx):g.le g':=⟨h.1,h.2.1,fun i q e=>by
 rcases Nat.lt_or_ge i.nat nx.nat with hl | hl
 ·rw [h.2.2 i hl]; exact e
 rw [hf i hl] at e; cases e⟩
theorem G.bX (g:G) (nx:Pos) (q:Nat × Nat):g.ext (g.set nx q) nx:=⟨rfl,rfl,fun i hi=>by
 show (if i=nx then some q else g.fQ i)=_;rw [if_neg (fun e=>by subst e; omega)]⟩
theorem G.aY (hf:g.fresh nx) (q:Nat × Nat):(g.set nx q).fresh nx.succ:=fun i hi=>by
 rw [Pos.bW] at hi;show (if i=nx then some q else g.fQ i)=_;rw [if_neg (fun e=>by subst e; omega)];exact hf i (by omega)
theorem G.bL (g:G) (nx:Pos) (q:Nat × Nat):(g.set nx q).fQ nx=some q:=if_pos rfl
theorem G.fresh.mono (h:g.fresh nx) (hn:nx.nat≤nx'.nat):g.fresh nx':=fun i hi=>h i (Nat.le_trans hn hi)
theorem cS {d d':SV→Option Value} (h:∀ x v,d x=some v→d' x=some v):∀ {l:List SV} {vs:List Value},aF d l=some vs→aF d' l=some vs
 | [],vs,e=>e
 | x::r,vs,e=>by
  simp only [aF] at e ⊢;cases h1:d x with
  | none=>simp [h1] at e
  | some v =>
   cases h2:aF d r with
   | none=>simp [h1,h2] at e
   | some us=>rw [h x v h1,cS h h2]; simpa [h1,h2] using e
theorem sR (h:g.le g') (x:SV) (v:Value) (e:aI g x=some v):aI g' x=some v:=by
 obtain ⟨h1,h2,h3⟩:=h;cases x with
 | p i o=>simp only [aI] at e ⊢; cases hr:g.fQ i with
  | none=>simp [hr] at e
  | some q=>rw [hr] at e; rw [h3 i q hr]; exact e
 | sl i o n c=>simp only [aI] at e ⊢; cases hr:g.fQ i with
  | none=>simp [hr] at e
  | some q=>rw [hr] at e; rw [h3 i q hr]; exact e
 | sr i n=>simp only [aI] at e ⊢; cases hr:g.fQ i with
  | none=>simp [hr] at e
  | some q=>rw [hr] at e; rw [h3 i q hr]; exact e
 | m i=>simp only [aI] at e ⊢; cases hr:g.fQ i with
  | none=>simp [hr] at e
  | some q=>rw [hr] at e; rw [h3 i q hr]; exact e
 | q i=>simp only [aI] at e ⊢; cases hr:g.fQ i with
  | none=>simp [hr] at e
  | some q=>rw [hr] at e; rw [h3 i q hr]; exact e
 | w k a b=>simp only [aI] at e ⊢; rw [h1]; exact e
 | y k=>simp only [aI] at e ⊢; rw [h2]; exact e
 | z m d=>simp only [aI,G.BO] at e ⊢; rw [h1,h2]; exact e
 | _=>exact e
theorem fJ (h:g.le g') (x:SV) (v:Value) (e:aE g x=some v):aE g' x=some v:=by
 cases x with
 | f fn us cs =>
  simp only [aE] at e ⊢;cases h1:aF (aI g) us with
  | none=>simp [h1] at e
  | some us' =>
   cases h2:aF (aI g) cs with
   | none=>simp [h1,h2] at e
   | some cs'=>rw [cS (sR h) h1,cS (sR h) h2]; simpa [h1,h2] using e
 | _=>simp only [aE] at e ⊢; exact sR h _ v e
theorem nD (h:g.le g') (x:SV) (v:Value) (e:aT g x=some v):aT g' x=some v:=by
 cases x with
 | a l =>
  simp only [aT] at e ⊢;cases h1:aF (aE g) l with
  | none=>simp [h1] at e
  | some us=>rw [cS (fJ h) h1]; simpa [h1] using e
 | _=>simp only [aT] at e ⊢; exact fJ h _ v e
theorem dS (h:g.le g') (x:SV) (v:Value) (e:den g x=some v):den g' x=some v:=by
 cases x with
 | t l =>
  simp only [den] at e ⊢;cases h1:aF (aT g) l with
  | none=>simp [h1] at e
  | some us=>rw [cS (nD h) h1]; simpa [h1] using e
 | _=>simp only [den] at e ⊢; exact nD h _ v e
end
def lL (t:Tm) (c:Nat):Prop:=∃ kind sl sv n a b d:Nat,t=⟨kind,dD sl sv,n,a,b,d⟩∧sv < 256 ^ sl∧kind < 16∧kind≠0∧a < 2097152∧b < 2097152∧d < 2097152∧n < 18446744073709551616∧sl < 1024 ∧
 c=kind + 16 * (a + 2097152 * (b + 2097152 * (d + 2097152 * (n + 18446744073709551616 * (sl + 1024 * sv)))))
inductive fK (F:Option (List Nat)):List Nat→List Tm→Prop
 | nil:fK F [] []
 | known {c t r l} (h:lL t c) (hs:fK F r l):fK F (c::r) (t::l)
 | junk {t r l L} (hF:F=some L) (h:∀ c∈L,¬ lL t c) (hs:fK F r l):fK F (0::r) (t::l)
def aC (k:IntKind) (n:Int):Value:=bif EV.kN k .u16 then .agg #[.int .i64 (n.fdiv 4294967296),.int .i64 (n.fmod 4294967296)] else .int k n
theorem CB {k:IntKind} (h:EV.kN k .u16=false) (n:Int):aC k n=.int k n:=by unfold aC; rw [h]; rfl
def aX (g:G):List (Int × SV)→Option (List (Int × Value))
 | []=>some []
 | (k,x)::r=>match aT g x,aX g r with
  | some v,some vs=>some ((k,v)::vs)
  | _,_=>none
def aBt (n:Nat) (seen:Array Nat) (es:Array MapEntry):Prop:=match n with
 | 0=>seen=#[]
 | _=>∃ s,seen=(#[]:Array Nat).push s∧∀ e∈es.toList,e.born=s
def Mit (b c:Nat) (n:Nat) (k:IntKind) (aD:List (Int × Value)):aA where
 is W F:=(b≠c∧∃ es ck since seen c0,W.heap[b]?=some (.map es ck)∧W.heap[c]?=some (.mapIter (some b) since seen c0)∧cX (aC k) aD es ck∧(∀ e∈es.toList,e.born < since)∧since≤c0∧c0=ck∧aBt n seen es)∧∀ x,F x↔(x=b∨x=c)
 lt W F h x hx:=by
  obtain ⟨⟨_,es,ck,since,seen,c0,h1,h2,_⟩,h3⟩:=h;rcases (h3 x).1 hx with rfl | rfl
  ·rcases Nat.lt_or_ge x W.heap.size with h2 | h2
   ·exact h2
   rw [Array.getElem?_eq_none h2] at h1; cases h1
  rcases Nat.lt_or_ge x W.heap.size with h4 | h4
  ·exact h4
  rw [Array.getElem?_eq_none h4] at h2; cases h2
 keep W W' F h e:=by
  obtain ⟨⟨hn,es,ck,since,seen,c0,h1,h2,hr⟩,h3⟩:=h;exact ⟨⟨hn,es,ck,since,seen,c0,(e b ((h3 b).2 (.inl rfl))).trans h1,(e c ((h3 c).2 (.inr rfl))).trans h2,hr⟩,h3⟩
def Men (b born:Nat) (k:IntKind) (n:Int) (aD:List (Int × Value)):aA where
 is W F:=(∃ es ck j u,W.heap[b]?=some (.map es ck)∧cX (aC k) aD es ck∧aM n aD 0=some (j,u)∧(es[j]?).map (·.born)=some born)∧∀ x,F x↔x=b
 lt W F h x hx:=by
  rw [(h.2 x).1 hx];obtain ⟨⟨es,ck,j,u,hb,_⟩,_⟩:=h;rcases Nat.lt_or_ge b W.heap.size with h2 | h2
  ·exact h2
  rw [Array.getElem?_eq_none h2] at hb; cases hb
 keep W W' F h e:=⟨by obtain ⟨⟨es,ck,j,u,hb,h2⟩,h3⟩:=h; exact ⟨es,ck,j,u,(e b ((h3 b).2 rfl)).trans hb,h2⟩,h.2⟩
def Ro (b:Nat) (xs:List Value):aA where
 is W F:=(∃ C e f,W.heap[b]?=some (.cells C e f)∧∀ (j:Nat) (v:Value),xs[j]?=some v→C[j]?=some v)∧∀ x,F x↔x=b
 lt W F h x hx:=by
  rw [(h.2 x).1 hx];obtain ⟨⟨C,e,f,hb,_⟩,_⟩:=h;rcases Nat.lt_or_ge b W.heap.size with h2 | h2
  ·exact h2
  rw [Array.getElem?_eq_none h2] at hb; cases hb
 keep W W' F h e:=⟨by obtain ⟨⟨C,s,n,hb,h2⟩,h3⟩:=h; exact ⟨C,s,n,(e b ((h3 b).2 rfl)).trans hb,h2⟩,h.2⟩
def Si (b:Nat) (s:ByteArray) (pos:Nat):aA where
 is W F:=W.heap[b]?=some (.stringIter s pos)∧∀ x,F x↔x=b
 lt W F h x hx:=by
  rw [(h.2 x).1 hx];rcases Nat.lt_or_ge b W.heap.size with h2 | h2
  ·exact h2
  have:=h.1; rw [Array.getElem?_eq_none h2] at this; cases this
 keep W W' F h e:=⟨(e b ((h.2 b).2 rfl)).trans h.1,h.2⟩
def OT (g:G) (i:Pos):Ob→aA
 | .c t cs=>lD fun x:Nat × Nat × List Value=>(Fact (g.fQ i=some (x.1,x.2.1)∧aF (aE g) cs=some x.2.2)).both (Bk x.1 t x.2.2)
 | .r t z cs=>lD fun x:Nat × Nat × List Value × Nat=>(Fact (g.fQ i=some (x.1,x.2.1)∧aF (aE g) cs=some x.2.2.1)).both (Rw t z (.slice (some ⟨x.1,0,none⟩) x.2.2.2 x.2.1) x.2.2.2 x.2.2.1)
 | .m k aD=>lD fun x:Nat × Nat × List (Int × Value) × List (Int × Value)=>(Fact (g.fQ i=some (x.1,x.2.1)∧aX g aD=some x.2.2.1∧x.2.2.2.Perm x.2.2.1∧(aD.map (·.1)).Nodup)).both (Mp (aC k) x.1 x.2.2.2)
 | .it m=>lD fun x:Nat × Nat=>Fact (g.fQ i=some x)
 | .mi j n k aD=>lD fun x:Nat × Nat × Nat × Nat × List (Int × Value) × List (Int × Value)=>(Fact (g.fQ i=some (x.1,x.2.1)∧g.fQ j=some (x.2.2.1,x.2.2.2.1)∧aX g aD=some x.2.2.2.2.1∧x.2.2.2.2.2.Perm x.2.2.2.2.1∧(aD.map (·.1)).Nodup)).both (Mit x.1 x.2.2.1 n k x.2.2.2.2.2)
 | .me j k n aD=>lD fun x:Nat × Nat × Nat × Nat × List (Int × Value) × List (Int × Value)=>(Fact (g.fQ i=some (x.1,x.2.1)∧g.fQ j=some (x.2.2.1,x.2.2.2.1)∧aX g aD=some x.2.2.2.2.1∧x.2.2.2.2.2.Perm x.2.2.2.2.1∧(aD.map (·.1)).Nodup)).both (Men x.1 x.2.2.1 k n x.2.2.2.2.2)
 | .ro t cs=>lD fun x:Nat × Nat × List Value=>(Fact (g.fQ i=some (x.1,x.2.1)∧aF (aE g) cs=some x.2.2)).both (Ro x.1 x.2.2)
 | .si n v pos=>lD fun x:Nat × Nat=>(Fact (g.fQ i=some x∧v < 256 ^ n)).both (Si x.1 (dD n v) pos)
 | .st n rev most F=>lD fun x:Nat × Nat × List Tm=>(Fact (g.fQ i=some (x.1,x.2.1)∧fK F rev x.2.2.reverse∧x.2.2.length=n∧most≤65536)).both (St x.1 x.2.2 most)
def mem (g:G) (me:T Ob):List aA:=me.iV.map fun q=>OT g q.1 q.2
theorem gN {g g':G} (h:g.le g'):∀ {l:List (Int × SV)} {vs},aX g l=some vs→aX g' l=some vs
 | [],vs,e=>e
 | (k,x)::r,vs,e=>by
  simp only [aX] at e ⊢;cases h1:aT g x with
  | none=>simp [h1] at e
  | some v =>
   cases h2:aX g r with
   | none=>simp [h1,h2] at e
   | some us=>rw [nD h x v h1,gN h h2]; simpa [h1,h2] using e
theorem X4 {g g':G} (h:g.le g') (i:Pos) (o:Ob) (W:World) (F:Nat→Prop) (k:(OT g i o).is W F):(OT g' i o).is W F:=by
 cases o with
 | c t cs =>
  obtain ⟨x,A,C,⟨⟨h1,h2⟩,h3⟩,k2⟩:=k;exact ⟨x,A,C,⟨⟨h.2.2 _ _ h1,cS (fJ h) h2⟩,h3⟩,k2⟩
 | r t z cs =>
  obtain ⟨x,A,C,⟨⟨h1,h2⟩,h3⟩,k2⟩:=k;exact ⟨x,A,C,⟨⟨h.2.2 _ _ h1,cS (fJ h) h2⟩,h3⟩,k2⟩
 | m kk aD =>
  obtain ⟨x,A,C,⟨⟨h1,h2,h4⟩,h3⟩,k2⟩:=k;exact ⟨x,A,C,⟨⟨h.2.2 _ _ h1,gN h h2,h4⟩,h3⟩,k2⟩
 | it m =>
  obtain ⟨x,h1,k2⟩:=k;exact ⟨x,h.2.2 _ _ h1,k2⟩
 | mi j n kk aD =>
  obtain ⟨x,A,C,⟨⟨h1,h1',h2,h4⟩,h3⟩,k2⟩:=k;exact ⟨x,A,C,⟨⟨h.2.2 _ _ h1,h.2.2 _ _ h1',gN h h2,h4⟩,h3⟩,k2⟩
 | me j kk n aD =>
  obtain ⟨x,A,C,⟨⟨h1,h1',h2,h4⟩,h3⟩,k2⟩:=k;exact ⟨x,A,C,⟨⟨h.2.2 _ _ h1,h.2.2 _ _ h1',gN h h2,h4⟩,h3⟩,k2⟩
 | ro t cs =>
  obtain ⟨x,A,C,⟨⟨h1,h2⟩,h3⟩,k2⟩:=k;exact ⟨x,A,C,⟨⟨h.2.2 _ _ h1,cS (fJ h) h2⟩,h3⟩,k2⟩
 | si n v pos =>
  obtain ⟨x,A,C,⟨⟨h1,h2⟩,h3⟩,k2⟩:=k;exact ⟨x,A,C,⟨⟨h.2.2 _ _ h1,h2⟩,h3⟩,k2⟩
 | st n rev most F' =>
  obtain ⟨x,A,C,⟨⟨h1,h2⟩,h3⟩,k2⟩:=k;exact ⟨x,A,C,⟨⟨h.2.2 _ _ h1,h2⟩,h3⟩,k2⟩
theorem qX.imp {B:Nat} {W:World} {α:Type} {f f':α→aA} {R:List aA} (h:∀ a F,(f a).is W F→(f' a).is W F):∀ {l:List α} {F:Nat→Prop},qX B W (l.map f++R) F→qX B W (l.map f'++R) F
 | [],F,k=>k
 | a::l,F,⟨A,k1,k2,k3⟩=>⟨A,h a A k1,k2,qX.imp h k3⟩
section
variable {g g':G} {me:T Ob} {W0 W:World} {R:List aA} {i:Pos} {o:Ob}
theorem gY (h:g.le g') (k:aB W0 W (mem g me++R)):aB W0 W (mem g' me++R) :=
 ⟨k.1,qX.imp (f:=fun q:Pos × Ob=>OT g q.1 q.2) (f':=fun q=>OT g' q.1 q.2) (fun q F hk=>X4 h q.1 q.2 W F hk) k.2⟩
theorem MB (h:T.get i me=some o):(mem g me).Perm (OT g i o::mem g (T.put i none me)):=by
 have:=(T.qO h).map (fun q:Pos × Ob=>OT g q.1 q.2);exact this
theorem BQ:(mem g (T.put i (some o) me)).Perm (OT g i o::mem g (T.put i none me)):=by
 have:=(T.mE o i me).map (fun q:Pos × Ob=>OT g q.1 q.2);exact this
theorem wF (h:T.get i me=none):mem g (T.put i none me)=mem g me:=by unfold mem; rw [T.sG h]
theorem fO (k:aB W0 W (mem g me++R)) (h:T.get i me=some o):aB W0 W (OT g i o::(mem g (T.put i none me)++R)) :=
 k.perm ((MB h).append_right R)
theorem jA (k:aB W0 W (OT g i o::(mem g (T.put i none me)++R))):aB W0 W (mem g (T.put i (some o) me)++R) :=
 k.perm ((BQ (g:=g) (me:=me)).symm.append_right R)
theorem wE (k:aB W0 W (OT g i o::(mem g me++R))) (h:T.get i me=none):aB W0 W (mem g (T.put i (some o) me)++R):=by
 rw [← wF h] at k;exact jA k
end
end
noncomputable section
section
variable {α:Type}
theorem hZ:∀ (l:List α) (i:Nat),nth l i=l[i]?
 | [],_=>rfl
 | x::r,0=>rfl
 | x::r,i + 1=>by show nth r i=_; rw [hZ r i]; simp
theorem oS:∀ (n:Nat) (l r:List α),front n l=some r→r=l.take n∧n≤l.length
 | 0,l,r,h=>by have h':some []=some r:=h; injection h' with h'; subst h'; simp
 | n + 1,[],r,h=>by cases h
 | n + 1,x::l,r,h=>by
  have h':Option.rec (motive:=fun _=>Option (List α)) none (fun r=>some (x::r)) (front n l)=some r:=h;cases hf:front n l with
  | none=>rw [hf] at h'; cases h'
  | some q =>
   rw [hf] at h';have h2:x::q=r:=by injection h'
   obtain ⟨h3,h4⟩:=oS n l q hf;subst h2; subst h3;exact ⟨by simp,by simp; omega⟩
theorem AT:∀ (n:Nat) (l r:List α),back n l=some r→r=l.drop n∧n≤l.length
 | 0,l,r,h=>by have h':some l=some r:=h; injection h' with h'; subst h'; simp
 | n + 1,[],r,h=>by cases h
 | n + 1,x::l,r,h=>by
  have h':back n l=some r:=h;obtain ⟨h3,h4⟩:=AT n l r h';exact ⟨by simp [h3],by simp; omega⟩
theorem FC:∀ (vs l r:List α),lay vs l=some r→r=vs++l.drop vs.length∧vs.length≤l.length
 | [],l,r,h=>by have h':some l=some r:=h; injection h' with h'; subst h'; simp
 | v::vs,[],r,h=>by cases h
 | v::vs,x::l,r,h=>by
  have h':Option.rec (motive:=fun _=>Option (List α)) none (fun r=>some (v::r)) (lay vs l)=some r:=h;cases hf:lay vs l with
  | none=>rw [hf] at h'; cases h'
  | some q =>
   rw [hf] at h';have h2:v::q=r:=by injection h'
   obtain ⟨h3,h4⟩:=FC vs l q hf;subst h2; subst h3;exact ⟨by simp,by simp; omega⟩
theorem iO:∀ (n:Nat) (vs l r:List α),iP n vs l=some r→r=l.take n++vs++l.drop (n + vs.length)∧n + vs.length≤l.length
 | 0,vs,l,r,h=>by
  obtain ⟨h1,h2⟩:=FC vs l r h;exact ⟨by simp [h1],by omega⟩
 | n + 1,vs,[],r,h=>by cases h
 | n + 1,vs,x::l,r,h=>by
  have h':Option.rec (motive:=fun _=>Option (List α)) none (fun r=>some (x::r)) (iP n vs l)=some r:=h;cases hf:iP n vs l with
  | none=>rw [hf] at h'; cases h'
  | some q =>
   rw [hf] at h';have h2:x::q=r:=by injection h'
   obtain ⟨h3,h4⟩:=iO n vs l q hf;subst h2; subst h3;refine ⟨?_,by simp; omega⟩;rw [show n + 1 + vs.length=(n + vs.length) + 1 by omega]; simp
theorem pA:∀ (l m:List α),app l m=l++m
 | [],m=>rfl
 | x::l,m=>by show x::app l m=_; rw [pA l m]; rfl
theorem len_eq:∀ (l:List α),len l=l.length
 | []=>rfl
 | x::l=>by show Nat.succ (len l)=_; rw [len_eq l]; rfl
theorem pM {o n:Nat} {l r:List α} (h:Option.rec (motive:=fun _=>Option (List α)) none (fun r=>front n r) (back o l)=some r):r=(l.drop o).take n∧o + n≤l.length:=by
 cases hb:back o l with
 | none=>rw [hb] at h; cases h
 | some q =>
  rw [hb] at h;obtain ⟨h1,h2⟩:=AT o l q hb;obtain ⟨h3,h4⟩:=oS n q r h;subst h1; subst h3;exact ⟨rfl,by simp at h4; omega⟩
end
section
variable {d:SV→Option Value}
theorem cF:∀ {l:List SV} {xs:List Value},aF d l=some xs→xs.length=l.length
 | [],xs,h=>by simp [aF] at h; subst h; rfl
 | x::r,xs,h=>by
  simp only [aF] at h;cases h1:d x with
  | none=>simp [h1] at h
  | some v =>
   cases h2:aF d r with
   | none=>simp [h1,h2] at h
   | some us=>simp [h1,h2] at h; subst h; simp [cF h2]
theorem aK {x:SV} {r:List SV} {xs:List Value} (h:aF d (x::r)=some xs):∃ v us,d x=some v∧aF d r=some us∧xs=v::us:=by
 simp only [aF] at h;cases h1:d x with
 | none=>simp [h1] at h
 | some v =>
  cases h2:aF d r with
  | none=>simp [h1,h2] at h
  | some us=>simp [h1,h2] at h; exact ⟨v,us,rfl,rfl,h.symm⟩
theorem bT {x:SV} {r:List SV} {v:Value} {us:List Value} (h1:d x=some v) (h2:aF d r=some us):aF d (x::r)=some (v::us):=by simp [aF,h1,h2]
theorem gZ:∀ {l:List SV} {xs:List Value} {i:Nat} {x:SV},aF d l=some xs→l[i]?=some x→∃ v,xs[i]?=some v∧d x=some v
 | [],xs,i,x,h,hi=>by simp at hi
 | y::r,xs,i,x,h,hi=>by
  obtain ⟨v,us,h1,h2,rfl⟩:=aK h;cases i with
  | zero=>simp at hi; subst hi; exact ⟨v,by simp,h1⟩
  | succ j=>simp at hi; obtain ⟨w,h3,h4⟩:=gZ h2 hi; exact ⟨w,by simpa using h3,h4⟩
theorem cY:∀ {l m:List SV} {xs ys:List Value},aF d l=some xs→aF d m=some ys→aF d (l++m)=some (xs++ys)
 | [],m,xs,ys,h,h'=>by simp [aF] at h; subst h; simpa using h'
 | x::r,m,xs,ys,h,h'=>by
  obtain ⟨v,us,h1,h2,rfl⟩:=aK h;exact bT h1 (cY h2 h')
theorem eG:∀ {l:List SV} {xs:List Value} (n:Nat),aF d l=some xs→aF d (l.take n)=some (xs.take n)
 | l,xs,0,h=>by simp [aF]
 | [],xs,n + 1,h=>by simp [aF] at h; subst h; simp [aF]
 | x::r,xs,n + 1,h=>by
  obtain ⟨v,us,h1,h2,rfl⟩:=aK h;simpa using bT h1 (eG n h2)
theorem fG:∀ {l:List SV} {xs:List Value} (n:Nat),aF d l=some xs→aF d (l.drop n)=some (xs.drop n)
 | l,xs,0,h=>by simpa using h
 | [],xs,n + 1,h=>by simp [aF] at h; subst h; simp [aF]
 | x::r,xs,n + 1,h=>by
  obtain ⟨v,us,h1,h2,rfl⟩:=aK h;simpa using fG n h2
end
section
variable {g:G}
theorem ZG {x:SV} {v:Value} (h:aI g x=some v):aE g x=some v:=by
 cases x <;> first | exact h | (simp [aI] at h; done)
theorem aFj {x:SV} {v:Value} (h:aE g x=some v):aT g x=some v:=by
 cases x <;> first | exact h | (simp [aE,aI] at h; done)
theorem xC {x:SV} {v:Value} (h:aT g x=some v):den g x=some v:=by
 cases x <;> first | exact h | (simp [aT,aE,aI] at h; done)
theorem xD {x:SV} {v:Value} (h:aE g x=some v):den g x=some v:=xC (aFj h)
theorem JY {x:SV} {v:Value} (h:aI g x=some v):den g x=some v:=xD (ZG h)
theorem GH {x:SV} {v:Value} (h:aE g x=some v):Y7 v=true:=by
 cases x with
 | f fn us cs =>
  simp only [aE] at h;cases h1:aF (aI g) us with
  | none=>simp [h1] at h
  | some us'=>cases h2:aF (aI g) cs with
   | none=>simp [h1,h2] at h
   | some cs'=>simp [h1,h2] at h; subst h; rfl
 | p i o=>simp only [aE,aI,Option.map_eq_some_iff] at h; obtain ⟨q,_,rfl⟩:=h; rfl
 | sl i o n c=>simp only [aE,aI,Option.map_eq_some_iff] at h; obtain ⟨q,_,rfl⟩:=h; rfl
 | sr i n=>simp only [aE,aI,Option.map_eq_some_iff] at h; obtain ⟨q,_,rfl⟩:=h; rfl
 | m i=>simp only [aE,aI,Option.map_eq_some_iff] at h; obtain ⟨q,_,rfl⟩:=h; rfl
 | q i=>simp only [aE,aI,Option.map_eq_some_iff] at h; obtain ⟨q,_,rfl⟩:=h; rfl
 | s n v=>simp only [aE,aI] at h; split at h <;> simp at h; subst h; rfl
 | w k a b=>simp only [aE,aI] at h; split at h <;> simp at h; subst h; rfl
 | _=>first | (simp only [aE,aI,Option.some.injEq] at h; subst h; rfl) | (simp [aE,aI] at h; done)
theorem cR {k:IntKind} {n:Int} {x:Value} (h:den g (.i k n)=some x):x=.int k n:=by simpa [den,aT,aE,aI,eq_comm] using h
theorem GG {b:Bool} {x:Value} (h:den g (.b b)=some x):x=.bool b:=by simpa [den,aT,aE,aI,eq_comm] using h
theorem fH {i:Pos} {o:Nat} {x:Value} (h:den g (.p i o)=some x):∃ q,g.fQ i=some q∧x=.pointer (some ⟨q.1,o,none⟩):=by
 simp only [den,aT,aE,aI,Option.map_eq_some_iff] at h;obtain ⟨q,h1,rfl⟩:=h; exact ⟨q,h1,rfl⟩
theorem mG {i:Pos} {o:Nat} {q:Nat × Nat} (h:g.fQ i=some q):den g (.p i o)=some (.pointer (some ⟨q.1,o,none⟩)):=by simp [den,aT,aE,aI,h]
theorem AF {l:List SV} {x:Value} (h:den g (.a l)=some x):∃ xs,aF (aE g) l=some xs∧x=.agg xs.toArray:=by
 simp only [den,aT,Option.map_eq_some_iff] at h;obtain ⟨xs,h1,rfl⟩:=h; exact ⟨xs,h1,rfl⟩
theorem xB {l:List SV} {xs:List Value} (h:aF (aE g) l=some xs):den g (.a l)=some (.agg xs.toArray):=by simp [den,aT,h]
theorem aMb {l:List SV} {x:Value} (h:den g (.t l)=some x):∃ xs,aF (aT g) l=some xs∧x=.tuple xs.toArray:=by
 simp only [den,Option.map_eq_some_iff] at h;obtain ⟨xs,h1,rfl⟩:=h; exact ⟨xs,h1,rfl⟩
theorem lK {n v:Nat} {x:Value} (h:den g (.s n v)=some x):v < 256 ^ n∧x=.string (dD n v):=by
 simp only [den,aT,aE,aI] at h;split at h
 ·rename_i hv; simp at h; exact ⟨hv,h.symm⟩
 simp at h
theorem JX {n v:Nat} (h:v < 256 ^ n):den g (.s n v)=some (.string (dD n v)):=by simp [den,aT,aE,aI,h]
theorem sN:∀ {l:List SV} {xs:List Value},aF (aE g) l=some xs→ones xs=true
 | [],xs,h=>by simp [aF] at h; subst h; rfl
 | x::r,xs,h=>by
  obtain ⟨v,us,h1,h2,rfl⟩:=aK h;simp [ones,GH h1,sN h2]
theorem sQ {x:SV} {v:Value} {cs:List SV} (h:den g x=some v) (hc:cells x=some cs):aF (aE g) cs=some (vc v)∧ones (vc v)=true:=by
 cases x with
 | a l =>
  injection hc with hc; subst hc;obtain ⟨xs,h1,rfl⟩:=AF h;exact ⟨by simpa [vc] using h1,sN (by simpa [vc] using h1)⟩
 | t l=>cases hc
 | _ =>
  injection hc with hc; subst hc;simp only [den,aT] at h;have h1:=GH h;have:vc v=[v]:=by cases v <;> first | rfl | (exact absurd h1 (by simp [Y7]))
  rw [this];exact ⟨bT h rfl,by simp [ones,h1]⟩
end
structure Std (rv:Operand→Value):Prop where
 const:∀ v,rv (.const v)=v
 aLf:∀ b,rv (.global b)=.pointer (some ⟨b,0,none⟩)
 func:∀ f,rv (.func f)=.func (.func f) #[] #[]
def uH (rv:Operand→Value):List Operand→Kn
 | []=>[]
 | .tmp t::r=>(t,rv (.tmp t))::uH rv r
 | _::r=>uH rv r
theorem wK {rv:Operand→Value}:∀ {ys:List Operand} {t:Nat} {v:Value},lk (uH rv ys) t=some v→rv (.tmp t)=v
 | [],t,v,h=>by simp [uH,lk] at h
 | .tmp u::r,t,v,h=>by
  simp only [uH,lk] at h;cases hb:Nat.beq u t with
  | true=>rw [hb] at h; have:=Nat.eq_of_beq_eq_true hb; subst this; simpa using h
  | false=>rw [hb] at h; exact wK (ys:=r) h
 | .const _::r,t,v,h=>wK (ys:=r) h
 | .global _::r,t,v,h=>wK (ys:=r) h
 | .func _::r,t,v,h=>wK (ys:=r) h
theorem bA {rv:Operand→Value} (hs:Std rv) (ys:List Operand):Ev (uH rv ys) rv:=by
 intro x v h;cases x with
 | tmp t=>exact wK h
 | const u=>simp [ev] at h; rw [hs.const]; exact h
 | global b=>simp [ev] at h; rw [hs.aLf]; exact h
 | func f=>simp [ev] at h; rw [hs.func]; exact h
theorem dH {rv:Operand→Value} (hs:Std rv):∀ {ys:List Operand} {y:Operand},y∈ys→ev (uH rv ys) y=some (rv y)
 | ys,.const u,_=>by simp [ev,hs.const]
 | ys,.global b,_=>by simp [ev,hs.aLf]
 | ys,.func f,_=>by simp [ev,hs.func]
 | .tmp u::r,.tmp t,h=>by
  simp only [ev,uH,lk];cases hb:Nat.beq u t with
  | true=>have:=Nat.eq_of_beq_eq_true hb; subst this; rfl
  | false =>
   rcases List.mem_cons.1 h with e | h
   ·injection e with e; subst e; simp at hb
   exact dH (ys:=r) hs h
 | .const _::r,.tmp t,h=>dH (ys:=r) hs (by simpa using h)
 | .global _::r,.tmp t,h=>dH (ys:=r) hs (by simpa using h)
 | .func _::r,.tmp t,h=>dH (ys:=r) hs (by simpa using h)
theorem QO {rv:Operand→Value} (hs:Std rv) (y:Operand) {v:Value} (h:rv y=v):ev (uH rv [y]) y=some v:=h ▸ dH hs (by simp)
theorem jI {rv:Operand→Value} (hs:Std rv) (y z:Operand) {v:Value} (h:rv y=v):ev (uH rv [y,z]) y=some v:=h ▸ dH hs (by simp)
theorem jH {rv:Operand→Value} (hs:Std rv) (y z:Operand) {v:Value} (h:rv z=v):ev (uH rv [y,z]) z=some v:=h ▸ dH hs (by simp)
end
noncomputable section
theorem DG (k:IntKind) (n:Int):wr k n=k.wrap n:=by
 cases n with
 | ofNat c =>
  simp only [wr];cases h:Nat.ble c (top k) with
  | false=>rfl
  | true =>
   have h':=Nat.le_of_ble_eq_true h;simp only [cond_true];symm;cases k <;> simp only [top] at h'
   ·exact IntWalk.i8_in _ ⟨Int.le_trans (by decide) (Int.natCast_nonneg _),by simp; omega⟩
   ·exact IntWalk.i16_in _ ⟨Int.le_trans (by decide) (Int.natCast_nonneg _),by simp; omega⟩
   ·exact IntWalk.i32_in _ ⟨Int.le_trans (by decide) (Int.natCast_nonneg _),by simp; omega⟩
   ·exact IntWalk.i64_in _ ⟨Int.le_trans (by decide) (Int.natCast_nonneg _),by simp; omega⟩
   ·exact IntWalk.u8_in _ ⟨Int.natCast_nonneg _,by simp; omega⟩
   ·exact IntWalk.u16_in _ ⟨Int.natCast_nonneg _,by simp; omega⟩
   ·exact IntWalk.u32_in _ ⟨Int.natCast_nonneg _,by simp; omega⟩
   exact IntWalk.u64_in _ ⟨Int.natCast_nonneg _,by simp; omega⟩
 | negSucc c =>
  simp only [wr];cases h:(and (sgn k) (Nat.ble c (top k))) with
  | false=>rfl
  | true =>
   simp only [Bool.and_eq_true] at h;have h':=Nat.le_of_ble_eq_true h.2;have hs:=h.1;simp only [cond_true];symm;cases k <;> simp only [top,sgn] at h' hs
   ·exact IntWalk.i8_in _ ⟨by omega,by omega⟩
   ·exact IntWalk.i16_in _ ⟨by omega,by omega⟩
   ·exact IntWalk.i32_in _ ⟨by omega,by omega⟩
   ·exact IntWalk.i64_in _ ⟨by omega,by omega⟩
   all_goals cases hs
theorem jK (a b:Int):ieq a b=decide (a=b):=by
 cases a <;> cases b <;> simp only [ieq]
 ·rename_i a b
  by_cases h:a=b
  ·subst h; simp
  rw [decide_eq_false (by intro e; injection e; contradiction)];cases hb:Nat.beq a b with
  | false=>rfl
  | true=>exact (h (Nat.eq_of_beq_eq_true hb)).elim
 ·exact (decide_eq_false (by intro e; cases e)).symm
 ·exact (decide_eq_false (by intro e; cases e)).symm
 rename_i a b
 by_cases h:a=b
 ·subst h; simp
 rw [decide_eq_false (by intro e; injection e; contradiction)];cases hb:Nat.beq a b with
 | false=>rfl
 | true=>exact (h (Nat.eq_of_beq_eq_true hb)).elim
theorem blt_eq (a b : Nat) : Nat.blt a b = decide (a < b) := by
  cases h : Nat.blt a b with
  | true => simp [Nat.blt] at h; exact (decide_eq_true (by omega)).symm
  | false => exact (decide_eq_false (fun hl => by have : Nat.blt a b = true := by simp [Nat.blt]; omega
                                                  rw [h] at this; cases this)).symm
theorem mB (a b:Int):ilt a b=decide (a < b):=by
 cases a <;> cases b <;> simp only [ilt,blt_eq]
 ·rename_i a b; by_cases h:a < b <;> simp [h]
 ·rename_i a b; exact (decide_eq_false (by have:=Int.negSucc_lt_zero b; have:=Int.natCast_nonneg a; intro h; simp only [Int.ofNat_eq_natCast] at *; omega)).symm
 ·rename_i a b; exact (decide_eq_true (by have:=Int.negSucc_lt_zero a; have:=Int.natCast_nonneg b; simp only [Int.ofNat_eq_natCast] at *; omega)).symm
 rename_i a b
 by_cases h:b < a
 ·rw [decide_eq_true h,decide_eq_true (by omega)]
 rw [decide_eq_false h,decide_eq_false (by omega)]
theorem dO {j k:IntKind} (h:kN j k=true):j=k:=by
 cases j <;> cases k <;> first | rfl | (exact absurd h (by decide))
def a2:A2→BinOp
 | .add=>.add | .sub=>.sub | .mul=>.mul | .quo=>.quo | .rem=>.rem | .and=>.and | .or=>.or | .shl=>.shl | .shr=>.shr
 | .lss=>.lss | .leq=>.leq | .gtr=>.gtr | .geq=>.geq | .eql=>.eql | .neq=>.neq
def Yl (P:Program) (w:World) (rv:Operand→Value) (op:Op) (x:Value):Prop:=∀ d ty ps af gd,(execOp rv ⟨d,op,ty,ps,af,gd⟩).run P w=.ok (.value x) w
section
variable {P:Program} {w:World} {rv:Operand→Value} {g:G} {y z:Operand} (hs:Std rv)
include hs
theorem aHd {k:IntKind} {a b:Int} {op:A2} {v:SV} {T T':TypeId} (hy:rv y=.int k a) (hz:rv z=.int k b) (h:GR op k a b=some v):∃ x,den g v=some x∧Yl P w rv (.binOp (a2 op) T y z T') x:=by
 have e1:=jI hs y z hy;have e2:=jH hs y z hz;have ke:=bA hs [y,z];have s0:=aB.nil w;cases op with
 | add=>simp only [GR,Option.some.injEq] at h; subst h; exact ⟨_,rfl,fun d ty ps af gd=>EX.add e1 e2 (DG k _).symm rv w ke s0⟩
 | sub=>simp only [GR,Option.some.injEq] at h; subst h; exact ⟨_,rfl,fun d ty ps af gd=>EX.sub e1 e2 (DG k _).symm rv w ke s0⟩
 | mul=>simp only [GR,Option.some.injEq] at h; subst h; exact ⟨_,rfl,fun d ty ps af gd=>EX.mul e1 e2 (DG k _).symm rv w ke s0⟩
 | lss=>simp only [GR,Option.some.injEq] at h; subst h; exact ⟨_,rfl,fun d ty ps af gd=>by rw [mB]; exact EX.lss e1 e2 rv w ke s0⟩
 | gtr=>simp only [GR,Option.some.injEq] at h; subst h; exact ⟨_,rfl,fun d ty ps af gd=>by rw [mB]; exact EX.gtr e1 e2 rv w ke s0⟩
 | leq=>simp only [GR,Option.some.injEq] at h; subst h; exact ⟨_,rfl,fun d ty ps af gd=>by
   rw [mB,show (!decide (b < a))=decide (a≤b) by rw [← decide_not]; exact decide_eq_decide.2 (by omega)]; exact EX.leq e1 e2 rv w ke s0⟩
 | geq=>simp only [GR,Option.some.injEq] at h; subst h; exact ⟨_,rfl,fun d ty ps af gd=>by
   rw [mB,show (!decide (a < b))=decide (b≤a) by rw [← decide_not]; exact decide_eq_decide.2 (by omega)]; exact EX.geq e1 e2 rv w ke s0⟩
 | eql=>simp only [GR,Option.some.injEq] at h; subst h; exact ⟨_,rfl,fun d ty ps af gd=>by rw [jK]; exact EX.eql e1 e2 rv w ke s0⟩
 | neq=>simp only [GR,Option.some.injEq] at h; subst h; exact ⟨_,rfl,fun d ty ps af gd=>by rw [jK,← decide_not]; exact EX.neq e1 e2 rv w ke s0⟩
 | quo =>
  simp only [GR] at h;split at h
  ·rename_i a b;cases hb:Nat.beq b 0 with
   | true=>simp [hb] at h
   | false =>
    simp only [hb,cond_false,Option.some.injEq] at h; subst h;have hb0:b≠0:=fun e=>by subst e; simp at hb
    exact ⟨_,rfl,fun d ty ps af gd=>EX.quo e1 e2 (by intro e; injection e with e; exact hb0 e) (by rw [DG]; rfl) rv w ke s0⟩
  cases h
 | rem =>
  simp only [GR] at h;split at h
  ·rename_i a b;cases hb:Nat.beq b 0 with
   | true=>simp [hb] at h
   | false =>
    simp only [hb,cond_false,Option.some.injEq] at h; subst h;have hb0:b≠0:=fun e=>by subst e; simp at hb
    exact ⟨_,rfl,fun d ty ps af gd=>EX.rem e1 e2 (by intro e; injection e with e; exact hb0 e) rfl rv w ke s0⟩
  cases h
 | or=>simp only [GR,Option.some.injEq] at h; subst h; exact ⟨_,rfl,fun d ty ps af gd=>EX.or e1 e2 rfl rv w ke s0⟩
 | and=>simp only [GR,Option.some.injEq] at h; subst h; exact ⟨_,rfl,fun d ty ps af gd=>EX.and e1 e2 rfl rv w ke s0⟩
 | shl=>simp [GR] at h
 | shr=>simp [GR] at h
theorem aGx {k j:IntKind} {a b:Int} {op:A2} {v:SV} {T T':TypeId} (hy:rv y=.int k a) (hz:rv z=.int j b) (h:shI op k a b=some v):∃ x,den g v=some x∧Yl P w rv (.binOp (a2 op) T y z T') x:=by
 have e1:=jI hs y z hy;have e2:=jH hs y z hz;have ke:=bA hs [y,z];have s0:=aB.nil w;unfold shI at h;split at h
 ·rename_i n;cases op <;> simp only [Option.some.injEq,reduceCtorEq] at h
  ·subst h; exact ⟨_,rfl,fun d ty ps af gd=>EX.shl e1 e2 (Int.natCast_nonneg _) rfl rv w ke s0⟩
  subst h; exact ⟨_,rfl,fun d ty ps af gd=>EX.shr e1 e2 (Int.natCast_nonneg _) rfl rv w ke s0⟩
 cases h
end
theorem cP:∀ (n v:Nat),(cA n v).length=n
 | 0,_=>rfl
 | n + 1,v=>by simp [cA,cP n]
theorem GN:∀ (n:Nat) {v w:Nat},v < 256 ^ n→w < 256 ^ n→cA n v=cA n w→v=w
 | 0,v,w,hv,hw,_=>by simp at hv hw; omega
 | n + 1,v,w,hv,hw,h=>by
  simp only [cA] at h;have h1:cA n (v / 256)=cA n (w / 256):=List.append_inj_left h (by simp [cP]);have h2:[UInt8.ofNat (v % 256)]=[UInt8.ofNat (w % 256)]:=List.append_inj_right h (by simp [cP]);rw [Nat.pow_succ] at hv hw;have h3:=GN n (by omega) (by omega) h1;have h4:UInt8.ofNat (v % 256)=UInt8.ofNat (w % 256):=by simpa using h2
  have h5:=congrArg UInt8.toNat h4;simp at h5;omega
theorem NR {n v m w:Nat} (hv:v < 256 ^ n) (hw:w < 256 ^ m) (h:dD n v=dD m w):n=m∧v=w:=by
 have h1:cA n v=cA m w:=by unfold dD at h; injection h with h; simpa using h
 have h2:n=m:=by have:=congrArg List.length h1; simpa [cP] using this
 subst h2;exact ⟨rfl,GN n hv hw h1⟩
theorem eB (n v:Nat):(dD n v).size=n:=by unfold dD; simp [ByteArray.size,cP]
theorem seq_eq {n v m w:Nat} (hv:v < 256 ^ n) (hw:w < 256 ^ m):seq n v m w=decide (dD n v=dD m w):=by
 unfold seq;cases hb:Nat.beq n m with
 | false =>
  simp only [cond_false];exact (decide_eq_false fun e=>by have:=(NR hv hw e).1; subst this; simp at hb).symm
 | true =>
  have:=Nat.eq_of_beq_eq_true hb; subst this;simp only [cond_true];cases hc:Nat.beq v w with
  | true=>have:=Nat.eq_of_beq_eq_true hc; subst this; simp
  | false=>exact (decide_eq_false fun e=>by have:=(NR hv hw e).2; subst this; simp at hc).symm
theorem qR:∀ (m:Nat) {n v w:Nat},w < 256 ^ m→cA (n + m) (v * 256 ^ m + w)=cA n v++cA m w
 | 0,n,v,w,hw=>by simp at hw; subst hw; simp [cA]
 | m + 1,n,v,w,hw=>by
  rw [show n + (m + 1)=(n + m) + 1 by omega];simp only [cA];rw [Nat.pow_succ] at *;have h1:(v * (256 ^ m * 256) + w) / 256=v * 256 ^ m + w / 256:=by
   rw [← Nat.mul_assoc,Nat.add_comm,Nat.add_mul_div_right _ _ (by omega)]; omega
  have h2:(v * (256 ^ m * 256) + w) % 256=w % 256:=by rw [← Nat.mul_assoc,Nat.mul_comm _ 256,Nat.mul_add_mod]
  rw [h1,h2,qR m (by omega)];simp
theorem V9 {n v m w:Nat} (hw:w < 256 ^ m):dD (n + m) (v * 256 ^ m + w)=dD n v++dD m w:=by
 unfold dD;rw [qR m hw];apply ByteArray.ext;simp
theorem aF2 {n v m w:Nat} (hv:v < 256 ^ n) (hw:w < 256 ^ m):v * 256 ^ m + w < 256 ^ (n + m):=by
 rw [Nat.pow_add];have:(v + 1) * 256 ^ m≤256 ^ n * 256 ^ m:=Nat.mul_le_mul_right _ hv;rw [Nat.add_mul] at this;omega
theorem xM:∀ (n:Nat) {v j:Nat},j < n→(cA n v)[j]?=some (UInt8.ofNat (v / 256 ^ (n - 1 - j) % 256))
 | 0,v,j,h=>by omega
 | n + 1,v,j,h=>by
  simp only [cA];rcases Nat.lt_or_ge j n with hj | hj
  ·rw [List.getElem?_append_left (by rw [cP]; exact hj),xM n hj];congr 3;rw [Nat.div_div_eq_div_mul,← Nat.pow_succ',show n + 1 - 1 - j=(n - 1 - j) + 1 by omega]
  have:j=n:=by omega
  subst this;rw [List.getElem?_append_right (by rw [cP]; omega)];simp [cP]
section
variable {P:Program} {w:World} {rv:Operand→Value} {g:G} {y z:Operand} (hs:Std rv)
include hs
theorem aHc {n v m u:Nat} {op:A2} {r:SV} {T T':TypeId} (hv:v < 256 ^ n) (hu:u < 256 ^ m) (hy:rv y=.string (dD n v)) (hz:rv z=.string (dD m u)) (h:arS op n v m u=some r):∃ x,den g r=some x∧Yl P w rv (.binOp (a2 op) T y z T') x:=by
 have e1:=jI hs y z hy;have e2:=jH hs y z hz;have ke:=bA hs [y,z];have s0:=aB.nil w;cases op with
 | add =>
  simp only [arS] at h;cases hb:Nat.ble (Nat.add n m) 1000000 with
  | false=>rw [hb] at h; cases h
  | true =>
   rw [hb] at h; simp only [cond_true,Option.some.injEq] at h; subst h;have hl:=Nat.le_of_ble_eq_true hb;have hl':n + m≤1000000:=hl;refine ⟨_,JX (aF2 hv hu),fun d ty ps af gd=>?_⟩;have:=EX.KH (P:=P) (W0:=w) (L:=[]) (d:=d) (g:=gd) (T:=T) (ty':=T') (ty:=ty) (ps:=ps) (af:=af) e1 e2 (by rw [eB,eB]; omega) rv w ke s0;rw [← V9 hu] at this;exact this
 | eql=>simp only [arS,Option.some.injEq] at h; subst h; exact ⟨_,rfl,fun d ty ps af gd=>by rw [seq_eq hv hu]; exact EX.aLm e1 e2 rv w ke s0⟩
 | neq=>simp only [arS,Option.some.injEq] at h; subst h; exact ⟨_,rfl,fun d ty ps af gd=>by rw [seq_eq hv hu,← decide_not]; exact EX.aPy e1 e2 rv w ke s0⟩
 | _=>simp [arS] at h
end
end
noncomputable section
theorem hD {g:G} {me:T Ob} {W0 w:World} {R:List aA} {i:Pos} {cs:List SV} (hm:aB W0 w (mem g me++R)) (h:cellsOf me i=some cs) :
  ∃ q xs,g.fQ i=some q∧aF (aE g) cs=some xs∧∀ k v,xs[k]?=some v→w.cell? ⟨q.1,k,none⟩=some v:=by
 unfold cellsOf at h;cases hg:T.get i me with
 | none=>simp [hg] at h
 | some o =>
  rw [hg] at h;cases o with
  | c t ds =>
   simp only [Option.some.injEq] at h; subst h;obtain ⟨x,h1⟩:=(fO hm hg).aP;obtain ⟨⟨h2,h3⟩,h4⟩:=h1.aS.aN;exact ⟨_,_,h2,h3,fun k v hv=>by rw [(h4.bk .here).rd]; simpa using hv⟩
  | r t z ds =>
   simp only [Option.some.injEq] at h; subst h;obtain ⟨x,h1⟩:=(fO hm hg).aP;obtain ⟨⟨h2,h3⟩,h4⟩:=h1.aS.aN;exact ⟨_,_,h2,h3,fun k v hv=>pQ (h4.rw .here) hv⟩
  | ro t ds =>
   simp only [Option.some.injEq] at h; subst h;obtain ⟨x,h1⟩:=(fO hm hg).aP;obtain ⟨⟨h2,h3⟩,h4⟩:=h1.aS.aN;obtain ⟨F,hF⟩:=h4.fact;obtain ⟨⟨C,e,f,hb,hC⟩,_⟩:=hF;exact ⟨_,_,h2,h3,fun k v hv=>by simp [World.cell?,hb,hC k v hv]⟩
  | _=>simp at h
section
variable {P:Program} {w W0:World} {rv:Operand→Value} {g:G} {me:T Ob} {R:List aA} {y z u:Operand} {a b c v:SV} (hs:Std rv)
include hs
theorem aNq (hy:den g v=some (rv y)):∃ x,den g v=some x∧Yl P w rv (.move y) x:=⟨_,hy,fun d ty ps af gd=>EX.move (QO hs y rfl) rv w (bA hs [y]) (aB.nil w)⟩
theorem aNx (hy:den g v=some (rv y)):∃ x,den g v=some x∧Yl P w rv (.assign y) x:=⟨_,hy,fun d ty ps af gd=>EX.assign (QO hs y rfl) rv w (bA hs [y]) (aB.nil w)⟩
theorem aA0 (hy:den g a=some (rv y)) (hz:den g b=some (rv z)) (hu:den g c=some (rv u)) (h:VA a b c=some v):∃ x,den g v=some x∧Yl P w rv (.pick y z u) x:=by
 unfold VA at h;split at h
 ·rename_i t;have e:=GG hy;cases t with
  | true =>
   simp only [cond_true,Option.some.injEq] at h; subst h;exact ⟨_,hz,fun d ty ps af gd=>by simp [execOp,e,asBool]⟩
  | false =>
   simp only [cond_false,Option.some.injEq] at h; subst h;exact ⟨_,hu,fun d ty ps af gd=>by simp [execOp,e,asBool]⟩
 cases h
theorem aG8 {i:Nat} (hy:den g a=some (rv y)) (h:aE9 a i=some v):∃ x,den g v=some x∧Yl P w rv (.extract y i) x:=by
 unfold aE9 at h;split at h
 ·rename_i l;obtain ⟨xs,h1,h2⟩:=aMb hy;rw [hZ] at h;obtain ⟨x,h3,h4⟩:=gZ h1 h;exact ⟨x,xC h4,fun d ty ps af gd=>by simp [execOp,h2,Instr.extract,h3]⟩
 cases h
theorem aNo (hy:den g a=some (rv y)) (h:ncV a=some v):∃ x,den g v=some x∧Yl P w rv (.nilCheck y) x:=by
 unfold ncV at h;split at h
 ·injection h with h; subst h;obtain ⟨q,h1,h2⟩:=fH hy;exact ⟨_,hy,fun d ty ps af gd=>by simp [execOp,h2]⟩
 ·injection h with h; subst h;have h2:rv y=_:=(Option.some.inj hy).symm;exact ⟨_,hy,fun d ty ps af gd=>by simp [execOp,h2]⟩
 cases h
omit hs in
theorem xQ {off:Nat} {x:Value} (hy:den g a=some x) (h:xR off a=some v):∃ bb oo,x=.pointer (some ⟨bb,oo,none⟩)∧den g v=some (.pointer (some ⟨bb,oo + off,none⟩)):=by
 unfold xR at h;split at h
 ·injection h with h; subst h;obtain ⟨q,h1,h2⟩:=fH hy;exact ⟨_,_,h2,mG h1⟩
 ·injection h with h; subst h;exact ⟨_,_,(Option.some.inj hy).symm,rfl⟩
 cases h
theorem aNw {off s i:Nat} (hf:FA P s i off) (hy:den g a=some (rv y)) (h:xR off a=some v):∃ x,den g v=some x∧Yl P w rv (.fieldAddr s y i) x:=by
 obtain ⟨bb,oo,h1,h2⟩:=xQ hy h;exact ⟨_,h2,fun d ty ps af gd=>EX.fieldAddr (QO hs y h1) hf rv w (bA hs [y]) (aB.nil w)⟩
theorem aGy {T:TypeId} (hy:den g a=some (rv y)) (h:aDo a=some v):∃ x,den g v=some x∧Yl P w rv (.unOp .not T y) x:=by
 unfold aDo at h;split at h
 ·injection h with h; subst h;exact ⟨_,rfl,fun d ty ps af gd=>EX.not (QO hs y (GG hy)) rv w (bA hs [y]) (aB.nil w)⟩
 cases h
theorem aNu {t:TypeId} (h1:One P t) (hm:aB W0 w (mem g me++R)) (hy:den g a=some (rv y)) (h:ldV me a=some v):∃ x,den g v=some x∧Yl P w rv (.load t y) x:=by
 unfold ldV at h;split at h
 ·rename_i i o;obtain ⟨q,e1,e2⟩:=fH hy;cases hc:cellsOf me i with
  | none=>simp [hc] at h
  | some cs =>
   rw [hc] at h;simp only [hZ] at h;obtain ⟨q',xs,k1,k2,k3⟩:=hD hm hc;obtain rfl:q=q':=by rw [e1] at k1; exact Option.some.inj k1
   obtain ⟨x,h3,h4⟩:=gZ k2 h;have hrd:=k3 o x h3;exact ⟨x,xD h4,fun d ty ps af gd=>by
    simp only [execOp,e2,Sem.run_bind,Instr.loadAt,Instr.sureAddr,loadVar,h1 w,Result.andThen_ok,Sem.run_pure,Bool.false_eq_true,if_false,run_load,hrd]⟩
 cases h
theorem aG2 {t:TypeId} {n:Nat} (h1:Many P t n) (hm:aB W0 w (mem g me++R)) (hy:den g a=some (rv y)) (h:EZ me n a=some v):∃ x,den g v=some x∧Yl P w rv (.load t y) x:=by
 unfold EZ at h;split at h
 ·rename_i i o;obtain ⟨q,e1,e2⟩:=fH hy;cases hc:cellsOf me i with
  | none=>simp [hc] at h
  | some cs =>
   rw [hc] at h;cases hsb:sub o n cs with
   | none=>simp [hsb] at h
   | some l =>
    simp only [hsb,Option.some.injEq] at h; subst h;obtain ⟨q',xs,k1,k2,k3⟩:=hD hm hc;obtain rfl:q=q':=by rw [e1] at k1; exact Option.some.inj k1
    obtain ⟨s1,s2⟩:=pM hsb;have hd:=eG n (fG o k2);rw [← s1] at hd;have hl:((xs.drop o).take n).length=n:=by simp [cF k2]; omega
    refine ⟨_,xB hd,fun d ty ps af gd=>?_⟩;have hr:(loadCells ⟨q.1,o,none⟩ n).run P w=.ok ((xs.drop o).take n).toArray w:=by
     have:=gL (P:=P) (w:=w) (a:=⟨q.1,o,none⟩) (cs:=(xs.drop o).take n) (fun j hj=>by
      rw [dI];have hj':j < n:=by rw [hl] at hj; exact hj
      have:xs[o + j]?=((xs.drop o).take n)[j]?:=by rw [List.getElem?_take_of_lt hj',List.getElem?_drop]
      rw [← this];have hlt:o + j < xs.length:=by rw [cF k2]; omega
      rw [List.getElem?_eq_getElem hlt];exact k3 _ _ (List.getElem?_eq_getElem hlt))
     rw [hl] at this; exact this
    simp only [execOp,e2,Sem.run_bind,Instr.loadAt,Instr.sureAddr,loadVar,(h1 w).1,(h1 w).2,Result.andThen_ok,Sem.run_pure,if_true,hr]
 cases h
omit hs in
theorem mW:∀ {l:List (Int × SV)} {vs:List (Int × Value)},aX g l=some vs→vs.length=l.length
 | [],vs,hv=>by simp [aX] at hv; subst hv; rfl
 | (k1,k2)::r,vs,hv=>by
  simp only [aX] at hv;cases a1:aT g k2 with
  | none=>simp [a1] at hv
  | some v1=>cases a2:aX g r with
   | none=>simp [a1,a2] at hv
   | some v2=>simp [a1,a2] at hv; subst hv; simp [mW a2]
def rC (k:TK) (td:TypeDesc):Bool:=match k with
 | .s=>(td matches .string)
 | .l=>(td matches .slice _)
 | .m=>(td matches .map _ _)
 | .p=>(td matches .pointer _)
 | _=>true
theorem aNs {T:TypeId} {td:TypeDesc} {k:TK} (hT:P.underlying T=some td) (hm:aB W0 w (mem g me++R)) (hy:den g a=some (rv y)) (h:XG me k a=some v) (hc:rC k td=true) :
  ∃ x,den g v=some x∧Yl P w rv (.call { callee:=.builtin .len,args:=#[y],argTypes:=#[T] }) x:=by
 unfold XG at h;split at h
 ·rename_i n m;injection h with h; subst h;obtain ⟨_,e⟩:=lK hy;cases td <;> simp only [rC,Bool.false_eq_true] at hc;refine ⟨_,rfl,fun d ty ps af gd=>?_⟩;have:=EX.QJ (P:=P) (W0:=w) (L:=[]) (d:=d) (g:=gd) (ty:=ty) (ps:=ps) (af:=af) (QO hs y e) hT rv w (bA hs [y]) (aB.nil w);rw [eB] at this; exact this
 ·injection h with h; subst h;cases td <;> simp only [rC,Bool.false_eq_true] at hc;simp only [den,aT,aE,aI,Option.map_eq_some_iff] at hy;obtain ⟨q,_,e⟩:=hy;exact ⟨_,rfl,fun d ty ps af gd=>EX.rT (QO hs y e.symm) hT rv w (bA hs [y]) (aB.nil w)⟩
 ·injection h with h; subst h;cases td <;> simp only [rC,Bool.false_eq_true] at hc;simp only [den,aT,aE,aI,Option.map_eq_some_iff] at hy;obtain ⟨q,_,e⟩:=hy;exact ⟨_,rfl,fun d ty ps af gd=>EX.rT (QO hs y e.symm) hT rv w (bA hs [y]) (aB.nil w)⟩
 ·injection h with h; subst h;cases td <;> simp only [rC,Bool.false_eq_true] at hc;have e:=(Option.some.inj hy).symm;exact ⟨_,rfl,fun d ty ps af gd=>EX.rT (QO hs y e) hT rv w (bA hs [y]) (aB.nil w)⟩
 ·rename_i i;cases td <;> simp only [rC,Bool.false_eq_true] at hc;cases hg:EV.T.get i me with
  | none=>rw [hg] at h; cases h
  | some ob =>
   rw [hg] at h;cases ob with
   | m k aD =>
    injection h with h; subst h;simp only [den,aT,aE,aI,Option.map_eq_some_iff] at hy;obtain ⟨q,hq,e⟩:=hy;obtain ⟨x,h1⟩:=(fO hm hg).aP;obtain ⟨⟨h2,h3,h4,h5⟩,h6⟩:=h1.aS.aN;obtain rfl:q=(x.1,x.2.1):=by rw [hq] at h2; exact Option.some.inj h2
    have hlen:x.2.2.2.length=aD.length:=by rw [h4.length_eq]; exact mW h3
    refine ⟨_,rfl,fun d ty ps af gd=>?_⟩;have:=EX.aIz (P:=P) (d:=d) (g:=gd) (ty:=ty) (ps:=ps) (af:=af) (QO hs y e.symm) (Pick.here) hT rv w (bA hs [y]) h6;rw [hlen] at this;rw [len_eq]; exact this
   | _=>cases h
 ·cases h
theorem aNv {T e s:Nat} (hT:SL P T e s) (hy:den g a=some (rv y)) (hz:den g b=some (rv z)) (h:iaV s a b=some v):∃ x,den g v=some x∧Yl P w rv (.indexAddr T y z) x:=by
 unfold iaV at h;split at h
 ·rename_i k j;have ez:=cR hz;split at h
  ·rename_i i o n c;cases hb:Nat.blt j n with
   | false=>simp [hb] at h
   | true =>
    simp only [hb,cond_true,Option.some.injEq] at h; subst h;simp only [den,aT,aE,aI,Option.map_eq_some_iff] at hy;obtain ⟨q,hq,e⟩:=hy;have hj:j < n:=by rw [blt_eq] at hb; simpa using hb
    exact ⟨_,mG hq,fun d ty ps af gd=>EX.indexAddr (jI hs y z e.symm) (jH hs y z ez) hT ⟨Int.natCast_nonneg _,Int.ofNat_lt.2 hj⟩ rfl rv w (bA hs [y,z]) (aB.nil w)⟩
  ·rename_i i n;cases hb:Nat.blt j n with
   | false=>simp [hb] at h
   | true =>
    simp only [hb,cond_true,Option.some.injEq] at h; subst h;simp only [den,aT,aE,aI,Option.map_eq_some_iff] at hy;obtain ⟨q,hq,e⟩:=hy;have hj:j < n:=by rw [blt_eq] at hb; simpa using hb
    exact ⟨_,mG hq,fun d ty ps af gd=>EX.indexAddr (jI hs y z e.symm) (jH hs y z ez) hT ⟨Int.natCast_nonneg _,Int.ofNat_lt.2 hj⟩ (by rw [Nat.zero_add]; rfl) rv w (bA hs [y,z]) (aB.nil w)⟩
  cases h
 cases h
theorem aG6 {T n s:Nat} (hT:AR P T n s) (hy:den g a=some (rv y)) (hz:den g b=some (rv z)) (h:aEu n s a b=some v):∃ x,den g v=some x∧Yl P w rv (.indexAddr T y z) x:=by
 unfold aEu at h;split at h
 ·rename_i k j;have ez:=cR hz;cases hb:Nat.blt j n with
  | false=>simp [hb] at h
  | true =>
   simp only [hb,cond_true] at h;obtain ⟨bb,oo,h1,h2⟩:=xQ hy h;have hj:j < n:=by rw [blt_eq] at hb; simpa using hb
   exact ⟨_,h2,fun d ty ps af gd=>EX.cE (jI hs y z h1) (jH hs y z ez) hT ⟨Int.natCast_nonneg _,Int.ofNat_lt.2 hj⟩ rfl rv w (bA hs [y,z]) (aB.nil w)⟩
 cases h
theorem aG4 {T:TypeId} (hT:P.underlying T=some .string) (hy:den g a=some (rv y)) (hz:den g b=some (rv z)) (h:aEm a b=some v):∃ x,den g v=some x∧Yl P w rv (.index T y z) x:=by
 unfold aEm at h;split at h
 ·rename_i n m k j;have ez:=cR hz;obtain ⟨hv,ey⟩:=lK hy;cases hb:Nat.blt j n with
  | false=>simp [hb] at h
  | true =>
   simp only [hb,cond_true,Option.some.injEq] at h; subst h;have hj:j < n:=by rw [blt_eq] at hb; simpa using hb
   have hsz:(j:Int).toNat < (dD n m).size:=by rw [eB]; simpa using hj
   refine ⟨_,rfl,fun d ty ps af gd=>?_⟩;have:=EX.sB (P:=P) (W0:=w) (L:=[]) (d:=d) (g:=gd) (ty:=ty) (ps:=ps) (af:=af) (jI hs y z ey) (jH hs y z ez) hT ⟨Int.natCast_nonneg _,hsz⟩ rv w (bA hs [y,z]) (aB.nil w);have hb1:(dD n m)[(Int.ofNat j).toNat]'hsz=UInt8.ofNat (m / 256 ^ (n - 1 - j) % 256):=by
    have h1:=xM n (v:=m) hj;have h2:(dD n m)[(Int.ofNat j).toNat]'hsz=(cA n m)[j]'(by rw [cP]; exact hj):=by
     show (dD n m).data[j]'_=_;simp [dD]
    rw [h2];have h3:=List.getElem?_eq_getElem (l:=cA n m) (i:=j) (by rw [cP]; exact hj);rw [h3] at h1;exact Option.some.inj h1
   rw [hb1] at this;have h4:(UInt8.ofNat (m / 256 ^ (n - 1 - j) % 256)).toNat=m / 256 ^ (n - 1 - j) % 256:=by simp
   rw [h4] at this;exact this
 cases h
theorem aNp {tys:Array TypeId} (hy:den g a=some (rv y)) (hz:den g b=some (rv z)) (h:WO a b=some v):∃ x,den g v=some x∧Yl P w rv (.call { callee:=.builtin .max,args:=#[y,z],argTypes:=tys }) x:=by
 unfold WO at h;split at h
 ·rename_i k m j n;cases hk:kN k j with
  | false=>simp [hk] at h
  | true =>
   have:=dO hk; subst this;simp only [hk,cond_true,Option.some.injEq] at h;have ey:=cR hy;have ez:=cR hz;subst h;refine ⟨.int k (if n > m then n else m),?_,fun d ty ps af gd=>EX.max2 (jI hs y z ey) (jH hs y z ez) rfl rv w (bA hs [y,z]) (aB.nil w)⟩;rw [mB]
   by_cases hlt:m < n <;> simp [hlt,den,aT,aE,aI]
 cases h
theorem aNr {tys:Array TypeId} (hy:den g a=some (rv y)) (hz:den g b=some (rv z)) (h:mnV a b=some v):∃ x,den g v=some x∧Yl P w rv (.call { callee:=.builtin .min,args:=#[y,z],argTypes:=tys }) x:=by
 unfold mnV at h;split at h
 ·rename_i k m j n;cases hk:kN k j with
  | false=>simp [hk] at h
  | true =>
   have:=dO hk; subst this;simp only [hk,cond_true,Option.some.injEq] at h;have ey:=cR hy;have ez:=cR hz;subst h;refine ⟨.int k (if n < m then n else m),?_,fun d ty ps af gd=>by simp [execOp,resolve,invoke,builtin,Builtin.min_,Builtin.min2,ey,ez]⟩;rw [mB]
   by_cases hlt:n < m <;> simp [hlt,den,aT,aE,aI]
 cases h
end
end
noncomputable section
theorem uA:∀ (l:List SV) (n v:Nat) (r:SV),JZ l n v=some r→v < 256 ^ n →
  ∃ (cs:List Nat) (V:Nat),(∀ c∈cs,c < 256)∧l=cs.map (fun c=>.i .u8 (.ofNat c))∧r=.s (n + cs.length) V∧V < 256 ^ (n + cs.length)∧cA (n + cs.length) V=cA n v++cs.map UInt8.ofNat
 | [],n,v,r,h,hv=>by
  have h':some (SV.s n v)=some r:=h;injection h' with h'; subst h';exact ⟨[],v,by simp,rfl,rfl,hv,by simp⟩
 | x::l,n,v,r,h,hv=>by
  have h':(match (generalizing:=false) x with
   | .i .u8 (.ofNat c)=>bif Nat.blt c 256 then JZ l (Nat.succ n) (Nat.add (Nat.mul v 256) c) else none
   | _=>none)=some r:=h
  split at h'
  ·rename_i c;cases hb:Nat.blt c 256 with
   | false=>simp [hb] at h'
   | true =>
    simp only [hb,cond_true] at h';have hc:c < 256:=by rw [blt_eq] at hb; simpa using hb
    have hv':v * 256 + c < 256 ^ (n + 1):=by rw [Nat.pow_succ]; omega
    obtain ⟨cs,V,h1,h2,h3,h4,h5⟩:=uA l (n + 1) (v * 256 + c) r h' hv';have e:n + 1 + cs.length=n + (c::cs).length:=by simp; omega
    refine ⟨c::cs,V,?_,by rw [h2]; rfl,by rw [h3,e],by rw [← e]; exact h4,?_⟩
    ·intro d hd; rcases List.mem_cons.1 hd with rfl | hd
     ·exact hc
     exact h1 d hd
    rw [← e,h5];have h6:cA (n + 1) (v * 256 + c)=cA n v++[UInt8.ofNat c]:=by
     simp only [cA];rw [show (v * 256 + c) / 256=v by omega,show (v * 256 + c) % 256=c by omega]
    rw [h6]; simp
  cases h'
def oqs (oq:O→Operand→Bool):List O→List Operand→Bool
 | [],[]=>true
 | x::xs,y::ys=>oq x y && oqs oq xs ys
 | _,_=>false
section
variable {g:G} {lk:LK} {rv:Operand→Value} {oq:O→Operand→Bool}
theorem kU (hq:∀ x y v,oq x y=true→lk x=some v→den g v=some (rv y)):∀ {xs:List O} {ys:List Operand} {vs:List SV},oqs oq xs ys=true→HC lk xs=some vs→aF (den g) vs=some (ys.map rv)
 | [],[],vs,_,h=>by have h':some []=some vs:=h; injection h' with h'; subst h'; rfl
 | x::xs,y::ys,vs,hc,h=>by
  simp only [oqs,Bool.and_eq_true] at hc;have h':Option.rec (motive:=fun _=>Option (List SV)) none (fun v=>Option.rec (motive:=fun _=>Option (List SV)) none (fun vs=>some (v::vs)) (HC lk xs)) (lk x)=some vs:=h;cases h1:lk x with
  | none=>rw [h1] at h'; cases h'
  | some v =>
   rw [h1] at h';cases h2:HC lk xs with
   | none=>rw [h2] at h'; cases h'
   | some us =>
    rw [h2] at h';injection h' with h'; subst h';exact bT (hq x y v hc.1 h1) (kU hq hc.2 h2)
 | [],_::_,_,hc,_=>by cases hc
 | _::_,[],_,hc,_=>by cases hc
theorem SD {v:SV} {x:Value} (ha:atom v=true) (h:den g v=some x):aI g v=some x:=by
 cases v <;> first | exact h | (cases ha; done)
theorem oZ:∀ {vs:List SV} {xs:List Value},atoms vs=true→aF (den g) vs=some xs→aF (aI g) vs=some xs
 | [],xs,_,h=>h
 | v::r,xs,ha,h=>by
  have ha':and (atom v) (atoms r)=true:=ha;simp only [Bool.and_eq_true] at ha';obtain ⟨x,us,h1,h2,rfl⟩:=aK h;exact bT (SD ha'.1 h1) (oZ ha'.2 h2)
end
section
variable {P:Program} {w W0:World} {rv:Operand→Value} {g:G} {me:T Ob} {R:List aA} {y z u:Operand} {a b c v:SV} (hs:Std rv)
include hs
theorem aHa {src dst:TypeId} {k:IntKind} {td:TypeDesc} (h1:P.underlying src=some td) (h2:P.underlying dst=some (.int k)) (hy:den g a=some (rv y)) (h:aFo k a=some v):∃ x,den g v=some x∧Yl P w rv (.convert src dst y) x:=by
 unfold aFo at h;split at h
 ·injection h with h; subst h;exact ⟨_,rfl,fun d ty ps af gd=>EX.conv (QO hs y (cR hy)) h1 h2 (DG _ _).symm rv w (bA hs [y]) (aB.nil w)⟩
 ·rename_i aa bb;split at h
  ·injection h with h; subst h;simp only [den,aT,aE,aI] at hy;split at hy
   ·rename_i hc;injection hy with hy;refine ⟨.int .i64 g.w,by simp [den,aT,aE,aI,hc],fun d ty ps af gd=>EX.conv (QO hs y hy.symm) h1 h2 (IntWalk.i64_in _ ⟨by omega,by have:=g.hw; omega⟩) rv w (bA hs [y]) (aB.nil w)⟩
   cases hy
  cases h
 ·split at h
  ·injection h with h; subst h;have e:rv y=.int .u8 g.n:=(Option.some.inj hy).symm;exact ⟨.int .i64 g.n,rfl,fun d ty ps af gd=>EX.conv (QO hs y e) h1 h2 (IntWalk.i64_in _ ⟨by omega,by have:=g.hn; omega⟩) rv w (bA hs [y]) (aB.nil w)⟩
  cases h
 cases h
omit hs in
theorem nQ {zz n:Nat} {l:List SV} {x:Value} (hm:aB W0 w (mem g me++R)) (hy:den g a=some x) (h:gF me zz a=some (n,l)) :
  ∃ bb oo cc xs,x=.slice (some ⟨bb,oo,none⟩) n cc∧aF (aE g) l=some xs∧l.length=n * zz∧∀ k v,xs[k]?=some v→w.cell? ⟨bb,oo + k,none⟩=some v:=by
 unfold gF at h;split at h
 ·rename_i i o m c;simp only [den,aT,aE,aI,Option.map_eq_some_iff] at hy;obtain ⟨q,hq,e⟩:=hy;cases hc:cellsOf me i with
  | none=>rw [hc] at h; cases h
  | some cs =>
   rw [hc] at h; dsimp only at h;cases hsb:sub o (Nat.mul m zz) cs with
   | none=>rw [hsb] at h; cases h
   | some l' =>
    rw [hsb] at h; simp only [Option.some.injEq,Prod.mk.injEq] at h;obtain ⟨rfl,rfl⟩:=h;obtain ⟨q',xs,k1,k2,k3⟩:=hD hm hc;obtain rfl:q=q':=by rw [hq] at k1; exact Option.some.inj k1
    obtain ⟨s1,s2⟩:=pM hsb;have s2':o + m * zz≤cs.length:=s2;refine ⟨q.1,o,c,_,e.symm,by rw [s1]; exact eG _ (fG _ k2),by rw [s1]; simp only [List.length_take,List.length_drop]; show min (m * zz) _=_; omega,fun k v hv=>k3 (o + k) v ?_⟩;have hv':((xs.drop o).take (m * zz))[k]?=some v:=hv;rcases Nat.lt_or_ge k (m * zz) with hk | hk
    ·rwa [List.getElem?_take_of_lt hk,List.getElem?_drop] at hv'
    rw [List.getElem?_take_eq_none hk] at hv'; cases hv'
 ·rename_i i m;simp only [den,aT,aE,aI,Option.map_eq_some_iff] at hy;obtain ⟨q,hq,e⟩:=hy;cases hc:cellsOf me i with
  | none=>rw [hc] at h; cases h
  | some cs =>
   rw [hc] at h; dsimp only at h;cases hsb:front (Nat.mul m zz) cs with
   | none=>rw [hsb] at h; cases h
   | some l' =>
    rw [hsb] at h; simp only [Option.some.injEq,Prod.mk.injEq] at h;obtain ⟨rfl,rfl⟩:=h;obtain ⟨q',xs,k1,k2,k3⟩:=hD hm hc;obtain rfl:q=q':=by rw [hq] at k1; exact Option.some.inj k1
    obtain ⟨s1,s2⟩:=oS _ _ _ hsb;have s2':m * zz≤cs.length:=s2;refine ⟨q.1,0,q.2,_,e.symm,by rw [s1]; exact eG _ k2,by rw [s1]; simp only [List.length_take]; show min (m * zz) _=_; omega,fun k v hv=>k3 (0 + k) v ?_⟩;have hv':(xs.take (m * zz))[k]?=some v:=hv;rcases Nat.lt_or_ge k (m * zz) with hk | hk
    ·rwa [List.getElem?_take_of_lt hk,← Nat.zero_add k] at hv'
    rw [List.getElem?_take_eq_none hk] at hv'; cases hv'
 cases h
theorem aG9 {src dst e:TypeId} (h1:P.underlying src=some (.slice e)) (h2:P.underlying e=some (.int .u8)) (h3:P.underlying dst=some .string) (hm:aB W0 w (mem g me++R)) (hy:den g a=some (rv y)) (h:aFl me a=some v) :
  ∃ x,den g v=some x∧Yl P w rv (.convert src dst y) x:=by
 unfold aFl at h;split at h
 ·injection h with h; subst h;have ey:rv y=.slice none 0 0:=(Option.some.inj hy).symm;refine ⟨.string (dD 0 0),by simp [den,aT,aE,aI],fun d ty ps af gd=>?_⟩;have hr:(convert src dst (.slice none 0 0)).run P w=.ok (.string (dD 0 0)) w:=by
   rw [run_convert_bytes_string w src dst e none 0 0 h1 h2 h3];simp [Conv.bytesToString,dD,cA];rfl
  simp only [execOp,ey,Sem.run_bind,hr,Result.andThen_ok]; rfl
 rename_i hne;cases hc:gF me 1 a with
 | none=>rw [hc] at h; cases h
 | some p =>
  obtain ⟨n,l⟩:=p;rw [hc] at h;simp only at h;obtain ⟨bb,oo,cc,xs,e1,e2,e3,e4⟩:=nQ hm hy hc;obtain ⟨cs,V,k1,k2,k3,k4,k5⟩:=uA l 0 0 v h (by simp);subst k3;simp only [Nat.zero_add] at k4 k5 ⊢;have hlen:cs.length=n:=by have:=congrArg List.length k2; simp at this; omega
  have hxs:∀ (cs:List Nat) (xs:List Value),aF (aE g) (cs.map fun c=>SV.i .u8 (.ofNat c))=some xs→xs=cs.map fun c:Nat=>Value.int .u8 (c:Int):=by
   intro cs;induction cs with
   | nil=>intro xs hx; simp [aF] at hx; subst hx; rfl
   | cons c r ih =>
    intro xs hx;obtain ⟨x,us,q1,q2,rfl⟩:=aK hx;rw [ih us q2];have:x=.int .u8 (c:Int):=by simpa [aE,aI,eq_comm] using q1
    rw [this]; rfl
  rw [k2] at e2;have exs:=hxs cs xs e2;refine ⟨_,JX k4,fun d ty ps af gd=>?_⟩;have hr:=run_convert_bytes_arg (P:=P) w src e h1 h2 bb oo n cc (cs.map fun c:Nat=>(c:Int)) (by simpa using hlen) (fun i hi=>by
   have hi':i < cs.length:=by omega
   have:=e4 i (.int .u8 ((cs[i]:Nat):Int)) (by rw [exs]; simp [hi']);rw [this];simp [List.getD,hi']) dst h3
  have hst:strOfNums (cs.map fun c:Nat=>(c:Int))=dD cs.length V:=by
   unfold strOfNums dD;rw [k5];simp [cA,Function.comp_def]
  rw [hst] at hr;simp only [execOp,e1,Sem.run_bind,hr,Result.andThen_ok]; rfl
theorem aG1 {f:Nat} {us cs:List Operand} {vs ws:List SV} {p:Pos} (hp:p.nat=f + 1) (h1:aF (den g) vs=some (us.map rv)) (h2:aF (den g) ws=some (cs.map rv)) (ha:and (atoms vs) (atoms ws)=true):∃ x,den g (.f p vs ws)=some x∧Yl P w rv (.makeFunc (.func f) us.toArray cs.toArray) x:=by
 simp only [Bool.and_eq_true] at ha;refine ⟨.func (.func f) (us.map rv).toArray (cs.map rv).toArray,?_,fun d ty ps af gd=>?_⟩
 ·simp [den,aT,aE,oZ ha.1 h1,oZ ha.2 h2,hp]
 simp only [execOp,List.map_toArray,Sem.run_bind,Instr.makeFunc,Sem.run_pure,Result.andThen_ok]
omit hs in
theorem xG {e off n:Nat} {ag:Bool} {xs:List Value} {l:List SV} (hd:aF (aE g) l=some xs) (h:cut off n ag (.a l)=some v) (ht:if ag then Many P e n else One P e):∃ x,den g v=some x∧(part e xs.toArray off).run P w=.ok x w:=by
 cases ag with
 | true =>
  simp only [cut,cond_true] at h;simp only [if_true] at ht;cases hsb:sub off n l with
  | none=>simp [hsb] at h
  | some r =>
   simp only [hsb,Option.some.injEq] at h; subst h;obtain ⟨s1,s2⟩:=pM hsb;refine ⟨_,xB (by rw [s1]; exact eG n (fG off hd)),?_⟩;simp only [part,Sem.run_bind,(ht w).1,(ht w).2,Result.andThen_ok,if_true,Sem.run_pure];congr 3;apply Array.ext';simp [List.extract_eq_take_drop]
 | false =>
  simp only [cut,cond_false,hZ] at h;simp only [Bool.false_eq_true,if_false] at ht;obtain ⟨x,h3,h4⟩:=gZ hd h;refine ⟨x,xD h4,?_⟩;simp only [part,Sem.run_bind,ht w,Result.andThen_ok,Bool.false_eq_true,if_false,List.getElem?_toArray,h3,Sem.run_pure]
theorem aG7 {s i e off n:Nat} {ag:Bool} {fs:Array Field} (hu:P.underlying s=some (.struct fs)) (hf:(fs[i]?).map (fun f=>(f.type,f.offset))=some (e,off)) (ht:if ag then Many P e n else One P e) (hy:den g a=some (rv y)) (h:cut off n ag a=some v):∃ x,den g v=some x∧Yl P w rv (.field s y i) x:=by
 cases a with
 | a l =>
  obtain ⟨xs,h1,h2⟩:=AF hy;obtain ⟨x,h3,h4⟩:=xG (P:=P) (w:=w) h1 h ht;refine ⟨x,h3,fun d ty ps af gd=>?_⟩;obtain ⟨f,hf1,hf2,hf3⟩:∃ f,fs[i]?=some f∧f.type=e∧f.offset=off:=by
   cases hh:fs[i]? with
   | none=>simp [hh] at hf
   | some f=>rw [hh] at hf; simp at hf; exact ⟨f,rfl,hf⟩
  subst hf2; subst hf3;simp only [execOp,h2,Sem.run_bind,Instr.field,underlying,run_program,hu,Result.andThen_ok,Sem.run_pure,hf1,asAgg,h4]
 | _=>cases h
theorem aG5 {T n s e:Nat} {ag:Bool} (hT:P.underlying T=some (.array n e)) (hsz:(P.info? e).map (·.size)=some s) (ht:if ag then Many P e s else One P e) (hy:den g a=some (rv y)) (hz:den g b=some (rv z)) (h:aEn n s ag a b=some v):∃ x,den g v=some x∧Yl P w rv (.index T y z) x:=by
 unfold aEn at h;split at h
 ·rename_i k j;cases hb:Nat.blt j n with
  | false=>simp [hb] at h
  | true =>
   simp only [hb,cond_true] at h;have hj:j < n:=by rw [blt_eq] at hb; simpa using hb
   cases a with
   | a l =>
    obtain ⟨xs,h1,h2⟩:=AF hy;obtain ⟨x,h3,h4⟩:=xG (P:=P) (w:=w) h1 h ht;refine ⟨x,h3,fun d ty ps af gd=>?_⟩;exact EX.aEo (jI hs y z h2) (jH hs y z (cR hz)) ⟨e,hT,hsz⟩ true ⟨Int.natCast_nonneg _,Int.ofNat_lt.2 hj⟩ (fun e' w' he=>by
     rw [hT] at he; injection he with he; injection he with _ he; subst he;obtain ⟨x',h3',h4'⟩:=xG (P:=P) (w:=w') h1 h ht;rw [h3] at h3'; injection h3' with h3'; subst h3';exact h4') rv w (bA hs [y,z]) (aB.nil w)
   | _=>cases h
 ·cases h
end
end
noncomputable section
theorem oR {P:Program} {K:TypeId} {k:IntKind} (hK:P.underlying K=some (.int k)) (hk:kN k .u16=false):dX P K (aC k):=by
 have he:aC k=fun n=>.int k n:=funext (CB hk);rw [he];refine ⟨?_,?_,⟨_,hK,.inl fun a b=>?_⟩,?_⟩
 ·intro a b w;have:∀ d:Nat,(Op.equalIn (d + 1) K (.int k a) (.int k b)).run P w=.ok (decide (a=b)) w:=fun d=>by
   simp [Op.equalIn,run_underlying hK];rfl
  simp [Op.equal,Op.maxDepth,this 9999]
 ·intro a e w;rw [Instr.checkKey]; simp [run_underlying hK]
 ·simp [Instr.sameNow]; rfl
 intro a; simp [Instr.sameBits]
theorem aHw {P:Program} {K E:TypeId} {i:TypeInfo} (hK:P.underlying K=some (.array 2 E)) (hE:P.underlying E=some (.int .i64)) (hi:P.info? E=some i) (hc:P.cellsOf E=1) (h1:One P E):dX P K (aC .u16):=by
 have he:aC .u16=fun n=>.agg #[.int .i64 (n.fdiv 4294967296),.int .i64 (n.fmod 4294967296)]:=rfl;rw [he];have hp:∀ (a b:Value) w,(part E #[a,b] 0).run P w=.ok a w∧(part E #[a,b] 1).run P w=.ok b w:=fun a b w=>by
  constructor <;> simp [part,h1 w]
 have hp0:=fun a b w=>(hp a b w).1;have hp1:=fun a b w=>(hp a b w).2;refine ⟨?_,?_,⟨_,hK,.inr fun a b=>?_⟩,?_⟩
 ·intro a b w;have heq:∀ (d:Nat) (m n:Int),(Op.equalIn (d + 1) E (.int .i64 m) (.int .i64 n)).run P w=.ok (m == n) w:=fun d m n=>run_equalIn_int w d E _ _ m n hE;have:(Op.equalIn 10000 K (.agg #[.int .i64 (a.fdiv 4294967296),.int .i64 (a.fmod 4294967296)]) (.agg #[.int .i64 (b.fdiv 4294967296),.int .i64 (b.fmod 4294967296)])).run P w=.ok (decide (a=b)) w:=by
   rw [run_equalIn_array w 9999 _ _ hK hi];simp only [show List.range 2=[0,1] from rfl,Op.eqItems,hc,Nat.zero_mul,Nat.one_mul,Sem.run_bind,hp0,hp1,Result.andThen_ok,heq 9998];have h3:a=b↔(a.fdiv 4294967296=b.fdiv 4294967296∧a.fmod 4294967296=b.fmod 4294967296):=by
    constructor
    ·rintro rfl; exact ⟨rfl,rfl⟩
    rintro ⟨e1,e2⟩;rw [← Int.mul_fdiv_add_fmod a 4294967296,← Int.mul_fdiv_add_fmod b 4294967296,e1,e2]
   by_cases q1:a.fdiv 4294967296=b.fdiv 4294967296 <;> by_cases q2:a.fmod 4294967296=b.fmod 4294967296 <;> simp [q1,q2,h3,hp1,heq 9998]
  simp [Op.equal,Op.maxDepth,this]
 ·intro a e w;rw [Instr.checkKey];simp only [Sem.run_bind,run_underlying hK,Result.andThen_ok];have hck:∀ n (m:Int),(Instr.checkKey e (n + 1) E (.int .i64 m)).run P w=.ok () w:=fun n m=>by rw [Instr.checkKey]; simp [run_underlying hE]
  simp [Std.Legacy.Range.forIn_eq_forIn_range',Std.Legacy.Range.size,List.range',List.forIn_cons,Sem.run_bind,run_sizeOf w hi,hc,hp0,hp1,hck 9998]
 ·simp [Instr.sameNow]
 intro a; simp [Instr.sameBits]
theorem aHy (a b m:Nat):(Int.ofNat (Nat.add (Nat.mul a m) b))=(a:Int) * (m:Int) + (b:Int):=by
 show ((a * m + b:Nat):Int)=_;simp
theorem aHx (a b m:Nat) (h:b < m):((a:Int) * (m:Int) + (b:Int)).fdiv m=a∧((a:Int) * (m:Int) + (b:Int)).fmod m=b:=by
 have hm:(0:Int) < (m:Int):=by omega
 have hn:(0:Int)≤(m:Int):=by omega
 constructor
 ·rw [Int.fdiv_eq_ediv_of_nonneg _ hn,Int.add_comm,Int.add_mul_ediv_right _ _ (by omega),Int.ediv_eq_zero_of_lt (by omega) (by omega)]; simp
 rw [Int.fmod_eq_emod_of_nonneg _ hn,Int.add_comm,Int.add_mul_emod_self_right,Int.emod_eq_of_lt (by omega) (by omega)]
theorem qH {g:G} {kk:IntKind} {k:SV} {n:Int} {v:Value} (h:uI kk k=some n) (hv:den g k=some v):v=aC kk n:=by
 unfold uI at h;cases hk:kN kk .u16 with
 | false =>
  rw [hk] at h; simp only [cond_false] at h;unfold aKz at h;split at h
  ·rename_i j m;cases hj:kN j kk with
   | false=>rw [hj] at h; cases h
   | true =>
    rw [hj] at h; simp only [cond_true,Option.some.injEq] at h; subst h;have:=dO hj; subst this;rw [CB hk]; exact cR hv
  cases h
 | true =>
  rw [hk] at h; simp only [cond_true] at h;unfold aKy at h;split at h
  ·rename_i a b;cases hb:Nat.blt b 4294967296 with
   | false=>rw [hb] at h; cases h
   | true =>
    rw [hb] at h; simp only [cond_true,Option.some.injEq] at h; subst h;have hb':b < 4294967296:=Nat.le_of_ble_eq_true hb;have e1:v=.agg #[.int .i64 (a:Int),.int .i64 (b:Int)]:=(Option.some.inj hv).symm;unfold aC; rw [hk,e1,cond_true];have e2:(Int.ofNat (Nat.add (Nat.mul a 4294967296) b))=(a:Int) * 4294967296 + b:=aHy a b 4294967296;obtain ⟨e3,e4⟩:=aHx a b 4294967296 hb';rw [e2];show _=Value.agg #[.int .i64 (((a:Int) * ((4294967296:Nat):Int) + (b:Int)).fdiv ((4294967296:Nat):Int)),.int .i64 (((a:Int) * ((4294967296:Nat):Int) + (b:Int)).fmod ((4294967296:Nat):Int))];rw [e3,e4]
  cases h
abbrev eA (aD:List (Int × Value)) (a:Int):Option Value:=Go.Proofs.YtadggjnohohedaaGreatDoor.look aD a
theorem iN:∀ {l:List (Int × Value)} {a:Int} {v:Value},(l.map (·.1)).Nodup→(eA l a=some v↔(a,v)∈l)
 | [],a,v,_=>by simp [eA,Go.Proofs.YtadggjnohohedaaGreatDoor.look]
 | (b,u)::r,a,v,h=>by
  simp only [List.map_cons,List.nodup_cons] at h;have ih:=iN (l:=r) (a:=a) (v:=v) h.2
  by_cases e:a=b
  ·subst e;simp only [eA,Go.Proofs.YtadggjnohohedaaGreatDoor.look,List.find?_cons,decide_true,Option.map_some,Option.some.injEq,List.mem_cons,Prod.mk.injEq,true_and];constructor
   ·intro h'; exact .inl h'.symm
   rintro (h' | h')
   ·exact h'.symm
   exact (h.1 (List.mem_map.2 ⟨_,h',rfl⟩)).elim
  have:eA ((b,u)::r) a=eA r a:=by simp [eA,Go.Proofs.YtadggjnohohedaaGreatDoor.look,List.find?_cons,e]
  rw [this,ih];simp [e]
theorem zR {l m:List (Int × Value)} (p:l.Perm m) (h:(m.map (·.1)).Nodup) (a:Int):eA l a=eA m a:=by
 have h':(l.map (·.1)).Nodup:=(p.map (·.1)).nodup_iff.2 h;apply Option.ext;intro v;rw [iN h',iN h];exact p.mem_iff
theorem oX {g:G} {l:List SV} {xs:List Value} (h:aF (aT g) l=some xs):den g (.t l)=some (.tuple xs.toArray):=by simp [den,h]
section
variable {g:G}
theorem dN:∀ {l:List (Int × SV)} {vs:List (Int × Value)},aX g l=some vs→vs.map (·.1)=l.map (·.1)
 | [],vs,hv=>by simp [aX] at hv; subst hv; rfl
 | (k1,k2)::r,vs,hv=>by
  simp only [aX] at hv;cases a1:aT g k2 with
  | none=>simp [a1] at hv
  | some v1=>cases a2:aX g r with
   | none=>simp [a1,a2] at hv
   | some v2=>simp [a1,a2] at hv; subst hv; simp [dN a2]
theorem wH:∀ {l:List (Int × SV)} {vs:List (Int × Value)} (a:Int),aX g l=some vs→(∀ x,look l a=some x→∃ v,aT g x=some v∧eA vs a=some v)∧(look l a=none→eA vs a=none)
 | [],vs,a,hv=>by simp [aX] at hv; subst hv; exact ⟨fun x h=>(by cases h),fun _=>rfl⟩
 | (k1,k2)::r,vs,a,hv=>by
  simp only [aX] at hv;cases a1:aT g k2 with
  | none=>simp [a1] at hv
  | some v1=>cases a2:aX g r with
   | none=>simp [a1,a2] at hv
   | some v2 =>
    simp [a1,a2] at hv; subst hv;have ih:=wH a a2;have hl:look ((k1,k2)::r) a=bif ieq a k1 then some k2 else look r a:=rfl;rw [hl,jK]
    by_cases e:a=k1
    ·subst e;refine ⟨fun x h=>?_,fun h=>by simp at h⟩;simp at h; subst h;exact ⟨v1,a1,by simp [eA,Go.Proofs.YtadggjnohohedaaGreatDoor.look]⟩
    have:eA ((k1,v1)::v2) a=eA v2 a:=by simp [eA,Go.Proofs.YtadggjnohohedaaGreatDoor.look,List.find?_cons,e]
    rw [this];simp only [e,decide_false,cond_false];exact ih
end
def parts (pl:Nat→Option (Nat × Nat)) (oq:O→Operand→Bool):List (Nat × Nat × O)→List (Nat × Operand)→Bool
 | [],[]=>true
 | (off,size,x)::qs,(i,y)::ps=>(match pl i with | some (o,s)=>Nat.beq o off && Nat.beq s size | none=>false) && oq x y && parts pl oq qs ps
 | _,_=>false
theorem uT:∀ (n:Nat) (vs C:List Value),n + vs.length≤C.length→gV C n vs=some (C.take n++vs++C.drop (n + vs.length))
 | 0,[],C,h=>by simp [gV]
 | 0,v::vs,[],h=>by simp at h
 | 0,v::vs,c::C,h=>by
  simp only [gV];rw [uT 0 vs C (by simp at h ⊢; omega)];simp
 | n + 1,vs,[],h=>by simp at h
 | n + 1,vs,c::C,h=>by
  simp only [gV];rw [uT n vs C (by simp at h ⊢; omega)];rw [show n + 1 + vs.length=(n + vs.length) + 1 by omega]; simp
theorem wV {g:G} {lk:LK} {rv:Operand→Value} {oq:O→Operand→Bool} {pl:Nat→Option (Nat × Nat)} (hq:∀ x y v,oq x y=true→lk x=some v→den g v=some (rv y)) :
  ∀ {qs:List (Nat × Nat × O)} {ps:List (Nat × Operand)} {z l:List SV} {zs:List Value},parts pl oq qs ps=true→fill lk qs z=some l→aF (aE g) z=some zs →
   ∃ cs,aF (aE g) l=some cs∧lI pl zs (ps.map fun p=>(p.1,rv p.2))=some cs
 | [],[],z,l,zs,_,h,hz=>by
  have h':some z=some l:=h;injection h' with h'; subst h';exact ⟨zs,hz,rfl⟩
 | (off,size,x)::qs,(i,y)::ps,z,l,zs,hc,h,hz=>by
  simp only [parts,Bool.and_eq_true] at hc;obtain ⟨⟨h1,h2⟩,h3⟩:=hc;cases hp:pl i with
  | none=>simp [hp] at h1
  | some q =>
   obtain ⟨o,s⟩:=q;rw [hp] at h1; simp only [Bool.and_eq_true] at h1;have e1:=Nat.eq_of_beq_eq_true h1.1;have e2:=Nat.eq_of_beq_eq_true h1.2;subst e1; subst e2;have h':Option.rec (motive:=fun _=>Option (List SV)) none (fun v=>Option.rec (motive:=fun _=>Option (List SV)) none (fun cs=>bif Nat.beq (len cs) s then Option.rec (motive:=fun _=>Option (List SV)) none (fun z=>fill lk qs z) (iP o cs z) else none) (cells v)) (lk x)=some l:=h;cases a1:lk x with
   | none=>rw [a1] at h'; cases h'
   | some v =>
    rw [a1] at h'; dsimp only at h';cases a2:cells v with
    | none=>rw [a2] at h'; cases h'
    | some cs =>
     rw [a2] at h'; dsimp only at h';cases a3:Nat.beq (len cs) s with
     | false=>rw [a3] at h'; cases h'
     | true =>
      rw [a3] at h'; simp only [cond_true] at h';cases a4:iP o cs z with
      | none=>rw [a4] at h'; cases h'
      | some z' =>
       rw [a4] at h'; dsimp only at h';obtain ⟨b1,b2⟩:=sQ (hq x y v h2 a1) a2;obtain ⟨b3,b4⟩:=iO _ _ _ _ a4;have hl:(vc (rv y)).length=s:=by rw [cF b1,← len_eq]; exact Nat.eq_of_beq_eq_true a3
       have hl2:cs.length=s:=by rw [← len_eq]; exact Nat.eq_of_beq_eq_true a3
       have hzl:=cF hz;have hd:aF (aE g) z'=some (zs.take o++vc (rv y)++zs.drop (o + (vc (rv y)).length)):=by
        rw [b3,hl,← hl2];exact cY (cY (eG o hz) b1) (fG _ hz)
       obtain ⟨ds,c1,c2⟩:=wV hq h3 h' hd;refine ⟨ds,c1,?_⟩;simp only [List.map_cons,lI,hp,hl,Nat.beq_refl,cond_true];rw [uT o (vc (rv y)) zs (by rw [hl,hzl,← hl2]; exact b4)];exact c2
 | [],_::_,_,_,_,hc,_,_=>by cases hc
 | _::_,[],_,_,_,hc,_,_=>by cases hc
def X7 (P:Program) (T:TypeId) (zz:List SV):Prop:=∀ (g:G) (l m:List SV) (xs ys:List Value) (b:Bool) (w:World) (rv:Operand→Value) (y z:Operand) (T':TypeId) (op:A2) (v:SV),rF l zz=true→aF (aE g) l=some xs→aF (aE g) m=some ys→rv y=.agg xs.toArray→rv z=.agg ys.toArray→JV op (eqs l m)=some v →
 ∃ x,den g v=some x∧Yl P w rv (.binOp (a2 op) T y z T') x
section
variable {P:Program} {w W0:World} {rv:Operand→Value} {g:G} {me:T Ob} {R:List aA} {y z u:Operand} {a b c v:SV} (hs:Std rv)
include hs
theorem aHb {T:TypeId} {lk:LK} {oq:O→Operand→Bool} {pl:Nat→Option (Nat × Nat)} {qs:List (Nat × Nat × O)} {ps:List (Nat × Operand)} {zz l:List SV} {zs:List Value} (hq:∀ x y v,oq x y=true→lk x=some v→den g v=some (rv y))
  (hb:BD P T zs pl) (hz:aF (aE g) zz=some zs) (hp:parts pl oq qs ps=true) (h:fill lk qs zz=some l):∃ x,den g (.a l)=some x∧Yl P w rv (.build T ps.toArray) x:=by
 obtain ⟨cs,h1,h2⟩:=wV hq hp h hz;refine ⟨_,xB h1,fun d ty pos af gd=>?_⟩;have h3:P.built T (ps.map fun p=>(p.1,rv p.2))=some cs.toArray:=by rw [hb]; exact lA h2
 have h4:=run_build (P:=P) w T (ps.map fun p=>(p.1,rv p.2)).toArray cs.toArray (by simpa using h3);have h5:(ps.toArray.map fun (p:Nat × Operand)=>(p.1,rv p.2))=(ps.map fun p=>(p.1,rv p.2)).toArray:=by simp
 simp only [execOp];rw [show (ps.toArray.map fun (x:Nat × Operand)=>match x with | (i,x)=>(i,rv x))=(ps.map fun p=>(p.1,rv p.2)).toArray from by simp];simp only [Sem.run_bind,h4,Result.andThen_ok]; rfl
theorem aNt {T K E:TypeId} {kk:IntKind} {zv:Value} {zz:SV} {ok:Bool} (hT:P.underlying T=some (.map K E)) (hK:dX P K (aC kk)) (hz:ZV P E zv) (hzz:aT g zz=some zv) (hm:aB W0 w (mem g me++R)) (hy:den g a=some (rv y)) (hk:den g b=some (rv z)) (h:lkV me kk zz a b ok=some v) :
  ∃ x,den g v=some x∧Yl P w rv (.lookup T y z ok) x:=by
 unfold lkV at h;split at h
 ·rename_i i;cases hg:EV.T.get i me with
  | none=>rw [hg] at h; cases h
  | some o =>
   rw [hg] at h;cases o with
   | m k aD =>
    dsimp only at h;cases hc:kN kk k with
    | false=>rw [hc] at h; cases h
    | true =>
     rw [hc] at h; simp only [cond_true] at h;have e2:=dO hc;subst e2;cases hn:uI kk b with
     | none=>rw [hn] at h; cases h
     | some n =>
     rw [hn] at h; dsimp only at h;simp only [den,aT,aE,aI,Option.map_eq_some_iff] at hy;obtain ⟨q,hq,e⟩:=hy;have ez:=qH hn hk;obtain ⟨x,h1⟩:=(fO hm hg).aP;obtain ⟨⟨h2,h3,h4,h5⟩,h6⟩:=h1.aS.aN;obtain rfl:q=(x.1,x.2.1):=by rw [hq] at h2; exact Option.some.inj h2
     have hlp:=zR h4 (by rw [dN h3]; exact h5) n;obtain ⟨l1,l2⟩:=wH n h3;have hrun:∀ d ty ps af gd,(execOp rv ⟨d,.lookup T y z ok,ty,ps,af,gd⟩).run P w=.ok (.value (if ok then .tuple #[fT zv (eA x.2.2.1 n),.bool (eA x.2.2.1 n).isSome] else fT zv (eA x.2.2.1 n))) w:=by
      intro d ty ps af gd;rw [← hlp];cases ok with
      | true=>exact EX.ES (jI hs y z e.symm) (jH hs y z ez) .here hK hT hz rv w (bA hs [y,z]) h6
      | false=>exact EX.lookup (jI hs y z e.symm) (jH hs y z ez) .here hK hT hz rv w (bA hs [y,z]) h6
     cases hl:look aD n with
     | none =>
      rw [hl] at h; simp only [Option.some.injEq] at h; subst h;refine ⟨_,?_,hrun⟩;rw [l2 hl];cases ok with
      | true=>exact oX (bT hzz (bT (x:=.b false) (v:=.bool false) rfl rfl))
      | false=>simpa [fT] using xC hzz
     | some x' =>
      rw [hl] at h; simp only [Option.some.injEq] at h; subst h;obtain ⟨vv,m1,m2⟩:=l1 x' hl;refine ⟨_,?_,hrun⟩;rw [m2];cases ok with
      | true =>
       exact oX (bT m1 (bT (x:=.b true) (v:=.bool true) rfl rfl))
      | false=>simpa [fT] using xC m1
   | _=>cases h
 ·cases h
theorem aGz {T:TypeId} {td:TypeDesc} {op:A2} {T':TypeId} (hT:P.underlying T=some td) (hp:rC .p td=true) (hy:den g a=some (rv y)) (hz:rv z=.pointer none) (h:JV op (isNil a)=some v):∃ x,den g v=some x∧Yl P w rv (.binOp (a2 op) T y z T') x:=by
 cases td <;> simp only [rC,Bool.false_eq_true] at hp;cases a with
 | p i o =>
  obtain ⟨q,e1,e2⟩:=fH hy;cases op <;> simp only [JV,isNil,Option.map_some,Option.some.injEq,reduceCtorEq] at h
  ·subst h; exact ⟨_,rfl,fun d ty ps af gd=>EX.T8 (jI hs y z e2) (jH hs y z hz) hT rv w (bA hs [y,z]) (aB.nil w)⟩
  subst h; exact ⟨_,rfl,fun d ty ps af gd=>EX.WM (jI hs y z e2) (jH hs y z hz) hT rv w (bA hs [y,z]) (aB.nil w)⟩
 | pn =>
  have e2:rv y=.pointer none:=(Option.some.inj hy).symm;cases op <;> simp only [JV,isNil,Option.map_some,Option.some.injEq,reduceCtorEq] at h
  ·subst h; exact ⟨_,rfl,fun d ty ps af gd=>EX.T8 (jI hs y z e2) (jH hs y z hz) hT rv w (bA hs [y,z]) (aB.nil w)⟩
  subst h; exact ⟨_,rfl,fun d ty ps af gd=>EX.WM (jI hs y z e2) (jH hs y z hz) hT rv w (bA hs [y,z]) (aB.nil w)⟩
 | _=>cases op <;> simp [JV,isNil] at h
end
end
noncomputable section
section
variable {P:Program} {w W0:World} {rv:Operand→Value} {g:G} {me:T Ob} {R:List aA} {y z u:Operand} {a b c v:SV} (hs:Std rv)
include hs
theorem aA1 {T:TypeId} {td:TypeDesc} {op:A2} {T':TypeId} (hT:P.underlying T=some td) (hp:rC .l td=true) (hy:den g a=some (rv y)) (hz:rv z=.slice none 0 0) (h:JV op (wN a)=some v):∃ x,den g v=some x∧Yl P w rv (.binOp (a2 op) T y z T') x:=by
 cases td <;> simp only [rC,Bool.false_eq_true] at hp;have key:∀ (ad:Option Addr) (n c:Nat),rv y=.slice ad n c→wN a=some ad.isNone→(ad=none→n=0∧c=0)→∃ x,den g v=some x∧Yl P w rv (.binOp (a2 op) T y z T') x:=by
  intro ad n c ey hn hnc;rw [hn] at h;have hg:∀ o,(eqGuard o T y z (.slice ad n c) (.slice none 0 0)).run P w=.ok () w:=fun o=>by cases o <;> simp [eqGuard]
  cases op <;> simp only [JV,Option.map_some,Option.some.injEq,reduceCtorEq] at h
  ·subst h;refine ⟨.bool ad.isNone,rfl,fun d ty ps af gd=>?_⟩;simp only [a2,execOp,ey,hz,Sem.run_bind,hg,Result.andThen_ok,Go.run_eql_slice_nil w _ _ _ _ _ hT]; rfl
  subst h;refine ⟨.bool (!ad.isNone),rfl,fun d ty ps af gd=>?_⟩;simp only [a2,execOp,ey,hz,Sem.run_bind,hg,Result.andThen_ok,Go.run_neq_slice_nil w _ _ _ _ _ hT]; rfl
 cases a with
 | sl i o n c =>
  simp only [den,aT,aE,aI,Option.map_eq_some_iff] at hy;obtain ⟨q,_,e⟩:=hy;exact key _ _ _ e.symm rfl (fun e=>by cases e)
 | sr i n =>
  simp only [den,aT,aE,aI,Option.map_eq_some_iff] at hy;obtain ⟨q,_,e⟩:=hy;exact key _ _ _ e.symm rfl (fun e=>by cases e)
 | sn=>exact key _ _ _ (Option.some.inj hy).symm rfl (fun _=>⟨rfl,rfl⟩)
 | _=>cases op <;> simp [wN,JV] at h
theorem aNy {T:TypeId} {td:TypeDesc} {op:A2} {tk:TK} {T':TypeId} (hT:P.underlying T=some td) (htk:rC tk td=true) (he:∀ zz,tk=.a zz→X7 P T zz) (hy:den g a=some (rv y)) (hz:den g b=some (rv z)) (h:arV op tk a b=some v) :
  ∃ x,den g v=some x∧Yl P w rv (.binOp (a2 op) T y z T') x:=by
 have other:∀ (ho:(match (generalizing:=false) b,tk with | .pn,.p=>JV op (isNil a) | .sn,.l=>JV op (wN a) | _,_=>none)=some v),∃ x,den g v=some x∧Yl P w rv (.binOp (a2 op) T y z T') x:=by
  intro ho;split at ho
  ·exact aGz hs hT htk hy (Option.some.inj hz).symm ho
  ·exact aA1 hs hT htk hy (Option.some.inj hz).symm ho
  cases ho
 cases a with
 | i k m =>
  cases b with
  | i j n =>
   simp only [arV] at h;cases hsh:aK2 op with
   | true=>rw [hsh] at h; exact aGx hs (cR hy) (cR hz) h
   | false =>
    cases hk:kN k j with
    | false=>rw [hsh,hk] at h; cases h
    | true =>
     rw [hsh,hk] at h; simp only [cond_true,cond_false] at h;have:=dO hk; subst this;exact aHd hs (cR hy) (cR hz) h
  | z m' e =>
   simp only [arV] at h;split at h
   ·rename_i d;try dsimp only at h
    cases hc:(and (Nat.ble d 256) (Nat.ble e 256)) with
    | false=>rw [hc] at h; cases h
    | true =>
     rw [hc] at h; simp only [cond_true,Option.some.injEq] at h; subst h;simp only [Bool.and_eq_true] at hc;have h1:=Nat.le_of_ble_eq_true hc.1;have h2:=Nat.le_of_ble_eq_true hc.2;have ez:rv z=.int .i64 ((e + g.BO m':Nat):Int):=(Option.some.inj hz).symm;have hm:=g.O5 m';refine ⟨.int .i64 ((d + e + g.BO m':Nat):Int),rfl,fun dd ty ps af gd=>EX.add (jI hs y z (cR hy)) (jH hs y z ez) ?_ rv w (bA hs [y,z]) (aB.nil w)⟩;rw [IntWalk.i64_in _ ⟨by simp only [Int.ofNat_eq_natCast]; omega,by simp only [Int.ofNat_eq_natCast]; omega⟩];simp only [Int.ofNat_eq_natCast]; omega
   cases h
  | _=>cases h
 | s n m =>
  cases b with
  | s n' m' =>
   obtain ⟨h1,h2⟩:=lK hy;obtain ⟨h3,h4⟩:=lK hz;exact aHc hs h1 h3 h2 h4 h
  | _=>cases h
 | a l =>
  simp only [arV] at h;split at h
  ·rename_i m zz;obtain ⟨xs,h1,h2⟩:=AF hy;obtain ⟨ys,h3,h4⟩:=AF hz;cases hsh:rF l zz with
   | false=>rw [hsh] at h; cases h
   | true =>
    rw [hsh] at h;exact he zz rfl g l m xs ys true w rv y z T' op v hsh h1 h3 h2 h4 h
  cases h
 | w k p q =>
  simp only [arV] at h;split at h
  ·rename_i m;try dsimp only at h
   simp only [den,aT,aE,aI] at hy;split at hy
   ·rename_i hc;injection hy with hy;cases h7:Nat.beq m 7 with
    | true =>
     rw [h7] at h; simp only [cond_true] at h;have:=Nat.eq_of_beq_eq_true h7; subst this;cases ha:Nat.beq p 7 with
     | true =>
      rw [ha] at h; simp only [cond_true,Option.some.injEq] at h; subst h;refine ⟨.int .i64 ((0 + g.BO 0:Nat):Int),rfl,fun d ty ps af gd=>EX.rem (jI hs y z hy.symm) (jH hs y z (cR hz)) (by decide) ?_ rv w (bA hs [y,z]) (aB.nil w)⟩;rw [Nat.zero_add]; rfl
     | false =>
      rw [ha] at h; simp only [cond_false,Option.some.injEq] at h; subst h;have hp:g.w % 7=p:=hc.1.resolve_left (fun e=>by subst e; cases ha);exact ⟨_,rfl,fun d ty ps af gd=>EX.rem (jI hs y z hy.symm) (jH hs y z (cR hz)) (by decide) (by rw [← hp]; rfl) rv w (bA hs [y,z]) (aB.nil w)⟩
    | false =>
     rw [h7] at h; simp only [cond_false] at h;cases h4:Nat.beq m 4 with
     | true =>
      rw [h4] at h; simp only [cond_true] at h;have:=Nat.eq_of_beq_eq_true h4; subst this;cases hb:Nat.beq q 4 with
      | true=>rw [hb] at h; cases h
      | false =>
       rw [hb] at h; simp only [cond_false,Option.some.injEq] at h; subst h;have hp:g.w % 4=q:=hc.2.resolve_left (fun e=>by subst e; cases hb);exact ⟨_,rfl,fun d ty ps af gd=>EX.rem (jI hs y z hy.symm) (jH hs y z (cR hz)) (by decide) (by rw [← hp]; rfl) rv w (bA hs [y,z]) (aB.nil w)⟩
     | false=>rw [h4] at h; cases h
   ·cases hy
  cases h
 | y k =>
  simp only [arV] at h;split at h
  ·rename_i m;try dsimp only at h
   cases h0:Nat.beq m 0 with
   | true=>rw [h0] at h; cases h
   | false =>
    rw [h0] at h; simp only [cond_false,Option.some.injEq] at h; subst h;have hm0:m≠0:=fun e=>by subst e; simp at h0
    have ey:rv y=.int .i64 g.n:=(Option.some.inj hy).symm;exact ⟨.int .i64 ((0 + g.BO m:Nat):Int),rfl,fun d ty ps af gd=>EX.rem (jI hs y z ey) (jH hs y z (cR hz)) (by intro e; injection e with e; exact hm0 e) (by rw [Nat.zero_add,G.BO,if_neg hm0]; rfl) rv w (bA hs [y,z]) (aB.nil w)⟩
  cases h
 | _=>exact other h
end
end
noncomputable section
theorem ZP {n l h v:Nat} (hl:l≤h) (hh:h≤n):((cA n v).drop l).take (h - l)=cA (h - l) (v / 256 ^ (n - h) % 256 ^ (h - l)):=by
 have h1:cA n v=cA h (v / 256 ^ (n - h))++cA (n - h) (v % 256 ^ (n - h)):=by
  have:=qR (n - h) (n:=h) (v:=v / 256 ^ (n - h)) (w:=v % 256 ^ (n - h)) (Nat.mod_lt _ (Nat.pow_pos (by omega)));rw [show h + (n - h)=n by omega,Nat.mul_comm,Nat.div_add_mod] at this;exact this
 have h2:cA h (v / 256 ^ (n - h))=cA l (v / 256 ^ (n - h) / 256 ^ (h - l))++cA (h - l) (v / 256 ^ (n - h) % 256 ^ (h - l)):=by
  have:=qR (h - l) (n:=l) (v:=v / 256 ^ (n - h) / 256 ^ (h - l)) (w:=v / 256 ^ (n - h) % 256 ^ (h - l)) (Nat.mod_lt _ (Nat.pow_pos (by omega)));rw [show l + (h - l)=h by omega,Nat.mul_comm,Nat.div_add_mod] at this;exact this
 rw [h1,h2,List.append_assoc,List.drop_append_of_le_length (by rw [cP]; exact Nat.le_refl _),List.drop_of_length_le (by rw [cP]; exact Nat.le_refl _),List.nil_append,List.take_append_of_le_length (by rw [cP]; exact Nat.le_refl _),List.take_of_length_le (by rw [cP]; exact Nat.le_refl _)]
theorem V8 {n l h v:Nat} (hl:l≤h) (hh:h≤n):(dD n v).extract l h=dD (h - l) (v / 256 ^ (n - h) % 256 ^ (h - l)):=by
 unfold dD;rw [ByteArray.extract_mk,ZP hl hh]
def J0 (oq:O→Operand→Bool):Option O→Option Operand→Bool
 | none,none=>true
 | some x,some y=>oq x y
 | _,_=>false
section
variable {P:Program} {w W0:World} {rv:Operand→Value} {g:G} {me:T Ob} {R:List aA} {y z u:Operand} {a b c v:SV} {lk:LK} {oq:O→Operand→Bool}
theorem vB (hq:∀ x y v,oq x y=true→lk x=some v→den g v=some (rv y)) {x:Option O} {o:Option Operand} {d n:Nat} (hc:J0 oq x o=true) (h:bnd lk x d=some n):(o=none∧x=none∧n=d)∨∃ k yo,o=some yo∧x.isNone=false∧rv yo=.int k (n:Int):=by
 cases x with
 | none =>
  cases o with
  | none=>exact .inl ⟨rfl,rfl,(Option.some.inj h).symm⟩
  | some yo=>cases hc
 | some x =>
  cases o with
  | none=>cases hc
  | some yo =>
   right;have h':(match (generalizing:=false) lk x with
    | some (.i _ (.ofNat j))=>some j
    | _=>none)=some n:=h
   split at h'
   ·rename_i k j hl;injection h' with h'; subst h';exact ⟨k,yo,rfl,rfl,cR (hq _ _ _ hc hl)⟩
   cases h'
theorem oY {n l h:Nat} {lo hi:Option Value} (hlo:(lo=none∧l=0)∨∃ k,lo=some (.int k (l:Int))) (hhi:(hi=none∧h=n)∨∃ k,hi=some (.int k (h:Int))) (hl:l≤h) (hh:h≤n):(Instr.sliceBounds false n n lo hi none).run P w=.ok (l,h,n) w:=by
 have e1:∀ k c,(Instr.sliceBound (.int k (h:Int)) n c).run P w=.ok h w:=fun k c=>by
  have:=run_sliceBound (P:=P) w k (h:Int) n c (Int.natCast_nonneg _) (by omega);simpa using this
 have e2:∀ k c,(Instr.sliceBound (.int k (l:Int)) h c).run P w=.ok l w:=fun k c=>by
  have:=run_sliceBound (P:=P) w k (l:Int) h c (Int.natCast_nonneg _) (by omega);simpa using this
 rcases hlo with ⟨rfl,rfl⟩ | ⟨k1,rfl⟩ <;> rcases hhi with ⟨rfl,rfl⟩ | ⟨k2,rfl⟩ <;> simp [Instr.sliceBounds,e1,e2]
theorem aGu {t:TypeId} {x:O} {lo hi:Option O} {lo' hi':Option Operand} (hq:∀ x y v,oq x y=true→lk x=some v→den g v=some (rv y)) (ht:P.underlying t=some .string) (hx:oq x y=true) (hlo:J0 oq lo lo'=true) (hhi:J0 oq hi hi'=true)
  (h:ob (lk x) (fun x=>E2 x (bnd lk lo 0) (bnd lk hi 0) hi.isNone)=some v):∃ q,den g v=some q∧Yl P w rv (.slice t y lo' hi' none) q:=by
 cases hl:lk x with
 | none=>rw [hl] at h; cases h
 | some a =>
  rw [hl] at h;have h':E2 a (bnd lk lo 0) (bnd lk hi 0) hi.isNone=some v:=h;have ha:=hq _ _ _ hx hl;unfold E2 at h';split at h'
  ·rename_i n m;obtain ⟨hm,ey⟩:=lK ha;split at h'
   ·rename_i l hbl;split at h'
    ·rename_i hh hbh;cases hb:(and (Nat.ble l hh) (Nat.ble hh n)) with
     | false=>rw [hb] at h'; cases h'
     | true =>
      rw [hb] at h';simp only [cond_true,Option.some.injEq] at h'; subst h';simp only [Bool.and_eq_true] at hb;have b1:=Nat.le_of_ble_eq_true hb.1;have b2:=Nat.le_of_ble_eq_true hb.2;have q1:(lo'.map rv=none∧l=0)∨∃ k,lo'.map rv=some (.int k (l:Int)):=by
       rcases vB (rv:=rv) hq hlo hbl with ⟨e1,e2,e3⟩ | ⟨k,yo,e1,e2,e3⟩
       ·exact .inl ⟨by rw [e1]; rfl,e3⟩
       exact .inr ⟨k,by rw [e1]; simp [e3]⟩
      have q2:(hi'.map rv=none∧hh=n)∨∃ k,hi'.map rv=some (.int k (hh:Int)):=by
       cases hi with
       | none =>
        cases hi' with
        | none=>exact .inl ⟨rfl,by simpa using hbh.symm⟩
        | some _=>cases hhi
       | some xo =>
        have aSe:bnd lk (some xo) 0=some hh:=hbh;rcases vB (rv:=rv) hq hhi aSe with ⟨e1,e2,e3⟩ | ⟨k,yo,e1,e2,e3⟩
        ·cases e2
        exact .inr ⟨k,by rw [e1]; simp [e3]⟩
      refine ⟨.string ((dD n m).extract l hh),?_,fun d ty ps af gd=>?_⟩
      ·rw [V8 b1 b2];exact JX (Nat.mod_lt _ (Nat.pow_pos (by omega)))
      have hr:=oY (P:=P) (w:=w) (n:=n) q1 q2 b1 b2;have e3:(dD n m).size=n:=eB n m;simp only [execOp,Option.map_none,ey,Sem.run_bind,run_sliceAt_string w t _ _ _ _ ht,Instr.slice,underlying,run_program,Result.andThen_ok,ht,Sem.run_pure,Option.isSome_none,Bool.false_eq_true,if_false,e3,hr]
    cases h'
   cases h'
  cases h'
theorem aGv {t e s:Nat} {a b v:SV} {y z:Operand} (ht:SL P t e s) (hy:den g a=some (rv y)) (hz:den g b=some (rv z)) (h:aBq a b=some v):∃ q,den g v=some q∧Yl P w rv (.slice t y (some z) none none) q:=by
 unfold aBq at h;split at h
 ·rename_i n;cases hb:Nat.beq n 0 with
  | false=>rw [hb] at h; cases h
  | true =>
   rw [hb] at h;injection h with h; subst h;have:=Nat.eq_of_beq_eq_true hb; subst this;have ez:=cR hz;have ey:rv y=.slice none 0 0:=(Option.some.inj hy).symm;obtain ⟨h1,h2⟩:=ht;cases hi:P.info? e with
   | none=>rw [hi] at h2; cases h2
   | some i =>
    refine ⟨.slice none 0 0,rfl,fun d ty ps af gd=>?_⟩;simp only [execOp,ey,Option.map_none,Option.map_some,ez,Sem.run_bind,Instr.sliceAt,Instr.slice,underlying,run_program,Result.andThen_ok,h1,Sem.run_pure,Instr.sliceBounds,Instr.sliceBound,asIntOf,sizeOf,typeInfo,hi];simp
 cases h
theorem aGw {t n s:Nat} {x:O} {lo hi:Option O} {lo' hi':Option Operand} (hq:∀ x y v,oq x y=true→lk x=some v→den g v=some (rv y)) (ht:AR P t n s) (hx:oq x y=true) (hlo:J0 oq lo lo'=true) (hhi:J0 oq hi hi'=true)
  (h:ob (lk x) (fun x=>E4 n s x (bnd lk lo 0) (bnd lk hi n))=some v):∃ q,den g v=some q∧Yl P w rv (.slice t y lo' hi' none) q:=by
 obtain ⟨e,ht1,ht2⟩:=ht;have hsz:(sizeOf e).run P w=.ok s w:=by
  cases hi:P.info? e with
  | none=>simp [hi] at ht2
  | some i=>rw [hi] at ht2; simp at ht2; simp [sizeOf,typeInfo,hi,ht2]
 cases hl:lk x with
 | none=>rw [hl] at h; cases h
 | some a =>
  rw [hl] at h;have h':E4 n s a (bnd lk lo 0) (bnd lk hi n)=some v:=h;have ha:=hq _ _ _ hx hl;unfold E4 at h';split at h'
  ·rename_i i o;obtain ⟨q,hq1,ey⟩:=fH ha;split at h'
   ·rename_i l hh hbl hbh;cases hb:(and (Nat.ble l hh) (Nat.ble hh n)) with
    | false=>rw [hb] at h'; cases h'
    | true =>
     rw [hb] at h';simp only [cond_true,Option.some.injEq] at h'; subst h';simp only [Bool.and_eq_true] at hb;have b1:=Nat.le_of_ble_eq_true hb.1;have b2:=Nat.le_of_ble_eq_true hb.2;have q1:(lo'.map rv=none∧l=0)∨∃ k,lo'.map rv=some (.int k (l:Int)):=by
      rcases vB (rv:=rv) hq hlo hbl with ⟨e1,e2,e3⟩ | ⟨k,yo,e1,e2,e3⟩
      ·exact .inl ⟨by rw [e1]; rfl,e3⟩
      exact .inr ⟨k,by rw [e1]; simp [e3]⟩
     have q2:(hi'.map rv=none∧hh=n)∨∃ k,hi'.map rv=some (.int k (hh:Int)):=by
      rcases vB (rv:=rv) hq hhi hbh with ⟨e1,e2,e3⟩ | ⟨k,yo,e1,e2,e3⟩
      ·exact .inl ⟨by rw [e1]; rfl,e3⟩
      exact .inr ⟨k,by rw [e1]; simp [e3]⟩
     have hr:=oY (P:=P) (w:=w) (n:=n) q1 q2 b1 b2;refine ⟨.slice (some (if n=l then ⟨q.1,o,none⟩ else (⟨q.1,o,none⟩:Addr).add (l * s))) (hh - l) (n - l),?_,fun d ty ps af gd=>?_⟩
     ·by_cases e:n=l
      ·subst e;simp [den,aT,aE,aI,hq1]
      have hbn:Nat.beq n l=false:=by
       cases hh':Nat.beq n l with
       | false=>rfl
       | true=>exact (e (Nat.eq_of_beq_eq_true hh')).elim
      simp [den,aT,aE,aI,hq1,hbn,e,dI]
     simp only [execOp,Option.map_none,ey,Sem.run_bind,Instr.sliceAt,underlying,run_program,Result.andThen_ok,ht1,Sem.run_pure,Instr.sureAddr,hr,hsz]
   cases h'
  cases h'
theorem aG0 (hs:Std rv) {tys:Array TypeId} (hy:den g a=some (rv y)) (hz:den g b=some (rv z)) (hu:den g c=some (rv u)) (h:ob (WO a b) (fun e=>WO e c)=some v):∃ x,den g v=some x∧Yl P w rv (.call { callee:=.builtin .max,args:=#[y,z,u],argTypes:=tys }) x:=by
 cases h1:WO a b with
 | none=>rw [h1] at h; cases h
 | some e =>
  rw [h1] at h;have h2:WO e c=some v:=h;unfold WO at h1;split at h1
  ·rename_i k m j n;cases hk:kN k j with
   | false=>simp [hk] at h1
   | true =>
    have:=dO hk; subst this;simp only [hk,cond_true,Option.some.injEq] at h1;have ey:=cR hy;have ez:=cR hz;have he:e=.i k (if n > m then n else m):=by
     rw [← h1,mB]
     by_cases hlt:m < n <;> simp [hlt]
    subst he;unfold WO at h2;split at h2
    ·rename_i k' m' j' n' heq;injection heq with q1 q2; subst q1; subst q2;cases hk2:kN k j' with
     | false=>simp [hk2] at h2
     | true =>
      have:=dO hk2; subst this;simp only [hk2,cond_true,Option.some.injEq] at h2;have eu:=cR hu;refine ⟨.int k (if n' > (if n > m then n else m) then n' else (if n > m then n else m)),?_,fun d ty ps af gd=>EX.aIw (W0:=w) (L:=[]) (kn:=uH rv [y,z,u]) ((dH hs (by simp)).trans (by rw [ey])) ((dH hs (by simp)).trans (by rw [ez])) ((dH hs (by simp)).trans (by rw [eu])) rfl rv w (bA hs _) (aB.nil w)⟩;rw [← h2,mB]
      by_cases hlt:(if n > m then n else m) < n' <;> simp [hlt,den,aT,aE,aI]
    cases h2
  cases h1
theorem aG3 {t:TypeId} {bb:Nat} {l:List SV} (h1:One P t) (hg:∀ o v,l[o]?=some v→∃ x,(∀ g,aE g v=some x)∧W0.cell? ⟨bb,o,none⟩=some x) (hm:aB W0 w (mem g me++R)) (hy:den g a=some (rv y)) (h:aD2 bb l a=some v):∃ x,den g v=some x∧Yl P w rv (.load t y) x:=by
 unfold aD2 at h;split at h
 ·rename_i b' o;cases hb:Nat.beq bb b' with
  | false=>rw [hb] at h; cases h
  | true =>
   rw [hb] at h;have:=Nat.eq_of_beq_eq_true hb; subst this;simp only [cond_true,hZ] at h;obtain ⟨x,k1,k2⟩:=hg o v h;have hrd:=keep hm.1 k2;have ey:rv y=.pointer (some ⟨bb,o,none⟩):=(Option.some.inj hy).symm;exact ⟨x,xD (k1 g),fun d ty ps af gd=>by
    simp only [execOp,ey,Sem.run_bind,Instr.loadAt,Instr.sureAddr,loadVar,h1 w,Result.andThen_ok,Sem.run_pure,Bool.false_eq_true,if_false,run_load,hrd]⟩
 cases h
end
end
noncomputable section
structure FT where
 fa:Nat→Nat→Nat→Bool
 one:Nat→Bool
 many:Nat→Nat→Bool
 tk:TK→Nat→Bool
 toI:Nat→Nat→IntKind→Bool
 toS:Nat→Nat→Bool
 bd:Nat→List SV→List (Nat × Nat × Nat)→Bool
 sl:Nat→Nat→Bool
 ar:Nat→Nat→Nat→Bool
 str:Nat→Bool
 ara:Nat→Nat→Nat→Bool→Bool
 YU:Nat→Nat→Nat→Nat→Bool→Bool
 lk:Nat→IntKind→SV→Bool
 al:Nat→List SV→Bool
 bs:Nat→Nat→Nat→Nat→List SV→Bool
 bs0:Nat→Nat→Nat→Bool
 sz:Nat→Nat→Bool
 ap:Nat→Nat→Nat→Nat→Bool
 mp:Nat→IntKind→Bool
 toB:Nat→Nat→Nat→Bool
 gl:Nat→List SV→Bool
def DP:List (Nat × Nat × O)→List (Nat × Operand)→List (Nat × Nat × Nat)
 | (off,size,x)::qs,(i,y)::ps=>(i,off,size)::DP qs ps
 | _,_=>[]
def Y4 (oq:O→Operand→Bool):List (Nat × Nat × O)→List (Nat × Operand)→Bool
 | [],[]=>true
 | (off,size,x)::qs,(i,y)::ps=>oq x y && Y4 oq qs ps
 | _,_=>false
theorem EI {pl:Nat→Option (Nat × Nat)} {oq:O→Operand→Bool}:∀ {qs:List (Nat × Nat × O)} {ps:List (Nat × Operand)},Y4 oq qs ps=true→(∀ t∈DP qs ps,pl t.1=some (t.2.1,t.2.2))→parts pl oq qs ps=true
 | [],[],_,_=>rfl
 | (off,size,x)::qs,(i,y)::ps,h,ht=>by
  simp only [Y4,Bool.and_eq_true] at h;have h1:=ht (i,off,size) (by simp [DP]);simp only [parts,h1,Nat.beq_refl,h.1,EI h.2 (fun t hm=>ht t (by simp [DP,hm])),Bool.and_self]
 | [],_::_,h,_=>by cases h
 | _::_,[],h,_=>by cases h
structure FT.Ok (F:FT) (P:Program) (W0:World):Prop where
 fa:∀ s i o,F.fa s i o=true→FA P s i o
 one:∀ t,F.one t=true→One P t
 many:∀ t n,F.many t n=true→Many P t n
 tk:∀ k t,F.tk k t=true→∃ td,P.underlying t=some td∧rC k td=true∧(∀ zz,k=.a zz→X7 P t zz)
 toI:∀ s t k,F.toI s t k=true→(∃ td,P.underlying s=some td)∧P.underlying t=some (.int k)
 toS:∀ s t,F.toS s t=true→∃ e,P.underlying s=some (.slice e)∧P.underlying e=some (.int .u8)∧P.underlying t=some .string
 bd:∀ t z l,F.bd t z l=true→∃ zs pl,(∀ g,aF (aE g) z=some zs)∧BD P t zs pl∧(∀ q∈l,pl q.1=some (q.2.1,q.2.2))
 sl:∀ t s,F.sl t s=true→∃ e,SL P t e s
 ar:∀ t n s,F.ar t n s=true→AR P t n s
 str:∀ t,F.str t=true→P.underlying t=some .string
 ara:∀ t n s ag,F.ara t n s ag=true→∃ e,P.underlying t=some (.array n e)∧(P.info? e).map (·.size)=some s∧(if ag then Many P e s else One P e)
 YU:∀ s i o n ag,F.YU s i o n ag=true→∃ fs e,P.underlying s=some (.struct fs)∧(fs[i]?).map (fun f=>(f.type,f.offset))=some (e,o)∧(if ag then Many P e n else One P e)
 lk:∀ t k z,F.lk t k z=true→∃ K E zv,P.underlying t=some (.map K E)∧dX P K (aC k)∧ZV P E zv∧∀ g,aT g z=some zv
 al:∀ t z,F.al t z=true→∃ zs,AL P t zs∧∀ g,aF (aE g) z=some zs
 bs:∀ t e z n zs,F.bs t e z n zs=true→∃ zero,BS P t e z zero∧n * z≤1000∧0 < n∧(∀ g,aF (aE g) zs=some (zeros zero n))∧n≤maxLen
 bs0:∀ t e z,F.bs0 t e z=true→P.underlying t=some (.slice e)∧(P.info? e).map (·.size)=some z
 sz:∀ t n,F.sz t n=true→SZ P t n
 ap:∀ t e z b,F.ap t e z b=true→∃ zv,C2 P t e z b zv
 mp:∀ t k,F.mp t k=true→∃ K E,P.underlying t=some (.map K E)∧dX P K (aC k)
 toB:∀ s t e,F.toB s t e=true→P.underlying s=some .string∧P.underlying t=some (.slice e)∧P.underlying e=some (.int .u8)
 gl:∀ b l,F.gl b l=true→∀ (o:Nat) (v:SV),l[o]?=some v→∃ x,(∀ g,aE g v=some x)∧W0.cell? ⟨b,o,none⟩=some x
def opB:A2→BinOp→Bool
 | .add,.add=>true | .sub,.sub=>true | .mul,.mul=>true | .quo,.quo=>true | .rem,.rem=>true | .and,.and=>true | .or,.or=>true | .shl,.shl=>true | .shr,.shr=>true
 | .lss,.lss=>true | .leq,.leq=>true | .gtr,.gtr=>true | .geq,.geq=>true | .eql,.eql=>true | .neq,.neq=>true
 | _,_=>false
theorem aCr {a:A2} {b:BinOp} (h:opB a b=true):b=a2 a:=by cases a <;> cases b <;> first | rfl | (cases h; done)
def aFu (F:FT) (oq:O→Operand→Bool):Op→V→Bool
 | .move y,.mv x=>oq x y
 | .assign y,.mv x=>oq x y
 | .pick c y z,.pick c' x x'=>oq c' c && oq x y && oq x' z
 | .extract y i,.ext x j=>oq x y && Nat.beq i j
 | .nilCheck y,.nc x=>oq x y
 | .fieldAddr s y i,.fa off x=>oq x y && F.fa s i off
 | .field s y i,.YU off n ag x=>oq x y && F.YU s i off n ag
 | .load t y,.ld x=>oq x y && F.one t
 | .load t y,.eH n x=>oq x y && F.many t n
 | .load t y,.ldg b l x=>oq x y && F.one t && F.gl b l
 | .binOp op T y z _,.ar op' k x x'=>opB op' op && F.tk k T && oq x y && oq x' z
 | .unOp .not _ y,.not x=>oq x y
 | .convert s t y,.cvi k x=>oq x y && F.toI s t k
 | .convert s t y,.cvs x=>oq x y && F.toS s t
 | .build t ps,.fW z qs=>F.bd t z (DP qs ps.toList) && Y4 oq qs ps.toList
 | .makeFunc (.func f) us cs,.IR p us' cs'=>Nat.beq p.nat (f + 1) && oqs oq us' us.toList && oqs oq cs' cs.toList
 | .call { callee:=.builtin .len,args:=⟨[y]⟩,argTypes:=⟨[T]⟩ },.ln k x=>oq x y && F.tk k T
 | .call { callee:=.builtin .max,args:=⟨[y,z]⟩,argTypes:=_ },.mx x x'=>oq x y && oq x' z
 | .call { callee:=.builtin .min,args:=⟨[y,z]⟩,argTypes:=_ },.mn2 x x'=>oq x y && oq x' z
 | .call { callee:=.builtin .max,args:=⟨[y,z,u]⟩,argTypes:=_ },.mx3 x x' x''=>oq x y && oq x' z && oq x'' u
 | .slice t y lo hi none,.sls x lo' hi'=>oq x y && J0 oq lo' lo && J0 oq hi' hi && F.str t
 | .slice t y lo hi none,.sla n s x lo' hi'=>oq x y && J0 oq lo' lo && J0 oq hi' hi && F.ar t n s
 | .slice t y (some z) none none,.sln s x x'=>oq x y && oq x' z && F.sl t s
 | _,.bad=>true
 | .indexAddr t y z,.ia s x x'=>oq x y && oq x' z && F.sl t s
 | .indexAddr t y z,.yJ n s x x'=>oq x y && oq x' z && F.ar t n s
 | .index t y z,.ixs x x'=>oq x y && oq x' z && F.str t
 | .index t y z,.ixa n s ag x x'=>oq x y && oq x' z && F.ara t n s ag
 | .lookup t y z ok,.lk k zz x x' ok'=>oq x y && oq x' z && F.lk t k zz && (ok == ok')
 | _,_=>false
section
variable {P:Program} {w W0:World} {rv:Operand→Value} {g:G} {me:T Ob} {R:List aA} {F:FT} {lk:LK} {oq:O→Operand→Bool}
theorem aW {x:Option SV} {β:Type} {k:SV→Option β} {b:β} (h:ob x k=some b):∃ v,x=some v∧k v=some b:=by
 cases x with
 | none=>cases h
 | some v=>exact ⟨v,rfl,h⟩
theorem yU (hs:Std rv) (hF:F.Ok P W0) (hq:∀ x y v,oq x y=true→lk x=some v→den g v=some (rv y)) (hm:aB W0 w (mem g me++R)) {op:Op} {o:V} {v:SV} (hc:aFu F oq op o=true) (h:val lk me o=some v) :
  ∃ x,den g v=some x∧Yl P w rv op x:=by
 unfold aFu at hc;split at hc
 ·exact aNq hs (hq _ _ _ hc h)
 ·exact aNx hs (hq _ _ _ hc h)
 ·simp only [Bool.and_eq_true] at hc;obtain ⟨c,h1,h⟩:=aW h;obtain ⟨x,h2,h⟩:=aW h;obtain ⟨x',h3,h⟩:=aW h;exact aA0 hs (hq _ _ _ hc.1.1 h1) (hq _ _ _ hc.1.2 h2) (hq _ _ _ hc.2 h3) h
 ·simp only [Bool.and_eq_true] at hc;obtain ⟨x,h1,h⟩:=aW h;have:=Nat.eq_of_beq_eq_true hc.2; subst this;exact aG8 hs (hq _ _ _ hc.1 h1) h
 ·obtain ⟨x,h1,h⟩:=aW h;exact aNo hs (hq _ _ _ hc h1) h
 ·simp only [Bool.and_eq_true] at hc;obtain ⟨x,h1,h⟩:=aW h;exact aNw hs (hF.fa _ _ _ hc.2) (hq _ _ _ hc.1 h1) h
 ·simp only [Bool.and_eq_true] at hc;obtain ⟨x,h1,h⟩:=aW h;obtain ⟨fs,e,k1,k2,k3⟩:=hF.YU _ _ _ _ _ hc.2;exact aG7 hs k1 k2 k3 (hq _ _ _ hc.1 h1) h
 ·simp only [Bool.and_eq_true] at hc;obtain ⟨x,h1,h⟩:=aW h;exact aNu hs (hF.one _ hc.2) hm (hq _ _ _ hc.1 h1) h
 ·simp only [Bool.and_eq_true] at hc;obtain ⟨x,h1,h⟩:=aW h;exact aG2 hs (hF.many _ _ hc.2) hm (hq _ _ _ hc.1 h1) h
 ·simp only [Bool.and_eq_true] at hc;obtain ⟨x,h1,h⟩:=aW h;exact aG3 (hF.one _ hc.1.2) (hF.gl _ _ hc.2) hm (hq _ _ _ hc.1.1 h1) h
 ·simp only [Bool.and_eq_true] at hc;obtain ⟨x,h1,h⟩:=aW h;obtain ⟨x',h2,h⟩:=aW h;obtain ⟨td,k1,k2,k3⟩:=hF.tk _ _ hc.1.1.2;have e:=aCr hc.1.1.1;rw [e];exact aNy hs k1 k2 k3 (hq _ _ _ hc.1.2 h1) (hq _ _ _ hc.2 h2) h
 ·obtain ⟨x,h1,h⟩:=aW h;exact aGy hs (hq _ _ _ hc h1) h
 ·simp only [Bool.and_eq_true] at hc;obtain ⟨x,h1,h⟩:=aW h;obtain ⟨⟨td,k1⟩,k2⟩:=hF.toI _ _ _ hc.2;exact aHa hs k1 k2 (hq _ _ _ hc.1 h1) h
 ·simp only [Bool.and_eq_true] at hc;obtain ⟨x,h1,h⟩:=aW h;obtain ⟨e,k1,k2,k3⟩:=hF.toS _ _ hc.2;exact aG9 hs k1 k2 k3 hm (hq _ _ _ hc.1 h1) h
 ·rename_i t ps z qs;simp only [Bool.and_eq_true] at hc;obtain ⟨zs,pl,k1,k2,k3⟩:=hF.bd _ _ _ hc.1;have h':(fill lk qs z).map SV.a=some v:=h;simp only [Option.map_eq_some_iff] at h';obtain ⟨l,h1,rfl⟩:=h';have:=aHb (P:=P) (w:=w) hs hq k2 (k1 g) (EI hc.2 k3) h1;simpa using this
 ·rename_i f us cs p us' cs';simp only [Bool.and_eq_true] at hc;have h':Option.rec (motive:=fun _=>Option SV) none (fun us=>Option.rec (motive:=fun _=>Option SV) none (fun cs=>bif and (atoms us) (atoms cs) then some (SV.f p us cs) else none) (HC lk cs')) (HC lk us')=some v:=h;cases a1:HC lk us' with
  | none=>rw [a1] at h'; cases h'
  | some vs =>
   rw [a1] at h'; dsimp only at h';cases a2:HC lk cs' with
   | none=>rw [a2] at h'; cases h'
   | some ws =>
    rw [a2] at h'; dsimp only at h';cases a3:(and (atoms vs) (atoms ws)) with
    | false=>rw [a3] at h'; cases h'
    | true =>
     rw [a3] at h'; simp only [cond_true,Option.some.injEq] at h'; subst h';have:=aG1 (P:=P) (w:=w) hs (Nat.eq_of_beq_eq_true hc.1.1) (kU hq hc.1.2 a1) (kU hq hc.2 a2) a3;simpa using this
 ·simp only [Bool.and_eq_true] at hc;obtain ⟨x,h1,h⟩:=aW h;obtain ⟨td,k1,k2,k3⟩:=hF.tk _ _ hc.2;exact aNs hs k1 hm (hq _ _ _ hc.1 h1) h k2
 ·simp only [Bool.and_eq_true] at hc;obtain ⟨x,h1,h⟩:=aW h;obtain ⟨x',h2,h⟩:=aW h;exact aNp hs (hq _ _ _ hc.1 h1) (hq _ _ _ hc.2 h2) h
 ·simp only [Bool.and_eq_true] at hc;obtain ⟨x,h1,h⟩:=aW h;obtain ⟨x',h2,h⟩:=aW h;exact aNr hs (hq _ _ _ hc.1 h1) (hq _ _ _ hc.2 h2) h
 ·simp only [Bool.and_eq_true] at hc;obtain ⟨x,h1,h⟩:=aW h;obtain ⟨x',h2,h⟩:=aW h;obtain ⟨x'',h3,h⟩:=aW h;exact aG0 hs (hq _ _ _ hc.1.1 h1) (hq _ _ _ hc.1.2 h2) (hq _ _ _ hc.2 h3) h
 ·simp only [Bool.and_eq_true] at hc;exact aGu hq (hF.str _ hc.2) hc.1.1.1 hc.1.1.2 hc.1.2 h
 ·simp only [Bool.and_eq_true] at hc;exact aGw hq (hF.ar _ _ _ hc.2) hc.1.1.1 hc.1.1.2 hc.1.2 h
 ·simp only [Bool.and_eq_true] at hc;obtain ⟨x,h1,h⟩:=aW h;obtain ⟨x',h2,h⟩:=aW h;obtain ⟨e,he⟩:=hF.sl _ _ hc.2;exact aGv he (hq _ _ _ hc.1.1 h1) (hq _ _ _ hc.1.2 h2) h
 ·cases h
 ·simp only [Bool.and_eq_true] at hc;obtain ⟨x,h1,h⟩:=aW h;obtain ⟨x',h2,h⟩:=aW h;obtain ⟨e,k1⟩:=hF.sl _ _ hc.2;exact aNv hs k1 (hq _ _ _ hc.1.1 h1) (hq _ _ _ hc.1.2 h2) h
 ·simp only [Bool.and_eq_true] at hc;obtain ⟨x,h1,h⟩:=aW h;obtain ⟨x',h2,h⟩:=aW h;exact aG6 hs (hF.ar _ _ _ hc.2) (hq _ _ _ hc.1.1 h1) (hq _ _ _ hc.1.2 h2) h
 ·simp only [Bool.and_eq_true] at hc;obtain ⟨x,h1,h⟩:=aW h;obtain ⟨x',h2,h⟩:=aW h;exact aG4 hs (hF.str _ hc.2) (hq _ _ _ hc.1.1 h1) (hq _ _ _ hc.1.2 h2) h
 ·simp only [Bool.and_eq_true] at hc;obtain ⟨x,h1,h⟩:=aW h;obtain ⟨x',h2,h⟩:=aW h;obtain ⟨e,k1,k2,k3⟩:=hF.ara _ _ _ _ hc.2;exact aG5 hs k1 k2 k3 (hq _ _ _ hc.1.1 h1) (hq _ _ _ hc.1.2 h2) h
 ·rename_i t y z ok kk zz x x' ok';simp only [Bool.and_eq_true,beq_iff_eq] at hc;obtain ⟨⟨⟨c1,c2⟩,c3⟩,rfl⟩:=hc;obtain ⟨x,h1,h⟩:=aW h;obtain ⟨x',h2,h⟩:=aW h;obtain ⟨K,E,zv,k1,k2,k3,k4⟩:=hF.lk _ _ _ c3;exact aNt hs k1 k2 k3 (k4 g) hm (hq _ _ _ c1 h1) (hq _ _ _ c2 h2) h
 cases hc
end
end
end EV
end Go.Proofs.YtadggjnohohedaaGreatDoor
