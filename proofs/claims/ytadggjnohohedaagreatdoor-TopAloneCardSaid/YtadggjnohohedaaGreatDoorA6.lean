/- TopAlone: for every input the call returns true; part A6 of the proof. -/
import Derived.Test.YtadggjnohohedaaGreatDoorA5
set_option linter.unusedVariables false
set_option linter.unusedSimpArgs false
set_option linter.unusedSectionVars false
set_option maxRecDepth 1000000
open Go.RowKit
namespace Go.Proofs.YtadggjnohohedaaGreatDoor
namespace EV
noncomputable section
theorem aM7:BD Tryz.prog 335 [.slice none 0 0,.slice none 0 0,.slice none 0 0,.slice none 0 0,.map none,.bool false,.bool false] (lp [(0,1),(1,1),(2,1),(3,1),(4,1),(5,2)]):=by
 have h:Tryz.prog.built 335=fun ps=>Instr.fill (fun i=>(#[(0,1),(1,1),(2,1),(3,1),(4,1),(5,2)]:Array (Nat × Nat))[i]?) #[.slice none 0 0,.slice none 0 0,.slice none 0 0,.slice none 0 0,.map none,.bool false,.bool false] ps:=by kernel_rfl
 unfold BD; rw [h]; funext ps; congr 1; funext i; rw [MG]; simp
theorem PM {α:Type} {x:α} (a r:List α):(x::(a++r)).Perm (a++([x]++r)):=(List.perm_middle (l₁:=a) (a:=x) (l₂:=r)).symm
theorem PK {α:Type} {x:α} (a b r:List α):(x::(a++(b++r))).Perm (a++(b++([x]++r))):=by
 have:=(List.perm_middle (l₁:=a++b) (a:=x) (l₂:=r)).symm;simpa [List.append_assoc] using this
theorem PJ {α:Type} {x:α} (a b c r:List α):(x::(a++(b++(c++r)))).Perm (a++(b++(c++([x]++r)))):=by
 have:=(List.perm_middle (l₁:=a++(b++c)) (a:=x) (l₂:=r)).symm;simpa [List.append_assoc] using this
theorem PI {α:Type} {x:α} (a b c d:List α):(x::(a++(b++(c++d)))).Perm (a++(b++(c++(d++[x])))):=by
 have:=(List.perm_middle (l₁:=a++(b++(c++d))) (a:=x) (l₂:=[])).symm;simpa [List.append_assoc] using this
theorem PH {α:Type} {x:α} (a b c d e:List α):(x::(a++(b++(c++(d++e))))).Perm (a++(b++(c++(d++(e++[x]))))):=by
 have:=(List.perm_middle (l₁:=a++(b++(c++(d++e)))) (a:=x) (l₂:=[])).symm;simpa [List.append_assoc] using this
structure Wb where
 a:Nat
 b:Nat
 c:Nat
 d:Nat
 m:Nat
 x:Nat
noncomputable def bC:Array Oper:=match Tryz.f177.body with
 | some (.seq _ (.seq _ (.seq (.region _ o _) _)))=>o
 | _=>#[]
theorem sI (i:Nat) (o:Oper) (d:Nat) (hi:bC[i]?=some o) (hd:o.dst=some d):(i=0∧d=18)∨(i=1∧d=19)∨(i=2∧d=20)∨(i=3∧d=21)∨(i=4∧d=22)∨(i=5∧d=23)∨(i=6∧d=24)∨(i=7∧d=25)∨(i=8∧d=26)∨(i=9∧d=27)∨(i=10∧d=28)∨(i=11∧d=29)∨(i=12∧d=9):=by
 have hlt:i < 13:=by
  rcases Nat.lt_or_ge i bC.size with h' | h'
  ·exact h'
  rw [Array.getElem?_eq_none h'] at hi; cases hi
 rcases (show i=0∨i=1∨i=2∨i=3∨i=4∨i=5∨i=6∨i=7∨i=8∨i=9∨i=10∨i=11∨i=12 by omega) with rfl | rfl | rfl | rfl | rfl | rfl | rfl | rfl | rfl | rfl | rfl | rfl | rfl;all_goals (obtain rfl:=Option.some.inj (hi.symm.trans (show bC[_]?=some _ from rfl)); injection hd with hd; subst hd; simp)
noncomputable def zV:List Value:=[.int .i64 0,.string ⟨#[]⟩,.int .u64 0,.int .i64 0,.int .i64 0,.int .i64 0]
noncomputable def hG (n:Nat) (f0 f1:Bool) (W:Wb):List Value:=[slc W.a n,slc W.b n,slc W.c n,slc W.d n,.map (some W.m),.bool f0,.bool f1]
noncomputable def aBb (n b5:Nat) (f0 f1:Bool) (sp kn:Value) (W:Wb):Kn:=[(0,sp),(1,kn),(5,pp b5),(6,.pointer none),(7,.bool false),(8,.int .i64 (n:Nat)),(18,.int .i64 (n:Nat)),(19,slc W.a n),(20,.int .i64 (n:Nat)),(21,slc W.b n),(22,.int .i64 (n:Nat)),(23,slc W.c n),(24,.int .i64 (n:Nat)),(25,slc W.d n),(26,.map (some W.m)),(27,.agg #[.bool f0,.bool f1]),(28,.agg (hG n f0 f1 W).toArray),(29,pp W.x),(9,pp W.x)]
noncomputable def lE (n:Nat) (f0 f1:Bool) (W:Wb) (f:Nat→Bool):List aA:=(bif f 1 then [Bk W.a 94 (zeros zV n)] else [])++((bif f 3 then [Bk W.b 4 (zeros [.bool false] n)] else [])++((bif f 5 then [Bk W.c 3 (zeros [.int .i64 0] n)] else [])++((bif f 7 then [Bk W.d 3 (zeros [.int .i64 0] n)] else [])++((bif f 8 then [Mp (aC .u16) W.m []] else [])++(bif f 11 then [Bk W.x 335 (hG n f0 f1 W)] else [])))))
noncomputable def bK (n b5:Nat) (f0 f1:Bool) (sp kn:Value):FR where
 N:=103
 base:=[0,1,5,6,7,8]
 W:=Wb
 ev W d:=(Proofs.YtadggjnohohedaaGreatDoor.lk (aBb n b5 f0 f1 sp kn W) d).getD undef
 fx:=[1,3,5,7,8,11]
 th:=lE n f0 f1
 thC W f f' h:=by unfold lE; rw [h 1 (by decide),h 3 (by decide),h 5 (by decide),h 7 (by decide),h 8 (by decide),h 11 (by decide)]
theorem nW (zero:List Value) (hz:0 < zero.length) (z:Value) (hc:z.cells=zero.toArray) (n:Nat):(madeCells z.cells (n * zero.length)).toList=zeros zero n:=by
 unfold madeCells;rw [hc];have:=yR zero hz n;rw [show (((Array.range (n * zero.length)).map fun i=>zero.toArray[i % zero.toArray.size]!)).toList=zeros zero n by rw [this]]
theorem aIt {W0:World} {L:List aA} {kn:Kn} {d g x y ty pos af} {n:Nat} (hx:Proofs.YtadggjnohohedaaGreatDoor.ev kn x=some (.int .i64 (n:Nat))) (hy:Proofs.YtadggjnohohedaaGreatDoor.ev kn y=some (.int .i64 (n:Nat))) (hn:n≤1000000) :
  EF Tryz.prog W0 kn L ⟨d,.makeSlice 106 x y,ty,pos,af,g⟩ (fun b:Nat=>.slice (some ⟨b,0,none⟩) n n) (fun b=>Bk b 94 (zeros zV n)::L) (fun _=>True):=by
 obtain ⟨i,hi⟩:∃ i,Tryz.prog.info? 94=some i:=⟨_,rfl⟩;have h1:i.size=6:=by
  have q:(Tryz.prog.info? 94).map (·.size)=some 6:=by kernel_rfl
  rw [hi] at q; exact Option.some.inj q
 have h2:i.bytes=56:=by
  have q:(Tryz.prog.info? 94).map (·.bytes)=some 56:=by kernel_rfl
  rw [hi] at q; exact Option.some.inj q
 have h3:i.zero=some (.agg zV.toArray):=by
  have q:(Tryz.prog.info? 94).map (·.zero)=some (some (.agg zV.toArray)):=by kernel_rfl
  rw [hi] at q; exact Option.some.inj q
 have:=EF.makeSlice (W0:=W0) (L:=L) (d:=d) (g:=g) (ty:=ty) (pos:=pos) (af:=af) hx hy Tryz.underlying106 hi h3 (by rw [h2]; omega) hn;rw [h1,show n * 6=n * zV.length from rfl,nW zV (by decide) (.agg zV.toArray) rfl n] at this;exact this
theorem aIs {W0:World} {L:List aA} {kn:Kn} {d g x y ty pos af} {n:Nat} (hx:Proofs.YtadggjnohohedaaGreatDoor.ev kn x=some (.int .i64 (n:Nat))) (hy:Proofs.YtadggjnohohedaaGreatDoor.ev kn y=some (.int .i64 (n:Nat))) (hn:n≤1000000) :
  EF Tryz.prog W0 kn L ⟨d,.makeSlice 332 x y,ty,pos,af,g⟩ (fun b:Nat=>.slice (some ⟨b,0,none⟩) n n) (fun b=>Bk b 4 (zeros [.bool false] n)::L) (fun _=>True):=by
 obtain ⟨i,hi⟩:∃ i,Tryz.prog.info? 4=some i:=⟨_,rfl⟩;have h1:i.size=1:=by
  have q:(Tryz.prog.info? 4).map (·.size)=some 1:=by kernel_rfl
  rw [hi] at q; exact Option.some.inj q
 have h2:i.bytes=1:=by
  have q:(Tryz.prog.info? 4).map (·.bytes)=some 1:=by kernel_rfl
  rw [hi] at q; exact Option.some.inj q
 have h3:i.zero=some (.bool false):=by
  have q:(Tryz.prog.info? 4).map (·.zero)=some (some (.bool false)):=by kernel_rfl
  rw [hi] at q; exact Option.some.inj q
 have:=EF.makeSlice (W0:=W0) (L:=L) (d:=d) (g:=g) (ty:=ty) (pos:=pos) (af:=af) hx hy Tryz.underlying332 hi h3 (by rw [h2]; omega) hn;rw [h1,show n * 1=n * ([.bool false]:List Value).length from rfl,nW [.bool false] (by decide) (.bool false) rfl n] at this;exact this
theorem aIr {W0:World} {L:List aA} {kn:Kn} {d g x y ty pos af} {n:Nat} (hx:Proofs.YtadggjnohohedaaGreatDoor.ev kn x=some (.int .i64 (n:Nat))) (hy:Proofs.YtadggjnohohedaaGreatDoor.ev kn y=some (.int .i64 (n:Nat))) (hn:n≤1000000) :
  EF Tryz.prog W0 kn L ⟨d,.makeSlice 40 x y,ty,pos,af,g⟩ (fun b:Nat=>.slice (some ⟨b,0,none⟩) n n) (fun b=>Bk b 3 (zeros [.int .i64 0] n)::L) (fun _=>True):=by
 obtain ⟨i,hi⟩:∃ i,Tryz.prog.info? 3=some i:=⟨_,rfl⟩;have h1:i.size=1:=by
  have q:(Tryz.prog.info? 3).map (·.size)=some 1:=by kernel_rfl
  rw [hi] at q; exact Option.some.inj q
 have h2:i.bytes=8:=by
  have q:(Tryz.prog.info? 3).map (·.bytes)=some 8:=by kernel_rfl
  rw [hi] at q; exact Option.some.inj q
 have h3:i.zero=some (.int .i64 0):=by
  have q:(Tryz.prog.info? 3).map (·.zero)=some (some (.int .i64 0)):=by kernel_rfl
  rw [hi] at q; exact Option.some.inj q
 have:=EF.makeSlice (W0:=W0) (L:=L) (d:=d) (g:=g) (ty:=ty) (pos:=pos) (af:=af) hx hy Tryz.underlying40 hi h3 (by rw [h2]; omega) hn;rw [h1,show n * 1=n * ([.int .i64 0]:List Value).length from rfl,nW [.int .i64 0] (by decide) (.int .i64 0) rfl n] at this;exact this
section
variable {n b5:Nat} {f0 f1:Bool} {sp kn:Value} {W0 w:World} {R:List aA} {ds:List Deferred} {listed:Array Bool} {a:Act} {Q:Exit→Act→World→Prop}
theorem fB:OkG (bK n b5 f0 f1 sp kn) bC 13:=⟨by kernel_rfl,by kernel_rfl,by kernel_rfl⟩
theorem u0 (h:IG (bK n b5 f0 f1 sp kn) bC W0 (Bk b5 140 [.bool f0,.bool f1]::R) ds listed a w) (hr:0∈Region.ready .any bC listed):wpOp Tryz.prog bC Q 0 (fun a' w'=>IG (bK n b5 f0 f1 sp kn) bC W0 (Bk b5 140 [.bool f0,.bool f1]::R) ds (listed.setIfInBounds 0 true) a' w') a w:=stepG fB (o:=_) rfl rfl rfl [8] (by kernel_rfl) rfl (by kernel_rfl) (fun W f=>EX.move rfl) h hr
theorem u1 (hn:n≤1000000) (h:IG (bK n b5 f0 f1 sp kn) bC W0 (Bk b5 140 [.bool f0,.bool f1]::R) ds listed a w) (hr:1∈Region.ready .any bC listed):wpOp Tryz.prog bC Q 1 (fun a' w'=>IG (bK n b5 f0 f1 sp kn) bC W0 (Bk b5 140 [.bool f0,.bool f1]::R) ds (listed.setIfInBounds 1 true) a' w') a w:=by
 refine zC (S:=bK n b5 f0 f1 sp kn) fB (i:=1) (o:=_) rfl rfl rfl [18] (by kernel_rfl) rfl (v:=fun x:Nat=>slc x n) (T:=fun (_:(bK n b5 f0 f1 sp kn).W)=>fun x:Nat=>Bk x 94 (zeros zV n)) (C:=fun _=>True) (fun W x=>{ W with a:=x }) (fun W f=>aIt rfl rfl hn) (fun _ _=>rfl) (fun W x t ht=>?_) (fun W x i' o' d' hi' hne hed _ hd=>?_) (fun W x l f' hcl hni h1 hf=>?_) h hr
 ·simp only [bK,List.mem_cons,List.not_mem_nil,or_false] at ht;rcases ht with rfl | rfl | rfl | rfl | rfl | rfl <;> rfl
 ·rcases sI i' o' d' hi' hd with ⟨rfl,rfl⟩ | ⟨rfl,rfl⟩ | ⟨rfl,rfl⟩ | ⟨rfl,rfl⟩ | ⟨rfl,rfl⟩ | ⟨rfl,rfl⟩ | ⟨rfl,rfl⟩ | ⟨rfl,rfl⟩ | ⟨rfl,rfl⟩ | ⟨rfl,rfl⟩ | ⟨rfl,rfl⟩ | ⟨rfl,rfl⟩ | ⟨rfl,rfl⟩;all_goals first | rfl | exact (hne rfl).elim | (obtain rfl:=Option.some.inj (hi'.symm.trans (show bC[_]?=some _ from rfl)); exact absurd hed (by decide))
 have h0:=bJ hni;have h11:l.getD 11 false=false:=bJ (fun hl=>hni (cQ hcl (show bC[10]?=some _ from rfl) (k:=1) (by kernel_rfl) (cQ hcl (show bC[11]?=some _ from rfl) (k:=10) (by kernel_rfl) hl)));simp only [bK,lE,h0,h11,h1,hf 3 (by decide),hf 5 (by decide),hf 7 (by decide),hf 8 (by decide),hf 11 (by decide),cond_true,cond_false,List.nil_append,List.append_nil];exact .refl _
theorem u2 (h:IG (bK n b5 f0 f1 sp kn) bC W0 (Bk b5 140 [.bool f0,.bool f1]::R) ds listed a w) (hr:2∈Region.ready .any bC listed):wpOp Tryz.prog bC Q 2 (fun a' w'=>IG (bK n b5 f0 f1 sp kn) bC W0 (Bk b5 140 [.bool f0,.bool f1]::R) ds (listed.setIfInBounds 2 true) a' w') a w:=stepG fB (o:=_) rfl rfl rfl [8] (by kernel_rfl) rfl (by kernel_rfl) (fun W f=>EX.move rfl) h hr
theorem u3 (hn:n≤1000000) (h:IG (bK n b5 f0 f1 sp kn) bC W0 (Bk b5 140 [.bool f0,.bool f1]::R) ds listed a w) (hr:3∈Region.ready .any bC listed):wpOp Tryz.prog bC Q 3 (fun a' w'=>IG (bK n b5 f0 f1 sp kn) bC W0 (Bk b5 140 [.bool f0,.bool f1]::R) ds (listed.setIfInBounds 3 true) a' w') a w:=by
 refine zC (S:=bK n b5 f0 f1 sp kn) fB (i:=3) (o:=_) rfl rfl rfl [20] (by kernel_rfl) rfl (v:=fun x:Nat=>slc x n) (T:=fun (_:(bK n b5 f0 f1 sp kn).W)=>fun x:Nat=>Bk x 4 (zeros [.bool false] n)) (C:=fun _=>True) (fun W x=>{ W with b:=x }) (fun W f=>aIs rfl rfl hn) (fun _ _=>rfl) (fun W x t ht=>?_) (fun W x i' o' d' hi' hne hed _ hd=>?_) (fun W x l f' hcl hni h1 hf=>?_) h hr
 ·simp only [bK,List.mem_cons,List.not_mem_nil,or_false] at ht;rcases ht with rfl | rfl | rfl | rfl | rfl | rfl <;> rfl
 ·rcases sI i' o' d' hi' hd with ⟨rfl,rfl⟩ | ⟨rfl,rfl⟩ | ⟨rfl,rfl⟩ | ⟨rfl,rfl⟩ | ⟨rfl,rfl⟩ | ⟨rfl,rfl⟩ | ⟨rfl,rfl⟩ | ⟨rfl,rfl⟩ | ⟨rfl,rfl⟩ | ⟨rfl,rfl⟩ | ⟨rfl,rfl⟩ | ⟨rfl,rfl⟩ | ⟨rfl,rfl⟩;all_goals first | rfl | exact (hne rfl).elim | (obtain rfl:=Option.some.inj (hi'.symm.trans (show bC[_]?=some _ from rfl)); exact absurd hed (by decide))
 have h0:=bJ hni;have h11:l.getD 11 false=false:=bJ (fun hl=>hni (cQ hcl (show bC[10]?=some _ from rfl) (k:=3) (by kernel_rfl) (cQ hcl (show bC[11]?=some _ from rfl) (k:=10) (by kernel_rfl) hl)));simp only [bK,lE,h0,h11,h1,hf 1 (by decide),hf 5 (by decide),hf 7 (by decide),hf 8 (by decide),hf 11 (by decide),cond_true,cond_false,List.nil_append,List.append_nil];exact PM _ _
theorem u4 (h:IG (bK n b5 f0 f1 sp kn) bC W0 (Bk b5 140 [.bool f0,.bool f1]::R) ds listed a w) (hr:4∈Region.ready .any bC listed):wpOp Tryz.prog bC Q 4 (fun a' w'=>IG (bK n b5 f0 f1 sp kn) bC W0 (Bk b5 140 [.bool f0,.bool f1]::R) ds (listed.setIfInBounds 4 true) a' w') a w:=stepG fB (o:=_) rfl rfl rfl [8] (by kernel_rfl) rfl (by kernel_rfl) (fun W f=>EX.move rfl) h hr
theorem u5 (hn:n≤1000000) (h:IG (bK n b5 f0 f1 sp kn) bC W0 (Bk b5 140 [.bool f0,.bool f1]::R) ds listed a w) (hr:5∈Region.ready .any bC listed):wpOp Tryz.prog bC Q 5 (fun a' w'=>IG (bK n b5 f0 f1 sp kn) bC W0 (Bk b5 140 [.bool f0,.bool f1]::R) ds (listed.setIfInBounds 5 true) a' w') a w:=by
 refine zC (S:=bK n b5 f0 f1 sp kn) fB (i:=5) (o:=_) rfl rfl rfl [22] (by kernel_rfl) rfl (v:=fun x:Nat=>slc x n) (T:=fun (_:(bK n b5 f0 f1 sp kn).W)=>fun x:Nat=>Bk x 3 (zeros [.int .i64 0] n)) (C:=fun _=>True) (fun W x=>{ W with c:=x }) (fun W f=>aIr rfl rfl hn) (fun _ _=>rfl) (fun W x t ht=>?_) (fun W x i' o' d' hi' hne hed _ hd=>?_) (fun W x l f' hcl hni h1 hf=>?_) h hr
 ·simp only [bK,List.mem_cons,List.not_mem_nil,or_false] at ht;rcases ht with rfl | rfl | rfl | rfl | rfl | rfl <;> rfl
 ·rcases sI i' o' d' hi' hd with ⟨rfl,rfl⟩ | ⟨rfl,rfl⟩ | ⟨rfl,rfl⟩ | ⟨rfl,rfl⟩ | ⟨rfl,rfl⟩ | ⟨rfl,rfl⟩ | ⟨rfl,rfl⟩ | ⟨rfl,rfl⟩ | ⟨rfl,rfl⟩ | ⟨rfl,rfl⟩ | ⟨rfl,rfl⟩ | ⟨rfl,rfl⟩ | ⟨rfl,rfl⟩;all_goals first | rfl | exact (hne rfl).elim | (obtain rfl:=Option.some.inj (hi'.symm.trans (show bC[_]?=some _ from rfl)); exact absurd hed (by decide))
 have h0:=bJ hni;have h11:l.getD 11 false=false:=bJ (fun hl=>hni (cQ hcl (show bC[10]?=some _ from rfl) (k:=5) (by kernel_rfl) (cQ hcl (show bC[11]?=some _ from rfl) (k:=10) (by kernel_rfl) hl)));simp only [bK,lE,h0,h11,h1,hf 1 (by decide),hf 3 (by decide),hf 7 (by decide),hf 8 (by decide),hf 11 (by decide),cond_true,cond_false,List.nil_append,List.append_nil];exact PK _ _ _
theorem u6 (h:IG (bK n b5 f0 f1 sp kn) bC W0 (Bk b5 140 [.bool f0,.bool f1]::R) ds listed a w) (hr:6∈Region.ready .any bC listed):wpOp Tryz.prog bC Q 6 (fun a' w'=>IG (bK n b5 f0 f1 sp kn) bC W0 (Bk b5 140 [.bool f0,.bool f1]::R) ds (listed.setIfInBounds 6 true) a' w') a w:=stepG fB (o:=_) rfl rfl rfl [8] (by kernel_rfl) rfl (by kernel_rfl) (fun W f=>EX.move rfl) h hr
theorem u7 (hn:n≤1000000) (h:IG (bK n b5 f0 f1 sp kn) bC W0 (Bk b5 140 [.bool f0,.bool f1]::R) ds listed a w) (hr:7∈Region.ready .any bC listed):wpOp Tryz.prog bC Q 7 (fun a' w'=>IG (bK n b5 f0 f1 sp kn) bC W0 (Bk b5 140 [.bool f0,.bool f1]::R) ds (listed.setIfInBounds 7 true) a' w') a w:=by
 refine zC (S:=bK n b5 f0 f1 sp kn) fB (i:=7) (o:=_) rfl rfl rfl [24] (by kernel_rfl) rfl (v:=fun x:Nat=>slc x n) (T:=fun (_:(bK n b5 f0 f1 sp kn).W)=>fun x:Nat=>Bk x 3 (zeros [.int .i64 0] n)) (C:=fun _=>True) (fun W x=>{ W with d:=x }) (fun W f=>aIr rfl rfl hn) (fun _ _=>rfl) (fun W x t ht=>?_) (fun W x i' o' d' hi' hne hed _ hd=>?_) (fun W x l f' hcl hni h1 hf=>?_) h hr
 ·simp only [bK,List.mem_cons,List.not_mem_nil,or_false] at ht;rcases ht with rfl | rfl | rfl | rfl | rfl | rfl <;> rfl
 ·rcases sI i' o' d' hi' hd with ⟨rfl,rfl⟩ | ⟨rfl,rfl⟩ | ⟨rfl,rfl⟩ | ⟨rfl,rfl⟩ | ⟨rfl,rfl⟩ | ⟨rfl,rfl⟩ | ⟨rfl,rfl⟩ | ⟨rfl,rfl⟩ | ⟨rfl,rfl⟩ | ⟨rfl,rfl⟩ | ⟨rfl,rfl⟩ | ⟨rfl,rfl⟩ | ⟨rfl,rfl⟩;all_goals first | rfl | exact (hne rfl).elim | (obtain rfl:=Option.some.inj (hi'.symm.trans (show bC[_]?=some _ from rfl)); exact absurd hed (by decide))
 have h0:=bJ hni;have h11:l.getD 11 false=false:=bJ (fun hl=>hni (cQ hcl (show bC[10]?=some _ from rfl) (k:=7) (by kernel_rfl) (cQ hcl (show bC[11]?=some _ from rfl) (k:=10) (by kernel_rfl) hl)));simp only [bK,lE,h0,h11,h1,hf 1 (by decide),hf 3 (by decide),hf 5 (by decide),hf 8 (by decide),hf 11 (by decide),cond_true,cond_false,List.nil_append,List.append_nil];exact PJ _ _ _ _
theorem u8 (h:IG (bK n b5 f0 f1 sp kn) bC W0 (Bk b5 140 [.bool f0,.bool f1]::R) ds listed a w) (hr:8∈Region.ready .any bC listed):wpOp Tryz.prog bC Q 8 (fun a' w'=>IG (bK n b5 f0 f1 sp kn) bC W0 (Bk b5 140 [.bool f0,.bool f1]::R) ds (listed.setIfInBounds 8 true) a' w') a w:=by
 refine zC (S:=bK n b5 f0 f1 sp kn) fB (i:=8) (o:=_) rfl rfl rfl [] (by kernel_rfl) rfl (v:=fun x:Nat=>.map (some x)) (T:=fun (_:(bK n b5 f0 f1 sp kn).W)=>fun x:Nat=>Mp (aC .u16) x []) (C:=fun _=>True) (fun W x=>{ W with m:=x }) (fun W f=>EF.makeMap (aC .u16)) (fun _ _=>rfl) (fun W x t ht=>?_) (fun W x i' o' d' hi' hne hed _ hd=>?_) (fun W x l f' hcl hni h1 hf=>?_) h hr
 ·simp only [bK,List.mem_cons,List.not_mem_nil,or_false] at ht;rcases ht with rfl | rfl | rfl | rfl | rfl | rfl <;> rfl
 ·rcases sI i' o' d' hi' hd with ⟨rfl,rfl⟩ | ⟨rfl,rfl⟩ | ⟨rfl,rfl⟩ | ⟨rfl,rfl⟩ | ⟨rfl,rfl⟩ | ⟨rfl,rfl⟩ | ⟨rfl,rfl⟩ | ⟨rfl,rfl⟩ | ⟨rfl,rfl⟩ | ⟨rfl,rfl⟩ | ⟨rfl,rfl⟩ | ⟨rfl,rfl⟩ | ⟨rfl,rfl⟩;all_goals first | rfl | exact (hne rfl).elim | (obtain rfl:=Option.some.inj (hi'.symm.trans (show bC[_]?=some _ from rfl)); exact absurd hed (by decide))
 have h0:=bJ hni;have h11:l.getD 11 false=false:=bJ (fun hl=>hni (cQ hcl (show bC[10]?=some _ from rfl) (k:=8) (by kernel_rfl) (cQ hcl (show bC[11]?=some _ from rfl) (k:=10) (by kernel_rfl) hl)));simp only [bK,lE,h0,h11,h1,hf 1 (by decide),hf 3 (by decide),hf 5 (by decide),hf 7 (by decide),hf 11 (by decide),cond_true,cond_false,List.nil_append,List.append_nil];exact PI _ _ _ _
theorem u9 (h:IG (bK n b5 f0 f1 sp kn) bC W0 (Bk b5 140 [.bool f0,.bool f1]::R) ds listed a w) (hr:9∈Region.ready .any bC listed):wpOp Tryz.prog bC Q 9 (fun a' w'=>IG (bK n b5 f0 f1 sp kn) bC W0 (Bk b5 140 [.bool f0,.bool f1]::R) ds (listed.setIfInBounds 9 true) a' w') a w:=stepG fB (o:=_) rfl rfl rfl [5] (by kernel_rfl) rfl (by kernel_rfl) (fun W f ρ w he hs=>(EX.aAb (n:=2) (cs:=[.bool f0,.bool f1]) (L:=Bk b5 140 [.bool f0,.bool f1]::R) rfl .here (Many.of Tryz.underlying140 rfl (by kernel_rfl)) rfl) ρ w he (wZ hs)) h hr
theorem u10 (h:IG (bK n b5 f0 f1 sp kn) bC W0 (Bk b5 140 [.bool f0,.bool f1]::R) ds listed a w) (hr:10∈Region.ready .any bC listed):wpOp Tryz.prog bC Q 10 (fun a' w'=>IG (bK n b5 f0 f1 sp kn) bC W0 (Bk b5 140 [.bool f0,.bool f1]::R) ds (listed.setIfInBounds 10 true) a' w') a w:=stepG fB (o:=_) rfl rfl rfl [19,21,23,25,26,27] (by kernel_rfl) rfl (by kernel_rfl) (fun W f=>EX.build rfl aM7 rfl) h hr
theorem u11 (h:IG (bK n b5 f0 f1 sp kn) bC W0 (Bk b5 140 [.bool f0,.bool f1]::R) ds listed a w) (hr:11∈Region.ready .any bC listed):wpOp Tryz.prog bC Q 11 (fun a' w'=>IG (bK n b5 f0 f1 sp kn) bC W0 (Bk b5 140 [.bool f0,.bool f1]::R) ds (listed.setIfInBounds 11 true) a' w') a w:=by
 refine zC (S:=bK n b5 f0 f1 sp kn) fB (i:=11) (o:=_) rfl rfl rfl [28] (by kernel_rfl) rfl (v:=fun x:Nat=>pp x) (T:=fun (W:Wb) (x:Nat)=>Bk x 335 (hG n f0 f1 W)) (C:=fun _=>True) (fun W x=>{ W with x:=x }) (fun W f=>EF.bV (cs:=(hG n f0 f1 W).toArray) rfl) (fun _ _=>rfl) (fun W x t ht=>?_) (fun W x i' o' d' hi' hne hed _ hd=>?_) (fun W x l f' hcl hni h1 hf=>?_) h hr
 ·simp only [bK,List.mem_cons,List.not_mem_nil,or_false] at ht;rcases ht with rfl | rfl | rfl | rfl | rfl | rfl <;> rfl
 ·rcases sI i' o' d' hi' hd with ⟨rfl,rfl⟩ | ⟨rfl,rfl⟩ | ⟨rfl,rfl⟩ | ⟨rfl,rfl⟩ | ⟨rfl,rfl⟩ | ⟨rfl,rfl⟩ | ⟨rfl,rfl⟩ | ⟨rfl,rfl⟩ | ⟨rfl,rfl⟩ | ⟨rfl,rfl⟩ | ⟨rfl,rfl⟩ | ⟨rfl,rfl⟩ | ⟨rfl,rfl⟩;all_goals first | rfl | exact (hne rfl).elim | (obtain rfl:=Option.some.inj (hi'.symm.trans (show bC[_]?=some _ from rfl)); exact absurd hed (by decide))
 have h0:=bJ hni;simp only [bK,lE,h0,h1,hf 1 (by decide),hf 3 (by decide),hf 5 (by decide),hf 7 (by decide),hf 8 (by decide),cond_true,cond_false,List.append_nil];exact PH _ _ _ _ _
theorem u12 (h:IG (bK n b5 f0 f1 sp kn) bC W0 (Bk b5 140 [.bool f0,.bool f1]::R) ds listed a w) (hr:12∈Region.ready .any bC listed):wpOp Tryz.prog bC Q 12 (fun a' w'=>IG (bK n b5 f0 f1 sp kn) bC W0 (Bk b5 140 [.bool f0,.bool f1]::R) ds (listed.setIfInBounds 12 true) a' w') a w:=stepG fB (o:=_) rfl rfl rfl [29] (by kernel_rfl) rfl (by kernel_rfl) (fun W f=>EX.assign rfl) h hr
end
end
noncomputable section
def NO:CC:=(.seq (.seq (.ops [.v none (.mv (.c (.i .i64 1))) 0] [(hO,0)]) (.block 0 (.loop (.seq (.seq (.ops [.v none (.mv (.t hO)) 0,.v none (.mv (.t p9)) 0,.v none (.ar .lss .o (.l 1) (.l 0)) 0] [(p33,0)]) (.cond (.t p33) .skip (.exit 0))) (.seq (.block 1 (.seq (.ops [.v none (.mv (.t p1)) 0,.v none (.mv (.t hO)) 0,.c none I1 [(.l 1),(.l 0)],.v none (.mv (.l 0)) 0,.v none (.ext (.l 0) 0) 0,.v none (.ext (.l 1) 1) 0,.e none (.al 94 CV),.e none (.st 6 (.l 0) (.l 2)),.v none (.mv (.l 2)) 0] [(eO,2)]) (.seq (.fZ [0,1,2,3,4,5,6,7] [.v none (.mv (.t eZ)) 0,.v none (.nc (.l 0)) 0,.v none (.fa 0 (.l 0)) 0,.v none (.ld (.l 0)) 0,.v none (.mv (.t hO)) 0,.v none (.eH 6 (.t eO)) 0,.v none (.ia 6 (.l 2) (.l 1)) 0,.e none (.st 6 (.l 0) (.l 1))] []) (.seq (.ops [.v none (.fa 0 (.t eO)) 0,.v none (.ld (.l 0)) 0] [(p50,0)]) (.block 2 (.seq (.ops [.v none (.ar .eql .o (.t p50) (.c (.i .i64 3))) 0,.v none (.mv (.l 0)) 0] [(p51,0)]) (.cond (.t p51) (.fZ [0,1,2,3,4,5,6,7,8] [.v none (.mv (.t eZ)) 0,.v none (.nc (.l 0)) 0,.v none (.fa 2 (.l 0)) 0,.v none (.ld (.l 0)) 0,.v none (.fa 3 (.t eO)) 0,.v none (.ld (.l 0)) 0,.v none (.mv (.t hO)) 0,.v none (.ia 1 (.l 3) (.l 1)) 0,.e none (.st 1 (.l 0) (.l 1))] []) (.seq (.ops [.v none (.ar .eql .o (.t p50) (.c (.i .i64 5))) 0,.v none (.mv (.l 0)) 0] [(p61,0)]) (.cond (.t p61) (.fZ [0,1,2,3,4,5,6,7,8] [.v none (.mv (.t eZ)) 0,.v none (.nc (.l 0)) 0,.v none (.fa 3 (.l 0)) 0,.v none (.ld (.l 0)) 0,.v none (.fa 3 (.t eO)) 0,.v none (.ld (.l 0)) 0,.v none (.mv (.t hO)) 0,.v none (.ia 1 (.l 3) (.l 1)) 0,.e none (.st 1 (.l 0) (.l 1))] []) (.seq (.ops [.v none (.ar .eql .o (.t p50) (.c (.i .i64 6))) 0,.v none (.mv (.l 0)) 0] [(p71,0)]) (.cond (.t p71) (.fZ [0,1,2,3,4,5,6,7,8,9,10] [.v none (.mv (.t eZ)) 0,.v none (.nc (.l 0)) 0,.v none (.fa 4 (.l 0)) 0,.v none (.ld (.l 0)) 0,.v none (.fa 3 (.t eO)) 0,.v none (.ld (.l 0)) 0,.v none (.fa 4 (.t eO)) 0,.v none (.ld (.l 0)) 0,.v none (.fW z62 [(0,1,(.l 2)),(1,1,(.l 0))]) 0,.v none (.mv (.t hO)) 0,.e none (.mu .u16 (.l 6) (.l 1) (.l 0))] []) .skip))))))))))) (.ops [.v none (.mv (.t hO)) 0,.v none (.ar .add .o (.l 0) (.c (.i .i64 1))) 0,.v none (.mv (.l 0)) 0] [(hO,0)])))))) (.seq (.seq (.ops [.v none (.mv (.t p2)) 0,.v none (.ln .l (.l 0)) 0,.v none (.mv (.c (.i .i64 0))) 0] [(p83,2),(p84,1),(H8,0)]) (.block 3 (.loop (.seq (.ops [.v none (.ar .lss .o (.t H8) (.t p84)) 0] [(p86,0)]) (.seq (.cond (.t p86) .skip (.exit 3)) (.seq (.block 4 (.seq (.ops [.v none (.ia 1 (.t p83) (.t H8)) 0,.v none (.ld (.l 0)) 0,.v none (.mv (.l 0)) 0] [(oK,0)]) (.seq (.seq (.ops [.v none (.mv (.t oK)) 0,.v none (.ar .lss .o (.l 0) (.c (.i .i64 1))) 0,.v none (.mv (.l 0)) 0,.v (some (.l 0,false)) (.mv (.t oK)) 0,.v (some (.l 1,false)) (.mv (.t p9)) 0,.v (some (.l 2,false)) (.ar .geq .o (.l 1) (.l 0)) 0,.v none (.pick (.l 3) (.c (.b true)) (.l 0)) 0] [(p95,0)]) (.cond (.t p95) (.seq (.ops [.v none (.mv (.c .pn)) 0,.v none (.mv (.c (.b false))) 0] [(p7,1),(p8,0)]) .ret) .skip)) (.ops [.v none (.mv (.t eZ)) 0,.v none (.nc (.l 0)) 0,.v none (.fa 1 (.l 0)) 0,.v none (.ld (.l 0)) 0,.v none (.mv (.t oK)) 0,.v none (.ia 1 (.l 1) (.l 0)) 0,.e none (.st 1 (.l 0) (.c (.b true)))] [])))) (.ops [.v none (.ar .add .o (.t H8) (.c (.i .i64 1))) 0,.v none (.mv (.l 0)) 0] [(H8,0)]))))))) (.seq (.ops [.v none (.mv (.t eZ)) 0,.v none (.mv (.l 0)) 0,.v none (.mv (.c (.b true))) 0] [(p7,1),(p8,0)]) .ret)))
def X6:Nat:=19879577359489193225041760231
noncomputable def aF0:Code:=match Tryz.f177.body with
 | some (.seq _ (.seq _ (.seq _ c)))=>c
 | _=>.skip
theorem aMr:xK eT 103 X6 aF0 NO=true:=by kernel_rfl
theorem aFs:xJ eT Tryz.f177.results.toList [.t p7,.t p8]=true:=by kernel_rfl
def IB (z:List SV) (n:Nat):List SV:=Nat.rec [] (fun _ ih=>app z ih) n
def aBa:List SV:=[.i .i64 0,.s 0 0,.i .u64 0,.i .i64 0,.i .i64 0,.i .i64 0]
def q1 (p:Pos):Pos:=Pos.succ p
def q2 (p:Pos):Pos:=Pos.succ (q1 p)
def q3 (p:Pos):Pos:=Pos.succ (q2 p)
def q4 (p:Pos):Pos:=Pos.succ (q3 p)
def q5 (p:Pos):Pos:=Pos.succ (q4 p)
def q6 (p:Pos):Pos:=Pos.succ (q5 p)
def MC (n:Nat) (f0 f1:Bool) (me:T Ob) (nx:Pos):T Ob:=T.put (q5 nx) (some (.c 335 [.sl nx 0 n n,.sl (q1 nx) 0 n n,.sl (q2 nx) 0 n n,.sl (q3 nx) 0 n n,.m (q4 nx),.b f0,.b f1])) (T.put (q4 nx) (some (.m .u16 [])) (T.put (q3 nx) (some (.c 3 (IB [.i .i64 0] n))) (T.put (q2 nx) (some (.c 3 (IB [.i .i64 0] n))) (T.put (q1 nx) (some (.c 4 (IB [.b false] n))) (T.put nx (some (.c 94 (IB aBa n))) me)))))
def FO (i:Pos) (kn:SV) (nx:Pos) (n:Nat):T SV:=T.put eZ (some (.p (q5 nx) 0)) (T.put p9 (some (.i .i64 (.ofNat n))) (T.put p8 (some (.b false)) (T.put p7 (some .pn) (T.put p2 (some kn) (T.put p1 (some (.p i 0)) .e)))))
def qT:BI:=fun vs me nx=>match vs with
 | [.p i 0,kn,.a [.b f0,.b f1]]=>match T.get i me with
  | some (.st m rev most F)=>bif Nat.ble m 65536 then leave [.t p7,.t p8] (code (yC biS 3) NO (FO i kn nx (Nat.succ m)) (MC (Nat.succ m) f0 f1 me nx) (q6 nx) []) else .no
  | _=>.no
 | _=>.no
theorem lS {g:G} {z:List SV} {zs:List Value} (h:aF (aE g) z=some zs):∀ n,aF (aE g) (IB z n)=some (zeros zs n)
 | 0=>rfl
 | n + 1=>by
  have:IB z (n + 1)=app z (IB z n):=rfl;rw [this,pA];exact cY h (lS h n)
theorem aIm {W0 w':World} {g:G} {nx:Pos} {me:T Ob} {R:List aA} {bb:Nat} {k:IntKind} (hf:g.fresh nx) (hn:T.get nx me=none) (h:aB W0 w' (Mp (aC k) bb []::(mem g me++R))):aB W0 w' (mem (g.set nx (bb,0)) (T.put nx (some (.m k [])) me)++R):=by
 have hle:=(G.bX g nx (bb,0)).le hf;have h2:aB W0 w' (OT (g.set nx (bb,0)) nx (.m k [])::(mem g me++R)):=aB.bR (bb,0,[],[]) (aB.cB (aB.bB ⟨G.bL g nx _,rfl,List.Perm.refl _,by simp⟩ h));have h3:aB W0 w' (mem g me++(OT (g.set nx (bb,0)) nx (.m k [])::R)):=h2.perm List.perm_middle.symm;exact wE ((gY hle h3).perm List.perm_middle) hn
section
variable {W0 W w:World} {R:List aA} {g:G} {me:T Ob} {nx:Pos}
def gW (g:G) (nx:Pos) (n:Nat) (W:Wb):G:=(((((g.set nx (W.a,0)).set (q1 nx) (W.b,0)).set (q2 nx) (W.c,0)).set (q3 nx) (W.d,0)).set (q4 nx) (W.m,0)).set (q5 nx) (W.x,0)
theorem LN {α:Type} (A B C:List α):(A++(B++C)).Perm (B++(A++C)):=by
 rw [← List.append_assoc,← List.append_assoc];exact (List.perm_append_comm (l₁:=A) (l₂:=B)).append_right C
theorem aBf {k:IntKind} {bb:Nat} (hf:g.fresh nx) (h:aB W0 w (mem g me++(Mp (aC k) bb []::R))):aB W0 w (mem (g.set nx (bb,0)) (T.put nx (some (.m k [])) me)++R):=aIm hf (dW h hf) (h.perm List.perm_middle)
theorem vJ {t bb:Nat} {cs:List SV} {xs:List Value} (hf:g.fresh nx) (h:aB W0 w (mem g me++(Bk bb t xs::R))) (hd:aF (aE g) cs=some xs):aB W0 w (mem (g.set nx (bb,0)) (T.put nx (some (.c t cs)) me)++R):=by
 have h2:=h.perm List.perm_middle;exact LS hf h2.tail hd h2
theorem dF {i p:Pos} {x:Nat × Nat} (h:i≠p):(g.set p x).fQ i=g.fQ i:=if_neg h
theorem aHp (p:Pos):(q1 p).nat=p.nat + 1∧(q2 p).nat=p.nat + 2∧(q3 p).nat=p.nat + 3∧(q4 p).nat=p.nat + 4∧(q5 p).nat=p.nat + 5∧(q6 p).nat=p.nat + 6:=by
 have a1:(q1 p).nat=p.nat + 1:=Pos.bW p;have a2:(q2 p).nat=(q1 p).nat + 1:=Pos.bW _;have a3:(q3 p).nat=(q2 p).nat + 1:=Pos.bW _;have a4:(q4 p).nat=(q3 p).nat + 1:=Pos.bW _;have a5:(q5 p).nat=(q4 p).nat + 1:=Pos.bW _;have a6:(q6 p).nat=(q5 p).nat + 1:=Pos.bW _;omega
theorem aD5 {n:Nat} {f0 f1:Bool} {W:Wb} (hf:g.fresh nx)
  (h:aB W0 w (Bk W.a 94 (zeros zV n)::Bk W.b 4 (zeros [.bool false] n)::Bk W.c 3 (zeros [.int .i64 0] n)::Bk W.d 3 (zeros [.int .i64 0] n)::Mp (aC .u16) W.m []::Bk W.x 335 (hG n f0 f1 W)::(mem g me++R))) :
  (gW g nx n W).fresh (q6 nx)∧g.ext (gW g nx n W) nx∧aB W0 w (mem (gW g nx n W) (MC n f0 f1 me nx)++R):=by
 have f1':=G.aY hf (W.a,0);have f2':=G.aY (nx:=q1 nx) f1' (W.b,0);have f3':=G.aY (nx:=q2 nx) f2' (W.c,0);have f4':=G.aY (nx:=q3 nx) f3' (W.d,0);have f5':=G.aY (nx:=q4 nx) f4' (W.m,0);have f6':=G.aY (nx:=q5 nx) f5' (W.x,0);have hp:aB W0 w (mem g me++(Bk W.a 94 (zeros zV n)::Bk W.b 4 (zeros [.bool false] n)::Bk W.c 3 (zeros [.int .i64 0] n)::Bk W.d 3 (zeros [.int .i64 0] n)::Mp (aC .u16) W.m []::Bk W.x 335 (hG n f0 f1 W)::R)) :=
  h.perm (LN [_,_,_,_,_,_] (mem g me) R)
 have s1:=vJ hf hp (lS (z:=aBa) (zs:=zV) (by simp [aBa,zV,aF,aE,aI,dD,cA]) n);have s2:=vJ (nx:=q1 nx) f1' s1 (lS (z:=[.b false]) (zs:=[.bool false]) rfl n);have s3:=vJ (nx:=q2 nx) f2' s2 (lS (z:=[.i .i64 0]) (zs:=[.int .i64 0]) rfl n);have s4:=vJ (nx:=q3 nx) f3' s3 (lS (z:=[.i .i64 0]) (zs:=[.int .i64 0]) rfl n);have s5:=aBf (nx:=q4 nx) f4' s4;obtain ⟨e1,e2,e3,e4,e5,e6⟩:=aHp nx;have ne:∀ {p q:Pos},p.nat≠q.nat→p≠q:=fun h e=>h (by rw [e]);have hcells:aF (aE (((((g.set nx (W.a,0)).set (q1 nx) (W.b,0)).set (q2 nx) (W.c,0)).set (q3 nx) (W.d,0)).set (q4 nx) (W.m,0))) [.sl nx 0 n n,.sl (q1 nx) 0 n n,.sl (q2 nx) 0 n n,.sl (q3 nx) 0 n n,.m (q4 nx),.b f0,.b f1]=some (hG n f0 f1 W):=by
  have ha:(((((g.set nx (W.a,0)).set (q1 nx) (W.b,0)).set (q2 nx) (W.c,0)).set (q3 nx) (W.d,0)).set (q4 nx) (W.m,0)).fQ nx=some (W.a,0):=by
   rw [dF (ne (by omega)),dF (ne (by omega)),dF (ne (by omega)),dF (ne (by omega)),G.bL]
  have hb:(((((g.set nx (W.a,0)).set (q1 nx) (W.b,0)).set (q2 nx) (W.c,0)).set (q3 nx) (W.d,0)).set (q4 nx) (W.m,0)).fQ (q1 nx)=some (W.b,0):=by
   rw [dF (ne (by omega)),dF (ne (by omega)),dF (ne (by omega)),G.bL]
  have hc:(((((g.set nx (W.a,0)).set (q1 nx) (W.b,0)).set (q2 nx) (W.c,0)).set (q3 nx) (W.d,0)).set (q4 nx) (W.m,0)).fQ (q2 nx)=some (W.c,0):=by
   rw [dF (ne (by omega)),dF (ne (by omega)),G.bL]
  have hd:(((((g.set nx (W.a,0)).set (q1 nx) (W.b,0)).set (q2 nx) (W.c,0)).set (q3 nx) (W.d,0)).set (q4 nx) (W.m,0)).fQ (q3 nx)=some (W.d,0):=by
   rw [dF (ne (by omega)),G.bL]
  have he:(((((g.set nx (W.a,0)).set (q1 nx) (W.b,0)).set (q2 nx) (W.c,0)).set (q3 nx) (W.d,0)).set (q4 nx) (W.m,0)).fQ (q4 nx)=some (W.m,0):=G.bL _ _ _;simp only [aF,aE,aI,ha,hb,hc,hd,he,Option.map_some,hG,slc]
 have s6:=vJ (nx:=q5 nx) f5' s5 hcells;refine ⟨f6',⟨rfl,rfl,fun i hi=>?_⟩,s6⟩;show (gW g nx n W).fQ i=g.fQ i;unfold gW;rw [dF (ne (by omega)),dF (ne (by omega)),dF (ne (by omega)),dF (ne (by omega)),dF (ne (by omega)),dF (ne (by omega))]
theorem aHu {α:Type} (x s:α) (A M C:List α):(A++(x::s::(M++C))).Perm (s::(M++(x::(A++C)))):=by
 refine (LN A [x,s] (M++C)).trans ?_;refine (List.Perm.append_left [x,s] (LN A M C)).trans ?_;exact (List.Perm.swap s x (M++(A++C))).trans (List.Perm.cons s List.perm_middle.symm)
theorem mU {p q:Pos} {v u:SV} {t:T SV} (h:T.get q (T.put p (some v) t)=some u):(q=p∧u=v)∨(q≠p∧T.get q t=some u):=by
 by_cases e:q=p
 ·subst e; rw [T.eS] at h; exact .inl ⟨rfl,(Option.some.inj h).symm⟩
 rw [T.bO _ _ _ _ e] at h; exact .inr ⟨e,h⟩
theorem qS (hF:eT.Ok Tryz.prog W0) (bU:Tryz.prog.follows .mixedOrders=true) {vs:List SV} {r:RF} (hr:qT vs me nx=r) (hne:r≠.no) (xs:List Value) (hf:g.fresh nx) (hd:aF (den g) vs=some xs) (hm:aB W0 W (mem g me++R)) {Rr:Ending→World→Prop}
  (hret:∀ v me' nx',r=.ret v me' nx'→∀ g' x w',g.ext g' nx→g'.fresh nx'→nx.nat≤nx'.nat→den g' v=some x→aB W0 w' (mem g' me'++R)→Rr (.returned x) w')
  (FI:∀ v me' nx',r=.dL v me' nx'→∀ g' x w',g.ext g' nx→g'.fresh nx'→nx.nat≤nx'.nat→den g' v=some x→aB W0 w' (mem g' me'++R)→Rr (.panicked (chain x)) w'):Calls Tryz.prog 177 xs.toArray W Rr:=by
 unfold qT at hr;split at hr
 ·rename_i i kn f0 f1;split at hr
  ·rename_i m rev most F hg;cases hb:Nat.ble m 65536 with
   | false=>rw [hb] at hr; exact (hne hr.symm).elim
   | true =>
    rw [hb] at hr;simp only [cond_true] at hr;have hml:=Nat.le_of_ble_eq_true hb;obtain ⟨x1,us,d1,d2,rfl⟩:=aK hd;obtain ⟨xk,us,d3,d4,rfl⟩:=aK d2;obtain ⟨x3,us,d5,d6,rfl⟩:=aK d4;have:us=[]:=by simpa [aF] using d6.symm
    subst this;obtain ⟨q,q1',rfl⟩:=fH d1;have hx3:x3=.agg #[.bool f0,.bool f1]:=by
     have:den g (.a [.b f0,.b f1])=some (.agg #[.bool f0,.bool f1]):=rfl;rw [this] at d5; exact (Option.some.inj d5).symm
    subst hx3;obtain ⟨b,o,l,r1,r2,r3,r4,r5⟩:=vK hm hg;obtain rfl:q=(b,o):=by rw [q1'] at r1; exact Option.some.inj r1
    refine calls_of_wp_defers Tryz.func177 rfl ?_;refine (show GC Tryz.prog W0 Tryz.f177.ntmps [] _ (bodyPostD Tryz.prog Tryz.f177 Rr) (iQ 0 [.pointer (some ⟨b,0,none⟩),xk,.agg #[.bool f0,.bool f1]]) (Go.Proofs.YtadggjnohohedaaGreatDoor.St b l most::(mem g (T.put i none me)++R)) from ?_) _ _ (fF [_,_,_] (Nat.le_of_ble_eq_true rfl)) r5;rw [show Tryz.f177.ntmps=103 from Tryz.ntmps177];refine GC.seq (GC.region ?_);refine GL.nB (EF.bV rfl) rfl rfl (.free rfl) (fun b5 _=>?_);refine GL.v_ (EX.assign rfl) rfl rfl rfl ?_;refine GL.v_ (EX.assign rfl) rfl rfl rfl ?_;refine GL.nil (GE.seq ?_);refine GC.seq (GC.region ?_);refine GL.v_ (EX.move rfl) rfl rfl rfl ?_;refine GL.call (EC.direct eN rfl) (oP b l most) (.cons (.there .here) .nil) rfl rfl (.free rfl) ?_;have hadd:IntKind.i64.wrap ((l.length:Int) + 1)=((m + 1:Nat):Int):=by
     rw [IntWalk.i64_in _ ⟨by omega,by omega⟩,r3]; push_cast; rfl
    refine GL.v_ (EX.add rfl rfl hadd) rfl rfl rfl ?_;refine GL.v_ (EX.assign rfl) rfl rfl rfl ?_;refine GL.nil (GE.seq ?_);refine GC.seq ?_;intro a w ha hs;have hs':aB W0 w (Bk b5 140 [.bool f0,.bool f1]::Go.Proofs.YtadggjnohohedaaGreatDoor.St b l most::(mem g (T.put i none me)++R)):=hs.p1;refine LE (S:=bK (m + 1) b5 f0 f1 (.pointer (some ⟨b,0,none⟩)) xk) (aG:=bC) (n:=13) (W0:=W0) (R:=Bk b5 140 [.bool f0,.bool f1]::Go.Proofs.YtadggjnohohedaaGreatDoor.St b l most::(mem g (T.put i none me)++R)) (ds:=[]) bU fB (W:=(⟨0,0,0,0,0,0⟩:Wb)) ha.size ha.defers (fun t ht=>?_) ?_ (fun j hj=>?_) ?_
    ·simp only [bK,List.mem_cons,List.not_mem_nil,or_false] at ht;rcases ht with rfl | rfl | rfl | rfl | rfl | rfl
     ·exact ha.known 0 _ rfl
     ·exact ha.known 1 _ rfl
     ·exact ha.known 5 _ rfl
     ·exact ha.known 6 _ rfl
     ·exact ha.known 7 _ rfl
     exact ha.known 8 _ rfl
    ·simp only [bK,lE,cond_false,List.nil_append]; exact hs'
    ·intro listed a w h hr;have hn:m + 1≤1000000:=by omega
     match j,hj with
     | 0,_=>exact u0 h hr
     | 1,_=>exact u1 hn h hr
     | 2,_=>exact u2 h hr
     | 3,_=>exact u3 hn h hr
     | 4,_=>exact u4 h hr
     | 5,_=>exact u5 hn h hr
     | 6,_=>exact u6 h hr
     | 7,_=>exact u7 hn h hr
     | 8,_=>exact u8 h hr
     | 9,_=>exact u9 h hr
     | 10,_=>exact u10 h hr
     | 11,_=>exact u11 h hr
     | 12,_=>exact u12 h hr
    ·intro a' w' V h1 h2 hB hV FK;obtain ⟨f,FK,h6⟩:=FK;have h9:=hV 12 _ 9 (show bC[12]?=some _ from rfl) rfl;simp only [bK,lE,FK 1 (by decide),FK 3 (by decide),FK 5 (by decide),FK 7 (by decide),FK 8 (by decide),FK 11 (by decide),cond_true] at h6;have s1:=h6.perm (aHu _ _ [_,_,_,_,_,_] (mem g (T.put i none me)) R);have s2:=pN hg (zD q1' r2 r3 r4 s1);have s3:=((s2.perm List.perm_middle).tail).perm (LN (mem g me) [_,_,_,_,_,_] R);obtain ⟨t1,t2,t3⟩:=aD5 hf s3;obtain ⟨e1,e2,e3,e4,e5,e6⟩:=aHp nx;have hle:g.le (gW g nx (m + 1) V):=t2.le hf;have hS:Stt W0 R 103 X6 (gW g nx (m + 1) V) (FO i kn nx (Nat.succ m)) (MC (Nat.succ m) f0 f1 me nx) (q6 nx) [] a' w':=by
      have key:∀ p v,T.get p (FO i kn nx (Nat.succ m))=some v→(∃ x,den (gW g nx (m + 1) V) v=some x∧a'.tmps[p.nat - 1]?=some x)∧X6.testBit (p.nat - 1)=true:=by
       intro p v hp;unfold FO at hp;rcases mU hp with ⟨rfl,rfl⟩ | ⟨_,hp⟩
       ·refine ⟨⟨pp V.x,?_,h9⟩,by decide⟩;have:(gW g nx (m + 1) V).fQ (q5 nx)=some (V.x,0):=G.bL _ _ _;simp [den,aT,aE,aI,this,pp]
       rcases mU hp with ⟨rfl,rfl⟩ | ⟨_,hp⟩
       ·exact ⟨⟨_,rfl,hB 8 (by simp [bK])⟩,by decide⟩
       rcases mU hp with ⟨rfl,rfl⟩ | ⟨_,hp⟩
       ·exact ⟨⟨_,rfl,hB 7 (by simp [bK])⟩,by decide⟩
       rcases mU hp with ⟨rfl,rfl⟩ | ⟨_,hp⟩
       ·exact ⟨⟨_,rfl,hB 6 (by simp [bK])⟩,by decide⟩
       rcases mU hp with ⟨rfl,rfl⟩ | ⟨_,hp⟩
       ·exact ⟨⟨xk,dS hle _ _ d3,hB 1 (by simp [bK])⟩,by decide⟩
       rcases mU hp with ⟨rfl,rfl⟩ | ⟨_,hp⟩
       ·exact ⟨⟨_,dS hle _ _ d1,hB 0 (by simp [bK])⟩,by decide⟩
       rw [T.nS] at hp; cases hp
      exact ⟨fun p v hp=>(key p v hp).1,fun p v hp=>(key p v hp).2,h1,h2,t1,t3⟩
     show Code.wp Tryz.prog aF0 (bodyPostD Tryz.prog Tryz.f177 Rr) a' w';cases hcd:code (yC biS 3) NO (FO i kn nx (Nat.succ m)) (MC (Nat.succ m) f0 f1 me nx) (q6 nx) [] with
     | no=>rw [hcd] at hr; exact (hne hr.symm).elim
     | ok e lQ eQ eV fC =>
      rw [hcd] at hr;refine tY (HX hF bU 3) hF bU X6 aF0 NO aMr _ _ _ _ _ a' w' e lQ eQ eV fC _ hS hcd (fun g' E a2 w2 hX k1 k2 hS'=>?_);have hex:g.ext g' nx:=t2.trans k1 (by omega);exact tT hF FZ aFs hS' hX hr hne (fun v m' n' e1' x w' z2 z3 z4=>hret v m' n' e1' g' x w' hex (z2 ▸ hS'.fresh) (by rw [z2]; omega) z3 z4) (fun v m' n' e1' x w' z2 z3 z4=>FI v m' n' e1' g' x w' hex (z2 ▸ hS'.fresh) (by rw [z2]; omega) z3 z4)
  exact (hne hr.symm).elim
 exact (hne hr.symm).elim
theorem GQ (hF:eT.Ok Tryz.prog W0) (bU:Tryz.prog.follows .mixedOrders=true):qY Tryz.prog W0 177 qT:=by
 refine ⟨eN,fun vs me nx v me' nx' h W R g xs hf hx hm=>?_,fun vs me nx v me' nx' h W R g xs hf hx hm=>?_⟩
 ·refine qS hF bU h (by intro e; cases e) xs hf hx hm (fun v2 m2 n2 e g' x w' k1 k2 k3 k4 k5=>?_) (fun v2 m2 n2 e=>by cases e);injection e with e1 e2 e3; subst e1; subst e2; subst e3;exact ⟨g',x,rfl,k1,k2,k3,k4,k5⟩
 refine qS hF bU h (by intro e; cases e) xs hf hx hm (fun v2 m2 n2 e=>by cases e) (fun v2 m2 n2 e g' x w' k1 k2 k3 k4 k5=>?_);injection e with e1 e2 e3; subst e1; subst e2; subst e3;exact ⟨g',x,rfl,k1,k2,k3,k4,k5⟩
end
end
end EV
end Go.Proofs.YtadggjnohohedaaGreatDoor
namespace Go.Proofs.YtadggjnohohedaaGreatDoor
section
open EV (aC)
def jM (l:List Bool):List Value:=l.map Value.bool
theorem CN (l:List Bool):(jM l).length=l.length:=by simp [jM]
theorem CM (l:List Bool) (i:Nat) (v:Bool):(jM l).set i (.bool v)=jM (l.set i v):=by unfold jM; rw [List.map_set]
def cg (l:List Bool) (i:Int):Bool:=l[i.toNat]?.getD false
def pg (l:List Int) (i:Int):Int:=l[i.toNat]?.getD 0
theorem aJ0 {p:Prop} (h:p:=by
  refine Au ?_;refine Gr 38 (.t (.t (.t (.t (.t (.t (.t .e))))))) ?_;refine Dq 32 [0,1,2,3,4,5] ?_;refine GD.case 40 rfl (fun g40=>?_) (fun g40=>?_)
  ·refine Dq 22 [6,7,8,9,10,11,12,13,14,15] ?_;refine Dh 16 rfl (fun X=>EX.indexAddr (a:=(t.a).toNat) rfl rfl sL (by omega) (by simp)) (.q g40) ?_;refine Dh 17 rfl (fun X=>EX.ld rfl (mX (i:=t.a) hk.pl (by omega)) oN) (.q g40) ?_;refine Dh 18 rfl (fun X=>EX.indexAddr (a:=(pg ps t.a).toNat) rfl rfl sL (by omega) (by simp)) (.q g40) ?_;refine Dh 19 rfl (fun X=>EX.ld rfl (cO (i:=pg ps t.a) hk.cl (by omega)) oN) (.q g40) ?_;refine Dq 16 [20,21] ?_;refine GD.case 56 rfl (fun g56=>?_) (fun g56=>?_)
   ·refine Dq 6 [22,23,24,25,26,27,28,29,30,31] ?_;refine Dh 32 rfl (fun X=>EX.indexAddr (a:=(t.b).toNat) rfl rfl sL (by omega) (by simp)) (.q g56) ?_;refine Dh 33 rfl (fun X=>EX.ld rfl (mX (i:=t.b) hk.pl (by omega)) oN) (.q g56) ?_;refine Dh 34 rfl (fun X=>EX.indexAddr (a:=(pg ps t.b).toNat) rfl rfl sL (by omega) (by simp)) (.q g56) ?_;refine Dh 35 rfl (fun X=>EX.ld rfl (cO (i:=pg ps t.b) hk.cl (by omega)) oN) (.q g56) ?_;refine Dq 0 [36,37] ?_;refine Gd ?_;exact BV
   refine Dq 0 [22,23,24,25,26,27,28,29,30,31,32,33,34,35,36,37] ?_;refine Gd ?_;exact BV
  refine Dq 0 [6,7,8,9,10,11,12,13,14,15,16,17,18,19,20,21,22,23,24,25,26,27,28,29,30,31,32,33,34,35,36,37] ?_;refine Gd ?_;exact BV):p:=h
theorem BV {p:Prop} (h:p:=by
  refine Au ?_;refine Go fun w h=>?_;refine ⟨_,?_,rfl,h.part (.t0 (.t0 (.t0 (.t0 (.t0 (.t0 (.d .refl)))))))⟩;trivial):p:=h
theorem QK {p:Prop} (h:p:=by
  refine Gd ?_;refine Au ?_;refine Go fun w h=>?_;refine ⟨_,?_,rfl,h.part (.t1 (.t1 (.t1 (.t1 (.t1 (.t1 (.d .refl)))))))⟩;trivial):p:=h
theorem aEa {p:Prop} (h:p:=by
  refine Au ?_;refine Go fun w h=>?_;refine ⟨_,?_,rfl,h.part (.t1 (.t1 (.t1 (.t1 (.t1 (.t1 (.d .refl)))))))⟩;rfl):p:=h
theorem aJz {p:Prop} (h:p:=by
  refine Gd ?_;refine Au ?_;refine Go fun w h=>?_;refine ⟨_,?_,rfl,h.part (.t0 (.t0 (.t0 (.t0 (.t0 (.t0 (.d .refl)))))))⟩;first
  | exact fun h=>⟨(hz g8).1,(hz g8).2,h⟩
  | exact fun h=>(by cases h)):p:=h
theorem aJy {p:Prop} (h:p:=by
  refine Gd ?_;refine Au ?_;refine Go fun w h=>?_;refine ⟨_,?_,rfl,h.part (.t1 (.t1 (.t1 (.t1 (.t1 (.t1 (.d .refl)))))))⟩;first
  | exact fun h=>⟨g13,h⟩
  | exact fun h=>(by cases h)):p:=h
theorem aJx {p:Prop} (h:p:=by
  refine D.n (.t6 .refl) ?_;refine Dq 0 [28,29] ?_;refine Gd ?_;refine Au ?_;refine GC.cond rfl (fun c34=>?_) (fun c34=>?_)
  ·exact BV
  exact aJ0):p:=h
theorem aJw {p:Prop} (h:p:=by
  refine Gd ?_;refine Au ?_;refine Go fun w h=>?_;exact ⟨_,trivial,rfl,h.part .refl⟩):p:=h
theorem cO {l:List Bool} {i:Int} {n:Nat} (hl:l.length=n) (h:0≤i∧i < (n:Int)):lc (jM l) i.toNat=some (.bool (cg l i)):=by
 rw [zT];have:i.toNat < l.length:=by omega
 simp [jM,cg,this]
theorem mX {l:List Int} {i:Int} {n:Nat} (hl:l.length=n) (h:0≤i∧i < (n:Int)):lc (aJ l) i.toNat=some (.int .i64 (pg l i)):=by
 rw [zT];have:i.toNat < l.length:=by omega
 simp [aJ,pg,this]
theorem LM {l:List Int} {i:Int} {n:Nat} (hn:0 < n) (h:∀ p∈l,0≤p∧p < (n:Int)):0≤pg l i∧pg l i < (n:Int):=by
 unfold pg;cases hl:l[i.toNat]? with
 | none=>simp; omega
 | some v=>simpa using h v (List.mem_of_getElem? hl)
structure jN (n:Nat) (cs:List Bool) (ps qs:List Int) (aD:List (Int × Value)):Prop where
 np:0 < n
 cl:cs.length=n
 pl:ps.length=n
 ql:qs.length=n
 pi:∀ p∈ps,0≤p∧p < (n:Int)
 qi:∀ p∈qs,0≤p∧p < (n:Int)
 kv:∀ p∈aD,∃ i:Int,p.2=.int .i64 i∧0≤i∧i < (n:Int)
theorem jN.look {n:Nat} {cs:List Bool} {ps qs:List Int} {aD:List (Int × Value)} (h:jN n cs ps qs aD) (k:Int):∃ i:Int,fT (.int .i64 0) (Proofs.YtadggjnohohedaaGreatDoor.look aD k)=.int .i64 i∧0≤i∧i < (n:Int):=by
 cases hl:Proofs.YtadggjnohohedaaGreatDoor.look aD k with
 | none=>exact ⟨0,rfl,Int.le_refl _,by have:=h.np; omega⟩
 | some v =>
  obtain ⟨i,h1,h2⟩:=h.kv _ (rS hl);exact ⟨i,h1,h2⟩
theorem zM {a b:Int} (hb:0≤b∧b < 4294967296):(Value.agg #[.int .i64 a,.int .i64 b])=aC .u16 (a * 4294967296 + b):=by
 show _=Value.agg #[.int .i64 ((a * 4294967296 + b).fdiv 4294967296),.int .i64 ((a * 4294967296 + b).fmod 4294967296)];rw [Int.fdiv_eq_ediv_of_nonneg _ (by decide),Int.fmod_eq_emod_of_nonneg _ (by decide)];have h1:(a * 4294967296 + b) / 4294967296=a:=by omega
 have h2:(a * 4294967296 + b) % 4294967296=b:=by omega
 rw [h1,h2]
theorem aAd:dX Tryz.prog 62 (aC .u16):=EV.vV
theorem EX.lkv {P:Program} {W0:World} {L:List aA} {kn:Kn} {b:Nat} {k:IntKind} {aD:List (Int × Value)} {a:Int} {K:TypeId} {d g T E x y ty ps af z v} (hx:ev kn x=some (.map (some b))) [p:fX L b (aC k) aD] (hy:ev kn y=some (aC k a)) (law:dX P K (aC k)) (hT:P.underlying T=some (.map K E)) (hz:ZV P E z) (hv:fT z (look aD a)=v) :
  EX P W0 kn L ⟨d,.lookup T x y false,ty,ps,af,g⟩ v:=by have:=EX.lk (W0:=W0) (L:=L) (d:=d) (g:=g) (ty:=ty) (ps:=ps) (af:=af) hx hy law hT hz; rw [hv] at this; exact this
theorem XR (x a b c d mb n:Nat) (f0 f1:Bool) (ts:List Tm) (cs:List Bool) (ps qs:List Int) (aD:List (Int × Value)) (hk:jN n cs ps qs aD) (t:Tm) :
  bQ Tryz.prog 230 [ptr x,dE t] [Bk x 335 [.slice (some ⟨a,0,none⟩) n n,.slice (some ⟨b,0,none⟩) n n,.slice (some ⟨c,0,none⟩) n n,.slice (some ⟨d,0,none⟩) n n,.map (some mb),.bool f0,.bool f1],Bk a 94 (fL ts),Bk b 4 (jM cs),Bk c 3 (aJ ps),Bk d 3 (aJ qs),Mp (aC .u16) mb aD] (fun x_:Bool=>.bool x_) (fun _=>[Bk x 335 [.slice (some ⟨a,0,none⟩) n n,.slice (some ⟨b,0,none⟩) n n,.slice (some ⟨c,0,none⟩) n n,.slice (some ⟨d,0,none⟩) n n,.map (some mb),.bool f0,.bool f1],Bk a 94 (fL ts),Bk b 4 (jM cs),Bk c 3 (aJ ps),Bk d 3 (aJ qs),Mp (aC .u16) mb aD]) (fun x_=>x_=false):=by
 refine Fg Tryz.func230 Tryz.ntmps230 fun W0 R=>?_;refine Au ?_;refine Ef (EF.bV rfl) fun b3 _=>?_;exact aEa
theorem XO (x a b c d mb n:Nat) (f0 f1:Bool) (ts:List Tm) (cs:List Bool) (ps qs:List Int) (aD:List (Int × Value)) (hk:jN n cs ps qs aD) (t:Tm) :
  bQ Tryz.prog 231 [ptr x,dE t] [Bk x 335 [.slice (some ⟨a,0,none⟩) n n,.slice (some ⟨b,0,none⟩) n n,.slice (some ⟨c,0,none⟩) n n,.slice (some ⟨d,0,none⟩) n n,.map (some mb),.bool f0,.bool f1],Bk a 94 (fL ts),Bk b 4 (jM cs),Bk c 3 (aJ ps),Bk d 3 (aJ qs),Mp (aC .u16) mb aD] (fun x_:Bool=>.bool x_) (fun _=>[Bk x 335 [.slice (some ⟨a,0,none⟩) n n,.slice (some ⟨b,0,none⟩) n n,.slice (some ⟨c,0,none⟩) n n,.slice (some ⟨d,0,none⟩) n n,.map (some mb),.bool f0,.bool f1],Bk a 94 (fL ts),Bk b 4 (jM cs),Bk c 3 (aJ ps),Bk d 3 (aJ qs),Mp (aC .u16) mb aD]) (fun x_=>x_=true):=by
 refine Fg Tryz.func231 Tryz.ntmps231 fun W0 R=>?_;refine Au ?_;refine Ef (EF.bV rfl) fun b3 _=>?_;exact aEa
theorem BW (x a b c d mb n:Nat) (f0 f1:Bool) (ts:List Tm) (cs:List Bool) (ps qs:List Int) (aD:List (Int × Value)) (hk:jN n cs ps qs aD) (t:Tm) (ha:0≤t.a∧t.a < (n:Int)) :
  bQ Tryz.prog 232 [ptr x,dE t] [Bk x 335 [.slice (some ⟨a,0,none⟩) n n,.slice (some ⟨b,0,none⟩) n n,.slice (some ⟨c,0,none⟩) n n,.slice (some ⟨d,0,none⟩) n n,.map (some mb),.bool f0,.bool f1],Bk a 94 (fL ts),Bk b 4 (jM cs),Bk c 3 (aJ ps),Bk d 3 (aJ qs),Mp (aC .u16) mb aD] (fun x_:Bool=>.bool x_) (fun _=>[Bk x 335 [.slice (some ⟨a,0,none⟩) n n,.slice (some ⟨b,0,none⟩) n n,.slice (some ⟨c,0,none⟩) n n,.slice (some ⟨d,0,none⟩) n n,.map (some mb),.bool f0,.bool f1],Bk a 94 (fL ts),Bk b 4 (jM cs),Bk c 3 (aJ ps),Bk d 3 (aJ qs),Mp (aC .u16) mb aD]) (fun x_=>x_=cg cs t.a):=by
 refine Fg Tryz.func232 Tryz.ntmps232 fun W0 R=>?_;refine Au ?_;refine Ef (EF.bV rfl) fun b3 _=>?_;refine Au ?_;refine Gr 9 (.t (.t (.t (.t (.t (.t (.t .e))))))) ?_;refine Dq 3 [0,1,2,3,4,5] ?_;refine Dv 6 rfl (fun X=>EX.indexAddr (a:=(t.a).toNat) rfl rfl sL (by omega) (by simp)) ?_;refine Dv 7 rfl (fun X=>EX.ld rfl (cO (i:=t.a) hk.cl (by omega)) oN) ?_;refine Dq 0 [8] ?_;refine Gd ?_;exact aEa
theorem wM (x a b c d mb n:Nat) (f0 f1:Bool) (ts:List Tm) (cs:List Bool) (ps qs:List Int) (aD:List (Int × Value)) (hk:jN n cs ps qs aD) (t:Tm) (ha:0≤t.a∧t.a < (n:Int)) (hb:0≤t.b∧t.b < (n:Int)) :
  bQ Tryz.prog 236 [ptr x,dE t] [Bk x 335 [.slice (some ⟨a,0,none⟩) n n,.slice (some ⟨b,0,none⟩) n n,.slice (some ⟨c,0,none⟩) n n,.slice (some ⟨d,0,none⟩) n n,.map (some mb),.bool f0,.bool f1],Bk a 94 (fL ts),Bk b 4 (jM cs),Bk c 3 (aJ ps),Bk d 3 (aJ qs),Mp (aC .u16) mb aD] (fun x_:Bool=>.bool x_) (fun _=>[Bk x 335 [.slice (some ⟨a,0,none⟩) n n,.slice (some ⟨b,0,none⟩) n n,.slice (some ⟨c,0,none⟩) n n,.slice (some ⟨d,0,none⟩) n n,.map (some mb),.bool f0,.bool f1],Bk a 94 (fL ts),Bk b 4 (jM cs),Bk c 3 (aJ ps),Bk d 3 (aJ qs),Mp (aC .u16) mb aD]) (fun x_=>x_=true→cg cs t.a=true∧cg cs t.b=true):=by
 refine Fg Tryz.func236 Tryz.ntmps236 fun W0 R=>?_;refine Au ?_;refine Ef (EF.bV rfl) fun b3 _=>?_;refine Au ?_;refine Gr 19 (.t (.t (.t (.t (.t (.t (.t .e))))))) ?_;refine Dq 13 [0,1,2,3,4,5] ?_;refine Dv 6 rfl (fun X=>EX.indexAddr (a:=(t.a).toNat) rfl rfl sL (by omega) (by simp)) ?_;refine Dv 7 rfl (fun X=>EX.ld rfl (cO (i:=t.a) hk.cl (by omega)) oN) ?_;refine Dq 10 [8] ?_;refine GD.case 13 rfl (fun g13=>?_) (fun g13=>?_)
 ·refine Dq 4 [9,10,11,12,13,14] ?_;refine Dh 15 rfl (fun X=>EX.indexAddr (a:=(t.b).toNat) rfl rfl sL (by omega) (by simp)) (.q g13) ?_;refine Dh 16 rfl (fun X=>EX.ld rfl (cO (i:=t.b) hk.cl (by omega)) oN) (.q g13) ?_;refine Dq 0 [17,18] ?_;exact aJy
 refine Dq 0 [9,10,11,12,13,14,15,16,17,18] ?_;exact aJy
theorem XP (x a b c d mb n:Nat) (f0 f1:Bool) (ts:List Tm) (cs:List Bool) (ps qs:List Int) (aD:List (Int × Value)) (hk:jN n cs ps qs aD) (t:Tm) (ha:0≤t.a∧t.a < (n:Int)) (hb:0≤t.b∧t.b < (n:Int)) (hc:0≤t.c∧t.c < (n:Int)) :
  bQ Tryz.prog 237 [ptr x,dE t] [Bk x 335 [.slice (some ⟨a,0,none⟩) n n,.slice (some ⟨b,0,none⟩) n n,.slice (some ⟨c,0,none⟩) n n,.slice (some ⟨d,0,none⟩) n n,.map (some mb),.bool f0,.bool f1],Bk a 94 (fL ts),Bk b 4 (jM cs),Bk c 3 (aJ ps),Bk d 3 (aJ qs),Mp (aC .u16) mb aD] (fun x_:Bool=>.bool x_) (fun _=>[Bk x 335 [.slice (some ⟨a,0,none⟩) n n,.slice (some ⟨b,0,none⟩) n n,.slice (some ⟨c,0,none⟩) n n,.slice (some ⟨d,0,none⟩) n n,.map (some mb),.bool f0,.bool f1],Bk a 94 (fL ts),Bk b 4 (jM cs),Bk c 3 (aJ ps),Bk d 3 (aJ qs),Mp (aC .u16) mb aD]) (fun x_=>x_=true→cg cs t.a=true∧cg cs t.b=true∧cg cs t.c=true):=by
 refine Fg Tryz.func237 Tryz.ntmps237 fun W0 R=>?_;refine Au ?_;refine Ef (EF.bV rfl) fun b3 _=>?_;refine Au ?_;refine Gr 14 (.t (.t (.t (.t (.t (.t (.t .e))))))) ?_;refine Dq 12 [0,1] ?_;refine Ga 2 ?_;refine Kx (wM _ _ _ _ _ _ _ _ _ _ _ _ _ _ hk t ha hb) (.cons .p1 (.cons .p1 (.cons .p1 (.cons .p1 (.cons .p1 (.cons .p1 .nil)))))) fun z hz=>?_;refine D.n (.t6 .refl) ?_;refine Ds 3 ?_;refine GD.case 8 rfl (fun g8=>?_) (fun g8=>?_)
 ·refine Dq 4 [4,5,6,7,8,9] ?_;refine Dh 10 rfl (fun X=>EX.indexAddr (a:=(t.c).toNat) rfl rfl sL (by omega) (by simp)) (.q g8) ?_;refine Dh 11 rfl (fun X=>EX.ld rfl (cO (i:=t.c) hk.cl (by omega)) oN) (.q g8) ?_;refine Dq 0 [12,13] ?_;exact aJz
 refine Dq 0 [4,5,6,7,8,9,10,11,12,13] ?_;exact aJz
theorem wL (x a b c d mb n:Nat) (f0 f1:Bool) (ts:List Tm) (cs:List Bool) (ps qs:List Int) (aD:List (Int × Value)) (hk:jN n cs ps qs aD) (i:Int) (hi:0≤i∧i < (n:Int)) :
  bQ Tryz.prog 263 [ptr x,.int .i64 i] [Bk x 335 [.slice (some ⟨a,0,none⟩) n n,.slice (some ⟨b,0,none⟩) n n,.slice (some ⟨c,0,none⟩) n n,.slice (some ⟨d,0,none⟩) n n,.map (some mb),.bool f0,.bool f1],Bk a 94 (fL ts),Bk b 4 (jM cs),Bk c 3 (aJ ps),Bk d 3 (aJ qs),Mp (aC .u16) mb aD] (fun x_:Bool=>.bool x_) (fun _=>[Bk x 335 [.slice (some ⟨a,0,none⟩) n n,.slice (some ⟨b,0,none⟩) n n,.slice (some ⟨c,0,none⟩) n n,.slice (some ⟨d,0,none⟩) n n,.map (some mb),.bool f0,.bool f1],Bk a 94 (fL ts),Bk b 4 (jM cs),Bk c 3 (aJ ps),Bk d 3 (aJ qs),Mp (aC .u16) mb aD]) (fun _=>True):=by
 refine Fg Tryz.func263 Tryz.ntmps263 fun W0 R=>?_;have hpi:=LM (i:=i) hk.np hk.pi;refine Au ?_;refine Gr 23 (.t (.t (.t (.t (.t (.t .e)))))) ?_;refine Dq 18 [0,1,2,3,4] ?_;refine Dv 5 rfl (fun X=>EX.indexAddr (a:=(i).toNat) rfl rfl sL (by omega) (by simp)) ?_;refine Dv 6 rfl (fun X=>EX.ld rfl (cO (i:=i) hk.cl (by omega)) oN) ?_;refine Dq 15 [7] ?_;refine GD.case 12 rfl (fun g12=>?_) (fun g12=>?_)
 ·refine Dq 0 [8,9,10,11,12,13,14,15,16,17,18,19,20,21,22] ?_;exact aJw
 refine Dq 6 [8,9,10,11,12,13,14,15,16] ?_;refine Dh 17 rfl (fun X=>EX.indexAddr (a:=(i).toNat) rfl rfl sL (by omega) (by simp)) (.q g12) ?_;refine Dh 18 rfl (fun X=>EX.ld rfl (mX (i:=i) hk.pl (by omega)) oN) (.q g12) ?_;refine Dh 19 rfl (fun X=>EX.indexAddr (a:=(pg ps i).toNat) rfl rfl sL (by omega) (by simp)) (.q g12) ?_;refine Dh 20 rfl (fun X=>EX.ld rfl (cO (i:=pg ps i) hk.cl (by omega)) oN) (.q g12) ?_;refine Dq 0 [21,22] ?_;exact aJw
theorem QN (x a b c d mb n:Nat) (f0 f1:Bool) (ts:List Tm) (cs:List Bool) (ps qs:List Int) (aD:List (Int × Value)) (hk:jN n cs ps qs aD) (t:Tm) (ha:0≤t.a∧t.a < (n:Int)) (hb:0≤t.b∧t.b < (n:Int)) :
  bQ Tryz.prog 233 [ptr x,dE t] [Bk x 335 [.slice (some ⟨a,0,none⟩) n n,.slice (some ⟨b,0,none⟩) n n,.slice (some ⟨c,0,none⟩) n n,.slice (some ⟨d,0,none⟩) n n,.map (some mb),.bool f0,.bool f1],Bk a 94 (fL ts),Bk b 4 (jM cs),Bk c 3 (aJ ps),Bk d 3 (aJ qs),Mp (aC .u16) mb aD] (fun x_:Bool=>.bool x_) (fun _=>[Bk x 335 [.slice (some ⟨a,0,none⟩) n n,.slice (some ⟨b,0,none⟩) n n,.slice (some ⟨c,0,none⟩) n n,.slice (some ⟨d,0,none⟩) n n,.map (some mb),.bool f0,.bool f1],Bk a 94 (fL ts),Bk b 4 (jM cs),Bk c 3 (aJ ps),Bk d 3 (aJ qs),Mp (aC .u16) mb aD]) (fun x_=>True):=by
 refine Fg Tryz.func233 Tryz.ntmps233 fun W0 R=>?_;have hpa:=LM (i:=t.a) hk.np hk.pi;have hpb:=LM (i:=t.b) hk.np hk.pi;refine Au ?_;refine Ef (EF.bV rfl) fun b3 _=>?_;refine Au ?_;refine Gr 30 (.t (.t (.t (.t (.t (.t (.t .e))))))) ?_;refine Dq 24 [0,1,2,3,4,5] ?_;refine Dv 6 rfl (fun X=>EX.indexAddr (a:=(t.a).toNat) rfl rfl sL (by omega) (by simp)) ?_;refine Dv 7 rfl (fun X=>EX.ld rfl (cO (i:=t.a) hk.cl (by omega)) oN) ?_;refine Dq 21 [8] ?_;refine GD.case 13 rfl (fun g13=>?_) (fun g13=>?_)
 ·refine Dq 18 [9,10,11] ?_;refine Ga 12 ?_;refine K.x (EC.direct eN rfl) (wL _ _ _ _ _ _ _ _ _ _ _ _ _ _ hk _ (by omega)) (.cons .p1 (.cons .p1 (.cons .p1 (.cons .p1 (.cons .p1 (.cons .p1 .nil)))))) (fun _=>(.c (.c (.a4)))) rfl rfl (.guard rfl rfl rfl rfl g13) (fun zo _=>?_);refine D.n (.t6 .refl) ?_;refine Dq 15 [13,14] ?_;refine GD.case 19 rfl (fun g19=>?_) (fun g19=>?_)
  ·refine Dq 3 [15,16,17,18,19,20,21,22,23,24,25,26] ?_;refine Ga 27 ?_;refine Au ?_;refine D.n (.t6 .refl) ?_;refine Dq 0 [28,29] ?_;refine Gd ?_;refine Au ?_;refine GC.aQ rfl rfl ?_;exact BV
  refine Dq 9 [15,16,17,18,19,20] ?_;refine Dh 21 rfl (fun X=>EX.indexAddr (a:=(t.b).toNat) rfl rfl sL (by omega) (by simp)) (.q g19) ?_;refine Dh 22 rfl (fun X=>EX.ld rfl (cO (i:=t.b) hk.cl (by omega)) oN) (.q g19) ?_;refine Dq 6 [23] ?_;refine GD.case 28 rfl (fun SN=>?_) (fun SN=>?_)
  ·refine Dq 3 [24,25,26] ?_;refine Ga 27 ?_;refine K.x (EC.direct eN rfl) (wL _ _ _ _ _ _ _ _ _ _ _ _ _ _ hk _ (by omega)) (.cons .p0 (.cons .p0 (.cons .p0 (.cons .p0 (.cons .p0 (.cons .p0 .nil)))))) (fun _=>(.c (.c (.a4)))) rfl rfl (.guard rfl rfl rfl rfl SN) (fun zo _=>?_);exact aJx
  refine Dq 3 [24,25,26] ?_;refine Ga 27 ?_;refine Au ?_;refine D.n (.t6 .refl) ?_;refine Dq 0 [28,29] ?_;refine Gd ?_;refine Au ?_;refine GC.bH rfl rfl ?_;exact aJ0
 refine Dq 18 [9,10,11] ?_;refine Ga 12 ?_;refine Au ?_;refine D.n .refl ?_;refine Dq 9 [13,14,15,16,17,18,19,20] ?_;refine Dh 21 rfl (fun X=>EX.indexAddr (a:=(t.b).toNat) rfl rfl sL (by omega) (by simp)) (.q rfl) ?_;refine Dh 22 rfl (fun X=>EX.ld rfl (cO (i:=t.b) hk.cl (by omega)) oN) (.q rfl) ?_;refine Dq 6 [23] ?_;refine GD.case 28 rfl (fun aAi=>?_) (fun aAi=>?_)
 ·refine Dq 3 [24,25,26] ?_;refine Ga 27 ?_;refine K.x (EC.direct eN rfl) (wL _ _ _ _ _ _ _ _ _ _ _ _ _ _ hk _ (by omega)) (.cons .p1 (.cons .p1 (.cons .p1 (.cons .p1 (.cons .p1 (.cons .p1 .nil)))))) (fun _=>(.c (.c (.a4)))) rfl rfl (.guard rfl rfl rfl rfl aAi) (fun zo _=>?_);exact aJx
 refine Dq 3 [24,25,26] ?_;refine Ga 27 ?_;refine Au ?_;refine D.n .refl ?_;refine Dq 0 [28,29] ?_;refine Gd ?_;refine Au ?_;refine GC.bH rfl rfl ?_;refine Au ?_;refine Gr 38 (.t (.t (.t (.t (.t (.t (.t .e))))))) ?_;refine Dq 32 [0,1,2,3,4,5] ?_;refine GD.case 40 rfl (fun FN=>?_) (fun FN=>?_)
 ·refine Dq 22 [6,7,8,9,10,11,12,13,14,15] ?_;refine Dh 16 rfl (fun X=>EX.indexAddr (a:=(t.a).toNat) rfl rfl sL (by omega) (by simp)) (.q FN) ?_;refine Dh 17 rfl (fun X=>EX.ld rfl (mX (i:=t.a) hk.pl (by omega)) oN) (.q FN) ?_;refine Dh 18 rfl (fun X=>EX.indexAddr (a:=(pg ps t.a).toNat) rfl rfl sL (by omega) (by simp)) (.q FN) ?_;refine Dh 19 rfl (fun X=>EX.ld rfl (cO (i:=pg ps t.a) hk.cl (by omega)) oN) (.q FN) ?_;refine Dq 16 [20,21] ?_;refine GD.case 56 rfl (fun FM=>?_) (fun FM=>?_)
  ·refine Dq 6 [22,23,24,25,26,27,28,29,30,31] ?_;refine Dh 32 rfl (fun X=>EX.indexAddr (a:=(t.b).toNat) rfl rfl sL (by omega) (by simp)) (.q FM) ?_;refine Dh 33 rfl (fun X=>EX.ld rfl (mX (i:=t.b) hk.pl (by omega)) oN) (.q FM) ?_;refine Dh 34 rfl (fun X=>EX.indexAddr (a:=(pg ps t.b).toNat) rfl rfl sL (by omega) (by simp)) (.q FM) ?_;refine Dh 35 rfl (fun X=>EX.ld rfl (cO (i:=pg ps t.b) hk.cl (by omega)) oN) (.q FM) ?_;refine Dq 0 [36,37] ?_;exact QK
  refine Dq 0 [22,23,24,25,26,27,28,29,30,31,32,33,34,35,36,37] ?_;exact QK
 refine Dq 0 [6,7,8,9,10,11,12,13,14,15,16,17,18,19,20,21,22,23,24,25,26,27,28,29,30,31,32,33,34,35,36,37] ?_;exact QK
theorem FE (x a b c d mb n:Nat) (f0 f1:Bool) (ts:List Tm) (cs:List Bool) (ps qs:List Int) (aD:List (Int × Value)) (hk:jN n cs ps qs aD) (t:Tm) (ha:0≤t.a∧t.a < (n:Int)) (hb:0≤t.b∧t.b < (n:Int)) :
  bQ Tryz.prog 234 [ptr x,dE t] [Bk x 335 [.slice (some ⟨a,0,none⟩) n n,.slice (some ⟨b,0,none⟩) n n,.slice (some ⟨c,0,none⟩) n n,.slice (some ⟨d,0,none⟩) n n,.map (some mb),.bool f0,.bool f1],Bk a 94 (fL ts),Bk b 4 (jM cs),Bk c 3 (aJ ps),Bk d 3 (aJ qs),Mp (aC .u16) mb aD] (fun x_:Bool=>.bool x_) (fun _=>[Bk x 335 [.slice (some ⟨a,0,none⟩) n n,.slice (some ⟨b,0,none⟩) n n,.slice (some ⟨c,0,none⟩) n n,.slice (some ⟨d,0,none⟩) n n,.map (some mb),.bool f0,.bool f1],Bk a 94 (fL ts),Bk b 4 (jM cs),Bk c 3 (aJ ps),Bk d 3 (aJ qs),Mp (aC .u16) mb aD]) (fun x_=>True):=by
 refine Fg Tryz.func234 Tryz.ntmps234 fun W0 R=>?_;have hqa:=LM (i:=t.a) hk.np hk.qi;refine Au ?_;refine Ef (EF.bV rfl) fun b3 _=>?_;refine Au ?_;refine Gr 35 (.t (.t (.t (.t (.t (.t (.t .e))))))) ?_;refine Dq 29 [0,1,2,3,4,5] ?_;refine Dv 6 rfl (fun X=>EX.indexAddr (a:=(t.b).toNat) rfl rfl sL (by omega) (by simp)) ?_;refine Dv 7 rfl (fun X=>EX.ld rfl (cO (i:=t.b) hk.cl (by omega)) oN) ?_;refine Dq 26 [8] ?_;refine GD.case 13 rfl (fun g13=>?_) (fun g13=>?_)
 ·refine Dq 20 [9,10,11,12,13,14] ?_;refine Dh 15 rfl (fun X=>EX.indexAddr (a:=(t.a).toNat) rfl rfl sL (by omega) (by simp)) (.q g13) ?_;refine Dh 16 rfl (fun X=>EX.ld rfl (cO (i:=t.a) hk.cl (by omega)) oN) (.q g13) ?_;refine Dq 17 [17] ?_;refine GD.case 22 rfl (fun g22=>?_) (fun g22=>?_)
  ·refine Dq 0 [18,19,20,21,22,23,24,25,26,27,28,29,30,31,32,33,34] ?_;exact QK
  refine Dq 7 [18,19,20,21,22,23,24,25,26,27] ?_;refine Dh 28 rfl (fun X=>EX.indexAddr (a:=(t.a).toNat) rfl rfl sL (by omega) (by simp)) (.q g22) ?_;refine Dh 29 rfl (fun X=>EX.ld rfl (mX (i:=t.a) hk.ql (by omega)) oN) (.q g22) ?_;refine Dh 30 rfl (fun X=>EX.indexAddr (a:=(pg qs t.a).toNat) rfl rfl sL (by omega) (by simp)) (.q g22) ?_;refine Dh 31 rfl (fun X=>EX.ld rfl (cO (i:=pg qs t.a) hk.cl (by omega)) oN) (.q g22) ?_;refine Dq 0 [32,33,34] ?_;exact QK
 refine Dq 0 [9,10,11,12,13,14,15,16,17,18,19,20,21,22,23,24,25,26,27,28,29,30,31,32,33,34] ?_;exact QK
theorem R7 (x a b c d mb n:Nat) (f0 f1:Bool) (ts:List Tm) (cs:List Bool) (ps qs:List Int) (aD:List (Int × Value)) (hk:jN n cs ps qs aD) (t:Tm) (ha:0≤t.a∧t.a < (n:Int)) (hb:0≤t.b∧t.b < (n:Int)) (hb2:t.b < 4294967296) :
  bQ Tryz.prog 235 [ptr x,dE t] [Bk x 335 [.slice (some ⟨a,0,none⟩) n n,.slice (some ⟨b,0,none⟩) n n,.slice (some ⟨c,0,none⟩) n n,.slice (some ⟨d,0,none⟩) n n,.map (some mb),.bool f0,.bool f1],Bk a 94 (fL ts),Bk b 4 (jM cs),Bk c 3 (aJ ps),Bk d 3 (aJ qs),Mp (aC .u16) mb aD] (fun x_:Bool=>.bool x_) (fun _=>[Bk x 335 [.slice (some ⟨a,0,none⟩) n n,.slice (some ⟨b,0,none⟩) n n,.slice (some ⟨c,0,none⟩) n n,.slice (some ⟨d,0,none⟩) n n,.map (some mb),.bool f0,.bool f1],Bk a 94 (fL ts),Bk b 4 (jM cs),Bk c 3 (aJ ps),Bk d 3 (aJ qs),Mp (aC .u16) mb aD]) (fun x_=>True):=by
 refine Fg Tryz.func235 Tryz.ntmps235 fun W0 R=>?_;obtain ⟨li,hli,hl2⟩:=hk.look (t.a * 4294967296 + t.b);have hkey:some (Value.agg #[.int .i64 t.a,.int .i64 t.b])=some (aC .u16 (t.a * 4294967296 + t.b)):=congrArg some (zM (by omega));refine Au ?_;refine Ef (EF.bV rfl) fun b3 _=>?_;refine Au ?_;refine Gr 17 (.t (.t (.t (.t (.t (.t (.t .e))))))) ?_;refine Dq 5 [0,1,2,3,4,5,6,7,8,9,10,11] ?_;refine Dv 12 rfl (fun X=>EX.build rfl KD rfl) ?_;refine Dv 13 rfl (fun X=>EX.lkv (a:=t.a * 4294967296 + t.b) rfl hkey aAd uN zV hli) ?_;refine Dv 14 rfl (fun X=>EX.indexAddr (a:=(li).toNat) rfl rfl sL (by omega) (by simp)) ?_;refine Dv 15 rfl (fun X=>EX.ld rfl (cO (i:=li) hk.cl (by omega)) oN) ?_;refine Dq 0 [16] ?_;refine Gd ?_;refine Au ?_;refine Gr 24 (.t (.t (.t (.t (.t (.t (.t .e))))))) ?_;refine Dq 22 [0,1] ?_;refine Ga 2 ?_;refine Kx (FE _ _ _ _ _ _ _ _ _ _ _ _ _ _ hk t ha hb) (.cons .p1 (.cons .p1 (.cons .p1 (.cons .p1 (.cons .p1 (.cons .p1 .nil)))))) fun zw _=>?_;refine D.n (.t6 .refl) ?_;refine Ds 3 ?_;refine GD.case 25 rfl (fun g25=>?_) (fun g25=>?_)
 ·refine Dq 0 [4,5,6,7,8,9,10,11,12,13,14,15,16,17,18,19,20,21,22,23] ?_;refine Gd ?_;exact BV
 refine Dq 18 [4,5] ?_;refine GD.case 27 rfl (fun MV=>?_) (fun MV=>?_)
 ·refine Dq 12 [6,7,8,9,10,11] ?_;refine GD.case 33 rfl (fun g33=>?_) (fun g33=>?_)
  ·refine Dq 0 [12,13,14,15,16,17,18,19,20,21,22,23] ?_;refine Gd ?_;exact BV
  refine Dq 6 [12,13,14,15,16,17] ?_;refine Dh 18 rfl (fun X=>EX.indexAddr (a:=(t.a).toNat) rfl rfl sL (by omega) (by simp)) (.q g33) ?_;refine Dh 19 rfl (fun X=>EX.ld rfl (cO (i:=t.a) hk.cl (by omega)) oN) (.q g33) ?_;refine Dq 0 [20,21,22,23] ?_;refine Gd ?_;exact BV
 refine Dq 0 [6,7,8,9,10,11,12,13,14,15,16,17,18,19,20,21,22,23] ?_;refine Gd ?_;exact BV
end
section
open EV (aC)
def fc:List Bool→Nat
 | []=>0
 | b::l=>(if b then 0 else 1) + fc l
theorem CH:∀ (l:List Bool) (i:Nat),fc (l.set i true)≤fc l∧(i < l.length→l[i]?.getD false=false→fc (l.set i true) < fc l)
 | [],i=>by simp [fc]
 | b::l,0=>by cases b <;> simp [fc]
 | b::l,i + 1=>by
  have h:=CH l i;simp only [List.set_cons_succ,fc,List.length_cons,List.getElem?_cons_succ];exact ⟨by omega,fun h1 h2=>by have:=h.2 (by omega) h2; omega⟩
theorem aJv {p : Prop} (h : p := by
    first
    | (exact ⟨⟨hk.cl, Nat.le_refl _, fun h => (by cases h)⟩, fun i hi hc => .inl hc⟩)
    | (have q1 := aDz hk.cl (h10 e10).2
       refine ⟨by rw [hz]; exact q1, fun i hi hc => ?_⟩
       rcases xL hi (h10 e10).2.1 hc with h1 | h1
       · exact .inl h1
       · exact .inr (.inr ⟨e10, h1⟩))
    | (have q1 := aDz hk.cl (h11 e11).1
       have q2 := aDz (i := t.b) q1.len (h11 e11).2
       refine ⟨⟨q2.len, Nat.le_trans q2.le q1.le, fun hh => ?_⟩, fun i hi hc => ?_⟩
       · show fc ((cs.set t.a.toNat true).set t.b.toNat true) < fc cs
         first
         | (have := q1.lt (by rw [← hz]; exact g20); have := q2.le; omega)
         | (have := q2.lt (by rw [← hz2]; exact hh); have := q1.le; omega)
       · rcases xL hi (h11 e11).2.1 hc with h1 | h1
         · rcases xL hi (h11 e11).1.1 h1 with h2 | h2
           · exact .inl h2
           · exact .inr (.inl ⟨e11, .inl h2⟩)
         · exact .inr (.inl ⟨e11, .inr h1⟩))) : p := h
theorem aD9 {p:Prop} (h:p:=by
  refine Au ?_;refine Go fun w h=>?_;refine ⟨(_,_),?_,rfl,h.part (.t0 (.t0 (.t0 (.t0 (.t0 (.t0 (.d .refl)))))))⟩;exact aJv):p:=h
theorem aJu {p:Prop} (h:p:=by
  refine Au ?_;refine Go fun w h=>?_;refine ⟨(_,_),?_,rfl,h.part (.t1 (.t1 (.t1 (.t1 (.t1 (.t1 (.d .refl)))))))⟩;exact aJv):p:=h
theorem xL {l:List Bool} {a i:Int} (hi:0≤i) (ha:0≤a) (h:cg (l.set a.toNat true) i=true):cg l i=true∨i=a:=by
 unfold cg at *;rw [List.getElem?_set] at h
 by_cases e:a.toNat=i.toNat
 ·exact .inr (by omega)
 rw [if_neg e] at h; exact .inl h
theorem rY (x a b c d mb n:Nat) (f0 f1:Bool) (ts:List Tm) (cs:List Bool) (ps qs:List Int) (aD:List (Int × Value)) (hk:jN n cs ps qs aD) (i:Int) (hi:0≤i∧i < (n:Int)) :
  bQ Tryz.prog 238 [ptr x,.int .i64 i] [Bk x 335 [.slice (some ⟨a,0,none⟩) n n,.slice (some ⟨b,0,none⟩) n n,.slice (some ⟨c,0,none⟩) n n,.slice (some ⟨d,0,none⟩) n n,.map (some mb),.bool f0,.bool f1],Bk a 94 (fL ts),Bk b 4 (jM cs),Bk c 3 (aJ ps),Bk d 3 (aJ qs),Mp (aC .u16) mb aD] (fun x_:Bool=>.bool x_) (fun _=>[Bk x 335 [.slice (some ⟨a,0,none⟩) n n,.slice (some ⟨b,0,none⟩) n n,.slice (some ⟨c,0,none⟩) n n,.slice (some ⟨d,0,none⟩) n n,.map (some mb),.bool f0,.bool f1],Bk a 94 (fL ts),Bk b 4 (jM (cs.set i.toNat true)),Bk c 3 (aJ ps),Bk d 3 (aJ qs),Mp (aC .u16) mb aD]) (fun x_=>x_=!cg cs i):=by
 refine Fg Tryz.func238 Tryz.ntmps238 fun W0 R=>?_;refine Au ?_;refine Lu rfl (EX.indexAddr (a:=(i).toNat) rfl rfl sL (by omega) (by simp)) ?_;refine L.v (EX.ld rfl (cO (i:=i) hk.cl (by omega)) oN) rfl rfl rfl ?_;refine Au ?_;refine Lu rfl (EX.indexAddr (a:=(i).toNat) rfl rfl sL (by omega) (by simp)) ?_;refine Ed (EU.yA rfl rfl sZ rfl (by rw [CN,hk.cl]; omega)) ?_;refine GL.turn (fun w h=>(show aB W0 w ([Bk x 335 [.slice (some ⟨a,0,none⟩) n n,.slice (some ⟨b,0,none⟩) n n,.slice (some ⟨c,0,none⟩) n n,.slice (some ⟨d,0,none⟩) n n,.map (some mb),.bool f0,.bool f1],Bk a 94 (fL ts),Bk b 4 (jM (cs.set i.toNat true)),Bk c 3 (aJ ps),Bk d 3 (aJ qs),Mp (aC .u16) mb aD]++R) from by rw [← CM]; exact h)) ?_;refine GL.turn (fun w h=>(show aB W0 w (Bk x 335 [.slice (some ⟨a,0,none⟩) n n,.slice (some ⟨b,0,none⟩) n n,.slice (some ⟨c,0,none⟩) n n,.slice (some ⟨d,0,none⟩) n n,.map (some mb),.bool f0,.bool f1]::Bk a 94 (fL ts)::Bk b 4 (jM (cs.set i.toNat true))::Bk c 3 (aJ ps)::Bk d 3 (aJ qs)::Mp (aC .u16) mb aD::R) from h)) ?_;refine Au ?_;refine Go fun w h=>?_;exact ⟨_,rfl,rfl,h.part .refl⟩
theorem jN.set {n:Nat} {cs:List Bool} {ps qs:List Int} {aD:List (Int × Value)} (h:jN n cs ps qs aD) (i:Nat) (v:Bool):jN n (cs.set i v) ps qs aD:=⟨h.np,by rw [List.length_set]; exact h.cl,h.pl,h.ql,h.pi,h.qi,h.kv⟩
structure Lrn (n:Nat) (cs cs':List Bool) (more:Bool):Prop where
 len:cs'.length=n
 le:fc cs'≤fc cs
 lt:more=true→fc cs' < fc cs
theorem aDz {n:Nat} {cs:List Bool} {i:Int} (hl:cs.length=n) (hi:0≤i∧i < (n:Int)):Lrn n cs (cs.set i.toNat true) (!cg cs i) :=
 ⟨by rw [List.length_set]; exact hl,(CH cs i.toNat).1,fun h=>(CH cs i.toNat).2 (by omega) (by unfold cg at h; simpa using h)⟩
theorem rZ (x a b c d mb n:Nat) (f0 f1:Bool) (ts:List Tm) (cs:List Bool) (ps qs:List Int) (aD:List (Int × Value)) (hk:jN n cs ps qs aD) (t:Tm) (h11:t.kind=11→(0≤t.a∧t.a < (n:Int))∧0≤t.b∧t.b < (n:Int)) (h10:t.kind=10→(0≤t.a∧t.a < (n:Int))∧0≤t.c∧t.c < (n:Int)) :
  bQ Tryz.prog 207 [ptr x,dE t] [Bk x 335 [.slice (some ⟨a,0,none⟩) n n,.slice (some ⟨b,0,none⟩) n n,.slice (some ⟨c,0,none⟩) n n,.slice (some ⟨d,0,none⟩) n n,.map (some mb),.bool f0,.bool f1],Bk a 94 (fL ts),Bk b 4 (jM cs),Bk c 3 (aJ ps),Bk d 3 (aJ qs),Mp (aC .u16) mb aD] (fun x_:Bool × List Bool=>.bool x_.1) (fun x_=>[Bk x 335 [.slice (some ⟨a,0,none⟩) n n,.slice (some ⟨b,0,none⟩) n n,.slice (some ⟨c,0,none⟩) n n,.slice (some ⟨d,0,none⟩) n n,.map (some mb),.bool f0,.bool f1],Bk a 94 (fL ts),Bk b 4 (jM x_.2),Bk c 3 (aJ ps),Bk d 3 (aJ qs),Mp (aC .u16) mb aD]) (fun x_=>Lrn n cs x_.2 x_.1∧∀ i:Int,0≤i→cg x_.2 i=true→cg cs i=true∨(t.kind=11∧(i=t.a∨i=t.b))∨(t.kind=10∧i=t.c)):=by
 refine Fg Tryz.func207 Tryz.ntmps207 fun W0 R=>?_;refine Au ?_;refine Ef (EF.bV rfl) fun b3 _=>?_;refine Au ?_;refine GC.cond rfl (fun c7=>?_) (fun c7=>?_)
 ·have e11:t.kind=11:=by simpa using c7
  refine Au ?_;refine Kx (rY _ _ _ _ _ _ _ _ _ _ _ _ _ _ hk _ (h11 e11).1) (.cons .p1 (.cons .p1 (.cons .p1 (.cons .p1 (.cons .p1 (.cons .p1 .nil)))))) fun z hz=>?_;refine Au ?_;refine Kx (rY _ _ _ _ _ _ _ _ _ _ _ _ _ _ (hk.set t.a.toNat true) _ (h11 e11).2) (.cons .p0 (.cons .p0 (.cons .p0 (.cons .p0 (.cons .p0 (.cons .p0 .nil)))))) fun z2 hz2=>?_;refine Au ?_;refine GL.case 20 rfl (fun g20=>?_) (fun g20=>?_)
  ·exact aD9
  exact aD9
 refine Au ?_;refine Gr 14 (.t (.t (.t (.t (.t (.t (.t .e))))))) ?_;refine Dq 10 [0,1,2,3] ?_;refine GD.case 27 rfl (fun MV=>?_) (fun MV=>?_)
 ·have e10:t.kind=10:=by simpa using MV
  have ha:=(h10 e10).1;refine Dq 4 [4,5,6,7,8,9] ?_;refine Dh 10 rfl (fun X=>EX.indexAddr (a:=(t.a).toNat) rfl rfl sL (by omega) (by simp)) (.q MV) ?_;refine Dh 11 rfl (fun X=>EX.ld rfl (cO (i:=t.a) hk.cl (by omega)) oN) (.q MV) ?_;refine Dq 0 [12,13] ?_;refine Gd ?_;refine Au ?_;refine GC.cond rfl (fun c23=>?_) (fun c23=>?_)
  ·refine Au ?_;refine Kx (rY _ _ _ _ _ _ _ _ _ _ _ _ _ _ hk _ (h10 e10).2) (.cons .p1 (.cons .p1 (.cons .p1 (.cons .p1 (.cons .p1 (.cons .p1 .nil)))))) fun z hz=>?_;exact aD9
  exact aJu
 refine Dq 0 [4,5,6,7,8,9,10,11,12,13] ?_;refine Gd ?_;refine Au ?_;refine GC.bH rfl rfl ?_;exact aJu
end
section
open EV (aC)
theorem P1:Many Tryz.prog 364 12:=Many.of Tryz.underlying364 rfl (by kernel_rfl)
def fv (f:Nat):Value:=.func (.func f) #[] #[]
abbrev KP:List Value:=[fv 230,fv 231,fv 230,fv 232,fv 233,fv 232,fv 234,fv 235,fv 236,fv 232,fv 237,fv 236]
def aA6 (k:Int):Nat:=([230,231,230,232,233,232,234,235,236,232,237,236]:List Nat)[k.toNat]?.getD 230
theorem kinds {k:Int} (h:1≤k∧k < 12):k=1∨k=2∨k=3∨k=4∨k=5∨k=6∨k=7∨k=8∨k=9∨k=10∨k=11:=by omega
theorem aA5 {k:Int} (h:1≤k∧k < 12):lc KP k.toNat=some (.func (.func (aA6 k)) #[] #[]):=by
 rcases kinds h with rfl | rfl | rfl | rfl | rfl | rfl | rfl | rfl | rfl | rfl | rfl <;> rfl
theorem aFh {k:Int} (h:1≤k∧k < 12):Enters Tryz.prog (aA6 k):=by
 rcases kinds h with rfl | rfl | rfl | rfl | rfl | rfl | rfl | rfl | rfl | rfl | rfl
 ·exact eN
 ·exact eN
 ·exact eN
 ·exact eN
 ·exact eN
 ·exact eN
 ·exact eN
 ·exact eN
 ·exact eN
 ·exact eN
 exact eN
def X9 (cs:List Bool) (t:Tm):Prop:=(t.kind=1∨3≤t.kind∧t.kind≤7)∨((t.kind=8∨t.kind=11)∧cg cs t.a=true∧cg cs t.b=true)∨(t.kind=9∧cg cs t.a=true)∨(t.kind=10∧cg cs t.a=true∧cg cs t.b=true∧cg cs t.c=true)
theorem rL {t:Tm} (h:t.kind=3∨t.kind=5∨t.kind=9):t.a∈t.parts:=by unfold Tm.parts; rw [if_pos h]; simp
theorem jG {t:Tm} (h:t.kind=4∨t.kind=6∨t.kind=7∨t.kind=8∨t.kind=11):t.a∈t.parts∧t.b∈t.parts:=by
 unfold Tm.parts; rw [if_neg (by omega),if_pos h]; simp
theorem kT {t:Tm} (h:t.kind=10):t.a∈t.parts∧t.b∈t.parts∧t.c∈t.parts:=by
 unfold Tm.parts; rw [if_neg (by omega),if_neg (by omega),if_pos h]; simp
section
variable {x a b c d mb n:Nat} {f0 f1:Bool} {ts:List Tm} {cs:List Bool} {ps qs:List Int} {aD:List (Int × Value)}
theorem aA4 (hk:jN n cs ps qs aD) (hn:n≤1000000) (t:Tm) (hkd:1≤t.kind∧t.kind < 12) (ht:∀ p∈t.parts,1≤p∧p < (n:Int)) :
  bQ Tryz.prog (aA6 t.kind) [ptr x,dE t] [Bk x 335 [.slice (some ⟨a,0,none⟩) n n,.slice (some ⟨b,0,none⟩) n n,.slice (some ⟨c,0,none⟩) n n,.slice (some ⟨d,0,none⟩) n n,.map (some mb),.bool f0,.bool f1],Bk a 94 (fL ts),Bk b 4 (jM cs),Bk c 3 (aJ ps),Bk d 3 (aJ qs),Mp (aC .u16) mb aD] (fun y:Bool=>.bool y) (fun _=>[Bk x 335 [.slice (some ⟨a,0,none⟩) n n,.slice (some ⟨b,0,none⟩) n n,.slice (some ⟨c,0,none⟩) n n,.slice (some ⟨d,0,none⟩) n n,.map (some mb),.bool f0,.bool f1],Bk a 94 (fL ts),Bk b 4 (jM cs),Bk c 3 (aJ ps),Bk d 3 (aJ qs),Mp (aC .u16) mb aD]) (fun y=>y=true→X9 cs t):=by
 have ok:∀ p∈t.parts,0≤p∧p < (n:Int):=fun p hp=>by have:=ht p hp; omega
 rcases kinds hkd with e | e | e | e | e | e | e | e | e | e | e <;> rw [e]
 ·exact (XO _ _ _ _ _ _ _ _ _ _ _ _ _ _ hk t).weaken fun y hy=>⟨y,fun _=>.inl (.inl e),rfl,rfl⟩
 ·exact (XR _ _ _ _ _ _ _ _ _ _ _ _ _ _ hk t).weaken fun y hy=>⟨y,fun h=>(by subst hy; cases h),rfl,rfl⟩
 ·exact (BW _ _ _ _ _ _ _ _ _ _ _ _ _ _ hk t (ok _ (rL (.inl e)))).weaken fun y hy=>⟨y,fun _=>.inl (.inr (by omega)),rfl,rfl⟩
 ·have:=jG (t:=t) (.inl e);exact (QN _ _ _ _ _ _ _ _ _ _ _ _ _ _ hk t (ok _ this.1) (ok _ this.2)).weaken fun y hy=>⟨y,fun _=>.inl (.inr (by omega)),rfl,rfl⟩
 ·exact (BW _ _ _ _ _ _ _ _ _ _ _ _ _ _ hk t (ok _ (rL (.inr (.inl e))))).weaken fun y hy=>⟨y,fun _=>.inl (.inr (by omega)),rfl,rfl⟩
 ·have:=jG (t:=t) (.inr (.inl e));exact (FE _ _ _ _ _ _ _ _ _ _ _ _ _ _ hk t (ok _ this.1) (ok _ this.2)).weaken fun y hy=>⟨y,fun _=>.inl (.inr (by omega)),rfl,rfl⟩
 ·have:=jG (t:=t) (.inr (.inr (.inl e)));exact (R7 _ _ _ _ _ _ _ _ _ _ _ _ _ _ hk t (ok _ this.1) (ok _ this.2) (by have:=ok _ this.2; omega)).weaken fun y hy=>⟨y,fun _=>.inl (.inr (by omega)),rfl,rfl⟩
 ·have:=jG (t:=t) (.inr (.inr (.inr (.inl e))));exact (wM _ _ _ _ _ _ _ _ _ _ _ _ _ _ hk t (ok _ this.1) (ok _ this.2)).weaken fun y hy=>⟨y,fun h=>.inr (.inl ⟨.inl e,hy h⟩),rfl,rfl⟩
 ·exact (BW _ _ _ _ _ _ _ _ _ _ _ _ _ _ hk t (ok _ (rL (.inr (.inr e))))).weaken fun y hy=>⟨y,fun h=>.inr (.inr (.inl ⟨e,by rw [← hy]; exact h⟩)),rfl,rfl⟩
 ·have:=kT e;exact (XP _ _ _ _ _ _ _ _ _ _ _ _ _ _ hk t (ok _ this.1) (ok _ this.2.1) (ok _ this.2.2)).weaken fun y hy=>⟨y,fun h=>.inr (.inr (.inr ⟨e,hy h⟩)),rfl,rfl⟩
 have:=jG (t:=t) (.inr (.inr (.inr (.inr e))));exact (wM _ _ _ _ _ _ _ _ _ _ _ _ _ _ hk t (ok _ this.1) (ok _ this.2)).weaken fun y hy=>⟨y,fun h=>.inr (.inl ⟨.inr e,hy h⟩),rfl,rfl⟩
end
def ClB (l:List Tm) (cs0 cs:List Bool):Prop:=∀ S:Int→Prop,nH l S→(∀ i,1≤i→cg cs0 i=true→S i)→∀ i,1≤i→cg cs i=true→S i
structure nO (l:List Tm) (n:Nat) (cs0 c0 cs:List Bool) (more:Bool):Prop where
 len:cs.length=n
 cl:ClB l cs0 cs
 le:fc cs≤fc c0
 lt:more=true→fc cs < fc c0
section
variable {l:List Tm} {n:Nat} {cs0 c0 cs:List Bool} {more:Bool} {t:Tm} {i:Nat}
theorem nO.add (h:nO l n cs0 c0 cs more) (hi:1≤i∧i < n) (hit:eI l i=true) (ht:aO l i=t) (hp:∀ p∈t.parts,1≤p∧p < (n:Int)) (hnew:cg cs i=false) (hw:X9 cs t):nO l n cs0 c0 (cs.set ((i:Int)).toNat true) true:=by
 have hf:=CH cs ((i:Int)).toNat;have hlt:=hf.2 (by have:=h.len; omega) (by unfold cg at hnew; simpa using hnew);refine ⟨by rw [List.length_set]; exact h.len,fun S hS h0 j hj hc=>?_,by have:=h.le; omega,fun _=>by have:=h.le; omega⟩;rcases xL (by omega) (by omega) hc with h1 | h1
 ·exact h.cl S hS h0 j hj h1
 subst h1;have hs:∀ p∈t.parts,cg cs p=true→S p:=fun p hp1 hc1=>h.cl S hS h0 p (hp p hp1).1 hc1;rcases hw with hw | ⟨hw,ha,hb⟩ | ⟨hw,ha⟩ | ⟨hw,ha,hb,hc⟩
 ·exact hS.Y5 _ hit (by rw [ht]; exact hw)
 ·have:=jG (t:=t) (by omega);exact hS.two _ hit (by rw [ht]; exact hw) (by rw [ht]; exact hs _ this.1 ha) (by rw [ht]; exact hs _ this.2 hb)
 ·exact hS.key _ hit (by rw [ht]; exact hw) (by rw [ht]; exact hs _ (rL (.inr (.inr hw))) ha)
 have:=kT hw;exact hS.uS _ hit (by rw [ht]; exact hw) (by rw [ht]; exact hs _ this.1 ha) (by rw [ht]; exact hs _ this.2.1 hb) (by rw [ht]; exact hs _ this.2.2 hc)
theorem nO.apart (h:nO l n cs0 c0 cs more) (hi:1≤i) (hit:eI l i=true) (ht:aO l i=t) (hcan:cg cs i=true) {z:Bool × List Bool} (hz:Lrn n cs z.2 z.1∧∀ i:Int,0≤i→cg z.2 i=true→cg cs i=true∨(t.kind=11∧(i=t.a∨i=t.b))∨(t.kind=10∧i=t.c)):nO l n cs0 c0 z.2 (z.1 || more):=by
 obtain ⟨h1,h2⟩:=hz;refine ⟨h1.len,fun S hS h0 j hj hc=>?_,by have:=h.le; have:=h1.le; omega,fun hm=>?_⟩
 ·have hsi:S i:=h.cl S hS h0 i (by omega) hcan;rcases h2 j (by omega) hc with h3 | ⟨h3,h4⟩ | ⟨h3,h4⟩
  ·exact h.cl S hS h0 j hj h3
  ·have:=hS.pairs _ hit (by rw [ht]; exact h3) hsi;rw [ht] at this;rcases h4 with rfl | rfl
   ·exact this.1
   exact this.2
  have:=hS.opens _ hit (by rw [ht]; exact h3) hsi;rw [ht] at this;subst h4; exact this
 rw [Bool.or_eq_true] at hm;rcases hm with hm | hm
 ·have:=h1.lt hm; have:=h.le; omega
 have:=h.lt hm; have:=h1.le; omega
theorem nO.start (hl:cs.length=n) (hcl:ClB l cs0 cs):nO l n cs0 cs cs false:=⟨hl,hcl,Nat.le_refl _,fun h=>by cases h⟩
theorem aFq {l:List Tm} {i:Nat} (hi:i < l.length):lN (fL l) (i * 6) 6=some (eK l[i]):=by
 have k0:∀ (C:List Value) (m:Nat) (r:List Value),r.length=m→(∀ j,j < m→C[j]?=r[j]?)→lN C 0 m=some r:=by
  intro C;induction C with
  | nil =>
   intro m r hr h;cases m with
   | zero=>rw [List.length_eq_zero_iff.1 hr]; rfl
   | succ m =>
    have h1:r[0]?=some (r[0]'(by omega)):=List.getElem?_eq_getElem _;have:=h 0 (by omega);rw [h1] at this;simp at this
  | cons v C ih =>
   intro m r hr h;cases m with
   | zero=>rw [List.length_eq_zero_iff.1 hr]; rfl
   | succ m =>
    cases r with
    | nil=>simp at hr
    | cons u r =>
     have h0:=h 0 (by omega);simp at h0;subst h0;have:=ih m r (by simpa using hr) (fun j hj=>by have:=h (j + 1) (by omega); simpa using this);simp [lN,this]
 have key:∀ (C:List Value) (o m:Nat) (r:List Value),0 < m→r.length=m→(∀ j,j < m→C[o + j]?=r[j]?)→lN C o m=some r:=by
  intro C;induction C with
  | nil =>
   intro o m r hm hr h;have h1:r[0]?=some (r[0]'(by omega)):=List.getElem?_eq_getElem _;have:=h 0 hm;rw [h1] at this;simp at this
  | cons v C ih =>
   intro o m r hm hr h;cases o with
   | zero=>exact k0 _ _ _ hr (fun j hj=>by have:=h j hj; simpa using this)
   | succ o =>
    obtain ⟨m,rfl⟩:∃ q,m=q + 1:=⟨m - 1,by omega⟩;exact ih o (m + 1) r hm hr (fun j hj=>by have:=h j hj; rw [show o + 1 + j=(o + j) + 1 by omega] at this; simpa using this)
 exact key _ _ _ _ (by decide) rfl (fun j hj=>TE hi j hj)
theorem zZ {i:Nat} (h1:1≤i) (h2:i < (cW::l).length):aO l i=(cW::l)[i]∧eI l i=true:=by
 have h3:i≤l.length:=by simp at h2; omega
 exact MR h1 h3
theorem DM {i:Nat} (hv:cM l) (h1:1≤i) (h2:i < (cW::l).length):(1≤(cW::l)[i].kind∧(cW::l)[i].kind < 12)∧∀ p∈(cW::l)[i].parts,1≤p∧p < (((cW::l).length:Nat):Int):=by
 obtain ⟨j,rfl⟩:∃ j,i=j + 1:=⟨i - 1,by omega⟩;have hj:j < l.length:=by simpa using h2
 simp only [List.getElem_cons_succ];refine ⟨hv.kind hj,fun p hp=>?_⟩;have:=hv.part hj hp;simp only [List.length_cons];omega
end
theorem QP  :
  bQ Tryz.prog 206 [] [] (fun x:Unit=>.agg KP.toArray) (fun x=>[]) (fun x=>True):=by
 refine Fg Tryz.func206 Tryz.ntmps206 fun W0 R=>?_;refine Au ?_;refine Ef (EF.alloc aL) fun b0 _=>?_;refine Au ?_;refine Lu rfl (EX.build rfl aM5 rfl) ?_;refine Au ?_;refine GE.tO rfl (.fV rfl .p0 P1 rfl) (fun w h=>?_);exact ⟨(),trivial,rfl,h.part (.d .refl)⟩
end
section
open EV (aC)
theorem nO.up {l:List Tm} {n:Nat} {cs0 c0 cs:List Bool} {b more:Bool} (h:nO l n cs0 c0 cs (b || more)) (hb:b=true):nO l n cs0 c0 cs true:=by subst hb; simpa using h
theorem nO.dn {l:List Tm} {n:Nat} {cs0 c0 cs:List Bool} {b more:Bool} (h:nO l n cs0 c0 cs (b || more)) (hb:b=false):nO l n cs0 c0 cs more:=by subst hb; simpa using h
theorem aJt {p:Prop} (h:p:=by
  refine Au ?_;refine La ?_;refine Au ?_;exact GE.ag (s:=(i,more,cs1)) (i + 1,true,z.2) (.c (by rw [← Int.natCast_succ]; rfl) (.c rfl (.c rfl (.c rfl .n)))) (.t7 (.t0 (.t0 (.t0 (.t0 (.t0 (.t0 (.d .refl)))))))) (by dsimp only; omega) (⟨by dsimp only; omega,by dsimp only; omega,iw.up (by first | exact c57 | exact NP | exact aAs)⟩)):p:=h
theorem aP2 {p:Prop} (h:p:=by
  refine Au ?_;refine La ?_;refine Au ?_;exact GE.ag (s:=(i,more,cs1)) (i + 1,more,z.2) (.c (by rw [← Int.natCast_succ]; rfl) (.c rfl (.c rfl (.c rfl .n)))) (.t7 (.t0 (.t0 (.t0 (.t0 (.t0 (.t0 (.d .refl)))))))) (by dsimp only; omega) (⟨by dsimp only; omega,by dsimp only; omega,iw.dn (by first | exact c57 | exact NP | exact aAs)⟩)):p:=h
theorem aJs {p:Prop} (h:p:=by
  have iw:=i2.apart hi1.1 hit hgt (by first | exact g53 | exact MU | exact MT) hz;refine Au ?_;refine GC.cond rfl (fun NP=>?_) (fun NP=>?_)
  ·exact aJt
  exact aP2):p:=h
theorem R9 (x a b c d mb n:Nat) (f0 f1:Bool) (l:List Tm) (cs:List Bool) (ps qs:List Int) (aD:List (Int × Value)) (hk:jN n cs ps qs aD) (hn:n≤1000000) (hl:n=(cW::l).length) (hv:cM l) :
  bQ Tryz.prog 178 [ptr x] [Bk x 335 [.slice (some ⟨a,0,none⟩) n n,.slice (some ⟨b,0,none⟩) n n,.slice (some ⟨c,0,none⟩) n n,.slice (some ⟨d,0,none⟩) n n,.map (some mb),.bool f0,.bool f1],Bk a 94 (fL (cW::l)),Bk b 4 (jM cs),Bk c 3 (aJ ps),Bk d 3 (aJ qs),Mp (aC .u16) mb aD] (fun x_:List Bool=>.tuple #[]) (fun x_=>[Bk x 335 [.slice (some ⟨a,0,none⟩) n n,.slice (some ⟨b,0,none⟩) n n,.slice (some ⟨c,0,none⟩) n n,.slice (some ⟨d,0,none⟩) n n,.map (some mb),.bool f0,.bool f1],Bk a 94 (fL (cW::l)),Bk b 4 (jM x_),Bk c 3 (aJ ps),Bk d 3 (aJ qs),Mp (aC .u16) mb aD]) (fun x_=>x_.length=n∧ClB l cs x_):=by
 refine Fg Tryz.func178 Tryz.ntmps178 fun W0 R=>?_;refine GC.scope (σ:=Unit) 0 (fun _=>[]) (fun _=>[]) (fun _=>False) rfl (fun s hs=>hs.elim) ?_;refine Au ?_;refine Ky (QP) fun _ _=>?_;refine Ef (EF.alloc aL) fun b2 _=>?_;refine Au ?_;refine GC.lp (σ:=List Bool) (fun s=>[(2,ptr b2),(0,ptr x)]) (fun s=>Bk b2 364 KP::Bk x 335 [.slice (some ⟨a,0,none⟩) n n,.slice (some ⟨b,0,none⟩) n n,.slice (some ⟨c,0,none⟩) n n,.slice (some ⟨d,0,none⟩) n n,.map (some mb),.bool f0,.bool f1]::Bk a 94 (fL (cW::l))::Bk b 4 (jM s)::Bk c 3 (aJ ps)::Bk d 3 (aJ qs)::Mp (aC .u16) mb aD::R) (fun s=>s.length=n∧ClB l cs s) (fun s=>fc s) cs (.c rfl (.c rfl .n)) .refl (⟨hk.cl,fun S _ h0=>h0⟩) (fun s hs=>?_);refine Au ?_;obtain ⟨c0,hc0⟩:∃ q,q=s:=⟨_,rfl⟩;rw [← hc0] at hs ⊢;refine GC.lp (σ:=Nat × Bool × List Bool) (fun s=>[(4,.int .i64 (s.1:Int)),(3,.bool s.2.1),(2,ptr b2),(0,ptr x)]) (fun s=>Bk b2 364 KP::Bk x 335 [.slice (some ⟨a,0,none⟩) n n,.slice (some ⟨b,0,none⟩) n n,.slice (some ⟨c,0,none⟩) n n,.slice (some ⟨d,0,none⟩) n n,.map (some mb),.bool f0,.bool f1]::Bk a 94 (fL (cW::l))::Bk b 4 (jM s.2.2)::Bk c 3 (aJ ps)::Bk d 3 (aJ qs)::Mp (aC .u16) mb aD::R) (fun s=>1≤s.1∧s.1≤n∧nO l n cs c0 s.2.2 s.2.1) (fun s=>n - s.1) (1,false,c0) (.c rfl (.c rfl (.c rfl (.c rfl .n)))) .refl (⟨by dsimp only; omega,by dsimp only; have:=hk.np; omega,nO.start hs.1 hs.2⟩) (fun s hs=>?_);obtain ⟨i,more,cs1⟩:=s;have hi1:=hs;dsimp only at hi1;clear hs;have hkc:jN n cs1 ps qs aD:=⟨hk.np,hi1.2.2.len,hk.pl,hk.ql,hk.pi,hk.qi,hk.kv⟩;refine Au ?_;refine GC.cond rfl (fun c13=>?_) (fun c13=>?_)
 ·simp only [decide_eq_true_eq] at c13;have hi:i < (cW::l).length:=by omega
  obtain ⟨hgt,hit⟩:=zZ hi1.1 hi;obtain ⟨hkd,hp⟩:=DM hv hi1.1 hi;rw [← hl] at hp;have hct:=aFq hi;generalize (cW::l)[i]=t at hgt hkd hp hct;refine Au ?_;refine Lu rfl (EX.indexAddr (a:=i * 6) rfl rfl sL (by omega) (by simp)) ?_;refine Lu rfl (EX.EZ rfl mN hct) ?_;refine Ef (EF.alloc aL) fun b5 _=>?_;refine Au ?_;refine Gr 17 (.t (.t (.t (.t (.t (.t (.t (.t .e)))))))) ?_;refine Dq 12 [0,1,2,3,4] ?_;refine Dv 5 rfl (fun X=>EX.indexAddr (a:=((i:Int)).toNat) rfl rfl sL (by omega) (by simp)) ?_;refine Dv 6 rfl (fun X=>EX.ld rfl (cO (i:=(i:Int)) hkc.cl (by omega)) oN) ?_;refine Dq 8 [7,8] ?_;refine GD.case 31 rfl (fun T0=>?_) (fun T0=>?_)
  ·refine Dq 6 [9,10] ?_;refine Dh 11 rfl (fun X=>EX.cE (a:=t.kind.toNat) rfl rfl aR (by omega) (by simp)) (.q T0) ?_;refine Dh 12 rfl (fun X=>EX.ld rfl (aA5 hkd) oN) (.q T0) ?_;refine Dq 2 [13,14] ?_;refine Ga 15 ?_;refine K.x (EC.closure rfl (aFh hkd) rfl) (aA4 hkc hn t hkd hp) (.cons .p2 (.cons .p2 (.cons .p2 (.cons .p2 (.cons .p2 (.cons .p2 .nil)))))) (fun _=>(.c (.c (.a4)))) rfl rfl (.guard rfl rfl rfl rfl T0) (fun zw QV=>?_);refine D.n (.t6 (.t6 .refl)) ?_;refine Ds 16 ?_;refine Gd ?_;refine Au ?_;refine GC.cond rfl (fun V6=>?_) (fun V6=>?_)
   ·have hnew:cg cs1 i=false:=by simpa using T0
    refine Au ?_;refine Lu rfl (EX.indexAddr (a:=((i:Int)).toNat) rfl rfl sL (by omega) (by simp)) ?_;refine Ed (EU.yA rfl rfl sZ rfl (by rw [CN,hkc.cl]; omega)) ?_;rw [CM];have hk2:=hkc.set ((i:Int)).toNat true;have i2:=hi1.2.2.add ⟨hi1.1,by omega⟩ hit hgt hp hnew (QV (by simpa using V6));refine Au ?_;refine Lu rfl (EX.indexAddr (a:=((i:Int)).toNat) rfl rfl sL (by omega) (by simp)) ?_;refine L.v (EX.ld rfl (cO (i:=(i:Int)) hk2.cl (by omega)) oN) rfl rfl rfl ?_;refine Au ?_;refine GL.case 53 rfl (fun g53=>?_) (fun g53=>?_)
    ·refine Au ?_;refine K.x (EC.direct eN rfl) (rZ _ _ _ _ _ _ _ _ _ _ _ _ _ _ hk2 t (fun e=>(by have:=jG (t:=t) (by omega); have h1:=hp _ this.1; have h2:=hp _ this.2; omega)) (fun e=>(by have:=kT e; have h1:=hp _ this.1; have h2:=hp _ this.2.2; omega))) (.cons .p0 (.cons .p0 (.cons .p0 (.cons .p0 (.cons .p0 (.cons .p0 .nil)))))) (fun _=>(.c (.c (.a4)))) rfl rfl (.guard rfl rfl rfl rfl g53) (fun z hz=>?_);have iw:=i2.apart hi1.1 hit hgt (by first | exact g53 | exact MU | exact MT) hz;refine Au ?_;refine GC.cond rfl (fun c57=>?_) (fun c57=>?_)
     ·exact aJt
     refine Au ?_;refine La ?_;refine Au ?_;exact GE.ag (s:=(i,more,cs1)) (i + 1,true,z.2) (.c (by rw [← Int.natCast_succ]; rfl) (.c rfl (.c rfl (.c rfl .n)))) (.t7 (.t0 (.t0 (.t0 (.t0 (.t0 (.t0 (.d .refl)))))))) (by dsimp only; omega) (⟨by dsimp only; omega,by dsimp only; omega,iw.dn (by first | exact c57 | exact NP | exact aAs)⟩)
    refine Au ?_;refine GC.bH rfl rfl ?_;refine Au ?_;refine La ?_;refine Au ?_;exact GE.ag (s:=(i,more,cs1)) (i + 1,true,(cs1.set ((i:Int)).toNat true)) (.c (by rw [← Int.natCast_succ]; rfl) (.c rfl (.c rfl (.c rfl .n)))) (.t7 (.t0 (.t0 (.t0 (.t0 (.t0 (.t0 (.d .refl)))))))) (by dsimp only; omega) (⟨by dsimp only; omega,by dsimp only; omega,i2⟩)
   refine Au ?_;have hk2:=hkc;have i2:=hi1.2.2;refine Au ?_;refine Lu rfl (EX.indexAddr (a:=((i:Int)).toNat) rfl rfl sL (by omega) (by simp)) ?_;refine L.v (EX.ld rfl (cO (i:=(i:Int)) hk2.cl (by omega)) oN) rfl rfl rfl ?_;refine Au ?_;refine GL.case 53 rfl (fun MU=>?_) (fun MU=>?_)
   ·refine Au ?_;refine K.x (EC.direct eN rfl) (rZ _ _ _ _ _ _ _ _ _ _ _ _ _ _ hk2 t (fun e=>(by have:=jG (t:=t) (by omega); have h1:=hp _ this.1; have h2:=hp _ this.2; omega)) (fun e=>(by have:=kT e; have h1:=hp _ this.1; have h2:=hp _ this.2.2; omega))) (.cons .p0 (.cons .p0 (.cons .p0 (.cons .p0 (.cons .p0 (.cons .p0 .nil)))))) (fun _=>(.c (.c (.a4)))) rfl rfl (.guard rfl rfl rfl rfl MU) (fun z hz=>?_);exact aJs
   refine Au ?_;refine GC.bH rfl rfl ?_;refine Au ?_;refine La ?_;refine Au ?_;exact GE.ag (s:=(i,more,cs1)) (i + 1,more,cs1) (.c (by rw [← Int.natCast_succ]; rfl) (.c rfl (.c rfl (.c rfl .n)))) (.t7 (.t0 (.t0 (.t0 (.t0 (.t0 (.t0 (.d .refl)))))))) (by dsimp only; omega) (⟨by dsimp only; omega,by dsimp only; omega,i2⟩)
  refine Dq 2 [9,10,11,12,13,14] ?_;refine Ga 15 ?_;refine Au ?_;refine D.n .refl ?_;refine Ds 16 ?_;refine Gd ?_;refine Au ?_;refine GC.bH rfl rfl ?_;refine Au ?_;have hk2:=hkc;have i2:=hi1.2.2;refine Au ?_;refine Lu rfl (EX.indexAddr (a:=((i:Int)).toNat) rfl rfl sL (by omega) (by simp)) ?_;refine L.v (EX.ld rfl (cO (i:=(i:Int)) hk2.cl (by omega)) oN) rfl rfl rfl ?_;refine Au ?_;refine GL.case 53 rfl (fun MT=>?_) (fun MT=>?_)
  ·refine Au ?_;refine K.x (EC.direct eN rfl) (rZ _ _ _ _ _ _ _ _ _ _ _ _ _ _ hk2 t (fun e=>(by have:=jG (t:=t) (by omega); have h1:=hp _ this.1; have h2:=hp _ this.2; omega)) (fun e=>(by have:=kT e; have h1:=hp _ this.1; have h2:=hp _ this.2.2; omega))) (.cons .p2 (.cons .p2 (.cons .p2 (.cons .p2 (.cons .p2 (.cons .p2 .nil)))))) (fun _=>(.c (.c (.a4)))) rfl rfl (.guard rfl rfl rfl rfl MT) (fun z hz=>?_);exact aJs
  refine Au ?_;refine GC.bH rfl rfl ?_;refine Au ?_;refine La ?_;refine Au ?_;exact GE.ag (s:=(i,more,cs1)) (i + 1,more,cs1) (.c (by rw [← Int.natCast_succ]; rfl) (.c rfl (.c rfl (.c rfl .n)))) (.t1 (.t1 (.t1 (.t1 (.t1 (.t1 (.t1 (.d .refl)))))))) (by dsimp only; omega) (⟨by dsimp only; omega,by dsimp only; omega,i2⟩)
 refine Au ?_;refine GC.cond rfl (fun c59=>?_) (fun c59=>?_)
 ·refine Au ?_;refine GE.lW rfl (fun w h=>?_);exact ⟨cs1,⟨hi1.2.2.len,hi1.2.2.cl⟩,rfl,h.part (.t1 (.t1 (.t1 (.t1 (.t1 (.t1 (.d .refl)))))))⟩
 refine Au ?_;exact GE.ag cs1 (.c rfl (.c rfl .n)) .refl (hi1.2.2.lt (by simpa using c59)) (⟨hi1.2.2.len,hi1.2.2.cl⟩)
end
section
open EV (aC)
theorem yQ:∀ n,zeros [.bool false] n=jM (List.replicate n false)
 | 0=>rfl
 | n + 1=>by show _::zeros _ n=_; rw [yQ n]; rfl
theorem yO:∀ n,zeros [.int .i64 0] n=aJ (List.replicate n 0)
 | 0=>rfl
 | n + 1=>by show _::zeros _ n=_; rw [yO n]; rfl
theorem DB:∀ n,zeros EV.zV n=fL (List.replicate n cW)
 | 0=>rfl
 | n + 1=>by show EV.zV++zeros _ n=_; rw [DB n]; rfl
theorem aJr {p:Prop} (h:p:=by
  refine Au ?_;refine Gs fun w h=>?_;exact ⟨none,fun y hy=>(by cases hy),rfl,(h.part (.d (.d (.d (.d (.d (.d .refl))))))).bB trivial⟩):p:=h
theorem GC.aB0 {W0:World} {kn:Kn} {L:List aA} {Q:Exit→Act→World→Prop} {id n b5:Nat} {f0 f1:Bool} {sp knv:Value} (hn:n≤1000000) (q0:lk kn 0=some sp) (q1:lk kn 1=some knv) (q5:lk kn 5=some (ptr b5)) (q6:lk kn 6=some (.pointer none)) (q7:lk kn 7=some (.bool false)) (q8:lk kn 8=some (.int .i64 (n:Nat)))
  (h:∀ x a b c d mb:Nat,GE W0 103 [] .normal Q [(9,ptr x),(8,.int .i64 (n:Nat)),(7,.bool false),(6,.pointer none),(5,ptr b5),(1,knv),(0,sp)] (Bk x 335 [.slice (some ⟨a,0,none⟩) n n,.slice (some ⟨b,0,none⟩) n n,.slice (some ⟨c,0,none⟩) n n,.slice (some ⟨d,0,none⟩) n n,.map (some mb),.bool f0,.bool f1]::Bk a 94 (fL (List.replicate n cW))::Bk b 4 (jM (List.replicate n false))::Bk c 3 (aJ (List.replicate n 0))::Bk d 3 (aJ (List.replicate n 0))::Mp (aC .u16) mb []::Bk b5 140 [.bool f0,.bool f1]::L)) :
  GC Tryz.prog W0 103 [] (.region id EV.bC true) Q kn (Bk b5 140 [.bool f0,.bool f1]::L):=by
 intro a0 w ha hs;have bU:Tryz.prog.follows .mixedOrders=true:=by kernel_rfl
 refine EV.LE (S:=EV.bK n b5 f0 f1 sp knv) (aG:=EV.bC) (n:=13) (W0:=W0) (R:=Bk b5 140 [.bool f0,.bool f1]::L) (ds:=[]) bU EV.fB (W:=(⟨0,0,0,0,0,0⟩:EV.Wb)) ha.size ha.defers (fun t ht=>?_) ?_ (fun j hj=>?_) ?_
 ·simp only [EV.bK,List.mem_cons,List.not_mem_nil,or_false] at ht;rcases ht with rfl | rfl | rfl | rfl | rfl | rfl
  ·exact ha.known 0 _ q0
  ·exact ha.known 1 _ q1
  ·exact ha.known 5 _ q5
  ·exact ha.known 6 _ q6
  ·exact ha.known 7 _ q7
  exact ha.known 8 _ q8
 ·simp only [EV.bK,EV.lE,cond_false,List.nil_append]; exact hs
 ·intro listed a w h hr;match j,hj with
  | 0,_=>exact EV.u0 h hr
  | 1,_=>exact EV.u1 hn h hr
  | 2,_=>exact EV.u2 h hr
  | 3,_=>exact EV.u3 hn h hr
  | 4,_=>exact EV.u4 h hr
  | 5,_=>exact EV.u5 hn h hr
  | 6,_=>exact EV.u6 h hr
  | 7,_=>exact EV.u7 hn h hr
  | 8,_=>exact EV.u8 h hr
  | 9,_=>exact EV.u9 h hr
  | 10,_=>exact EV.u10 h hr
  | 11,_=>exact EV.u11 h hr
  | 12,_=>exact EV.u12 h hr
 ·intro a' w' V h1 h2 hB hV FK;obtain ⟨f,FK,h6⟩:=FK;have h9:=hV 12 _ 9 (show EV.bC[12]?=some _ from rfl) rfl;simp only [EV.bK,EV.lE,FK 1 (by decide),FK 3 (by decide),FK 5 (by decide),FK 7 (by decide),FK 8 (by decide),FK 11 (by decide),cond_true,List.cons_append,List.nil_append] at h6;rw [DB,yQ,yO] at h6;refine h V.x V.a V.b V.c V.d V.m a' w' ⟨h1,h2,?_⟩ (h6.part (.take .p5 .refl));intro d v hd;have key:=IV hd;simp only [List.mem_cons,List.not_mem_nil,or_false,Prod.mk.injEq] at key;rcases key with ⟨rfl,rfl⟩ | ⟨rfl,rfl⟩ | ⟨rfl,rfl⟩ | ⟨rfl,rfl⟩ | ⟨rfl,rfl⟩ | ⟨rfl,rfl⟩ | ⟨rfl,rfl⟩
  ·exact h9
  ·exact hB 8 (by simp [EV.bK])
  ·exact hB 7 (by simp [EV.bK])
  ·exact hB 6 (by simp [EV.bK])
  ·exact hB 5 (by simp [EV.bK])
  ·exact hB 1 (by simp [EV.bK])
  exact hB 0 (by simp [EV.bK])
theorem vW:∀ (C:List Value) (o:Nat) (vs:List Value),o + vs.length≤C.length→gV C o vs=some (C.take o++vs++C.drop (o + vs.length))
 | [],o,[],h=>by cases o <;> simp [gV] at *
 | [],o,v::vs,h=>by simp at h
 | c::C,0,[],h=>by simp [gV]
 | c::C,0,v::vs,h=>by
  have:=vW C 0 vs (by simp at h; omega);simp [gV,this]
 | c::C,o + 1,vs,h=>by
  have:=vW C o vs (by simp at h; omega);simp only [gV,this];simp [Nat.add_right_comm]
theorem aB9 {ts:List Tm} {i:Nat} {t:Tm} (hi:i < ts.length):gV (fL ts) (i * 6) (eK t)=some (fL (ts.set i t)):=by
 have h6:(eK t).length=6:=rfl;rw [vW _ _ _ (by rw [mO,h6]; omega),h6,List.set_eq_take_append_cons_drop,if_pos hi,uL];have e1:(fL ts).take (i * 6)=fL (ts.take i):=by
  conv=>lhs; rw [← List.take_append_drop i ts,uL]
  rw [List.take_append_of_le_length (by rw [mO,List.length_take]; omega),List.take_of_length_le (by rw [mO,List.length_take]; omega)]
 have e2:(fL ts).drop (i * 6 + 6)=fL (ts.drop (i + 1)):=by
  conv=>lhs; rw [← List.take_append_drop (i + 1) ts,uL]
  rw [List.drop_append_of_le_length (by rw [mO,List.length_take]; omega),List.drop_of_length_le (by rw [mO,List.length_take]; omega),List.nil_append]
 rw [e1,e2];show some (fL (ts.take i)++eK t++fL (ts.drop (i + 1)))=some (fL (ts.take i)++(eK t++fL (ts.drop (i + 1))));rw [List.append_assoc]
theorem zX (l:List Int) (i:Nat) (v:Int):(aJ l).set i (.int .i64 v)=aJ (l.set i v):=by unfold aJ; rw [List.map_set]
theorem mem_set {α:Type} {Q:α→Prop} {l:List α} {i:Nat} {v:α} (h:∀ p∈l,Q p) (hv:Q v):∀ p∈l.set i v,Q p:=fun p hp=>by
 rcases List.mem_or_eq_of_mem_set hp with h1 | h1
 ·exact h p h1
 subst h1; exact hv
theorem UC {n:Nat} (hn:0 < n):∀ p∈List.replicate n (0:Int),0≤p∧p < (n:Int):=fun p hp=>by
 rw [(List.mem_replicate.1 hp).2]; omega
theorem aFx {n:Nat} {i:Int}:cg (List.replicate n false) i=false:=by
 unfold cg;rw [List.getElem?_replicate];split <;> rfl
structure MdG where
 x:Nat
 a:Nat
 b:Nat
 c:Nat
 d:Nat
 mb:Nat
 cs:List Bool
 ps:List Int
 qs:List Int
 aD:List (Int × Value)
def mdL (n:Nat) (f0 f1:Bool) (l:List Tm) (y:MdG):List aA:=[Bk y.x 335 [.slice (some ⟨y.a,0,none⟩) n n,.slice (some ⟨y.b,0,none⟩) n n,.slice (some ⟨y.c,0,none⟩) n n,.slice (some ⟨y.d,0,none⟩) n n,.map (some y.mb),.bool f0,.bool f1],Bk y.a 94 (fL (cW::l)),Bk y.b 4 (jM y.cs),Bk y.c 3 (aJ y.ps),Bk y.d 3 (aJ y.qs),Mp (aC .u16) y.mb y.aD]
def aNm (n:Nat) (f0 f1:Bool) (l:List Tm):Option MdG→aA
 | none=>Fact True
 | some y=>aA.all (mdL n f0 f1 l y)
structure CP (n:Nat) (l:List Tm) (i:Nat) (ts:List Tm):Prop where
 lo:1≤i
 hi:i≤n
 len:ts.length=n
 at_:∀ j,j < i→ts[j]?=(cW::l)[j]?
theorem CP.step {n:Nat} {l:List Tm} {i:Nat} {ts:List Tm} (h:CP n l i ts) (hi:i < n) (hl:n=(cW::l).length):CP n l (i + 1) (ts.set i ((cW::l)[i]'(by omega))):=by
 refine ⟨by omega,by omega,by rw [List.length_set]; exact h.len,fun j hj=>?_⟩;rw [List.getElem?_set]
 by_cases e:i=j
 ·subst e;rw [if_pos rfl,if_pos (by have:=h.len; omega),List.getElem?_eq_getElem]
 rw [if_neg e]; exact h.at_ j (by omega)
theorem CP.stepT {n:Nat} {l:List Tm} {i:Nat} {ts:List Tm} {t:Tm} (h:CP n l i ts) (hi:i < n) (hl:n=(cW::l).length) (ht:(cW::l)[i]'(by omega)=t):CP n l (i + 1) (ts.set i t):=ht ▸ h.step hi hl
theorem CP.done {n:Nat} {l:List Tm} {i:Nat} {ts:List Tm} (h:CP n l i ts) (hi:n≤i) (hl:n=(cW::l).length):ts=cW::l:=by
 apply List.ext_getElem?;intro j
 by_cases hj:j < i
 ·exact h.at_ j hj
 rw [List.getElem?_eq_none (by have:=h.len; omega),List.getElem?_eq_none (by omega)]
theorem QQ (bs:Nat) (l:List Tm) (most:Int) (ad:Option Addr) (cp:Nat) (ks:List Int) (f0 f1:Bool) (n:Nat) (hl:n=(cW::l).length) (hn:n≤1000000) (hv:cM l) (hks:ks.length≤1000000) :
  bQ Tryz.prog 177 [ptr bs,.slice ad ks.length cp,.agg #[.bool f0,.bool f1]] [St bs l most,Rw 3 1 (.slice ad ks.length cp) ks.length (aJ ks)] (fun o:Option MdG=>.tuple #[.pointer (o.map fun y=>⟨y.x,0,none⟩),.bool o.isSome]) (fun o=>[aNm n f0 f1 l o,St bs l most,Rw 3 1 (.slice ad ks.length cp) ks.length (aJ ks)]) (fun o=>∀ y,o=some y→jN n y.cs y.ps y.qs y.aD∧(∀ k∈ks,1≤k∧k < (n:Int))∧∀ i:Int,0≤i→cg y.cs i=true→i∈ks):=by
 refine Fg Tryz.func177 Tryz.ntmps177 fun W0 R=>?_;refine Au ?_;refine Ef (EF.bV rfl) fun b5 _=>?_;refine Au ?_;refine Kc (oP _ _ _) (.one .p1) ?_;refine Lu rfl (EX.add rfl rfl (show IntKind.i64.wrap ((l.length:Nat) + 1:Int)=((n:Nat):Int) from by rw [wi (by simp at hl; omega),hl]; simp)) ?_;refine Lr.run (.a rfl .s) rfl ?_;refine Zn (Zs ?_);refine GC.turn (fun w h=>h.p1) ?_;refine GC.aB0 (f0:=f0) (f1:=f1) hn rfl rfl rfl rfl rfl rfl (fun x a b c d mb=>?_);refine Au ?_;refine GC.lp (σ:=Nat × List Tm × List Int × List Int × List (Int × Value)) (fun s=>[(10,.int .i64 (s.1:Int)),(9,ptr x),(8,.int .i64 (n:Int)),(7,.bool false),(6,.pointer none),(1,.slice ad ks.length cp),(0,ptr bs)]) (fun s=>Bk x 335 [.slice (some ⟨a,0,none⟩) n n,.slice (some ⟨b,0,none⟩) n n,.slice (some ⟨c,0,none⟩) n n,.slice (some ⟨d,0,none⟩) n n,.map (some mb),.bool f0,.bool f1]::Bk a 94 (fL s.2.1)::Bk b 4 (jM (List.replicate n false))::Bk c 3 (aJ s.2.2.1)::Bk d 3 (aJ s.2.2.2.1)::Mp (aC .u16) mb s.2.2.2.2::St bs l most::Rw 3 1 (.slice ad ks.length cp) ks.length (aJ ks)::R) (fun s=>CP n l s.1 s.2.1∧jN n (List.replicate n false) s.2.2.1 s.2.2.2.1 s.2.2.2.2) (fun s=>n - s.1) (1,List.replicate n cW,List.replicate n 0,List.replicate n 0,[]) (.c rfl (.c rfl (.c rfl (.c rfl (.c rfl (.c rfl (.c rfl .n))))))) (.t0 (.t0 (.t0 (.t0 (.t0 (.t0 (.t1 (.t1 (.d .refl))))))))) (⟨⟨Nat.le_refl _,by rw [hl]; simp,by simp,fun j hj=>by obtain rfl:j=0:=(by omega); rw [List.getElem?_replicate,if_pos (by rw [hl]; simp)]; rfl⟩,⟨by rw [hl]; simp,by simp,by simp,by simp,UC (by rw [hl]; simp),UC (by rw [hl]; simp),fun p hp=>by cases hp⟩⟩) (fun s hs=>?_);obtain ⟨i,ts,ps,qs,aD⟩:=s;dsimp only at hs;refine Au ?_;refine GC.cond rfl (fun c32=>?_) (fun c32=>?_)
 ·simp only [decide_eq_true_eq] at c32;have hin:i < n:=by omega
  have hi:i < (cW::l).length:=by omega
  obtain ⟨hgt,hit⟩:=zZ hs.1.lo hi;obtain ⟨hkd,hp⟩:=DM hv hs.1.lo hi;rw [← hl] at hp;have hits:i < ts.length:=by rw [hs.1.len]; exact hin
  obtain ⟨t,ht⟩:∃ t,(cW::l)[i]=t:=⟨_,rfl⟩;rw [ht] at hgt hkd hp;refine Au ?_;refine Kc (jL _ _ _ _) (.one .p6) ?_;rw [hgt];refine Au ?_;refine Ef (EF.alloc aL) fun b11 _=>?_;refine Au ?_;refine Gr 8 (.t (.t (.t (.f (.t (.t (.t (.t (.t .e))))))))) ?_;refine Dq 2 [0,1,2,3,4,5] ?_;refine Dv 6 rfl (fun X=>EX.indexAddr (a:=i * 6) rfl rfl sL (by omega) (by simp)) ?_;refine Ga 7 ?_;refine Ed (EU.st rfl rfl sZ rfl rfl (aB9 hits)) ?_;refine D.n (.t0 (.t0 (.t0 (.t1 (.t1 (.t1 (.t1 (.t1 .refl)))))))) ?_;refine Gd ?_;refine Au ?_;refine GC.cond rfl (fun c50=>?_) (fun c50=>?_)
  ·have e3:t.kind=3:=by simpa using c50
   have hpa:=hp _ (rL (.inl e3));refine Gr 9 (.t (.t (.t (.t (.t (.f (.t (.t (.t .e))))))))) ?_;refine Dq 2 [0,1,2,3,4,5,6] ?_;refine Dv 7 rfl (fun X=>EX.indexAddr (a:=(t.a).toNat) rfl rfl sL (by omega) (by simp)) ?_;refine Ga 8 ?_;refine Ed (EU.yA rfl rfl sZ rfl (by rw [wO,hs.2.pl]; omega)) ?_;rw [zX];refine D.n (.t0 (.t0 (.t0 (.t0 (.t0 (.t1 (.t1 (.t1 .refl)))))))) ?_;refine Gd ?_;refine Au ?_;refine La ?_;refine Au ?_;exact GE.ag (s:=(i,ts,ps,qs,aD)) (i + 1,ts.set i t,ps.set t.a.toNat i,qs,aD) (.c (by rw [← Int.natCast_succ]; rfl) (.c rfl (.c rfl (.c rfl (.c rfl (.c rfl (.c rfl .n))))))) (.t2 (.t2 (.t2 (.t2 (.t2 (.t2 (.t1 (.t1 (.d .refl))))))))) (by dsimp only; omega) (⟨hs.1.stepT hin hl ht,⟨hs.2.np,hs.2.cl,by rw [List.length_set]; exact hs.2.pl,hs.2.ql,mem_set hs.2.pi ⟨by omega,by omega⟩,hs.2.qi,hs.2.kv⟩⟩)
  refine Au ?_;refine GC.cond rfl (fun c60=>?_) (fun c60=>?_)
  ·have e5:t.kind=5:=by simpa using c60
   have hpa:=hp _ (rL (.inr (.inl e5)));refine Gr 9 (.t (.t (.t (.t (.t (.t (.f (.t (.t .e))))))))) ?_;refine Dq 2 [0,1,2,3,4,5,6] ?_;refine Dv 7 rfl (fun X=>EX.indexAddr (a:=(t.a).toNat) rfl rfl sL (by omega) (by simp)) ?_;refine Ga 8 ?_;refine Ed (EU.yA rfl rfl sZ rfl (by rw [wO,hs.2.ql]; omega)) ?_;rw [zX];refine D.n (.t0 (.t0 (.t0 (.t0 (.t0 (.t0 (.t1 (.t1 .refl)))))))) ?_;refine Gd ?_;refine Au ?_;refine La ?_;refine Au ?_;exact GE.ag (s:=(i,ts,ps,qs,aD)) (i + 1,ts.set i t,ps,qs.set t.a.toNat i,aD) (.c (by rw [← Int.natCast_succ]; rfl) (.c rfl (.c rfl (.c rfl (.c rfl (.c rfl (.c rfl .n))))))) (.t2 (.t2 (.t2 (.t2 (.t2 (.t2 (.t1 (.t1 (.d .refl))))))))) (by dsimp only; omega) (⟨hs.1.stepT hin hl ht,⟨hs.2.np,hs.2.cl,hs.2.pl,by rw [List.length_set]; exact hs.2.ql,hs.2.pi,mem_set hs.2.qi ⟨by omega,by omega⟩,hs.2.kv⟩⟩)
  refine Au ?_;refine GC.cond rfl (fun c70=>?_) (fun c70=>?_)
  ·have e6:t.kind=6:=by simpa using c70
   have hp2:=jG (t:=t) (.inr (.inl e6));have hpa:=hp _ hp2.1;have hpb:=hp _ hp2.2;have hkey:some (Value.agg #[.int .i64 t.a,.int .i64 t.b])=some (aC .u16 (t.a * 4294967296 + t.b)):=congrArg some (zM (by omega));refine Gr 11 (.t (.t (.t (.t (.t (.t (.t (.f (.t .e))))))))) ?_;refine Dq 3 [0,1,2,3,4,5,6,7] ?_;refine Dv 8 rfl (fun X=>EX.build rfl KD rfl) ?_;refine Dq 1 [9] ?_;refine Ga 10 ?_;refine Ed (EU.mu (enc:=aC .u16) (a:=t.a * 4294967296 + t.b) rfl hkey rfl aAd uN) ?_;refine D.n (.t0 (.t0 (.t0 (.t0 (.t0 (.t0 (.t0 (.t1 .refl)))))))) ?_;refine Gd ?_;refine Au ?_;refine La ?_;refine Au ?_;exact GE.ag (s:=(i,ts,ps,qs,aD)) (i + 1,ts.set i t,ps,qs,cG (t.a * 4294967296 + t.b) (.int .i64 i) aD) (.c (by rw [← Int.natCast_succ]; rfl) (.c rfl (.c rfl (.c rfl (.c rfl (.c rfl (.c rfl .n))))))) (.t2 (.t2 (.t2 (.t2 (.t2 (.t2 (.t1 (.t1 (.d .refl))))))))) (by dsimp only; omega) (⟨hs.1.stepT hin hl ht,⟨hs.2.np,hs.2.cl,hs.2.pl,hs.2.ql,hs.2.pi,hs.2.qi,vQ (Q:=fun v=>∃ i:Int,v=.int .i64 i∧0≤i∧i < (n:Int)) ⟨_,rfl,by omega,by omega⟩ hs.2.kv⟩⟩)
  refine Au ?_;refine La ?_;refine Au ?_;exact GE.ag (s:=(i,ts,ps,qs,aD)) (i + 1,ts.set i t,ps,qs,aD) (.c (by rw [← Int.natCast_succ]; rfl) (.c rfl (.c rfl (.c rfl (.c rfl (.c rfl (.c rfl .n))))))) (.t2 (.t2 (.t2 (.t2 (.t2 (.t2 (.t1 (.t1 (.d .refl))))))))) (by dsimp only; omega) (⟨hs.1.stepT hin hl ht,hs.2⟩)
 refine Au ?_;simp only [decide_eq_false_iff_not] at c32;have hts:=hs.1.done (by omega) hl;subst hts;have hmd:=hs.2;clear hs;refine GC.lp (σ:=Nat × List Bool) (fun s=>[(84,.int .i64 (s.1:Int)),(83,.int .i64 (ks.length:Int)),(82,.slice ad ks.length cp),(9,ptr x),(8,.int .i64 (n:Int))]) (fun s=>Bk x 335 [.slice (some ⟨a,0,none⟩) n n,.slice (some ⟨b,0,none⟩) n n,.slice (some ⟨c,0,none⟩) n n,.slice (some ⟨d,0,none⟩) n n,.map (some mb),.bool f0,.bool f1]::Bk a 94 (fL (cW::l))::Bk b 4 (jM s.2)::Bk c 3 (aJ ps)::Bk d 3 (aJ qs)::Mp (aC .u16) mb aD::St bs l most::Rw 3 1 (.slice ad ks.length cp) ks.length (aJ ks)::R) (fun s=>s.1≤ks.length∧s.2.length=n∧(∀ j (hj:j < ks.length),j < s.1→1≤ks[j]∧ks[j] < (n:Int))∧∀ i:Int,0≤i→cg s.2 i=true→i∈ks) (fun s=>ks.length - s.1) (0,List.replicate n false) (.c rfl (.c rfl (.c rfl (.c rfl (.c rfl .n))))) .refl (⟨Nat.zero_le _,by simp,fun j hj h=>absurd h (by omega),fun i _ h=>by rw [aFx] at h; cases h⟩) (fun s hs=>?_);obtain ⟨j,cs⟩:=s;dsimp only at hs;refine Au ?_;refine GC.cond rfl (fun c85=>?_) (fun c85=>?_)
 ·simp only [decide_eq_true_eq] at c85;have hj:j < ks.length:=by omega
  refine GC.know (fun w h=>h.dV .p7 (show 0 < ks.length by omega)) (fun hg=>?_);obtain ⟨gk,rfl⟩:=hg;refine Au ?_;refine Lu rfl (EX.indexAddr (a:=j) rfl rfl sL (by omega) (by simp)) ?_;refine Lu rfl (EX.tU rfl (YH hj) oN) ?_;refine Au ?_;refine GL.case 90 rfl (fun g90=>?_) (fun g90=>?_)
  ·refine Au ?_;refine GC.aQ rfl rfl ?_;exact aJr
  refine Au ?_;refine GC.cond rfl (fun c94=>?_) (fun c94=>?_)
  ·exact aJr
  simp only [dB,ne_eq,dC] at *;have hkr:1≤ks[j]∧ks[j] < (n:Int):=by simp_all
  refine Au ?_;refine Lu rfl (EX.indexAddr (a:=(ks[j]).toNat) rfl rfl sL (by omega) (by simp)) ?_;refine Ed (EU.yA rfl rfl sZ rfl (by rw [CN,hs.2.1]; omega)) ?_;rw [CM];refine Au ?_;refine La ?_;refine Au ?_;exact GE.ag (s:=(j,cs)) (j + 1,cs.set (ks[j]).toNat true) (.c (by rw [← Int.natCast_succ]; rfl) (.c rfl (.c rfl (.c rfl (.c rfl .n))))) .refl (by dsimp only; omega) (⟨by dsimp only; omega,by rw [List.length_set]; exact hs.2.1,fun q hq hq2=>if e:q=j then (by subst e; exact hkr) else hs.2.2.1 q hq (by dsimp only at hq2; omega),fun i hi hc=>(xL hi (by omega) hc).elim (hs.2.2.2 i hi) (fun e=>by rw [e]; exact List.getElem_mem hj)⟩)
 refine Au ?_;refine Gs fun w h=>?_;refine ⟨some ⟨x,a,b,c,d,mb,cs,ps,qs,aD⟩,fun y hy=>?_,rfl,aB.eX (M:=mdL n f0 f1 l ⟨x,a,b,c,d,mb,cs,ps,qs,aD⟩) (h.part .refl)⟩;obtain rfl:=Option.some.inj hy;simp only [decide_eq_false_iff_not] at *;refine ⟨⟨hmd.np,hs.2.1,hmd.pl,hmd.ql,hmd.pi,hmd.qi,hmd.kv⟩,fun k hk=>?_,hs.2.2.2⟩;obtain ⟨q,hq,rfl⟩:=List.getElem_of_mem hk;exact hs.2.2.1 q hq (by omega)
end
section
open EV (aC)
theorem MI (bs:Nat) (l:List Tm) (most:Int) (ad:Option Addr) (cp:Nat) (ks:List Int) (f0 f1:Bool) (name:Int) (n:Nat) (hl:n=(cW::l).length) (hn:n≤1000000) (hv:cM l) (hks:ks.length≤1000000) :
  bQ Tryz.prog 148 [ptr bs,.slice ad ks.length cp,.agg #[.bool f0,.bool f1],.int .i64 name] [St bs l most,Rw 3 1 (.slice ad ks.length cp) ks.length (aJ ks)] (fun x:Bool × Int=>.tuple #[.bool x.1,.int .i64 x.2]) (fun x=>[St bs l most,Rw 3 1 (.slice ad ks.length cp) ks.length (aJ ks)]) (fun x=>x.1=true→(∀ k∈ks,1≤k∧k≤(l.length:Int))∧∀ S:Int→Prop,nH l S→(∀ k∈ks,S k)→S name):=by
 refine Fg Tryz.func148 Tryz.ntmps148 fun W0 R=>?_;refine Au ?_;refine Ef (EF.bV rfl) fun b6 _=>?_;refine Au ?_;refine Kx (QQ _ _ _ _ _ _ _ _ _ hl hn hv hks) (.cons .p1 (.cons .p1 .nil)) fun o ho=>?_;refine Au ?_;refine GC.cond rfl (fun c20=>?_) (fun c20=>?_)
 ·refine Au ?_;refine Gs fun w h=>?_;refine ⟨(_,_),?_,rfl,h.part (.t1 (.t1 (.d (.d .refl))))⟩;exact fun h=>(by cases h)
 obtain ⟨y,rfl⟩:∃ y,o=some y:=by cases o with | none=>cases c20 | some y=>exact ⟨y,rfl⟩
 obtain ⟨hmd,hkn,hcg⟩:=ho y rfl;refine GC.turn (fun w h=>(show aB W0 w (Bk y.x 335 [.slice (some ⟨y.a,0,none⟩) n n,.slice (some ⟨y.b,0,none⟩) n n,.slice (some ⟨y.c,0,none⟩) n n,.slice (some ⟨y.d,0,none⟩) n n,.map (some y.mb),.bool f0,.bool f1]::Bk y.a 94 (fL (cW::l))::Bk y.b 4 (jM y.cs)::Bk y.c 3 (aJ y.ps)::Bk y.d 3 (aJ y.qs)::Mp (aC .u16) y.mb y.aD::_) from aB.hU (M:=mdL n f0 f1 l y) h)) ?_;refine Au ?_;refine GL.case 23 rfl (fun g23=>?_) (fun g23=>?_)
 ·refine Au ?_;refine GC.aQ rfl rfl ?_;refine Au ?_;refine Gs fun w h=>?_;refine ⟨(_,_),?_,rfl,h.part (.t6 (.t6 (.d (.d (.d (.d (.d (.d (.d .refl)))))))))⟩;exact fun h=>(by cases h)
 refine Au ?_;refine K.c (EC.direct eN rfl) (oP _ _ _) (.one .p6) .a1 rfl rfl (.guard rfl rfl rfl rfl g23) ?_;refine Au ?_;refine GC.cond rfl (fun c28=>?_) (fun c28=>?_)
 ·refine Au ?_;refine Gs fun w h=>?_;refine ⟨(_,_),?_,rfl,h.part (.t0 (.t6 (.d (.d (.d (.d (.d (.d (.d .refl)))))))))⟩;exact fun h=>(by cases h)
 simp only [dB,ne_eq,dC] at *;have hnm:0≤name∧name < (n:Int):=by simp at hl; omega
 have hn1:1≤name:=by omega
 refine Au ?_;refine Kx (R9 _ _ _ _ _ _ _ _ _ _ _ _ _ _ hmd hn hl hv) (.cons .p1 (.cons .p1 (.cons .p1 (.cons .p1 (.cons .p1 (.cons .p1 .nil)))))) fun z hz=>?_;refine Au ?_;refine Lu rfl (EX.indexAddr (a:=(name).toNat) rfl rfl sL (by omega) (by simp)) ?_;refine L.v (EX.ld rfl (cO (i:=name) hz.1 (by omega)) oN) rfl rfl rfl ?_;refine Au ?_;refine Gs fun w h=>?_;refine ⟨(_,_),?_,rfl,h.part (.t6 (.t6 (.d (.d (.d (.d (.d (.d (.d .refl)))))))))⟩;exact fun hc=>⟨fun k hk=>(by have:=hkn k hk; simp at hl; omega),fun S hS h0=>hz.2 S hS (fun i hi hc=>h0 i (hcg i (by omega) hc)) name hn1 hc⟩
end
section
open EV (aC)
theorem D4  :
  bQ Tryz.prog 49 [.int .i64 65536] [] (fun x:Nat=>.tuple #[ptr x,.int .i64 0]) (fun x=>[St x [] 65536]) (fun x=>True):=by
 refine Fn.go Tryz.func49 rfl Tryz.ntmps49 rfl (fun W0 R=>?_);refine GC.app .a0 ?_;refine Zt ?_;refine Lr.jF (.a rfl (.a rfl .s)) rfl (Zs (Zt ?_));refine Lr.run (.m rfl (.v (EX.lss rfl rfl) rfl rfl (.m rfl .s))) rfl ?_;refine GL.case 6 rfl (fun g6=>?_) (fun g6=>?_)
 ·refine Lr.jF (.o rfl (.q g6) (.o rfl (.q g6) (.v (EX.vX rfl g6 rfl) rfl rfl .s))) rfl ?_;refine GC.aQ rfl rfl ?_;refine Zt ?_;refine Lr.jF (.a rfl (.a rfl .s)) rfl ?_;refine GC.ret (GE.iH ?_);refine GE.outs rfl rfl rfl (fun w h=>?_);exact absurd g6 (by decide)
 refine Lr.jF (.g (EX.move rfl) rfl (.q g6) (.g (EX.gtr rfl rfl) rfl (.q g6) (.v (EX.lG rfl g6 rfl) rfl rfl .s))) rfl ?_;refine GC.bH rfl rfl ?_;refine GC.skip (Ze (Zt ?_));refine L.v (EX.build rfl bD rfl) rfl rfl rfl ?_;refine GL.nB (EF.buildSlice rfl bS rfl rfl rfl) rfl rfl (.free rfl) (fun b11 _=>?_);refine GL.nB (EF.buildSlice rfl bS rfl rfl rfl) rfl rfl (.free rfl) (fun b12 _=>?_);refine GL.nB (EF.makeMap dE) rfl rfl (.free rfl) (fun b13 _=>?_);refine Lr.run (.m rfl (.v (EX.build rfl bD rfl) rfl rfl .s)) rfl ?_;refine GL.nB (EF.bV rfl) rfl rfl (.free rfl) (fun b16 _=>?_);refine Lr.jF (.a rfl (.a rfl .s)) rfl ?_;refine GC.ret ?_;refine GE.outs rfl rfl rfl (fun w h=>?_);refine ⟨b16,trivial,rfl,?_⟩;have h1:=(h.part (.t3 (.t2 (.t0 (.t0 .refl))))).uC (s:=6) (n:=1) rfl (by unfold maxLen; omega);have h2:=h1.p1.uC (s:=1) (n:=1) rfl (by unfold maxLen; omega);have h3:aB W0 w (Fact (mK [] [0])::_):=h2.bB ⟨rfl,List.nodup_nil,by decide⟩;exact iI ⟨b11,1,b12,1,b13,[0]⟩ (h3.part (.t3 (.t2 (.t1 (.t1 .refl)))))
abbrev xW:List Value:=[.int .u64 0,.int .u64 0,.int .u64 0,.int .u64 0,.int .u64 0,.int .u64 0,.int .u64 0,.int .u64 0,.int .u64 0]
def SO (q:Nat × Nat):aA:=aA.all [Bk q.1 122 (ptr q.2::xW),Pool q.2]
def jO (l:List (Nat × Nat)):aA:=aA.all (l.map SO)
section
variable {W0 W:World} {L:List aA} {q:Nat × Nat} {m1 m2:List (Nat × Nat)}
theorem UU (h:aB W0 W (jO (m1++q::m2)::L)):aB W0 W (Bk q.1 122 (ptr q.2::xW)::Pool q.2::jO (m1++m2)::L):=by
 unfold jO at *;have h1:=h.hU;have p:(((m1++q::m2).map SO)++L).Perm (SO q::(((m1++m2).map SO)++L)):=by
  simp only [List.map_append,List.map_cons,List.append_assoc,List.cons_append];exact List.perm_middle
 have h2:=(h1.perm p).perm (List.perm_middle (l₁:=(m1++m2).map SO) (a:=SO q) (l₂:=L)).symm;exact aB.hU (M:=[Bk q.1 122 (ptr q.2::xW),Pool q.2]) (aB.eX h2).p1
theorem LG (h:aB W0 W (Bk q.1 122 (ptr q.2::xW)::Pool q.2::jO (m1++m2)::L)):aB W0 W (jO (m1++q::m2)::L):=by
 have h0:aB W0 W (SO q::jO (m1++m2)::L):=aB.eX (M:=[Bk q.1 122 (ptr q.2::xW),Pool q.2]) h;unfold jO at *;have h1:aB W0 W (((m1++m2).map SO)++(SO q::L)):=h0.p1.hU;have p:(((m1++m2).map SO)++(SO q::L)).Perm (((m1++q::m2).map SO)++L):=by
  simp only [List.map_append,List.map_cons,List.append_assoc,List.cons_append];exact List.Perm.append_left _ List.perm_middle
 exact (h1.perm p).eX
end
def oH (l:List (Nat × Nat)):List Value:=l.map fun q=>ptr q.1
theorem aB2 {l:List (Nat × Nat)} {i:Nat} (h:i < l.length):(oH l)[i]?=some (ptr l[i].1):=by simp [oH,h]
theorem TO {l:List (Nat × Nat)} {i:Nat} (h:i < l.length):∃ q m1 m2,l=m1++q::m2∧l[i]=q:=⟨l[i],l.take i,l.drop (i + 1),by rw [List.getElem_cons_drop,List.take_append_drop],rfl⟩
theorem P2:Many Tryz.prog 217 9:=Many.of Tryz.underlying217 rfl (by kernel_rfl)
theorem aEt {W0 kn L d g x i ty ps af} {n:Nat} (hx:ev kn x=some (.agg xW.toArray)) (hi:ev kn i=some (.int .i64 (n:Int))) (hn:n < 3):EX Tryz.prog W0 kn L ⟨d,.index 217 x i,ty,ps,af,g⟩ (.agg #[.int .u64 0,.int .u64 0,.int .u64 0]):=fun ρ w he hs=>by
 have i0:(Instr.index 217 (.agg xW.toArray) (.int .i64 0)).run Tryz.prog w=.ok (.agg #[.int .u64 0,.int .u64 0,.int .u64 0]) w:=by kernel_rfl
 have i1:(Instr.index 217 (.agg xW.toArray) (.int .i64 1)).run Tryz.prog w=.ok (.agg #[.int .u64 0,.int .u64 0,.int .u64 0]) w:=by kernel_rfl
 have i2:(Instr.index 217 (.agg xW.toArray) (.int .i64 2)).run Tryz.prog w=.ok (.agg #[.int .u64 0,.int .u64 0,.int .u64 0]) w:=by kernel_rfl
 match n,hn with
 | 0,_ =>
  have hi':ρ i=.int .i64 0:=he i _ hi;simp only [execOp,he x _ hx,hi',Sem.run_bind,i0,Result.andThen_ok]; rfl
 | 1,_ =>
  have hi':ρ i=.int .i64 1:=he i _ hi;simp only [execOp,he x _ hx,hi',Sem.run_bind,i1,Result.andThen_ok]; rfl
 | 2,_ =>
  have hi':ρ i=.int .i64 2:=he i _ hi;simp only [execOp,he x _ hx,hi',Sem.run_bind,i2,Result.andThen_ok]; rfl
theorem aEs {W0 kn L d g x i ty ps af b} {n:Nat} (hx:ev kn x=some (.agg #[.pointer (some ⟨b,0,none⟩),.pointer (some ⟨b,3,none⟩),.pointer (some ⟨b,6,none⟩)])) (hi:ev kn i=some (.int .i64 (n:Int))) (hn:n < 3):EX Tryz.prog W0 kn L ⟨d,.index 355 x i,ty,ps,af,g⟩ (.pointer (some ⟨b,3 * n,none⟩)):=fun ρ w he hs=>by
 have i0:(Instr.index 355 (.agg #[.pointer (some ⟨b,0,none⟩),.pointer (some ⟨b,3,none⟩),.pointer (some ⟨b,6,none⟩)]) (.int .i64 0)).run Tryz.prog w=.ok (.pointer (some ⟨b,0,none⟩)) w:=by kernel_rfl
 have i1:(Instr.index 355 (.agg #[.pointer (some ⟨b,0,none⟩),.pointer (some ⟨b,3,none⟩),.pointer (some ⟨b,6,none⟩)]) (.int .i64 1)).run Tryz.prog w=.ok (.pointer (some ⟨b,3,none⟩)) w:=by kernel_rfl
 have i2:(Instr.index 355 (.agg #[.pointer (some ⟨b,0,none⟩),.pointer (some ⟨b,3,none⟩),.pointer (some ⟨b,6,none⟩)]) (.int .i64 2)).run Tryz.prog w=.ok (.pointer (some ⟨b,6,none⟩)) w:=by kernel_rfl
 match n,hn with
 | 0,_ =>
  have hi':ρ i=.int .i64 0:=he i _ hi;simp only [execOp,he x _ hx,hi',Sem.run_bind,i0,Result.andThen_ok]; rfl
 | 1,_ =>
  have hi':ρ i=.int .i64 1:=he i _ hi;simp only [execOp,he x _ hx,hi',Sem.run_bind,i1,Result.andThen_ok]; rfl
 | 2,_ =>
  have hi':ρ i=.int .i64 2:=he i _ hi;simp only [execOp,he x _ hx,hi',Sem.run_bind,i2,Result.andThen_ok]; rfl
theorem aSr {n:Nat} (hn:n < 3):lN xW (3 * n) 3=some [.int .u64 0,.int .u64 0,.int .u64 0]:=by
 match n,hn with
 | 0,_=>rfl
 | 1,_=>rfl
 | 2,_=>rfl
theorem qF {k:IntKind} {es:Array MapEntry} {ck:Nat} (h:cX (aC k) [] es ck) {seen:Array Nat} {e:MapEntry} (he:e∈(leftOf es seen).toList):False:=by
 obtain ⟨p,hp,_⟩:=h.mem (lY he);cases hp
theorem zB  :
  bQ Tryz.prog 83 [.agg #[.int .u64 0,.int .u64 0,.int .u64 0]] [] (fun x:Unit=>.bool false) (fun x=>[]) (fun x=>True):=by
 refine Fg Tryz.func83 Tryz.ntmps83 fun W0 R=>?_;refine Au ?_;refine Ef (EF.bV rfl) fun b1 _=>?_;refine Au ?_;refine Go fun w h=>?_;exact ⟨(),trivial,rfl,h.part (.d .refl)⟩
theorem OQ  :
  bQ Tryz.prog 82 [.agg xW.toArray] [] (fun x:Unit=>.agg xW.toArray) (fun x=>[]) (fun x=>True):=by
 refine Fg Tryz.func82 Tryz.ntmps82 fun W0 R=>?_;refine Au ?_;refine Ef (EF.bV rfl) fun b1 _=>?_;refine Ef (EF.alloc aL) fun b2 _=>?_;refine Au ?_;refine Lu rfl (EX.build rfl aNa rfl) ?_;refine Au ?_;refine GE.tO rfl (.fV rfl .p0 P2 rfl) (fun w h=>?_);exact ⟨(),trivial,rfl,h.part (.d (.d .refl))⟩
theorem F2  :
  bQ Tryz.prog 34 [.agg xW.toArray] [] (fun x:Unit=>.slice none 0 0) (fun x=>[]) (fun x=>True):=by
 refine Fg Tryz.func34 Tryz.ntmps34 fun W0 R=>?_;refine Au ?_;refine Ef (EF.bV rfl) fun b1 _=>?_;refine Au ?_;refine Ky (OQ) fun _ _=>?_;refine Au ?_;refine GC.lp (σ:=Nat) (fun s=>[(8,.int .i64 (s:Int)),(7,.agg xW.toArray),(3,.slice none 0 0)]) (fun s=>R) (fun s=>s≤3) (fun s=>3 - s) 0 (.c rfl (.c rfl (.c rfl .n))) (.d .refl) (by omega) (fun s hs=>?_);refine Au ?_;refine GC.cond rfl (fun c9=>?_) (fun c9=>?_)
 ·simp only [decide_eq_true_eq] at c9;refine Au ?_;refine Lu rfl (aEt (n:=s) rfl rfl (by omega)) ?_;refine Ef (EF.alloc aL) fun b5 _=>?_;refine Au ?_;refine Ky (zB) fun _ _=>?_;refine Au ?_;refine GC.bH rfl rfl ?_;refine Au ?_;refine La ?_;refine Au ?_;exact GE.ag (s + 1) (.c (by rw [← Int.natCast_succ]; rfl) (.c rfl (.c rfl .n))) (.d .refl) (by omega) (by omega)
 refine Au ?_;refine Go fun w h=>?_;exact ⟨(),trivial,rfl,h.part .refl⟩
theorem HV (now age:Int) :
  bQ Tryz.prog 173 [.agg xW.toArray,.int .u64 now,.int .u64 age] [] (fun x:Unit=>.agg xW.toArray) (fun x=>[]) (fun x=>True):=by
 refine Fg Tryz.func173 Tryz.ntmps173 fun W0 R=>?_;refine Au ?_;refine Ef (EF.bV rfl) fun b3 _=>?_;refine Ef (EF.alloc aL) fun b6 _=>?_;refine Au ?_;refine Lu rfl (EX.build rfl aM6 rfl) ?_;refine Au ?_;refine GC.lp (σ:=Nat) (fun s=>[(13,.int .i64 (s:Int)),(12,.agg #[.pointer (some ⟨b3,0,none⟩),.pointer (some ⟨b3,3,none⟩),.pointer (some ⟨b3,6,none⟩)]),(1,.int .u64 now),(2,.int .u64 age),(3,ptr b3),(6,ptr b6)]) (fun s=>Bk b3 120 xW::Bk b6 120 xW::R) (fun s=>s≤3) (fun s=>3 - s) 0 (.c rfl (.c rfl (.c rfl (.c rfl (.c rfl (.c rfl .n)))))) (.t1 .refl) (by omega) (fun s hs=>?_);refine Au ?_;refine GC.cond rfl (fun c14=>?_) (fun c14=>?_)
 ·simp only [decide_eq_true_eq] at c14;have hs3:s < 3:=by omega
  refine Au ?_;refine Lu rfl (aEs (n:=s) rfl rfl hs3) ?_;refine Au ?_;refine Lu rfl (EX.EZ rfl mN (aSr hs3)) ?_;refine Ky (zB) fun _ _=>?_;refine Au ?_;refine GC.bH rfl rfl ?_;refine Au ?_;refine La ?_;refine Au ?_;exact GE.ag (s + 1) (.c (by rw [← Int.natCast_succ]; rfl) (.c rfl (.c rfl (.c rfl (.c rfl (.c rfl .n)))))) .refl (by omega) (by omega)
 refine Au ?_;refine GE.tO rfl (.fV rfl .p1 mN rfl) (fun w h=>?_);exact ⟨(),trivial,rfl,h.part (.d (.d .refl))⟩
end
section
open EV (aC)
section
variable {W0 W:World} {L:List aA} {qs:List (Nat × Nat)} {pb pl:Nat} {m1 m2:List (Nat × Nat)}
theorem jS (e:qs=m1++(pb,pl)::m2) (h:aB W0 W (jO qs::L)):aB W0 W (Bk pb 122 (ptr pl::xW)::Pool pl::jO (m1++m2)::L):=UU (q:=(pb,pl)) (e ▸ h)
theorem lU (e:qs=m1++(pb,pl)::m2) (h:aB W0 W (Bk pb 122 (ptr pl::xW)::Pool pl::jO (m1++m2)::L)):aB W0 W (jO qs::L):=e ▸ LG (q:=(pb,pl)) h
theorem aJq {p:Prop} (h:p:=by
  refine Au ?_;refine Go fun w h=>?_;simp only [dB,ne_eq,dC] at *;refine ⟨_,?_,rfl,h.part .refl⟩;first
  | (simp only [decide_eq_true_eq]; omega)
  | exact ⟨fun h=>(by cases h),fun h=>(by omega)⟩):p:=h
theorem aJp {p:Prop} (h:p:=by
  first | exact (show (5:Int)≠0 by decide) | exact (show (7:Int)≠0 by decide)):p:=h
theorem pV {i:Nat} (hi:i < qs.length):∃ pb pl m1 m2,qs=m1++(pb,pl)::m2∧(oH qs)[i]?=some (ptr pb):=by
 obtain ⟨⟨pb,pl⟩,m1,m2,e,h⟩:=TO hi;exact ⟨pb,pl,m1,m2,e,by rw [aB2 hi,h]⟩
end
theorem pU (bs bp gp cp gq cq bb bl:Nat) (md mk se ms sp:Int) (bM:ByteArray) (gv:Value) (ps:List Pr) (qs:List (Nat × Nat)) (nL:qs.length≤1000) (who:Int) :
  bQ Tryz.prog 22 [ptr bp,.int .i64 who] [Bk bp 79 [ptr bs,.int .i64 md,.int .i64 mk,.slice (some ⟨gp,0,none⟩) ps.length cp,.string bM,.int .i64 20,.int .u64 se,.int .u64 ms,.int .u64 sp,gv,.slice (some ⟨gq,0,none⟩) qs.length cq,.map (some bb),.map (some bl)]] (fun x:Bool=>.bool x) (fun x=>[Bk bp 79 [ptr bs,.int .i64 md,.int .i64 mk,.slice (some ⟨gp,0,none⟩) ps.length cp,.string bM,.int .i64 20,.int .u64 se,.int .u64 ms,.int .u64 sp,gv,.slice (some ⟨gq,0,none⟩) qs.length cq,.map (some bb),.map (some bl)]]) (fun x=>x=true↔0≤who∧who < (qs.length:Int)):=by
 refine Fg Tryz.func22 Tryz.ntmps22 fun W0 R=>?_;refine Au ?_;refine GL.case 7 rfl (fun g7=>?_) (fun g7=>?_)
 ·exact aJq
 exact aJq
theorem LO (bs bp gp cp gq cq bb bl:Nat) (md mk se ms sp:Int) (bM:ByteArray) (gv:Value) (ps:List Pr) (qs:List (Nat × Nat)) (nL:qs.length≤1000) (who:Int) :
  bQ Tryz.prog 32 [ptr bp,.int .i64 who] [Bk bp 79 [ptr bs,.int .i64 md,.int .i64 mk,.slice (some ⟨gp,0,none⟩) ps.length cp,.string bM,.int .i64 20,.int .u64 se,.int .u64 ms,.int .u64 sp,gv,.slice (some ⟨gq,0,none⟩) qs.length cq,.map (some bb),.map (some bl)],Rw 123 1 (.slice (some ⟨gq,0,none⟩) qs.length cq) qs.length (oH qs),Mp (aC .u64) bl [],jO qs] (fun x:Int=>.tuple #[.pointer none,.agg #[.int .u64 0,.int .u64 0,.int .u64 0],.int .i64 x]) (fun x=>[Bk bp 79 [ptr bs,.int .i64 md,.int .i64 mk,.slice (some ⟨gp,0,none⟩) ps.length cp,.string bM,.int .i64 20,.int .u64 se,.int .u64 ms,.int .u64 sp,gv,.slice (some ⟨gq,0,none⟩) qs.length cq,.map (some bb),.map (some bl)],Rw 123 1 (.slice (some ⟨gq,0,none⟩) qs.length cq) qs.length (oH qs),Mp (aC .u64) bl [],jO qs]) (fun x=>x≠0):=by
 refine Fg Tryz.func32 Tryz.ntmps32 fun W0 R=>?_;refine Au ?_;refine Ef (EF.alloc aL) fun b5 _=>?_;refine Au ?_;refine Kx (pU _ _ _ _ _ _ _ _ _ _ _ _ _ _ _ _ _ nL _) (.one .p1) fun zh S5=>?_;refine Au ?_;refine GC.cond rfl (fun c13=>?_) (fun c13=>?_)
 ·refine Au ?_;refine Gq fun w h=>?_;refine ⟨_,?_,rfl,h.part (.t0 (.t1 (.t1 (.t1 (.d .refl)))))⟩;exact aJp
 have hw:=S5.1 (by simpa using c13);obtain ⟨i,rfl⟩:∃ i:Nat,who=(i:Int):=⟨who.toNat,by omega⟩;have hi:i < qs.length:=by omega
 obtain ⟨pb,pl,m1,m2,MO,hqi⟩:=pV hi;refine GC.skip (Ze (Zt ?_));refine GL.turn (fun w h=>h.part (.t4 .refl)) ?_;refine GL.turn (fun w h=>jS MO h) ?_;refine Au ?_;refine Lu rfl (EX.indexAddr (a:=i) rfl rfl sL (by omega) (by simp)) ?_;refine Lu rfl (EX.tU rfl hqi oN) ?_;refine Au ?_;refine Ef (EF.alloc aL) fun b7 _=>?_;refine Au ?_;refine Gr 12 (.t (.t (.t (.t (.t (.t (.t (.t .e)))))))) ?_;refine Dq 6 [0,1,2,3,4,5] ?_;refine Dv 6 rfl (fun X=>EX.QI (enc:=aC .u64) (a:=0) rfl rfl IX uN zV) ?_;refine Dq 0 [7,8,9,10,11] ?_;refine Gd ?_;refine Au ?_;refine GC.aQ rfl rfl ?_;refine Au ?_;refine Gq fun w h=>?_;refine ⟨_,?_,rfl,((lU MO (h.part (.t1 (.t1 (.t1 (.t1 (.t2 (.t2 (.d (.d .refl)))))))))).part (.t1 (.t1 (.t1 .refl))))⟩;exact aJp
theorem UT (bs bp gp cp gq cq bb bl:Nat) (md mk se ms sp:Int) (bM:ByteArray) (gv:Value) (ps:List Pr) (qs:List (Nat × Nat)) (nL:qs.length≤1000) (who:Int) (tx:ByteArray) :
  bQ Tryz.prog 10 [ptr bp,.int .i64 who,.string tx] [Bk bp 79 [ptr bs,.int .i64 md,.int .i64 mk,.slice (some ⟨gp,0,none⟩) ps.length cp,.string bM,.int .i64 20,.int .u64 se,.int .u64 ms,.int .u64 sp,gv,.slice (some ⟨gq,0,none⟩) qs.length cq,.map (some bb),.map (some bl)],Rw 123 1 (.slice (some ⟨gq,0,none⟩) qs.length cq) qs.length (oH qs),Mp (aC .u64) bl [],jO qs] (fun x:Int=>.tuple #[.slice none 0 0,.int .i64 x]) (fun x=>[Bk bp 79 [ptr bs,.int .i64 md,.int .i64 mk,.slice (some ⟨gp,0,none⟩) ps.length cp,.string bM,.int .i64 20,.int .u64 se,.int .u64 ms,.int .u64 sp,gv,.slice (some ⟨gq,0,none⟩) qs.length cq,.map (some bb),.map (some bl)],Rw 123 1 (.slice (some ⟨gq,0,none⟩) qs.length cq) qs.length (oH qs),Mp (aC .u64) bl [],jO qs]) (fun x=>x≠0):=by
 refine Fg Tryz.func10 Tryz.ntmps10 fun W0 R=>?_;refine Au ?_;refine Kx (LO _ _ _ _ _ _ _ _ _ _ _ _ _ _ _ _ _ nL _) (.cons .p0 (.cons .p0 (.cons .p0 (.cons .p0 .nil)))) fun ze hze=>?_;refine Au ?_;refine Ef (EF.alloc aL) fun b9 _=>?_;refine Au ?_;refine GC.aQ rfl (decide_eq_true hze) ?_;refine Au ?_;refine Gs fun w h=>?_;exact ⟨_,hze,rfl,h.part (.t1 (.t1 (.t1 (.t1 (.d .refl)))))⟩
theorem UR (bs bp gp cp gq cq bb bl:Nat) (md mk se ms sp:Int) (bM:ByteArray) (gv:Value) (ps:List Pr) (qs:List (Nat × Nat)) (nL:qs.length≤1000) (who:Int) :
  bQ Tryz.prog 140 [ptr bp,.int .i64 who] [Bk bp 79 [ptr bs,.int .i64 md,.int .i64 mk,.slice (some ⟨gp,0,none⟩) ps.length cp,.string bM,.int .i64 20,.int .u64 se,.int .u64 ms,.int .u64 sp,gv,.slice (some ⟨gq,0,none⟩) qs.length cq,.map (some bb),.map (some bl)],Rw 123 1 (.slice (some ⟨gq,0,none⟩) qs.length cq) qs.length (oH qs),Mp (aC .u64) bl [],jO qs] (fun x:Int=>.int .i64 x) (fun x=>[Bk bp 79 [ptr bs,.int .i64 md,.int .i64 mk,.slice (some ⟨gp,0,none⟩) ps.length cp,.string bM,.int .i64 20,.int .u64 se,.int .u64 ms,.int .u64 sp,gv,.slice (some ⟨gq,0,none⟩) qs.length cq,.map (some bb),.map (some bl)],Rw 123 1 (.slice (some ⟨gq,0,none⟩) qs.length cq) qs.length (oH qs),Mp (aC .u64) bl [],jO qs]) (fun x=>x≠0):=by
 refine Fg Tryz.func140 Tryz.ntmps140 fun W0 R=>?_;refine Au ?_;refine Kx (LO _ _ _ _ _ _ _ _ _ _ _ _ _ _ _ _ _ nL _) (.cons .p0 (.cons .p0 (.cons .p0 (.cons .p0 .nil)))) fun ze hze=>?_;refine Au ?_;refine Ef (EF.alloc aL) fun b6 _=>?_;refine Au ?_;refine GC.aQ rfl (decide_eq_true hze) ?_;refine Au ?_;refine Go fun w h=>?_;exact ⟨_,hze,rfl,h.part (.t1 (.t1 (.t1 (.t1 (.d .refl)))))⟩
theorem UX (bs bp gp cp gq cq bb bl:Nat) (md mk se ms sp:Int) (bM:ByteArray) (gv:Value) (ps:List Pr) (qs:List (Nat × Nat)) (nL:qs.length≤1000) :
  bQ Tryz.prog 174 [ptr bp] [Bk bp 79 [ptr bs,.int .i64 md,.int .i64 mk,.slice (some ⟨gp,0,none⟩) ps.length cp,.string bM,.int .i64 20,.int .u64 se,.int .u64 ms,.int .u64 sp,gv,.slice (some ⟨gq,0,none⟩) qs.length cq,.map (some bb),.map (some bl)],Mp (aC .u64) bl []] (fun x:Unit=>.int .i64 0) (fun x=>[Bk bp 79 [ptr bs,.int .i64 md,.int .i64 mk,.slice (some ⟨gp,0,none⟩) ps.length cp,.string bM,.int .i64 20,.int .u64 se,.int .u64 ms,.int .u64 sp,gv,.slice (some ⟨gq,0,none⟩) qs.length cq,.map (some bb),.map (some bl)],Mp (aC .u64) bl []]) (fun x=>True):=by
 refine Fg Tryz.func174 Tryz.ntmps174 fun W0 R=>?_;refine Au ?_;refine Lu rfl (EX.lnM rfl uN) ?_;refine Lr.run (.a rfl .s) rfl ?_;refine Zn (Zs (Zt ?_));refine GL.turn (fun w h=>h.part (.t1 .refl)) ?_;refine GL.ex (fun w h=>iZ h) (fun q=>?_);obtain ⟨⟨es,ck⟩,hen⟩:=q;dsimp only at hen ⊢;refine Au ?_;refine Ef (EV.EF.range rfl uN .p0) fun it _=>?_;refine Au ?_;refine GC.lp (σ:=Unit) (fun s=>[(14,.pointer (some ⟨it,0,none⟩)),(0,ptr bp),(3,.int .i64 0)]) (fun s=>EV.Hp it (.mapIter (some bl) ck #[] ck)::EV.Hp bl (.map es ck)::Bk bp 79 [ptr bs,.int .i64 md,.int .i64 mk,.slice (some ⟨gp,0,none⟩) ps.length cp,.string bM,.int .i64 20,.int .u64 se,.int .u64 ms,.int .u64 sp,gv,.slice (some ⟨gq,0,none⟩) qs.length cq,.map (some bb),.map (some bl)]::R) (fun s=>True) (fun s=>0) () (.c rfl (.c rfl (.c rfl .n))) .refl (trivial) (fun s hs=>?_);refine Au ?_;refine EV.GL.next rfl rfl hen.born (fun hz=>?_) (fun e he=>?_)
 ·refine Au ?_;refine GC.bH rfl rfl ?_;refine GC.exit (GE.bE (GE.bE (GE.dT ?_)));refine Ze (Zt ?_);refine GL.turn (fun w h=>h.part (.t1 .refl)) ?_;refine GL.turn (fun w h=>kY h hen) ?_;refine Au ?_;refine Lu rfl (EX.lnM rfl uN) ?_;refine Lu rfl (EX.sub rfl rfl rfl) ?_;refine Au ?_;refine Go fun w h=>?_;exact ⟨(),trivial,rfl,h.part (.t2 (.t0 (.d .refl)))⟩
 exact (qF hen he).elim
end
section
section
variable {P:Program} {W0 W w:World} {L L' R:List aA} {kn:Kn} {e s n c g:Nat} {xs:List Value} {b o t:Nat}
theorem F5 (h:aB W0 W (Rw e s (.slice (some ⟨g,0,none⟩) n c) n xs::L)):∃ q:{ cur:List Value // n≤c∧c≤maxLen∧cur.length=c * s∧xs.length=n * s∧cur.take (n * s)=xs },aB W0 W (Bk g e q.1::L):=by
 have hown:=h.rw .here;have hl:=hown.1;rcases hown.2 with ⟨e1,_⟩ | ⟨g',c',cur,e1,_,h2,h3,h4,h5,h6⟩
 ·injection e1 with e1; cases e1
 injection e1 with e1 e2 e3;injection e1 with e1; injection e1 with e1;subst e1; subst e3;refine ⟨⟨cur.toList,h3,h4,by simpa using h5,hl,h6⟩,?_⟩;obtain ⟨hb,A,h7,h8,h9⟩:=h;unfold Rw at h7;refine ⟨hb,A,?_,h8,h9⟩;unfold Bk;refine ⟨h2,fun x=>?_⟩;rw [h7.2 x];simp [Value.ownBlock,eq_comm]
theorem F4 {cur:List Value} (h:aB W0 W (Bk g e cur::L)) (h1:n≤c) (h2:c≤maxLen) (h3:cur.length=c * s) (h4:xs.length=n * s) (h5:cur.take (n * s)=xs):aB W0 W (Rw e s (.slice (some ⟨g,0,none⟩) n c) n xs::L):=by
 obtain ⟨hb,A,k1,k2,k3⟩:=h;unfold Bk at k1;unfold Rw;refine ⟨hb,A,⟨⟨h4,.inr ⟨g,c,cur.toArray,rfl,Nat.zero_le _,k1.1,h1,h2,by simpa using h3,by simpa using h5⟩⟩,fun x=>?_⟩,k2,k3⟩;rw [k1.2 x];simp [Value.ownBlock,eq_comm]
theorem take_set {cur:List Value} {m k:Nat} {v:Value} (h:cur.take m=xs):(cur.set k v).take m=xs.set k v:=by rw [List.take_set,h]
theorem EF.ZX {d gu x y ty pos af T bytes z v m c' t} {C news:List Value} {L3:Value→List aA} (hx:ev kn x=some v) (hy:ev kn y=some (.slice (some ⟨b,o,none⟩) m c')) (hT:C2 P T e s bytes z) (p:∀ v',Swap L (Rw e s v n xs) (Rw e s v' (n + m) (xs++news)) (L3 v'))
  (q:Pick L (Bk b t C) R) (hl:news.length=m * s) (hc:∀ j,j < news.length→C[o + j]?=news[j]?) (h1:ones news=true) (h63:n + m≤maxLen) (hby:(n + m) * bytes≤140737488355328) :
  EF P W0 kn L ⟨d,.call { callee:=.builtin .append,args:=#[x,y],argTypes:=#[T,T] },ty,pos,af,gu⟩ (fun v':Value=>v') L3 (Sl (n + m)):=fun ρ w he hs=>by
 obtain ⟨R',p1,p2⟩:=(p v).perm;have hs2:=hs.perm p1;have hown:=hs2.rw .here;have hat:=hs.bk q;obtain ⟨v',w',r1,r2,r3,r4⟩:=iR (P:=P) (a:=⟨b,o,none⟩) (c:=c') hT hown hl (fun j u hj=>by
  rw [dI,hat.rd];have hjl:j < news.length:=by
   rcases Nat.lt_or_ge j news.length with h' | h'
   ·exact h'
   rw [List.getElem?_eq_none h'] at hj; cases hj
  have:=hc j hjl;rw [hj] at this;simpa using this) (jW h1) h63 hby ty
 have hs3:=hs2.kH r2 r3 r4;obtain ⟨a,c'',e1,_⟩:=iJ r2;refine ⟨v',w',⟨a,c'',e1⟩,?_,?_⟩
 ·simp only [execOp,resolve,invoke,builtin,Sem.run_bind,Sem.run_pure,Result.andThen_ok,List.map_toArray,List.map_cons,List.map_nil,he x _ hx,he y _ hy,r1]
 obtain ⟨R2,q1,q2⟩:=(p v').perm;have hR:(Rw e s v n xs::R').Perm (Rw e s v n xs::R2):=p1.symm.trans q1;exact (hs3.perm (List.Perm.cons _ ((List.perm_cons _).1 hR))).perm q2
end
theorem EX.E3 {W0 kn L d g x ty ps af b o} (hx:ev kn x=some (.pointer (some ⟨b,o,none⟩))):EX Tryz.prog W0 kn L ⟨d,.slice 62 x none none none,ty,ps,af,g⟩ (.slice (some ⟨b,o,none⟩) 2 2):=fun ρ w he hs=>by
 have h1:=Tryz.underlying62;simp [execOp,he x _ hx,Instr.sliceAt,Instr.slice,underlying,h1,Instr.sliceBounds,Instr.sliceBound,Instr.sureAddr,dI]
end
section
open EV (aC)
def Pr.put (p:Pr) (slot x:Int):Pr:=if slot=0 then ⟨p.d,p.k,x,p.p1⟩ else ⟨p.d,p.k,p.p0,x⟩
theorem aD8 {p:Prop} (h:p:=by
  refine Au ?_;refine Go fun w h=>?_;exact ⟨(_,ps),⟨rfl,.inl rfl⟩,rfl,h.part (.t2 (.t2 (.t1 (.d .refl))))⟩):p:=h
theorem LH (l:List Pr):(iU l).length=l.length * 4:=by
 unfold iU;induction l with
 | nil=>rfl
 | cons x l ih=>simp only [List.flatMap_cons,List.length_append,ih,List.length_cons,A5,List.length_nil]; omega
theorem H3 {l:List Pr} {i:Nat} {slot x:Int} (hi:i < l.length) (hs:slot=0∨slot=1):(iU l).set (i * 4 + 2 + slot.toNat * 1) (.int .i64 x)=iU (l.set i (l[i].put slot x)):=by
 induction l generalizing i with
 | nil=>simp at hi
 | cons p l ih =>
  have e:∀ q,iU (q::l)=A5 q++iU l:=fun q=>rfl;have h4:∀ q,(A5 q).length=4:=fun q=>rfl;cases i with
  | zero =>
   simp only [List.set_cons_zero,List.getElem_cons_zero];rw [e,e];rcases hs with rfl | rfl
   ·rfl
   rfl
  | succ i =>
   simp only [List.set_cons_succ,List.getElem_cons_succ];rw [show iU (p::l)=A5 p++iU l from rfl,List.set_append_right _ _ (by rw [h4]; omega),h4,show (i + 1) * 4 + 2 + slot.toNat * 1 - 4=i * 4 + 2 + slot.toNat * 1 by omega,ih (by simpa using hi)];rfl
theorem ED (bs bp gp cp gq cq bb bl:Nat) (md mk se ms sp:Int) (bM:ByteArray) (gv:Value) (ps:List Pr) (qs:List (Nat × Nat)) (nL:qs.length≤1000) (who slot sec:Int) (l:List Tm) (most:Int) (hqp:qs.length=ps.length) :
  bQ Tryz.prog 141 [ptr bp,.int .i64 who,.int .i64 slot,.int .i64 sec] [Bk bp 79 [ptr bs,.int .i64 md,.int .i64 mk,.slice (some ⟨gp,0,none⟩) ps.length cp,.string bM,.int .i64 20,.int .u64 se,.int .u64 ms,.int .u64 sp,gv,.slice (some ⟨gq,0,none⟩) qs.length cq,.map (some bb),.map (some bl)],Rw 64 4 (.slice (some ⟨gp,0,none⟩) ps.length cp) ps.length (iU ps),St bs l most] (fun x:Int × List Pr=>.int .i64 x.1) (fun x=>[Bk bp 79 [ptr bs,.int .i64 md,.int .i64 mk,.slice (some ⟨gp,0,none⟩) ps.length cp,.string bM,.int .i64 20,.int .u64 se,.int .u64 ms,.int .u64 sp,gv,.slice (some ⟨gq,0,none⟩) qs.length cq,.map (some bb),.map (some bl)],Rw 64 4 (.slice (some ⟨gp,0,none⟩) ps.length cp) ps.length (iU x.2),St bs l most]) (fun x=>x.2.length=ps.length∧(x.2=ps∨∃ (i:Nat) (hi:i < ps.length),eI l sec=true∧x.2=ps.set i (ps[i].put slot sec))):=by
 refine Fg Tryz.func141 Tryz.ntmps141 fun W0 R=>?_;refine Au ?_;refine Kx (pU _ _ _ _ _ _ _ _ _ _ _ _ _ _ _ _ _ nL _) (.one .p0) fun zh S5=>?_;refine Au ?_;refine GC.cond rfl (fun c14=>?_) (fun c14=>?_)
 ·refine Au ?_;refine Go fun w h=>?_;exact ⟨(_,ps),⟨rfl,.inl rfl⟩,rfl,h.part .refl⟩
 have hw:=S5.1 (by simpa using c14);obtain ⟨i,rfl⟩:∃ i:Nat,who=(i:Int):=⟨who.toNat,by omega⟩;have hi:i < ps.length:=by omega
 refine Au ?_;refine Kc (jL _ _ _ _) (.one .p2) ?_;refine Au ?_;refine Ef (EF.alloc aL) fun b9 _=>?_;refine Au ?_;refine GL.case 26 rfl (fun g26=>?_) (fun g26=>?_)
 ·refine Au ?_;refine GC.aQ rfl rfl ?_;exact aD8
 refine Au ?_;refine GL.case 30 rfl (fun g30=>?_) (fun g30=>?_)
 ·refine Au ?_;refine GC.aQ rfl rfl ?_;exact aD8
 refine Au ?_;refine GC.cond rfl (fun c33=>?_) (fun c33=>?_)
 ·exact aD8
 simp only [dB,ne_eq,dC] at *;have hsl:slot=0∨slot=1:=by omega
 have yK:eI l sec=true:=by simp_all
 refine Au ?_;refine Lu rfl (EX.indexAddr (a:=i * 4) rfl rfl sL (by omega) (by simp)) ?_;refine Au ?_;refine Lu rfl (EX.cE (a:=i * 4 + 2 + slot.toNat * 1) rfl rfl aR (by omega) rfl) ?_;refine GL.turn (fun w h=>h.part (.t3 .refl)) ?_;refine GL.ex (fun w h=>F5 h) (fun q=>?_);obtain ⟨cur,k1,k2,k3,k4,k5⟩:=q;have hpl:=LH ps;refine Ed (EU.yA rfl rfl sZ rfl (by show _ < cur.length; omega)) ?_;refine GL.turn (fun w h=>F4 (n:=ps.length) (xs:=iU (ps.set i (ps[i].put slot sec))) h k1 k2 (by rw [List.length_set]; exact k3) (by rw [LH,List.length_set]) (by rw [← H3 hi hsl]; exact take_set k5)) ?_;refine Au ?_;refine Go fun w h=>?_;exact ⟨(_,ps.set i (ps[i].put slot sec)),⟨by simp,.inr ⟨i,hi,yK,rfl⟩⟩,rfl,h.part (.t3 (.t0 (.t1 (.d .refl))))⟩
theorem UQ (bs bp gp cp gq cq bb bl:Nat) (md mk se ms sp:Int) (bM:ByteArray) (gv:Value) (ps:List Pr) (qs:List (Nat × Nat)) (nL:qs.length≤1000) (now:Int) :
  bQ Tryz.prog 142 [ptr bp,.int .u64 now] [Bk bp 79 [ptr bs,.int .i64 md,.int .i64 mk,.slice (some ⟨gp,0,none⟩) ps.length cp,.string bM,.int .i64 20,.int .u64 se,.int .u64 ms,.int .u64 sp,gv,.slice (some ⟨gq,0,none⟩) qs.length cq,.map (some bb),.map (some bl)],Rw 123 1 (.slice (some ⟨gq,0,none⟩) qs.length cq) qs.length (oH qs),Mp (aC .u64) bb [],Mp (aC .u64) bl [],jO qs] (fun x:Int=>.int .i64 x) (fun x=>[Bk bp 79 [ptr bs,.int .i64 md,.int .i64 mk,.slice (some ⟨gp,0,none⟩) ps.length cp,.string bM,.int .i64 20,.int .u64 se,.int .u64 ms,.int .u64 sp,gv,.slice (some ⟨gq,0,none⟩) qs.length cq,.map (some bb),.map (some bl)],Rw 123 1 (.slice (some ⟨gq,0,none⟩) qs.length cq) qs.length (oH qs),Mp (aC .u64) bb [],Mp (aC .u64) bl [],jO qs]) (fun x=>True):=by
 refine Fg Tryz.func142 Tryz.ntmps142 fun W0 R=>?_;refine Zt ?_;refine Lu rfl (EX.assign rfl) ?_;refine Zn (Zt ?_);refine Lu rfl (EX.assign rfl) ?_;refine Zn (Zs (Zt ?_));refine GL.turn (fun w h=>h.part (.t2 .refl)) ?_;refine GL.ex (fun w h=>iZ h) (fun q=>?_);obtain ⟨⟨es,ck⟩,hen⟩:=q;dsimp only at hen ⊢;refine Au ?_;refine Ef (EV.EF.range rfl uN .p0) fun it _=>?_;refine Au ?_;refine GC.lp (σ:=Unit) (fun s=>[(14,.pointer (some ⟨it,0,none⟩)),(0,ptr bp),(1,.int .u64 now),(5,.int .i64 0)]) (fun s=>EV.Hp it (.mapIter (some bb) ck #[] ck)::EV.Hp bb (.map es ck)::Bk bp 79 [ptr bs,.int .i64 md,.int .i64 mk,.slice (some ⟨gp,0,none⟩) ps.length cp,.string bM,.int .i64 20,.int .u64 se,.int .u64 ms,.int .u64 sp,gv,.slice (some ⟨gq,0,none⟩) qs.length cq,.map (some bb),.map (some bl)]::Rw 123 1 (.slice (some ⟨gq,0,none⟩) qs.length cq) qs.length (oH qs)::Mp (aC .u64) bl []::jO qs::R) (fun s=>True) (fun s=>0) () (.c rfl (.c rfl (.c rfl (.c rfl .n)))) .refl (trivial) (fun s hs=>?_);refine Au ?_;refine EV.GL.next rfl rfl hen.born (fun hz=>?_) (fun e he=>?_)
 ·refine Au ?_;refine GC.bH rfl rfl ?_;refine GC.exit (GE.bE (GE.bE (GE.dT ?_)));refine Ze (Zs (Zt ?_));refine GL.turn (fun w h=>h.part (.t1 .refl)) ?_;refine GL.turn (fun w h=>kY h hen) ?_;refine Au ?_;refine GC.lp (σ:=Nat) (fun s=>[(43,.int .i64 (s:Int)),(42,.int .i64 (qs.length:Int)),(41,.slice (some ⟨gq,0,none⟩) qs.length cq),(0,ptr bp),(1,.int .u64 now),(5,.int .i64 0)]) (fun s=>Bk bp 79 [ptr bs,.int .i64 md,.int .i64 mk,.slice (some ⟨gp,0,none⟩) ps.length cp,.string bM,.int .i64 20,.int .u64 se,.int .u64 ms,.int .u64 sp,gv,.slice (some ⟨gq,0,none⟩) qs.length cq,.map (some bb),.map (some bl)]::Rw 123 1 (.slice (some ⟨gq,0,none⟩) qs.length cq) qs.length (oH qs)::Mp (aC .u64) bb []::Mp (aC .u64) bl []::jO qs::R) (fun s=>s≤qs.length) (fun s=>qs.length - s) 0 (.c rfl (.c rfl (.c rfl (.c rfl (.c rfl (.c rfl .n)))))) (.t2 (.t2 (.t0 (.t1 (.t1 (.d .refl)))))) (Nat.zero_le _) (fun s hs=>?_);refine Au ?_;refine GC.cond rfl (fun c44=>?_) (fun c44=>?_)
  ·simp only [decide_eq_true_eq] at c44;have hi:s < qs.length:=by omega
   obtain ⟨pb,pl,m1,m2,MO,hqi⟩:=pV hi;refine Au ?_;refine Lu rfl (EX.indexAddr (a:=s) rfl rfl sL (by omega) (by simp)) ?_;refine Lu rfl (EX.tU rfl hqi oN) ?_;refine Lr.run (.a rfl .s) rfl ?_;refine Zn (Zt ?_);refine GL.turn (fun w h=>h.part (.t4 .refl)) ?_;refine GL.turn (fun w h=>jS MO h) ?_;refine Au ?_;refine Kx (vY _ _) (.one .p1) fun zx _=>?_;refine Au ?_;refine Ky (HV _ _) fun _ _=>?_;refine Au ?_;refine La ?_;refine Lr.run (.m rfl .s) rfl ?_;refine (GL.nil ?_);refine GE.turn (fun w h=>h.part (.t1 .refl)) ?_;refine GE.turn (fun w h=>lU MO h) ?_;exact GE.ag (s + 1) (.c (by rw [← Int.natCast_succ]; rfl) (.c rfl (.c rfl (.c rfl (.c rfl (.c rfl .n)))))) (.t1 (.t1 (.t1 (.t1 .refl)))) (by omega) (by omega)
  refine Au ?_;refine Kx (UX _ _ _ _ _ _ _ _ _ _ _ _ _ _ _ _ _ nL) (.cons .p0 (.cons .p2 .nil)) fun _ _=>?_;refine Lu rfl (EX.add rfl rfl rfl) ?_;refine Au ?_;refine Go fun w h=>?_;exact ⟨_,trivial,rfl,h.part (.t0 (.t1 (.t1 .refl)))⟩
 exact (qF hen he).elim
theorem PF (bs bp gp cp gq cq bb bl:Nat) (md mk se ms sp:Int) (bM:ByteArray) (gv:Value) (ps:List Pr) (qs:List (Nat × Nat)) (nL:qs.length≤1000) (who:Int) :
  bQ Tryz.prog 41 [ptr bp,.int .i64 who] [Bk bp 79 [ptr bs,.int .i64 md,.int .i64 mk,.slice (some ⟨gp,0,none⟩) ps.length cp,.string bM,.int .i64 20,.int .u64 se,.int .u64 ms,.int .u64 sp,gv,.slice (some ⟨gq,0,none⟩) qs.length cq,.map (some bb),.map (some bl)],Rw 123 1 (.slice (some ⟨gq,0,none⟩) qs.length cq) qs.length (oH qs),Mp (aC .u64) bb [],jO qs] (fun x:Int × Int × Int=>.tuple #[.int .i64 x.1,.int .i64 x.2.1,.int .i64 x.2.2]) (fun x=>[Bk bp 79 [ptr bs,.int .i64 md,.int .i64 mk,.slice (some ⟨gp,0,none⟩) ps.length cp,.string bM,.int .i64 20,.int .u64 se,.int .u64 ms,.int .u64 sp,gv,.slice (some ⟨gq,0,none⟩) qs.length cq,.map (some bb),.map (some bl)],Rw 123 1 (.slice (some ⟨gq,0,none⟩) qs.length cq) qs.length (oH qs),Mp (aC .u64) bb [],jO qs]) (fun x=>x.1=0):=by
 refine Fg Tryz.func41 Tryz.ntmps41 fun W0 R=>?_;refine Au ?_;refine Kx (pU _ _ _ _ _ _ _ _ _ _ _ _ _ _ _ _ _ nL _) (.one .p0) fun zh S5=>?_;refine Au ?_;refine GC.cond rfl (fun c15=>?_) (fun c15=>?_)
 ·refine Au ?_;refine Gs fun w h=>?_;refine ⟨(_,_,_),?_,rfl,h.part .refl⟩;rfl
 have hw:=S5.1 (by simpa using c15);obtain ⟨i,rfl⟩:∃ i:Nat,who=(i:Int):=⟨who.toNat,by omega⟩;have hi:i < qs.length:=by omega
 obtain ⟨pb,pl,m1,m2,MO,hqi⟩:=pV hi;refine GC.skip (Ze (Zt ?_));refine Lu rfl (EX.assign rfl) ?_;refine Zn (Zs (Zt ?_));refine GL.turn (fun w h=>h.part (.t2 .refl)) ?_;refine GL.ex (fun w h=>iZ h) (fun q=>?_);obtain ⟨⟨es,ck⟩,hen⟩:=q;dsimp only at hen ⊢;refine Au ?_;refine Ef (EV.EF.range rfl uN .p0) fun it _=>?_;refine Au ?_;refine GC.lp (σ:=Unit) (fun s=>[(20,.pointer (some ⟨it,0,none⟩)),(0,ptr bp),(1,.int .i64 (i:Int)),(7,.int .i64 0)]) (fun s=>EV.Hp it (.mapIter (some bb) ck #[] ck)::EV.Hp bb (.map es ck)::Bk bp 79 [ptr bs,.int .i64 md,.int .i64 mk,.slice (some ⟨gp,0,none⟩) ps.length cp,.string bM,.int .i64 20,.int .u64 se,.int .u64 ms,.int .u64 sp,gv,.slice (some ⟨gq,0,none⟩) qs.length cq,.map (some bb),.map (some bl)]::Rw 123 1 (.slice (some ⟨gq,0,none⟩) qs.length cq) qs.length (oH qs)::jO qs::R) (fun s=>True) (fun s=>0) () (.c rfl (.c rfl (.c rfl (.c rfl .n)))) .refl (trivial) (fun s hs=>?_);refine Au ?_;refine EV.GL.next rfl rfl hen.born (fun hz=>?_) (fun e he=>?_)
 ·refine Au ?_;refine GC.bH rfl rfl ?_;refine GC.exit (GE.bE (GE.bE (GE.dT ?_)));refine Ze (Zt ?_);refine GL.turn (fun w h=>h.part (.t1 .refl)) ?_;refine GL.turn (fun w h=>kY h hen) ?_;refine GL.turn (fun w h=>h.part (.t4 .refl)) ?_;refine GL.turn (fun w h=>jS MO h) ?_;refine Au ?_;refine Lu rfl (EX.indexAddr (a:=i) rfl rfl sL (by omega) (by simp)) ?_;refine Lu rfl (EX.tU rfl hqi oN) ?_;refine Au ?_;refine Kx (VB _) (.one .p1) fun zx _=>?_;refine Au ?_;refine Gs fun w h=>?_;refine ⟨(_,_,_),?_,rfl,((lU MO (h.part (.t1 (.t0 (.t0 (.t2 (.t2 (.t0 (.d .refl))))))))).part (.t1 (.t1 (.t1 .refl))))⟩;rfl
 exact (qF hen he).elim
theorem US (bs bp gp cp gq cq bb bl:Nat) (md mk se ms sp:Int) (bM:ByteArray) (gv:Value) (ps:List Pr) (qs:List (Nat × Nat)) (nL:qs.length≤1000) (who:Int) :
  bQ Tryz.prog 12 [ptr bp,.int .i64 who] [Bk bp 79 [ptr bs,.int .i64 md,.int .i64 mk,.slice (some ⟨gp,0,none⟩) ps.length cp,.string bM,.int .i64 20,.int .u64 se,.int .u64 ms,.int .u64 sp,gv,.slice (some ⟨gq,0,none⟩) qs.length cq,.map (some bb),.map (some bl)],Rw 123 1 (.slice (some ⟨gq,0,none⟩) qs.length cq) qs.length (oH qs),jO qs] (fun x:Unit=>.slice none 0 0) (fun x=>[Bk bp 79 [ptr bs,.int .i64 md,.int .i64 mk,.slice (some ⟨gp,0,none⟩) ps.length cp,.string bM,.int .i64 20,.int .u64 se,.int .u64 ms,.int .u64 sp,gv,.slice (some ⟨gq,0,none⟩) qs.length cq,.map (some bb),.map (some bl)],Rw 123 1 (.slice (some ⟨gq,0,none⟩) qs.length cq) qs.length (oH qs),jO qs]) (fun x=>True):=by
 refine Fg Tryz.func12 Tryz.ntmps12 fun W0 R=>?_;refine Au ?_;refine Kx (pU _ _ _ _ _ _ _ _ _ _ _ _ _ _ _ _ _ nL _) (.one .p0) fun zh S5=>?_;refine Au ?_;refine GC.cond rfl (fun c11=>?_) (fun c11=>?_)
 ·refine Au ?_;refine Go fun w h=>?_;refine ⟨(),?_,rfl,h.part .refl⟩;trivial
 have hw:=S5.1 (by simpa using c11);obtain ⟨i,rfl⟩:∃ i:Nat,who=(i:Int):=⟨who.toNat,by omega⟩;have hi:i < qs.length:=by omega
 obtain ⟨pb,pl,m1,m2,MO,hqi⟩:=pV hi;refine GC.skip (Ze (Zt ?_));refine Lu rfl (EX.assign rfl) ?_;refine Zn (Zs (Zt ?_));refine GL.turn (fun w h=>h.part (.t2 .refl)) ?_;refine GL.turn (fun w h=>jS MO h) ?_;refine Au ?_;refine Lu rfl (EX.indexAddr (a:=i) rfl rfl sL (by omega) (by simp)) ?_;refine Lu rfl (EX.tU rfl hqi oN) ?_;refine Au ?_;refine Ky (F2) fun _ _=>?_;refine Au ?_;refine GC.lp (σ:=Unit) (fun s=>[(24,.int .i64 0),(23,.int .i64 0),(5,.slice none 0 0)]) (fun s=>Bk pb 122 (ptr pl::xW)::Pool pl::jO (m1++m2)::Bk bp 79 [ptr bs,.int .i64 md,.int .i64 mk,.slice (some ⟨gp,0,none⟩) ps.length cp,.string bM,.int .i64 20,.int .u64 se,.int .u64 ms,.int .u64 sp,gv,.slice (some ⟨gq,0,none⟩) qs.length cq,.map (some bb),.map (some bl)]::Rw 123 1 (.slice (some ⟨gq,0,none⟩) qs.length cq) qs.length (oH qs)::R) (fun s=>True) (fun s=>0) () (.c rfl (.c rfl (.c rfl .n))) .refl (trivial) (fun s hs=>?_);refine Au ?_;refine GC.bH rfl rfl ?_;refine Au ?_;refine Go fun w h=>?_;refine ⟨(),?_,rfl,((lU MO (h.part .refl)).part (.t1 (.t1 .refl)))⟩;trivial
end
section
open EV (aC)
section
variable {P:Program} {N:Nat} {W0:World} {ds:List Deferred} {Q:Exit→Act→World→Prop} {kn:Kn} {L:List aA}
theorem GC.aFt {x y:Code} (hf:GC P W0 N ds y Q kn L):GC P W0 N ds (.cond (.const (.bool false)) x y) Q kn L:=fun a w ha hs=>wp_cond_false rfl (hf a w ha hs)
end
theorem aJo {p:Prop} (h:p:=by
  refine Zt ?_;refine Lu rfl (EX.assign rfl) ?_;refine Zn (Zt ?_);refine Lu rfl (EX.assign rfl) ?_;refine Zn (Zs (Zt ?_));refine GL.ex (fun w h=>iZ h) (fun q=>?_);obtain ⟨⟨es,ck⟩,hen⟩:=q;dsimp only at hen ⊢;refine Au ?_;refine Ef (EV.EF.range rfl uN .p0) fun it _=>?_;refine Au ?_;refine GC.lp (σ:=Unit) (fun s=>[(6,.pointer (some ⟨it,0,none⟩)),(3,.slice none 0 0)]) (fun s=>EV.Hp it (.mapIter (some b) ck #[] ck)::EV.Hp b (.map es ck)::R) (fun s=>True) (fun s=>0) () (.c rfl (.c rfl .n)) .refl (trivial) (fun s hs=>?_);refine Au ?_;refine EV.GL.next rfl rfl hen.born (fun hz=>?_) (fun e he=>?_)
  ·refine Au ?_;refine GC.bH rfl rfl ?_;refine GC.exit (GE.bE (GE.bE (GE.dT ?_)));refine Ze (Zt ?_);refine GL.turn (fun w h=>h.part (.t1 .refl)) ?_;refine GL.turn (fun w h=>kY h hen) ?_;refine Au ?_;refine Ky (TQ) fun _ _=>?_;refine Au ?_;refine Go fun w h=>?_;exact ⟨(),trivial,rfl,h.part (.t0 (.d .refl))⟩
  exact (qF hen he).elim):p:=h
theorem aJn {p:Prop} (h:p:=by
  refine Au ?_;refine GE.lW rfl (fun w h=>?_);exact ⟨(),trivial,rfl,h.part .refl⟩):p:=h
theorem S0  :
  bQ Tryz.prog 220 [.slice none 0 0,.int .i64 0,.int .i64 0] [] (fun x:Unit=>.tuple #[]) (fun x=>[]) (fun x=>True):=by
 refine Fg Tryz.func220 Tryz.ntmps220 fun W0 R=>?_;refine Au ?_;refine La ?_;refine Au ?_;refine GC.lp (σ:=Unit) (fun s=>[(6,.int .i64 1),(2,.int .i64 0)]) (fun s=>R) (fun s=>True) (fun s=>0) () (.c rfl (.c rfl .n)) .refl (trivial) (fun s hs=>?_);refine Au ?_;refine GC.bH rfl rfl ?_;exact aJn
theorem H6 (lim:Int) :
  bQ Tryz.prog 202 [.slice none 0 0,.int .i64 0,.int .i64 0,.int .i64 lim] [] (fun x:Unit=>.tuple #[]) (fun x=>[]) (fun x=>True):=by
 refine Fg Tryz.func202 Tryz.ntmps202 fun W0 R=>?_;refine Au ?_;refine GC.lp (σ:=Unit) (fun s=>[(0,.slice none 0 0),(1,.int .i64 0),(2,.int .i64 0),(3,.int .i64 lim)]) (fun s=>R) (fun s=>True) (fun s=>0) () (.c rfl (.c rfl (.c rfl (.c rfl .n)))) .refl (trivial) (fun s hs=>?_);refine Au ?_;refine La ?_;refine Au ?_;refine GC.aQ rfl rfl ?_;refine Au ?_;refine Ky (S0) fun _ _=>?_;refine Au ?_;refine GE.aIi rfl (fun w h=>?_);exact ⟨(),trivial,rfl,h.part .refl⟩
theorem SC (n:Int) :
  bQ Tryz.prog 203 [.int .u64 n] [] (fun x:Int=>.int .i64 x) (fun x=>[]) (fun x=>True):=by
 refine Fg Tryz.func203 Tryz.ntmps203 fun W0 R=>?_;refine Au ?_;refine GC.aFt ?_;refine Au ?_;refine Ky (qE _) fun zl _=>?_;refine Au ?_;refine Go fun w h=>?_;exact ⟨_,trivial,rfl,h.part .refl⟩
theorem TQ  :
  bQ Tryz.prog 175 [.slice none 0 0] [] (fun x:Unit=>.tuple #[]) (fun x=>[]) (fun x=>True):=by
 refine Fg Tryz.func175 Tryz.ntmps175 fun W0 R=>?_;refine Au ?_;refine Lu rfl (EX.conv rfl uN uN (wu (by omega))) ?_;refine Ky (SC _) fun zl _=>?_;refine Ky (H6 _) fun _ _=>?_;exact aJn
theorem HZ (b:Nat) :
  bQ Tryz.prog 144 [.map (some b)] [Mp (aC .u64) b []] (fun x:Unit=>.slice none 0 0) (fun x=>[Mp (aC .u64) b []]) (fun x=>True):=by
 refine Fg Tryz.func144 Tryz.ntmps144 fun W0 R=>?_;exact aJo
theorem HY (b:Nat) :
  bQ Tryz.prog 145 [.map (some b)] [Mp (aC .u64) b []] (fun x:Unit=>.slice none 0 0) (fun x=>[Mp (aC .u64) b []]) (fun x=>True):=by
 refine Fg Tryz.func145 Tryz.ntmps145 fun W0 R=>?_;exact aJo
theorem XS {W0 w:World} {L:List aA} {v:Value} {ks:List Int} {a b:Int} (h:aB W0 w (Rw 3 1 v (ks.length + 2) (aJ ks++[.int .i64 a,.int .i64 b])::L)):aB W0 w (Rw 3 1 v (ks++[a,b]).length (aJ (ks++[a,b]))::L):=by
 have e1:(ks++[a,b]).length=ks.length + 2:=by simp
 have e2:aJ (ks++[a,b])=aJ ks++[.int .i64 a,.int .i64 b]:=by simp [aJ]
 rw [e1,e2]; exact h
def X5 (md mk:Int) (ps:List Pr) (x:Int):Prop:=x=md∨x=mk∨∃ p∈ps,x=p.p0∨x=p.p1
theorem PE (bs bp gp cp gq cq bb bl:Nat) (md mk se ms sp:Int) (bM:ByteArray) (gv:Value) (ps:List Pr) (qs:List (Nat × Nat)) (nL:qs.length≤1000) (hpl:ps.length≤1000) :
  bQ Tryz.prog 101 [ptr bp] [Bk bp 79 [ptr bs,.int .i64 md,.int .i64 mk,.slice (some ⟨gp,0,none⟩) ps.length cp,.string bM,.int .i64 20,.int .u64 se,.int .u64 ms,.int .u64 sp,gv,.slice (some ⟨gq,0,none⟩) qs.length cq,.map (some bb),.map (some bl)],Rw 64 4 (.slice (some ⟨gp,0,none⟩) ps.length cp) ps.length (iU ps),Mp (aC .u64) bb [],Mp (aC .u64) bl []] (fun x:Value × List Int=>x.1) (fun x=>[Rw 3 1 x.1 x.2.length (aJ x.2),Bk bp 79 [ptr bs,.int .i64 md,.int .i64 mk,.slice (some ⟨gp,0,none⟩) ps.length cp,.string bM,.int .i64 20,.int .u64 se,.int .u64 ms,.int .u64 sp,gv,.slice (some ⟨gq,0,none⟩) qs.length cq,.map (some bb),.map (some bl)],Rw 64 4 (.slice (some ⟨gp,0,none⟩) ps.length cp) ps.length (iU ps),Mp (aC .u64) bb [],Mp (aC .u64) bl []]) (fun x=>Sl x.2.length x.1∧x.2.length≤3000∧0 < x.2.length∧∀ y∈x.2,X5 md mk ps y):=by
 refine Fg Tryz.func101 Tryz.ntmps101 fun W0 R=>?_;refine Au ?_;refine Gr 14 (.t (.t (.t (.t .e)))) ?_;refine Dq 2 [0,1,2,3,4,5,6,7,8,9,10,11] ?_;refine Ga 12 ?_;refine Ef (EF.buildSlice rfl bS rfl rfl rfl) fun b23 _=>?_;refine D.n (.t1 (.t1 (.t1 (.t1 .refl)))) ?_;refine Ds 13 ?_;refine Gd ?_;refine Ze (Zs (Zt ?_));refine Lr.run (.m rfl (.c rfl (.f rfl fA (.f rfl fA (.l rfl rfl oN (.v (EX.rT rfl uN) rfl rfl (.m rfl .s))))))) rfl ?_;refine Zn (GC.block ?_);refine GC.turn (fun w h=>aB.uC (s:=1) (n:=2) (h.part .refl) rfl (by unfold maxLen; omega)) ?_;refine GC.lp (σ:=Nat × Value × List Int) (fun s=>[(30,.int .i64 (s.1:Int)),(29,.int .i64 (ps.length:Int)),(28,.slice (some ⟨gp,0,none⟩) ps.length cp),(3,s.2.1),(0,ptr bp)]) (fun s=>Rw 3 1 s.2.1 s.2.2.length (aJ s.2.2)::Bk bp 79 [ptr bs,.int .i64 md,.int .i64 mk,.slice (some ⟨gp,0,none⟩) ps.length cp,.string bM,.int .i64 20,.int .u64 se,.int .u64 ms,.int .u64 sp,gv,.slice (some ⟨gq,0,none⟩) qs.length cq,.map (some bb),.map (some bl)]::Rw 64 4 (.slice (some ⟨gp,0,none⟩) ps.length cp) ps.length (iU ps)::Mp (aC .u64) bb []::Mp (aC .u64) bl []::R) (fun s=>s.1≤ps.length∧Sl s.2.2.length s.2.1∧s.2.2.length=2 + 2 * s.1∧∀ y∈s.2.2,X5 md mk ps y) (fun s=>ps.length - s.1) (0,.slice (some ⟨b23,0,none⟩) 2 2,[md,mk]) (.c rfl (.c rfl (.c rfl (.c rfl (.c rfl .n))))) .refl (⟨Nat.zero_le _,⟨_,_,rfl⟩,rfl,fun y hy=>by simp at hy; exact hy.elim .inl (fun h=>.inr (.inl h))⟩) (fun s hs=>?_);obtain ⟨k,v,ks⟩:=s;dsimp only at hs;refine Au ?_;refine GC.cond rfl (fun c31=>?_) (fun c31=>?_)
 ·simp only [decide_eq_true_eq] at c31;have hi:k < ps.length:=by omega
  refine Au ?_;refine Lu rfl (EX.indexAddr (a:=k * 4) rfl rfl sL (by omega) (by simp)) ?_;refine Lu rfl (EX.rW (cs:=A5 ps[k]) rfl (mN rfl) rfl (BK hi)) ?_;refine Ef (EF.alloc aL) fun b5 _=>?_;refine Au ?_;refine Lu rfl (EX.E3 rfl) ?_;refine Ef (EF.ZX (e:=3) (s:=1) (n:=ks.length) (xs:=aJ ks) (news:=[.int .i64 ps[k].p0,.int .i64 ps[k].p1]) rfl rfl NV (fun v'=>.there (.here)) .p0 rfl (fun j hj=>by (have hj2:j < 2:=hj); match j,hj2 with | 0,_=>rfl | 1,_=>rfl) rfl (by unfold maxLen; omega) (by omega)) fun v37 aR0=>?_;refine GL.turn (fun w h=>h.part (.t1 .refl)) ?_;refine GL.turn (fun w h=>XS h) ?_;refine Au ?_;refine La ?_;refine Au ?_;exact GE.ag (s:=(k,v,ks)) (k + 1,v37,ks++[ps[k].p0,ps[k].p1]) (.c (by rw [← Int.natCast_succ]; rfl) (.c rfl (.c rfl (.c rfl (.c rfl .n))))) (.t0 (.t1 (.t1 (.t1 (.t1 (.d .refl)))))) (by dsimp only; omega) (⟨by dsimp only; omega,by simpa using aR0,by simp; omega,fun y hy=>by rcases List.mem_append.1 hy with h | h; exact hs.2.2.2 y h; exact .inr (.inr ⟨_,List.getElem_mem hi,by simpa using h⟩)⟩)
 refine Au ?_;refine Kx (HZ _) (.one .p3) fun _ _=>?_;refine Au ?_;have hks:=hs;refine GC.lp (σ:=Unit) (fun s=>[(45,.int .i64 0),(44,.int .i64 0),(3,v),(0,ptr bp)]) (fun s=>Rw 3 1 v ks.length (aJ ks)::Bk bp 79 [ptr bs,.int .i64 md,.int .i64 mk,.slice (some ⟨gp,0,none⟩) ps.length cp,.string bM,.int .i64 20,.int .u64 se,.int .u64 ms,.int .u64 sp,gv,.slice (some ⟨gq,0,none⟩) qs.length cq,.map (some bb),.map (some bl)]::Rw 64 4 (.slice (some ⟨gp,0,none⟩) ps.length cp) ps.length (iU ps)::Mp (aC .u64) bb []::Mp (aC .u64) bl []::R) (fun s=>True) (fun s=>0) () (.c rfl (.c rfl (.c rfl (.c rfl .n)))) (.t1 (.t1 (.t1 .refl))) (trivial) (fun s hs=>?_);refine Au ?_;refine GC.bH rfl rfl ?_;refine Au ?_;refine Kx (HY _) (.one .p4) fun _ _=>?_;refine Au ?_;refine GC.lp (σ:=Unit) (fun s=>[(73,.int .i64 0),(72,.int .i64 0),(3,v),(0,ptr bp)]) (fun s=>Rw 3 1 v ks.length (aJ ks)::Bk bp 79 [ptr bs,.int .i64 md,.int .i64 mk,.slice (some ⟨gp,0,none⟩) ps.length cp,.string bM,.int .i64 20,.int .u64 se,.int .u64 ms,.int .u64 sp,gv,.slice (some ⟨gq,0,none⟩) qs.length cq,.map (some bb),.map (some bl)]::Rw 64 4 (.slice (some ⟨gp,0,none⟩) ps.length cp) ps.length (iU ps)::Mp (aC .u64) bb []::Mp (aC .u64) bl []::R) (fun s=>True) (fun s=>0) () (.c rfl (.c rfl (.c rfl (.c rfl .n)))) (.t1 (.t1 (.t1 (.t1 .refl)))) (trivial) (fun s hs=>?_);refine Au ?_;refine GC.bH rfl rfl ?_;refine Au ?_;refine Go fun w h=>?_;exact ⟨(v,ks),⟨hks.2.1,by dsimp only at hks ⊢; omega,by dsimp only at hks ⊢; omega,hks.2.2.2⟩,rfl,h.part .refl⟩
end
section
open EV (aC)
def OA (s:ByteArray):Prop:=∃ (A:UInt8) (q:List UInt8),s.data.toList=A::0::1::3::q∧A.toNat < 128∧1≤A.toNat∧q.length≤100
def strs (l:List ByteArray):List Value:=l.map Value.string
theorem aBz {ms:Int} {s:ByteArray} {q:List UInt8} (h1:1≤ms) (h2:ms < 127) (hz:s.size≤20) (hq:s.data.toList=3::q):OA (⟨#[UInt8.ofNat (ms).toNat]⟩++⟨#[UInt8.ofNat (0:Int).toNat]⟩++⟨#[UInt8.ofNat (1:Int).toNat]⟩++s):=by
 have hs:s.data.toList.length=s.size:=by rw [Array.length_toList]; rfl
 rw [hq] at hs;simp only [List.length_cons] at hs;refine ⟨UInt8.ofNat ms.toNat,q,?_,?_,?_,by omega⟩
 ·simp only [ByteArray.data_append,Array.toList_append,hq]; rfl
 ·rw [UInt8.toNat_ofNat']; omega
 rw [UInt8.toNat_ofNat']; omega
theorem EG (bs bp gp cp gq cq bb bl:Nat) (md mk se ms sp:Int) (bM:ByteArray) (gv:Value) (ps:List Pr) (qs:List (Nat × Nat)) (nL:qs.length≤1000) (m:Mg) (hk3:m.kind=3) (hm:lO m) (hms:1≤ms∧ms < 127) :
  bQ Tryz.prog 24 [ptr bp,CY m] [Bk bp 79 [ptr bs,.int .i64 md,.int .i64 mk,.slice (some ⟨gp,0,none⟩) ps.length cp,.string bM,.int .i64 20,.int .u64 se,.int .u64 ms,.int .u64 sp,gv,.slice (some ⟨gq,0,none⟩) qs.length cq,.map (some bb),.map (some bl)]] (fun x:Value × List ByteArray=>x.1) (fun x=>[Rw 9 1 x.1 x.2.length (strs x.2),Bk bp 79 [ptr bs,.int .i64 md,.int .i64 mk,.slice (some ⟨gp,0,none⟩) ps.length cp,.string bM,.int .i64 20,.int .u64 se,.int .u64 (ms + 1),.int .u64 sp,gv,.slice (some ⟨gq,0,none⟩) qs.length cq,.map (some bb),.map (some bl)]]) (fun x=>Sl x.2.length x.1∧(x.2=[]∨∃ t,x.2=[t]∧OA t)):=by
 refine Fg Tryz.func24 Tryz.ntmps24 fun W0 R=>?_;refine Au ?_;refine Ef (EF.bV rfl) fun b3 _=>?_;refine Au ?_;refine Gr 17 (.t (.t .e)) ?_;refine Dq 7 [0,2,3,4,5,6,7,8,9,10] ?_;refine Ga 1 ?_;refine Ky (WW _ hk3 hm) fun z hz=>?_;refine D.n .refl ?_;refine Ga 11 ?_;refine Kw (.direct eN rfl) (aFr _ _ _ (by omega) (by omega) (by omega) (by omega)) .nil fun y hy=>?_;obtain ⟨fv,fl,fe⟩:=y;dsimp only at hy ⊢;obtain ⟨⟨fa,fc,rfl⟩,hfl⟩:=hy;refine D.n (.t1 (.t1 .refl)) ?_;refine Dq 0 [12,13,14,15,16] ?_;refine Gd ?_;refine Au ?_;refine Lu rfl (EX.add rfl rfl (wu (by omega))) ?_;refine Lr.run (.c rfl (.f rfl fA .s)) rfl ?_;refine Lt ?_;refine Zn (Zt ?_);refine Lu rfl (EX.assign rfl) ?_;refine Zn (Zs (Zt ?_));refine Lr.run (.m rfl (.v (EX.rT rfl uN) rfl rfl (.m rfl .s))) rfl ?_;refine Zn (GC.block ?_);refine GC.turn (fun w h=>h.eP 9 1) ?_;refine GC.lp (σ:=Nat × Value × List ByteArray) (fun s=>[(34,.int .i64 (s.1:Int)),(33,.int .i64 (fl.length:Int)),(32,.slice fa fl.length fc),(7,s.2.1)]) (fun s=>Rw 9 1 s.2.1 s.2.2.length (strs s.2.2)::Rw 96 4 (.slice fa fl.length fc) fl.length (uJ fl)::Bk bp 79 [ptr bs,.int .i64 md,.int .i64 mk,.slice (some ⟨gp,0,none⟩) ps.length cp,.string bM,.int .i64 20,.int .u64 se,.int .u64 (ms + 1),.int .u64 sp,gv,.slice (some ⟨gq,0,none⟩) qs.length cq,.map (some bb),.map (some bl)]::R) (fun s=>s.1≤fl.length∧Sl s.2.2.length s.2.1∧(s.1=0∧s.2.2=[]∨s.1=1∧∃ t,s.2.2=[t]∧OA t)) (fun s=>fl.length - s.1) (0,.slice none 0 0,[]) (.c rfl (.c rfl (.c rfl (.c rfl .n)))) (.t0 (.t0 (.t1 (.d .refl)))) (⟨Nat.zero_le _,⟨_,_,rfl⟩,.inl ⟨rfl,rfl⟩⟩) (fun s hs=>?_);obtain ⟨k,v,os⟩:=s;dsimp only at hs;refine Au ?_;refine GC.cond rfl (fun c35=>?_) (fun c35=>?_)
 ·simp only [decide_eq_true_eq] at c35;obtain ⟨rfl,hz1⟩:=hfl.resolve_left (by rintro rfl; simp at c35; omega);obtain ⟨rfl,rfl⟩:k=0∧os=[]:=(by rcases hs.2.2 with h | ⟨h,_⟩; exact h; rw [h] at c35; simp at c35);refine GC.know (fun w h=>h.dV .p1 Nat.one_pos) (fun hg=>?_);obtain ⟨gf,rfl⟩:=hg;refine Au ?_;refine Lu rfl (EX.indexAddr (a:=0 * 4) rfl rfl sL ⟨Int.le_refl _,Int.zero_lt_one⟩ rfl) ?_;refine Lu rfl (EX.rW (cs:=frc ⟨ms,0,1,z⟩) rfl (mN rfl) rfl (JO (l:=[⟨ms,0,1,z⟩]) (k:=0) Nat.one_pos)) ?_;refine Ef (EF.alloc aL) fun b9 _=>?_;refine Au ?_;refine Ky (F0 _ _ _ _) fun w hw=>?_;have hw2:OA w:=by
   dsimp only at hw;have e:=hw.2 ⟨by omega,by omega,by decide,by decide,by decide,by decide,hz1,by omega⟩ (by omega);obtain ⟨q,hq⟩:=hz.2.resolve_left (by omega);exact e ▸ aBz hms.1 hms.2 hz.1 hq
  refine Ef (EF.buildSlice rfl bS rfl rfl rfl) fun b41 _=>?_;refine Ef (EF.append rfl rfl NV (fun v=>.there (.there (.here))) .p0 (rfl) (rfl) (by dsimp only [List.length]; unfold maxLen; omega) (by dsimp only [List.length]; omega)) fun v42 aRz=>?_;refine Au ?_;refine La ?_;refine Au ?_;exact GE.ag (1,v42,[w]) (.c (by rw [← Int.natCast_succ]; rfl) (.c rfl (.c rfl (.c rfl .n)))) (.t2 (.t2 (.t2 (.d (.d .refl))))) (Nat.sub_lt_sub_left (Nat.one_pos) (Nat.one_pos)) (⟨Nat.le_refl _,by simpa using aRz,.inr ⟨rfl,w,rfl,hw2⟩⟩)
 refine Au ?_;refine Go fun w h=>?_;refine ⟨(v,os),⟨hs.2.1,?_⟩,rfl,h.part (.t0 (.t1 (.d .refl)))⟩;rcases hs.2.2 with h | h
 ·exact .inl h.2
 exact .inr h.2
end
section
open EV (aC)
abbrev aMs (m:Mg) (fr now d1 d2:Int):List Value:=[.int .i64 m.kind,.int .u64 m.src,.int .u64 m.dst,.string m.offer,.int .i64 m.slot,.int .i64 m.code,.int .i64 m.e,.int .i64 m.ek,.int .i64 m.box,.int .i64 m.c1,.int .i64 m.c2,.int .u64 m.epoch,.int .u64 m.n,.int .i64 fr,.int .u64 now,.int .i64 d1,.int .i64 d2]
abbrev GM (m:Mg) (fr now d1 d2:Int):Value:=.agg (aMs m fr now d1 d2).toArray
structure Rs where
 v:Value
 os:List ByteArray
 pe:Int
 code:Int
 e:Int
 ms:Int
 l:List Tm
abbrev Rs.val (x:Rs):Value:=.tuple #[.agg #[.int .i64 x.pe,.string ⟨#[]⟩,.bool false,.int .i64 0,x.v,.int .i64 x.code],.int .i64 x.e]
def nN (most:Int) (l:List Tm) (ms fr:Int) (x:Rs):Prop:=Sl x.os.length x.v∧(x.os=[]∨∃ t,x.os=[t]∧OA t)∧(x.os=[]∧x.pe=0∨x.pe=fr)∧ms≤x.ms∧x.ms≤ms + 1∧Grow most l x.l
theorem nN.err {most:Int} {l l':List Tm} {ms fr e:Int} (h:Grow most l l'):nN most l ms fr ⟨.slice none 0 0,[],0,0,e,ms,l'⟩:=⟨⟨_,_,rfl⟩,.inl rfl,.inl ⟨rfl,rfl⟩,Int.le_refl _,by dsimp only; omega,h⟩
theorem aJm {p:Prop} (h:p:=by
  refine Au ?_;refine Ef (EF.bV rfl) fun b3 _=>?_;refine Ef (EF.alloc aL) fun b4 _=>?_;refine Au ?_;refine Gr 14 (.t (.t (.t (.t .e)))) ?_;refine Dq 7 [0,1,2,3,4,5,6] ?_;refine Dv 7 rfl (fun X=>EX.QI (enc:=aC .u64) (a:=m.dst) rfl rfl IX uN zV) ?_;refine Dq 3 [8,9,10] ?_;refine Ga 11 ?_;refine Ef (EF.alloc aL) fun b6 _=>?_;refine D.n (.t1 (.t1 (.t1 (.t1 .refl)))) ?_;refine Ga 12 ?_;refine Au ?_;refine D.n (.t1 (.t1 (.t1 (.t1 .refl)))) ?_;refine Ds 13 ?_;refine Gd ?_;refine Au ?_;refine GC.aQ rfl rfl ?_;refine Au ?_;refine Gq fun w h=>?_;exact ⟨(),trivial,rfl,h.part (.t3 (.t3 (.d (.d (.d .refl)))))⟩):p:=h
theorem UV (bs bp gp cp gq cq bb bl:Nat) (md mk se ms sp:Int) (bM:ByteArray) (gv:Value) (ps:List Pr) (qs:List (Nat × Nat)) (nL:qs.length≤1000) (m:Mg) (fr now d1 d2:Int) :
  bQ Tryz.prog 126 [ptr bp,GM m fr now d1 d2] [Bk bp 79 [ptr bs,.int .i64 md,.int .i64 mk,.slice (some ⟨gp,0,none⟩) ps.length cp,.string bM,.int .i64 20,.int .u64 se,.int .u64 ms,.int .u64 sp,gv,.slice (some ⟨gq,0,none⟩) qs.length cq,.map (some bb),.map (some bl)],Mp (aC .u64) bb []] (fun x:Unit=>.tuple #[.agg #[.int .i64 0,.string ⟨#[]⟩,.bool false,.int .i64 0,.slice none 0 0,.int .i64 0],.int .i64 5]) (fun x=>[Bk bp 79 [ptr bs,.int .i64 md,.int .i64 mk,.slice (some ⟨gp,0,none⟩) ps.length cp,.string bM,.int .i64 20,.int .u64 se,.int .u64 ms,.int .u64 sp,gv,.slice (some ⟨gq,0,none⟩) qs.length cq,.map (some bb),.map (some bl)],Mp (aC .u64) bb []]) (fun x=>True):=by
 refine Fg Tryz.func126 Tryz.ntmps126 fun W0 R=>?_;exact aJm
theorem IE (bs bp gp cp gq cq bb bl:Nat) (md mk se ms sp:Int) (bM:ByteArray) (gv:Value) (ps:List Pr) (qs:List (Nat × Nat)) (nL:qs.length≤1000) (m:Mg) (fr now d1 d2:Int) :
  bQ Tryz.prog 127 [ptr bp,GM m fr now d1 d2] [Bk bp 79 [ptr bs,.int .i64 md,.int .i64 mk,.slice (some ⟨gp,0,none⟩) ps.length cp,.string bM,.int .i64 20,.int .u64 se,.int .u64 ms,.int .u64 sp,gv,.slice (some ⟨gq,0,none⟩) qs.length cq,.map (some bb),.map (some bl)],Mp (aC .u64) bb []] (fun x:Unit=>.tuple #[.agg #[.int .i64 0,.string ⟨#[]⟩,.bool false,.int .i64 0,.slice none 0 0,.int .i64 0],.int .i64 5]) (fun x=>[Bk bp 79 [ptr bs,.int .i64 md,.int .i64 mk,.slice (some ⟨gp,0,none⟩) ps.length cp,.string bM,.int .i64 20,.int .u64 se,.int .u64 ms,.int .u64 sp,gv,.slice (some ⟨gq,0,none⟩) qs.length cq,.map (some bb),.map (some bl)],Mp (aC .u64) bb []]) (fun x=>True):=by
 refine Fg Tryz.func127 Tryz.ntmps127 fun W0 R=>?_;exact aJm
theorem VG (bs bp gp cp gq cq bb bl:Nat) (md mk se ms sp:Int) (bM:ByteArray) (gv:Value) (ps:List Pr) (qs:List (Nat × Nat)) (nL:qs.length≤1000) (m:Mg) (fr now d1 d2:Int) :
  bQ Tryz.prog 128 [ptr bp,GM m fr now d1 d2] [Bk bp 79 [ptr bs,.int .i64 md,.int .i64 mk,.slice (some ⟨gp,0,none⟩) ps.length cp,.string bM,.int .i64 20,.int .u64 se,.int .u64 ms,.int .u64 sp,gv,.slice (some ⟨gq,0,none⟩) qs.length cq,.map (some bb),.map (some bl)],Mp (aC .u64) bl []] (fun x:Unit=>.tuple #[.agg #[.int .i64 0,.string ⟨#[]⟩,.bool false,.int .i64 0,.slice none 0 0,.int .i64 0],.int .i64 5]) (fun x=>[Bk bp 79 [ptr bs,.int .i64 md,.int .i64 mk,.slice (some ⟨gp,0,none⟩) ps.length cp,.string bM,.int .i64 20,.int .u64 se,.int .u64 ms,.int .u64 sp,gv,.slice (some ⟨gq,0,none⟩) qs.length cq,.map (some bb),.map (some bl)],Mp (aC .u64) bl []]) (fun x=>True):=by
 refine Fg Tryz.func128 Tryz.ntmps128 fun W0 R=>?_;refine Au ?_;refine Ef (EF.bV rfl) fun b3 _=>?_;refine Ef (EF.alloc aL) fun b4 _=>?_;refine Au ?_;refine Gr 13 (.t (.t (.t (.t .e)))) ?_;refine Dq 6 [0,1,2,3,4,5,6] ?_;refine Dv 7 rfl (fun X=>EX.QI (enc:=aC .u64) (a:=m.dst) rfl rfl IX uN zV) ?_;refine Dq 0 [8,9,10,11,12] ?_;refine Gd ?_;refine Au ?_;refine GC.aQ rfl rfl ?_;refine Au ?_;refine Gq fun w h=>?_;exact ⟨(),trivial,rfl,h.part (.t2 (.t2 (.d (.d .refl))))⟩
end
section
theorem UZ (bs bp gp cp gq cq bb bl:Nat) (md mk se ms sp:Int) (bM:ByteArray) (gv:Value) (ps:List Pr) (qs:List (Nat × Nat)) (nL:qs.length≤1000) (m:Mg) (fr now d1 d2:Int) (l:List Tm) (most:Int) (hm:most≤1048576) (hpl:ps.length≤1000) (RB:bM.size≤1000000) (hms:1≤ms∧ms < 127) (A:Int→Prop) (dr:Int) (yK:rA A l dr) (hps:∀ p∈ps,aV A l p.p0∧aV A l p.p1) (hk:1≤m.kind∧m.kind≤4) (hmg:lO m) :
  bQ Tryz.prog 125 [ptr bp,GM m fr now d1 d2] [Bk bp 79 [ptr bs,.int .i64 md,.int .i64 mk,.slice (some ⟨gp,0,none⟩) ps.length cp,.string bM,.int .i64 20,.int .u64 se,.int .u64 ms,.int .u64 sp,gv,.slice (some ⟨gq,0,none⟩) qs.length cq,.map (some bb),.map (some bl)],Rw 64 4 (.slice (some ⟨gp,0,none⟩) ps.length cp) ps.length (iU ps),St bs l most] (fun x:Rs=>x.val) (fun x=>[Rw 9 1 x.v x.os.length (strs x.os),Bk bp 79 [ptr bs,.int .i64 md,.int .i64 mk,.slice (some ⟨gp,0,none⟩) ps.length cp,.string bM,.int .i64 20,.int .u64 se,.int .u64 x.ms,.int .u64 sp,gv,.slice (some ⟨gq,0,none⟩) qs.length cq,.map (some bb),.map (some bl)],Rw 64 4 (.slice (some ⟨gp,0,none⟩) ps.length cp) ps.length (iU ps),St bs x.l most]) (fun x=>nN most l ms fr x):=by
 refine Fg Tryz.func125 Tryz.ntmps125 fun W0 R=>?_;refine Au ?_;refine Ef (EF.bV rfl) fun b3 _=>?_;refine Ef (EF.alloc aL) fun b4 _=>?_;refine Au ?_;refine Gr 28 (.t (.t (.t .e))) ?_;refine Dq 7 [0,1,2,3,4,5,6,7,8,9,10,11,12,13,14,15,16,17,18,19,20] ?_;refine GD.xS 21 25 (by kernel_rfl) rfl rfl ?_ ?_
 ·refine Kx (FJ _ _ _ hm _ _ _ _ _ hpl _ RB m hk hmg A dr yK hps) (.cons .p4 (.cons .p3 .nil)) fun z hz=>?_;obtain ⟨oc,e0,l1⟩:=z;dsimp only at hz ⊢;obtain ⟨aEy,he0,G⟩:=hz;obtain ⟨o0,o1,o2,o3,o4,o5,o6,o7,o8,o9,rfl⟩:=aEy;refine D.n (.t2 (.t2 (.t2 .refl))) ?_;refine Dq 3 [22,23,24] ?_;refine Ga 25 ?_;refine Ef (EF.alloc aL) fun b6 _=>?_;refine D.n (.t3 (.t3 (.t3 .refl))) ?_;refine Ga 26 ?_;refine Au ?_;refine D.n (.t3 (.t3 (.t3 .refl))) ?_;refine Ds 27 ?_;refine Gd ?_;refine Au ?_;refine GC.cond rfl (fun V6=>?_) (fun V6=>?_)
  ·refine Au ?_;refine Gr 13 (.t (.t (.t (.f (.t .e))))) ?_;refine Dq 4 [0,1,2,3,4,5,6,7,8] ?_;refine Ga 9 ?_;refine Kw (.direct eN rfl) (EG _ _ _ _ _ _ _ _ _ _ _ _ _ _ _ _ _ nL ⟨3,0,m.src,⟨#[]⟩,0,11,0,0,0,0,0,0,0⟩ rfl ⟨Nat.zero_le _,(by decide:(-9223372036854775808:Int)≤0),(by decide:(0:Int) < 9223372036854775808)⟩ hms) (.one .p5) fun w hw=>?_;obtain ⟨wv,os⟩:=w;dsimp only at hw ⊢;obtain ⟨⟨wa,wc,rfl⟩,hos⟩:=hw;refine D.n (.t2 (.t2 (.t2 (.t3 .refl)))) ?_;refine Ds 10 ?_;refine Ga 11 ?_;refine Au ?_;refine D.n (.t2 (.t2 (.t2 (.t3 .refl)))) ?_;refine Ds 12 ?_;refine Gd ?_;refine Au ?_;refine Gq fun w h=>?_;refine ⟨⟨.slice wa os.length wc,os,fr,11,0,ms + 1,l1⟩,⟨⟨_,_,rfl⟩,hos,.inr rfl,by dsimp only; omega,Int.le_refl _,G⟩,rfl,h.part (.t0 (.t0 (.t2 (.t1 (.d (.d (.d .refl)))))))⟩
  refine Au ?_;refine GC.aQ rfl (decide_eq_true he0) ?_;refine Au ?_;refine Gq fun w h=>?_;refine ⟨⟨.slice none 0 0,[],0,0,_,ms,_⟩,nN.err G,rfl,(h.part (.t5 (.t2 (.t1 (.d (.d (.d .refl))))))).eP 9 1⟩
 refine Ef (EF.alloc aL) fun aTo _=>?_;refine D.n (.t1 (.t1 (.t1 .refl))) ?_;refine Ga 21 ?_;refine Kx (FJ _ _ _ hm _ _ _ _ _ hpl _ RB m hk hmg A dr yK hps) (.cons .p5 (.cons .p4 .nil)) fun z hz=>?_;obtain ⟨oc,e0,l1⟩:=z;dsimp only at hz ⊢;obtain ⟨aEy,he0,G⟩:=hz;obtain ⟨o0,o1,o2,o3,o4,o5,o6,o7,o8,o9,rfl⟩:=aEy;refine D.n (.t3 (.t3 (.t3 .refl))) ?_;refine Dq 2 [22,23,24] ?_;refine Ga 26 ?_;refine Au ?_;refine D.n (.t3 (.t3 (.t3 .refl))) ?_;refine Ds 27 ?_;refine Gd ?_;refine Au ?_;refine GC.cond rfl (fun aM1=>?_) (fun aM1=>?_)
 ·refine Au ?_;refine Gr 13 (.t (.t (.t (.f (.t .e))))) ?_;refine Dq 4 [0,1,2,3,4,5,6,7,8] ?_;refine Ga 9 ?_;refine Kw (.direct eN rfl) (EG _ _ _ _ _ _ _ _ _ _ _ _ _ _ _ _ _ nL ⟨3,0,m.src,⟨#[]⟩,0,11,0,0,0,0,0,0,0⟩ rfl ⟨Nat.zero_le _,(by decide:(-9223372036854775808:Int)≤0),(by decide:(0:Int) < 9223372036854775808)⟩ hms) (.one .p5) fun w hw=>?_;obtain ⟨wv,os⟩:=w;dsimp only at hw ⊢;obtain ⟨⟨wa,wc,rfl⟩,hos⟩:=hw;refine D.n (.t2 (.t2 (.t2 (.t3 .refl)))) ?_;refine Ds 10 ?_;refine Ga 11 ?_;refine Au ?_;refine D.n (.t2 (.t2 (.t2 (.t3 .refl)))) ?_;refine Ds 12 ?_;refine Gd ?_;refine Au ?_;refine Gq fun w h=>?_;refine ⟨⟨.slice wa os.length wc,os,fr,11,0,ms + 1,l1⟩,⟨⟨_,_,rfl⟩,hos,.inr rfl,by dsimp only; omega,Int.le_refl _,G⟩,rfl,h.part (.t0 (.t0 (.t1 (.t0 (.d (.d (.d .refl)))))))⟩
 refine Au ?_;refine GC.aQ rfl (decide_eq_true he0) ?_;refine Au ?_;refine Gq fun w h=>?_;refine ⟨⟨.slice none 0 0,[],0,0,_,ms,_⟩,nN.err G,rfl,(h.part (.t5 (.t1 (.t0 (.d (.d (.d .refl))))))).eP 9 1⟩
end
section
open EV (aC)
def Y0 (k:Int):Nat:=([125,125,126,127,128]:List Nat)[k.toNat]?.getD 125
abbrev tkM:List (Int × Value):=[(1,fv 125),(2,fv 126),(3,fv 127),(4,fv 128)]
theorem JB {k:Int} (h:1≤k∧k≤4):k=1∨k=2∨k=3∨k=4:=by omega
theorem aJl {p:Prop} (h:p:=by
  rintro e w ⟨x,hx,rfl,h⟩;exact ⟨⟨.slice none 0 0,[],0,0,5,ms,l⟩,nN.err .refl,rfl,(h.part (.take .p0 (.take .p1 .refl))).eP 9 1⟩):p:=h
theorem aLq {k:Int} (h:1≤k∧k≤4):Enters Tryz.prog (Y0 k):=by
 rcases JB h with rfl | rfl | rfl | rfl
 ·exact eN
 ·exact eN
 ·exact eN
 exact eN
theorem D5 {k:Int} (h:1≤k∧k≤4):fT .nilFunc (look tkM k)=.func (.func (Y0 k)) #[] #[]:=by
 rcases JB h with rfl | rfl | rfl | rfl <;> rfl
theorem EX.tk {W0:World} {kn:Kn} {L:List aA} {b:Nat} {d g x y ty ps af} {k:Int} (hx:ev kn x=some (.map (some b))) [p:fX L b (aC .i64) tkM] (hy:ev kn y=some (.int .i64 k)) (hk:1≤k∧k≤4):EX Tryz.prog W0 kn L ⟨d,.lookup 195 x y false,ty,ps,af,g⟩ (.func (.func (Y0 k)) #[] #[]):=by
 rw [← D5 hk];exact EX.lk hx hy yI Tryz.underlying195 zV
theorem PG  :
  bQ Tryz.prog 78 [] [] (fun x:Nat=>.map (some x)) (fun x=>[Mp (aC .i64) x tkM]) (fun x=>True):=by
 refine Fg Tryz.func78 Tryz.ntmps78 fun W0 R=>?_;refine Au ?_;refine Ef (EF.makeMap (aC .i64)) fun b1 _=>?_;refine Ed (EV.EU.insert (e:=1) rfl rfl rfl .here yI uN) ?_;refine Ed (EV.EU.insert (e:=2) rfl rfl rfl .here yI uN) ?_;refine Ed (EV.EU.insert (e:=3) rfl rfl rfl .here yI uN) ?_;refine Ed (EV.EU.insert (e:=4) rfl rfl rfl .here yI uN) ?_;refine Au ?_;refine Go fun w h=>?_;exact ⟨b1,trivial,rfl,h.part .refl⟩
theorem aCc (bs bp gp cp gq cq bb bl:Nat) (md mk se ms sp:Int) (bM:ByteArray) (gv:Value) (ps:List Pr) (qs:List (Nat × Nat)) (nL:qs.length≤1000) (m:Mg) (fr now d1 d2:Int) (l:List Tm) (most:Int) (hm:most≤1048576) (hpl:ps.length≤1000) (RB:bM.size≤1000000) (hms:1≤ms∧ms < 127) (A:Int→Prop) (dr:Int) (yK:rA A l dr) (hps:∀ p∈ps,aV A l p.p0∧aV A l p.p1) (hk:1≤m.kind∧m.kind≤4) (hmg:lO m):bQ Tryz.prog (Y0 m.kind) [ptr bp,GM m fr now d1 d2] [Bk bp 79 [ptr bs,.int .i64 md,.int .i64 mk,.slice (some ⟨gp,0,none⟩) ps.length cp,.string bM,.int .i64 20,.int .u64 se,.int .u64 ms,.int .u64 sp,gv,.slice (some ⟨gq,0,none⟩) qs.length cq,.map (some bb),.map (some bl)],Rw 64 4 (.slice (some ⟨gp,0,none⟩) ps.length cp) ps.length (iU ps),Mp (aC .u64) bb [],Mp (aC .u64) bl [],St bs l most] (fun x:Rs=>x.val) (fun x=>[Rw 9 1 x.v x.os.length (strs x.os),Bk bp 79 [ptr bs,.int .i64 md,.int .i64 mk,.slice (some ⟨gp,0,none⟩) ps.length cp,.string bM,.int .i64 20,.int .u64 se,.int .u64 x.ms,.int .u64 sp,gv,.slice (some ⟨gq,0,none⟩) qs.length cq,.map (some bb),.map (some bl)],Rw 64 4 (.slice (some ⟨gp,0,none⟩) ps.length cp) ps.length (iU ps),Mp (aC .u64) bb [],Mp (aC .u64) bl [],St bs x.l most]) (nN most l ms fr):=by
 rcases JB hk with e | e | e | e
 ·rw [show Y0 m.kind=125 by rw [e]; rfl];intro W0 W R hs;refine (UZ _ _ _ _ _ _ _ _ _ _ _ _ _ _ _ _ _  nL m fr now d1 d2 l most hm hpl RB hms A dr yK hps hk hmg W0 W (Mp (aC .u64) bb []::Mp (aC .u64) bl []::R) (hs.part (.take .p0 (.take .p0 (.take .p2 .refl))))).mono ?_;rintro e w ⟨x,hx,rfl,h⟩;exact ⟨x,hx,rfl,h.part (.take .p0 (.take .p0 (.take .p0 (.take .p1 (.take .p1 .refl)))))⟩
 ·rw [show Y0 m.kind=126 by rw [e]; rfl];intro W0 W R hs;refine (UV _ _ _ _ _ _ _ _ _ _ _ _ _ _ _ _ _  nL m fr now d1 d2 W0 W (Rw 64 4 (.slice (some ⟨gp,0,none⟩) ps.length cp) ps.length (iU ps)::Mp (aC .u64) bl []::St bs l most::R) (hs.part (.take .p0 (.take .p1 .refl)))).mono ?_;exact aJl
 ·rw [show Y0 m.kind=127 by rw [e]; rfl];intro W0 W R hs;refine (IE _ _ _ _ _ _ _ _ _ _ _ _ _ _ _ _ _  nL m fr now d1 d2 W0 W (Rw 64 4 (.slice (some ⟨gp,0,none⟩) ps.length cp) ps.length (iU ps)::Mp (aC .u64) bl []::St bs l most::R) (hs.part (.take .p0 (.take .p1 .refl)))).mono ?_;exact aJl
 rw [show Y0 m.kind=128 by rw [e]; rfl];intro W0 W R hs;refine (VG _ _ _ _ _ _ _ _ _ _ _ _ _ _ _ _ _  nL m fr now d1 d2 W0 W (Rw 64 4 (.slice (some ⟨gp,0,none⟩) ps.length cp) ps.length (iU ps)::Mp (aC .u64) bb []::St bs l most::R) (hs.part (.take .p0 (.take .p2 .refl)))).mono ?_;rintro e w ⟨x,hx,rfl,h⟩;exact ⟨⟨.slice none 0 0,[],0,0,5,ms,l⟩,nN.err .refl,rfl,(h.part (.take .p0 (.take .p1 (.take .p1 .refl)))).eP 9 1⟩
end
section
open EV (aC)
theorem aJk {p:Prop} (h:p:=by
  refine Au ?_;refine Gq fun w h=>?_;exact ⟨⟨.slice none 0 0,[],0,0,_,ms,l⟩,⟨nN.err .refl,fun h=>absurd rfl h⟩,rfl,(h.part (.t2 (.t4 (.t4 (.t4 (.t4 (.t0 (.t3 (.d (.d (.d .refl))))))))))).eP 9 1⟩):p:=h
theorem EE (bs bp gp cp gq cq bb bl:Nat) (md mk se ms sp:Int) (bM:ByteArray) (gv:Value) (ps:List Pr) (qs:List (Nat × Nat)) (nL:qs.length≤1000) (l:List Tm) (most:Int) (hm:most≤1048576) (hpl:ps.length≤1000) (RB:bM.size≤1000000) (hms:1≤ms∧ms < 127) (A:Int→Prop) (dr:Int) (yK:rA A l dr) (hps:∀ p∈ps,aV A l p.p0∧aV A l p.p1) (who now d1 d2:Int) (pk:ByteArray) (hpk:pk.size≤1000000) :
  bQ Tryz.prog 30 [ptr bp,.int .i64 who,.string pk,.int .u64 now,.agg #[.int .i64 d1,.int .i64 d2]] [Bk bp 79 [ptr bs,.int .i64 md,.int .i64 mk,.slice (some ⟨gp,0,none⟩) ps.length cp,.string bM,.int .i64 20,.int .u64 se,.int .u64 ms,.int .u64 sp,gv,.slice (some ⟨gq,0,none⟩) qs.length cq,.map (some bb),.map (some bl)],Rw 123 1 (.slice (some ⟨gq,0,none⟩) qs.length cq) qs.length (oH qs),Rw 64 4 (.slice (some ⟨gp,0,none⟩) ps.length cp) ps.length (iU ps),Mp (aC .u64) bb [],Mp (aC .u64) bl [],jO qs,St bs l most] (fun x:Rs=>x.val) (fun x=>[Rw 9 1 x.v x.os.length (strs x.os),Bk bp 79 [ptr bs,.int .i64 md,.int .i64 mk,.slice (some ⟨gp,0,none⟩) ps.length cp,.string bM,.int .i64 20,.int .u64 se,.int .u64 x.ms,.int .u64 sp,gv,.slice (some ⟨gq,0,none⟩) qs.length cq,.map (some bb),.map (some bl)],Rw 123 1 (.slice (some ⟨gq,0,none⟩) qs.length cq) qs.length (oH qs),Rw 64 4 (.slice (some ⟨gp,0,none⟩) ps.length cp) ps.length (iU ps),Mp (aC .u64) bb [],Mp (aC .u64) bl [],jO qs,St bs x.l most]) (fun x=>nN most l ms who x∧(x.os≠[]→0≤who∧who < (qs.length:Int))):=by
 refine Fg Tryz.func30 Tryz.ntmps30 fun W0 R=>?_;refine Au ?_;refine Ef (EF.bV rfl) fun b9 _=>?_;refine Ef (EF.alloc aL) fun b10 _=>?_;refine Au ?_;refine Kx (pU _ _ _ _ _ _ _ _ _ _ _ _ _ _ _ _ _ nL _) (.one .p2) fun zh S5=>?_;refine Au ?_;refine GC.cond rfl (fun c20=>?_) (fun c20=>?_)
 ·refine Au ?_;refine Gq fun w h=>?_;exact ⟨⟨.slice none 0 0,[],0,0,_,ms,l⟩,⟨nN.err .refl,fun h=>absurd rfl h⟩,rfl,(h.part (.t0 (.t2 (.t2 (.t2 (.t2 (.t2 (.t2 (.d (.d .refl)))))))))).eP 9 1⟩
 have hw:=S5.1 (by simpa using c20);obtain ⟨i,rfl⟩:∃ i:Nat,who=(i:Int):=⟨who.toNat,by omega⟩;have hi:i < qs.length:=by omega
 obtain ⟨pb,pl,m1,m2,MO,hqi⟩:=pV hi;refine Au ?_;refine Ky (KY _ hpk) fun zf _=>?_;refine Au ?_;refine Ef (EF.alloc aL) fun b12 _=>?_;refine Au ?_;refine GC.cond rfl (fun c28=>?_) (fun c28=>?_)
 ·refine Au ?_;refine Gq fun w h=>?_;exact ⟨⟨.slice none 0 0,[],0,0,_,ms,l⟩,⟨nN.err .refl,fun h=>absurd rfl h⟩,rfl,(h.part (.t1 (.t3 (.t3 (.t3 (.t3 (.t3 (.t3 (.d (.d (.d .refl))))))))))).eP 9 1⟩
 refine GC.skip (Ze (Zs ?_));refine GC.turn (fun w h=>h.part (.t8 .refl)) ?_;refine GC.turn (fun w h=>jS MO h) ?_;refine Gr 20 (.t (.f (.t (.t (.t (.t (.t (.t (.t (.t (.t (.t .e)))))))))))) ?_;refine Dq 15 [0,1,2,3,4] ?_;refine Dv 5 rfl (fun X=>EX.indexAddr (a:=i) rfl rfl sL (by omega) (by simp)) ?_;refine Dv 6 rfl (fun X=>EX.tU rfl hqi oN) ?_;refine Dq 8 [7,8,9,10,11] ?_;refine Ga 12 ?_;refine Kx (H7 _ _ _ _ _ _) (.one .p1) fun za hza=>?_;refine D.n (.t1 (.t1 (.t1 (.t1 (.t1 (.t1 (.t1 (.t1 (.t1 (.t1 (.t1 .refl))))))))))) ?_;refine Dq 0 [13,14,15,16,17,18,19] ?_;refine Gd ?_;refine Ze (Zs (Zt ?_));refine GL.turn (fun w h=>h.part (.t1 .refl)) ?_;refine GL.turn (fun w h=>lU MO h) ?_;refine Au ?_;refine GL.case 50 rfl (fun g50=>?_) (fun g50=>?_)
 ·refine Au ?_;refine GC.aQ rfl rfl ?_;exact aJk
 refine Au ?_;refine GC.cond rfl (fun c53=>?_) (fun c53=>?_)
 ·exact aJk
 refine Au ?_;refine Kw (.direct eN rfl) (MD _ (by omega)) .nil fun zm QW=>?_;refine Au ?_;refine Ef (EF.alloc aL) fun b16 _=>?_;refine Au ?_;refine GC.cond rfl (fun c62=>?_) (fun c62=>?_)
 ·refine Au ?_;refine Gq fun w h=>?_;exact ⟨⟨.slice none 0 0,[],0,0,_,ms,l⟩,⟨nN.err .refl,fun h=>absurd rfl h⟩,rfl,(h.part (.t3 (.t5 (.t5 (.t5 (.t5 (.t1 (.t4 (.d (.d (.d (.d .refl)))))))))))).eP 9 1⟩
 have hkm:1≤zm.1.kind∧zm.1.kind≤4:=by
  have h0:=QW.2.1 (by simpa using c62);exact ⟨h0.1,h0.2.1⟩
 refine Au ?_;refine Gr 15 (.t (.t (.t (.f (.f (.t (.t .e))))))) ?_;refine Dq 7 [1,2,4,5,6,7,8,9] ?_;refine Ga 0 ?_;refine Ky (PG) fun mt _=>?_;refine D.n (.t1 (.t1 (.t1 (.t3 (.t3 .refl))))) ?_;refine Ga 3 ?_;refine GL.val (EX.tk rfl rfl hkm) rfl rfl (.free rfl) ?_;refine D.n (.t1 (.t1 (.t1 (.t3 (.t3 .refl))))) ?_;refine Ga 10 ?_;refine K.x (EC.closure rfl (aLq hkm) rfl) (aCc _ _ _ _ _ _ _ _ _ _ _ _ _ _ _ _ _  nL _ _ _ _ _ _ _ hm hpl RB hms A dr yK hps hkm QW.1) (.cons .p4 (.cons .p7 (.cons .p7 (.cons .p7 (.cons .p7 .nil))))) (fun _=>(.c (.c (.a4)))) rfl rfl (.free rfl) (fun zt mY=>?_);obtain ⟨tv,tos,TF,tco,te,tms,tl⟩:=zt;unfold nN at mY;dsimp only at mY ⊢;obtain ⟨⟨ta,tc,rfl⟩,aRs⟩:=mY;refine D.n (.t7 (.t7 (.t7 (.t8 (.t8 .refl))))) ?_;refine Dq 2 [11,12] ?_;refine Ga 13 ?_;refine Au ?_;refine D.n (.t7 (.t7 (.t7 (.t8 (.t8 .refl))))) ?_;refine Ds 14 ?_;refine Gd ?_;refine Au ?_;refine Gq fun w h=>?_;exact ⟨⟨.slice ta tos.length tc,tos,TF,tco,te,tms,tl⟩,⟨⟨⟨_,_,rfl⟩,aRs⟩,fun _=>hw⟩,rfl,(h.part (.t0 (.t0 (.pL (.t0 (.t0 (.t0 (.t3 (.t0 (.d (.d (.d (.d (.d .refl))))))))))))))⟩
end
section
open EV (aC)
structure Pk where
 a:Int
 b:Int
 s:ByteArray
def pkc (p:Pk):List Value:=[.int .i64 p.a,.int .i64 p.b,.string p.s]
def hP (l:List Pk):List Value:=l.flatMap pkc
theorem H5 (l:List Pk) (p:Pk):hP (l++[p])=hP l++pkc p:=by simp [hP]
theorem aJj {p:Prop} (h:p:=by
  refine Au ?_;refine Go fun w h=>?_;simp only [dB,ne_eq,dC] at *;refine ⟨_,?_,rfl,h.part .refl⟩;first
  | (rw [if_pos (by omega)]; done)
  | (rw [if_neg (by omega)]; done)):p:=h
theorem aD7 {p:Prop} (h:p:=by
  refine Au ?_;refine Go fun w h=>?_;simp only [dB,ne_eq,dC] at *;refine ⟨_,fun hx=>?_,rfl,h.part .refl⟩;first
  | (cases hx; done)
  | exact ⟨hzi.1 (by simp_all),hzj.1 (by simp_all),by simpa using hx⟩):p:=h
theorem aJi {p:Prop} (h:p:=by
  refine Au ?_;refine Go fun w h=>?_;simp only [dB,ne_eq,dC] at *;refine ⟨_,?_,rfl,h.part .refl⟩;first
  | (simp only [decide_eq_true_eq]; omega)
  | exact ⟨fun h=>(by cases h),fun h=>(by omega)⟩):p:=h
theorem aJh {p:Prop} (h:p:=by
  refine Au ?_;refine GC.cond rfl (fun c7=>?_) (fun c7=>?_)
  ·refine Au ?_;refine La ?_;exact aJj
  exact aJj):p:=h
theorem aHt {l:List Pk} {k:Nat} (hk:k < l.length):∀ j,j < 3→(hP l)[k * 3 + j]?=(pkc l[k])[j]?:=by
 intro j hj;induction l generalizing k with
 | nil=>simp at hk
 | cons x l ih =>
  have e:hP (x::l)=pkc x++hP l:=rfl;have h6:(pkc x).length=3:=rfl;rw [e];cases k with
  | zero=>rw [List.getElem?_append_left (by omega),Nat.zero_mul,Nat.zero_add]; rfl
  | succ k =>
   rw [List.getElem?_append_right (by omega),h6,show (k + 1) * 3 + j - 3=k * 3 + j by omega];exact ih (by simpa using hk)
theorem AV (bw bs gw cw bk n sn sc:Nat) (sa:Option Addr) (now drawn:Int) (f0 f1:Bool) (at_:Int) :
  bQ Tryz.prog 99 [ptr bw,.int .i64 at_] [Bk bw 142 [ptr bs,.slice (some ⟨gw,0,none⟩) n cw,.int .u64 now,.int .u64 drawn,.slice sa sn sc,.slice none 0 0,.map (some bk),.bool f0,.bool f1]] (fun x:Bool=>.bool x) (fun x=>[Bk bw 142 [ptr bs,.slice (some ⟨gw,0,none⟩) n cw,.int .u64 now,.int .u64 drawn,.slice sa sn sc,.slice none 0 0,.map (some bk),.bool f0,.bool f1]]) (fun x=>x=true↔0≤at_∧at_ < (n:Int)):=by
 refine Fg Tryz.func99 Tryz.ntmps99 fun W0 R=>?_;refine Au ?_;refine GL.case 7 rfl (fun g7=>?_) (fun g7=>?_)
 ·exact aJi
 exact aJi
theorem uK (bw bs gw cw bk n sn sc:Nat) (sa:Option Addr) (now drawn:Int) (f0 f1:Bool) (a b:Int) :
  bQ Tryz.prog 40 [ptr bw,.int .i64 a,.int .i64 b] [Bk bw 142 [ptr bs,.slice (some ⟨gw,0,none⟩) n cw,.int .u64 now,.int .u64 drawn,.slice sa sn sc,.slice none 0 0,.map (some bk),.bool f0,.bool f1]] (fun x:Bool=>.bool x) (fun x=>[Bk bw 142 [ptr bs,.slice (some ⟨gw,0,none⟩) n cw,.int .u64 now,.int .u64 drawn,.slice sa sn sc,.slice none 0 0,.map (some bk),.bool f0,.bool f1]]) (fun x=>x=true→(0≤a∧a < (n:Int))∧(0≤b∧b < (n:Int))∧a≠b):=by
 refine Fg Tryz.func40 Tryz.ntmps40 fun W0 R=>?_;refine Au ?_;refine Kx (AV _ _ _ _ _ _ _ _ _ _ _ _ _ _) (.one .p0) fun zi hzi=>?_;refine Au ?_;refine GL.case 10 rfl (fun g10=>?_) (fun g10=>?_)
 ·refine Au ?_;refine K.x (EC.direct eN rfl) (AV _ _ _ _ _ _ _ _ _ _ _ _ _ _) (.one .p0) (fun _=>.a1) rfl rfl (.guard rfl rfl rfl rfl g10) (fun zj hzj=>?_);refine Au ?_;refine GL.case 15 rfl (fun g15=>?_) (fun g15=>?_)
  ·exact aD7
  exact aD7
 exact aD7
theorem gU (at_ of_:Int) (h:0≤at_∧at_ < 100∧0≤of_∧of_ < 100) :
  bQ Tryz.prog 42 [.int .i64 at_,.int .i64 of_] [] (fun x:Int=>.int .i64 x) (fun x=>[]) (fun x=>x=if of_ > at_ then of_ - 1 else of_):=by
 refine Fg Tryz.func42 Tryz.ntmps42 fun W0 R=>?_;exact aJh
theorem KL (at_ pl:Int) (h:0≤at_∧at_ < 100∧0≤pl∧pl < 100) :
  bQ Tryz.prog 170 [.int .i64 at_,.int .i64 pl] [] (fun x:Int=>.int .i64 x) (fun x=>[]) (fun x=>x=if pl ≥ at_ then pl + 1 else pl):=by
 refine Fg Tryz.func170 Tryz.ntmps170 fun W0 R=>?_;exact aJh
theorem iG (bw bs gw cw bk n sn sc:Nat) (sa:Option Addr) (now drawn:Int) (f0 f1:Bool) (l:List Tm) (most:Int) (hm:most≤1048576) (hdr:0≤drawn∧drawn≤1000000) :
  bQ Tryz.prog 87 [ptr bw] [Bk bw 142 [ptr bs,.slice (some ⟨gw,0,none⟩) n cw,.int .u64 now,.int .u64 drawn,.slice sa sn sc,.slice none 0 0,.map (some bk),.bool f0,.bool f1],St bs l most] (fun x:Unit=>.int .i64 (dR l most drawn).1) (fun x=>[Bk bw 142 [ptr bs,.slice (some ⟨gw,0,none⟩) n cw,.int .u64 now,.int .u64 (drawn + 1),.slice sa sn sc,.slice none 0 0,.map (some bk),.bool f0,.bool f1],St bs (dR l most drawn).2 most]) (fun x=>True):=by
 refine Fg Tryz.func87 Tryz.ntmps87 fun W0 R=>?_;refine Au ?_;refine Lu rfl (EX.add rfl rfl (wu (by omega))) ?_;refine Au ?_;refine Gr 15 (.t .e) ?_;refine Dq 6 [0,1,2,3,4,5,6,7,8] ?_;refine Ga 9 ?_;refine Kc (BJ _ _ _ _ _ _ _ _ _ hm) (.one .p1) ?_;refine D.n (.t1 .refl) ?_;refine Dq 0 [10,11,12,13,14] ?_;refine Gd ?_;refine Au ?_;refine Go fun w h=>?_;exact ⟨(),trivial,rfl,h.part (.t1 .refl)⟩
end
section
theorem aJg {p:Prop} (h:p:=by
  refine Zt ?_;refine Lr.jF (.a rfl (.a rfl .s)) rfl ?_;refine GC.ret (GE.iH ?_);refine GE.outs rfl rfl rfl (fun w h=>?_);exact ⟨_,trivial,rfl,h.part .refl⟩):p:=h
theorem OV (ad:Option Addr) (c:Nat) :
  bQ Tryz.prog 139 [.slice ad 0 c] [] (fun x:Int=>.tuple #[.string ⟨#[]⟩,.int .i64 x]) (fun x=>[]) (fun x=>True):=by
 refine Fn.go Tryz.func139 rfl Tryz.ntmps139 rfl (fun W0 R=>?_);refine GC.app .a0 ?_;refine Zt ?_;refine Lr.jF (.a rfl (.a rfl .s)) rfl (Zs (Zt ?_));refine Lr.run (.m rfl (.v (EX.rT rfl uN) rfl rfl (.v (EX.lss rfl rfl) rfl rfl (.m rfl .s)))) rfl ?_;refine GL.case 10 rfl (fun g10=>?_) (fun g10=>?_)
 ·refine Lr.jF (.o rfl (.q g10) (.o rfl (.q g10) (.o rfl (.q g10) (.v (EX.vX rfl g10 rfl) rfl rfl .s)))) rfl ?_;refine GC.aQ rfl rfl ?_;exact aJg
 refine Lr.jF (.g (EX.move rfl) rfl (.q g10) (.g (EX.rT rfl uN) rfl (.q g10) (.g (EX.gtr rfl rfl) rfl (.q g10) (.v (EX.lG rfl g10 rfl) rfl rfl .s)))) rfl ?_;refine GC.cond rfl (fun c14=>?_) (fun c14=>?_)
 ·exact aJg
 exfalso;simp_all
theorem WY (x0:ByteArray) (h0:x0.size=0) (hz0:x0.size≤1000000) :
  bQ Tryz.prog 27 [.string x0] [] (fun x:Int=>.tuple #[CY mg0,.int .i64 x]) (fun x=>[]) (fun x=>True):=by
 refine Fg Tryz.func27 Tryz.ntmps27 fun W0 R=>?_;refine Au ?_;refine Ef (EF.alloc aL) fun b2 _=>?_;refine Au ?_;refine GC.cond rfl (fun c12=>?_) (fun c12=>?_)
 ·exfalso;simp only [decide_eq_true_eq] at c12;omega
 refine Au ?_;refine Ky (pK _ _ hz0) fun z hz=>?_;refine Au ?_;refine GC.aQ rfl (decide_eq_true (fun h=>by have:=hz.2.1 h; omega)) ?_;refine Au ?_;refine Gq fun w h=>?_;exact ⟨_,trivial,rfl,h.part (.d .refl)⟩
def F9 (fs:List Fr):Prop:=∃ (A:UInt8) (p:ByteArray),fs=[⟨A.toNat,0,1,p⟩]∧1≤A.toNat∧A.toNat < 128∧1≤p.size∧p.size≤1000∧W7 p 0 3
def aHo (s:ByteArray):Prop:=s.size≤1000000∧(s.size=0∨W7 s 0 3)
theorem OU (ad:Option Addr) (c:Nat) (fs:List Fr) (h:fs=[]∨F9 fs) :
  bQ Tryz.prog 139 [.slice ad fs.length c] [Rw 96 4 (.slice ad fs.length c) fs.length (uJ fs)] (fun x:ByteArray × Int=>.tuple #[.string x.1,.int .i64 x.2]) (fun x=>[Rw 96 4 (.slice ad fs.length c) fs.length (uJ fs)]) (fun x=>aHo x.1):=by
 rcases h with rfl | ⟨A,p,rfl,h1,h2,h3,h4,h5⟩
 ·intro W0 W R hs;refine (OV ad c W0 W _ hs).mono ?_;rintro e w ⟨x,_,rfl,h'⟩;exact ⟨(⟨#[]⟩,x),⟨Nat.zero_le _,.inl rfl⟩,rfl,h'⟩
 refine (TR ad c _ (by simp)).weaken fun x hx=>⟨x,?_,rfl,rfl⟩;have e:=hx.2 ⟨A.toNat,0,1,p⟩ rfl rfl rfl ⟨by dsimp only; omega,by dsimp only; omega,by dsimp only; omega,by dsimp only; omega,by dsimp only; omega,by dsimp only; omega,h3,h4⟩;rw [e];exact ⟨by dsimp only; omega,.inr h5⟩
theorem WX (x0:ByteArray) (h:aHo x0) :
  bQ Tryz.prog 27 [.string x0] [] (fun x:Mg × Int=>.tuple #[CY x.1,.int .i64 x.2]) (fun x=>[]) (fun x=>x.1.kind=0∨x.1.kind=3):=by
 obtain ⟨hz,h | h⟩:=h
 ·exact (WY x0 h hz).weaken fun x _=>⟨(mg0,x),.inl rfl,rfl,rfl⟩
 exact (MD x0 hz).weaken fun x hx=>⟨x,(hx.2.2 3 h rfl).symm,rfl,rfl⟩
theorem F8 {t:ByteArray} {z:Int × Int × Int × ByteArray × Int} (hr:OA t) (hz:∀ (A B D:UInt8) (q:List UInt8),t.data.toList=A::B::D::q→A.toNat < 128→B.toNat < 128→D.toNat < 128→(1≤A.toNat∧1≤D.toNat∧D.toNat≤16∧B.toNat < D.toNat∧1≤q.length∧q.length≤1000)→z=((A.toNat:Int),(B.toNat:Int),(D.toNat:Int),t.extract 3 t.size,0)) :
  ∃ (A:UInt8) (p:ByteArray),z=((A.toNat:Int),0,1,p,0)∧F9 [⟨A.toNat,0,1,p⟩]:=by
 obtain ⟨A,q,hd,h1,h2,h3⟩:=hr;have e:=hz A 0 1 (3::q) hd h1 (by decide) (by decide) ⟨h2,by decide,by decide,by decide,by simp,by simp; omega⟩;have hl:t.size=q.length + 4:=by
  have:t.data.toList.length=t.size:=by rw [Array.length_toList]; rfl
  rw [← this,hd]; rfl
 refine ⟨A,t.extract 3 t.size,e,A,t.extract 3 t.size,rfl,h2,h1,?_,?_,Int.le_refl _,?_⟩
 ·rw [ByteArray.size_extract]; omega
 ·rw [ByteArray.size_extract]; omega
 rw [ByteArray.data_extract,Array.toList_extract,hd];simp [List.extract,hl]
theorem OA.size {t:ByteArray} (hr:OA t):t.size≤1000:=by
 obtain ⟨A,q,hd,h1,h2,h3⟩:=hr;have:t.data.toList.length=t.size:=by rw [Array.length_toList]; rfl
 rw [← this,hd];simp only [List.length_cons]; omega
end
section
section
variable {W0 w:World} {L:List aA} {v:Value} {sent:List Pk} {a b:Int} {s:ByteArray}
theorem aBp (h:aB W0 w (Rw 291 3 v (sent.length + 1) (hP sent++[.int .i64 a,.int .i64 b,.string s])::L)):aB W0 w (Rw 291 3 v (sent++[(⟨a,b,s⟩:Pk)]).length (hP (sent++[(⟨a,b,s⟩:Pk)]))::L):=by
 rw [List.length_append,H5]; exact h
end
theorem DF (bw bs gw cw bk n sc:Nat) (sa:Option Addr) (now drawn:Int) (f0 f1:Bool) (sent:List Pk) (hsn:sent.length≤1000) (fr TG:Int) (oa:Option Addr) (oc:Nat) (os:List ByteArray) (hos:os=[]∨∃ t,os=[t]∧OA t) :
  bQ Tryz.prog 137 [ptr bw,.int .i64 fr,.int .i64 TG,.slice oa os.length oc] [Bk bw 142 [ptr bs,.slice (some ⟨gw,0,none⟩) n cw,.int .u64 now,.int .u64 drawn,.slice sa sent.length sc,.slice none 0 0,.map (some bk),.bool f0,.bool f1],Rw 9 1 (.slice oa os.length oc) os.length (strs os),Rw 291 3 (.slice sa sent.length sc) sent.length (hP sent)] (fun x:Value × List Pk=>.int .i64 (os.length:Int)) (fun x=>[Bk bw 142 [ptr bs,.slice (some ⟨gw,0,none⟩) n cw,.int .u64 now,.int .u64 drawn,x.1,.slice none 0 0,.map (some bk),.bool f0,.bool f1],Rw 291 3 x.1 x.2.length (hP x.2)]) (fun x=>Sl x.2.length x.1∧x.2=sent++os.map fun t=>(⟨fr,TG,t⟩:Pk)):=by
 refine Fg Tryz.func137 Tryz.ntmps137 fun W0 R=>?_;refine Zt ?_;refine Lu rfl (EX.assign rfl) ?_;refine Zn (Zt ?_);refine Lu rfl (EX.assign rfl) ?_;refine Zn (Zs (Zt ?_));refine Lr.run (.m rfl (.v (EX.rT rfl uN) rfl rfl (.m rfl .s))) rfl ?_;refine Zn (GC.block ?_);refine GC.turn (fun w h=>h.eP 96 4) ?_;refine GC.lp (σ:=Nat × Value × List Fr × Value × List Pk) (fun s=>[(22,.int .i64 (s.1:Int)),(21,.int .i64 (os.length:Int)),(20,.slice oa os.length oc),(9,s.2.1),(0,ptr bw),(1,.int .i64 fr),(2,.int .i64 TG),(3,.slice oa os.length oc)]) (fun s=>Rw 96 4 s.2.1 s.2.2.1.length (uJ s.2.2.1)::Bk bw 142 [ptr bs,.slice (some ⟨gw,0,none⟩) n cw,.int .u64 now,.int .u64 drawn,s.2.2.2.1,.slice none 0 0,.map (some bk),.bool f0,.bool f1]::Rw 9 1 (.slice oa os.length oc) os.length (strs os)::Rw 291 3 s.2.2.2.1 s.2.2.2.2.length (hP s.2.2.2.2)::R) (fun s=>s.1≤os.length∧Sl s.2.2.1.length s.2.1∧Sl s.2.2.2.2.length s.2.2.2.1∧(s.1=0∧s.2.2.1=[]∧s.2.2.2.2=sent∨s.1=1∧F9 s.2.2.1∧s.2.2.2.2=sent++os.map fun t=>(⟨fr,TG,t⟩:Pk))) (fun s=>os.length - s.1) (0,.slice none 0 0,[],.slice sa sent.length sc,sent) (.c rfl (.c rfl (.c rfl (.c rfl (.c rfl (.c rfl (.c rfl (.c rfl .n)))))))) .refl (⟨Nat.zero_le _,⟨_,_,rfl⟩,⟨_,_,rfl⟩,.inl ⟨rfl,rfl,rfl⟩⟩) (fun s hs=>?_);obtain ⟨k,pv,fs,sv,s2⟩:=s;dsimp only at hs;obtain ⟨hk,⟨pa,pc,rfl⟩,⟨va,vc,rfl⟩,hcase⟩:=hs;refine Au ?_;refine GC.cond rfl (fun c23=>?_) (fun c23=>?_)
 ·simp only [decide_eq_true_eq] at c23;obtain ⟨t,rfl,hrt⟩:=hos.resolve_left (by rintro rfl; simp at c23; omega);obtain ⟨rfl,rfl,rfl⟩:k=0∧fs=[]∧s2=sent:=(by rcases hcase with h | ⟨h,_⟩; exact h; rw [h] at c23; simp at c23);refine GC.know (fun w h=>h.dV .p2 Nat.one_pos) (fun hg=>?_);obtain ⟨go,rfl⟩:=hg;refine Au ?_;refine Lu rfl (EX.indexAddr (a:=0 * 1) rfl rfl sL ⟨Int.le_refl _,Int.zero_lt_one⟩ rfl) ?_;refine Lu rfl (EX.tU rfl (show (strs [t])[0 * 1]?=some (.string t) from rfl) oN) ?_;refine Au ?_;refine Kw (.direct eN rfl) (KY _ (Nat.le_trans hrt.size (by decide))) .nil fun zf hzf=>?_;obtain ⟨A,p,rfl,hrf⟩:=F8 hrt hzf;refine Au ?_;refine Ef (EF.alloc aL) fun b12 _=>?_;refine Au ?_;refine Ef (EF.buildSlice rfl bS rfl rfl rfl) fun b33 _=>?_;refine Ef (EF.append rfl rfl NV (fun v=>.there (.there (.here))) .p0 (rfl) (rfl) (by dsimp only [List.length]; unfold maxLen; omega) (by dsimp only [List.length]; omega)) fun v34 hv34=>?_;obtain ⟨aS2,aSo,rfl⟩:=hv34;refine Au ?_;refine Ef (EF.buildSlice rfl bS rfl rfl rfl) fun b44 _=>?_;refine Ef (EF.append rfl rfl NV (fun v=>.there (.there (.there (.there (.there (.there (.here))))))) .p0 (rfl) (rfl) (by dsimp only; unfold maxLen; omega) (by dsimp only; omega)) fun v45 aRx=>?_;obtain ⟨aSz,aSl,rfl⟩:=aRx;refine Au ?_;refine La ?_;refine Lr.run (.m rfl .s) rfl ?_;refine (GL.nil ?_);refine GE.turn (fun w h=>h.part (.t6 .refl)) ?_;refine GE.turn (fun w h=>aBp h) ?_;exact GE.ag (1,.slice aS2 1 aSo,[⟨A.toNat,0,1,p⟩],.slice aSz (s2.length + 1) aSl,s2++[⟨fr,TG,t⟩]) (.c (by rw [← Int.natCast_succ]; rfl) (.c rfl (.c rfl (.c rfl (.c rfl (.c rfl (.c rfl (.c rfl .n)))))))) (.t4 (.t4 (.t4 (.t0 (.d (.d (.d .refl))))))) (Nat.sub_lt_sub_left (Nat.one_pos) (Nat.one_pos)) (⟨Nat.le_refl _,⟨_,_,rfl⟩,⟨_,_,by rw [List.length_append]; rfl⟩,.inr ⟨rfl,hrf,rfl⟩⟩)
 simp only [decide_eq_false_iff_not] at c23;have hF:fs=[]∨F9 fs:=hcase.elim (fun h=>.inl h.2.1) (fun h=>.inr h.2.1);refine Au ?_;refine Kx (OU _ _ _ hF) (.one .p0) fun zj hzj=>?_;refine Au ?_;refine Ky (WX _ hzj) fun zm QW=>?_;refine Au ?_;refine Ef (EF.alloc aL) fun b16 _=>?_;refine Au ?_;refine Ky (QC _ QW) fun _ _=>?_;refine Au ?_;refine GC.lp (σ:=Unit) (fun s=>[(62,.int .i64 0),(61,.int .i64 0),(0,ptr bw),(3,.slice oa os.length oc)]) (fun s=>Bk bw 142 [ptr bs,.slice (some ⟨gw,0,none⟩) n cw,.int .u64 now,.int .u64 drawn,(.slice va s2.length vc),.slice none 0 0,.map (some bk),.bool f0,.bool f1]::Rw 291 3 (.slice va s2.length vc) s2.length (hP s2)::R) (fun s=>True) (fun s=>0) () (.c rfl (.c rfl (.c rfl (.c rfl .n)))) (.t2 (.t3 (.d (.d (.d .refl))))) (trivial) (fun s hs=>?_);refine Au ?_;refine GC.bH rfl rfl ?_;refine Au ?_;refine Go fun w h=>?_;refine ⟨(.slice va s2.length vc,s2),⟨⟨_,_,rfl⟩,?_⟩,rfl,h.part .refl⟩;rcases hcase with h | h
 ·obtain rfl:os=[]:=List.length_eq_zero_iff.1 (by omega);rw [h.2.2]; exact (List.append_nil _).symm
 exact h.2.2
end
section
open EV (aC)
structure Po where
 bp:Nat
 gp:Nat
 cp:Nat
 gq:Nat
 cq:Nat
 bb:Nat
 bl:Nat
 md:Int
 Z8:Int
 se:Int
 ms:Int
 sp:Int
 bM:ByteArray
 gv:Value
 ps:List Pr
 qs:List (Nat × Nat)
def PoL (bs:Nat):Po→List aA
 | ⟨bp,gp,cp,gq,cq,bb,bl,md,mk,se,ms,sp,bM,gv,ps,qs⟩=>[Bk bp 79 [ptr bs,.int .i64 md,.int .i64 mk,.slice (some ⟨gp,0,none⟩) ps.length cp,.string bM,.int .i64 20,.int .u64 se,.int .u64 ms,.int .u64 sp,gv,.slice (some ⟨gq,0,none⟩) qs.length cq,.map (some bb),.map (some bl)],Rw 123 1 (.slice (some ⟨gq,0,none⟩) qs.length cq) qs.length (oH qs),Rw 64 4 (.slice (some ⟨gp,0,none⟩) ps.length cp) ps.length (iU ps),Mp (aC .u64) bb [],Mp (aC .u64) bl [],jO qs]
def SP (bs:Nat) (q:Po):aA:=aA.all (PoL bs q)
def pos (bs:Nat) (l:List Po):aA:=aA.all (l.map (SP bs))
section
variable {W0 W:World} {L:List aA} {bs:Nat} {q:Po} {m1 m2 zs:List Po}
theorem fR (e:zs=m1++q::m2) (h:aB W0 W (pos bs zs::L)):aB W0 W (PoL bs q++(pos bs (m1++m2)::L)):=by
 subst e;unfold pos at *;have h1:=h.hU;have p:(((m1++q::m2).map (SP bs))++L).Perm (SP bs q::(((m1++m2).map (SP bs))++L)):=by
  simp only [List.map_append,List.map_cons,List.append_assoc,List.cons_append];exact List.perm_middle
 have h2:=(h1.perm p).perm (List.perm_middle (l₁:=(m1++m2).map (SP bs)) (a:=SP bs q) (l₂:=L)).symm;exact aB.hU (M:=PoL bs q) (aB.eX h2).p1
theorem iC (h:aB W0 W (PoL bs q++(pos bs (m1++m2)::L))):aB W0 W (pos bs (m1++q::m2)::L):=by
 have h0:aB W0 W (SP bs q::pos bs (m1++m2)::L):=aB.eX (M:=PoL bs q) h;unfold pos at *;have h1:aB W0 W (((m1++m2).map (SP bs))++(SP bs q::L)):=h0.p1.hU;have p:(((m1++m2).map (SP bs))++(SP bs q::L)).Perm (((m1++q::m2).map (SP bs))++L):=by
  simp only [List.map_append,List.map_cons,List.append_assoc,List.cons_append];exact List.Perm.append_left _ List.perm_middle
 exact (h1.perm p).eX
theorem pos_at {aH:List Nat} (hb:zs.map (·.bp)=aH) {i:Nat} (hi:i < aH.length):∃ q z1 z2,zs=z1++q::z2∧(aH.map ptr)[i]?=some (ptr q.bp)∧z1.length=i:=by
 subst hb;simp only [List.length_map] at hi;refine ⟨zs[i],zs.take i,zs.drop (i + 1),by rw [List.getElem_cons_drop,List.take_append_drop],?_,?_⟩
 ·simp [hi]
 rw [List.length_take]; omega
end
structure WS where
 sa:Option Addr
 sc:Nat
 sent:List Pk
 now:Int
 drawn:Int
 f0:Bool
 f1:Bool
 zs:List Po
 l:List Tm
 aD:List (Int × Value)
structure tA (A:Int→Prop) (k:Nat) (l:List Tm) (n:Nat) (q:Po):Prop where
 qn:q.qs.length + 1=n
 pn:q.ps.length + 1=n
 bM:q.bM.size≤100
 ms0:1≤q.ms
 ms1:q.ms≤(k:Int) + 1
 md:aV A l q.md
 Z8:aV A l q.Z8
 ps:∀ p∈q.ps,aV A l p.p0∧aV A l p.p1
structure cL (A:Int→Prop) (k:Nat) (aH:List Nat) (w:WS):Prop where
 n2:2≤aH.length∧aH.length≤3
 bp:w.zs.map (·.bp)=aH
 po:∀ q∈w.zs,tA A k w.l aH.length q
 sec:rA A w.l w.drawn
 dr:0≤w.drawn∧w.drawn≤100 + 2 * (k:Int)
 ln:(w.l.length:Int)≤65536
 sn:w.sent.length≤k
 pk:∀ p∈w.sent,(0≤p.a∧p.a < (aH.length:Int))∧(0≤p.b∧p.b < (aH.length:Int))∧OA p.s
 k1:1≤w.aD.length∧w.aD.length≤6 + k
 kn:∀ e∈w.aD,e.1=0∨Safe A w.l e.1
theorem tA.up {A A':Int→Prop} {k:Nat} {l r:List Tm} {n:Nat} {q:Po} (h:tA A k l n q) (hA:∀ x,aV A l x→aV A' (l++r) x):tA A' (k + 1) (l++r) n q :=
 ⟨h.qn,h.pn,h.bM,h.ms0,by have:=h.ms1; omega,hA _ h.md,hA _ h.Z8,fun p hp=>⟨hA _ (h.ps p hp).1,hA _ (h.ps p hp).2⟩⟩
theorem cL.step {A:Int→Prop} {k:Nat} {aH:List Nat} {w:WS} (h:cL A k aH w) {sa:Option Addr} {sc:Nat} {sent:List Pk} {now d:Int} {f0 f1:Bool} {zs:List Po} {l:List Tm} (r:List Tm) (hl:l=w.l++r) (hs:rA A l d) (hd:0≤d∧d≤w.drawn + 2) (hn:(l.length:Int)≤65536)
  (hb:zs.map (·.bp)=aH) (hp:∀ q∈zs,tA A (k + 1) l aH.length q) (hsn:sent=w.sent∨∃ p,sent=w.sent++[p]∧(0≤p.a∧p.a < (aH.length:Int))∧(0≤p.b∧p.b < (aH.length:Int))∧OA p.s):cL A (k + 1) aH ⟨sa,sc,sent,now,d,f0,f1,zs,l,w.aD⟩:=by
 refine ⟨h.n2,hb,hp,hs,by have:=h.dr; dsimp only; omega,hn,?_,?_,by have:=h.k1; dsimp only; omega,fun e he=>(h.kn e he).imp id fun h9=>hl ▸ h9.app⟩
 ·have:=h.sn;rcases hsn with e | ⟨p,e,_⟩
  ·rw [e]; dsimp only; omega
  rw [e]; simp only [List.length_append,List.length_cons,List.length_nil]; omega
 rcases hsn with e | ⟨p,e,h9⟩
 ·rw [e]; exact h.pk
 rw [e]; intro p' hp';rcases List.mem_append.1 hp' with h1 | h1
 ·exact h.pk p' h1
 rw [List.mem_singleton.1 h1]; exact h9
structure Gt where
 pe:Int
 h:Int
 oa:Option Addr
 on:Nat
 oc:Nat
 code:Int
 cnt:Int
 e:Int
abbrev Gt.val (g:Gt):Value:=.tuple #[.agg #[.int .i64 g.pe,.string ⟨#[]⟩,.bool false,.int .i64 g.h,.slice g.oa g.on g.oc,.int .i64 g.code],.int .i64 g.cnt,.int .i64 g.e]
end
end Go.Proofs.YtadggjnohohedaaGreatDoor
