/- TopAlone: for every input the call returns true; part A5 of the proof. -/
import Derived.Test.YtadggjnohohedaaGreatDoorA4
set_option linter.unusedVariables false
set_option linter.unusedSimpArgs false
set_option linter.unusedSectionVars false
set_option maxRecDepth 1000000
open Go.RowKit
namespace Go.Proofs.YtadggjnohohedaaGreatDoor
section
theorem Q8 {p:Prop} (h:p:=by
  refine Au ?_;refine Go fun w h=>?_;refine ⟨_,?_,rfl,h.part .refl⟩;first
  | exact fun h=>by cases h
  | (simp only [dB] at *; intro h; omega)
  | (intro h; simp at *; omega)):p:=h
theorem Q7 {p:Prop} (h:p:=by
  refine Au ?_;refine Gs fun w h=>?_;refine ⟨(_,_),?_,rfl,h.part .refl⟩;first | exact .inl rfl | exact .inr (.inl rfl) | exact .inr (.inr rfl)):p:=h
theorem aKj {p:Prop} (h:p:=by
  refine Au ?_;refine Go fun w h=>?_;refine ⟨_,?_,rfl,h.part .refl⟩;first
  | exact Nat.zero_le _
  | (dsimp only; omega)):p:=h
theorem SA (s:ByteArray) (c:UInt8):AP s++[.int .u8 (c.toNat:Int)]=AP (s.push c):=by
 unfold AP;have e:(s.push c).data.toList=s.data.toList++[c]:=by
  show (s.data.push _).toList=_;simp
 rw [e,List.map_append,List.map_cons,List.map_nil]
theorem H0 {W0 w:World} {T:aA} {R:List aA} {a:Option Addr} {c:Nat} {s:ByteArray} {ch:UInt8} (h:aB W0 w (T::Rw 5 1 (.slice a (s.size + 1) c) (s.size + 1) (AP s++[.int .u8 (ch.toNat:Int)])::R)) :
  aB W0 w (T::Rw 5 1 (.slice a (s.push ch).size c) (s.push ch).size (AP (s.push ch))::R):=by rw [size_push,← SA]; exact h
theorem WN {s:ByteArray} (h:¬ s=⟨#[]⟩):0 < s.size:=by
 rcases Nat.eq_zero_or_pos s.size with h0 | h0
 ·refine (h ?_).elim;cases s with
  | mk d=>have:d.size=0:=h0; rw [Array.size_eq_zero_iff.1 this]
 ·exact h0
theorem S1 (s:ByteArray) (c:Int):bQ Tryz.prog 213 [.string s,.int .u8 c] [] (fun x:Int=>.int .i64 x) (fun _=>[]) (fun _=>True):=fun W0 W R hs =>
 (EV.YF s c W).mono (by rintro e w' ⟨rfl,rfl⟩; exact ⟨_,trivial,rfl,hs⟩)
theorem jU (x0:ByteArray) (hz:x0.size≤1000000) :
  bQ Tryz.prog 52 [.string x0] [] (fun x:Bool=>.bool x) (fun x=>[]) (fun x=>x=true→1≤x0.size∧x0.size≤8):=by
 refine Fg Tryz.func52 Tryz.ntmps52 fun W0 R=>?_;refine Au ?_;refine GC.lp (σ:=Nat × Int) (fun s=>[(8,.int .i64 (s.1:Int)),(7,.int .i64 (x0.size:Int)),(0,.string x0),(3,.int .i64 s.2)]) (fun s=>R) (fun s=>s.1≤x0.size) (fun s=>x0.size - s.1) (0,256) (.c rfl (.c rfl (.c rfl (.c rfl .n)))) .refl (Nat.zero_le _) (fun s hs=>?_);refine Au ?_;refine GC.cond rfl (fun c9=>?_) (fun c9=>?_)
 ·simp only [decide_eq_true_eq] at c9;refine Au ?_;refine Lu rfl (EX.sB rfl rfl uN (by omega)) ?_;refine Lu rfl (EX.conv rfl uN uN (wi8 _)) ?_;refine Au ?_;refine GL.case 17 rfl (fun g17=>?_) (fun g17=>?_)
  ·refine Au ?_;refine GC.aQ rfl rfl ?_;exact Q8
  refine Au ?_;refine GC.cond rfl (fun c21=>?_) (fun c21=>?_)
  ·exact Q8
  refine Au ?_;refine La ?_;refine Au ?_;exact GE.ag (s.1 + 1,_) (.c (by rw [← Int.natCast_succ]; rfl) (.c rfl (.c rfl (.c rfl .n)))) .refl (by dsimp only; omega) (by dsimp only; omega)
 refine Au ?_;refine GL.case 27 rfl (fun MV=>?_) (fun MV=>?_)
 ·exact Q8
 exact Q8
theorem aBr (x0:ByteArray) (x1:Int) :
  bQ Tryz.prog 191 [.string x0,.int .u8 x1] [] (fun x:Int=>.int .i64 x) (fun x=>[]) (fun x=>True):=by
 refine Fg Tryz.func191 Tryz.ntmps191 fun W0 R=>?_;refine Au ?_;refine Ky (S1 _ _) fun z hz=>?_;refine Au ?_;refine Go fun w h=>?_;simp only [dB,ne_eq,dC] at *;refine ⟨_,?_,rfl,h.part .refl⟩;trivial
theorem VM (x0:ByteArray) (x1:ByteArray) (hz0:x0.size≤1000000) (hz1:x1.size≤1000000) :
  bQ Tryz.prog 209 [.string x0,.string x1] [] (fun x:ByteArray=>.string x) (fun x=>[]) (fun x=>x.size≤8):=by
 refine Fg Tryz.func209 Tryz.ntmps209 fun W0 R=>?_;refine Au ?_;refine Ky (jU _ hz0) fun z hz=>?_;refine Au ?_;refine GL.case 10 rfl (fun g10=>?_) (fun g10=>?_)
 ·refine Au ?_;refine GC.aQ rfl rfl ?_;exact aKj
 refine Au ?_;refine K.x (EC.direct eN rfl) (jU _ hz1) .nil (fun _=>.a0) rfl rfl (.guard rfl rfl rfl rfl g10) (fun z2 hz2=>?_);refine Au ?_;refine GC.cond rfl (fun c14=>?_) (fun c14=>?_)
 ·exact aKj
 refine GC.skip (Ze (Zt ?_));simp only [dB,ne_eq,dC] at *;have hsz:x0.size≤8:=by simp_all
 refine Lu rfl (EX.assign rfl) ?_;refine Zn (Zs (Zt ?_));refine Lr.run (.m rfl (.v (EX.QJ rfl uN) rfl rfl (.m rfl .s))) rfl ?_;refine Zn (GC.block ?_);refine GC.turn (fun w h=>h.eP 5 1) ?_;refine GC.lp (σ:=Nat × Option Addr × Nat × ByteArray) (fun s=>[(17,.int .i64 (s.1:Int)),(16,.int .i64 (x0.size:Int)),(0,.string x0),(1,.string x1),(5,.slice s.2.1 s.2.2.2.size s.2.2.1)]) (fun s=>Rw 5 1 (.slice s.2.1 s.2.2.2.size s.2.2.1) s.2.2.2.size (AP s.2.2.2)::R) (fun s=>s.1≤x0.size∧s.2.2.2.size≤s.1) (fun s=>x0.size - s.1) (0,none,0,⟨#[]⟩) (.c rfl (.c rfl (.c rfl (.c rfl (.c rfl .n))))) .refl (⟨Nat.zero_le _,Nat.zero_le _⟩) (fun s hs=>?_);obtain ⟨i,a,c,bs⟩:=s;dsimp only at hs;refine Au ?_;refine GC.cond rfl (fun c18=>?_) (fun c18=>?_)
 ·simp only [decide_eq_true_eq] at c18;refine Au ?_;refine Lu rfl (EX.sB rfl rfl uN (by omega)) ?_;refine Ky (aBr _ _) fun z hz=>?_;refine Au ?_;refine GC.cond rfl (fun c25=>?_) (fun c25=>?_)
  ·refine Au ?_;refine Lu rfl (EX.sB rfl rfl uN (by omega)) ?_;refine Ef (EF.buildSlice rfl bS rfl rfl rfl) fun b30 _=>?_;refine Ef (EF.append rfl rfl NV (fun v=>.there (.here)) .p0 (rfl) (rfl) (by dsimp only; unfold maxLen; omega) (by dsimp only; omega)) fun v31 hv31=>?_;obtain ⟨aS3,aSp,rfl⟩:=hv31;refine GL.turn (fun w h=>H0 h) ?_;refine Au ?_;refine La ?_;refine Au ?_;exact GE.ag (s:=(i,a,c,bs)) (i + 1,aS3,aSp,bs.push _) (.c (by rw [← Int.natCast_succ]; rfl) (.c rfl (.c rfl (.c rfl (.c (by rw [size_push]; rfl) .n))))) (.t1 (.d .refl)) (by dsimp only; omega) (⟨by dsimp only; omega,by dsimp only; rw [size_push]; omega⟩)
  refine Au ?_;refine La ?_;refine Au ?_;exact GE.ag (s:=(i,a,c,bs)) (i + 1,a,c,bs) (.c (by rw [← Int.natCast_succ]; rfl) (.c rfl (.c rfl (.c rfl (.c rfl .n))))) .refl (by dsimp only; omega) (⟨by dsimp only; omega,by dsimp only; omega⟩)
 refine Au ?_;refine Lu rfl (EX.aFm rfl .p0 uN uN uN) ?_;refine Au ?_;refine Go fun w h=>?_;refine ⟨_,?_,rfl,h.part (.d .refl)⟩;first
 | exact Nat.zero_le _
 | (dsimp only; omega)
theorem VN (x0:ByteArray) (x1:ByteArray) (hz0:x0.size≤1000000) (hz1:x1.size≤1000000) :
  bQ Tryz.prog 181 [.string x0,.string x1] [] (fun x:Int × Int=>.tuple #[.int .i64 x.1,.int .i64 x.2]) (fun x=>[]) (fun x=>x.2=0∨x.2=3∨x.2=11):=by
 refine Fg Tryz.func181 Tryz.ntmps181 fun W0 R=>?_;refine Au ?_;refine Ky (jU _ hz0) fun z hz=>?_;refine Au ?_;refine GL.case 10 rfl (fun g10=>?_) (fun g10=>?_)
 ·refine Au ?_;refine GC.aQ rfl rfl ?_;exact Q7
 refine Au ?_;refine K.x (EC.direct eN rfl) (jU _ hz1) .nil (fun _=>.a0) rfl rfl (.guard rfl rfl rfl rfl g10) (fun z2 hz2=>?_);refine Au ?_;refine GC.cond rfl (fun c14=>?_) (fun c14=>?_)
 ·exact Q7
 refine Au ?_;refine Kw (.direct eN rfl) (VM _ _ (by omega) (by omega)) .nil fun z hz=>?_;refine Au ?_;refine Lu rfl (EX.aLm rfl rfl) ?_;refine Au ?_;refine GC.cond rfl (fun c19=>?_) (fun c19=>?_)
 ·exact Q7
 simp only [decide_eq_false_iff_not] at c19;have hne:=WN c19;refine Au ?_;refine Lu rfl (EX.sB rfl rfl uN (by exact ⟨by decide,hne⟩)) ?_;refine Lu rfl (EX.conv rfl uN uN (wi8 _)) ?_;exact Q7
end
section
theorem aKi {p:Prop} (h:p:=by
  first
  | exact ⟨Nat.zero_le _,fun f hf=>(by exfalso; have hl:fs.length=1:=(by rw [hf]; rfl); omega)⟩
  | exact ⟨Nat.zero_le _,fun f hf hi0 hn1 hrc=>(by exfalso; have hl:fs.length=1:=(by rw [hf]; rfl); have hs0:s.1=0:=(by omega); have e:=MJ hf hi; have e0:=MJ hf hpos.1; simp only [e,e0] at *; first | omega | (have h9:=hz2.2 hrc; simp_all))⟩
  | exact ⟨Nat.zero_le _,fun f hf hi0 hn1 hrc=>(by exfalso; have hl:fs.length=1:=(by rw [hf]; rfl); have e:=(hs.2.2 f hf).trans (if_neg (by omega)); have e2:=congrArg ByteArray.size e; omega)⟩
  | exact ⟨(by omega:s.2.size≤4096),fun f hf hi0 hn1 hrc=>(by have hl:fs.length=1:=(by rw [hf]; rfl); exact congrArg (fun q=>(q,(0:Int))) ((hs.2.2 f hf).trans (if_neg (by omega))))⟩):p:=h
theorem FD {p:Prop} (h:p:=by
  refine Au ?_;refine Go fun w h=>?_;simp only [dB] at *;refine ⟨_,?_,rfl,h.part (.d .refl)⟩;first
  | exact ⟨fun h=>(by cases h),fun h=>(by omega)⟩
  | exact ⟨fun h=>(by simp only [decide_eq_true_eq] at h; omega),fun h=>(by simp only [decide_eq_true_eq]; omega)⟩):p:=h
theorem XL {p:Prop} (h:p:=by
  refine Au ?_;refine GC.aQ rfl rfl ?_;exact aKg):p:=h
theorem aKh {p:Prop} (h:p:=by
  refine Au ?_;refine Go fun w h=>?_;refine ⟨_,?_,rfl,h.part (.d .refl)⟩;first
  | exact ⟨Nat.zero_le _,fun h=>absurd (hz.2 h) (by simpa using c5)⟩
  | exact ⟨(by show ByteArray.size (_++_++_++_)≤1030; rw [ByteArray.size_append,ByteArray.size_append,ByteArray.size_append]; omega),fun h h1=>(by rw [hz1.1 (by omega) (by omega),hz2.1 (by omega) (by omega),hz3.1 (by omega) (by omega)])⟩):p:=h
theorem Q6 {p:Prop} (h:p:=by
  refine Au ?_;refine Gs fun w h=>?_;simp only [dB,ne_eq,dC] at *;refine ⟨(_,_),?_,rfl,h.part (.t1 (.d .refl))⟩;exact aKi):p:=h
theorem Q5 {p:Prop} (h:p:=by
  refine Au ?_;refine Gs fun w h=>?_;simp only [dB,ne_eq,dC] at *;refine ⟨(_,_),?_,rfl,h.part .refl⟩;exact aKi):p:=h
theorem aKg {p:Prop} (h:p:=by
  refine Au ?_;refine Gs fun w h=>?_;exact ⟨(),trivial,rfl,h.part (.d .refl)⟩):p:=h
theorem mQ (a i n:Int) (p:ByteArray) :
  bQ Tryz.prog 72 [.agg #[.int .u64 a,.int .i64 i,.int .i64 n,.string p]] [] (fun x:Bool=>.bool x) (fun x=>[]) (fun x=>x=true↔1≤a∧a≤4294967296∧1≤n∧n≤16∧0≤i∧i < n∧1≤p.size∧p.size≤1000):=by
 refine Fg Tryz.func72 Tryz.ntmps72 fun W0 R=>?_;refine Au ?_;refine Ef (EF.bV rfl) fun b1 _=>?_;refine Au ?_;refine GL.case 6 rfl (fun g6=>?_) (fun g6=>?_)
 ·refine Au ?_;refine GL.case 11 rfl (fun g11=>?_) (fun g11=>?_)
  ·refine Au ?_;refine GL.case 16 rfl (fun g16=>?_) (fun g16=>?_)
   ·refine Au ?_;refine GL.case 21 rfl (fun g21=>?_) (fun g21=>?_)
    ·refine Au ?_;refine GL.case 26 rfl (fun g26=>?_) (fun g26=>?_)
     ·refine Au ?_;refine GL.case 33 rfl (fun g33=>?_) (fun g33=>?_)
      ·refine Au ?_;refine GL.case 39 rfl (fun yL=>?_) (fun yL=>?_)
       ·exact FD
       exact FD
      exact FD
     exact FD
    exact FD
   exact FD
  exact FD
 exact FD
theorem F0 (a i n:Int) (p:ByteArray) :
  bQ Tryz.prog 31 [.agg #[.int .u64 a,.int .i64 i,.int .i64 n,.string p]] [] (fun x:ByteArray=>.string x) (fun x=>[]) (fun x=>x.size≤1030∧((1≤a∧a≤4294967296∧1≤n∧n≤16∧0≤i∧i < n∧1≤p.size∧p.size≤1000)→a < 128→x=⟨#[UInt8.ofNat (a).toNat]⟩++⟨#[UInt8.ofNat (i).toNat]⟩++⟨#[UInt8.ofNat (n).toNat]⟩++p)):=by
 refine Fg Tryz.func31 Tryz.ntmps31 fun W0 R=>?_;refine Au ?_;refine Ef (EF.bV rfl) fun b1 _=>?_;refine Au ?_;refine Ky (mQ _ _ _ _) fun z hz=>?_;refine Au ?_;refine GC.cond rfl (fun c5=>?_) (fun c5=>?_)
 ·exact aKh
 have hr:=hz.1 (by simpa using c5);refine Au ?_;refine Gr 17 (.t .e) ?_;refine Dq 13 [0,1,3,4] ?_;refine Dv 5 rfl (fun X=>EX.conv rfl uN uN (wu (by omega))) ?_;refine Dq 10 [8,9] ?_;refine Dv 10 rfl (fun X=>EX.conv rfl uN uN (wu (by omega))) ?_;refine Dq 7 [13,14] ?_;refine Ga 2 ?_;refine Ky (pJ _) fun z1 hz1=>?_;refine D.n .refl ?_;refine Ga 6 ?_;refine Ky (pJ _) fun z2 hz2=>?_;refine D.n .refl ?_;refine Dp 7 rfl (fun X=>EX.KH rfl rfl (by omega)) ?_;refine Ga 11 ?_;refine Ky (pJ _) fun z3 hz3=>?_;refine D.n .refl ?_;refine Dv 12 rfl (fun X=>EX.KH rfl rfl (by rw [ByteArray.size_append]; omega)) ?_;refine Dv 15 rfl (fun X=>EX.KH rfl rfl (by rw [ByteArray.size_append,ByteArray.size_append]; omega)) ?_;refine Dq 0 [16] ?_;refine Gd ?_;exact aKh
def OK (l:List Int):List Value:=l.map fun x=>Value.int .u64 x
theorem TD (l:List Int) (i:Nat) (v:Int):(OK l).set i (.int .u64 v)=OK (l.set i v):=by unfold OK; rw [List.map_set]
theorem aP1 {l:List Int} (h:l.length=3):∃ a b c,l=[a,b,c]:=by
 match l,h with
 | [a,b,c],_=>exact ⟨a,b,c,rfl⟩
def xT (x0:ByteArray) (i:Nat) (at_:Int) (us:List Int):Prop:=∀ (A B D:UInt8) (q:List UInt8),x0.data.toList=A::B::D::q→A.toNat < 128→B.toNat < 128→D.toNat < 128→at_=i∧∀ j,j < i→us[j]?=some ((([A,B,D]:List UInt8)[j]?.getD 0).toNat:Int)
theorem ZI {x0:ByteArray} {i:Nat} {at_:Int} {us:List Int} {z:Int × Int × Int} (hi:i < 3) (hz:∀ c,W7 x0 at_ c→c.toNat < 128→z=((c.toNat:Int),at_ + 1,0)) (hs:xT x0 i at_ us) {A B D:UInt8} {q:List UInt8} (hq:x0.data.toList=A::B::D::q) (h1:A.toNat < 128) (h2:B.toNat < 128) (h3:D.toNat < 128) :
  z=(((([A,B,D]:List UInt8)[i]?.getD 0).toNat:Int),(i:Int) + 1,0):=by
 have hk:=(hs A B D q hq h1 h2 h3).1;subst hk;refine hz _ ⟨by omega,?_⟩ ?_
 ·rw [hq,Int.toNat_natCast];match i,hi with
  | 0,_=>rfl
  | 1,_=>rfl
  | 2,_=>rfl
 ·match i,hi with
  | 0,_=>exact h1
  | 1,_=>exact h2
  | 2,_=>exact h3
theorem ZH {x0:ByteArray} {i:Nat} {at_:Int} {us:List Int} {z:Int × Int × Int} (hl:us.length=3) (hi:i < 3) (hz:∀ c,W7 x0 at_ c→c.toNat < 128→z=((c.toNat:Int),at_ + 1,0)) (hs:xT x0 i at_ us):xT x0 (i + 1) z.2.1 (us.set i z.1):=by
 intro A B D q hq h1 h2 h3;have e:=ZI hi hz hs hq h1 h2 h3;subst e;refine ⟨by dsimp only; omega,fun j hj=>?_⟩;dsimp only;rw [List.getElem?_set]
 by_cases hij:i=j
 ·subst hij; rw [if_pos rfl,if_pos (by omega)]
 rw [if_neg hij]; exact (hs A B D q hq h1 h2 h3).2 j (by omega)
theorem O9 (a b c:Int):∃ m:Int,(if c > (if b > a then b else a) then c else (if b > a then b else a))=m∧(m=a∨m=b∨m=c):=by
 refine ⟨_,rfl,?_⟩
 by_cases h1:b > a
 ·rw [if_pos h1]; by_cases h2:c > b
  ·rw [if_pos h2]; exact .inr (.inr rfl)
  rw [if_neg h2]; exact .inr (.inl rfl)
 rw [if_neg h1]; by_cases h2:c > a
 ·rw [if_pos h2]; exact .inr (.inr rfl)
 rw [if_neg h2]; exact .inl rfl
theorem U8 {a b d:Int} {s:ByteArray} (hb:0≤b∧b < 128) (hd:0≤d∧d < 128):(a,IntKind.i64.wrap b,IntKind.i64.wrap d,s.extract (3:Int).toNat s.size,(0:Int))=(a,b,d,s.extract 3 s.size,0):=by
 rw [wi (by omega),wi (by omega)]; rfl
theorem ZJ {x0:ByteArray} {i:Nat} {at_ u0 u1 u2:Int} (h3:i=3) (hs:xT x0 i at_ [u0,u1,u2]) {A B D:UInt8} {q:List UInt8} (hq:x0.data.toList=A::B::D::q) (h1:A.toNat < 128) (h2:B.toNat < 128) (h4:D.toNat < 128):at_=3∧u0=A.toNat∧u1=B.toNat∧u2=D.toNat:=by
 subst h3;obtain ⟨k1,k2⟩:=hs A B D q hq h1 h2 h4;exact ⟨k1,Option.some.inj (k2 0 (by omega)),Option.some.inj (k2 1 (by omega)),Option.some.inj (k2 2 (by omega))⟩
theorem KY (x0:ByteArray) (hz:x0.size≤1000000) :
  bQ Tryz.prog 26 [.string x0] [] (fun x:Int × Int × Int × ByteArray × Int=>.tuple #[.agg #[.int .u64 x.1,.int .i64 x.2.1,.int .i64 x.2.2.1,.string x.2.2.2.1],.int .i64 x.2.2.2.2]) (fun x=>[]) (fun x=>∀ (A B D:UInt8) (q:List UInt8),x0.data.toList=A::B::D::q→A.toNat < 128→B.toNat < 128→D.toNat < 128→(1≤A.toNat∧1≤D.toNat∧D.toNat≤16∧B.toNat < D.toNat∧1≤q.length∧q.length≤1000)→x=((A.toNat:Int),(B.toNat:Int),(D.toNat:Int),x0.extract 3 x0.size,0)):=by
 refine Fg Tryz.func26 Tryz.ntmps26 fun W0 R=>?_;refine Au ?_;refine Ef (EF.alloc aL) fun b2 _=>?_;refine Au ?_;refine Ef (EF.alloc aL) fun b4 _=>?_;refine Au ?_;refine GC.lp (σ:=Nat × Int × List Int) (fun s=>[(11,.int .i64 (s.1:Int)),(5,.int .i64 s.2.1),(4,ptr b4),(2,ptr b2),(0,.string x0)]) (fun s=>[Bk b4 178 (OK s.2.2),Bk b2 96 [.int .u64 0,.int .i64 0,.int .i64 0,.string ⟨#[]⟩]]++R) (fun s=>s.1≤3∧0≤s.2.1∧s.2.1≤x0.size∧s.2.2.length=3∧xT x0 s.1 s.2.1 s.2.2) (fun s=>3 - s.1) (0,0,[0,0,0]) (.c rfl (.c rfl (.c rfl (.c rfl (.c rfl .n))))) .refl (⟨by dsimp only; omega,by dsimp only; omega,by dsimp only; omega,rfl,fun A B D q _ _ _ _=>⟨rfl,fun j hj=>by dsimp only at hj; omega⟩⟩) (fun s hs=>?_);refine GC.app .a2 ?_;obtain ⟨i,at_,us⟩:=s;dsimp only at hs;refine Au ?_;refine GC.cond rfl (fun c12=>?_) (fun c12=>?_)
 ·simp only [decide_eq_true_eq] at c12;refine Au ?_;refine Ky (pK _ _ hz) fun z hz1=>?_;obtain ⟨hz2,hz3,hz7⟩:=hz1;refine Au ?_;refine GC.cond rfl (fun NQ=>?_) (fun NQ=>?_)
  ·simp only [decide_eq_true_eq] at NQ;refine Au ?_;refine Gq fun w h=>?_;refine ⟨(_,_,_,_,_),fun A B D q hq h1 h2 h4 _=>?_,rfl,h.part (.d (.d .refl))⟩;exact absurd (congrArg (fun p=>p.2.2) (ZI (by omega) hz7 hs.2.2.2.2 hq h1 h2 h4)) NQ
  simp only [decide_eq_false_iff_not,ne_eq,Decidable.not_not] at NQ;have hz4:=hz3 NQ;refine Au ?_;refine Lu rfl (EX.cE (a:=i) rfl rfl aR (by omega) (by simp)) ?_;refine Ed (EU.yA rfl rfl sZ rfl (by unfold OK; simp only [List.length_map]; omega)) ?_;refine GL.turn (fun w h=>(show aB W0 w ([Bk b4 178 (OK (us.set i z.1)),Bk b2 96 [.int .u64 0,.int .i64 0,.int .i64 0,.string ⟨#[]⟩]]++R) from by rw [← TD]; exact h)) ?_;refine Au ?_;refine La ?_;refine Au ?_;exact GE.ag (s:=(i,at_,us)) (i + 1,z.2.1,us.set i z.1) (.c (by rw [← Int.natCast_succ]; rfl) (.c rfl (.c rfl (.c rfl (.c rfl .n))))) .refl (by dsimp only; omega) (⟨by dsimp only; omega,by dsimp only; omega,by dsimp only; omega,by rw [List.length_set]; exact hs.2.2.2.1,ZH hs.2.2.2.1 (by omega) hz7 hs.2.2.2.2⟩)
 simp only [decide_eq_false_iff_not] at c12;obtain ⟨u0,u1,u2,rfl⟩:=aP1 hs.2.2.2.1;have h3:i=3:=by omega
 obtain ⟨mx,hmx,aTi⟩:=O9 u0 u1 u2;refine Au ?_;refine Lu rfl (EX.cE rfl rfl aR (by omega) rfl) ?_;refine Au ?_;refine Lu rfl (EX.cE rfl rfl aR (by omega) rfl) ?_;refine Au ?_;refine Lu rfl (EX.cE rfl rfl aR (by omega) rfl) ?_;refine Au ?_;refine Lu rfl (EX.aIw rfl rfl rfl hmx) ?_;refine Au ?_;refine GC.cond rfl (fun c37=>?_) (fun c37=>?_)
 ·refine Au ?_;refine Gq fun w h=>?_;refine ⟨(_,_,_,_,_),fun A B D q hq h1 h2 h4 _=>?_,rfl,h.part (.d (.d .refl))⟩;have:=ZJ h3 hs.2.2.2.2 hq h1 h2 h4;simp only [decide_eq_true_eq] at c37;omega
 refine Au ?_;refine Gr 14 (.t (.t .e)) ?_;refine Dv 0 rfl (fun X=>EX.cE rfl rfl aR (by omega) rfl) ?_;refine Dq 12 [1] ?_;refine Dv 2 rfl (fun X=>EX.cE rfl rfl aR (by omega) rfl) ?_;refine Dq 10 [3] ?_;refine Dv 4 rfl (fun X=>EX.conv rfl uN uN rfl) ?_;refine Dv 5 rfl (fun X=>EX.cE rfl rfl aR (by omega) rfl) ?_;refine Dq 7 [6] ?_;refine Dv 7 rfl (fun X=>EX.conv rfl uN uN rfl) ?_;refine Dq 4 [8,9] ?_;refine Dv 10 rfl (fun X=>EX.BB (l:=at_.toNat) rfl uN (.inr ⟨_,_,_,rfl,rfl,by dsimp only; omega⟩) (.inl ⟨rfl,rfl⟩) (by omega) (Nat.le_refl _)) ?_;refine Dq 2 [11] ?_;refine Ga 12 ?_;refine Ef (EF.alloc aL) fun b10 _=>?_;refine D.n (.t1 (.t1 .refl)) ?_;refine Ga 13 ?_;refine Au ?_;refine D.n (.t1 (.t1 .refl)) ?_;refine Gd ?_;refine Au ?_;refine Ky (mQ _ _ _ _) fun z hz=>?_;refine Au ?_;refine GC.cond rfl (fun c53=>?_) (fun c53=>?_)
 ·refine Au ?_;refine Gq fun w h=>?_;refine ⟨(_,_,_,_,_),fun A B D q hq h1 h2 h4 hr=>?_,rfl,h.part (.d (.d (.d .refl)))⟩;obtain ⟨k1,rfl,rfl,rfl⟩:=ZJ h3 hs.2.2.2.2 hq h1 h2 h4;subst k1;refine absurd (hz.2 ?_) (by simpa using c53);rw [wi (by omega),wi (by omega)];have hl:x0.size=q.length + 3:=by have:=congrArg List.length hq; rw [Array.length_toList] at this; simp at this; exact this
  have hl2:(x0.extract (3:Int).toNat x0.size).size=q.length:=by rw [ByteArray.size_extract]; omega
  omega
 refine Au ?_;refine Gq fun w h=>?_;refine ⟨(_,_,_,_,_),fun A B D q hq h1 h2 h4 hr=>?_,rfl,h.part (.d (.d (.d .refl)))⟩;obtain ⟨k1,rfl,rfl,rfl⟩:=ZJ h3 hs.2.2.2.2 hq h1 h2 h4;subst k1;exact U8 (by omega) (by omega)
structure Fr where
 a:Int
 i:Int
 n:Int
 p:ByteArray
def frc (f:Fr):List Value:=[.int .u64 f.a,.int .i64 f.i,.int .i64 f.n,.string f.p]
def uJ (l:List Fr):List Value:=l.flatMap frc
theorem JO {l:List Fr} {k:Nat} (hk:k < l.length):∀ j,j < 4→(uJ l)[k * 4 + j]?=(frc l[k])[j]?:=by
 intro j hj;induction l generalizing k with
 | nil=>simp at hk
 | cons x l ih =>
  have e:uJ (x::l)=frc x++uJ l:=rfl;have h6:(frc x).length=4:=rfl;rw [e];cases k with
  | zero=>rw [List.getElem?_append_left (by omega),Nat.zero_mul,Nat.zero_add]; rfl
  | succ k =>
   rw [List.getElem?_append_right (by omega),h6,show (k + 1) * 4 + j - 4=k * 4 + j by omega];exact ih (by simpa using hk)
theorem MJ {fs:List Fr} {i:Nat} {f:Fr} (hf:fs=[f]) (hi:i < fs.length):fs[i]=f:=by
 subst hf;obtain rfl:i=0:=by simp at hi; exact hi
 rfl
theorem join_step {fs:List Fr} {i:Nat} {s:ByteArray} {f:Fr} (hf:fs=[f]) (hi:i < fs.length) (hs:s=if i=0 then ⟨#[]⟩ else f.p):s++fs[i].p=if i + 1=0 then ⟨#[]⟩ else f.p:=by
 subst hf;obtain rfl:i=0:=by simp at hi; exact hi
 rw [if_pos rfl] at hs;subst hs;rw [if_neg (by omega)];exact ByteArray.empty_append
theorem aLg {l:List Fr} (h:0 < l.length):(uJ l)[0]?=some (.int .u64 l[0].a):=(JO h 0 (by omega)).trans rfl
theorem TR (ad:Option Addr) (c:Nat) (fs:List Fr) (hz:fs.length≤1000000) :
  bQ Tryz.prog 139 [.slice ad fs.length c] [Rw 96 4 (.slice ad fs.length c) fs.length (uJ fs)] (fun x:ByteArray × Int=>.tuple #[.string x.1,.int .i64 x.2]) (fun x=>[Rw 96 4 (.slice ad fs.length c) fs.length (uJ fs)]) (fun x=>x.1.size≤4096∧(∀ f,fs=[f]→f.i=0→f.n=1→(1≤f.a∧f.a≤4294967296∧1≤f.n∧f.n≤16∧0≤f.i∧f.i < f.n∧1≤f.p.size∧f.p.size≤1000)→x=(f.p,0))):=by
 refine Fg Tryz.func139 Tryz.ntmps139 fun W0 R=>?_;refine Au ?_;refine GL.case 10 rfl (fun g10=>?_) (fun g10=>?_)
 ·refine Au ?_;refine GC.aQ rfl rfl ?_;exact Q5
 refine Au ?_;refine GC.cond rfl (fun c14=>?_) (fun c14=>?_)
 ·exact Q5
 refine GC.skip (Ze (Zt ?_));simp only [dB,ne_eq,dC] at *;have hpos:0 < fs.length∧fs.length≤16:=by omega
 refine GL.know (fun w h=>h.dV .p0 hpos.1) (fun hg=>?_);obtain ⟨g,rfl⟩:=hg;refine Au ?_;refine GC.lp (σ:=Nat × ByteArray) (fun s=>[(17,.int .i64 (s.1:Int)),(16,.int .i64 (fs.length:Int)),(15,.slice (some ⟨g,0,none⟩) fs.length c),(0,.slice (some ⟨g,0,none⟩) fs.length c),(4,.string s.2)]) (fun s=>Rw 96 4 (.slice (some ⟨g,0,none⟩) fs.length c) fs.length (uJ fs)::R) (fun s=>s.1≤fs.length∧s.2.size≤1000 * s.1∧(∀ f,fs=[f]→s.2=if s.1=0 then ⟨#[]⟩ else f.p)) (fun s=>fs.length - s.1) (0,⟨#[]⟩) (.c rfl (.c rfl (.c rfl (.c rfl (.c rfl .n))))) .refl (⟨Nat.zero_le _,Nat.zero_le _,fun _ _=>rfl⟩) (fun s hs=>?_);refine Au ?_;refine GC.cond rfl (fun c18=>?_) (fun c18=>?_)
 ·simp only [decide_eq_true_eq] at c18;have hi:s.1 < fs.length:=by omega
  refine Au ?_;refine Lu rfl (EX.indexAddr (a:=s.1 * 4) rfl rfl sL (by omega) (by simp)) ?_;refine Lu rfl (EX.rW rfl (mN rfl) rfl (JO hi)) ?_;refine Ef (EF.alloc aL) fun b6 _=>?_;refine Au ?_;refine Gr 25 (.t (.t .e)) ?_;refine Dt 0 ?_;refine Ga 1 ?_;refine Ky (mQ _ _ _ _) fun z2 hz2=>?_;refine D.n .refl ?_;refine Dq 21 [2,3] ?_;refine GD.case 25 rfl (fun g25=>?_) (fun g25=>?_)
  ·refine Dq 0 [4,5,6,7,8,9,10,11,12,13,14,15,16,17,18,19,20,21,22,23,24] ?_;refine Gd ?_;refine Au ?_;refine GC.aQ rfl rfl ?_;exact Q6
  refine Dq 18 [4,5,6] ?_;refine Dh 7 rfl (fun X=>EX.indexAddr (a:=0) rfl rfl sL (by omega) (by simp)) (.q g25) ?_;refine Dq 16 [8] ?_;refine Dh 9 rfl (fun X=>EX.tU rfl (aLg hpos.1) oN) (.q g25) ?_;refine Dq 12 [10,11,12] ?_;refine GD.case 34 rfl (fun g34=>?_) (fun g34=>?_)
  ·refine Dq 0 [13,14,15,16,17,18,19,20,21,22,23,24] ?_;refine Gd ?_;refine Au ?_;refine GC.aQ rfl rfl ?_;exact Q6
  refine Dq 5 [13,14,15,16,17,18,19] ?_;refine GD.case 41 rfl (fun g41=>?_) (fun g41=>?_)
  ·refine Dq 0 [20,21,22,23,24] ?_;refine Gd ?_;refine Au ?_;refine GC.aQ rfl rfl ?_;exact Q6
  refine Dq 0 [20,21,22,23,24] ?_;refine Gd ?_;refine Au ?_;refine GC.cond rfl (fun c46=>?_) (fun c46=>?_)
  ·exact Q6
  have hr:=hz2.1 (by simpa using g25);refine Au ?_;refine Lu rfl (EX.KH rfl rfl (by omega)) ?_;refine Au ?_;refine La ?_;refine Au ?_;exact GE.ag (s.1 + 1,_) (.c (by rw [← Int.natCast_succ]; rfl) (.c rfl (.c rfl (.c rfl (.c rfl .n))))) (.t1 (.d .refl)) (by dsimp only; omega) (⟨by dsimp only; omega,by show ByteArray.size (_++_)≤_; rw [ByteArray.size_append]; omega,fun f hf=>join_step hf hi (hs.2.2 f hf)⟩)
 refine Au ?_;refine GC.cond rfl (fun c54=>?_) (fun c54=>?_)
 ·exact Q5
 exact Q5
theorem TS (s:ByteArray) (id size:Int) (h0:s.size=0) :
  bQ Tryz.prog 68 [.string s,.int .u64 id,.int .i64 size] [] (fun x:Unit=>.tuple #[.slice none 0 0,.int .i64 1]) (fun x=>[]) (fun x=>True):=by
 refine Fg Tryz.func68 Tryz.ntmps68 fun W0 R=>?_;refine Au ?_;refine Ef (EF.ZS rfl rfl) fun b4 _=>?_;refine Au ?_;refine GL.case 14 rfl (fun g14=>?_) (fun g14=>?_)
 ·exact XL
 refine Au ?_;refine GL.case 18 rfl (fun g18=>?_) (fun g18=>?_)
 ·exact XL
 refine Au ?_;refine GL.case 22 rfl (fun g22=>?_) (fun g22=>?_)
 ·exact XL
 refine Au ?_;refine GL.case 26 rfl (fun g26=>?_) (fun g26=>?_)
 ·exact XL
 refine Au ?_;refine GL.case 31 rfl (fun T0=>?_) (fun T0=>?_)
 ·exact XL
 refine Au ?_;refine GC.cond rfl (fun c35=>?_) (fun c35=>?_)
 ·exact aKg
 exfalso;simp only [dB] at *;omega
theorem aFr (s:ByteArray) (id size:Int) (h1:1≤id) (h2:id≤4294967296) (h4:(s.size:Int)≤size) (h5:size≤1000):bQ Tryz.prog 68 [.string s,.int .u64 id,.int .i64 size] [] (fun x:Value × List Fr × Int=>.tuple #[x.1,.int .i64 x.2.2])
  (fun x=>[Rw 96 4 x.1 x.2.1.length (uJ x.2.1)]) (fun x=>Sl x.2.1.length x.1∧(x.2.1=[]∨(x.2.1=[⟨id,0,1,s⟩]∧1≤s.size))):=by
 rcases Nat.eq_zero_or_pos s.size with h0 | h0
 ·intro W0 W R hs;refine (TS s id size h0 W0 W R hs).mono ?_;rintro e w' ⟨x,_,rfl,h'⟩;exact ⟨(.slice none 0 0,[],1),⟨⟨_,_,rfl⟩,.inl rfl⟩,rfl,h'.eP 96 4⟩
 intro W0 W R hs;refine (EV.MZ h1 h2 h0 h4 h5 hs).mono ?_;rintro e w' ⟨v',hv,rfl,h'⟩;exact ⟨(v',[⟨id,0,1,s⟩],0),⟨hv,.inr ⟨rfl,h0⟩⟩,rfl,h'⟩
end
section
structure Mg where
 kind:Int
 src:Int
 dst:Int
 offer:ByteArray
 slot:Int
 code:Int
 e:Int
 ek:Int
 box:Int
 c1:Int
 c2:Int
 epoch:Int
 n:Int
abbrev uW (m:Mg):List Value:=[.int .i64 m.kind,.int .u64 m.src,.int .u64 m.dst,.string m.offer,.int .i64 m.slot,.int .i64 m.code,.int .i64 m.e,.int .i64 m.ek,.int .i64 m.box,.int .i64 m.c1,.int .i64 m.c2,.int .u64 m.epoch,.int .u64 m.n]
abbrev CY (m:Mg):Value:=.agg (uW m).toArray
structure Fd where
 t:Nat
 lo:Int
 hi:Int
 o:Nat
def YT (b:Nat) (f:Fd) (t:Nat):Option Addr:=if f.t=t then some ⟨b,f.o,none⟩ else none
abbrev RP (b:Nat) (f:Fd):List Value:=[.int .u64 f.lo,.int .u64 f.hi,.pointer (YT b f 0),.pointer (YT b f 1),.pointer (YT b f 2)]
def sD (b:Nat) (l:List Fd):List Value:=l.flatMap (RP b)
def nu (o:Nat):Fd:=⟨0,1,4294967296,o⟩
def LV (o:Nat):Fd:=⟨1,1,1048576,o⟩
def fds (k:Int):List Fd:=if k=1 then [nu 1,⟨2,0,0,3⟩,⟨1,0,1,4⟩,LV 6,LV 7,LV 8,LV 9,LV 10] else if k=2 then [nu 1,nu 2,LV 6,LV 8,LV 9] else if k=3 then [nu 2,⟨1,1,15,5⟩] else if k=4 then [nu 2,⟨0,0,1000,11⟩,⟨0,0,255,12⟩,LV 9] else []
theorem aKf {p:Prop} (h:p:=by
  refine Au ?_;refine Go fun w h=>?_;exact ⟨(),trivial,rfl,h.part (.t1 (.d .refl))⟩):p:=h
theorem qN (k:Int):(fds k).length≤8:=by
 unfold fds; by_cases h1:k=1 <;> by_cases h2:k=2 <;> by_cases h3:k=3 <;> by_cases h4:k=4 <;> simp [*]
def Fd.ok (f:Fd):Prop:=(f.t=0∧(f.o=1∨f.o=2∨f.o=11∨f.o=12))∨(f.t=1∧4≤f.o∧f.o≤10)∨(f.t=2∧f.o=3)
instance (f:Fd):Decidable f.ok:=by unfold Fd.ok; infer_instance
theorem aE5 (k:Int):∀ f∈fds k,f.ok:=by
 by_cases h1:k=1
 ·subst h1; decide
 by_cases h2:k=2
 ·subst h2; decide
 by_cases h3:k=3
 ·subst h3; decide
 by_cases h4:k=4
 ·subst h4; decide
 unfold fds;rw [if_neg h1,if_neg h2,if_neg h3,if_neg h4];intro f hf; cases hf
theorem nA {b:Nat} {l:List Fd} {k:Nat} (hk:k < l.length):∀ j,j < 5→(sD b l)[k * 5 + j]?=(RP b l[k])[j]?:=by
 intro j hj;induction l generalizing k with
 | nil=>simp at hk
 | cons x l ih =>
  have e:sD b (x::l)=RP b x++sD b l:=rfl;have h6:(RP b x).length=5:=rfl;rw [e];cases k with
  | zero=>rw [List.getElem?_append_left (by omega),Nat.zero_mul,Nat.zero_add]; rfl
  | succ k =>
   rw [List.getElem?_append_right (by omega),h6,show (k + 1) * 5 + j - 5=k * 5 + j by omega];exact ih (by simpa using hk)
theorem YZ (b:Nat) (l:List Fd):(sD b l).length=l.length * 5:=by
 unfold sD;induction l with
 | nil=>rfl
 | cons x l ih=>simp only [List.flatMap_cons,List.length_append,ih,List.length_cons,List.length_nil]; omega
theorem OY {k:Int} (b:Nat) (h:1≤k∧k≤4):EV.rowOf k b 0=some ((fds k).length,sD b (fds k)):=by
 rcases (show k=1∨k=2∨k=3∨k=4 by omega) with rfl | rfl | rfl | rfl <;> rfl
theorem kD (b:Nat) (m:Mg) (h:1≤m.kind∧m.kind≤4):bQ Tryz.prog 73 [ptr b] [Bk b 81 (uW m)] (fun x:Nat=>.slice (some ⟨x,0,none⟩) (fds m.kind).length (fds m.kind).length)
  (fun x=>[Rw 188 5 (.slice (some ⟨x,0,none⟩) (fds m.kind).length (fds m.kind).length) (fds m.kind).length (sD b (fds m.kind)),Bk b 81 (uW m)]) (fun _=>True):=fun W0 W R hs =>
 (EV.AC (bm:=b) (om:=0) (k:=m.kind) hs (fun w h=>by have:=(h.bk .here).rd 0; exact this)).mono (by
  have hl:=qN m.kind;rw [OY b h];rintro e w' (⟨q,n,xs,hx,rfl,h'⟩ | ⟨h0,_⟩)
  ·injection hx with hx;injection hx with h1 h2;subst h1; subst h2;exact ⟨q,trivial,rfl,h'.uC (YZ b _) (by unfold maxLen; omega)⟩
  cases h0)
theorem bQ.weaken {P:Program} {f:FuncId} {args:List Value} {M:List aA} {α β:Type} {v:α→Value} {M':α→List aA} {C:α→Prop} {u:β→Value} {N':β→List aA} {D:β→Prop} (h:bQ P f args M v M' C) (k:∀ x,C x→∃ y,D y∧v x=u y∧M' x=N' y):bQ P f args M u N' D :=
 fun W0 W R hs=>(h W0 W R hs).mono (by
  rintro e w' ⟨x,hc,rfl,h'⟩;obtain ⟨y,h1,h2,h3⟩:=k x hc;exact ⟨y,h1,by rw [h2],by rw [← h3]; exact h'⟩)
def Z6 (m:Mg) (o:Nat):Int:=if o=1 then m.src else if o=2 then m.dst else if o=11 then m.epoch else m.n
def aAf (m:Mg) (o:Nat):Int:=if o=4 then m.slot else if o=5 then m.code else if o=6 then m.e else if o=7 then m.ek else if o=8 then m.box else if o=9 then m.c1 else m.c2
def getM (m:Mg) (f:Fd):Int:=if f.t=0 then Z6 m f.o else IntKind.u64.wrap (aAf m f.o)
theorem aD3 (m:Mg) {o:Nat} (h:o=1∨o=2∨o=11∨o=12):lc (uW m) o=some (.int .u64 (Z6 m o)):=by rcases h with rfl | rfl | rfl | rfl <;> rfl
theorem aD4 (m:Mg) {o:Nat} (h:4≤o∧o≤10):lc (uW m) o=some (.int .i64 (aAf m o)):=by
 rcases (show o=4∨o=5∨o=6∨o=7∨o=8∨o=9∨o=10 by omega) with rfl | rfl | rfl | rfl | rfl | rfl | rfl <;> rfl
def lO (m:Mg):Prop:=m.offer.size≤1000000∧-9223372036854775808≤m.slot∧m.slot < 9223372036854775808
theorem aRr (n:Int):-9223372036854775808≤IntKind.i64.wrap n∧IntKind.i64.wrap n < 9223372036854775808:=by rw [IntKind.wrap_i64]; omega
theorem E6 (m:Mg) {o:Nat} (v:Int) (h:o=1∨o=2∨o=11∨o=12):∃ x:Mg,(uW m).set o (.int .u64 v)=uW x∧x.kind=m.kind∧(lO m→lO x):=by
 rcases h with rfl | rfl | rfl | rfl
 ·exact ⟨{ m with src:=v },rfl,rfl,fun h=>h⟩
 ·exact ⟨{ m with dst:=v },rfl,rfl,fun h=>h⟩
 ·exact ⟨{ m with epoch:=v },rfl,rfl,fun h=>h⟩
 exact ⟨{ m with n:=v },rfl,rfl,fun h=>h⟩
theorem E7 (m:Mg) {o:Nat} (v:Int) (hv:-9223372036854775808≤v∧v < 9223372036854775808) (h:4≤o∧o≤10):∃ x:Mg,(uW m).set o (.int .i64 v)=uW x∧x.kind=m.kind∧(lO m→lO x):=by
 rcases (show o=4∨o=5∨o=6∨o=7∨o=8∨o=9∨o=10 by omega) with rfl | rfl | rfl | rfl | rfl | rfl | rfl
 ·exact ⟨{ m with slot:=v },rfl,rfl,fun h=>⟨h.1,hv⟩⟩
 ·exact ⟨{ m with code:=v },rfl,rfl,fun h=>h⟩
 ·exact ⟨{ m with e:=v },rfl,rfl,fun h=>h⟩
 ·exact ⟨{ m with ek:=v },rfl,rfl,fun h=>h⟩
 ·exact ⟨{ m with box:=v },rfl,rfl,fun h=>h⟩
 ·exact ⟨{ m with c1:=v },rfl,rfl,fun h=>h⟩
 exact ⟨{ m with c2:=v },rfl,rfl,fun h=>h⟩
theorem S8 (b o:Nat) (lo hi x:Int) (C:List Value) (hC:lc C o=some (.int .u64 x)) :
  bQ Tryz.prog 76 [.agg #[.int .u64 lo,.int .u64 hi,.pointer (some ⟨b,o,none⟩),.pointer none,.pointer none]] [Bk b 81 C] (fun _:Unit=>.int .u64 x) (fun _=>[Bk b 81 C]) (fun _=>True):=by
 refine Fg Tryz.func76 Tryz.ntmps76 fun W0 R=>?_;refine Au ?_;refine Ef (EF.bV rfl) fun b1 _=>?_;refine Au ?_;refine GC.aQ rfl rfl ?_;refine Au ?_;refine Lu rfl (EX.ld rfl hC oN) ?_;exact aKf
theorem S9 (b o:Nat) (lo hi x:Int) (C:List Value) (hC:lc C o=some (.int .i64 x)) :
  bQ Tryz.prog 76 [.agg #[.int .u64 lo,.int .u64 hi,.pointer none,.pointer (some ⟨b,o,none⟩),.pointer none]] [Bk b 81 C] (fun _:Unit=>.int .u64 (IntKind.u64.wrap x)) (fun _=>[Bk b 81 C]) (fun _=>True):=by
 refine Fg Tryz.func76 Tryz.ntmps76 fun W0 R=>?_;refine Au ?_;refine Ef (EF.bV rfl) fun b1 _=>?_;refine Au ?_;refine GC.bH rfl rfl ?_;refine Au ?_;refine Lu rfl (EX.ld rfl hC oN) ?_;refine Lu rfl (EX.conv rfl uN uN rfl) ?_;exact aKf
theorem E8 (b o:Nat) (lo hi v:Int) (C:List Value) (hl:o < C.length) :
  bQ Tryz.prog 121 [.agg #[.int .u64 lo,.int .u64 hi,.pointer (some ⟨b,o,none⟩),.pointer none,.pointer none],.int .u64 v] [Bk b 81 C] (fun x:Unit=>.tuple #[]) (fun x=>[Bk b 81 (C.set o (.int .u64 v))]) (fun x=>True):=by
 refine Fg Tryz.func121 Tryz.ntmps121 fun W0 R=>?_;refine Au ?_;refine Ef (EF.bV rfl) fun b2 _=>?_;refine Au ?_;refine GC.aQ rfl rfl ?_;refine Au ?_;refine Ed (EU.yA rfl rfl sZ rfl hl) ?_;refine Au ?_;refine GE.aIi rfl (fun w h=>?_);exact ⟨(),trivial,rfl,h.part (.t1 (.d .refl))⟩
theorem E9 (b o:Nat) (lo hi v:Int) (C:List Value) (hl:o < C.length) :
  bQ Tryz.prog 121 [.agg #[.int .u64 lo,.int .u64 hi,.pointer none,.pointer (some ⟨b,o,none⟩),.pointer none],.int .u64 v] [Bk b 81 C] (fun x:Unit=>.tuple #[]) (fun x=>[Bk b 81 (C.set o (.int .i64 (IntKind.i64.wrap v)))]) (fun x=>True):=by
 refine Fg Tryz.func121 Tryz.ntmps121 fun W0 R=>?_;refine Au ?_;refine Ef (EF.bV rfl) fun b2 _=>?_;refine Au ?_;refine GC.bH rfl rfl ?_;refine Au ?_;refine Lu rfl (EX.conv rfl uN uN rfl) ?_;refine Au ?_;refine Ed (EU.yA rfl rfl sZ rfl hl) ?_;refine Au ?_;refine GE.lW rfl (fun w h=>?_);exact ⟨(),trivial,rfl,h.part (.t1 (.d .refl))⟩
theorem vA (b:Nat) (m:Mg) (f:Fd) (hf:f.ok) (h2:f.t≠2):bQ Tryz.prog 76 [.agg (RP b f).toArray] [Bk b 81 (uW m)] (fun x:Int=>.int .u64 x) (fun _=>[Bk b 81 (uW m)]) (fun x=>x=getM m f):=by
 obtain ⟨t,lo,hi,o⟩:=f;rcases hf with ⟨h,ho⟩ | ⟨h,ho⟩ | ⟨h,ho⟩
 ·simp only at h ho; subst h;exact (S8 b o lo hi _ _ (aD3 m ho)).weaken fun x _=>⟨_,rfl,rfl,rfl⟩
 ·simp only at h ho; subst h;exact (S9 b o lo hi _ _ (aD4 m ho)).weaken fun x _=>⟨_,rfl,rfl,rfl⟩
 exact absurd h h2
theorem MW (b:Nat) (m:Mg) (f:Fd) (v:Int) (hf:f.ok) (h2:f.t≠2):bQ Tryz.prog 121 [.agg (RP b f).toArray,.int .u64 v] [Bk b 81 (uW m)] (fun x:Mg=>.tuple #[]) (fun x=>[Bk b 81 (uW x)]) (fun x=>x.kind=m.kind∧(lO m→lO x)):=by
 obtain ⟨t,lo,hi,o⟩:=f;rcases hf with ⟨h,ho⟩ | ⟨h,ho⟩ | ⟨h,ho⟩
 ·simp only at h ho; subst h;obtain ⟨x,h3,h4,h5⟩:=E6 m v ho;exact (E8 b o lo hi v (uW m) (by simp; omega)).weaken fun _ _=>⟨x,⟨h4,h5⟩,rfl,by rw [h3]⟩
 ·simp only at h ho; subst h;obtain ⟨x,h3,h4,h5⟩:=E7 m (IntKind.i64.wrap v) (aRr v) ho;exact (E9 b o lo hi v (uW m) (by simp; omega)).weaken fun _ _=>⟨x,⟨h4,h5⟩,rfl,by rw [h3]⟩
 exact absurd h h2
end
section
theorem aEf {p:Prop} (h:p:=by
  refine Zt ?_;refine L.v (EX.assign rfl) rfl rfl rfl ?_;refine Zn ?_;refine GC.ret (GE.nG (GE.nG (GE.iH (GE.iH (GE.nG (GE.iH ?_))))));refine GE.out rfl rfl (fun w h=>?_);refine ⟨_,?_,rfl,h.part (.d (.d (.d .refl)))⟩;exact aKd):p:=h
theorem aKe {p:Prop} (h:p:=by
  refine GD.done (by kernel_rfl) ?_;refine Ze ?_;refine GC.ret ?_;refine GE.out rfl rfl (fun w h=>?_);refine ⟨_,?_,rfl,h.part (.d (.d .refl))⟩;exact aKd):p:=h
theorem aKd {p:Prop} (h:p:=by
  first
  | exact fun h=>(by cases h)
  | exact fun _=>aCt (fun j hj=>hs.2 j hj (by simp only [decide_eq_false_iff_not] at *; omega))):p:=h
theorem wT (b:Nat) (f:Fd) (t:Nat):(YT b f t).isSome=true↔f.t=t:=by
 unfold YT; by_cases h:f.t=t
 ·rw [if_pos h]; simp [h]
 rw [if_neg h]; simp [h]
theorem JP {b:Nat} {f:Fd} {t:Nat} (h:(YT b f t).isSome=false):f.t≠t:=fun e=>by rw [(wT b f t).2 e] at h; cases h
theorem aE4 {b:Nat} {f:Fd} {t:Nat} (h:f.t=t):YT b f t=some ⟨b,f.o,none⟩:=by unfold YT; rw [if_pos h]
theorem J5 {f:Fd} (h:f.ok) (ht:f.t=2):f.o=3:=by
 rcases h with ⟨h,_⟩ | ⟨h,_⟩ | ⟨_,h⟩
 ·omega
 ·omega
 exact h
theorem MY {b:Nat} {f:Fd} (h:f.ok) (ht:f.t=2):YT b f 2=some ⟨b,3,none⟩:=by rw [aE4 ht,J5 h ht]
theorem BT {b:Nat} {f:Fd} (h:f.ok) (ht:f.t=2):lc (RP b f) 4=some (.pointer (some ⟨b,3,none⟩)):=by
 show some (Value.pointer (YT b f 2))=_;rw [MY h ht]
theorem TZ {b:Nat} {l:List Fd} {i:Nat} (hi:i < l.length) (h:l[i].ok) (ht:l[i].t=2):(sD b l)[i * 5 + 4]?=some (.pointer (some ⟨b,3,none⟩)):=(nA hi 4 (by omega)).trans (by
 show some (Value.pointer (YT b l[i] 2))=_;rw [MY h ht])
theorem T5 {k:Int} {i:Nat} (hi:i < (fds k).length):((fds k)[i]).ok:=aE5 _ _ (List.getElem_mem hi)
theorem WQ (m:Mg) (hk:1≤m.kind∧m.kind≤4) :
  bQ Tryz.prog 115 [CY m] [] (fun x:Mg=>CY x) (fun x=>[]) (fun x=>x.kind=m.kind):=by
 refine Fg Tryz.func115 Tryz.ntmps115 fun W0 R=>?_;refine Au ?_;refine Ef (EF.bV rfl) fun b1 _=>?_;refine Ef (EF.alloc aL) fun b2 _=>?_;refine Au ?_;refine Ef (EF.alloc aL) fun b3 _=>?_;refine Au ?_;refine Kx (kD _ ⟨m.kind,0,0,⟨#[]⟩,0,0,0,0,0,0,0,0,0⟩ hk) (.one .p0) fun gt _=>?_;refine Au ?_;refine Kx (kD _ m hk) (.one .p3) fun gf _=>?_;refine Au ?_;refine GC.lp (σ:=Nat × Mg) (fun s=>[(13,.int .i64 (s.1:Int)),(12,.int .i64 ((fds m.kind).length:Int)),(11,.slice (some ⟨gf,0,none⟩) (fds m.kind).length (fds m.kind).length),(4,.slice (some ⟨gt,0,none⟩) (fds m.kind).length (fds m.kind).length),(3,ptr b3),(2,ptr b2)]) (fun s=>Rw 188 5 (.slice (some ⟨gf,0,none⟩) (fds m.kind).length (fds m.kind).length) (fds m.kind).length (sD b1 (fds m.kind))::Bk b1 81 (uW m)::Rw 188 5 (.slice (some ⟨gt,0,none⟩) (fds m.kind).length (fds m.kind).length) (fds m.kind).length (sD b3 (fds m.kind))::Bk b3 81 (uW s.2)::Bk b2 81 [.int .i64 0,.int .u64 0,.int .u64 0,.string ⟨#[]⟩,.int .i64 0,.int .i64 0,.int .i64 0,.int .i64 0,.int .i64 0,.int .i64 0,.int .i64 0,.int .u64 0,.int .u64 0]::R) (fun s=>s.1≤(fds m.kind).length∧s.2.kind=m.kind) (fun s=>(fds m.kind).length - s.1) (0,⟨m.kind,0,0,⟨#[]⟩,0,0,0,0,0,0,0,0,0⟩) (.c rfl (.c rfl (.c rfl (.c rfl (.c rfl (.c rfl .n)))))) .refl (⟨Nat.zero_le _,rfl⟩) (fun s hs=>?_);obtain ⟨i,o⟩:=s;dsimp only at hs;refine Au ?_;refine GC.cond rfl (fun c14=>?_) (fun c14=>?_)
 ·simp only [decide_eq_true_eq] at c14;have hi:i < (fds m.kind).length:=by omega
  have hl8:=qN m.kind;have hok:=T5 hi;generalize hf:(fds m.kind)[i]=f at hok;refine Au ?_;refine Lu rfl (EX.indexAddr (a:=i * 5) rfl rfl sL (by omega) (by simp)) ?_;refine Lu rfl (EX.rW (cs:=RP b1 f) rfl (mN rfl) rfl (fun j hj=>by rw [← hf]; exact nA hi j hj)) ?_;refine Ef (EF.alloc aL) fun b6 _=>?_;refine Au ?_;refine GC.cond rfl (fun c20=>?_) (fun c20=>?_)
  ·have ht:=(wT _ _ _).1 c20;refine Au ?_;refine Gr 11 (.t (.t (.t (.t (.f (.t .e)))))) ?_;refine Dq 9 [0,1] ?_;refine Dv 2 rfl (fun X=>EX.indexAddr (a:=i * 5) rfl rfl sL (by omega) (by simp)) ?_;refine Dq 7 [3] ?_;refine Dv 4 rfl (fun X=>EX.tU rfl (TZ hi (by rw [hf]; exact hok) (by rw [hf]; exact ht)) oN) ?_;refine Dq 5 [5] ?_;refine Dv 6 rfl (fun X=>EX.ld rfl (BT hok ht) oN) ?_;refine Dq 1 [7,8,9] ?_;refine Ga 10 ?_;refine Au ?_;refine D.n (.t0 (.t0 (.t0 (.t0 (.t1 .refl))))) ?_;refine Gd ?_;refine Au ?_;refine La ?_;refine Au ?_;exact GE.ag (s:=(i,o)) (i + 1,{ o with offer:=m.offer }) (.c (by rw [← Int.natCast_succ]; rfl) (.c rfl (.c rfl (.c rfl (.c rfl (.c rfl .n)))))) (.t1 (.t1 (.t1 (.t1 (.t1 (.d .refl)))))) (by dsimp only; omega) (⟨by dsimp only; omega,hs.2⟩)
  have h2:=JP c20;refine Au ?_;refine Gr 7 (.t (.t (.f (.t (.f (.t .e)))))) ?_;refine Dr.run 2 [0,1,2,3,4] rfl (by kernel_rfl) rfl (.m rfl (.m rfl (.v (fun X=>EX.indexAddr (a:=i * 5) rfl rfl sL (by omega) (by simp)) rfl rfl (.v (fun X=>EX.rW (cs:=RP b3 f) rfl (mN rfl) rfl (fun j hj=>by rw [← hf]; exact nA hi j hj)) rfl rfl (.k rfl (mN rfl) rfl .s))))) ?_;refine Ga 5 ?_;refine Kx (vA _ m f hok h2) (.one .p2) fun z hz=>?_;refine D.n (.t1 (.t1 (.t1 (.t2 .refl)))) ?_;refine Ga 6 ?_;refine Kx (MW _ o f _ hok h2) (.one .p4) fun mm hmm=>?_;refine D.n (.t2 (.t2 (.t2 (.t2 .refl)))) ?_;refine Gd ?_;refine Au ?_;refine La ?_;refine Au ?_;exact GE.ag (s:=(i,o)) (i + 1,mm) (.c (by rw [← Int.natCast_succ]; rfl) (.c rfl (.c rfl (.c rfl (.c rfl (.c rfl .n)))))) (.t3 (.t1 (.t2 (.t0 (.t1 (.d .refl)))))) (by dsimp only; omega) (⟨by dsimp only; omega,hmm.1.trans hs.2⟩)
 refine Au ?_;refine GE.tO rfl (.fV rfl .p4 mN rfl) (fun w h=>?_);exact ⟨o,hs.2,rfl,h.part (.d (.d (.d (.d (.d .refl)))))⟩
theorem EX.aIq {P:Program} {W0 kn L d g T ty' x y ty ps af a n c e} (hx:ev kn x=some (.slice a n c)) (hy:ev kn y=some (.slice none 0 0)) (hT:P.underlying T=some (.slice e)):EX P W0 kn L ⟨d,.binOp .neq T x y ty',ty,ps,af,g⟩ (.bool (!a.isNone)):=fun ρ w he hs=>by
 have hg:(eqGuard .neq T x y (.slice a n c) (.slice none 0 0)).run P w=.ok () w:=by simp [eqGuard]
 simp only [execOp,he x _ hx,he y _ hy,Sem.run_bind,hg,Result.andThen_ok,Go.run_neq_slice_nil w _ _ _ _ _ hT]; rfl
def aFe (t u:Mg):Bool:=decide (t.kind=u.kind) && (decide (t.src=u.src) && (decide (t.dst=u.dst) && (decide (t.offer.toList=u.offer.toList) && (decide (t.slot=u.slot) && (decide (t.code=u.code) && (decide (t.e=u.e) && (decide (t.ek=u.ek) && (decide (t.box=u.box) && (decide (t.c1=u.c1) && (decide (t.c2=u.c2) && (decide (t.epoch=u.epoch) && (decide (t.n=u.n) && true))))))))))))
theorem aEq {p:Prop} [Decidable p] {b:Bool} {w:World}:(if p then Result.ok b w else Result.ok false w)=Result.ok (decide p && b) w:=by
 by_cases h:p <;> simp [h]
theorem aSh (t u:Mg) (w:World):(Op.equalIn 10000 81 (CY t) (CY u)).run Tryz.prog w=.ok (aFe t u) w:=by
 have hS:Tryz.prog.underlying 81=some (.struct (Tryz.prog.fieldsOf 81)):=by kernel_rfl
 have u3:=Tryz.underlying3;have u9:=Tryz.underlying9;have u30:=Tryz.underlying30;rw [run_equalIn_agg w 9999 81 _ _ hS (by kernel_rfl)];simp only [Program.fieldsOf,Tryz.underlying81]
 go_simp
 simp only [aEq];rfl
theorem EX.aLn {W0 kn L d g ty' x y ty ps af} (t u:Mg) (hx:ev kn x=some (CY t)) (hy:ev kn y=some (CY u)):EX Tryz.prog W0 kn L ⟨d,.binOp .eql 81 x y ty',ty,ps,af,g⟩ (.bool (aFe t u)):=fun ρ w he hs=>by
 have hg:(eqGuard .eql 81 x y (CY t) (CY u)).run Tryz.prog w=.ok () w:=run_eqGuard_agg w .eql 81 x y _ _ (by kernel_rfl);have hb:(binOp .eql 81 (CY t) (CY u)).run Tryz.prog w=.ok (.bool (aFe t u)) w:=by
  have:=run_eql_struct (P:=Tryz.prog) w 81 (uW t).toArray (uW u).toArray;rw [this,aSh]; rfl
 simp only [execOp,he x _ hx,he y _ hy,Sem.run_bind,hg,Result.andThen_ok,hb]; rfl
def okF (m:Mg) (f:Fd):Prop:=(f.t≠2→f.lo≤getM m f∧getM m f≤f.hi)∧(f.t=2→1≤m.offer.size∧m.offer.size≤8)
def okM (m:Mg):Prop:=∀ f∈fds m.kind,okF m f
theorem aCt {m:Mg} (h:∀ j (hj:j < (fds m.kind).length),okF m (fds m.kind)[j]):okM m:=by
 intro f hf;obtain ⟨j,hj,rfl⟩:=List.getElem_of_mem hf;exact h j hj
theorem EL {m:Mg} {i:Nat} {f:Fd} (hi:i < (fds m.kind).length) (hf:(fds m.kind)[i]=f) (h:okF m f) (hs:∀ j (hj:j < (fds m.kind).length),j < i→okF m (fds m.kind)[j]):∀ j (hj:j < (fds m.kind).length),j < i + 1→okF m (fds m.kind)[j]:=by
 intro j hj hji
 by_cases e:j=i
 ·subst e; rw [hf]; exact h
 exact hs j hj (by omega)
theorem rO (m:Mg) (hk:1≤m.kind∧m.kind≤4) (hm:lO m) :
  bQ Tryz.prog 67 [CY m] [] (fun x:Bool=>.bool x) (fun x=>[]) (fun x=>x=true→okM m):=by
 refine Fn.go Tryz.func67 rfl Tryz.ntmps67 rfl (fun W0 R=>?_);refine GC.app .a0 ?_;refine Zt ?_;refine GL.nB (EF.bV rfl) rfl rfl (.free rfl) (fun b1 _=>?_);refine L.v (EX.assign rfl) rfl rfl rfl ?_;refine Zn (Zt ?_);refine K.x (EC.direct eN rfl) (kD _ m hk) (.one .p0) (fun _=>.a2) rfl rfl (.free rfl) (fun gf _=>?_);refine L.v (EX.assign rfl) rfl rfl rfl ?_;refine Zn (Zs (Zt ?_));refine Lr.jF (.m rfl (.v (EX.rT rfl uN) rfl rfl (.m rfl .s))) rfl (GC.block ?_);refine GC.lp (σ:=Nat) (fun s=>[(9,.int .i64 (s:Int)),(8,.int .i64 ((fds m.kind).length:Int)),(7,.slice (some ⟨gf,0,none⟩) (fds m.kind).length (fds m.kind).length),(3,.slice (some ⟨gf,0,none⟩) (fds m.kind).length (fds m.kind).length),(1,ptr b1)]) (fun s=>Rw 188 5 (.slice (some ⟨gf,0,none⟩) (fds m.kind).length (fds m.kind).length) (fds m.kind).length (sD b1 (fds m.kind))::Bk b1 81 (uW m)::R) (fun s=>s≤(fds m.kind).length∧∀ j (hj:j < (fds m.kind).length),j < s→okF m (fds m.kind)[j]) (fun s=>(fds m.kind).length - s) 0 (.c rfl (.c rfl (.c rfl (.c rfl (.c rfl .n))))) .refl (⟨Nat.zero_le _,fun j hj h=>absurd h (by omega)⟩) (fun s hs=>?_);refine Zt ?_;refine L.v (EX.lss rfl rfl) rfl rfl rfl ?_;refine Zn (Zs ?_);refine GC.cond rfl (fun c10=>?_) (fun c10=>?_)
 ·simp only [decide_eq_true_eq] at c10;have hi:s < (fds m.kind).length:=by omega
  have hl8:=qN m.kind;have hok:=T5 hi;generalize hf:(fds m.kind)[s]=f at hok;refine GC.skip (Ze (Zs (GC.block (Zt ?_))));refine Lr.run (.v (EX.indexAddr (a:=s * 5) rfl rfl sL (by omega) (by simp)) rfl rfl (.v (EX.rW (cs:=RP b1 f) rfl mN rfl (fun j hj=>by rw [← hf]; exact nA hi j hj)) rfl rfl .s)) rfl ?_;refine GL.nB (EF.alloc aL) rfl rfl (.free rfl) (fun b5 _=>?_);refine GL.do (EU.st rfl rfl sZ rfl rfl rfl) rfl (.free rfl) ?_;refine Zn (GC.block (Zt ?_));refine Lr.jF (.f rfl fA (.l rfl rfl oN (.v (EX.WM rfl rfl uN) rfl rfl (.a rfl .s)))) rfl ?_;refine GC.cond rfl (fun c13=>?_) (fun c13=>?_)
  ·have ht:=(wT _ _ _).1 c13;refine Zt ?_;refine Lr.run (.f rfl fA (.v (EX.ld rfl (BT hok ht) oN) rfl rfl (.c rfl (.l rfl rfl oN .s)))) rfl ?_;refine K.x (EC.direct eN rfl) (jU _ hm.1) .nil (fun _=>.a0) rfl rfl (.free rfl) (fun zo hzo=>?_);refine L.v (EX.not rfl) rfl rfl rfl ?_;refine Zn ?_;refine GC.cond rfl (fun NQ=>?_) (fun NQ=>?_)
   ·exact aEf
   refine GC.skip (GE.block (GE.block (Ze (Zr ?_))));refine Lr.run (.v (EX.add rfl rfl (wi (by omega))) rfl rfl (.m rfl .s)) rfl (GL.nil ?_);exact GE.ag (s + 1) (.c (by rw [← Int.natCast_succ]; rfl) (.c rfl (.c rfl (.c rfl (.c rfl .n))))) (.t1 (.t1 (.d .refl))) (by omega) (⟨by omega,EL hi hf ⟨fun h=>absurd ht h,fun _=>hzo (by simpa using NQ)⟩ hs.2⟩)
  have h2:=JP c13;refine Zs ?_;refine GC.dr1 13 rfl (by kernel_rfl) (.t (.t .e)) ?_;refine Dr.run 10 [0,2,3] rfl (by kernel_rfl) rfl (.k rfl mN rfl (.f rfl fA (.l rfl rfl oN .s))) ?_;refine GD.act 1 (by kernel_rfl) rfl ?_;refine K.x (EC.direct eN rfl) (vA _ m f hok h2) (.one .p2) (fun _=>.a1) rfl rfl (.free rfl) (fun z hz=>?_);refine D.n (.t1 (.t1 .refl)) ?_;refine Dr.run 7 [4,5] rfl (by kernel_rfl) rfl (.v (fun X=>EX.lss rfl rfl) rfl rfl (.m rfl .s)) ?_;refine GD.case 29 rfl (fun CZ=>?_) (fun CZ=>?_)
  ·refine Dr.run 4 [6,8,9] rfl (by kernel_rfl) rfl (.o rfl (.q CZ) (.o rfl (.q CZ) (.o rfl (.q CZ) .s))) ?_;refine GD.act 7 (by kernel_rfl) rfl ?_;refine GL.off rfl rfl (.guard rfl rfl rfl rfl CZ) ?_;refine D.n (.t1 (.t1 .refl)) ?_;refine Dr.run 0 [10,11,12] rfl (by kernel_rfl) rfl (.o rfl (.q CZ) (.v (fun X=>EX.vX rfl CZ rfl) rfl rfl (.a rfl .s))) ?_;refine GD.done (by kernel_rfl) ?_;refine Ze ?_;refine GC.aQ rfl rfl ?_;exact aEf
  refine Dr.run 4 [6,8,9] rfl (by kernel_rfl) rfl (.g (fun X=>EX.EZ rfl mN rfl) rfl (.q CZ) (.g (fun X=>EX.fieldAddr rfl fA) rfl (.q CZ) (.g (fun X=>EX.ld rfl rfl oN) rfl (.q CZ) .s))) ?_;refine GD.act 7 (by kernel_rfl) rfl ?_;refine K.x (EC.direct eN rfl) (vA _ m f hok h2) (.one .p0) (fun _=>.a1) rfl rfl (.guard rfl rfl rfl rfl CZ) (fun z2 hz2=>?_);refine D.n (.t1 (.t1 .refl)) ?_;refine Dr.run 0 [10,11,12] rfl (by kernel_rfl) rfl (.g (fun X=>EX.gtr rfl rfl) rfl (.q CZ) (.v (fun X=>EX.lG rfl CZ rfl) rfl rfl (.a rfl .s))) ?_;refine GD.done (by kernel_rfl) ?_;refine Ze ?_;refine GC.cond rfl (fun c23=>?_) (fun c23=>?_)
  ·exact aEf
  refine GC.skip (GE.block (GE.block (Ze (Zr ?_))));refine Lr.run (.v (EX.add rfl rfl (wi (by omega))) rfl rfl (.m rfl .s)) rfl (GL.nil ?_);exact GE.ag (s + 1) (.c (by rw [← Int.natCast_succ]; rfl) (.c rfl (.c rfl (.c rfl (.c rfl .n))))) (.t2 (.t0 (.d .refl))) (by omega) (⟨by omega,EL hi hf ⟨fun _=>(by simp only [decide_eq_false_iff_not,decide_eq_true_eq] at *; subst hz; subst hz2; omega),fun h=>absurd h h2⟩ hs.2⟩)
 refine GC.exit (GE.bE (GE.bE (GE.dT ?_)));refine Ze (Zs ?_);refine GC.dr1 9 rfl (by kernel_rfl) (.t (.t .e)) ?_;refine Dr.run 6 [0,1,2] rfl (by kernel_rfl) rfl (.m rfl (.v (fun X=>EX.aIq rfl rfl uN) rfl rfl (.m rfl .s))) ?_;refine GD.case 39 rfl (fun yL=>?_) (fun yL=>?_)
 ·refine Dr.run 4 [3,4] rfl (by kernel_rfl) rfl (.g (fun X=>EX.EZ rfl mN rfl) rfl (.q yL) (.g (fun X=>EX.EZ rfl mN rfl) rfl (.q yL) .s)) ?_;refine GD.act 5 (by kernel_rfl) rfl ?_;refine K.x (EC.direct eN rfl) (WQ m hk) .nil (fun _=>.a0) rfl rfl (.guard rfl rfl rfl rfl yL) (fun mo hmo=>?_);refine D.n .refl ?_;refine Dr.run 0 [6,7,8] rfl (by kernel_rfl) rfl (.g (fun X=>EX.aLn m mo rfl rfl) rfl (.q yL) (.v (fun X=>EX.vX rfl yL rfl) rfl rfl (.a rfl .s))) ?_;exact aKe
 refine Dr.run 4 [3,4] rfl (by kernel_rfl) rfl (.o rfl (.q yL) (.o rfl (.q yL) .s)) ?_;refine GD.act 5 (by kernel_rfl) rfl ?_;refine GL.off rfl rfl (.guard rfl rfl rfl rfl yL) ?_;refine D.n .refl ?_;refine Dr.run 0 [6,7,8] rfl (by kernel_rfl) rfl (.o rfl (.q yL) (.v (fun X=>EX.lG rfl yL rfl) rfl rfl (.a rfl .s))) ?_;exact aKe
end
section
theorem W5 (s t:ByteArray):(s++t).data.toList=s.data.toList++t.data.toList:=by rw [ByteArray.data_append,Array.toList_append]
theorem aSf {k:Int} (hk:k=3):∀ f∈fds k,f.t≠2∧f.hi≤4294967296∧0≤f.lo:=by subst hk; decide
theorem ZA {k:Int} (hk:k=3):(fds k).length=2:=by subst hk; rfl
theorem aEe {p:Prop} (h:p:=by
  refine Lr.jF (.m rfl (.v (EX.eql rfl rfl) rfl rfl .s)) rfl ?_;refine GC.cond rfl (fun c44=>?_) (fun c44=>?_)
  ·refine Zr ?_;refine Lr.run (.k rfl mN rfl (.m rfl .s)) rfl ?_;refine K.x (EC.direct eN rfl) (MW _ m f _ hok h2) (.one .p1) (fun _=>.a1) rfl rfl (.free rfl) (fun mm hmm=>?_);refine Zn (Zt ?_);refine Lr.jF (.m rfl (.m rfl (.a rfl (.a rfl .s)))) rfl ?_;refine GC.ret ?_;refine GE.outs rfl rfl rfl (fun w h=>?_);simp only [decide_eq_true_eq,decide_eq_false_iff_not,ne_eq,Decidable.not_not,Bool.not_eq_true,Bool.not_eq_true',Bool.not_eq_false',Bool.not_eq_false] at *;first
   | exact ⟨(_,_,mm),⟨hmm.1,hmm.2 hm,fun h=>hz.2.1 (by first | exact h | omega)⟩,rfl,h.part (.t0 (.d .refl))⟩
   | exact ⟨(_,_,mm),⟨hmm.1,hmm.2 hm,fun h=>by omega⟩,rfl,h.part (.t0 (.d .refl))⟩
   | exact ⟨(_,_,m),⟨rfl,hm,fun h=>hz.2.1 (by first | exact h | omega)⟩,rfl,h.part (.t0 (.d .refl))⟩
   | exact ⟨(_,_,m),⟨rfl,hm,fun h=>by omega⟩,rfl,h.part (.t0 (.d .refl))⟩
  ·refine GC.skip (Ze (Zt ?_));refine Lr.jF (.m rfl (.m rfl (.a rfl (.a rfl .s)))) rfl ?_;refine GC.ret ?_;refine GE.outs rfl rfl rfl (fun w h=>?_);simp only [decide_eq_true_eq,decide_eq_false_iff_not,ne_eq,Decidable.not_not,Bool.not_eq_true,Bool.not_eq_true',Bool.not_eq_false',Bool.not_eq_false] at *;first
   | exact ⟨(_,_,mm),⟨hmm.1,hmm.2 hm,fun h=>hz.2.1 (by first | exact h | omega)⟩,rfl,h.part (.t1 (.d .refl))⟩
   | exact ⟨(_,_,mm),⟨hmm.1,hmm.2 hm,fun h=>by omega⟩,rfl,h.part (.t1 (.d .refl))⟩
   | exact ⟨(_,_,m),⟨rfl,hm,fun h=>hz.2.1 (by first | exact h | omega)⟩,rfl,h.part (.t1 (.d .refl))⟩
   | exact ⟨(_,_,m),⟨rfl,hm,fun h=>by omega⟩,rfl,h.part (.t1 (.d .refl))⟩):p:=h
theorem Q4 {p:Prop} (h:p:=by
  refine Au ?_;refine Gq fun w h=>?_;refine ⟨(mg0,_),⟨BP,?_,fun _ _ _=>.inr rfl⟩,rfl,h.part (.d .refl)⟩;exact aEd):p:=h
theorem aEd {p:Prop} (h:p:=by
  first
  | exact fun h=>(by cases h)
  | exact fun h=>absurd h (by simp at *; assumption)):p:=h
theorem aKc {p:Prop} (h:p:=by
  refine Au ?_;refine Gq fun w h=>?_;refine ⟨(mg0,_),⟨BP,?_,fun _ _ _=>.inr rfl⟩,rfl,h.part (.d (.d (.d .refl)))⟩;exact aEd):p:=h
theorem aKb {p:Prop} (h:p:=by
  first
  | exact ⟨Nat.zero_le _,.inl rfl⟩
  | exact ⟨by dsimp only; omega,.inr hs.2.2⟩):p:=h
theorem YO {s t:ByteArray} (h:∃ q,s.data.toList=(3:UInt8)::q):∃ q,(s++t).data.toList=(3:UInt8)::q:=by
 obtain ⟨q,h⟩:=h;exact ⟨q++t.data.toList,by rw [W5,h]; rfl⟩
theorem WW (m:Mg) (hk3:m.kind=3) (hm:lO m) :
  bQ Tryz.prog 29 [CY m] [] (fun x:ByteArray=>.string x) (fun x=>[]) (fun x=>x.size≤20∧(x.size=0∨∃ q,x.data.toList=(3:UInt8)::q)):=by
 refine Fg Tryz.func29 Tryz.ntmps29 fun W0 R=>?_;have hk:1≤m.kind∧m.kind≤4:=by omega
 have hl3:=ZA hk3;refine Au ?_;refine Ef (EF.bV rfl) fun b1 _=>?_;refine Au ?_;refine Ky (rO m hk hm) fun zr hzr=>?_;refine Au ?_;refine GC.cond rfl (fun c8=>?_) (fun c8=>?_)
 ·refine Au ?_;refine Go fun w h=>?_;refine ⟨_,?_,rfl,h.part (.d .refl)⟩;exact aKb
 have hrm:=hzr (by simpa using c8);refine Au ?_;refine Lu rfl (EX.conv rfl uN uN rfl) ?_;refine Ky (pJ _) fun z0 hz0=>?_;refine Au ?_;refine Kx (kD _ m hk) (.one .p0) fun gf _=>?_;refine Au ?_;have hzz:=hz0.1 (by rw [wu (by omega)]; omega) (by rw [wu (by omega)]; omega);rw [show IntKind.u64.wrap m.kind=3 by rw [wu (by omega)]; exact hk3] at hzz;have h0z:0≤(fds m.kind).length∧z0.size≤1 + 6 * 0∧∃ q,z0.data.toList=(3:UInt8)::q:=⟨Nat.zero_le _,by rw [hzz]; decide,[],by rw [hzz]; rfl⟩;refine GC.lp (σ:=Nat × ByteArray) (fun s=>[(15,.int .i64 (s.1:Int)),(14,.int .i64 ((fds m.kind).length:Int)),(13,.slice (some ⟨gf,0,none⟩) (fds m.kind).length (fds m.kind).length),(3,.string s.2),(1,ptr b1)]) (fun s=>Rw 188 5 (.slice (some ⟨gf,0,none⟩) (fds m.kind).length (fds m.kind).length) (fds m.kind).length (sD b1 (fds m.kind))::Bk b1 81 (uW m)::R) (fun s=>s.1≤(fds m.kind).length∧s.2.size≤1 + 6 * s.1∧∃ q,s.2.data.toList=(3:UInt8)::q) (fun s=>(fds m.kind).length - s.1) (0,z0) (.c rfl (.c rfl (.c rfl (.c rfl (.c rfl .n))))) .refl (h0z) (fun s hs=>?_);obtain ⟨i,sb⟩:=s;dsimp only at hs;refine Au ?_;refine GC.cond rfl (fun c16=>?_) (fun c16=>?_)
 ·simp only [decide_eq_true_eq] at c16;have hi:i < (fds m.kind).length:=by omega
  have hl8:=qN m.kind;have hok:=T5 hi;generalize hf:(fds m.kind)[i]=f at hok;have h23:=aSf hk3 f (by rw [← hf]; exact List.getElem_mem hi);have h2:=h23.1;have hof:=hrm f (by rw [← hf]; exact List.getElem_mem hi);refine Au ?_;refine Lu rfl (EX.indexAddr (a:=i * 5) rfl rfl sL (by omega) (by simp)) ?_;refine Lu rfl (EX.rW (cs:=RP b1 f) rfl (mN rfl) rfl (fun j hj=>by rw [← hf]; exact nA hi j hj)) ?_;refine Ef (EF.alloc aL) fun b5 _=>?_;refine Au ?_;refine GC.bH rfl (by rw [← Bool.not_eq_true,wT]; exact h2) ?_;refine Au ?_;refine Kx (vA _ m f hok h2) (.one .p2) fun z hz=>?_;have hzb:z≤4294967296:=by have:=hof.1 h2; omega
  refine Ky (pJ _) fun zv hzv=>?_;refine Lu rfl (EX.KH rfl rfl (by have:=hzv.2.2.1; dsimp only; omega)) ?_;refine Au ?_;refine La ?_;refine Au ?_;exact GE.ag (s:=(i,sb)) (i + 1,sb++zv) (.c (by rw [← Int.natCast_succ]; rfl) (.c rfl (.c rfl (.c rfl (.c rfl .n))))) (.t2 (.t0 (.d .refl))) (by dsimp only; omega) (⟨by dsimp only; omega,by show ByteArray.size (_++_)≤_; rw [ByteArray.size_append]; have:=hzv.2.2.2.2 hzb; omega,YO hs.2.2⟩)
 refine Au ?_;refine Go fun w h=>?_;refine ⟨_,?_,rfl,h.part (.d (.d .refl))⟩;exact aKb
theorem WP (b:Nat) (m:Mg) (f:Fd) (x1:ByteArray) (x2:Int) (hok:f.ok) (hm:lO m) (hz1:x1.size≤1000000) :
  bQ Tryz.prog 74 [.agg (RP b f).toArray,.string x1,.int .i64 x2] [Bk b 81 (uW m)] (fun x:Int × Int × Mg=>.tuple #[.int .i64 x.1,.int .i64 x.2.1]) (fun x=>[Bk b 81 (uW x.2.2)]) (fun x=>x.2.2.kind=m.kind∧lO x.2.2∧(x.2.1=0→0≤x2∧x2 < x.1∧x.1≤x1.size)):=by
 refine Fn.go Tryz.func74 rfl Tryz.ntmps74 rfl (fun W0 R=>?_);refine GC.app .a1 ?_;refine Zt ?_;refine GL.nB (EF.bV rfl) rfl rfl (.free rfl) (fun b3 _=>?_);refine Lr.jF (.a rfl (.a rfl .s)) rfl (Zs (Zt ?_));refine Lr.jF (.f rfl fA (.l rfl rfl oN (.v (EX.WM rfl rfl uN) rfl rfl .s))) rfl ?_;refine GC.cond rfl (fun c16=>?_) (fun c16=>?_)
 ·have ht:=(wT _ _ _).1 c16;refine Zt ?_;refine Lr.run (.m rfl (.m rfl .s)) rfl ?_;refine K.x (EC.direct eN rfl) (DL _ _ _ hz1) .nil (fun _=>.a0) rfl rfl (.free rfl) (fun z hz=>?_);refine Lr.jF (.m rfl (.x rfl rfl (.x rfl rfl (.x rfl rfl (.a rfl (.a rfl (.a rfl .s))))))) rfl (Zt ?_);refine Lr.run (.f rfl fA (.v (EX.ld rfl (BT hok ht) oN) rfl rfl (.m rfl (.c rfl .s)))) rfl ?_;refine GL.do (EU.st rfl rfl sZ rfl rfl rfl) rfl (.free rfl) ?_;refine Zn (Zt ?_);refine Lr.jF (.m rfl (.m rfl (.a rfl (.a rfl .s)))) rfl ?_;refine GC.ret (GE.iH ?_);refine GE.outs rfl rfl rfl (fun w h=>?_);refine ⟨(_,_,{ m with offer:=z.1 }),⟨rfl,⟨Nat.le_trans hz.1 hz1,hm.2⟩,hz.2⟩,rfl,h.part (.t1 (.d .refl))⟩
 have h2:=JP c16;refine GC.skip (Ze (Zt ?_));refine Lr.run (.m rfl (.m rfl .s)) rfl ?_;refine K.x (EC.direct eN rfl) (pK _ _ hz1) .nil (fun _=>.a0) rfl rfl (.free rfl) (fun z hz=>?_);refine Lr.jF (.m rfl (.x rfl rfl (.x rfl rfl (.x rfl rfl (.a rfl (.a rfl (.a rfl .s))))))) rfl (Zs (Zt ?_));refine Lr.run (.m rfl (.v (EX.eql rfl rfl) rfl rfl (.m rfl .s))) rfl ?_;refine GL.case 39 rfl (fun yL=>?_) (fun yL=>?_)
 ·refine Lr.jF (.g (EX.move rfl) rfl (.q yL) (.g (EX.gtr rfl rfl) rfl (.q yL) (.v (EX.vX rfl yL rfl) rfl rfl .s))) rfl ?_;refine GC.cond rfl (fun c42=>?_) (fun c42=>?_)
  ·refine Zr ?_;refine L.v (EX.assign rfl) rfl rfl rfl ?_;refine Zn (Zs (Zt ?_));exact aEe
  refine GC.skip (Ze (Zs (Zt ?_)));exact aEe
 refine Lr.jF (.o rfl (.q yL) (.o rfl (.q yL) (.v (EX.lG rfl yL rfl) rfl rfl .s))) rfl ?_;refine GC.bH rfl rfl ?_;refine GC.skip (Ze (Zs (Zt ?_)));exact aEe
def mg0:Mg:=⟨0,0,0,⟨#[]⟩,0,0,0,0,0,0,0,0,0⟩
theorem BP:lO mg0:=⟨Nat.zero_le _,by decide,by decide⟩
theorem MD (x0:ByteArray) (hz:x0.size≤1000000) :
  bQ Tryz.prog 27 [.string x0] [] (fun x:Mg × Int=>.tuple #[CY x.1,.int .i64 x.2]) (fun x=>[]) (fun x=>lO x.1∧(x.2=0→1≤x.1.kind∧x.1.kind≤4∧okM x.1)∧(∀ c,W7 x0 0 c→c.toNat=3→x.1.kind=3∨x.1.kind=0)):=by
 refine Fg Tryz.func27 Tryz.ntmps27 fun W0 R=>?_;refine Au ?_;refine Ef (EF.alloc aL) fun b2 _=>?_;refine Au ?_;refine GC.cond rfl (fun c12=>?_) (fun c12=>?_)
 ·exact Q4
 refine Au ?_;refine Ky (pK _ _ hz) fun z hz1=>?_;obtain ⟨hz2,hz3,hz7⟩:=hz1;refine Au ?_;refine GC.cond rfl (fun c20=>?_) (fun c20=>?_)
 ·exact Q4
 refine Au ?_;refine GL.case 28 rfl (fun SN=>?_) (fun SN=>?_)
 ·refine Au ?_;refine GC.aQ rfl rfl ?_;exact Q4
 refine Au ?_;refine GC.cond rfl (fun c25=>?_) (fun c25=>?_)
 ·exact Q4
 simp only [dB,ne_eq,dC] at *;have hk:1≤z.1∧z.1≤4:=by simp_all; omega
 refine Au ?_;refine Lu rfl (EX.conv rfl uN uN (wi (by omega))) ?_;refine Au ?_;refine Ef (EF.alloc aL) fun b7 _=>?_;refine Au ?_;refine Kx (kD _ ⟨z.1,0,0,⟨#[]⟩,0,0,0,0,0,0,0,0,0⟩ hk) (.one .p0) fun gf _=>?_;refine Au ?_;refine GC.lp (σ:=Nat × Mg × Int) (fun s=>[(38,.int .i64 (s.1:Int)),(37,.int .i64 ((fds z.1).length:Int)),(36,.slice (some ⟨gf,0,none⟩) (fds z.1).length (fds z.1).length),(5,.int .i64 s.2.2),(0,.string x0),(7,ptr b7),(2,ptr b2)]) (fun s=>Rw 188 5 (.slice (some ⟨gf,0,none⟩) (fds z.1).length (fds z.1).length) (fds z.1).length (sD b7 (fds z.1))::Bk b7 81 (uW s.2.1)::Bk b2 81 [.int .i64 0,.int .u64 0,.int .u64 0,.string ⟨#[]⟩,.int .i64 0,.int .i64 0,.int .i64 0,.int .i64 0,.int .i64 0,.int .i64 0,.int .i64 0,.int .u64 0,.int .u64 0]::R) (fun s=>s.1≤(fds z.1).length∧s.2.1.kind=z.1∧lO s.2.1) (fun s=>(fds z.1).length - s.1) (0,⟨z.1,0,0,⟨#[]⟩,0,0,0,0,0,0,0,0,0⟩,z.2.1) (.c rfl (.c rfl (.c rfl (.c rfl (.c rfl (.c rfl (.c rfl .n))))))) .refl (⟨Nat.zero_le _,rfl,BP⟩) (fun s hs=>?_);obtain ⟨i,m,at_⟩:=s;dsimp only at hs;refine Au ?_;refine GC.cond rfl (fun V6=>?_) (fun V6=>?_)
 ·simp only [decide_eq_true_eq] at V6;have hi:i < (fds z.1).length:=by omega
  have hl8:=qN z.1;have hok:=T5 hi;generalize hf:(fds z.1)[i]=f at hok;refine Au ?_;refine Lu rfl (EX.indexAddr (a:=i * 5) rfl rfl sL (by omega) (by simp)) ?_;refine Lu rfl (EX.rW (cs:=RP b7 f) rfl (mN rfl) rfl (fun j hj=>by rw [← hf]; exact nA hi j hj)) ?_;refine Ef (EF.alloc aL) fun b9 _=>?_;refine Au ?_;refine Kx (WP _ m f _ _ hok hs.2.2 hz) (.one .p2) fun r hr=>?_;refine Au ?_;refine GC.cond rfl (fun c50=>?_) (fun c50=>?_)
  ·refine Au ?_;refine Gq fun w h=>?_;refine ⟨(mg0,_),⟨BP,?_,fun _ _ _=>.inr rfl⟩,rfl,h.part (.d (.d (.d (.d .refl))))⟩;exact aEd
  refine Au ?_;refine La ?_;refine Au ?_;exact GE.ag (s:=(i,m,at_)) (i + 1,r.2.2,r.1) (.c (by rw [← Int.natCast_succ]; rfl) (.c rfl (.c rfl (.c rfl (.c rfl (.c rfl (.c rfl .n))))))) (.t2 (.t0 (.t1 (.d .refl)))) (by dsimp only; omega) (⟨by dsimp only; omega,hr.1.trans hs.2.1,hr.2.1⟩)
 refine Au ?_;refine GL.case 58 rfl (fun g58=>?_) (fun g58=>?_)
 ·refine Au ?_;refine GC.aQ rfl rfl ?_;exact aKc
 refine Au ?_;refine K.x (EC.direct eN rfl) (rO m (by rw [hs.2.1]; exact hk) hs.2.2) .nil (fun _=>.a0) rfl rfl (.guard rfl rfl rfl rfl g58) (fun zr hzr=>?_);refine Au ?_;refine GC.cond rfl (fun c62=>?_) (fun c62=>?_)
 ·exact aKc
 refine Au ?_;refine Gq fun w h=>?_;refine ⟨(m,0),⟨hs.2.2,fun _=>⟨by rw [hs.2.1]; exact hk.1,by rw [hs.2.1]; exact hk.2,hzr (by simp_all)⟩,fun c h1 h2=>.inl ?_⟩,rfl,h.part (.d (.d (.d .refl)))⟩;have:=hz7 c h1 (by omega);rw [hs.2.1,this]; dsimp only; omega
theorem QC (m:Mg) (hk:m.kind=0∨m.kind=3) :
  bQ Tryz.prog 169 [CY m] [] (fun x:Unit=>.slice none 0 0) (fun x=>[]) (fun x=>True):=by
 refine Fg Tryz.func169 Tryz.ntmps169 fun W0 R=>?_;refine Au ?_;refine Ef (EF.bV rfl) fun b1 _=>?_;refine Au ?_;refine GC.bH rfl (decide_eq_false (by omega)) ?_;refine Au ?_;refine GC.bH rfl (decide_eq_false (by omega)) ?_;refine Au ?_;refine GC.bH rfl (decide_eq_false (by omega)) ?_;refine Au ?_;refine Go fun w h=>?_;exact ⟨(),trivial,rfl,h.part (.d .refl)⟩
end
section
open Go.ChangeMaps (setBlock)
open EV (aC)
theorem IX:dX Tryz.prog 30 (aC .u64):=EV.oR Tryz.underlying30 rfl
theorem yI:dX Tryz.prog 3 (aC .i64):=EV.oR Tryz.underlying3 rfl
section
variable {P:Program} {W0 W w:World} {L R:List aA} {kn:Kn} {b:Nat} {k:IntKind} {aD:List (Int × Value)} {es:Array MapEntry} {ck:Nat}
theorem iZ (h:aB W0 W (Mp (aC k) b aD::L)):∃ q:{ q:Array MapEntry × Nat // cX (aC k) aD q.1 q.2 },aB W0 W (EV.Hp b (.map q.1.1 q.1.2)::L):=by
 obtain ⟨es,ck,hb,hen⟩:=h.mp .here;refine ⟨⟨(es,ck),hen⟩,?_⟩;obtain ⟨hB,A,h1,h2,h3⟩:=h;unfold Mp at h1;exact ⟨hB,A,⟨hb,h1.2⟩,h2,h3⟩
theorem kY (h:aB W0 W (EV.Hp b (.map es ck)::L)) (he:cX (aC k) aD es ck):aB W0 W (Mp (aC k) b aD::L):=by
 obtain ⟨hB,A,h1,h2,h3⟩:=h;refine ⟨hB,A,?_,h2,h3⟩;unfold Mp;exact ⟨⟨es,ck,h1.1,he⟩,h1.2⟩
theorem RQ (es:Array MapEntry) (i:Nat):(es.eraseIdxIfInBounds i).toList.Sublist es.toList:=by
 unfold Array.eraseIdxIfInBounds;split
 ·simp only [Array.toList_eraseIdx]; exact List.eraseIdx_sublist _ _
 exact List.Sublist.refl _
theorem DY {K:TypeId} (law:dX P K (aC k)) {T E ty:TypeId} {tys:Array TypeId} (hT:P.underlying T=some (.map K E)) (h0:tys[0]?=some T) (hb:w.heap[b]?=some (.map es ck)) (hen:cX (aC k) aD es ck) (a:Int) :
  ∃ es',(Builtin.delete_ tys ty #[.map (some b),aC k a]).run P w=.ok (.tuple #[]) (setBlock w b (.map es' ck))∧cX (aC k) (EV.iF a aD) es' ck∧es'.toList.Sublist es.toList:=by
 have h1:=run_findKey law a w hen.kv;cases h3:aM a aD 0 with
 | none =>
  refine ⟨es,?_,by rw [EV.sU h3]; exact hen,List.Sublist.refl _⟩;simp only [Builtin.delete_,h0,underlying,Sem.run_bind,run_program,Result.andThen_ok,hT,Sem.run_pure,cH hb,law.check a _ w,h1,h3,dM hb,List.getElem?_toArray,List.getElem?_cons_zero,List.getElem?_cons_succ];rfl
 | some q =>
  obtain ⟨i,u⟩:=q;refine ⟨es.eraseIdxIfInBounds i,?_,by rw [EV.sT h3,Nat.sub_zero]; exact EV.GV hen i,RQ es i⟩;simp only [Builtin.delete_,h0,underlying,Sem.run_bind,run_program,Result.andThen_ok,hT,Sem.run_pure,cH hb,law.check a _ w,h1,h3,dM hb,List.getElem?_toArray,List.getElem?_cons_zero,List.getElem?_cons_succ];rfl
theorem EX.lnM {α:Type} [DecidableEq α] {enc:α→Value} {aD:List (α × Value)} {d g ty ps af T K E x} (hx:ev kn x=some (.map (some b))) [p:fX L b enc aD] (hT:P.underlying T=some (.map K E)):EX P W0 kn L ⟨d,.call { callee:=.builtin .len,args:=#[x],argTypes:=#[T] },ty,ps,af,g⟩ (.int .i64 aD.length):=p.ex.elim fun R p=>EX.aIz hx p hT
theorem EX.lkH {a:Int} {K:TypeId} {d g T E x y ty ps af z} (hx:ev kn x=some (.map (some b))) (p:Pick L (EV.Hp b (.map es ck)) R) (hen:cX (aC k) aD es ck) (hy:ev kn y=some (aC k a)) (law:dX P K (aC k)) (hT:P.underlying T=some (.map K E)) (hz:ZV P E z) :
  EX P W0 kn L ⟨d,.lookup T x y false,ty,ps,af,g⟩ (fT z (look aD a)):=fun ρ w he hs=>by
 have hb:=EV.aB.hp (hs.pick p);simp only [execOp,he x _ hx,he y _ hy,Sem.run_bind,oA law hT hz hb hen a false,Result.andThen_ok]; rfl
theorem EX.aPz {a:Int} {K:TypeId} {d g T E x y ty ps af z v} (hx:ev kn x=some (.map (some b))) (p:Pick L (EV.Hp b (.map es ck)) R) (hen:cX (aC k) aD es ck) (hy:ev kn y=some (aC k a)) (law:dX P K (aC k)) (hT:P.underlying T=some (.map K E)) (hz:ZV P E z) (hv:look aD a=some v) :
  EX P W0 kn L ⟨d,.lookup T x y false,ty,ps,af,g⟩ v:=by have:=EX.lkH (W0:=W0) (d:=d) (g:=g) (ty:=ty) (ps:=ps) (af:=af) hx p hen hy law hT hz; rw [hv] at this; exact this
theorem EF.del {a:Int} {K:TypeId} {d g T E x y ty ps af tys} (hx:ev kn x=some (.map (some b))) (hen:cX (aC k) aD es ck) (hy:ev kn y=some (aC k a)) (law:dX P K (aC k)) (h0:tys[0]?=some T) (hT:P.underlying T=some (.map K E)) :
  EF P W0 kn (EV.Hp b (.map es ck)::L) ⟨d,.call { callee:=.builtin .delete,args:=#[x,y],argTypes:=tys },ty,ps,af,g⟩ (fun _:Array MapEntry=>.tuple #[]) (fun es'=>EV.Hp b (.map es' ck)::L) (fun es'=>cX (aC k) (EV.iF a aD) es' ck∧es'.toList.Sublist es.toList):=fun ρ w he hs=>by
 have hb:=EV.aB.hp hs;obtain ⟨es',h1,h2,h3⟩:=DY (ty:=ty) law hT h0 hb hen a;refine ⟨es',_,⟨h2,h3⟩,?_,EV.aB.zF hs _⟩;simp only [execOp,resolve,invoke,builtin,Sem.run_bind,Sem.run_pure,Result.andThen_ok,List.map_toArray,List.map_cons,List.map_nil,he x _ hx,he y _ hy,h1];rfl
theorem cX.mem (h:cX (aC k) aD es ck) {e:MapEntry} (he:e∈es.toList):∃ p∈aD,e.key=aC k p.1∧e.val=p.2:=by
 have:(e.key,e.val)∈aD.map (fun p=>(aC k p.1,p.2)):=by rw [← h.kv]; exact List.mem_map.2 ⟨e,he,rfl⟩
 obtain ⟨p,hp,e1⟩:=List.mem_map.1 this;injection e1 with e1 e2;exact ⟨p,hp,e1.symm,e2.symm⟩
theorem lY {seen:Array Nat} {e:MapEntry} (h:e∈(leftOf es seen).toList):e∈es.toList:=by
 rw [EV.dJ] at h; exact (List.mem_filter.1 h).1
theorem rV {es':Array MapEntry} {seen:Array Nat} {e:MapEntry} (hn:(es.toList.map (·.born)).Nodup) (he:e∈(leftOf es seen).toList) (hs:es'.toList.Sublist es.toList):(leftOf es' (seen.push e.born)).size < (leftOf es seen).size:=by
 have h1:=(EV.zS hn (seen:=seen) (by rw [← EV.dJ]; exact he)).length_eq;have h2:((leftOf es' (seen.push e.born)).toList).Sublist ((leftOf es (seen.push e.born)).toList):=by rw [EV.dJ,EV.dJ]; exact hs.filter _
 have h3:=h2.length_le;rw [← EV.dJ,← EV.dJ] at h1;simp only [List.length_cons,Array.length_toList] at h1 h3;omega
end
end
section
open EV (aC)
theorem JA {p:Prop} (h:p:=by
  first | exact Nat.zero_le _ | (dsimp only; omega) | (have h4:s.2.size≤4096:=(by simp only [decide_eq_false_iff_not] at *; omega); exact h4)):p:=h
theorem aJ8 {p:Prop} (h:p:=by
  refine Au ?_;refine GC.cond rfl (fun aM4=>?_) (fun aM4=>?_)
  ·simp only [decide_eq_true_eq] at aM4;refine Au ?_;refine Lu rfl (EX.lk (enc:=aC .i64) (a:=(s.1:Int)) rfl rfl yI uN zV) ?_;obtain ⟨sv,hsv,hsz⟩:=aIy (i:=(s.1:Int)) (hxo.put (i:=i) (p:=p) (by omega)).str;rw [hsv];refine Lu rfl (EX.KH rfl rfl (by omega)) ?_;refine Au ?_;refine La ?_;refine Au ?_;exact GE.ag (s.1 + 1,_) (.c (by rw [← Int.natCast_succ]; rfl) (.c rfl (.c rfl (.c rfl .n)))) .refl (by dsimp only; omega) (⟨by dsimp only; omega,by show ByteArray.size (_++_)≤_; rw [ByteArray.size_append]; omega⟩)
  refine Au ?_;refine GC.cond rfl (fun aSw=>?_) (fun aSw=>?_)
  ·exact aJ6
  exact aJ6):p:=h
theorem aJ7 {p:Prop} (h:p:=by
  refine GC.skip (GE.block ?_);refine GE.turn (fun w h=>LW (m1:=m1) (m2:=m2) (LX (x:=x) h)) ?_;exact GE.ag (s:=(seen,es,held,n,ms)) (seen.push e.born,es,held,n,m1++x::m2) (.c rfl (.c rfl (.c rfl (.c rfl .n)))) (.t1 (.t1 (.t1 .refl))) (rV hs.1.nodup he (List.Sublist.refl _)) (hs)):p:=h
theorem aEc {p:Prop} (h:p:=by
  refine Au ?_;refine Gs fun w h=>?_;refine ⟨(_,_,_),?_,rfl,rK hnd hxo (h.part (.t4 (.t4 (.t0 (.t0 (.t1 (.d (.d (.d .refl)))))))))⟩;exact JA):p:=h
theorem aJ6 {p:Prop} (h:p:=by
  refine Au ?_;refine Gs fun w h=>?_;refine ⟨(_,_,_),?_,rfl,IF hnd hzf.1 (h.part (.t3 (.t2 (.t2 (.d (.d .refl))))))⟩;exact JA):p:=h
theorem aJ5 {p:Prop} (h:p:=by
  refine Au ?_;refine Gs fun w h=>?_;refine ⟨(_,_,_),?_,rfl,iM hnd (h.part (.t0 (.t0 (.t0 (.d (.d .refl))))))⟩;exact JA):p:=h
theorem LI (bp bl bm bx:Nat) (sl AQ held cnt since a i n:Int) (p:ByteArray) (aD:List (Int × Value)) :
  bQ Tryz.prog 123 [ptr bp,ptr bm,.agg #[.int .u64 a,.int .i64 i,.int .i64 n,.string p]] [Bk bp 241 [.map (some bl),.int .i64 sl,.int .i64 AQ,.int .i64 held],Bk bm 274 [.int .i64 cnt,.map (some bx),.int .u64 since],Mp (aC .i64) bx aD] (fun x:Bool × Int=>.bool x.1) (fun x=>[Bk bp 241 [.map (some bl),.int .i64 sl,.int .i64 AQ,.int .i64 x.2],Bk bm 274 [.int .i64 cnt,.map (some bx),.int .u64 since],Mp (aC .i64) bx (cG i (.string p) aD)]) (fun x=>True):=by
 refine Fg Tryz.func123 Tryz.ntmps123 fun W0 R=>?_;refine Au ?_;refine Ef (EF.bV rfl) fun b5 _=>?_;refine Au ?_;refine Gr 9 (.t (.t (.t .e))) ?_;refine Dq 1 [0,1,2,3,4,5,6,7] ?_;refine Ga 8 ?_;refine Ed (EU.mu (enc:=aC .i64) (a:=i) rfl rfl rfl yI uN) ?_;refine D.n .refl ?_;refine Gd ?_;refine Au ?_;refine GC.dr [] 10 11 rfl (by kernel_rfl) (.t (.t .e)) ?_;refine Ds 0 ?_;refine Ds 1 ?_;refine Ds 2 ?_;refine D.e 3 (by kernel_rfl) (by kernel_rfl) rfl (fun X=>EX.ld rfl rfl oN) rfl rfl rfl ?_;refine Ds 4 ?_;refine D.e 5 (by kernel_rfl) (by kernel_rfl) rfl (fun X=>EX.ld rfl rfl oN) rfl rfl rfl ?_;refine Ds 6 ?_;refine Dp 7 rfl (fun X=>EX.add rfl rfl rfl) ?_;refine Ds 8 ?_;refine Ds 9 ?_;refine Ga 10 ?_;refine Au ?_;refine D.n1 (by kernel_rfl) .refl ?_;refine Gd ?_;refine Au ?_;refine Gr 11 (.t (.t (.t (.t .e)))) ?_;refine Dq 7 [0,1,2,3] ?_;refine Dv 4 rfl (fun X=>EX.lnM rfl uN) ?_;refine Dq 0 [5,6,7,8,9,10] ?_;refine Gd ?_;refine Au ?_;refine Go fun w h=>?_;exact ⟨(_,_),trivial,rfl,h.part (.t1 (.t1 (.t1 (.d .refl))))⟩
theorem oI (bp bl bm bx:Nat) (sl AQ held cnt since id:Int) (aD ms:List (Int × Value)) (es:Array MapEntry) (ck:Nat) (hen:cX (aC .u64) ms es ck) (hlk:look ms id=some (ptr bm)) (hstr:∀ p∈aD,∃ s,p.2=.string s) :
  bQ Tryz.prog 124 [ptr bp,.int .u64 id] [Bk bp 241 [.map (some bl),.int .i64 sl,.int .i64 AQ,.int .i64 held],EV.Hp bl (.map es ck),Bk bm 274 [.int .i64 cnt,.map (some bx),.int .u64 since],Mp (aC .i64) bx aD] (fun x:Int × Array MapEntry=>.tuple #[]) (fun x=>[Bk bp 241 [.map (some bl),.int .i64 sl,.int .i64 AQ,.int .i64 x.1],EV.Hp bl (.map x.2 ck),Bk bm 274 [.int .i64 cnt,.map (some bx),.int .u64 since],Mp (aC .i64) bx aD]) (fun x=>cX (aC .u64) (EV.iF id ms) x.2 ck∧x.2.toList.Sublist es.toList):=by
 refine Fg Tryz.func124 Tryz.ntmps124 fun W0 R=>?_;refine GC.ex (fun w h=>iZ (h.pick .p3)) (fun q=>?_);obtain ⟨⟨esx,ckx⟩,YN⟩:=q;refine Au ?_;refine Lu rfl (EX.aPz (a:=id) rfl .p2 hen rfl IX uN zV hlk) ?_;refine Au ?_;refine Ef (EV.EF.range rfl uN .p0) fun it _=>?_;refine Au ?_;refine GC.lp (σ:=Array Nat × Int) (fun s=>[(15,.pointer (some ⟨it,0,none⟩)),(0,ptr bp),(1,.int .u64 id)]) (fun s=>EV.Hp it (.mapIter (some bx) ckx s.1 ckx)::EV.Hp bx (.map esx ckx)::Bk bp 241 [.map (some bl),.int .i64 sl,.int .i64 AQ,.int .i64 s.2]::EV.Hp bl (.map es ck)::Bk bm 274 [.int .i64 cnt,.map (some bx),.int .u64 since]::R) (fun s=>True) (fun s=>(leftOf esx s.1).size) (#[],held) (.c rfl (.c rfl (.c rfl .n))) .refl (trivial) (fun s hs=>?_);refine Au ?_;refine EV.GL.next rfl rfl YN.born (fun hz=>?_) (fun e he=>?_)
 ·refine Au ?_;refine GC.bH rfl rfl ?_;refine GC.exit (GE.bE (GE.bE (GE.dT ?_)));refine Ze (Zr ?_);refine Lr.run (.m rfl (.c rfl (.f rfl fA (.l rfl rfl oN (.m rfl .s))))) rfl ?_;refine GL.turn (fun w h=>h.part (.t3 .refl)) ?_;refine GL.aSi (EF.del (a:=id) rfl hen rfl IX rfl uN) rfl (.free rfl) (fun es2 aSa=>?_);refine Au ?_;refine GE.lW rfl (fun w h=>?_);exact ⟨(_,es2),aSa,rfl,(kY (h.part (.t2 (.t2 (.t0 (.t1 (.d .refl)))))) YN).part (.t1 (.t1 (.t1 .refl)))⟩
 refine Au ?_;refine GC.aQ rfl rfl ?_;refine Au ?_;refine Lu rfl (EV.EX.entry rfl (EV.find_born YN.nodup (lY he))) ?_;obtain ⟨pq,hpq,hk1,hv1⟩:=YN.mem (lY he);rw [hk1,hv1];obtain ⟨sv,hsv⟩:=hstr pq hpq;rw [hsv];refine Au ?_;refine Lu rfl (EX.sub rfl rfl rfl) ?_;refine Au ?_;exact GE.ag (s.1.push e.born,_) (.c rfl (.c rfl (.c rfl .n))) .refl (rV YN.nodup he (List.Sublist.refl _)) (trivial)
structure MX where
 id:Int
 b:Nat
 bx:Nat
 cnt:Int
 since:Int
 aD:List (Int × Value)
structure MX.ok (x:MX):Prop where
 cnt:x.cnt≤16
 str:∀ p∈x.aD,∃ s:ByteArray,p.2=.string s∧s.size≤1000
def mxL (x:MX):List aA:=[Bk x.b 274 [.int .i64 x.cnt,.map (some x.bx),.int .u64 x.since],Mp (aC .i64) x.bx x.aD,Fact x.ok]
@[irreducible] def GS (x:MX):aA:=aA.all (mxL x)
def CX (l:List MX):aA:=aA.all (l.map GS)
def lX (l:List MX):List (Int × Value):=l.map fun x=>(x.id,ptr x.b)
structure aAy where
 bl:Nat
 sl:Int
 AQ:Int
 held:Int
 ms:List MX
def UW (bp:Nat) (y:aAy):List aA:=[Bk bp 241 [.map (some y.bl),.int .i64 y.sl,.int .i64 y.AQ,.int .i64 y.held],Mp (aC .u64) y.bl (lX y.ms),CX y.ms,Fact ((lX y.ms).map (·.1)).Nodup]
@[irreducible] def Pool (bp:Nat):aA:=lD fun y=>aA.all (UW bp y)
section
variable {W0 W:World} {L:List aA} {x:MX} {m1 m2:List MX} {bp:Nat}
theorem rJ (h:aB W0 W (Pool bp::L)):∃ y,aB W0 W (UW bp y++L):=by
 unfold Pool at h;obtain ⟨y,h⟩:=h.aP;exact ⟨y,h.hU⟩
theorem zK (y:aAy) (h:aB W0 W (UW bp y++L)):aB W0 W (Pool bp::L):=by
 unfold Pool;exact aB.bR y h.eX
theorem LY (h:aB W0 W (GS x::L)):aB W0 W (mxL x++L):=by unfold GS at h; exact h.hU
theorem LX (h:aB W0 W (mxL x++L)):aB W0 W (GS x::L):=by unfold GS; exact h.eX
theorem EN (h:aB W0 W (CX (m1++x::m2)::L)):aB W0 W (GS x::CX (m1++m2)::L):=by
 unfold CX at *;have h1:=h.hU;have p:(((m1++x::m2).map GS)++L).Perm (GS x::(((m1++m2).map GS)++L)):=by
  rw [List.map_append,List.map_cons,List.map_append,List.append_assoc,List.append_assoc,List.cons_append];exact List.perm_middle
 have h2:=(h1.perm p).perm (List.perm_middle (l₁:=(m1++m2).map GS) (a:=GS x) (l₂:=L)).symm;exact (aB.eX h2).p1
theorem LW (h:aB W0 W (GS x::CX (m1++m2)::L)):aB W0 W (CX (m1++x::m2)::L):=by
 unfold CX at *;have h1:aB W0 W (((m1++m2).map GS)++(GS x::L)):=h.p1.hU;have p:(((m1++m2).map GS)++(GS x::L)).Perm (((m1++x::m2).map GS)++L):=by
  simp only [List.map_append,List.map_cons,List.append_assoc,List.cons_append];exact List.Perm.append_left _ List.perm_middle
 exact (h1.perm p).eX
theorem LZ {l:List MX} {p:Int × Value} (h:p∈lX l):∃ x∈l,p=(x.id,ptr x.b):=by
 obtain ⟨x,hx,e⟩:=List.mem_map.1 h;exact ⟨x,hx,e.symm⟩
theorem iN {l:List (Int × Value)} {a:Int} {v:Value} (hn:(l.map (·.1)).Nodup) (h:(a,v)∈l):look l a=some v:=by
 induction l with
 | nil=>cases h
 | cons p r ih =>
  simp only [List.map_cons,List.nodup_cons] at hn;unfold look;rw [List.find?_cons];rcases List.mem_cons.1 h with rfl | h1
  ·simp
  have hne:¬ a=p.1:=fun e=>hn.1 (by rw [← e]; exact List.mem_map.2 ⟨_,h1,rfl⟩);rw [decide_eq_false hne];exact ih hn.2 h1
theorem rS {l:List (Int × Value)} {a:Int} {v:Value} (h:look l a=some v):(a,v)∈l:=by
 unfold look at h;obtain ⟨p,h1,h2⟩:=Option.map_eq_some_iff.1 h;have h3:=List.mem_of_find?_eq_some h1;have h4:=List.find?_some h1;simp only [decide_eq_true_eq] at h4;subst h4; subst h2;exact h3
theorem QH {l:List (Int × Value)} {a:Int} (h:look l a=none):∀ p∈l,p.1≠a:=by
 unfold look at h;rw [Option.map_eq_none_iff,List.find?_eq_none] at h;intro p hp e;have:=h p hp;simp [e] at this
theorem MA {m1 m2:List MX} {x:MX} (h:((lX (m1++x::m2)).map (·.1)).Nodup):EV.iF x.id (lX (m1++x::m2))=lX (m1++m2):=by
 rw [EV.jB h];unfold lX at *;simp only [List.map_append,List.map_cons,List.map_map,List.nodup_append,List.nodup_cons] at h;obtain ⟨_,⟨h2,_⟩,h3⟩:=h;rw [List.map_append,List.map_cons,List.filter_append,List.filter_cons_of_neg (by simp),List.map_append];congr 1
 ·refine List.filter_eq_self.2 (fun p hp=>?_);simp only [Bool.not_eq_true',decide_eq_false_iff_not];intro e;obtain ⟨y,hy,rfl⟩:=List.mem_map.1 hp;exact h3 y.id (List.mem_map.2 ⟨y,hy,rfl⟩) x.id (by simp) e
 refine List.filter_eq_self.2 (fun p hp=>?_);simp only [Bool.not_eq_true',decide_eq_false_iff_not];intro e;obtain ⟨y,hy,rfl⟩:=List.mem_map.1 hp;exact h2 (List.mem_map.2 ⟨y,hy,e⟩)
theorem WR {m1 m2:List MX} {x:MX} (h:((lX (m1++x::m2)).map (·.1)).Nodup):((lX (m1++m2)).map (·.1)).Nodup:=by
 unfold lX at *;simp only [List.map_append,List.map_cons,List.map_map] at *;exact h.sublist (List.Sublist.append_left (List.sublist_cons_self _ _) _)
end
theorem vY (bp:Nat) (now:Int) :
  bQ Tryz.prog 122 [ptr bp,.int .u64 now] [Pool bp] (fun x:Int=>.int .i64 x) (fun x=>[Pool bp]) (fun x=>True):=by
 refine Fg Tryz.func122 Tryz.ntmps122 fun W0 R=>?_;refine GC.ex (fun w h=>rJ h) (fun y=>?_);obtain ⟨bl,sl,AQ,held,ms⟩:=y;refine GC.app (.c (.c (.c (.c .a0)))) ?_;refine GC.know (fun w h=>(h.pick .p3).aN.1) (fun hnd=>?_);refine GC.ex (fun w h=>iZ (h.pick .p1)) (fun q=>?_);obtain ⟨⟨es0,ck⟩,aSb⟩:=q;refine Au ?_;refine Ef (EV.EF.range rfl uN .p0) fun it _=>?_;refine Au ?_;refine GC.lp (σ:=Array Nat × Array MapEntry × Int × Int × List MX) (fun s=>[(12,.pointer (some ⟨it,0,none⟩)),(0,ptr bp),(1,.int .u64 now),(5,.int .i64 s.2.2.2.1)]) (fun s=>EV.Hp it (.mapIter (some bl) ck s.1 ck)::EV.Hp bl (.map s.2.1 ck)::Bk bp 241 [.map (some bl),.int .i64 sl,.int .i64 AQ,.int .i64 s.2.2.1]::CX s.2.2.2.2::R) (fun s=>cX (aC .u64) (lX s.2.2.2.2) s.2.1 ck∧((lX s.2.2.2.2).map (·.1)).Nodup) (fun s=>(leftOf s.2.1 s.1).size) (#[],es0,held,0,ms) (.c rfl (.c rfl (.c rfl (.c rfl .n)))) (.t0 (.t0 (.t0 (.t0 (.d .refl))))) (⟨aSb,hnd⟩) (fun s hs=>?_);obtain ⟨seen,es,held,n,ms⟩:=s;dsimp only at hs;refine Au ?_;refine EV.GL.next rfl rfl hs.1.born (fun hz=>?_) (fun e he=>?_)
 ·refine Au ?_;refine GC.bH rfl rfl ?_;refine Au ?_;refine Go fun w h=>?_;exact ⟨_,trivial,rfl,zK ⟨bl,sl,AQ,held,ms⟩ (((kY (h.part (.t1 (.t1 (.t1 (.d .refl))))) hs.1).bB hs.2).part (.t2 (.t1 (.t1 .refl))))⟩
 refine Au ?_;refine GC.aQ rfl rfl ?_;refine Au ?_;refine Lu rfl (EV.EX.entry rfl (EV.find_born hs.1.nodup (lY he))) ?_;obtain ⟨pq,hpq,hk1,hv1⟩:=hs.1.mem (lY he);obtain ⟨x,hx,rfl⟩:=LZ hpq;obtain ⟨m1,m2,rfl⟩:=List.append_of_mem hx;rw [hk1,hv1];refine Lr.run (.x rfl rfl (.x rfl rfl (.a rfl (.a rfl .s)))) rfl ?_;refine Zn (Zt ?_);refine GL.turn (fun w h=>h.part (.t3 .refl)) ?_;refine GL.turn (fun w h=>LY (EN h)) ?_;refine GL.turn (fun w h=>(show aB W0 w (Bk x.b 274 [.int .i64 x.cnt,.map (some x.bx),.int .u64 x.since]::Mp (aC .i64) x.bx x.aD::Fact x.ok::CX (m1++m2)::_) from h)) ?_;refine GL.know (fun w h=>(h.pick .p2).aN.1) (fun hxo=>?_);refine Au ?_;refine GL.case 24 rfl (fun g24=>?_) (fun g24=>?_)
 ·refine Au ?_;refine Lr.run (.g (EX.sub rfl rfl rfl) rfl (.q g24) .s) rfl ?_;refine Au ?_;refine GC.cond rfl (fun c32=>?_) (fun c32=>?_)
  ·refine Au ?_;refine Kx (oI _ _ _ _ _ _ _ _ _ _ _ _ _ _ hs.1 (iN hs.2 hpq) (fun p hp=>(hxo.str p hp).imp fun s hs=>hs.1)) (.cons .p6 (.cons .p5 (.cons .p0 (.cons .p0 .nil)))) fun z hz=>?_;refine Au ?_;refine Lu rfl (EX.add rfl rfl rfl) ?_;refine Au ?_;exact GE.ag (s:=(seen,es,held,n,ms)) (seen.push e.born,z.2,z.1,_,m1++m2) (.c rfl (.c rfl (.c rfl (.c rfl .n)))) (.t6 (.t1 (.t0 (.t3 (.d (.d (.d .refl))))))) (rV hs.1.nodup he hz.2) (⟨MA hs.2 ▸ hz.1,WR hs.2⟩)
  exact aJ7
 refine Au ?_;refine GC.bH rfl rfl ?_;exact aJ7
section
variable {W0 W:World} {L:List aA} {m1 m2 ms:List MX} {bp bl bm bx:Nat} {sl AQ held a cnt since:Int} {aD fU:List (Int × Value)} {es:Array MapEntry} {ck:Nat}
theorem iM (hnd:((lX ms).map (·.1)).Nodup) (h:aB W0 W (Bk bp 241 [.map (some bl),.int .i64 sl,.int .i64 AQ,.int .i64 held]::Mp (aC .u64) bl (lX ms)::CX ms::L)):aB W0 W (Pool bp::L) :=
 zK ⟨bl,sl,AQ,held,ms⟩ ((h.bB hnd).part (.take .p1 (.take .p1 (.take .p1 .refl))))
theorem O7 {bx':Nat} {cnt' since':Int}:lX (m1++⟨a,bm,bx,cnt,since,aD⟩::m2)=lX (m1++⟨a,bm,bx',cnt',since',fU⟩::m2):=by simp [lX]
theorem rK (hnd:((lX (m1++⟨a,bm,bx,cnt,since,aD⟩::m2)).map (·.1)).Nodup) (hxo:MX.ok ⟨a,bm,bx,cnt,since,fU⟩)
  (h:aB W0 W (Bk bp 241 [.map (some bl),.int .i64 sl,.int .i64 AQ,.int .i64 held]::Mp (aC .u64) bl (lX (m1++⟨a,bm,bx,cnt,since,aD⟩::m2))::Bk bm 274 [.int .i64 cnt,.map (some bx),.int .u64 since]::Mp (aC .i64) bx fU::CX (m1++m2)::L)):aB W0 W (Pool bp::L):=by
 rw [O7 (fU:=fU) (bx':=bx) (cnt':=cnt) (since':=since)] at h hnd;have h1:aB W0 W (Bk bm 274 [.int .i64 cnt,.map (some bx),.int .u64 since]::Mp (aC .i64) bx fU::Fact (MX.ok ⟨a,bm,bx,cnt,since,fU⟩)::CX (m1++m2)::_):=(h.bB hxo).part (.take .p3 (.take .p3 (.take .p0 (.take .p2 .refl))));have h2:=LW (m1:=m1) (m2:=m2) (LX (x:=⟨a,bm,bx,cnt,since,fU⟩) h1);exact iM hnd (h2.part (.take .p1 (.take .p1 (.take .p0 .refl))))
theorem IF (hnd:((lX (m1++⟨a,bm,bx,cnt,since,aD⟩::m2)).map (·.1)).Nodup) (hen:cX (aC .u64) (EV.iF a (lX (m1++⟨a,bm,bx,cnt,since,aD⟩::m2))) es ck)
  (h:aB W0 W (EV.Hp bl (.map es ck)::Bk bp 241 [.map (some bl),.int .i64 sl,.int .i64 AQ,.int .i64 held]::CX (m1++m2)::L)):aB W0 W (Pool bp::L):=by
 have e:=MA hnd;dsimp only at e;rw [e] at hen;exact iM (WR hnd) ((kY h hen).part (.take .p1 (.take .p0 (.take .p0 .refl))))
theorem vQ {a:Int} {v:Value} {Q:Value→Prop} (hv:Q v):∀ {l:List (Int × Value)},(∀ p∈l,Q p.2)→∀ p∈cG a v l,Q p.2
 | [],_,p,hp=>by simp [cG] at hp; subst hp; exact hv
 | q::r,h,p,hp=>by
  unfold cG at hp;split at hp
  ·rcases List.mem_cons.1 hp with rfl | hp
   ·exact hv
   exact h p (List.mem_cons_of_mem _ hp)
  rcases List.mem_cons.1 hp with rfl | hp
  ·exact h p (by simp)
  exact vQ hv (fun p hp=>h p (List.mem_cons_of_mem _ hp)) p hp
theorem MX.ok.put {i:Int} {p:ByteArray} (h:MX.ok ⟨a,bm,bx,cnt,since,aD⟩) (hp:p.size≤1000):MX.ok ⟨a,bm,bx,cnt,since,cG i (.string p) aD⟩ :=
 ⟨h.cnt,vQ (Q:=fun v=>∃ s:ByteArray,v=.string s∧s.size≤1000) ⟨p,rfl,hp⟩ h.str⟩
theorem aIy {i:Int} (h:∀ p∈aD,∃ s:ByteArray,p.2=.string s∧s.size≤1000):∃ s:ByteArray,fT (.string ⟨#[]⟩) (look aD i)=.string s∧s.size≤1000:=by
 cases hl:look aD i with
 | none=>exact ⟨_,rfl,by decide⟩
 | some v =>
  obtain ⟨s,h1,h2⟩:=h _ (rS hl);exact ⟨s,h1,h2⟩
theorem O6 (h:look (lX ms) a=none) (hnd:((lX ms).map (·.1)).Nodup):cG a (ptr bm) (lX ms)=lX (ms++⟨a,bm,bx,cnt,since,aD⟩::[])∧((lX (ms++⟨a,bm,bx,cnt,since,aD⟩::[])).map (·.1)).Nodup:=by
 have h1:aM a (lX ms) 0=none:=by
  have:=fD a (lX ms) 0;rw [h] at this;simpa using this
 have h2:=QH h;refine ⟨by rw [eD h1]; simp [lX],?_⟩;unfold lX at *;rw [List.map_append,List.map_append];refine List.nodup_append.2 ⟨hnd,by simp,fun x hx y hy=>?_⟩;simp at hy; subst hy;obtain ⟨p,hp,rfl⟩:=List.mem_map.1 hx;exact h2 p hp
end
theorem VB (bp:Nat) :
  bQ Tryz.prog 100 [ptr bp] [Pool bp] (fun x:Int × Int=>.tuple #[.int .i64 x.1,.int .i64 x.2]) (fun x=>[Pool bp]) (fun x=>True):=by
 refine Fg Tryz.func100 Tryz.ntmps100 fun W0 R=>?_;refine GC.ex (fun w h=>rJ h) (fun y=>?_);obtain ⟨bl,sl,AQ,held,ms⟩:=y;refine GC.app (.c (.c (.c (.c .a0)))) ?_;refine GC.know (fun w h=>(h.pick .p3).aN.1) (fun hnd=>?_);refine Au ?_;refine Gr 11 (.t (.t (.t (.t .e)))) ?_;refine Dq 7 [0,1,2,3] ?_;refine Dv 4 rfl (fun X=>EX.lnM rfl uN) ?_;refine Dq 0 [5,6,7,8,9,10] ?_;refine Gd ?_;refine Au ?_;refine Gs fun w h=>?_;exact ⟨(_,_),trivial,rfl,iM hnd (h.part (.t0 (.t0 (.t0 (.d .refl)))))⟩
theorem H7 (bp:Nat) (a i n now:Int) (p:ByteArray) :
  bQ Tryz.prog 77 [ptr bp,.agg #[.int .u64 a,.int .i64 i,.int .i64 n,.string p],.int .u64 now] [Pool bp] (fun x:ByteArray × Bool × Int=>.tuple #[.string x.1,.bool x.2.1,.int .i64 x.2.2]) (fun x=>[Pool bp]) (fun x=>x.1.size≤4096):=by
 refine Fg Tryz.func77 Tryz.ntmps77 fun W0 R=>?_;refine Au ?_;refine Ef (EF.bV rfl) fun b4 _=>?_;refine Au ?_;refine Ky (mQ _ _ _ _) fun z hz=>?_;refine Au ?_;refine GC.cond rfl (fun c17=>?_) (fun c17=>?_)
 ·refine Au ?_;refine Gs fun w h=>?_;refine ⟨(_,_,_),?_,rfl,h.part (.t1 (.d .refl))⟩;exact JA
 have hr:=hz.1 (by simpa using c17);refine Au ?_;refine Kx (vY _ _) (.one .p1) fun ze _=>?_;refine Au ?_;refine GC.cond rfl (fun c23=>?_) (fun c23=>?_)
 ·refine Au ?_;refine Gs fun w h=>?_;refine ⟨(_,_,_),?_,rfl,h.part (.t0 (.d .refl))⟩;exact JA
 refine GC.skip (Ze (Zs ?_));refine GC.ex (fun w h=>rJ h) (fun y=>?_);obtain ⟨bl,sl,AQ,held,ms⟩:=y;refine GC.app (.c (.c (.c (.c .a0)))) ?_;refine GC.know (fun w h=>(h.pick .p3).aN.1) (fun hnd=>?_);refine Gr 12 (.t (.t (.t (.t (.t .e))))) ?_;refine Dq 6 [0,1,2,3,4,5] ?_;refine Dv 6 rfl (fun X=>EX.QI (enc:=aC .u64) (a:=a) rfl rfl IX uN zV) ?_;refine Dq 0 [7,8,9,10,11] ?_;refine Gd ?_;refine Au ?_;refine GC.cond rfl (fun c36=>?_) (fun c36=>?_)
 ·obtain ⟨v,hv⟩:=Option.isSome_iff_exists.1 c36;obtain ⟨x,hx,hpe⟩:=LZ (rS hv);obtain ⟨id,bm,bx,cnt,since,aD⟩:=x;injection hpe with e1 e2;subst e1; subst e2;obtain ⟨m1,m2,rfl⟩:=List.append_of_mem hx;rw [hv];refine Zs ?_;refine GC.turn (fun w h=>h.part (.t2 .refl)) ?_;refine GC.turn (fun w h=>LY (EN h)) ?_;refine GC.turn (fun w h=>(show aB W0 w (Bk bm 274 [.int .i64 cnt,.map (some bx),.int .u64 since]::Mp (aC .i64) bx aD::Fact (MX.ok ⟨a,bm,bx,cnt,since,aD⟩)::CX (m1++m2)::_) from h)) ?_;refine GC.know (fun w h=>(h.pick .p2).aN.1) (fun hxo=>?_);refine Gr 12 (.t (.t (.t (.t (.t (.t (.t (.t .e)))))))) ?_;refine Dq 6 [0,1,2,3,4,5] ?_;refine Dv 6 rfl (fun X=>EX.QI (enc:=aC .i64) (a:=i) rfl rfl yI uN zV) ?_;refine Dq 0 [7,8,9,10,11] ?_;refine Gd ?_;refine Au ?_;refine Gr 8 (.t (.t (.t (.t (.t (.t (.t (.t .e)))))))) ?_;refine Dq 0 [0,1,2,3,4,5,6,7] ?_;refine Gd ?_;refine Au ?_;refine GC.cond rfl (fun c47=>?_) (fun c47=>?_)
  ·exact aEc
  refine Au ?_;refine GC.cond rfl (fun c55=>?_) (fun c55=>?_)
  ·exact aEc
  refine Au ?_;refine Gr 29 (.t (.t (.t (.t (.t (.t (.t (.t .e)))))))) ?_;refine Dq 7 [0,1,2,3,4,5,6,7,8,9,10,11,12,13,14,15,16,17,18,19,20,21] ?_;refine Dh 22 rfl (fun X=>EX.add rfl rfl rfl) (.q rfl) ?_;refine Dq 0 [23,24,25,26,27,28] ?_;refine Gd ?_;refine Au ?_;refine GC.cond rfl (fun c85=>?_) (fun c85=>?_)
  ·exact aEc
  refine Au ?_;refine GC.bH rfl rfl ?_;refine Au ?_;refine Kx (LI _ _ _ _ _ _ _ _ _ _ _ _ _ _) (.cons .p4 (.cons .p0 (.cons .p0 .nil))) fun zp _=>?_;refine Au ?_;refine GC.cond rfl (fun c105=>?_) (fun c105=>?_)
  ·refine Au ?_;refine Gs fun w h=>?_;refine ⟨(_,_,_),?_,rfl,rK hnd (hxo.put (by omega)) (h.part (.t0 (.t4 (.t0 (.t0 (.t1 (.d (.d (.d .refl)))))))))⟩;exact JA
  refine GC.skip (Ze (Zt ?_));refine GL.turn (fun w h=>h.part (.t5 .refl)) ?_;refine GL.ex (fun w h=>iZ h) (fun q=>?_);obtain ⟨⟨es,ck⟩,hen⟩:=q;dsimp only at hen ⊢;refine Au ?_;refine Kw (.direct eN rfl) (oI _ _ _ _ _ _ _ _ _ _ _ _ _ _ hen (iN hnd (by simp [lX])) (fun q hq=>((hxo.put (i:=i) (p:=p) (by omega)).str q hq).imp fun s hs=>hs.1)) (.cons .p1 (.cons .p0 (.cons .p0 (.cons .p0 .nil)))) fun zf hzf=>?_;refine Au ?_;have hct:=hxo.cnt;dsimp only at hct;refine GC.lp (σ:=Nat × ByteArray) (fun s=>[(114,.int .i64 (s.1:Int)),(113,.int .i64 cnt),(9,ptr bm),(13,.string s.2)]) (fun s=>Bk bm 274 [.int .i64 cnt,.map (some bx),.int .u64 since]::Mp (aC .i64) bx (cG i (.string p) aD)::Bk bp 241 [.map (some bl),.int .i64 sl,.int .i64 AQ,.int .i64 zf.1]::EV.Hp bl (.map zf.2 ck)::CX (m1++m2)::R) (fun s=>(s.1:Int)≤max cnt 0∧s.2.size≤1000 * s.1) (fun s=>(cnt - s.1).toNat) (0,⟨#[]⟩) (.c rfl (.c rfl (.c rfl (.c rfl .n)))) (.t2 (.t2 (.t0 (.t0 (.t1 (.d (.d (.d .refl)))))))) (⟨by omega,Nat.zero_le _⟩) (fun s hs=>?_);exact aJ8
 have hno:look (lX ms) a=none:=by cases hl:look (lX ms) a with | none=>rfl | some v=>rw [hl] at c36; cases c36
 rw [hno];refine Au ?_;refine Gr 29 (.t (.t (.t (.t (.t .e))))) ?_;refine Dq 22 [0,1,2,3,4,5,6] ?_;refine Dh 7 rfl (fun X=>EX.lnM rfl uN) (.q rfl) ?_;refine Dq 14 [8,9,10,11,12,13,14] ?_;refine GD.case 71 rfl (fun g71=>?_) (fun g71=>?_)
 ·refine Dq 0 [15,16,17,18,19,20,21,22,23,24,25,26,27,28] ?_;refine Gd ?_;refine Au ?_;refine GC.aQ rfl rfl ?_;exact aJ5
 refine Dq 7 [15,16,17,18,19,20,21] ?_;refine Dh 22 rfl (fun X=>EX.add rfl rfl rfl) (.q g71) ?_;refine Dq 0 [23,24,25,26,27,28] ?_;refine Gd ?_;refine Au ?_;refine GC.cond rfl (fun aMv=>?_) (fun aMv=>?_)
 ·exact aJ5
 refine Au ?_;refine GC.aQ rfl rfl ?_;refine Au ?_;refine Ef (EF.makeMap (aC .i64)) fun B9 _=>?_;refine Au ?_;refine Ef (EF.bV rfl) fun W6 _=>?_;refine Au ?_;refine Gr 8 (.t (.t (.t (.f (.t (.t (.t .e))))))) ?_;refine Dq 1 [0,1,2,3,4,5,6] ?_;refine Ga 7 ?_;refine Ed (EU.mu (enc:=aC .u64) (a:=a) rfl rfl rfl IX uN) ?_;refine D.n (.t0 (.t0 (.t0 (.t1 (.t1 (.t1 .refl)))))) ?_;refine Gd ?_;refine Ze (Zs (Zt ?_));refine GL.turn (fun w h=>h.part (.t3 (.t0 (.t0 (.t1 .refl))))) ?_;obtain ⟨aD,aLb⟩:∃ q:List (Int × Value),q=[]:=⟨_,rfl⟩;obtain ⟨m2,hm2⟩:∃ q:List MX,q=[]:=⟨_,rfl⟩;have hnw:=O6 (bm:=W6) (bx:=B9) (cnt:=n) (since:=now) (aD:=aD) hno hnd;rw [← hm2] at hnw;refine GL.turn (fun w h=>(show aB W0 w (Mp (aC .u64) bl (lX (ms++⟨a,W6,B9,n,now,aD⟩::m2))::Bk W6 274 [.int .i64 n,.map (some B9),.int .u64 now]::Mp (aC .i64) B9 aD::CX (ms++m2)::_) from by rw [← hnw.1,aLb,hm2,List.append_nil]; exact h)) ?_;have hxo:MX.ok ⟨a,W6,B9,n,now,aD⟩:=⟨hr.2.2.2.1,by rw [aLb]; intro p hp; cases hp⟩;replace hnd:=hnw.2;clear hnw hno;obtain ⟨bm,rfl⟩:∃ q,q=W6:=⟨_,rfl⟩;obtain ⟨bx,rfl⟩:∃ q,q=B9:=⟨_,rfl⟩;obtain ⟨m1,rfl⟩:∃ q,q=ms:=⟨_,rfl⟩;obtain ⟨cnt,hcn⟩:∃ q,q=n:=⟨_,rfl⟩;obtain ⟨since,hsc⟩:∃ q,q=now:=⟨_,rfl⟩;rw [← hcn,← hsc] at hnd hxo ⊢;refine Au ?_;refine Kx (LI _ _ _ _ _ _ _ _ _ _ _ _ _ _) (.cons .p4 (.cons .p1 (.cons .p1 .nil))) fun zp _=>?_;refine Au ?_;refine GC.cond rfl (fun aF1=>?_) (fun aF1=>?_)
 ·refine Au ?_;refine Gs fun w h=>?_;refine ⟨(_,_,_),?_,rfl,rK hnd (hxo.put (by omega)) (h.part (.t0 (.t2 (.t0 (.t0 (.t0 (.d (.d .refl))))))))⟩;exact JA
 refine GC.skip (Ze (Zt ?_));refine GL.turn (fun w h=>h.part (.t3 .refl)) ?_;refine GL.ex (fun w h=>iZ h) (fun q=>?_);obtain ⟨⟨es,ck⟩,hen⟩:=q;dsimp only at hen ⊢;refine Au ?_;refine Kw (.direct eN rfl) (oI _ _ _ _ _ _ _ _ _ _ _ _ _ _ hen (iN hnd (by simp [lX])) (fun q hq=>((hxo.put (i:=i) (p:=p) (by omega)).str q hq).imp fun s hs=>hs.1)) (.cons .p1 (.cons .p0 (.cons .p0 (.cons .p0 .nil)))) fun zf hzf=>?_;refine Au ?_;have hct:=hxo.cnt;dsimp only at hct;refine GC.lp (σ:=Nat × ByteArray) (fun s=>[(114,.int .i64 (s.1:Int)),(113,.int .i64 cnt),(9,ptr bm),(13,.string s.2)]) (fun s=>Bk bm 274 [.int .i64 cnt,.map (some bx),.int .u64 since]::Mp (aC .i64) bx (cG i (.string p) aD)::Bk bp 241 [.map (some bl),.int .i64 sl,.int .i64 AQ,.int .i64 zf.1]::EV.Hp bl (.map zf.2 ck)::CX (m1++m2)::R) (fun s=>(s.1:Int)≤max cnt 0∧s.2.size≤1000 * s.1) (fun s=>(cnt - s.1).toNat) (0,⟨#[]⟩) (.c rfl (.c rfl (.c rfl (.c rfl .n)))) (.t2 (.t2 (.t0 (.t0 (.t0 (.d (.d .refl))))))) (⟨by omega,Nat.zero_le _⟩) (fun s hs=>?_);exact aJ8
end
section
theorem gT {l:List Tm} {x:Int}:eI l x=true↔1≤x∧x≤l.length:=by
 unfold eI; rw [Bool.and_eq_true,decide_eq_true_eq,decide_eq_true_eq]
theorem qJ {l:List Tm} {i:Nat} (h:i < l.length):aO l ((i:Int) + 1)=l[i]:=by
 unfold aO;rw [if_pos ⟨by omega,by omega⟩,show ((i:Int) + 1).toNat - 1=i by omega];simp [List.getD_eq_getElem?_getD,List.getElem?_eq_getElem h]
theorem wQ {l:List Tm} {x:Int} (h:eI l x=true):∃ i:Nat,∃ h:i < l.length,x=(i:Int) + 1∧aO l x=l[i]:=by
 obtain ⟨h1,h2⟩:=gT.1 h;obtain ⟨i,rfl⟩:∃ i:Nat,x=(i:Int) + 1:=⟨(x - 1).toNat,by omega⟩;exact ⟨i,by omega,rfl,qJ (by omega)⟩
theorem iD {l m:List Tm} {x:Int} (h:eI l x=true):eI (l++m) x=true:=by
 rw [gT] at h ⊢; rw [List.length_append]; omega
theorem bI {l m:List Tm} {x:Int} (h:eI l x=true):aO (l++m) x=aO l x:=by
 obtain ⟨i,hi,rfl,e⟩:=wQ h;rw [e,qJ (by rw [List.length_append]; omega),List.getElem_append_left hi]
theorem XU {l:List Tm} {t:Tm}:eI (l++[t]) ((l.length:Int) + 1)=true:=by
 rw [gT,List.length_append]; simp; omega
theorem RI {l:List Tm} {t:Tm}:aO (l++[t]) ((l.length:Int) + 1)=t:=by
 rw [qJ (by simp)]; simp
inductive Safe (A:Int→Prop) (l:List Tm):Int→Prop
 | free {x:Int} (hx:eI l x=true) (hk:(aO l x).kind=1∨3≤(aO l x).kind∧(aO l x).kind≤7):Safe A l x
 | zP {x:Int} (hx:eI l x=true) (hk:(aO l x).kind=2) (ha:A (aO l x).n):Safe A l x
 | two {x:Int} (hx:eI l x=true) (hk:(aO l x).kind=8∨(aO l x).kind=11) (ha:Safe A l (aO l x).a) (hb:Safe A l (aO l x).b):Safe A l x
 | key {x:Int} (hx:eI l x=true) (hk:(aO l x).kind=9) (ha:Safe A l (aO l x).a):Safe A l x
 | uS {x:Int} (hx:eI l x=true) (hk:(aO l x).kind=10) (ha:Safe A l (aO l x).a) (hb:Safe A l (aO l x).b) (hc:Safe A l (aO l x).c):Safe A l x
section
variable {A A':Int→Prop} {l l' m:List Tm} {x:Int}
theorem Safe.is (h:Safe A l x):eI l x=true:=by cases h <;> assumption
theorem Safe.app (h:Safe A l x):Safe A (l++m) x:=by
 induction h with
 | free hx hk=>exact .free (iD hx) (by rw [bI hx]; exact hk)
 | zP hx hk ha=>exact .zP (iD hx) (by rw [bI hx]; exact hk) (by rw [bI hx]; exact ha)
 | two hx hk _ _ i1 i2=>exact .two (iD hx) (by rw [bI hx]; exact hk) (by rw [bI hx]; exact i1) (by rw [bI hx]; exact i2)
 | key hx hk _ i1=>exact .key (iD hx) (by rw [bI hx]; exact hk) (by rw [bI hx]; exact i1)
 | uS hx hk _ _ _ i1 i2 i3=>exact .uS (iD hx) (by rw [bI hx]; exact hk) (by rw [bI hx]; exact i1) (by rw [bI hx]; exact i2) (by rw [bI hx]; exact i3)
theorem Safe.more (h:Safe A l x) (hA:∀ n,A n→A' n):Safe A' l x:=by
 induction h with
 | free hx hk=>exact .free hx hk
 | zP hx hk ha=>exact .zP hx hk (hA _ ha)
 | two hx hk _ _ i1 i2=>exact .two hx hk i1 i2
 | key hx hk _ i1=>exact .key hx hk i1
 | uS hx hk _ _ _ i1 i2 i3=>exact .uS hx hk i1 i2 i3
theorem Safe.PZ (h:Safe A l x) (hk:(aO l x).kind=2):A (aO l x).n:=by
 cases h with
 | zP _ _ ha=>exact ha
 | _=>omega
theorem Safe.KT (h:Safe A l x) (hk:(aO l x).kind=8∨(aO l x).kind=11):Safe A l (aO l x).a∧Safe A l (aO l x).b:=by
 cases h with
 | two _ _ ha hb=>exact ⟨ha,hb⟩
 | _=>omega
theorem Safe.R8 (h:Safe A l x) (hk:(aO l x).kind=9):Safe A l (aO l x).a:=by
 cases h with
 | key _ _ ha=>exact ha
 | _=>omega
theorem Safe.KX (h:Safe A l x) (hk:(aO l x).kind=10):Safe A l (aO l x).a∧Safe A l (aO l x).b∧Safe A l (aO l x).c:=by
 cases h with
 | uS _ _ ha hb hc=>exact ⟨ha,hb,hc⟩
 | _=>omega
end
def cM (l:List Tm):Prop:=∀ (i:Nat) (h:i < l.length),l[i].may (l.take i)=true
theorem cM.nil:cM []:=fun i h=>by simp at h
theorem cM.push {l:List Tm} {t:Tm} (h:cM l) (ht:t.may l=true):cM (l++[t]):=by
 intro i hi;rw [List.length_append] at hi;simp only [List.length_cons,List.length_nil] at hi
 by_cases h1:i < l.length
 ·rw [List.getElem_append_left h1,List.take_append_of_le_length (by omega)]; exact h i h1
 obtain rfl:i=l.length:=by omega
 rw [List.getElem_append_right (by omega),List.take_append_of_le_length (by omega),List.take_length];simp only [Nat.sub_self,List.getElem_cons_zero];exact ht
theorem FQ {l:List Tm} {t:Tm} {i:Nat} (h:l.findIdx? (·=t)=some i):∃ h:i < l.length,l[i]=t:=by
 rw [List.findIdx?_eq_some_iff_getElem] at h;obtain ⟨h1,h2,_⟩:=h;exact ⟨h1,by simpa using h2⟩
theorem eY (l:List Tm) (most:Int) (t:Tm) :
  ((bF l most t).1=0∧(bF l most t).2.1≠0∧(bF l most t).2.2=l) ∨
  ((bF l most t).2.1=0∧t.may l=true∧eI (bF l most t).2.2 (bF l most t).1=true∧aO (bF l most t).2.2 (bF l most t).1=t∧((bF l most t).2.2=l∨(bF l most t).2.2=l++[t]∧t∉l∧(l.length:Int) < most)):=by
 unfold bF
 by_cases h:t.may l=true
 ·rw [if_pos h];cases hf:l.findIdx? (·=t) with
  | some i =>
   obtain ⟨hi,e⟩:=FQ hf;refine .inr ⟨rfl,h,?_,?_,.inl rfl⟩
   ·rw [gT]; dsimp only; omega
   dsimp only; rw [qJ hi,e]
  | none =>
   dsimp only
   by_cases hm:most≤(l.length:Int)
   ·rw [if_pos hm]; exact .inl ⟨rfl,by show (4:Int)≠0; decide,rfl⟩
   rw [if_neg hm];refine .inr ⟨rfl,h,XU,RI,.inr ⟨rfl,fun hm=>?_,by omega⟩⟩;rw [List.findIdx?_eq_none_iff] at hf;have:=hf t hm;simp at this
 rw [if_neg h]; exact .inl ⟨rfl,by show (1:Int)≠0; decide,rfl⟩
theorem lT (l:List Tm) (most:Int) (t:Tm):∃ m,(bF l most t).2.2=l++m∧∀ u∈m,u=t:=by
 rcases eY l most t with ⟨_,_,e⟩ | ⟨_,_,_,_,e | ⟨e,_⟩⟩
 ·exact ⟨[],by rw [e]; simp,by simp⟩
 ·exact ⟨[],by rw [e]; simp,by simp⟩
 exact ⟨[t],e,by simp⟩
theorem kS {l:List Tm} {most:Int} {t:Tm} (h:cM l):cM (bF l most t).2.2:=by
 rcases eY l most t with ⟨_,_,e⟩ | ⟨_,h2,_,_,e | ⟨e,_⟩⟩
 ·rw [e]; exact h
 ·rw [e]; exact h
 rw [e]; exact h.push h2
inductive Grow (most:Int) (l:List Tm):List Tm→Prop
 | refl:Grow most l l
 | put {m:List Tm} {t:Tm} (h:Grow most l m) (h2:t.kind≠2) (h10:t.kind≠10):Grow most l (bF m most t).2.2
theorem iL {l:List Tm} {most:Int} {t:Tm} (h:(l.length:Int)≤most):((bF l most t).2.2.length:Int)≤most:=by
 rcases eY l most t with ⟨_,_,e⟩ | ⟨_,_,_,_,e | ⟨e,_,h2⟩⟩
 ·rw [e]; exact h
 ·rw [e]; exact h
 rw [e,List.length_append,List.length_cons,List.length_nil]; omega
theorem Grow.len {most:Int} {l m:List Tm} (g:Grow most l m) (h:(l.length:Int)≤most):(m.length:Int)≤most:=by
 induction g with
 | refl=>exact h
 | put _ _ _ ih=>exact iL ih
theorem Grow.trans {most:Int} {l m n:List Tm} (h:Grow most l m) (h2:Grow most m n):Grow most l n:=by
 induction h2 with
 | refl=>exact h
 | put _ a b ih=>exact ih.put a b
theorem Grow.app {most:Int} {l m:List Tm} (h:Grow most l m):∃ q,m=l++q∧∀ t∈q,t.kind≠2∧t.kind≠10:=by
 induction h with
 | refl=>exact ⟨[],by simp,by simp⟩
 | @put m t _ a b ih =>
  obtain ⟨q,rfl,hq⟩:=ih;obtain ⟨r,e,hr⟩:=lT (l++q) most t;refine ⟨q++r,by rw [e,List.append_assoc],fun u hu=>?_⟩;rcases List.mem_append.1 hu with h | h
  ·exact hq u h
  rw [hr u h]; exact ⟨a,b⟩
theorem Grow.valid {most:Int} {l m:List Tm} (h:Grow most l m) (hl:cM l):cM m:=by
 induction h with
 | refl=>exact hl
 | put _ _ _ ih=>exact kS ih
theorem Grow.is {most:Int} {l m:List Tm} (h:Grow most l m) {x:Int} (hx:eI l x=true):eI m x=true∧aO m x=aO l x:=by
 obtain ⟨q,rfl,_⟩:=h.app;exact ⟨iD hx,bI hx⟩
structure rA (A:Int→Prop) (l:List Tm) (drawn:Int):Prop where
 DX:∀ x,eI l x=true→(aO l x).kind=10→Safe A l x
 wC:∀ t∈l,t.kind=2→t.n≤drawn
 mine:∀ n,A n→n≤drawn
 valid:cM l
def aV (A:Int→Prop) (l:List Tm) (x:Int):Prop:=eI l x=true∧(aO l x).kind=2∧¬ A (aO l x).n
section
variable {A:Int→Prop} {l m:List Tm} {d x most:Int}
theorem aV.not (h:aV A l x):¬ Safe A l x:=fun hs=>h.2.2 (hs.PZ h.2.1)
theorem aV.app (h:aV A l x):aV A (l++m) x:=⟨iD h.1,by rw [bI h.1]; exact h.2.1,by rw [bI h.1]; exact h.2.2⟩
theorem aV.grow (h:aV A l x) (g:Grow most l m):aV A m x:=by
 obtain ⟨q,rfl,_⟩:=g.app; exact h.app
theorem Safe.grow (h:Safe A l x) (g:Grow most l m):Safe A m x:=by
 obtain ⟨q,rfl,_⟩:=g.app; exact h.app
theorem wG {l:List Tm} {x:Int} (h:eI l x=true):aO l x∈l:=by
 obtain ⟨i,hi,_,e⟩:=wQ h;rw [e]; exact List.getElem_mem hi
theorem qK {l m:List Tm} {x:Int} (h:eI l x=false) (h2:eI (l++m) x=true):aO (l++m) x∈m:=by
 obtain ⟨i,hi,rfl,e⟩:=wQ h2;rw [e];have hl:l.length≤i:=by
  rcases Nat.lt_or_ge i l.length with h3 | h3
  ·have:eI l ((i:Int) + 1)=true:=by rw [gT]; omega
   rw [this] at h; cases h
  exact h3
 rw [List.getElem_append_right hl];exact List.getElem_mem _
theorem rA.grow (h:rA A l d) (g:Grow most l m):rA A m d:=by
 have hv:=g.valid h.valid;obtain ⟨q,rfl,hq⟩:=g.app;refine ⟨fun x hx hk=>?_,fun t ht hk=>?_,h.mine,hv⟩
 ·cases hl:eI l x with
  | true=>rw [bI hl] at hk; exact (h.DX x hl hk).app
  | false=>exact absurd hk (hq _ (qK hl hx)).2
 ·rcases List.mem_append.1 ht with h1 | h1
  ·exact h.wC t h1 hk
  exact absurd hk (hq t h1).1
def dR (l:List Tm) (most d:Int):Int × List Tm:=((bF l most ⟨2,⟨#[]⟩,d + 1,0,0,0⟩).1,(bF l most ⟨2,⟨#[]⟩,d + 1,0,0,0⟩).2.2)
theorem rA.draw (h:rA A l d) (most:Int):rA A (dR l most d).2 (d + 1)∧(∃ q,(dR l most d).2=l++q)∧((dR l most d).1=0∨aV A (dR l most d).2 (dR l most d).1) ∧
  rA (fun n=>A n∨n=d + 1) (dR l most d).2 (d + 1)∧((dR l most d).1=0∨Safe (fun n=>A n∨n=d + 1) (dR l most d).2 (dR l most d).1)∧(∀ x,aV A l x→aV (fun n=>A n∨n=d + 1) (dR l most d).2 x):=by
 unfold dR;dsimp only;obtain ⟨q,e,hq⟩:=lT l most ⟨2,⟨#[]⟩,d + 1,0,0,0⟩;have hv:cM (l++q):=e ▸ kS h.valid;have hs:rA A (l++q) (d + 1):=by
  refine ⟨fun x hx hk=>?_,fun t ht hk=>?_,fun n hn=>by have:=h.mine n hn; omega,hv⟩
  ·cases hl:eI l x with
   | true=>rw [bI hl] at hk; exact (h.DX x hl hk).app
   | false=>rw [hq _ (qK hl hx)] at hk; cases hk
  ·rcases List.mem_append.1 ht with h1 | h1
   ·have:=h.wC t h1 hk; omega
   rw [hq t h1]; exact Int.le_refl _
 refine ⟨e ▸ hs,⟨q,e⟩,?_,?_,?_,?_⟩
 ·rcases eY l most ⟨2,⟨#[]⟩,d + 1,0,0,0⟩ with ⟨h1,_⟩ | ⟨_,_,h3,h4,_⟩
  ·exact .inl h1
  refine .inr ⟨h3,by rw [h4],?_⟩;rw [h4];intro ha;have:=h.mine _ ha;dsimp only at this; omega
 ·rw [e];refine ⟨fun x hx hk=>(hs.DX x hx hk).more fun n=>.inl,hs.wC,fun n hn=>?_,hv⟩;rcases hn with hn | hn
  ·have:=h.mine n hn; omega
  omega
 ·rcases eY l most ⟨2,⟨#[]⟩,d + 1,0,0,0⟩ with ⟨h1,_⟩ | ⟨_,_,h3,h4,_⟩
  ·exact .inl h1
  exact .inr (.zP h3 (by rw [h4]) (.inr (by rw [h4])))
 intro x hx;rw [e];have:=hx.app (m:=q);refine ⟨this.1,this.2.1,fun hn=>?_⟩;rcases hn with hn | hn
 ·exact this.2.2 hn
 have h9:=h.wC _ (wG hx.1) hx.2.1;rw [bI hx.1] at hn;omega
structure nH (l:List Tm) (S:Int→Prop):Prop where
 Y5:∀ x,eI l x=true→((aO l x).kind=1∨3≤(aO l x).kind∧(aO l x).kind≤7)→S x
 two:∀ x,eI l x=true→(aO l x).kind=8∨(aO l x).kind=11→S (aO l x).a→S (aO l x).b→S x
 key:∀ x,eI l x=true→(aO l x).kind=9→S (aO l x).a→S x
 uS:∀ x,eI l x=true→(aO l x).kind=10→S (aO l x).a→S (aO l x).b→S (aO l x).c→S x
 pairs:∀ x,eI l x=true→(aO l x).kind=11→S x→S (aO l x).a∧S (aO l x).b
 opens:∀ x,eI l x=true→(aO l x).kind=10→S x→S (aO l x).c
theorem Safe.NN (A:Int→Prop) (l:List Tm):nH l (Safe A l) where
 Y5 x hx hk:=.free hx hk
 two x hx hk ha hb:=.two hx hk ha hb
 key x hx hk ha:=.key hx hk ha
 uS x hx hk ha hb hc:=.uS hx hk ha hb hc
 pairs x hx hk h:=h.KT (.inr hk)
 opens x hx hk h:=(h.KX hk).2.2
theorem rA.make (h:rA A l d) {most:Int} {t:Tm} (ht:t.kind≠2) (he:(bF l most t).2.1=0) (hs:Safe A (bF l most t).2.2 (bF l most t).1):rA A (bF l most t).2.2 d:=by
 have hv:=kS (most:=most) (t:=t) h.valid;rcases eY l most t with ⟨_,h1,_⟩ | ⟨_,_,h3,h4,e | ⟨e,h5,_⟩⟩
 ·exact absurd he h1
 ·rw [e]; exact h
 rw [e] at hv hs h3 h4 ⊢;refine ⟨fun x hx hk=>?_,fun u hu hk=>?_,h.mine,hv⟩
 ·cases hl:eI l x with
  | true=>rw [bI hl] at hk; exact (h.DX x hl hk).app
  | false =>
   have hx2:=gT.1 hx;have:¬ (1≤x∧x≤l.length):=fun hc=>by rw [gT.2 hc] at hl; cases hl
   rw [List.length_append] at hx2;simp only [List.length_cons,List.length_nil] at hx2;have e2:(bF l most t).1=(l.length:Int) + 1:=by
    have h7:=gT.1 h3;rw [List.length_append] at h7;simp only [List.length_cons,List.length_nil] at h7;rcases Int.lt_or_le (bF l most t).1 ((l.length:Int) + 1) with h8 | h8
    ·exfalso;have h9:eI l (bF l most t).1=true:=by rw [gT]; omega
     rw [bI h9] at h4;exact h5 (h4 ▸ wG h9)
    omega
   rw [e2] at hs;rw [show x=(l.length:Int) + 1 by omega]; exact hs
 rcases List.mem_append.1 hu with h1 | h1
 ·exact h.wC u h1 hk
 simp at h1; rw [h1] at hk; exact absurd hk ht
theorem aV.put {most:Int} {t:Tm} (h:aV A l x):aV A (bF l most t).2.2 x:=by
 obtain ⟨q,e,_⟩:=lT l most t;rw [e]; exact h.app
theorem Safe.put {most:Int} {t:Tm} (h:Safe A l x):Safe A (bF l most t).2.2 x:=by
 obtain ⟨q,e,_⟩:=lT l most t;rw [e]; exact h.app
end
end
section
section
variable {A:Int→Prop} {l m:List Tm} {d x most:Int}
theorem Grow.one (l:List Tm) (most:Int) (t:Tm) (h2:t.kind≠2) (h10:t.kind≠10):Grow most l (bF l most t).2.2:=.put .refl h2 h10
theorem mP (s:ByteArray):Grow most l (TJ most l s).2.2:=.one _ _ _ (by show (1:Int)≠2; decide) (by show (1:Int)≠10; decide)
theorem mZ (a b:Int):Grow most l (tW most l a b).2.2:=.one _ _ _ (by show (8:Int)≠2; decide) (by show (8:Int)≠10; decide)
theorem GF (a b:Int):Grow most l (qQ most l a b).2.2:=.one _ _ _ (by show (9:Int)≠2; decide) (by show (9:Int)≠10; decide)
theorem EB (a:Int):Grow most l (H2 most l a).2.2:=.one _ _ _ (by show (3:Int)≠2; decide) (by show (3:Int)≠10; decide)
theorem zU (a:Int):Grow most l (MH most l a).2.2:=.one _ _ _ (by show (5:Int)≠2; decide) (by show (5:Int)≠10; decide)
theorem aKa {p:Prop} (h:p:=by
  exact .one _ _ _ (by show (4:Int)≠2; decide) (by show (4:Int)≠10; decide)):p:=h
theorem nC (e a b:Int):Grow most l (kG most l e a b).2.2:=by
 unfold kG
 by_cases h:e≠0
 ·rw [if_pos h]; exact .refl
 rw [if_neg h]; exact GF a b
theorem xP (a b:Int):Grow most l (pC most l a b).2.2:=by
 unfold pC;split
 ·exact .refl
 split
 ·exact aKa
 exact aKa
theorem tH (a b:Int):Grow most l (mM most l a b).2.2:=by
 unfold mM;split
 ·exact .refl
 split
 ·exact .refl
 exact .one _ _ _ (by show (7:Int)≠2; decide) (by show (7:Int)≠10; decide)
theorem aDt (a:Int) (b:Int × Int × List Tm):(QE a b).2.2.2=b.2.2:=by unfold QE; split <;> rfl
theorem EQ (a b:Int):Grow most l (rP most l a b).2.2.2:=by
 unfold rP WT;split
 ·exact mZ a b
 rw [aDt];exact ((mZ a b).trans (nC _ _ _)).trans (nC _ _ _)
def nV (l:List Tm) (k x:Int):Prop:=eI l k=true∧(aO l k).kind=9∧eI l (aO l k).a=true∧(aO l (aO l k).a).kind=8∧(aO l (aO l k).a).b=x
theorem nV.grow {k:Int} (h:nV l k x) (g:Grow most l m):nV m k x:=by
 obtain ⟨q,rfl,_⟩:=g.app;obtain ⟨h1,h2,h3,h4,h5⟩:=h;refine ⟨iD h1,?_,?_,?_,?_⟩ <;> rw [bI h1]
 ·exact h2
 ·exact iD h3
 ·rw [bI h3]; exact h4
 rw [bI h3]; exact h5
theorem nV.D1 {k:Int} (h:nV l k x) (hs:aV A l x):¬ Safe A l k:=by
 obtain ⟨h1,h2,h3,h4,h5⟩:=h;intro hk;have:=((hk.R8 h2).KT (.inl h4)).2;rw [h5] at this;exact hs.not this
theorem UK {t:Tm} (h:(bF l most t).2.1=0):eI (bF l most t).2.2 (bF l most t).1=true∧aO (bF l most t).2.2 (bF l most t).1=t:=by
 rcases eY l most t with ⟨_,h1,_⟩ | ⟨_,_,h3,h4,_⟩
 ·exact absurd h h1
 exact ⟨h3,h4⟩
theorem U6 {e a b:Int} (h:(kG most l e a b).2.1=0):eI (kG most l e a b).2.2 (kG most l e a b).1=true∧aO (kG most l e a b).2.2 (kG most l e a b).1=⟨9,⟨#[]⟩,b,a,0,0⟩:=by
 unfold kG at *;split at h
 ·rename_i h1; exact absurd h h1
 rename_i h1;rw [if_neg h1];exact UK h
theorem O8 {a b:Int} (h:(rP most l a b).2.2.1=0):nV (rP most l a b).2.2.2 (rP most l a b).2.1 b:=by
 unfold rP at *;generalize hr:tW most l a b=r at *;unfold WT at *;split at h
 ·rename_i h1; exact absurd h h1
 rename_i h1;rw [if_neg h1];have h0:(tW most l a b).2.1=0:=by rw [hr]; exact Decidable.not_not.1 h1
 have h3:=UK h0;have hr':bF l most ⟨8,⟨#[]⟩,0,a,b,0⟩=r:=hr;rw [hr'] at h3;generalize hq:kG most r.2.2 r.2.1 r.1 1=q at *;generalize hp:kG most q.2.2 q.2.1 r.1 2=p at *;unfold QE at *;split at h
 ·rename_i h2; exact absurd h h2
 rename_i h2;rw [if_neg h2];dsimp only;have h4:(kG most q.2.2 q.2.1 r.1 2).2.1=0:=by rw [hp]; exact Decidable.not_not.1 h2
 have h5:=U6 h4;rw [hp] at h5;have g:Grow most r.2.2 p.2.2:=by rw [← hp,← hq]; exact (nC _ _ _).trans (nC _ _ _)
 obtain ⟨g1,g2⟩:=g.is h3.1;refine ⟨h5.1,by rw [h5.2],?_,?_,?_⟩ <;> rw [h5.2] <;> dsimp only
 ·exact g1
 ·rw [g2,h3.2]
 rw [g2,h3.2]
theorem open_inv {key n beside uS:Int} (h:(pW l key n beside uS).2=0):eI l uS=true∧(aO l uS).kind=10∧(aO l uS).a=key:=by
 unfold pW at h;split at h
 ·cases h
 split at h
 ·cases h
 rename_i h1 h2;refine ⟨?_,?_,?_⟩
 ·cases h3:eI l uS with
  | true=>rfl
  | false=>exact absurd (.inr (.inr h3)) h1
 ·by_cases h3:(aO l uS).kind=10
  ·exact h3
  exact absurd (.inl h3) h2
 by_cases h3:(aO l uS).a=key
 ·exact h3
 exact absurd (.inr (.inl h3)) h2
theorem rA.N8 {key n beside uS:Int} (h:rA A l d) (hk:nV l key x) (hx:aV A l x):(pW l key n beside uS).2≠0:=by
 intro h0;obtain ⟨h1,h2,h3⟩:=open_inv h0;have:=((h.DX uS h1 h2).KX h2).1;rw [h3] at this;exact hk.D1 hx this
theorem gG (y:Sy) (a:Int):Grow most l (kQ most l y a).2.2:=by
 unfold kQ HW;split
 ·exact mZ _ _
 exact mZ _ _
theorem mR (y:Sy) (a:Int):Grow most l (lF most l y a).2.2:=by
 unfold lF LB;split
 ·exact EQ _ _
 exact EQ _ _
theorem DV {y:Sy} {a:Int} (h:(lF most l y a).2.1=0):nV (lF most l y a).2.2 (lF most l y a).1.k a:=by
 unfold lF LB at *;split at h
 ·rename_i h1; exact absurd h h1
 rename_i h1;rw [if_neg h1];exact O8 (Decidable.not_not.1 h1)
theorem tM (s:ByteArray):Grow most l (kR most l s).2.2:=by
 unfold kR BF;split
 ·exact mP _
 exact mP _
theorem OX (y:Sy) (a b e:Int):Grow most l (jR most l y a b e).2.2.2:=by
 unfold jR LA;split
 ·exact .refl
 split
 ·exact gG _ _
 exact gG _ _
theorem kP (y:Sy) (a:Int):Grow most l (gH most l y a).2.2.2:=by
 unfold gH;split
 ·exact .refl
 exact OX _ _ _ _
theorem rA.WG {y:Sy} {uS:Int} (h:rA A l d) (hk:nV l y.k x) (hx:aV A l x):(gH most l y uS).2.2.1≠0:=by
 unfold gH;split
 ·show (7:Int)≠0; decide
 unfold jR;have:=h.N8 (n:=y.n) (beside:=y.h) (uS:=uS) hk hx;rw [if_pos this];exact this
theorem PC {i:Nat} (hv:cM l) (hn:l.Nodup) (hi:i < l.length) (hm:(l.length:Int)≤most):(bF (l.take i) most l[i]).2.2=l.take (i + 1):=by
 unfold bF;rw [if_pos (hv i hi)];have hnot:l[i]∉l.take i:=by
  intro hc;obtain ⟨j,hj,e⟩:=List.getElem_of_mem hc;rw [List.length_take] at hj;rw [List.getElem_take] at e;have:=(List.getElem_inj hn).1 e;omega
 have hf:(l.take i).findIdx? (·=l[i])=none:=by
  rw [List.findIdx?_eq_none_iff];intro x hx;simp only [decide_eq_false_iff_not];rintro rfl;exact hnot hx
 rw [hf];dsimp only;rw [if_neg (by rw [List.length_take]; omega)];dsimp only;rw [List.take_succ_eq_append_getElem hi]
theorem cM.part {i:Nat} {p:Int} (hv:cM l) (hi:i < l.length) (hp:p∈l[i].parts):1≤p∧p≤(i:Int):=by
 have:=hv i hi;unfold Tm.may at this;simp only [Bool.and_eq_true,List.all_eq_true,decide_eq_true_eq] at this;have:=this.2 p hp;rw [List.length_take] at this;omega
theorem cM.kind {i:Nat} (hv:cM l) (hi:i < l.length):1≤l[i].kind∧l[i].kind < 12:=by
 have:=hv i hi;unfold Tm.may at this;simp only [Bool.and_eq_true,decide_eq_true_eq] at this;exact ⟨this.1.1.1.1.1,this.1.1.1.1.2⟩
end
end
section
section
variable (P:Program) (ops:Array Oper) (C:Nat→World→Prop) (s:Nat) (Qx:Exit→Act→World→Prop)
def HK (Q:Exit→Act→World→Prop):Nat→Array Bool→Act→World→Prop
 | 0,listed,a,w=>Region.ready .any ops listed=[]∧Q .normal a w
 | fuel + 1,listed,a,w=>(Region.ready .any ops listed=[]→Q .normal a w) ∧
  ∀ i∈Region.ready .any ops listed,wpOp P ops Qx i (fun a' w'=>C (ph s (listed.setIfInBounds i true)) w'∧HK Q fuel (listed.setIfInBounds i true) a' w') a w
end
section
variable {P:Program} {ops:Array Oper} {C:Nat→World→Prop} {s:Nat} {Q Qx:Exit→Act→World→Prop}
structure XOk (ops:Array Oper) (Qx Q:Exit→Act→World→Prop):Prop where
 out:∀ a w,¬ Qx .outgrown a w
 to:∀ e a w,Qx e a w→Q e a w
 put:∀ (i:Nat) (o:Oper) d v e a w,ops[i]?=some o→o.dst=some d→Qx e (a.put (some d) v) w→Qx e a w
theorem aA8 {o:Oper} {a:Act} {w:World} {K K':Act→World→Prop} (hq:XOk ops Qx Q) (h:∀ a w,K a w→K' a w) (hh:o.wp P a w K Qx):o.wp P a w K' Q:=by
 unfold Oper.wp at *;generalize (execOp a.eval o).run P w=r at *;cases r with
 | ok n w' =>
  cases n <;> simp only [Oper.upon] at hh ⊢
  case value v=>exact h _ _ hh
  case skip=>exact h _ _ hh
  case defer d=>exact h _ _ hh
  case enter f args =>
   refine hh.mono fun e w'' he=>?_;cases e with
   | returned v=>exact h _ _ he
   | panicked ch=>exact hq.to _ _ _ he
   | outgrown=>obtain ⟨_,_,h⟩:=he; exact (hq.out _ _ h).elim
  case row r args=>exact hh.mono fun v w'' hv=>h _ _ hv
 | halt x w' =>
  cases x <;> simp only [Oper.upon] at hh ⊢;exact hq.to _ _ _ hh
theorem SX {i:Nat} {a:Act} {w:World} {K K':Act→World→Prop} (hq:XOk ops Qx Q) (h:∀ a w,K a w→K' a w) (hh:wpOp P ops Qx i K a w):wpOp P ops Q i K' a w:=by
 unfold wpOp at *;split
 ·rename_i ho; simp only [ho] at hh; exact h _ _ hh
 rename_i o ho;simp only [ho] at hh;split
 ·rename_i hw;rw [if_pos hw] at hh;rcases hh with hh | ⟨_,_,_,hh⟩
  ·exact .inl (aA8 hq h hh)
  exact (hq.out _ _ hh).elim
 rename_i hw; rw [if_neg hw] at hh; exact h _ _ hh
theorem OI {oj:Oper} {d:Option Tmp} {v:Value} (hq:XOk ops Qx Q) (hx:∀ e a w,Qx e (Act.put a d v) w→Qx e a w) (hd:∀ e,d=some e→oj.dst≠some e) {a:Act} {K:Act→World→Prop} {r:Result Next} :
  oj.upon P (a.put d v) K Qx r→oj.upon P a (fun a' w'=>K (a'.put d v) w') Qx r:=by
 intro h;have hc:∀ u,(a.put d v).put oj.dst u=(a.put oj.dst u).put d v:=fun u=>Act.put_comm a v u hd;cases r with
 | ok n w' =>
  cases n <;> simp only [Oper.upon] at h ⊢
  case value u=>rw [← hc]; exact h
  case skip=>rw [← hc]; exact h
  case defer dd =>
   rw [Act.put_defers,Act.put_comm _ v undef hd] at h;exact h
  case enter f args =>
   refine Calls.mono h fun e w'' he=>?_;cases e with
   | returned u=>simp only at he ⊢; rw [← hc]; exact he
   | panicked ch=>exact hx _ _ _ he
   | outgrown=>obtain ⟨a1,w1,he⟩:=he; exact (hq.out _ _ he).elim
  case row r args=>exact Rows.mono h fun u w'' hu=>by rw [← hc]; exact hu
 | halt x w' =>
  cases x <;> simp only [Oper.upon] at h ⊢;exact hx _ _ _ h
theorem tF (hq:XOk ops Qx Q):∀ (fuel:Nat) (listed:Array Bool) (a:Act) (w:World),HK P ops C s Qx Q fuel listed a w→wpAny P .any ops Q fuel listed a w
 | 0,_,_,_,h=>h
 | fuel + 1,listed,a,w,h=>⟨h.1,fun i hi=>SX hq (fun a' w' h'=>tF hq fuel _ _ _ h'.2) (h.2 i hi)⟩
variable {ok:Nat→Bool}
theorem OE {j:Nat} {oi oj:Oper} {v:Value} (hq:XOk ops Qx Q) (hx:∀ e a w,Qx e (Act.put a oi.dst v) w→Qx e a w) (hj:ops[j]?=some oj) (hap:oi.apart ops oj=true) (hsi:∀ cs b,oi.op≠.select cs b) (hsj:∀ cs b,oj.op≠.select cs b) {K:Act→World→Prop} {a:Act} {w:World}
  (hy:xX P ops C ok oi v a) (h:wpOp P ops Qx j K (a.put oi.dst v) w):wpOp P ops Qx j (fun a' w'=>xX P ops C ok oi v a'∧K (a'.put oi.dst v) w') a w:=by
 obtain ⟨h1,h2,h3⟩:=Oper.apart_spec hap;have keep:∀ (a:Act),xX P ops C ok oi v a→∀ u,xX P ops C ok oi v (a.put oj.dst u):=fun a hy u=>hy.of_same (execOp_put oi hsi a oj.dst u h3) (wanted_put oi a oj.dst u h3);have keepD:∀ (a:Act) (ds:List Deferred),xX P ops C ok oi v a→xX P ops C ok oi v { a with defers:=ds }:=fun a ds hy=>hy.of_same rfl rfl;unfold wpOp at h ⊢;simp only [hj] at h ⊢;rw [wanted_put oj a oi.dst v h1] at h;split
 ·rename_i hw;rw [if_pos hw] at h;rcases h with h | ⟨_,_,_,hh⟩
  ·refine .inl ?_;unfold Oper.wp at h ⊢;rw [execOp_put oj hsj a oi.dst v h1] at h;have h4:=OI (P:=P) hq hx h2 h;generalize (execOp a.eval oj).run P w=r at h4;cases r with
   | ok n w' =>
    cases n <;> simp only [Oper.upon] at h4 ⊢
    case value u=>exact ⟨keep a hy u,h4⟩
    case skip=>exact ⟨keep a hy _,h4⟩
    case defer dd=>exact ⟨keep _ (keepD a _ hy) _,h4⟩
    case enter f args =>
     refine Calls.mono h4 fun e w'' he=>?_;cases e with
     | returned u=>exact ⟨keep a hy u,he⟩
     | panicked ch=>exact he
     | outgrown=>obtain ⟨_,_,hh⟩:=he; exact (hq.out _ _ hh).elim
    case row r args=>exact Rows.mono h4 fun u w'' hu=>⟨keep a hy u,hu⟩
   | halt x w' =>
    cases x <;> simp only [Oper.upon] at h4 ⊢;exact h4
  exact (hq.out _ _ hh).elim
 rename_i hw;rw [if_neg hw] at h;exact ⟨keep a hy _,by rw [← Act.put_comm a v undef h2]; exact h⟩
theorem DH (hq:XOk ops Qx Q) {i:Nat} {a:Act} {w:World} {K K':Act→World→Prop} (h:∀ a w,K a w→K' a w) (hh:wpOp P ops Qx i K a w):wpOp P ops Qx i K' a w :=
 SX (Q:=Qx) ⟨hq.out,fun _ _ _ h=>h,hq.put⟩ h hh
theorem HJ {i:Nat} {oi:Oper} {v:Value} (hq:XOk ops Qx Q) (hi:ops[i]?=some oi) (hsel:∀ (j:Nat) (o:Oper) cs b,ops[j]?=some o→o.op≠.select cs b) (his:i≠s)
  (hok:ok 0=true) (JM:ok 1=true∨∃ os e,ops[s]?=some os∧e∈os.after∧Region.binds .any e=true∧e.on=i) :
  ∀ (fuel:Nat) (listed:Array Bool) (a:Act) (w:World),
   (∀ j oj,ops[j]?=some oj→j≠i→listed.getD j true=false→(∀ e∈oj.after,Region.binds .any e=true→e.on≠i)→oi.apart ops oj=true) →
   i∈Region.ready .any ops listed→Closed ops listed→C (ph s listed) w→xX P ops C ok oi v a →
   HK P ops C s Qx Q fuel (listed.setIfInBounds i true) (a.put oi.dst v) w→HK P ops C s Qx Q (fuel + 1) listed a w:=by
 have JL:∀ listed:Array Bool,ph s (listed.setIfInBounds i true)=ph s listed:=fun listed=>by unfold ph; rw [getD_set_ne false his]
 have YM:∀ listed:Array Bool,listed.getD i true=false→Closed ops listed→ok (ph s listed)=true:=by
  intro listed hl hc;unfold ph;cases hs:listed.getD s false with
  | false=>exact hok
  | true =>
   rcases JM with h | ⟨os,e,ho,he,hb,hon⟩
   ·exact h
   have:=hc s os ho hs e he hb;rw [hon] at this;rcases Nat.lt_or_ge i listed.size with h' | h'
   ·simp [h'] at hl this; rw [hl] at this; cases this
   simp [Array.getElem?_eq_none h'] at this
 have hx:∀ e a w,Qx e (Act.put a oi.dst v) w→Qx e a w:=fun e a w h=>by
  cases hd:oi.dst with
  | none=>rw [hd] at h; exact h
  | some d=>rw [hd] at h; exact hq.put i oi d v e a w hi hd h
 intro fuel;induction fuel with
 | zero =>
  intro listed a w _ hr hcl hC hy H;have hun:listed.getD i true=false:=(mem_ready.1 hr).1;refine ⟨fun h=>(by rw [h] at hr; cases hr),fun j hj=>?_⟩
  by_cases hji:j=i
  ·subst hji; exact hy.op hi (YM _ hun hcl) hC ⟨by rw [JL]; exact hC,H⟩
  have:=ready_mono hj hji;rw [H.1] at this;cases this
 | succ fuel ih =>
  intro listed a w hfree hr hcl hC hy H;have hun:listed.getD i true=false:=(mem_ready.1 hr).1;refine ⟨fun h=>(by rw [h] at hr; cases hr),fun j hj=>?_⟩
  by_cases hji:j=i
  ·subst hji; exact hy.op hi (YM _ hun hcl) hC ⟨by rw [JL]; exact hC,H⟩
  have h1:=H.2 j (ready_mono hj hji);obtain ⟨hjun,oj,hoj,hall⟩:=mem_ready.1 hj;have hnot:∀ e∈oj.after,Region.binds .any e=true→e.on≠i:=fun e he hb heq=>by
   have h1:=hall e he hb;rw [heq] at h1;rcases Nat.lt_or_ge i listed.size with h' | h'
   ·simp [h'] at hun h1; rw [hun] at h1; cases h1
   simp [Array.getElem?_eq_none h'] at h1
  have h2:=OE hq hx hoj (hfree j oj hoj hji hjun hnot) (fun cs b=>hsel i oi cs b hi) (fun cs b=>hsel j oj cs b hoj) hy h1;have hfree':∀ k ok,ops[k]?=some ok→k≠i→(listed.setIfInBounds j true).getD k true=false →
    (∀ e∈ok.after,Region.binds .any e=true→e.on≠i)→oi.apart ops ok=true:=fun k ok hk hki hun hno=>by
   refine hfree k ok hk hki ?_ hno
   by_cases hjk:j=k
   ·subst hjk; exact hjun
   rw [getD_set_ne true hjk] at hun; exact hun
  refine DH hq (fun a' w' h3=>?_) h2;obtain ⟨h4,h5,h6⟩:=h3;have hij:i≠j:=fun e=>hji e.symm;rw [Array.setIfInBounds_comm _ _ hij] at h5 h6;rw [JL] at h5;exact ⟨h5,ih (listed.setIfInBounds j true) a' w' hfree' (ready_mono hr (Ne.symm hji)) (hcl.set hj) h5 h4 h6⟩
end
section
variable (P:Program) (W0:World) (N:Nat) (ds:List Deferred) (ops:Array Oper) (F F1:List aA) (s:Nat) (Q:Exit→Act→World→Prop) (k0:Kn)
def QX:Exit→Act→World→Prop
 | .panic ch,a,w=>Has N ds k0 a∧∃ L,aB W0 w L∧GE W0 N ds (.panic ch) Q k0 L
 | _,_,_=>False
def pB (ops:Array Oper) (k0:Kn):Bool:=ops.toList.all fun o=>match o.dst with
 | some d=>k0.all fun p=>!Nat.beq p.1 d
 | none=>true
end
section
variable {W0:World} {N:Nat} {ds:List Deferred} {ops:Array Oper} {Q:Exit→Act→World→Prop} {k0:Kn}
theorem IV:∀ {k:Kn} {n:Nat} {v:Value},lk k n=some v→(n,v)∈k
 | [],n,v,h=>by simp [lk] at h
 | (k,u)::r,n,v,h=>by
  simp only [lk] at h;cases hb:Nat.beq k n with
  | true =>
   rw [hb] at h; simp only [cond_true,Option.some.injEq] at h;obtain rfl:=Nat.eq_of_beq_eq_true hb;subst h;exact List.mem_cons_self
  | false=>rw [hb] at h; exact List.mem_cons_of_mem _ (IV h)
theorem xok (h:pB ops k0=true):XOk ops (QX W0 N ds Q k0) Q where
 out a w h:=h
 to e a w h:=by
  cases e with
  | panic ch=>obtain ⟨h1,L,h2,h3⟩:=h; exact h3 a w h1 h2
  | _=>exact h.elim
 put i o d v e a w hi hd hx:=by
  cases e with
  | panic ch =>
   obtain ⟨h1,L,h2,h3⟩:=hx;refine ⟨⟨by have:=h1.size; simpa [Act.put] using this,by have:=h1.defers; simpa [Act.put] using this,fun n u hn=>?_⟩,L,h2,h3⟩;have h4:=h1.known n u hn;unfold pB at h;rw [List.all_eq_true] at h;have h5:=h o (List.mem_of_getElem? (by simpa using hi));rw [hd] at h5;simp only [List.all_eq_true] at h5;have h6:=h5 _ (IV hn);have hne:d≠n:=fun e=>by subst e; simp at h6
   simp only [Act.put] at h4
   rwa [Array.getElem?_setIfInBounds_ne hne] at h4
  | _=>exact hx.elim
end
section
variable (P:Program) (W0:World) (N:Nat) (ds:List Deferred) (ops:Array Oper) (F F1:List aA) (s:Nat) (Q:Exit→Act→World→Prop) (k0:Kn)
def GX (fuel:Nat) (listed:Array Bool) (kn:Kn) (L:List aA):Prop :=
 pB ops k0=true→∀ a w,Has N ds kn a→aB W0 w L→Closed ops listed→Cls W0 F F1 (ph s listed) w→HK P ops (Cls W0 F F1) s (QX W0 N ds Q k0) Q fuel listed a w
def QY (fuel:Nat) (listed:Array Bool):Exit→Act→World→Prop
 | .panic ch,a,w=>QX W0 N ds Q k0 (.panic ch) a w
 | .normal,a,w=>pB ops k0=true→Closed ops listed→Cls W0 F F1 (ph s listed) w∧HK P ops (Cls W0 F F1) s (QX W0 N ds Q k0) Q fuel listed a w
 | _,_,_=>False
end
section
variable {P:Program} {W0:World} {N:Nat} {ds:List Deferred} {ops:Array Oper} {F F1:List aA} {s:Nat} {Q:Exit→Act→World→Prop} {fuel:Nat} {listed:Array Bool} {kn k0:Kn} {L X:List aA}
theorem GC.aL6 {id:Nat} (F F1 X:List aA) (s n:Nat) (hn:ops.size=n) (hm:P.follows .mixedOrders=true) (hL:L.Perm (F++X)) (hQ:pB ops k0=true) (h:GX P W0 N ds ops F F1 s Q k0 n (Array.replicate n false) kn L):GC P W0 N ds (.region id ops true) Q kn L:=by
 subst hn;intro a w ha hs;refine wp_region_any hm ?_;have hs':aB W0 { w with drawn:=w.drawn + 1 } L:=hs.drew;have hno:∀ k,(Array.replicate ops.size false).getD k false=false:=fun k=>by
  rcases Nat.lt_or_ge k ops.size with h | h
  ·simp [h]
  simp [Array.getElem?_eq_none (show (Array.replicate ops.size false).size≤k by simpa using h)]
 have hp:ph s (Array.replicate ops.size false)=0:=by unfold ph; rw [hno]; rfl
 refine tF (xok hQ) _ _ _ _ (h hQ _ _ ha hs' (fun j oj hj hl=>by rw [hno] at hl; cases hl) ?_);rw [hp];exact ⟨X,hs'.perm hL⟩
theorem GX.first {i:Nat} {o:Oper} {v:Value} {d:Nat} (ok:Nat→Bool) (hok:ok 0=true) (hB:dQ ops s listed i=true) (he:ok 1=true∨oW ops s i=true) (hi:ops[i]?=some o) (hd:o.dst=some d) (hN:Nat.blt d N=true) (hy:∀ a,Has N ds kn a→xX P ops (Cls W0 F F1) ok o v a)
  (h:GX P W0 N ds ops F F1 s Q k0 fuel (listed.setIfInBounds i true) ((d,v)::kn) L):GX P W0 N ds ops F F1 s Q k0 (fuel + 1) listed kn L:=by
 intro hQ a w ha hs hcl hC;simp only [dQ,Bool.and_eq_true,Bool.not_eq_true'] at hB;obtain ⟨⟨⟨h1,h2⟩,h3⟩,h4⟩:=hB;have h1':i≠s:=fun e=>by subst e; simp at h1
 have hr:i∈Region.ready .any ops listed:=by simpa using h2
 refine HJ (ok:=ok) (xok hQ) hi (Region.noSelect_spec h4) h1' hok ?_ _ _ _ _ (Region.free_spec hi h3) hr hcl hC (hy a ha) ?_
 ·refine he.imp id fun h=>?_;unfold oW at h;split at h
  ·rename_i os ho;obtain ⟨e,he1,he2⟩:∃ e,e∈os.after∧(Region.binds .any e && Nat.beq e.on i)=true:=by
    rw [← Array.any_toList,List.any_eq_true] at h;obtain ⟨e,h1,h2⟩:=h;exact ⟨e,by simpa using h1,h2⟩
   simp only [Bool.and_eq_true] at he2;exact ⟨os,e,ho,he1,he2.1,Nat.eq_of_beq_eq_true he2.2⟩
  cases h
 rw [hd];refine h hQ _ _ (ha.put d v hN) hs (hcl.set hr) ?_;have:ph s (listed.setIfInBounds i true)=ph s listed:=by unfold ph; rw [getD_set_ne false h1']
 rw [this]; exact hC
theorem GX.val {i:Nat} {o:Oper} {v:Value} {d:Nat} (hB:dQ ops s listed i=true) (he:oW ops s i=true∨∀ p w,Cls W0 F F1 p w→Cls W0 F F1 0 w) (hi:ops[i]?=some o) (hx:∀ X,EX P W0 kn (F++X) o v) (hd:o.dst=some d) (hN:Nat.blt d N=true) (hon:On ops kn o)
  (h:GX P W0 N ds ops F F1 s Q k0 fuel (listed.setIfInBounds i true) ((d,v)::kn) L):GX P W0 N ds ops F F1 s Q k0 (fuel + 1) listed kn L:=by
 rcases he with he | he
 ·refine GX.first (fun p=>Nat.beq p 0) rfl hB (.inr he) hi hd hN (fun a ha=>.inl ⟨hon N ds a ha,fun p hp w' ⟨X',hs'⟩=>?_⟩) h;obtain rfl:p=0:=Nat.eq_of_beq_eq_true hp;exact hx X' a.eval w' ha.ev hs'
 refine GX.first (fun p=>true) rfl hB (.inl rfl) hi hd hN (fun a ha=>.inl ⟨hon N ds a ha,fun p hp w' hc=>?_⟩) h;obtain ⟨X',hs'⟩:=he p w' hc;exact hx X' a.eval w' ha.ev hs'
theorem GX.pure {i:Nat} {o:Oper} {v:Value} {d:Nat} (hB:dQ ops s listed i=true) (hi:ops[i]?=some o) (hx:∀ L,EX P W0 kn L o v) (hd:o.dst=some d) (hN:Nat.blt d N=true) (hon:On ops kn o)
  (h:GX P W0 N ds ops F F1 s Q k0 fuel (listed.setIfInBounds i true) ((d,v)::kn) L):GX P W0 N ds ops F F1 s Q k0 (fuel + 1) listed kn L :=
 GX.first (fun _=>true) rfl hB (.inl rfl) hi hd hN (fun a ha=>.inl ⟨hon N ds a ha,fun p hp w' ⟨X',hs'⟩=>hx _ a.eval w' ha.ev hs'⟩) h
theorem GX.off {i:Nat} {o:Oper} {d:Nat} (hB:dQ ops s listed i=true) (hi:ops[i]?=some o) (hd:o.dst=some d) (hN:Nat.blt d N=true) (hoff:Off ops kn o)
  (h:GX P W0 N ds ops F F1 s Q k0 fuel (listed.setIfInBounds i true) ((d,undef)::kn) L):GX P W0 N ds ops F F1 s Q k0 (fuel + 1) listed kn L :=
 GX.first (fun _=>true) rfl hB (.inl rfl) hi hd hN (fun a ha=>.inr ⟨hoff N ds a ha,rfl⟩) h
theorem GX.gP {i:Nat} {o:Oper} (hi:ops[i]?=some o) (h:GL P W0 N ds ops (QY P W0 N ds ops F F1 s Q k0 fuel (listed.setIfInBounds i true)) [o] kn L) (hQ:pB ops k0=true) (a:Act) (w:World) (ha:Has N ds kn a) (hs:aB W0 w L) (hcl:Closed ops (listed.setIfInBounds i true)) :
  wpOp P ops (QX W0 N ds Q k0) i (fun a' w'=>Cls W0 F F1 (ph s (listed.setIfInBounds i true)) w'∧HK P ops (Cls W0 F F1) s (QX W0 N ds Q k0) Q fuel (listed.setIfInBounds i true) a' w') a w:=by
 have h1:=h a w ha hs;unfold wpOp;simp only [hi];simp only [nP] at h1;have hq:∀ (a:Act) (w:World),¬ QY P W0 N ds ops F F1 s Q k0 fuel (listed.setIfInBounds i true) .outgrown a w:=fun _ _ h=>h;split
 ·rename_i hw;rw [if_pos hw] at h1;rcases h1 with h1 | ⟨_,_,_,hh⟩
  ·refine .inl ?_;unfold Oper.wp at h1 ⊢;generalize (execOp a.eval o).run P w=r at h1 ⊢;cases r with
   | ok n w' =>
    cases n <;> simp only [Oper.upon] at h1 ⊢
    case value u=>exact h1 hQ hcl
    case skip=>exact h1 hQ hcl
    case defer dd=>exact h1 hQ hcl
    case enter f args =>
     refine Calls.mono h1 fun e w'' he=>?_;cases e with
     | returned u=>exact he hQ hcl
     | panicked ch=>exact he
     | outgrown=>obtain ⟨_,_,hh⟩:=he; exact hh.elim
    case row r args=>exact Rows.mono h1 fun _ _ hh=>hh hQ hcl
   | halt x w' =>
    cases x <;> simp only [Oper.upon] at h1 ⊢;all_goals first | exact h1 | exact h1.elim
  exact hh.elim
 rename_i hw;rw [if_neg hw] at h1;exact h1 hQ hcl
theorem GX.act (i:Nat) {o:Oper} (hr:Region.ready .any ops listed=[i]) (hi:ops[i]?=some o) (h:GL P W0 N ds ops (QY P W0 N ds ops F F1 s Q k0 fuel (listed.setIfInBounds i true)) [o] kn L):GX P W0 N ds ops F F1 s Q k0 (fuel + 1) listed kn L:=by
 intro hQ a w ha hs hcl hC;refine ⟨fun e=>(by rw [hr] at e; cases e),fun j hj=>?_⟩;have hj':=hj;rw [hr] at hj;obtain rfl:j=i:=by simpa using hj
 exact GX.gP hi h hQ a w ha hs (hcl.set hj')
theorem GX.xS (i j:Nat) {o o':Oper} (hr:Region.ready .any ops listed=[i,j]) (hi:ops[i]?=some o) (hj:ops[j]?=some o') (h:GL P W0 N ds ops (QY P W0 N ds ops F F1 s Q k0 fuel (listed.setIfInBounds i true)) [o] kn L)
  (h':GL P W0 N ds ops (QY P W0 N ds ops F F1 s Q k0 fuel (listed.setIfInBounds j true)) [o'] kn L):GX P W0 N ds ops F F1 s Q k0 (fuel + 1) listed kn L:=by
 intro hQ a w ha hs hcl hC;refine ⟨fun e=>(by rw [hr] at e; cases e),fun k hk=>?_⟩;have hk':=hk;rw [hr] at hk;rcases (by simpa using hk:k=i∨k=j) with rfl | rfl
 ·exact GX.gP hi h hQ a w ha hs (hcl.set hk')
 exact GX.gP hj h' hQ a w ha hs (hcl.set hk')
theorem GX.aS7 (i j l:Nat) {o o' o'':Oper} (hr:Region.ready .any ops listed=[i,j,l]) (hi:ops[i]?=some o) (hj:ops[j]?=some o') (hl:ops[l]?=some o'') (h:GL P W0 N ds ops (QY P W0 N ds ops F F1 s Q k0 fuel (listed.setIfInBounds i true)) [o] kn L)
  (h':GL P W0 N ds ops (QY P W0 N ds ops F F1 s Q k0 fuel (listed.setIfInBounds j true)) [o'] kn L) (h'':GL P W0 N ds ops (QY P W0 N ds ops F F1 s Q k0 fuel (listed.setIfInBounds l true)) [o''] kn L):GX P W0 N ds ops F F1 s Q k0 (fuel + 1) listed kn L:=by
 intro hQ a w ha hs hcl hC;refine ⟨fun e=>(by rw [hr] at e; cases e),fun k hk=>?_⟩;have hk':=hk;rw [hr] at hk;rcases (by simpa using hk:k=i∨k=j∨k=l) with rfl | rfl | rfl
 ·exact GX.gP hi h hQ a w ha hs (hcl.set hk')
 ·exact GX.gP hj h' hQ a w ha hs (hcl.set hk')
 exact GX.gP hl h'' hQ a w ha hs (hcl.set hk')
theorem GX.done (hr:Region.ready .any ops listed=[]) (h:GE W0 N ds .normal Q kn L):GX P W0 N ds ops F F1 s Q k0 fuel listed kn L:=by
 intro hQ a w ha hs hcl hC;cases fuel with
 | zero=>exact ⟨hr,h a w ha hs⟩
 | succ n=>exact ⟨fun _=>h a w ha hs,fun i hi=>by rw [hr] at hi; cases hi⟩
theorem GC.drx {id:Nat} (k0:Kn) (n:Nat) (hn:ops.size=n) (hm:P.follows .mixedOrders=true) (hL:Split L F X) (hQ:pB ops k0=true) (h:GX P W0 N ds ops F F n Q k0 n (Array.replicate n false) kn L):GC P W0 N ds (.region id ops true) Q kn L :=
 GC.aL6 F F X n n hn hm hL.perm hQ h
theorem X.v (i:Nat) {o:Oper} {v:Value} {d n:Nat} (hB:dQ ops n listed i=true) (hi:ops[i]?=some o) (hx:∀ X,EX P W0 kn (F++X) o v) (hd:o.dst=some d) (hN:Nat.blt d N=true) (hg:o.guard=none)
  (h:GX P W0 N ds ops F F n Q k0 fuel (listed.setIfInBounds i true) ((d,v)::kn) L):GX P W0 N ds ops F F n Q k0 (fuel + 1) listed kn L:=GX.val hB (.inr BM) hi hx hd hN (.free hg) h
theorem X.p (i:Nat) {o:Oper} {v:Value} {d s:Nat} {F1:List aA} (hB:dQ ops s listed i=true) (hi:ops[i]?=some o) (hx:∀ L,EX P W0 kn L o v) (hd:o.dst=some d) (hN:Nat.blt d N=true) (hg:o.guard=none)
  (h:GX P W0 N ds ops F F1 s Q k0 fuel (listed.setIfInBounds i true) ((d,v)::kn) L):GX P W0 N ds ops F F1 s Q k0 (fuel + 1) listed kn L:=GX.pure hB hi hx hd hN (.free hg) h
theorem X.n {n:Nat} (hL:Part L (F++X)) (h:GX P W0 N ds ops F F n Q k0 fuel listed kn L):GL P W0 N ds ops (QY P W0 N ds ops F F n Q k0 fuel listed) [] kn L :=
 fun a w ha hs hQ hcl=>by
  have hc:Cls W0 F F (ph n listed) w:=by unfold Cls; cases ph n listed <;> exact ⟨X,hs.part hL⟩
  exact ⟨hc,h hQ a w ha hs hcl hc⟩
theorem X.dL {n:Nat} {ch:List PanicEntry} (hk:Sub kn k0) (h:GE W0 N ds (.panic ch) Q k0 L):GE W0 N ds (.panic ch) (QY P W0 N ds ops F F n Q k0 fuel listed) kn L :=
 fun a w ha hs=>⟨ha.sub hk.all,L,hs,h⟩
end
end
section
section
variable {P:Program} {W0 W w:World} {N:Nat} {ds:List Deferred} {kn:Kn} {L M R:List aA}
theorem Fn.goD {f:FuncId} {fn:Func} {c:Code} {args:List Value} {post:Ending→(List aA→Prop)→Prop} (hf:P.funcs[f]?=some fn) (hb:fn.body=some c) (hn:fn.ntmps=N) (hN:Nat.ble args.length N=true)
  (h:∀ W0 R,GC P W0 N [] c (bodyPostD P fn (fun e w'=>post e (fun T=>aB W0 w' (T++R)))) (iQ 0 args) (M++R)):Fn P f args.toArray M post:=by
 intro W0 W R hs;refine calls_of_wp_defers hf hb ?_;subst hn;exact h W0 R _ _ (fF args (Nat.le_of_ble_eq_true hN)) hs
theorem aMa {d g y ty ps af tys x} (hx:ev kn y=some x):∀ ρ w,Ev kn ρ→(execOp ρ ⟨d,.defer { callee:=.value (.func 55),args:=#[y],argTypes:=tys },ty,ps,af,g⟩).run P w=.ok (.defer (EV.dfr x)) w:=fun ρ w he=>by
 have hfun:ρ (.func 55)=.func (.func 55) #[] #[]:=he _ _ rfl;simp [execOp,resolve,Deferred.ofValue,EV.dfr,hfun,he y x hx]
theorem TX {a:Act} {fn:Func} {rs:List ResultVar} {vs:List Value} (ha:Has N ds kn a) (hs:aB W0 w L) (hr:fn.results.toList=rs) (hv:KI P kn L rs vs) (h1:Nat.beq vs.length 1=false):(results fn a.tmps).run P w=.ok (.tuple vs.toArray) w:=by
 have h7:=KI.run (P:=P) ha hs hv;rw [← hr] at h7;have h9:¬ vs.toArray.size=1:=by intro e; rw [show vs.length=1 by simpa using e] at h1; simp at h1
 rw [iK,Sem.run_bind,Array.mapM_eq_mapM_toList,Sem.run_map,h7];simp only [Result.andThen_ok,dif_neg h9,Sem.run_pure]
theorem GE.aN7 {fn:Func} {Rr:Ending→World→Prop} {rs:List ResultVar} {vs:List Value} {x:Value} (hr:fn.results.toList=rs) (hv:KI Tryz.prog kn L rs vs) (h1:Nat.beq vs.length 1=false) (h:∀ w,aB W0 w L→Rr (.returned (.tuple vs.toArray)) w) :
  GE W0 N [EV.dfr x] .ret (bodyPostD Tryz.prog fn Rr) kn L:=by
 intro a w ha hs;show Leaves Tryz.prog fn a.tmps Rr a.defers .returning w;rw [ha.defers];refine leaves_cons (by intro e; cases e) (EV.FZ.inv x w) ((EV.FZ.quiet x w).mono ?_);rintro e u' w' ⟨⟨v,rfl⟩,rfl,k⟩;exact ⟨_,TX ha (k _ _ hs) hr hv h1,h w' (k _ _ hs)⟩
theorem GE.EJ {fn:Func} {Rr:Ending→World→Prop} {rs:List ResultVar} {vs:List Value} {be t:Nat} {C:List Value} {n:Int} (hr:fn.results.toList=rs) (ho:0 < C.length) (hv:KI Tryz.prog kn (Bk be t (C.set 0 (.int .i64 n))::L) rs vs) (h1:Nat.beq vs.length 1=false)
  (h:∀ w,aB W0 w (Bk be t (C.set 0 (.int .i64 n))::L)→Rr (.returned (.tuple vs.toArray)) w):GE W0 N [EV.dfr (ptr be)] (.panic (EV.chain (.int .i64 n))) (bodyPostD Tryz.prog fn Rr) kn (Bk be t C::L):=by
 intro a w ha hs;show Leaves Tryz.prog fn a.tmps Rr a.defers (.panicking (EV.chain (.int .i64 n))) w;rw [ha.defers];refine leaves_cons (by intro e; cases e) (EV.FZ.inv _ w) ((EV.FZ.caught be 0 t C .i64 n W0 w L hs ho).mono ?_);rintro e u' w' ⟨⟨v,rfl⟩,hu,hst⟩;show Leaves Tryz.prog fn a.tmps Rr [] (settle u') w';rw [hu];exact ⟨_,TX ha hst hr hv h1,h w' hst⟩
end
theorem GE.cK {P:Program} {W0:World} {N:Nat} {kn:Kn} {L:List aA} {fn:Func} {Rr:Ending→World→Prop} {ch:List PanicEntry} (h:∀ w,aB W0 w L→Rr (.panicked ch) w):GE W0 N [] (.panic ch) (bodyPost P fn Rr) kn L :=
 fun a w ha hs=>⟨ha.defers,h w hs⟩
theorem dG (e:Int):GT Tryz.prog 104 [.int .i64 e] [] (fun _:Unit=>.tuple #[]) (fun _=>[]) (fun _=>e=0) (fun _:Unit=>EV.chain (.int .i64 e)) (fun _=>[]) (fun _=>e≠0):=fun W0 W R hs=>by
 by_cases h:e=0
 ·subst h;refine (EV.EO W).mono ?_;rintro e w' ⟨rfl,rfl⟩;exact .inl ⟨(),rfl,rfl,hs⟩
 refine (EV.EP e h W).mono ?_;rintro e w' ⟨rfl,rfl⟩;exact .inr ⟨(),h,rfl,hs⟩
end
section
abbrev rD (bs:Nat) (y:Sy):List Value:=[ptr bs,.int .i64 y.ck,.int .i64 y.k,.int .i64 y.h,.int .u64 y.n]
theorem aJ4 {p:Prop} (h:p:=by
  refine Au ?_;refine GE.lW rfl (fun w h=>?_);first
  | exact .inl ⟨(),.inr hu,rfl,h.part .refl⟩
  | exact .inl ⟨(),.inl (by simpa using c5),rfl,h.part .refl⟩):p:=h
theorem LU (b:Bool) (e:Int) :
  GT Tryz.prog 56 [.bool b,.int .i64 e] [] (fun x:Unit=>.tuple #[]) (fun x=>[]) (fun x=>b=true∨e=0) (fun y:Unit=>EV.chain (.int .i64 e)) (fun y=>[]) (fun y=>b=false):=by
 refine Fg Tryz.func56 Tryz.ntmps56 fun W0 R=>?_;refine Au ?_;refine GC.cond rfl (fun c5=>?_) (fun c5=>?_)
 ·refine Au ?_;refine Kp (dG _) .nil (fun u hu=>?_) (fun yy hy=>?_)
  ·exact aJ4
  refine GE.cK (fun w h=>?_);exact .inr ⟨(),by simpa using c5,rfl,h.part .refl⟩
 exact aJ4
theorem D3 (bs bt:Nat) (y:Sy) (l:List Tm) (most:Int) (hm:most≤1048576) (a:Int) :
  GT Tryz.prog 58 [ptr bt,.int .i64 a] [Bk bt 171 (rD bs y),St bs l most] (fun x:Int × List Tm=>.int .i64 x.1) (fun x=>[Bk bt 171 (rD bs y),St bs x.2 most]) (fun x=>Grow most l x.2) (fun y_:Int × List Tm=>EV.chain (.int .i64 y_.1)) (fun y_=>[Bk bt 171 (rD bs y),St bs y_.2 most]) (fun y_=>y_.1≠0∧Grow most l y_.2):=by
 refine Fg Tryz.func58 Tryz.ntmps58 fun W0 R=>?_;refine Au ?_;refine Kc (aCb _ _ _ _ hm) (.one .p1) ?_;refine Au ?_;refine Kp (dG _) .nil (fun u hu=>?_) (fun yy hy=>?_)
 ·refine Au ?_;refine Go fun w h=>?_;refine .inl ⟨(_,_),?_,rfl,h.part (.t1 .refl)⟩;exact EB a
 refine Au ?_;refine GE.cK (fun w h=>?_);refine .inr ⟨(_,_),?_,rfl,h.part (.t1 .refl)⟩;exact ⟨hy,EB a⟩
theorem TH (bs bt:Nat) (y:Sy) (l:List Tm) (most:Int) (hm:most≤1048576) (a:Int) :
  GT Tryz.prog 60 [ptr bt,.int .i64 a] [Bk bt 171 (rD bs y),St bs l most] (fun x:Int × List Tm=>.int .i64 x.1) (fun x=>[Bk bt 171 (rD bs y),St bs x.2 most]) (fun x=>Grow most l x.2) (fun y_:Int × List Tm=>EV.chain (.int .i64 y_.1)) (fun y_=>[Bk bt 171 (rD bs y),St bs y_.2 most]) (fun y_=>y_.1≠0∧Grow most l y_.2):=by
 refine Fg Tryz.func60 Tryz.ntmps60 fun W0 R=>?_;refine Au ?_;refine Kc (R6 _ _ _ _ hm) (.one .p1) ?_;refine Au ?_;refine Kp (dG _) .nil (fun u hu=>?_) (fun yy hy=>?_)
 ·refine Au ?_;refine Go fun w h=>?_;refine .inl ⟨(_,_),?_,rfl,h.part (.t1 .refl)⟩;exact zU a
 refine Au ?_;refine GE.cK (fun w h=>?_);refine .inr ⟨(_,_),?_,rfl,h.part (.t1 .refl)⟩;exact ⟨hy,zU a⟩
theorem yY (bs bt:Nat) (y:Sy) (l:List Tm) (most:Int) (hm:most≤1048576) (a b:Int) :
  GT Tryz.prog 62 [ptr bt,.int .i64 a,.int .i64 b] [Bk bt 171 (rD bs y),St bs l most] (fun x:Int × List Tm=>.int .i64 x.1) (fun x=>[Bk bt 171 (rD bs y),St bs x.2 most]) (fun x=>Grow most l x.2) (fun y_:Int × List Tm=>EV.chain (.int .i64 y_.1)) (fun y_=>[Bk bt 171 (rD bs y),St bs y_.2 most]) (fun y_=>y_.1≠0∧Grow most l y_.2):=by
 refine Fg Tryz.func62 Tryz.ntmps62 fun W0 R=>?_;refine Au ?_;refine Kc (ZY _ _ _ _ _ hm) (.one .p1) ?_;refine Au ?_;refine Kp (dG _) .nil (fun u hu=>?_) (fun yy hy=>?_)
 ·refine Au ?_;refine Go fun w h=>?_;refine .inl ⟨(_,_),?_,rfl,h.part (.t1 .refl)⟩;exact xP a b
 refine Au ?_;refine GE.cK (fun w h=>?_);refine .inr ⟨(_,_),?_,rfl,h.part (.t1 .refl)⟩;exact ⟨hy,xP a b⟩
theorem D2 (bs bt:Nat) (y:Sy) (l:List Tm) (most:Int) (hm:most≤1048576) (a b:Int) :
  GT Tryz.prog 182 [ptr bt,.int .i64 a,.int .i64 b] [Bk bt 171 (rD bs y),St bs l most] (fun x:Int × List Tm=>.int .i64 x.1) (fun x=>[Bk bt 171 (rD bs y),St bs x.2 most]) (fun x=>Grow most l x.2) (fun y_:Int × List Tm=>EV.chain (.int .i64 y_.1)) (fun y_=>[Bk bt 171 (rD bs y),St bs y_.2 most]) (fun y_=>y_.1≠0∧Grow most l y_.2):=by
 refine Fg Tryz.func182 Tryz.ntmps182 fun W0 R=>?_;refine Au ?_;refine Kc (OJ _ _ _ _ _ hm) (.one .p1) ?_;refine Au ?_;refine Kp (dG _) .nil (fun u hu=>?_) (fun yy hy=>?_)
 ·refine Au ?_;refine Go fun w h=>?_;refine .inl ⟨(_,_),?_,rfl,h.part (.t1 .refl)⟩;exact tH a b
 refine Au ?_;refine GE.cK (fun w h=>?_);refine .inr ⟨(_,_),?_,rfl,h.part (.t1 .refl)⟩;exact ⟨hy,tH a b⟩
theorem DO (bs bt:Nat) (y:Sy) (l:List Tm) (most:Int) (hm:most≤1048576) (s:ByteArray) :
  GT Tryz.prog 65 [ptr bt,.string s] [Bk bt 171 (rD bs y),St bs l most] (fun x:Int × List Tm=>.int .i64 x.1) (fun x=>[Bk bt 171 (rD bs y),St bs x.2 most]) (fun x=>Grow most l x.2) (fun y_:Int × List Tm=>EV.chain (.int .i64 y_.1)) (fun y_=>[Bk bt 171 (rD bs y),St bs y_.2 most]) (fun y_=>y_.1≠0∧Grow most l y_.2):=by
 refine Fg Tryz.func65 Tryz.ntmps65 fun W0 R=>?_;refine Au ?_;refine Kc (BJ _ _ _ _ _ _ _ _ _ hm) (.one .p1) ?_;refine Au ?_;refine Kp (dG _) .nil (fun u hu=>?_) (fun yy hy=>?_)
 ·refine Au ?_;refine Go fun w h=>?_;refine .inl ⟨(_,_),?_,rfl,h.part (.t1 .refl)⟩;exact mP s
 refine Au ?_;refine GE.cK (fun w h=>?_);refine .inr ⟨(_,_),?_,rfl,h.part (.t1 .refl)⟩;exact ⟨hy,mP s⟩
theorem jQ (bs bt:Nat) (y:Sy) (l:List Tm) (most:Int) (hm:most≤1048576) (a:Int) :
  GT Tryz.prog 59 [ptr bt,.int .i64 a] [Bk bt 171 (rD bs y),St bs l most] (fun x:Sy × List Tm=>.tuple #[]) (fun x=>[Bk bt 171 (rD bs x.1),St bs x.2 most]) (fun x=>Grow most l x.2) (fun y_:Int × List Tm=>EV.chain (.int .i64 y_.1)) (fun y_=>[Bk bt 171 (rD bs y),St bs y_.2 most]) (fun y_=>y_.1≠0∧Grow most l y_.2):=by
 refine Fg Tryz.func59 Tryz.ntmps59 fun W0 R=>?_;refine Au ?_;refine Gr 16 (.t .e) ?_;refine Dq 7 [0,1,2,3,4,5,6,7,8] ?_;refine GD.xS 9 13 (by kernel_rfl) rfl rfl ?_ ?_
 ·refine Kc (vP _ _ _ _ _ hm) (.one .p1) ?_;refine D.n (.t1 .refl) ?_;refine Dq 3 [10,11,12] ?_;refine Ga 13 ?_;refine Ef (EF.alloc aL) fun b4 _=>?_;refine D.n (.t2 .refl) ?_;refine Ga 14 ?_;refine Au ?_;refine D.n (.t2 .refl) ?_;refine Ds 15 ?_;refine Gd ?_;refine Au ?_;refine Kp (dG _) .nil (fun u hu=>?_) (fun yy hy=>?_)
  ·refine Au ?_;refine GE.lW rfl (fun w h=>?_);refine .inl ⟨((kQ most l y a).1,_),?_,rfl,h.part (.t2 (.t1 (.d .refl)))⟩;exact gG y a
  refine Au ?_;refine GE.cK (fun w h=>?_);refine .inr ⟨(_,_),?_,rfl,h.part (.t2 (.t1 (.d .refl)))⟩;exact ⟨hy,gG y a⟩
 refine Ef (EF.alloc aL) fun aSx _=>?_;refine D.n (.t1 .refl) ?_;refine Ga 9 ?_;refine Kc (vP _ _ _ _ _ hm) (.one .p2) ?_;refine D.n (.t2 .refl) ?_;refine Dq 2 [10,11,12] ?_;refine Ga 14 ?_;refine Au ?_;refine D.n (.t2 .refl) ?_;refine Ds 15 ?_;refine Gd ?_;refine Au ?_;refine Kp (dG _) .nil (fun u hu=>?_) (fun yy hy=>?_)
 ·refine Au ?_;refine GE.lW rfl (fun w h=>?_);refine .inl ⟨((kQ most l y a).1,_),?_,rfl,h.part (.t2 (.t0 (.d .refl)))⟩;exact gG y a
 refine Au ?_;refine GE.cK (fun w h=>?_);refine .inr ⟨(_,_),?_,rfl,h.part (.t2 (.t0 (.d .refl)))⟩;exact ⟨hy,gG y a⟩
theorem uM (bs bt:Nat) (y:Sy) (l:List Tm) (most:Int) (hm:most≤1048576) (a:Int) :
  GT Tryz.prog 61 [ptr bt,.int .i64 a] [Bk bt 171 (rD bs y),St bs l most] (fun x:Sy × List Tm=>.tuple #[]) (fun x=>[Bk bt 171 (rD bs x.1),St bs x.2 most]) (fun x=>Grow most l x.2∧nV x.2 x.1.k a) (fun y_:Int × List Tm=>EV.chain (.int .i64 y_.1)) (fun y_=>[Bk bt 171 (rD bs y),St bs y_.2 most]) (fun y_=>y_.1≠0∧Grow most l y_.2):=by
 refine Fg Tryz.func61 Tryz.ntmps61 fun W0 R=>?_;refine Au ?_;refine Gr 16 (.t .e) ?_;refine Dq 7 [0,1,2,3,4,5,6,7,8] ?_;refine GD.xS 9 13 (by kernel_rfl) rfl rfl ?_ ?_
 ·refine Kc (KW _ _ _ _ _ hm) (.one .p1) ?_;refine D.n (.t1 .refl) ?_;refine Dq 3 [10,11,12] ?_;refine Ga 13 ?_;refine Ef (EF.alloc aL) fun b4 _=>?_;refine D.n (.t2 .refl) ?_;refine Ga 14 ?_;refine Au ?_;refine D.n (.t2 .refl) ?_;refine Ds 15 ?_;refine Gd ?_;refine Au ?_;refine Kp (dG _) .nil (fun u hu=>?_) (fun yy hy=>?_)
  ·refine Au ?_;refine GE.lW rfl (fun w h=>?_);refine .inl ⟨((lF most l y a).1,_),?_,rfl,h.part (.t2 (.t1 (.d .refl)))⟩;exact ⟨mR y a,DV hu⟩
  refine Au ?_;refine GE.cK (fun w h=>?_);refine .inr ⟨(_,_),?_,rfl,h.part (.t2 (.t1 (.d .refl)))⟩;exact ⟨hy,mR y a⟩
 refine Ef (EF.alloc aL) fun aSx _=>?_;refine D.n (.t1 .refl) ?_;refine Ga 9 ?_;refine Kc (KW _ _ _ _ _ hm) (.one .p2) ?_;refine D.n (.t2 .refl) ?_;refine Dq 2 [10,11,12] ?_;refine Ga 14 ?_;refine Au ?_;refine D.n (.t2 .refl) ?_;refine Ds 15 ?_;refine Gd ?_;refine Au ?_;refine Kp (dG _) .nil (fun u hu=>?_) (fun yy hy=>?_)
 ·refine Au ?_;refine GE.lW rfl (fun w h=>?_);refine .inl ⟨((lF most l y a).1,_),?_,rfl,h.part (.t2 (.t0 (.d .refl)))⟩;exact ⟨mR y a,DV hu⟩
 refine Au ?_;refine GE.cK (fun w h=>?_);refine .inr ⟨(_,_),?_,rfl,h.part (.t2 (.t0 (.d .refl)))⟩;exact ⟨hy,mR y a⟩
theorem DR (bs bt:Nat) (y:Sy) (l:List Tm) (most:Int) (hm:most≤1048576) (a:Int) :
  GT Tryz.prog 183 [ptr bt,.int .i64 a] [Bk bt 171 (rD bs y),St bs l most] (fun x:Int × Sy × List Tm=>.int .i64 x.1) (fun x=>[Bk bt 171 (rD bs x.2.1),St bs x.2.2 most]) (fun x=>Grow most l x.2.2∧(gH most l y a).2.2.1=0) (fun y_:Int × List Tm=>EV.chain (.int .i64 y_.1)) (fun y_=>[Bk bt 171 (rD bs y),St bs y_.2 most]) (fun y_=>y_.1≠0∧Grow most l y_.2):=by
 refine Fg Tryz.func183 Tryz.ntmps183 fun W0 R=>?_;refine Au ?_;refine Gr 18 (.t .e) ?_;refine Dq 9 [0,1,2,3,4,5,6,7,8] ?_;refine GD.xS 9 14 (by kernel_rfl) rfl rfl ?_ ?_
 ·refine Kc (DU _ _ _ _ _ hm) (.one .p1) ?_;refine D.n (.t1 .refl) ?_;refine Dq 4 [10,11,12,13] ?_;refine Ga 14 ?_;refine Ef (EF.alloc aL) fun b5 _=>?_;refine D.n (.t2 .refl) ?_;refine Ga 15 ?_;refine Au ?_;refine D.n (.t2 .refl) ?_;refine Dq 0 [16,17] ?_;refine Gd ?_;refine Au ?_;refine Kp (dG _) .nil (fun u hu=>?_) (fun yy hy=>?_)
  ·refine Au ?_;refine Go fun w h=>?_;refine .inl ⟨(_,(gH most l y a).1,_),?_,rfl,h.part (.t2 (.t1 (.d .refl)))⟩;exact ⟨kP y a,hu⟩
  refine Au ?_;refine GE.cK (fun w h=>?_);refine .inr ⟨(_,_),?_,rfl,h.part (.t2 (.t1 (.d .refl)))⟩;exact ⟨hy,kP y a⟩
 refine Ef (EF.alloc aL) fun aTp _=>?_;refine D.n (.t1 .refl) ?_;refine Ga 9 ?_;refine Kc (DU _ _ _ _ _ hm) (.one .p2) ?_;refine D.n (.t2 .refl) ?_;refine Dq 3 [10,11,12,13] ?_;refine Ga 15 ?_;refine Au ?_;refine D.n (.t2 .refl) ?_;refine Dq 0 [16,17] ?_;refine Gd ?_;refine Au ?_;refine Kp (dG _) .nil (fun u hu=>?_) (fun yy hy=>?_)
 ·refine Au ?_;refine Go fun w h=>?_;refine .inl ⟨(_,(gH most l y a).1,_),?_,rfl,h.part (.t2 (.t0 (.d .refl)))⟩;exact ⟨kP y a,hu⟩
 refine Au ?_;refine GE.cK (fun w h=>?_);refine .inr ⟨(_,_),?_,rfl,h.part (.t2 (.t0 (.d .refl)))⟩;exact ⟨hy,kP y a⟩
end
section
theorem aK3 {W0 kn L d g x i ty ps af} {a b:Int} {n:Nat} (hx:ev kn x=some (.agg #[.int .i64 a,.int .i64 b])) (hi:ev kn i=some (.int .i64 (n:Int))) (hn:n < 2):EX Tryz.prog W0 kn L ⟨d,.index 62 x i,ty,ps,af,g⟩ (.int .i64 (if n=0 then a else b)):=fun ρ w he hs=>by
 have i0:(Instr.index 62 (.agg #[.int .i64 a,.int .i64 b]) (.int .i64 0)).run Tryz.prog w=.ok (.int .i64 a) w:=by kernel_rfl
 have i1:(Instr.index 62 (.agg #[.int .i64 a,.int .i64 b]) (.int .i64 1)).run Tryz.prog w=.ok (.int .i64 b) w:=by kernel_rfl
 match n,hn with
 | 0,_ =>
  have hi':ρ i=.int .i64 0:=he i _ hi;simp only [execOp,he x _ hx,hi',Sem.run_bind,i0,Result.andThen_ok]; rfl
 | 1,_ =>
  have hi':ρ i=.int .i64 1:=he i _ hi;simp only [execOp,he x _ hx,hi',Sem.run_bind,i1,Result.andThen_ok]; rfl
theorem Q3 {p:Prop} (h:p:=by
  first | exact ⟨hyy,tM _⟩ | exact ⟨pI.1,by first | exact hs.2.trans pI.2 | exact (((g0.trans hz1).trans hz2).trans hz3).trans pI.2 | exact ((g0.trans hz1).trans hz2).trans pI.2 | exact (g0.trans hz1).trans pI.2 | exact g0.trans pI.2⟩):p:=h
theorem aJ3 {p:Prop} (h:p:=by
  refine Au ?_;refine GE.cK (fun w h=>?_);refine .inr ⟨(_,_),?_,rfl,h.part (.t1 (.d (.d (.d (.d .refl)))))⟩;exact Q3):p:=h
theorem aJ2 {p:Prop} (h:p:=by
  refine Au ?_;refine GE.cK (fun w h=>?_);refine .inr ⟨(_,_),?_,rfl,h.part (.t1 (.d (.d (.d .refl))))⟩;exact Q3):p:=h
theorem ZQ {c:Int} (h:0≤c∧c < 256):[Value.int .u8 c]=AP ⟨#[UInt8.ofNat c.toNat]⟩:=by
 show [Value.int .u8 c]=[Value.int .u8 ((UInt8.ofNat c.toNat).toNat:Int)];rw [UInt8.toNat_ofNat_of_lt' (show c.toNat < 256 by omega)];rw [Int.toNat_of_nonneg h.1]
theorem YW (bs:Nat) (l:List Tm) (most:Int) (hm:most≤1048576) (tx:ByteArray) (slot pd pk:Int) :
  GT Tryz.prog 57 [ptr bs,.string tx,.int .i64 slot,.agg #[.int .i64 pd,.int .i64 pk]] [St bs l most] (fun x:Nat × Sy × List Tm=>ptr x.1) (fun x=>[Bk x.1 171 (rD bs x.2.1),St bs x.2.2 most]) (fun x=>Grow most l x.2.2) (fun y_:Int × List Tm=>EV.chain (.int .i64 y_.1)) (fun y_=>[St bs y_.2 most]) (fun y_=>y_.1≠0∧Grow most l y_.2):=by
 refine Fg Tryz.func57 Tryz.ntmps57 fun W0 R=>?_;refine Au ?_;refine Ef (EF.bV rfl) fun b7 _=>?_;refine Au ?_;refine Kc (OW _ _ _ _ hm) (.one .p1) ?_;refine Au ?_;refine Ef (EF.alloc aL) fun b9 _=>?_;refine Au ?_;refine Kp (dG _) .nil (fun u hu=>?_) (fun yy hyy=>?_)
 ·refine Au ?_;refine Ef (EF.bV rfl) fun b25 _=>?_;refine Lu rfl (EX.assign rfl) ?_;refine Zn (Zt ?_);have g0:=tM (l:=l) (most:=most) ⟨#[115,111,117,103,104]⟩;refine GL.turn (fun w h=>(show aB W0 w (Bk b25 171 (rD bs (kR most l ⟨#[115,111,117,103,104]⟩).1)::_) from h)) ?_;refine Au ?_;refine Kp (DO _ _ _ _ _ hm _) (.cons .p0 (.cons .p1 .nil)) (fun z1 hz1=>?_) (fun y_ pI=>?_)
  ·refine Kp (jQ _ _ _ _ _ hm _) (.cons .p0 (.cons .p0 .nil)) (fun z2 hz2=>?_) (fun y_ pI=>?_)
   ·refine Au ?_;refine Lu rfl (EX.add rfl rfl rfl) ?_;refine Lu rfl (EX.conv rfl uN uN rfl) ?_;refine Ef (EF.buildSlice rfl bS rfl rfl rfl) fun b36 _=>?_;refine GL.turn (fun w h=>(show aB W0 w (Rw 5 1 (.slice (some ⟨b36,0,none⟩) 1 1) 1 (AP ⟨#[UInt8.ofNat (IntKind.u8.wrap (IntKind.i64.wrap (48 + slot))).toNat]⟩)::_) from by rw [← ZQ (u8r _)]; exact h.uC (s:=1) (n:=1) rfl (by unfold maxLen; omega))) ?_;refine Lu rfl (EX.aFm rfl .p0 uN uN uN) ?_;refine Kp (DO _ _ _ _ _ hm _) (.cons .p1 (.cons .p1 .nil)) (fun z3 hz3=>?_) (fun y_ pI=>?_)
    ·refine Kp (jQ _ _ _ _ _ hm _) (.cons .p0 (.cons .p0 .nil)) (fun z4 hz4=>?_) (fun y_ pI=>?_)
     ·refine Au ?_;refine Lu rfl (EX.build rfl KD rfl) ?_;refine Au ?_;refine GC.lp (σ:=Nat × Sy × List Tm) (fun s=>[(45,.int .i64 (s.1:Int)),(44,.agg #[.int .i64 pd,.int .i64 pk]),(11,ptr b25)]) (fun s=>Bk b25 171 (rD bs s.2.1)::St bs s.2.2 most::R) (fun s=>s.1≤2∧Grow most l s.2.2) (fun s=>2 - s.1) (0,z4.1,z4.2) (.c rfl (.c rfl (.c rfl .n))) (.t0 (.t0 (.d (.d (.d .refl))))) (⟨by omega,(((g0.trans hz1).trans hz2).trans hz3).trans hz4⟩) (fun s hs=>?_);refine Au ?_;refine GC.cond rfl (fun c46=>?_) (fun c46=>?_)
      ·simp only [decide_eq_true_eq] at c46;refine Au ?_;refine Lu rfl (aK3 (n:=s.1) rfl rfl (by omega)) ?_;refine Au ?_;refine Lu rfl (EX.makeFunc (fs:=[_]) (cs:=[]) rfl rfl) ?_;refine Au ?_;refine K.p (EC.closure rfl eN rfl) (jQ _ _ _ _ _ hm _) (.cons .p0 (.cons .p0 .nil)) (fun _=>.a2) (fun _=>.a2) rfl rfl (.free rfl) (fun z5 hz5=>?_) (fun y_ pI=>?_)
       ·refine Au ?_;refine La ?_;refine Au ?_;exact GE.ag (s.1 + 1,z5.1,z5.2) (.c (by rw [← Int.natCast_succ]; rfl) (.c rfl (.c rfl .n))) .refl (by dsimp only; omega) (⟨by dsimp only; omega,hs.2.trans hz5⟩)
       refine Au ?_;refine GE.cK (fun w h=>?_);refine .inr ⟨(_,_),?_,rfl,h.part (.t1 (.d .refl))⟩;exact Q3
      refine Au ?_;refine Go fun w h=>?_;exact .inl ⟨(b25,s.2.1,s.2.2),hs.2,rfl,h.part .refl⟩
     exact aJ3
    exact aJ3
   exact aJ2
  exact aJ2
 refine Au ?_;refine GE.cK (fun w h=>?_);refine .inr ⟨(_,_),?_,rfl,h.part (.t1 (.d (.d .refl)))⟩;exact Q3
end
section
structure Pr where
 d:Int
 k:Int
 p0:Int
 p1:Int
def A5 (p:Pr):List Value:=[.int .i64 p.d,.int .i64 p.k,.int .i64 p.p0,.int .i64 p.p1]
def iU (l:List Pr):List Value:=l.flatMap A5
theorem aJ1 {p:Prop} (h:p:=by
  refine X.dL (.c rfl (.c rfl .n)) ?_;refine GE.dY ?_;refine GE.turn (fun w h=>h.part (.t2 .refl)) ?_;refine GE.EJ rfl (Nat.zero_lt_succ _) (.cons (.fV rfl .p3 mN rfl) (.cons (.cell1 rfl .p0 oN rfl) .nil)) rfl (fun w h=>?_);refine ⟨(0,0,_,_),?_,rfl,h.part (.t2 (.d (.d (.d (.d .refl)))))⟩;first | exact hz.trans pI.2 | exact pI.2):p:=h
theorem BK {l:List Pr} {k:Nat} (hk:k < l.length):∀ j,j < 4→(iU l)[k * 4 + j]?=(A5 l[k])[j]?:=by
 intro j hj;induction l generalizing k with
 | nil=>simp at hk
 | cons x l ih =>
  have e:iU (x::l)=A5 x++iU l:=rfl;have h6:(A5 x).length=4:=rfl;rw [e];cases k with
  | zero=>rw [List.getElem?_append_left (by omega),Nat.zero_mul,Nat.zero_add]; rfl
  | succ k =>
   rw [List.getElem?_append_right (by omega),h6,show (k + 1) * 4 + j - 4=k * 4 + j by omega];exact ih (by simpa using hk)
def Pr.psk (p:Pr) (slot:Int):Int:=if slot=0 then p.p0 else p.p1
theorem H4 {l:List Pr} {k:Nat} {slot:Int} (hk:k < l.length) (hs:slot=0∨slot=1):(iU l)[k * 4 + 2 + slot.toNat * 1]?=some (.int .i64 (l[k].psk slot)):=by
 rcases hs with rfl | rfl
 ·have:=BK hk 2 (by omega);exact this
 have:=BK hk 3 (by omega);exact this
theorem aAj:fds 1=[nu 1,⟨2,0,0,3⟩,⟨1,0,1,4⟩,LV 6,LV 7,LV 8,LV 9,LV 10]:=rfl
theorem VL {m:Mg} (hm:lO m) (hk:m.kind=1) (h:okM m):m.slot=0∨m.slot=1:=by
 have:=(h ⟨1,0,1,4⟩ (by rw [hk,aAj]; simp)).1 (by decide);have e:getM m ⟨1,0,1,4⟩=IntKind.u64.wrap m.slot:=rfl;rw [e,IntKind.wrap_u64] at this;have h2:=hm.2;dsimp only at this;omega
theorem PU {m:Mg} (hk:m.kind=1) (h:okM m):m.offer.size≤8:=((h ⟨2,0,0,3⟩ (by rw [hk,aAj]; simp)).2 rfl).2
theorem aA2 (g cp:Nat) (ps:List Pr) (pub:Int) (hl:ps.length≤1000) :
  GT Tryz.prog 184 [.slice (some ⟨g,0,none⟩) ps.length cp,.int .i64 pub] [Rw 64 4 (.slice (some ⟨g,0,none⟩) ps.length cp) ps.length (iU ps)] (fun x:Nat=>.int .i64 (x:Int)) (fun x=>[Rw 64 4 (.slice (some ⟨g,0,none⟩) ps.length cp) ps.length (iU ps)]) (fun x=>x < ps.length) (fun y:Unit=>EV.chain (.int .i64 5)) (fun y=>[Rw 64 4 (.slice (some ⟨g,0,none⟩) ps.length cp) ps.length (iU ps)]) (fun y=>True):=by
 refine Fg Tryz.func184 Tryz.ntmps184 fun W0 R=>?_;refine Au ?_;refine GC.lp (σ:=Nat) (fun s=>[(9,.int .i64 (s:Int)),(8,.int .i64 (ps.length:Int)),(7,.slice (some ⟨g,0,none⟩) ps.length cp),(1,.int .i64 pub)]) (fun s=>Rw 64 4 (.slice (some ⟨g,0,none⟩) ps.length cp) ps.length (iU ps)::R) (fun s=>s≤ps.length) (fun s=>ps.length - s) 0 (.c rfl (.c rfl (.c rfl (.c rfl .n)))) .refl (Nat.zero_le _) (fun s hs=>?_);refine Au ?_;refine GC.cond rfl (fun c10=>?_) (fun c10=>?_)
 ·simp only [decide_eq_true_eq] at c10;have hi:s < ps.length:=by omega
  refine Au ?_;refine Lu rfl (EX.indexAddr (a:=s * 4) rfl rfl sL (by omega) (by simp)) ?_;refine Lu rfl (EX.rW (cs:=A5 ps[s]) rfl (mN rfl) rfl (BK hi)) ?_;refine Ef (EF.alloc aL) fun b6 _=>?_;refine Au ?_;refine GC.cond rfl (fun c18=>?_) (fun c18=>?_)
  ·refine Au ?_;refine Go fun w h=>?_;first
   | exact absurd hu (by decide)
   | exact .inl ⟨s,hi,rfl,h.part (.t1 (.d .refl))⟩
  ·refine Au ?_;refine La ?_;refine Au ?_;exact GE.ag (s + 1) (.c (by rw [← Int.natCast_succ]; rfl) (.c rfl (.c rfl (.c rfl .n)))) (.t1 (.d .refl)) (by omega) (by omega)
 refine Au ?_;refine Kp (dG _) .nil (fun u hu=>?_) (fun yy hy=>?_)
 ·refine Au ?_;refine Go fun w h=>?_;first
  | exact absurd hu (by decide)
  | exact .inl ⟨s,hi,rfl,h.part .refl⟩
 ·refine Au ?_;refine GE.cK (fun w h=>?_);exact .inr ⟨(),trivial,rfl,h.part .refl⟩
theorem ID (bs:Nat) (l:List Tm) (most:Int) (hm:most≤1048576) (d k:Int) :
  bQ Tryz.prog 50 [ptr bs,.agg #[.int .i64 d,.int .i64 k]] [St bs l most] (fun x:Int × Int × Int × List Tm=>.tuple #[.agg #[.int .i64 x.1,.int .i64 x.2.1],.int .i64 x.2.2.1]) (fun x=>[St bs x.2.2.2 most]) (fun x=>Grow most l x.2.2.2):=by
 refine Fn.goD Tryz.func50 rfl Tryz.ntmps50 rfl (fun W0 R=>?_);refine GC.app .a1 ?_;refine Zt ?_;refine GL.nB (EF.bV rfl) rfl rfl (.free rfl) (fun b3 _=>?_);refine GL.nB (EF.alloc aL) rfl rfl (.free rfl) (fun b4 _=>?_);refine GL.nB (EF.alloc aL) rfl rfl (.free rfl) (fun b5 _=>?_);refine Zn (Zt ?_);refine GL.defer (aMa rfl) rfl (.free rfl) ?_;refine Zn (Zt ?_);refine Lr.run (.m rfl (.v (EX.build rfl bD rfl) rfl rfl .s)) rfl ?_;refine GL.nB (EF.bV rfl) rfl rfl (.free rfl) (fun b9 _=>?_);refine L.v (EX.assign rfl) rfl rfl rfl ?_;refine Zn (Zs ?_);refine GC.drx [(4,ptr b4),(5,ptr b5)] 11 rfl (by kernel_rfl) (.f (.f (.f (.t .e)))) rfl ?_;refine X.p 0 (by kernel_rfl) rfl (fun X=>EX.move rfl) rfl rfl rfl ?_;refine X.p 1 (by kernel_rfl) rfl (fun X=>EX.fieldAddr rfl fA) rfl rfl rfl ?_;refine X.v 2 (by kernel_rfl) rfl (fun X=>EX.ld rfl rfl oN) rfl rfl rfl ?_;refine X.p 4 (by kernel_rfl) rfl (fun X=>EX.move rfl) rfl rfl rfl ?_;refine X.p 5 (by kernel_rfl) rfl (fun X=>EX.fieldAddr rfl fA) rfl rfl rfl ?_;refine X.v 6 (by kernel_rfl) rfl (fun X=>EX.ld rfl rfl oN) rfl rfl rfl ?_;refine GX.act 3 (by kernel_rfl) rfl ?_;refine K.p (EC.direct eN rfl) (D3 _ _ D9 _ _ hm _) (.cons .p0 (.cons .p3 .nil)) (fun _=>.a2) (fun _=>.a2) rfl rfl (.free rfl) (fun z hz=>?_) (fun y_ pI=>?_)
 ·refine X.n (.t4 .refl) ?_;refine GX.act 7 (by kernel_rfl) rfl ?_;refine K.p (EC.direct eN rfl) (TH _ _ D9 _ _ hm _) (.cons .p0 (.cons .p0 .nil)) (fun _=>.a2) (fun _=>.a2) rfl rfl (.free rfl) (fun z2 hz2=>?_) (fun y_ pI=>?_)
  ·refine X.n (.t4 .refl) ?_;refine X.p 8 (by kernel_rfl) rfl (fun X=>EX.build rfl bD rfl) rfl rfl rfl ?_;refine GX.act 9 (by kernel_rfl) rfl ?_;refine GL.do (EU.st rfl rfl sZ rfl rfl rfl) rfl (.free rfl) ?_;refine X.n (.t4 .refl) ?_;refine GX.act 10 (by kernel_rfl) rfl ?_;refine GL.do (EU.st rfl rfl sZ rfl rfl rfl) rfl (.free rfl) ?_;refine X.n (.t4 .refl) ?_;refine GX.done (by kernel_rfl) ?_;refine Ze ?_;refine GC.ret ?_;refine GE.aN7 rfl (.cons (.fV rfl .p3 mN rfl) (.cons (.cell1 rfl .p2 oN rfl) .nil)) rfl (fun w h=>?_);refine ⟨(_,_,_,_),?_,rfl,h.part (.t1 (.d (.d (.d (.d .refl)))))⟩;exact hz.trans hz2
  exact aJ1
 exact aJ1
end
section
theorem IZ {p:Prop} (h:p:=by
  exact ⟨⟨_,_,_,_,_,_,_,_,_,_,rfl⟩,by first | exact pI.1 | exact hyy | exact (show (5:Int)≠0 by decide) | exact (show (3:Int)≠0 by decide),by first | exact G.trans pI.2 | exact G⟩):p:=h
theorem IY {p:Prop} (h:p:=by
  refine GE.dY ?_;refine GE.turn (fun w h=>h.part (.t3 .refl)) ?_;refine GE.EJ rfl (Nat.zero_lt_succ _) (.cons (.fV rfl .p4 mN rfl) (.cons (.cell1 rfl .p0 oN rfl) .nil)) rfl (fun w h=>?_);refine ⟨(_,_,_),?_,rfl,h.part (.t2 (.t6 (.d (.d (.d (.d (.d (.d .refl))))))))⟩;exact IZ):p:=h
theorem Q2 {p:Prop} (h:p:=by
  refine GE.dY ?_;refine GE.turn (fun w h=>h.part (.t5 .refl)) ?_;refine GE.EJ rfl (Nat.zero_lt_succ _) (.cons (.fV rfl .p6 mN rfl) (.cons (.cell1 rfl .p0 oN rfl) .nil)) rfl (fun w h=>?_);refine ⟨(_,_,_),?_,rfl,h.part (.t2 (.t2 (.d (.d (.d (.d (.d (.d (.d .refl)))))))))⟩;exact IZ):p:=h
theorem aEb {p:Prop} (h:p:=by
  refine Au ?_;refine GE.EJ rfl (Nat.zero_lt_succ _) (.cons (.fV rfl .p1 mN rfl) (.cons (.cell1 rfl .p0 oN rfl) .nil)) rfl (fun w h=>?_);refine ⟨(_,_,_),?_,rfl,h.part (.t4 (.t4 (.d (.d (.d (.d .refl))))))⟩;exact IZ):p:=h
theorem FJ (bs:Nat) (l:List Tm) (most:Int) (hm:most≤1048576) (md mk:Int) (g cp:Nat) (ps:List Pr) (hpl:ps.length≤1000) (tx:ByteArray) (htx:tx.size≤1000000) (m:Mg) (hk:1≤m.kind∧m.kind≤4) (hmg:lO m) (A:Int→Prop) (dr:Int) (yK:rA A l dr) (hps:∀ p∈ps,aV A l p.p0∧aV A l p.p1) :
  bQ Tryz.prog 156 [ptr bs,.agg #[.int .i64 md,.int .i64 mk],.slice (some ⟨g,0,none⟩) ps.length cp,.string tx,CY m] [St bs l most,Rw 64 4 (.slice (some ⟨g,0,none⟩) ps.length cp) ps.length (iU ps)] (fun x:List Value × Int × List Tm=>.tuple #[.agg x.1.toArray,.int .i64 x.2.1]) (fun x=>[St bs x.2.2 most,Rw 64 4 (.slice (some ⟨g,0,none⟩) ps.length cp) ps.length (iU ps)]) (fun x=>(∃ a b c d e f g i j k:Int,x.1=[.int .i64 a,.int .i64 b,.int .i64 c,.int .u64 d,.int .i64 e,.int .i64 f,.int .u64 g,.int .i64 i,.int .i64 j,.int .i64 k])∧x.2.1≠0∧Grow most l x.2.2):=by
 refine Fn.goD Tryz.func156 rfl Tryz.ntmps156 rfl (fun W0 R=>?_);refine GC.app .a2 ?_;have G:Grow most l l:=.refl;refine Au ?_;refine Ef (EF.bV rfl) fun b6 _=>?_;refine Ef (EF.bV rfl) fun b9 _=>?_;refine Ef (EF.alloc aL) fun b10 _=>?_;refine Ef (EF.alloc aL) fun b11 _=>?_;refine Au ?_;refine GL.defer (aMa rfl) rfl (.free rfl) ?_;refine Au ?_;refine GL.case 23 rfl (fun g23=>?_) (fun g23=>?_)
 ·refine Au ?_;refine K.x (EC.direct eN rfl) (rO m hk hmg) .nil (fun _=>.a0) rfl rfl (.guard rfl rfl rfl rfl g23) (fun zr hzr=>?_);refine Au ?_;refine Kp (LU _ _) .nil (fun u hu=>?_) (fun yy hy9=>?_)
  ·have mY:zr=true:=hu.elim id (fun h=>absurd h (by decide));have hko:=hzr mY;simp only [decide_eq_true_eq] at g23;have hsl:=VL hmg g23 hko;have hof:=PU g23 hko;refine Au ?_;refine Kw (.direct eN rfl) (VN _ _ htx (by omega)) .nil fun zb hzb=>?_;refine Au ?_;refine Kp (dG _) .nil (fun u hu4=>?_) (fun yy hyy=>?_)
   ·refine Au ?_;refine Kx (ID _ _ _ hm _ _) (.one .p4) fun z hz=>?_;have G:=G.trans hz;refine Au ?_;refine Ef (EF.alloc aL) fun b13 _=>?_;refine Au ?_;refine Kp (dG _) .nil (fun u hu6=>?_) (fun yy hyy=>?_)
    ·refine Au ?_;refine Kp (YW _ _ _ hm _ _ _ _) (.one .p1) (fun z hz=>?_) (fun y_ pI=>?_)
     ·have G:=G.trans hz;refine Au ?_;refine Kp (jQ _ _ _ _ _ hm _) (.cons .p0 (.cons .p0 .nil)) (fun z hz=>?_) (fun y_ pI=>?_)
      ·have G:=G.trans hz;refine Au ?_;refine Kp (jQ _ _ _ _ _ hm _) (.cons .p0 (.cons .p0 .nil)) (fun z hz=>?_) (fun y_ pI=>?_)
       ·have G:=G.trans hz;refine Au ?_;refine Kp (yY _ _ _ _ _ hm _ _) (.cons .p0 (.cons .p0 .nil)) (fun z hz=>?_) (fun y_ pI=>?_)
        ·have G:=G.trans hz;refine Kp (uM _ _ _ _ _ hm _) (.cons .p0 (.cons .p0 .nil)) (fun z hz=>?_) (fun y_ pI=>?_)
         ·have G:=G.trans hz.1;refine Au ?_;refine Kp (jQ _ _ _ _ _ hm _) (.cons .p0 (.cons .p0 .nil)) (fun z hz=>?_) (fun y_ pI=>?_)
          ·have G:=G.trans hz;refine Au ?_;refine Kp (D2 _ _ _ _ _ hm _ _) (.cons .p0 (.cons .p0 .nil)) (fun z hz=>?_) (fun y_ pI=>?_)
           ·have G:=G.trans hz;refine Kp (uM _ _ _ _ _ hm _) (.cons .p0 (.cons .p0 .nil)) (fun z hz=>?_) (fun y_ pI=>?_)
            ·have G:=G.trans hz.1;refine Au ?_;refine Ef (EF.alloc aL) fun b15 _=>?_;refine Au ?_;refine Kp (DR _ _ _ _ _ hm _) (.cons .p1 (.cons .p1 .nil)) (fun z hz=>?_) (fun y_ pI=>?_)
             ·have G:=G.trans hz.1;refine Au ?_;refine Kp (aA2 _ _ _ _ hpl) (.one .p8) (fun xw hxw=>?_) (fun y_ pI=>?_)
              ·refine Au ?_;refine Kp (yY _ _ _ _ _ hm _ _) (.cons .p1 (.cons .p1 .nil)) (fun z hz=>?_) (fun y_ pI=>?_)
               ·have G:=G.trans hz;refine Kp (uM _ _ _ _ _ hm _) (.cons .p0 (.cons .p0 .nil)) (fun z hz=>?_) (fun y_ pI=>?_)
                ·have G:=G.trans hz.1;refine Au ?_;refine GC.drx [(10,ptr b10),(11,ptr b11)] 11 rfl (by kernel_rfl) (.f (.f (.t (.t (.t (.t (.t (.t (.t .e))))))))) rfl ?_;refine X.p 0 (by kernel_rfl) rfl (fun X=>EX.move rfl) rfl rfl rfl ?_;refine X.p 1 (by kernel_rfl) rfl (fun X=>EX.move rfl) rfl rfl rfl ?_;refine X.p 2 (by kernel_rfl) rfl (fun X=>EX.fieldAddr rfl fA) rfl rfl rfl ?_;refine X.v 3 (by kernel_rfl) rfl (fun X=>EX.ld rfl rfl oN) rfl rfl rfl ?_;refine X.p 4 (by kernel_rfl) rfl (fun X=>EX.fieldAddr rfl fA) rfl rfl rfl ?_;refine X.v 5 (by kernel_rfl) rfl (fun X=>EX.ld rfl rfl oN) rfl rfl rfl ?_;refine X.p 6 (by kernel_rfl) rfl (fun X=>EX.indexAddr (a:=xw * 4) rfl rfl sL (by omega) (by simp)) rfl rfl rfl ?_;refine X.p 7 (by kernel_rfl) rfl (fun X=>EX.fieldAddr rfl fA) rfl rfl rfl ?_;refine X.p 8 (by kernel_rfl) rfl (fun X=>EX.cE (a:=xw * 4 + 2 + m.slot.toNat * 1) rfl rfl aR (by omega) rfl) rfl rfl rfl ?_;refine X.v 9 (by kernel_rfl) rfl (fun X=>EX.tU rfl (H4 hxw hsl) oN) rfl rfl rfl ?_;refine GX.act 10 (by kernel_rfl) rfl ?_;refine Kp (uM _ _ _ _ _ hm _) (.cons .p0 (.cons .p0 .nil)) (fun z hz=>?_) (fun y_ pI=>?_)
                 ·have G:=G.trans hz.1;have hkey:=hz.2;refine X.n (.t2 (.t2 (.t2 (.t2 (.t2 (.t2 (.t2 .refl))))))) ?_;refine GX.done (by kernel_rfl) ?_;refine Au ?_;have aR5:aV A l (ps[xw].psk m.slot):=by
                   have:=hps ps[xw] (List.getElem_mem hxw);unfold Pr.psk;split
                   ·exact this.1
                   exact this.2
                  refine Au ?_;refine Kp (DR _ _ _ _ _ hm _) (.cons .p0 (.cons .p0 .nil)) (fun z hz=>?_) (fun y_ pI=>?_)
                  ·exact absurd hz.2 (rA.WG (yK.grow G) hkey (aR5.grow G))
                  exact Q2
                 refine X.dL (.c rfl (.c rfl .n)) ?_;exact Q2
                exact Q2
               exact Q2
              refine GE.dY ?_;refine GE.turn (fun w h=>h.part (.t5 .refl)) ?_;refine GE.EJ rfl (Nat.zero_lt_succ _) (.cons (.fV rfl .p6 mN rfl) (.cons (.cell1 rfl .p0 oN rfl) .nil)) rfl (fun w h=>?_);refine ⟨(_,_,_),?_,rfl,h.part (.t3 (.t1 (.d (.d (.d (.d (.d (.d (.d .refl)))))))))⟩;exact IZ
             refine GE.dY ?_;refine GE.turn (fun w h=>h.part (.t4 .refl)) ?_;refine GE.EJ rfl (Nat.zero_lt_succ _) (.cons (.fV rfl .p5 mN rfl) (.cons (.cell1 rfl .p0 oN rfl) .nil)) rfl (fun w h=>?_);refine ⟨(_,_,_),?_,rfl,h.part (.t2 (.t7 (.d (.d (.d (.d (.d (.d (.d .refl)))))))))⟩;exact IZ
            exact IY
           exact IY
          exact IY
         exact IY
        exact IY
       exact IY
      exact IY
     refine GE.dY ?_;refine GE.turn (fun w h=>h.part (.t2 .refl)) ?_;refine GE.EJ rfl (Nat.zero_lt_succ _) (.cons (.fV rfl .p3 mN rfl) (.cons (.cell1 rfl .p0 oN rfl) .nil)) rfl (fun w h=>?_);refine ⟨(_,_,_),?_,rfl,h.part (.t1 (.t5 (.d (.d (.d (.d (.d .refl)))))))⟩;exact IZ
    refine GE.dY ?_;refine GE.turn (fun w h=>h.part (.t2 .refl)) ?_;refine GE.EJ rfl (Nat.zero_lt_succ _) (.cons (.fV rfl .p3 mN rfl) (.cons (.cell1 rfl .p0 oN rfl) .nil)) rfl (fun w h=>?_);refine ⟨(_,_,_),?_,rfl,h.part (.t2 (.t5 (.d (.d (.d (.d (.d .refl)))))))⟩;exact IZ
   exact aEb
  exact aEb
 refine Au ?_;refine Kp (LU _ _) .nil (fun u hu=>?_) (fun yy hy9=>?_)
 ·exact False.elim (hu.elim (fun h=>by cases h) (fun h=>absurd h (by decide)))
 exact aEb
end
end Go.Proofs.YtadggjnohohedaaGreatDoor
namespace Go.Proofs.YtadggjnohohedaaGreatDoor
namespace EV
noncomputable section
structure FR where
 N:Nat
 base:List Nat
 W:Type
 ev:W→Nat→Value
 fx:List Nat
 th:W→(Nat→Bool)→List aA
 thC:∀ W f f',(∀ j∈fx,f j=f' j)→th W f=th W f'
def KS (base:List Nat):List Oper→Bool
 | []=>true
 | o::r=>(match o.dst with
  | none=>true
  | some d=>!(r.any fun o'=>BY o'.dst d) && !(base.any fun b=>Nat.beq b d)) && KS base r
theorem vG {base:List Nat}:∀ {l:List Oper} {i:Nat} {o:Oper} {d:Nat},KS base l=true→l[i]?=some o→o.dst=some d→d∉base
 | [],i,o,d,_,h,_=>by simp at h
 | x::r,i,o,d,hu,hi,hd=>by
  simp only [KS,Bool.and_eq_true] at hu;cases i with
  | zero =>
   simp at hi; subst hi;have:=hu.1;rw [hd] at this;simp only [Bool.and_eq_true,Bool.not_eq_true'] at this;intro hm;have h2:=this.2;rw [List.any_eq_false] at h2;exact h2 d hm (Nat.beq_refl d)
  | succ i=>exact vG hu.2 (by simpa using hi) hd
def U7 (base:List Nat) (aG:Array Oper) (o:Oper) (t:Nat):Bool:=(base.any fun b=>Nat.beq b t) || o.after.toList.any fun e=>Region.binds .any e && (match aG[e.on]? with
 | some o'=>BY o'.dst t
 | none=>false)
structure OkG (S:FR) (aG:Array Oper) (n:Nat):Prop where
 uq:KS S.base aG.toList=true
 tp:yW aG.toList 0=true
 sz:aG.size=n
structure IG (S:FR) (aG:Array Oper) (W0:World) (R:List aA) (ds:List Deferred) (listed:Array Bool) (a:Act) (w:World):Prop where
 fS:listed.size=aG.size
 cls:Closed aG listed
 OL:a.tmps.size=S.N
 HE:a.defers=ds
 st:∃ W:S.W,(∀ t,t∈S.base→a.tmps[t]?=some (S.ev W t))∧(∀ i o d,aG[i]?=some o→gA listed i→o.dst=some d→a.tmps[d]?=some (S.ev W d))∧aB W0 w (S.th W (fun j=>listed.getD j false)++R)
section
variable {P:Program} {S:FR} {aG:Array Oper} {n:Nat} {W0 w:World} {R:List aA} {ds:List Deferred} {listed:Array Bool} {a:Act} {Q:Exit→Act→World→Prop} {i d:Nat} {o:Oper}
theorem XQ {W:S.W} (hB:∀ t,t∈S.base→a.tmps[t]?=some (S.ev W t)) (hV:∀ i o d,aG[i]?=some o→gA listed i→o.dst=some d→a.tmps[d]?=some (S.ev W d))
  (hr:i∈Region.ready .any aG listed) (hs:listed.size=aG.size) (ho:aG[i]?=some o) {t:Nat} (ht:U7 S.base aG o t=true):a.tmps[t]?=some (S.ev W t):=by
 obtain ⟨o',r⟩:=cJ hs hr;obtain rfl:o'=o:=by have:=r.op; rw [ho] at this; exact (Option.some.inj this).symm
 unfold U7 at ht;rw [Bool.or_eq_true] at ht;rcases ht with h | h
 ·obtain ⟨b,hb,hh⟩:=List.any_eq_true.1 h;rw [Nat.eq_of_beq_eq_true hh] at hb;exact hB t hb
 obtain ⟨e,he,hh⟩:=List.any_eq_true.1 h;simp only [Bool.and_eq_true] at hh;obtain ⟨hb,hd⟩:=hh;cases ho':aG[e.on]? with
 | none=>rw [ho'] at hd; cases hd
 | some o2=>rw [ho'] at hd; exact hV _ _ _ ho' (r.src e he hb) (jJ.1 hd)
theorem aLj {f:Nat→Value} {ks:List Nat} (h:∀ t∈ks,a.tmps[t]?=some (f t)):Ev (ks.map fun t=>(t,f t)) a.eval:=by
 intro x v hx;cases x with
 | tmp t =>
  have hx':Proofs.YtadggjnohohedaaGreatDoor.lk (ks.map fun t=>(t,f t)) t=some v:=hx;have key:a.tmps[t]?=some v:=by
   induction ks with
   | nil=>cases hx'
   | cons k r ih =>
    simp only [List.map_cons,Proofs.YtadggjnohohedaaGreatDoor.lk] at hx';cases hb:Nat.beq k t with
    | true =>
     rw [hb] at hx'; simp only [cond_true,Option.some.injEq] at hx';have:=Nat.eq_of_beq_eq_true hb; subst this; subst hx';exact h k (by simp)
    | false=>rw [hb] at hx'; exact ih (fun t ht=>h t (List.mem_cons_of_mem _ ht)) (by simpa [Proofs.YtadggjnohohedaaGreatDoor.ev] using hx') hx'
  simp [Act.eval,Array.getD_eq_getD_getElem?,key]
 | const u=>simpa [Proofs.YtadggjnohohedaaGreatDoor.ev,Act.eval] using hx
 | global g=>simpa [Proofs.YtadggjnohohedaaGreatDoor.ev,Act.eval] using hx
 | func f=>simpa [Proofs.YtadggjnohohedaaGreatDoor.ev,Act.eval] using hx
theorem aHs {v:Value} {N:Nat} (hs:a.tmps.size=N) (hd:d < N) (t:Nat):(a.put (some d) v).tmps[t]?=if t=d then some v else a.tmps[t]?:=by
 by_cases h:t=d
 ·subst h; simp [Act.put,hs,hd]
 rw [if_neg h]; simp only [Act.put]; rw [Array.getElem?_setIfInBounds_ne (fun e=>h e.symm)]
theorem Z7 {W W':S.W} {w':World} (hok:OkG S aG n) (h:IG S aG W0 R ds listed a w) (hr:i∈Region.ready .any aG listed) (ho:aG[i]?=some o) (hd:o.dst=some d) (hl:d < S.N)
  (hB:∀ t,t∈S.base→a.tmps[t]?=some (S.ev W t)) (hV:∀ i o d,aG[i]?=some o→gA listed i→o.dst=some d→a.tmps[d]?=some (S.ev W d))
  (hB':∀ t,t∈S.base→S.ev W' t=S.ev W t) (hV':∀ i' o' d',aG[i']?=some o'→gA listed i'→o'.dst=some d'→S.ev W' d'=S.ev W d')
  (hs:aB W0 w' (S.th W' (fun j=>(listed.setIfInBounds i true).getD j false)++R)) :
  IG S aG W0 R ds (listed.setIfInBounds i true) (a.put (some d) (S.ev W' d)) w':=by
 obtain ⟨o2,r⟩:=cJ h.fS hr;obtain rfl:o2=o:=by have:=r.op; rw [ho] at this; exact (Option.some.inj this).symm
 have hi:i < listed.size:=by rw [h.fS]; exact r.lt
 have ho':aG.toList[i]?=some o2:=by simpa using ho
 refine ⟨by simp [h.fS],h.cls.set hr,by simp [Act.put,h.OL],h.HE,W',fun t ht=>?_,fun j o' d' hj hl' hd'=>?_,hs⟩
 ·rw [aHs h.OL hl,if_neg (fun e:t=d=>vG hok.uq ho' hd (e ▸ ht)),hB' t ht]; exact hB t ht
 rw [aHs h.OL hl];have hj':aG.toList[j]?=some o':=by simpa using hj
 by_cases e:d'=d
 ·rw [if_pos e,e]
 rw [if_neg e];rcases (bZ hi).1 hl' with rfl | hl'
 ·rw [ho] at hj; obtain rfl:=Option.some.inj hj; rw [hd] at hd'; exact (e (Option.some.inj hd').symm).elim
 rw [hV' j o' d' hj hl' hd']; exact hV j o' d' hj hl' hd'
theorem stepG (hok:OkG S aG n) (ho:aG[i]?=some o) (hd:o.dst=some d) (hg:o.guard=none) (ks:List Nat) (hks:ks.all (U7 S.base aG o)=true) (hl:Nat.blt d S.N=true) (hfx:(S.fx.all fun j=>!Nat.beq j i)=true)
  (hx:∀ W f,EX P W0 (ks.map fun t=>(t,S.ev W t)) (S.th W f++R) o (S.ev W d)) (h:IG S aG W0 R ds listed a w) (hr:i∈Region.ready .any aG listed) :
  wpOp P aG Q i (fun a' w'=>IG S aG W0 R ds (listed.setIfInBounds i true) a' w') a w:=by
 obtain ⟨W,hB,hV,hs⟩:=h.st;have hev:=aLj (a:=a) (f:=S.ev W) (ks:=ks) (fun t ht=>XQ hB hV hr h.fS ho (List.all_eq_true.1 hks t ht));unfold wpOp;simp only [ho,aU hg,if_true];refine .inl (gC (hx W _ a.eval w hev hs) ?_);rw [hd];refine Z7 (W:=W) (W':=W) hok h hr ho hd (mI hl) hB hV (fun _ _=>rfl) (fun _ _ _ _ _ _=>rfl) ?_;rw [S.thC W _ (fun j=>listed.getD j false) (fun j hj=>getD_set_ne false (fun e=>by subst e; have:=List.all_eq_true.1 hfx i hj; simp at this))];exact hs
theorem zC {α:Type} (hok:OkG S aG n) (ho:aG[i]?=some o) (hd:o.dst=some d) (hg:o.guard=none) (ks:List Nat) (hks:ks.all (U7 S.base aG o)=true) (hl:Nat.blt d S.N=true)
  {v:α→Value} {T:S.W→α→aA} {C:α→Prop} (set:S.W→α→S.W) (hx:∀ W f,EF P W0 (ks.map fun t=>(t,S.ev W t)) (S.th W f++R) o v (fun x=>T W x::(S.th W f++R)) C)
  (hown:∀ W x,S.ev (set W x) d=v x) (hB':∀ W x,∀ t∈S.base,S.ev (set W x) t=S.ev W t) (hV':∀ W x i' o' d',aG[i']?=some o'→i'≠i→(o'.after.toList.any fun e=>Region.binds .any e && Nat.beq e.on i)=false→(∃ l:Array Bool,Closed aG l∧¬ gA l i∧gA l i')→o'.dst=some d'→S.ev (set W x) d'=S.ev W d')
  (hT:∀ W x (l:Array Bool) (f':Nat→Bool),Closed aG l→¬ gA l i→f' i=true→(∀ j,j≠i→f' j=l.getD j false)→(T W x::S.th W (fun j=>l.getD j false)).Perm (S.th (set W x) f')) (h:IG S aG W0 R ds listed a w) (hr:i∈Region.ready .any aG listed) :
  wpOp P aG Q i (fun a' w'=>IG S aG W0 R ds (listed.setIfInBounds i true) a' w') a w:=by
 obtain ⟨W,hB,hV,hs⟩:=h.st;obtain ⟨o2,r⟩:=cJ h.fS hr;have hi:i < listed.size:=by rw [h.fS]; exact r.lt
 have hev:=aLj (a:=a) (f:=S.ev W) (ks:=ks) (fun t ht=>XQ hB hV hr h.fS ho (List.all_eq_true.1 hks t ht));unfold wpOp;simp only [ho,aU hg,if_true];obtain ⟨x,w',hc,hrun,hs'⟩:=hx W _ a.eval w hev hs;refine .inl (gC hrun ?_);rw [hd,← hown W x];refine Z7 (W:=W) (W':=set W x) hok h hr ho hd (mI hl) hB hV (hB' W x) (fun i' o' d' hi' hl' hd'=>?_) ?_
 ·have hne:i'≠i:=fun e=>by subst e; exact r.not hl'
  refine hV' W x i' o' d' hi' hne ?_ ⟨listed,h.cls,r.not,hl'⟩ hd';cases hb:(o'.after.toList.any fun e=>Region.binds .any e && Nat.beq e.on i) with
  | false=>rfl
  | true=>exact (r.not (cQ h.cls hi' hb hl')).elim
 ·have:=hT W x listed (fun j=>(listed.setIfInBounds i true).getD j false) h.cls r.not (eM hi) (fun j hj=>getD_set_ne false (Ne.symm hj));exact hs'.perm (List.Perm.append_right R this)
theorem LE (bU:P.follows .mixedOrders=true) (hok:OkG S aG n) {W:S.W} (h1:a.tmps.size=S.N) (h2:a.defers=ds) (hB:∀ t,t∈S.base→a.tmps[t]?=some (S.ev W t)) (hs:aB W0 w (S.th W (fun _=>false)++R))
  (hstep:∀ (i:Nat),i < n→∀ {listed:Array Bool} {a:Act} {w:World},IG S aG W0 R ds listed a w→i∈Region.ready .any aG listed→wpOp P aG Q i (fun a' w'=>IG S aG W0 R ds (listed.setIfInBounds i true) a' w') a w)
  (hQ:∀ a' w' W,a'.tmps.size=S.N→a'.defers=ds→(∀ t,t∈S.base→a'.tmps[t]?=some (S.ev W t))→(∀ (i:Nat) (o:Oper) (d:Nat),aG[i]?=some o→o.dst=some d→a'.tmps[d]?=some (S.ev W d))→(∃ f:Nat→Bool,(∀ i,i < n→f i=true)∧aB W0 w' (S.th W f++R))→Q .normal a' w') {id:Nat} :
  (Code.region id aG true).wp P Q a w:=by
 have hI:IG S aG W0 R ds (Array.replicate aG.size false) a { w with drawn:=w.drawn + 1 }:=by
  refine ⟨by simp,fun j oj hj hl=>(bP _ _ hl).elim,h1,h2,W,hB,fun i o d _ hl=>(bP _ _ hl).elim,?_⟩;rw [S.thC W _ (fun _=>false) (fun j _=>bJ (bP _ _))];exact hs.drew
 refine wp_region_any bU (nX (I:=IG S aG W0 R ds) (fun l a w h=>h.fS) (fun l a w i h hi=>?_) (fun l a w h hr=>?_) _ _ _ _ hI (by unfold left; exact Nat.le_trans List.countP_le_length (by simp)))
 ·obtain ⟨o,r⟩:=cJ h.fS hi;exact hstep i (by have:=r.lt; rw [hok.sz] at this; exact this) h hi
 have hall:=qU h.fS hok.tp hr;rw [hok.sz] at hall;obtain ⟨W,e2,e3,e4⟩:=h.st;refine hQ a w W h.OL h.HE e2 (fun i o d ho hd=>e3 i o d ho (hall i ?_) hd) ⟨_,hall,e4⟩;have hi:i < aG.size:=by
  rcases Nat.lt_or_ge i aG.size with h' | h'
  ·exact h'
  rw [Array.getElem?_eq_none h'] at ho; cases ho
 rw [← hok.sz]; exact hi
end
section
variable {P:Program} {W0 w:World} {L:List aA} {kn:Kn}
theorem EF.makeSlice {d g T x y ty pos af} {e n:Nat} {i:TypeInfo} {z:Value} (hx:Proofs.YtadggjnohohedaaGreatDoor.ev kn x=some (.int .i64 (n:Nat))) (hy:Proofs.YtadggjnohohedaaGreatDoor.ev kn y=some (.int .i64 (n:Nat))) (hT:P.underlying T=some (.slice e)) (hi:P.info? e=some i) (hz:i.zero=some z) (hb:i.bytes * n≤281474976710656) (hn:n≤1000000) :
  EF P W0 kn L ⟨d,.makeSlice T x y,ty,pos,af,g⟩ (fun b:Nat=>.slice (some ⟨b,0,none⟩) n n) (fun b=>Bk b e (madeCells z.cells (n * i.size)).toList::L) (fun _=>True):=fun ρ w he hs=>by
 have hb':(i.bytes:Int) * (n:Int)≤281474976710656:=by
  have h:((i.bytes * n:Nat):Int)≤281474976710656:=by omega
  rwa [Int.natCast_mul] at h
 have hr:=run_make (P:=P) w T e i z hT hi hz .i64 .i64 n n (by omega) (Int.le_refl _) hb' (by omega);simp only [Int.toNat_natCast] at hr;refine ⟨w.heap.size,w.alloc (.cells (madeCells z.cells (n * i.size)) e),trivial,?_,?_⟩
 ·simp only [execOp,he x _ hx,he y _ hy,Sem.run_bind,hr,Result.andThen_ok]; rfl
 exact hs.wD e (madeCells z.cells (n * i.size)).toList
end
end
end EV
end Go.Proofs.YtadggjnohohedaaGreatDoor
