/- TopAlone: for every input the call returns true; part A7 of the proof. -/
import Derived.Test.YtadggjnohohedaaGreatDoorA6
import Derived.KernelRfl
import Derived.Lib.LaidTab
set_option linter.unusedVariables false
set_option linter.unusedSimpArgs false
set_option linter.unusedSectionVars false
set_option maxRecDepth 1000000
open Go.RowKit
namespace Go.Proofs.YtadggjnohohedaaGreatDoor
section
open EV (aC)
theorem aJf {p:Prop} (h:p:=by
  refine D.n (.t7 (.t7 (.t7 (.t8 (.t8 (.t8 (.t8 (.t8 (.t8 .refl))))))))) ?_;refine Ga 16 ?_;refine Kw (.direct eN rfl) (EE _ _ _ _ _ _ _ _ _ _ _ _ _ _ _ _ _ (by omega) l2 65536 (by decide) (by omega) (by omega) (by omega) A _ hs2 aK6 _ _ _ _ _ hpk) (.cons .p1 (.cons .p1 (.cons .p1 (.cons .p1 (.cons .p1 (.cons .p1 (.cons .p4 .nil))))))) fun zt mY=>?_;obtain ⟨tv,tos,TF,tco,te,tms,tl⟩:=zt;unfold nN at mY;dsimp only [Rs.val] at mY ⊢;obtain ⟨⟨⟨ta,tc,rfl⟩,YJ,YI,aEw,aEv,htg⟩,hwho⟩:=mY;obtain ⟨r3,e3,_⟩:=htg.app;have hst:=hs2.grow htg;have hlt:=htg.len hn2;have aRv:0≤zp∧zp < 100:=(by rw [S4]; split <;> omega);have aR3:0≤TF∧TF < 100:=(by rcases YI with h | h <;> omega);refine D.n (.t9 (.t9 (.t9 (.t9 (.t9 (.t9 (.t9 (.t9 (.t9 .refl))))))))) ?_;refine Dq 2 [17,18,19] ?_;refine Ga 21 ?_;refine Au ?_;refine D.n (.t9 (.t9 (.t9 (.t9 (.t9 (.t9 (.t9 (.t9 (.t9 .refl))))))))) ?_;refine Ds 22 ?_;refine Gd ?_;refine Au ?_;refine GC.cond rfl (fun aM0=>?_) (fun aM0=>?_)
  ·refine Au ?_;refine Gq fun w h=>?_;refine ⟨(⟨0,0,none,0,0,0,0,te⟩,⟨sa,sc,sent,now,drawn + 1 + 1,f0,f1,z1++⟨bp,gp,cp,gq,cq,bb,bl,md,mk,se,tms,sp,bM,gv,ps,qs⟩::z2,tl,aD⟩),?_,rfl,((show aB W0 _ (pos bs (z1++⟨bp,gp,cp,gq,cq,bb,bl,md,mk,se,tms,sp,bM,gv,ps,qs⟩::z2)::_) from iC (q:=⟨bp,gp,cp,gq,cq,bb,bl,md,mk,se,tms,sp,bM,gv,ps,qs⟩) (h.part (.t1 (.t1 (.t1 (.t1 (.t1 (.t1 (.t3 (.t4 (.t4 (.t1 (.t3 (.t3 (.d (.d (.d (.d (.d (.d .refl)))))))))))))))))))).part (.t1 (.t1 .refl)))⟩;exact aJd
  refine Au ?_;refine Kw (.direct eN rfl) (KL _ _ (by omega)) .nil fun zw QV=>?_;refine Ef (EF.alloc aL) fun aTc _=>?_;refine Au ?_;refine Lu rfl (EX.makeFunc (fs:=[]) (cs:=[_,_,_,_]) rfl rfl) ?_;refine Au ?_;refine GC.bH rfl rfl ?_;refine Au ?_;refine GC.bH rfl rfl ?_;refine Au ?_;refine Gr 10 (.t (.f (.t (.t (.t (.t (.t (.t (.t (.t (.t (.t (.f (.t (.f (.t (.t (.t .e)))))))))))))))))) ?_;refine Dq 4 [0,1,2,3,4,5] ?_;refine Ga 6 ?_;refine Kw (.direct eN rfl) (DF _ _ _ _ _ _ _ _ _ _ _ _ _ (by omega) _ _ _ _ _ YJ) (.cons .eO (.cons .p1 (.cons .eO .nil))) fun zs9 hzs=>?_;obtain ⟨sv9,s2⟩:=zs9;dsimp only at hzs ⊢;obtain ⟨⟨va,vc,rfl⟩,YK⟩:=hzs;have hs3:s2=sent∨∃ p:Pk,s2=sent++[p]∧(0≤p.a∧p.a < (aH.length:Int))∧(0≤p.b∧p.b < (aH.length:Int))∧OA p.s:=(by
   rcases YJ with rfl | ⟨t,rfl,hrt⟩
   ·exact .inl (by rw [YK]; simp)
   have h8:=hwho (by simp);have h9:TF=zp:=(by rcases YI with ⟨h,_⟩ | h; cases h; exact h);refine .inr ⟨⟨(i:Int),zw,t⟩,YK,hto,?_,hrt⟩;dsimp only;rw [QV]; split <;> omega)
  refine D.n (.t2 (.t2 (.t2 (.t2 (.t2 (.t2 (.t2 (.t2 (.t2 (.t2 (.t2 (.t2 (.t2 (.t2 (.t2 .refl))))))))))))))) ?_;refine Ga 7 ?_;refine Au ?_;refine D.n (.t2 (.t2 (.t2 (.t2 (.t2 (.t2 (.t2 (.t2 (.t2 (.t2 (.t2 (.t2 (.t2 (.t2 (.t2 .refl))))))))))))))) ?_;refine Dq 0 [8,9] ?_;refine Gd ?_;refine Au ?_;refine Gq fun w h=>?_;refine ⟨(⟨TF,0,ta,tos.length,tc,tco,tos.length,0⟩,⟨va,vc,s2,now,drawn + 1 + 1,f0,f1,z1++⟨bp,gp,cp,gq,cq,bb,bl,md,mk,se,tms,sp,bM,gv,ps,qs⟩::z2,tl,aD⟩),?_,rfl,((show aB W0 _ (pos bs (z1++⟨bp,gp,cp,gq,cq,bb,bl,md,mk,se,tms,sp,bM,gv,ps,qs⟩::z2)::_) from iC (q:=⟨bp,gp,cp,gq,cq,bb,bl,md,mk,se,tms,sp,bM,gv,ps,qs⟩) (h.part (.t3 (.t3 (.t3 (.t3 (.t3 (.t3 (.t5 (.t0 (.t5 (.t2 (.t0 (.t3 (.d (.d (.d (.d (.d (.d .refl)))))))))))))))))))).part (.t1 (.t1 .refl)))⟩;exact aJc):p:=h
theorem aJe {p:Prop} (h:p:=by
  refine D.n (.t3 (.t3 (.t3 (.t3 (.t3 (.t3 (.t3 .refl))))))) ?_;refine Dp 4 rfl (fun X=>EX.build rfl KD rfl) ?_;refine Ga 6 ?_;refine Au ?_;refine D.n (.t3 (.t3 (.t3 (.t3 (.t3 (.t3 (.t3 .refl))))))) ?_;refine Gd ?_;exact GE.jn _ (.c rfl (.c rfl (.c rfl (.c rfl (.c rfl (.c rfl .n)))))) (.t2 (.t0 (.t0 (.t3 (.t3 (.t3 (.t3 (.t2 (.t1 .refl))))))))) (trivial)):p:=h
theorem aJd {p:Prop} (h:p:=by
  exact hI.at_ hz (r2++r3) (by rw [e3,el2,List.append_assoc]) hst (by dsimp only; omega) hlt rfl (by rw [e3,el2,List.append_assoc]; exact hq.ms_ aEw aEv) (.inl rfl)):p:=h
theorem aJc {p:Prop} (h:p:=by
  exact hI.at_ hz (r2++r3) (by rw [e3,el2,List.append_assoc]) hst (by dsimp only; omega) hlt rfl (by rw [e3,el2,List.append_assoc]; exact hq.ms_ aEw aEv) hs3):p:=h
theorem cL.aL7 {A:Int→Prop} {k:Nat} {aH:List Nat} {w:WS} (h:cL A k aH w):∃ l2 r,(dR (dR w.l 65536 w.drawn).2 65536 (w.drawn + 1)).2=l2∧l2=w.l++r∧rA A l2 (w.drawn + 1 + 1)∧(l2.length:Int)≤65536:=by
 obtain ⟨s1,⟨r1,e1⟩,_⟩:=h.sec.draw 65536;obtain ⟨s2,⟨r2,e2⟩,_⟩:=s1.draw 65536;exact ⟨_,r1++r2,rfl,by rw [e2,e1,List.append_assoc],s2,iL (iL h.ln)⟩
theorem cL.at_ {A:Int→Prop} {k:Nat} {aH:List Nat} {w:WS} (h:cL A k aH w) {q q':Po} {z1 z2:List Po} (hz:w.zs=z1++q::z2) {sa:Option Addr} {sc:Nat} {sent:List Pk} {now d:Int} {f0 f1:Bool} {l:List Tm} (r:List Tm) (hl:l=w.l++r) (hs:rA A l d) (hd:0≤d∧d≤w.drawn + 2) (hn:(l.length:Int)≤65536)
  (hbp:q'.bp=q.bp) (hq:tA A (k + 1) l aH.length q') (hsn:sent=w.sent∨∃ p,sent=w.sent++[p]∧(0≤p.a∧p.a < (aH.length:Int))∧(0≤p.b∧p.b < (aH.length:Int))∧OA p.s):cL A (k + 1) aH ⟨sa,sc,sent,now,d,f0,f1,z1++q'::z2,l,w.aD⟩:=by
 refine h.step r hl hs hd hn ?_ ?_ hsn
 ·rw [← h.bp,hz]; simp [hbp]
 intro p hp;have hu:∀ p∈w.zs,tA A (k + 1) l aH.length p:=fun p hp=>hl ▸ (h.po p hp).up fun x hx=>hx.app;rw [hz] at hu;rcases List.mem_append.1 hp with h1 | h1
 ·exact hu p (List.mem_append_left _ h1)
 rcases List.mem_cons.1 h1 with rfl | h1
 ·exact hq
 exact hu p (List.mem_append_right _ (List.mem_cons_of_mem _ h1))
theorem tA.ms_ {A:Int→Prop} {k:Nat} {l r:List Tm} {n:Nat} {bp gp cp gq cq bb bl:Nat} {md mk se ms sp:Int} {bM:ByteArray} {gv:Value} {ps:List Pr} {qs:List (Nat × Nat)} {ms':Int} (h:tA A k l n ⟨bp,gp,cp,gq,cq,bb,bl,md,mk,se,ms,sp,bM,gv,ps,qs⟩) (h1:ms≤ms') (h2:ms'≤ms + 1) :
  tA A (k + 1) (l++r) n ⟨bp,gp,cp,gq,cq,bb,bl,md,mk,se,ms',sp,bM,gv,ps,qs⟩:=by
 have u:=h.up (r:=r) (fun x hx=>hx.app (m:=r));have a:=h.ms0;have b:=h.ms1;dsimp only at a b;exact ⟨u.qn,u.pn,u.bM,by dsimp only; omega,by dsimp only; omega,u.md,u.Z8,u.ps⟩
theorem DD (bw bs gw cw bk:Nat) (aH:List Nat) (sa:Option Addr) (sc:Nat) (sent:List Pk) (now drawn:Int) (f0 f1:Bool) (zs:List Po) (l:List Tm) (aD:List (Int × Value)) (A:Int→Prop) (k:Nat) (hk:k≤60) (hI:cL A k aH ⟨sa,sc,sent,now,drawn,f0,f1,zs,l,aD⟩) (fr TG:Int) (pk:ByteArray) (hpk:pk.size≤1000000) (hfr:0≤fr∧fr < (aH.length:Int)) (hto:0≤TG∧TG < (aH.length:Int)) :
  bQ Tryz.prog 138 [ptr bw,.int .i64 fr,.int .i64 TG,.string pk] [Bk bw 142 [ptr bs,.slice (some ⟨gw,0,none⟩) aH.length cw,.int .u64 now,.int .u64 drawn,.slice sa sent.length sc,.slice none 0 0,.map (some bk),.bool f0,.bool f1],Rw 23 1 (.slice (some ⟨gw,0,none⟩) aH.length cw) aH.length (aH.map ptr),pos bs zs,St bs l 65536,Rw 291 3 (.slice sa sent.length sc) sent.length (hP sent),Mp (aC .i64) bk aD] (fun x:Gt × WS=>x.1.val) (fun x=>[Bk bw 142 [ptr bs,.slice (some ⟨gw,0,none⟩) aH.length cw,.int .u64 x.2.now,.int .u64 x.2.drawn,.slice x.2.sa x.2.sent.length x.2.sc,.slice none 0 0,.map (some bk),.bool x.2.f0,.bool x.2.f1],Rw 23 1 (.slice (some ⟨gw,0,none⟩) aH.length cw) aH.length (aH.map ptr),pos bs x.2.zs,St bs x.2.l 65536,Rw 291 3 (.slice x.2.sa x.2.sent.length x.2.sc) x.2.sent.length (hP x.2.sent),Mp (aC .i64) bk x.2.aD]) (fun x=>cL A (k + 1) aH x.2):=by
 refine Fg Tryz.func138 Tryz.ntmps138 fun W0 R=>?_;have hn:=hI.n2;have hdr:=hI.dr;have hsn:=hI.sn;have hln:=hI.ln;dsimp only at hdr hsn hln;obtain ⟨i,rfl⟩:∃ i:Nat,TG=(i:Int):=⟨TG.toNat,by omega⟩;obtain ⟨⟨bp,gp,cp,gq,cq,bb,bl,md,mk,se,ms,sp,bM,gv,ps,qs⟩,z1,z2,hz,hqi,hz1⟩:=pos_at hI.bp (i:=i) (by omega);dsimp only at hz hqi;have hq:=hI.po ⟨bp,gp,cp,gq,cq,bb,bl,md,mk,se,ms,sp,bM,gv,ps,qs⟩ (by dsimp only; rw [hz]; simp);have hq1:=hq.qn;have hq2:=hq.pn;have hq3:=hq.bM;have hq4:=hq.ms0;have YL:=hq.ms1;have RA:=hq.ps;dsimp only at hq1 hq2 hq3 hq4 YL RA;refine Au ?_;refine Ef (EF.ZS rfl rfl) fun b4 _=>?_;refine Ef (EF.ZS rfl rfl) fun b6 _=>?_;refine Ef (EF.alloc aL) fun b8 _=>?_;refine Lr.run (.a rfl (.a rfl .s)) rfl ?_;refine Zn ?_;refine GC.join (σ:=Nat) (fun s=>[(11,ptr s),(1,.int .i64 fr),(3,.string pk),(4,ptr b4),(6,ptr b6),(8,ptr b8)]) (fun s=>Bk s 62 [.int .i64 (dR l 65536 drawn).1,.int .i64 (dR (dR l 65536 drawn).2 65536 (drawn + 1)).1]::Bk bw 142 [ptr bs,.slice (some ⟨gw,0,none⟩) aH.length cw,.int .u64 now,.int .u64 (drawn + 1 + 1),.slice sa sent.length sc,.slice none 0 0,.map (some bk),.bool f0,.bool f1]::St bs (dR (dR l 65536 drawn).2 65536 (drawn + 1)).2 65536::Rw 23 1 (.slice (some ⟨gw,0,none⟩) aH.length cw) aH.length (aH.map ptr)::pos bs zs::Rw 291 3 (.slice sa sent.length sc) sent.length (hP sent)::Mp (aC .i64) bk aD::Bk b4 48 [ptr bw]::Bk b6 3 [.int .i64 (i:Int)]::Bk b8 34 [.int .i64 0,.string ⟨#[]⟩,.bool false,.int .i64 0,.slice none 0 0,.int .i64 0]::R) (fun s=>True) (fun s hs=>?_) ?_
 ·refine Zs ?_;obtain ⟨l2,r2,hl2,el2,hs2,hn2⟩:=hI.aL7;dsimp only at hl2 el2 hs2 hn2;rw [hl2];have aK6:∀ p∈ps,aV A l2 p.p0∧aV A l2 p.p1:=fun p hp=>(by rw [el2]; exact ⟨(RA p hp).1.app,(RA p hp).2.app⟩);refine GC.turn (fun w h=>h.part (.t4 .refl)) ?_;refine GC.turn (fun w h=>(show aB W0 w (Bk bp 79 [ptr bs,.int .i64 md,.int .i64 mk,.slice (some ⟨gp,0,none⟩) ps.length cp,.string bM,.int .i64 20,.int .u64 se,.int .u64 ms,.int .u64 sp,gv,.slice (some ⟨gq,0,none⟩) qs.length cq,.map (some bb),.map (some bl)]::Rw 123 1 (.slice (some ⟨gq,0,none⟩) qs.length cq) qs.length (oH qs)::Rw 64 4 (.slice (some ⟨gp,0,none⟩) ps.length cp) ps.length (iU ps)::Mp (aC .u64) bb []::Mp (aC .u64) bl []::jO qs::pos bs (z1++z2)::_) from fR hz h)) ?_;refine Gr 23 (.f (.f (.f (.f (.f (.f (.t (.t (.t (.f (.t (.t (.t (.t (.t (.t .e)))))))))))))))) ?_;refine Dq 18 [0,1,2,3,4] ?_;refine Dv 5 rfl (fun X=>EX.indexAddr (a:=i) rfl rfl sL (by omega) (by simp)) ?_;refine Dv 6 rfl (fun X=>EX.tU rfl hqi oN) ?_;refine Dq 8 [7,8,10,11,12,13,14,15] ?_;refine GD.xS 9 20 (by kernel_rfl) rfl rfl ?_ ?_
  ·refine Kw (.direct eN rfl) (gU _ _ (by omega)) .nil fun zp S4=>?_;refine D.n (.t6 (.t6 (.t6 (.t7 (.t7 (.t7 (.t7 (.t7 (.t7 .refl))))))))) ?_;refine GD.xS 16 20 (by kernel_rfl) rfl rfl ?_ ?_
   ·refine Kw (.direct eN rfl) (EE _ _ _ _ _ _ _ _ _ _ _ _ _ _ _ _ _ (by omega) l2 65536 (by decide) (by omega) (by omega) (by omega) A _ hs2 aK6 _ _ _ _ _ hpk) (.cons .p0 (.cons .p0 (.cons .p0 (.cons .p0 (.cons .p0 (.cons .p0 (.cons .p3 .nil))))))) fun zt mY=>?_;obtain ⟨tv,tos,TF,tco,te,tms,tl⟩:=zt;unfold nN at mY;dsimp only [Rs.val] at mY ⊢;obtain ⟨⟨⟨ta,tc,rfl⟩,YJ,YI,aEw,aEv,htg⟩,hwho⟩:=mY;obtain ⟨r3,e3,_⟩:=htg.app;have hst:=hs2.grow htg;have hlt:=htg.len hn2;have aRv:0≤zp∧zp < 100:=(by rw [S4]; split <;> omega);have aR3:0≤TF∧TF < 100:=(by rcases YI with h | h <;> omega);refine D.n (.t8 (.t8 (.t8 (.t8 (.t8 (.t8 (.t8 (.t8 (.t8 .refl))))))))) ?_;refine Dq 3 [17,18,19] ?_;refine Ga 20 ?_;refine Ef (EF.alloc aL) fun b12 _=>?_;refine D.n (.t9 (.t9 (.t9 (.t9 (.t9 (.t9 (.t9 (.t9 (.t9 .refl))))))))) ?_;refine Ga 21 ?_;refine Au ?_;refine D.n (.t9 (.t9 (.t9 (.t9 (.t9 (.t9 (.t9 (.t9 (.t9 .refl))))))))) ?_;refine Ds 22 ?_;refine Gd ?_;refine Au ?_;refine GC.cond rfl (fun c42=>?_) (fun c42=>?_)
    ·refine Au ?_;refine Gq fun w h=>?_;refine ⟨(⟨0,0,none,0,0,0,0,te⟩,⟨sa,sc,sent,now,drawn + 1 + 1,f0,f1,z1++⟨bp,gp,cp,gq,cq,bb,bl,md,mk,se,tms,sp,bM,gv,ps,qs⟩::z2,tl,aD⟩),?_,rfl,((show aB W0 _ (pos bs (z1++⟨bp,gp,cp,gq,cq,bb,bl,md,mk,se,tms,sp,bM,gv,ps,qs⟩::z2)::_) from iC (q:=⟨bp,gp,cp,gq,cq,bb,bl,md,mk,se,tms,sp,bM,gv,ps,qs⟩) (h.part (.t2 (.t2 (.t2 (.t2 (.t2 (.t2 (.t3 (.t4 (.t4 (.t2 (.t3 (.t3 (.d (.d (.d (.d (.d (.d .refl)))))))))))))))))))).part (.t1 (.t1 .refl)))⟩;exact aJd
    refine Au ?_;refine Kw (.direct eN rfl) (KL _ _ (by omega)) .nil fun zw QV=>?_;refine Ef (EF.alloc aL) fun b14 _=>?_;refine Au ?_;refine Lu rfl (EX.makeFunc (fs:=[]) (cs:=[_,_,_,_]) rfl rfl) ?_;refine Au ?_;refine GC.bH rfl rfl ?_;refine Au ?_;refine GC.bH rfl rfl ?_;refine Au ?_;refine Gr 10 (.t (.t (.f (.t (.t (.t (.t (.t (.t (.t (.t (.t (.f (.t (.f (.t (.t (.t .e)))))))))))))))))) ?_;refine Dq 4 [0,1,2,3,4,5] ?_;refine Ga 6 ?_;refine Kw (.direct eN rfl) (DF _ _ _ _ _ _ _ _ _ _ _ _ _ (by omega) _ _ _ _ _ YJ) (.cons .eO (.cons .p2 (.cons .eO .nil))) fun zs9 hzs=>?_;obtain ⟨sv9,s2⟩:=zs9;dsimp only at hzs ⊢;obtain ⟨⟨va,vc,rfl⟩,YK⟩:=hzs;have hs3:s2=sent∨∃ p:Pk,s2=sent++[p]∧(0≤p.a∧p.a < (aH.length:Int))∧(0≤p.b∧p.b < (aH.length:Int))∧OA p.s:=(by
     rcases YJ with rfl | ⟨t,rfl,hrt⟩
     ·exact .inl (by rw [YK]; simp)
     have h8:=hwho (by simp);have h9:TF=zp:=(by rcases YI with ⟨h,_⟩ | h; cases h; exact h);refine .inr ⟨⟨(i:Int),zw,t⟩,YK,hto,?_,hrt⟩;dsimp only;rw [QV]; split <;> omega)
    refine D.n (.t2 (.t2 (.t2 (.t2 (.t2 (.t2 (.t2 (.t2 (.t2 (.t2 (.t2 (.t2 (.t2 (.t2 (.t2 .refl))))))))))))))) ?_;refine Ga 7 ?_;refine Au ?_;refine D.n (.t2 (.t2 (.t2 (.t2 (.t2 (.t2 (.t2 (.t2 (.t2 (.t2 (.t2 (.t2 (.t2 (.t2 (.t2 .refl))))))))))))))) ?_;refine Dq 0 [8,9] ?_;refine Gd ?_;refine Au ?_;refine Gq fun w h=>?_;refine ⟨(⟨TF,0,ta,tos.length,tc,tco,tos.length,0⟩,⟨va,vc,s2,now,drawn + 1 + 1,f0,f1,z1++⟨bp,gp,cp,gq,cq,bb,bl,md,mk,se,tms,sp,bM,gv,ps,qs⟩::z2,tl,aD⟩),?_,rfl,((show aB W0 _ (pos bs (z1++⟨bp,gp,cp,gq,cq,bb,bl,md,mk,se,tms,sp,bM,gv,ps,qs⟩::z2)::_) from iC (q:=⟨bp,gp,cp,gq,cq,bb,bl,md,mk,se,tms,sp,bM,gv,ps,qs⟩) (h.part (.t4 (.t4 (.t4 (.t4 (.t4 (.t4 (.t5 (.t0 (.t5 (.t3 (.t0 (.t3 (.d (.d (.d (.d (.d (.d .refl)))))))))))))))))))).part (.t1 (.t1 .refl)))⟩;exact aJc
   refine Ef (EF.alloc aL) fun aTe _=>?_;exact aJf
  refine Ef (EF.alloc aL) fun aTd _=>?_;refine D.n (.t7 (.t7 (.t7 (.t8 (.t8 (.t8 (.t8 (.t8 (.t8 .refl))))))))) ?_;refine Ga 9 ?_;refine Kw (.direct eN rfl) (gU _ _ (by omega)) .nil fun zp S4=>?_;exact aJf
 refine Gr 7 (.t (.t (.t (.f (.t (.t (.f (.t (.t .e))))))))) ?_;refine Dq 5 [0,2] ?_;refine GD.xS 1 5 (by kernel_rfl) rfl rfl ?_ ?_
 ·refine Kw (.direct eN rfl) (iG _ _ _ _ _ _ _ _ _ _ _ _ _ _ 65536 (by decide) (by omega)) (.cons .p3 (.cons .p5 .nil)) fun _ _=>?_;refine D.n (.t2 (.t2 (.t2 (.t2 (.t2 (.t2 (.t2 .refl))))))) ?_;refine GD.xS 3 5 (by kernel_rfl) rfl rfl ?_ ?_
  ·refine Kw (.direct eN rfl) (iG _ _ _ _ _ _ _ _ _ _ _ _ _ _ 65536 (by decide) (by omega)) (.cons .p0 (.cons .p0 .nil)) fun _ _=>?_;refine D.n (.t2 (.t2 (.t2 (.t2 (.t2 (.t2 (.t2 .refl))))))) ?_;refine Dp 4 rfl (fun X=>EX.build rfl KD rfl) ?_;refine Ga 5 ?_;refine Ef (EF.alloc aL) fun b11 _=>?_;refine D.n (.t3 (.t3 (.t3 (.t3 (.t3 (.t3 (.t3 .refl))))))) ?_;refine Ga 6 ?_;refine Au ?_;refine D.n (.t3 (.t3 (.t3 (.t3 (.t3 (.t3 (.t3 .refl))))))) ?_;refine Gd ?_;exact GE.jn _ (.c rfl (.c rfl (.c rfl (.c rfl (.c rfl (.c rfl .n)))))) (.t0 (.t0 (.t0 (.t3 (.t3 (.t3 (.t3 (.t2 (.t1 .refl))))))))) (trivial)
  refine Ef (EF.alloc aL) fun aTg _=>?_;refine D.n (.t3 (.t3 (.t3 (.t3 (.t3 (.t3 (.t3 .refl))))))) ?_;refine Ga 3 ?_;refine Kw (.direct eN rfl) (iG _ _ _ _ _ _ _ _ _ _ _ _ _ _ 65536 (by decide) (by omega)) (.cons .p1 (.cons .p1 .nil)) fun _ _=>?_;exact aJe
 refine Ef (EF.alloc aL) fun aTf _=>?_;refine D.n (.t1 (.t1 (.t1 (.t2 (.t2 (.t3 (.t3 .refl))))))) ?_;refine Ga 1 ?_;refine Kw (.direct eN rfl) (iG _ _ _ _ _ _ _ _ _ _ _ _ _ _ 65536 (by decide) (by omega)) (.cons .p4 (.cons .p6 .nil)) fun _ _=>?_;refine D.n (.t3 (.t3 (.t3 (.t3 (.t3 (.t3 (.t3 .refl))))))) ?_;refine Ga 3 ?_;refine Kw (.direct eN rfl) (iG _ _ _ _ _ _ _ _ _ _ _ _ _ _ 65536 (by decide) (by omega)) (.cons .p0 (.cons .p0 .nil)) fun _ _=>?_;exact aJe
end
section
open EV (aC)
theorem cL.idle {A:Int→Prop} {k:Nat} {aH:List Nat} {w:WS} (h:cL A k aH w) {now:Int} {f0 f1:Bool}:cL A (k + 1) aH ⟨w.sa,w.sc,w.sent,now,w.drawn,f0,f1,w.zs,w.l,w.aD⟩ :=
 h.step [] (by simp) h.sec (by have:=h.dr; omega) h.ln h.bp (fun q hq=>by have:=(h.po q hq).up (r:=[]) (A':=A) (fun x hx=>by rwa [List.append_nil]); rwa [List.append_nil] at this) (.inl rfl)
theorem aJb {p:Prop} (h:p:=by
  refine Au ?_;refine Kw (.direct eN rfl) (DD _ _ _ _ _ _ _ _ _ _ _ _ _ _ _ _ _ _ hk hI _ _ _ (by first | omega | exact hpk) (by first | exact h2.1 | exact (hg (by simpa using c28)).1 | exact hpt.1) (by first | exact h2.2 | exact (hg (by simpa using c28)).2 | exact hpt.2.1)) (.cons .p3 (.cons .p3 (.cons .p3 (.cons .p3 (.cons .p3 (.cons .p3 .nil)))))) fun zt mY=>?_;obtain ⟨⟨g0,g1,g2,g3,g4,g5,g6,g7⟩,w9⟩:=zt;dsimp only [Gt.val] at mY ⊢;refine Au ?_;refine Gq fun w h=>?_;exact ⟨(⟨g0,g1,g2,g3,g4,g5,g6,g7⟩,w9),⟨A,mY⟩,rfl,h.part (.t0 (.t0 (.t0 (.t0 (.t0 (.t0 (.d (.d (.d .refl)))))))))⟩):p:=h
theorem tA.same {A:Int→Prop} {k:Nat} {l:List Tm} {n:Nat} {q:Po} (h:tA A k l n q):tA A (k + 1) l n q:=by
 have:=h.up (r:=[]) (A':=A) (fun x hx=>by rwa [List.append_nil])
 rwa [List.append_nil] at this
theorem HO (bw bs gw cw bk:Nat) (aH:List Nat) (sa:Option Addr) (sc:Nat) (sent:List Pk) (now drawn:Int) (f0 f1:Bool) (zs:List Po) (l:List Tm) (aD:List (Int × Value)) (A:Int→Prop) (k:Nat) (hk:k≤60) (hI:cL A k aH ⟨sa,sc,sent,now,drawn,f0,f1,zs,l,aD⟩) (kd aa ab ac ad an:Int) (nM:ByteArray) (h2:(0≤aa∧aa < (aH.length:Int))∧(0≤ab∧ab < (aH.length:Int))) (hs_:nM.size≤60) :
  bQ Tryz.prog 95 [ptr bw,.agg #[.int .i64 kd,.int .i64 aa,.int .i64 ab,.int .i64 ac,.int .i64 ad,.int .u64 an,.string nM]] [Bk bw 142 [ptr bs,.slice (some ⟨gw,0,none⟩) aH.length cw,.int .u64 now,.int .u64 drawn,.slice sa sent.length sc,.slice none 0 0,.map (some bk),.bool f0,.bool f1],Rw 23 1 (.slice (some ⟨gw,0,none⟩) aH.length cw) aH.length (aH.map ptr),pos bs zs,St bs l 65536,Rw 291 3 (.slice sa sent.length sc) sent.length (hP sent),Mp (aC .i64) bk aD] (fun x:Gt × WS=>x.1.val) (fun x=>[Bk bw 142 [ptr bs,.slice (some ⟨gw,0,none⟩) aH.length cw,.int .u64 x.2.now,.int .u64 x.2.drawn,.slice x.2.sa x.2.sent.length x.2.sc,.slice none 0 0,.map (some bk),.bool x.2.f0,.bool x.2.f1],Rw 23 1 (.slice (some ⟨gw,0,none⟩) aH.length cw) aH.length (aH.map ptr),pos bs x.2.zs,St bs x.2.l 65536,Rw 291 3 (.slice x.2.sa x.2.sent.length x.2.sc) x.2.sent.length (hP x.2.sent),Mp (aC .i64) bk x.2.aD]) (fun x=>∃ A',cL A' (k + 1) aH x.2):=by
 refine Fg Tryz.func95 Tryz.ntmps95 fun W0 R=>?_;refine Au ?_;refine Ef (EF.bV rfl) fun b3 _=>?_;refine Ef (EF.alloc aL) fun b4 _=>?_;refine Au ?_;refine Kw (.direct eN rfl) (DD _ _ _ _ _ _ _ _ _ _ _ _ _ _ _ _ _ _ hk hI _ _ _ (by first | omega | exact hpk) (by first | exact h2.1 | exact (hg (by simpa using c28)).1 | exact hpt.1) (by first | exact h2.2 | exact (hg (by simpa using c28)).2 | exact hpt.2.1)) (.cons .p2 (.cons .p2 (.cons .p2 (.cons .p2 (.cons .p2 (.cons .p2 .nil)))))) fun zt mY=>?_;obtain ⟨⟨g0,g1,g2,g3,g4,g5,g6,g7⟩,w9⟩:=zt;dsimp only [Gt.val] at mY ⊢;refine Au ?_;refine Gq fun w h=>?_;exact ⟨(⟨g0,g1,g2,g3,g4,g5,g6,g7⟩,w9),⟨A,mY⟩,rfl,h.part (.t0 (.t0 (.t0 (.t0 (.t0 (.t0 (.d (.d .refl))))))))⟩
theorem TA (bw bs gw cw bk:Nat) (aH:List Nat) (sa:Option Addr) (sc:Nat) (sent:List Pk) (now drawn:Int) (f0 f1:Bool) (zs:List Po) (l:List Tm) (aD:List (Int × Value)) (A:Int→Prop) (k:Nat) (hk:k≤60) (hI:cL A k aH ⟨sa,sc,sent,now,drawn,f0,f1,zs,l,aD⟩) (kd aa ab ac ad an:Int) (nM:ByteArray) (han:0≤an) (hg:ac=1→(0≤aa∧aa < (aH.length:Int))∧(0≤ab∧ab < (aH.length:Int))) :
  bQ Tryz.prog 90 [ptr bw,.agg #[.int .i64 kd,.int .i64 aa,.int .i64 ab,.int .i64 ac,.int .i64 ad,.int .u64 an,.string nM]] [Bk bw 142 [ptr bs,.slice (some ⟨gw,0,none⟩) aH.length cw,.int .u64 now,.int .u64 drawn,.slice sa sent.length sc,.slice none 0 0,.map (some bk),.bool f0,.bool f1],Rw 23 1 (.slice (some ⟨gw,0,none⟩) aH.length cw) aH.length (aH.map ptr),pos bs zs,St bs l 65536,Rw 291 3 (.slice sa sent.length sc) sent.length (hP sent),Mp (aC .i64) bk aD] (fun x:Gt × WS=>x.1.val) (fun x=>[Bk bw 142 [ptr bs,.slice (some ⟨gw,0,none⟩) aH.length cw,.int .u64 x.2.now,.int .u64 x.2.drawn,.slice x.2.sa x.2.sent.length x.2.sc,.slice none 0 0,.map (some bk),.bool x.2.f0,.bool x.2.f1],Rw 23 1 (.slice (some ⟨gw,0,none⟩) aH.length cw) aH.length (aH.map ptr),pos bs x.2.zs,St bs x.2.l 65536,Rw 291 3 (.slice x.2.sa x.2.sent.length x.2.sc) x.2.sent.length (hP x.2.sent),Mp (aC .i64) bk x.2.aD]) (fun x=>∃ A',cL A' (k + 1) aH x.2):=by
 refine Fg Tryz.func90 Tryz.ntmps90 fun W0 R=>?_;have hn:=hI.n2;have hdr:=hI.dr;have hsn:=hI.sn;have hln:=hI.ln;dsimp only at hdr hsn hln;refine Au ?_;refine Ef (EF.bV rfl) fun b3 _=>?_;refine Ef (EF.alloc aL) fun b4 _=>?_;refine Au ?_;refine Gr 9 (.t (.t (.t (.t (.t (.t (.t (.t .e)))))))) ?_;refine Dq 2 [0,1,2,3,4,5,6] ?_;refine Dv 7 rfl (fun X=>EX.conv rfl uN uN (wu (by omega))) ?_;refine Dq 0 [8] ?_;refine Gd ?_;refine Au ?_;refine GC.cond rfl (fun c16=>?_) (fun c16=>?_)
 ·refine Au ?_;refine Gq fun w h=>?_;exact ⟨(⟨0,0,none,0,0,0,0,_⟩,⟨sa,sc,sent,now,drawn,f0,f1,zs,l,aD⟩),⟨A,hI.idle⟩,rfl,h.part (.t2 (.t2 (.t2 (.t2 (.t2 (.t2 (.d (.d .refl))))))))⟩
 simp only [dB,ne_eq,dC] at *;obtain ⟨j,rfl⟩:∃ j:Nat,an=(j:Int):=⟨an.toNat,by omega⟩;have hj:j < sent.length:=by omega
 have hpt:=hI.pk _ (List.getElem_mem hj);have hpk:sent[j].s.size≤1000000:=Nat.le_trans hpt.2.2.size (by decide);refine GC.skip (Ze (Zs ?_));refine GC.know (fun w h=>h.dV .p6 (by omega)) (fun hg9=>?_);obtain ⟨gs,rfl⟩:=hg9;refine Gr 10 (.t (.t (.t (.t (.t (.t (.t (.t .e)))))))) ?_;refine Dq 4 [0,1,2,3,4,5] ?_;refine Dv 6 rfl (fun X=>EX.indexAddr (a:=j * 3) rfl rfl sL (by omega) (by simp)) ?_;refine Dv 7 rfl (fun X=>EX.rW (cs:=pkc sent[j]) rfl (mN rfl) rfl (aHt hj)) ?_;refine Ga 8 ?_;refine Ef (EF.alloc aL) fun b7 _=>?_;refine D.n (.t1 (.t1 (.t1 (.t1 (.t1 (.t1 (.t1 (.t1 .refl)))))))) ?_;refine Ga 9 ?_;refine Au ?_;refine D.n (.t1 (.t1 (.t1 (.t1 (.t1 (.t1 (.t1 (.t1 .refl)))))))) ?_;refine Gd ?_;refine Au ?_;refine GC.cond rfl (fun c28=>?_) (fun c28=>?_)
 ·refine Gr 8 (.f (.t (.t (.t (.t (.t (.t (.t (.t .e))))))))) ?_;refine Dq 3 [0,1,2,3,4] ?_;refine Ga 5 ?_;refine Au ?_;refine D.n (.t1 (.t1 (.t1 (.t1 (.t1 (.t1 (.t1 (.t1 .refl)))))))) ?_;refine Ds 6 ?_;refine Ga 7 ?_;refine Au ?_;refine D.n (.t1 (.t1 (.t1 (.t1 (.t1 (.t1 (.t1 (.t1 .refl)))))))) ?_;refine Gd ?_;exact aJb
 exact aJb
end
section
open EV (aC)
theorem pT {W0 W:World} {L:List aA} {bs:Nat} {q:Po} {m1 m2 zs:List Po} (e:zs=m1++q::m2) (h:aB W0 W (PoL bs q++(pos bs (m1++m2)::L))):aB W0 W (pos bs zs::L):=e ▸ iC h
theorem aJa {p:Prop} (h:p:=by
  refine Au ?_;refine Gq fun w h=>?_;refine ⟨(⟨0,0,none,0,0,0,0,_⟩,⟨sa,sc,sent,now,drawn,f0,f1,z1++⟨bp,gp,cp,gq,cq,bb,bl,md,mk,se,ms,sp,bM,gv,ps,qs⟩::z2,l,aD⟩),⟨A,?_⟩,rfl,((show aB W0 _ (pos bs (z1++⟨bp,gp,cp,gq,cq,bb,bl,md,mk,se,ms,sp,bM,gv,ps,qs⟩::z2)::_) from iC (q:=⟨bp,gp,cp,gq,cq,bb,bl,md,mk,se,ms,sp,bM,gv,ps,qs⟩) (h.part (.t0 (.t0 (.t2 (.t2 (.t0 (.t0 (.t0 (.t2 (.t2 (.t2 (.t2 (.t2 (.d (.d .refl)))))))))))))))).part (.t1 (.t1 .refl)))⟩;exact hI.at_ hz [] (by simp) hI.sec (by dsimp only; omega) hI.ln rfl hq.same (.inl rfl)):p:=h
theorem aI9 {p:Prop} (h:p:=by
  refine Au ?_;refine Gq fun w h=>?_;exact ⟨(⟨0,0,none,0,0,0,0,0⟩,⟨sa,sc,sent,now,drawn,_,_,zs,l,aD⟩),⟨A,hI.idle⟩,rfl,h.part (.t2 (.t2 (.t2 (.t2 (.t2 (.t2 (.d (.d .refl))))))))⟩):p:=h
theorem aI8 {p:Prop} (h:p:=by
  refine Au ?_;refine GL.case 28 rfl (fun SN=>?_) (fun SN=>?_)
  ·exact aI9
  refine Au ?_;refine Lr.run (.g (EX.and rfl rfl rfl) rfl (.q SN) .s) rfl ?_;exact aI9):p:=h
theorem cL.psk {A:Int→Prop} {k:Nat} {aH:List Nat} {sa:Option Addr} {sc:Nat} {sent:List Pk} {now d:Int} {f0 f1:Bool} {l:List Tm} {aD:List (Int × Value)} {z1 z2 zs:List Po} {bp gp cp gq cq bb bl:Nat} {md mk se ms sp:Int} {bM:ByteArray} {gv:Value} {ps ps':List Pr} {qs:List (Nat × Nat)} {x slot:Int}
  (h:cL A k aH ⟨sa,sc,sent,now,d,f0,f1,zs,l,aD⟩) (hz:zs=z1++⟨bp,gp,cp,gq,cq,bb,bl,md,mk,se,ms,sp,bM,gv,ps,qs⟩::z2) (hx:x=0∨aV A l x) (hl:ps'.length=ps.length) (hp:ps'=ps∨∃ (i:Nat) (hi:i < ps.length),eI l x=true∧ps'=ps.set i (ps[i].put slot x)):cL A k aH ⟨sa,sc,sent,now,d,f0,f1,z1++⟨bp,gp,cp,gq,cq,bb,bl,md,mk,se,ms,sp,bM,gv,ps',qs⟩::z2,l,aD⟩:=by
 subst hz;have hq:=h.po ⟨bp,gp,cp,gq,cq,bb,bl,md,mk,se,ms,sp,bM,gv,ps,qs⟩ (by dsimp only; simp);have hs:∀ p∈ps',aV A l p.p0∧aV A l p.p1:=by
  rcases hp with rfl | ⟨i,hi,ht,rfl⟩
  ·exact hq.ps
  have hxs:aV A l x:=hx.resolve_left (fun h0=>by rw [h0,gT] at ht; omega);intro p hp;have h0:=hq.ps _ (List.getElem_mem hi);rcases List.mem_or_eq_of_mem_set hp with h1 | h1
  ·exact hq.ps p h1
  rw [h1]; unfold Pr.put; split
  ·exact ⟨hxs,h0.2⟩
  exact ⟨h0.1,hxs⟩
 refine ⟨h.n2,?_,fun p hp=>?_,h.sec,h.dr,h.ln,h.sn,h.pk,h.k1,h.kn⟩
 ·rw [← h.bp]; simp
 rcases List.mem_append.1 hp with h1 | h1
 ·exact h.po p (List.mem_append_left _ h1)
 rcases List.mem_cons.1 h1 with rfl | h1
 ·exact ⟨hq.qn,by have:=hq.pn; dsimp only at this ⊢; omega,hq.bM,hq.ms0,hq.ms1,hq.md,hq.Z8,hs⟩
 exact h.po p (List.mem_append_right _ (List.mem_cons_of_mem _ h1))
theorem ST (bw bs gw cw bk:Nat) (aH:List Nat) (sa:Option Addr) (sc:Nat) (sent:List Pk) (now drawn:Int) (f0 f1:Bool) (zs:List Po) (l:List Tm) (aD:List (Int × Value)) (A:Int→Prop) (k:Nat) (hk:k≤60) (hI:cL A k aH ⟨sa,sc,sent,now,drawn,f0,f1,zs,l,aD⟩) (kd aa ab ac ad an:Int) (nM:ByteArray) (h2:(0≤aa∧aa < (aH.length:Int))∧(0≤ab∧ab < (aH.length:Int))) (hs_:nM.size≤60) :
  bQ Tryz.prog 91 [ptr bw,.agg #[.int .i64 kd,.int .i64 aa,.int .i64 ab,.int .i64 ac,.int .i64 ad,.int .u64 an,.string nM]] [Bk bw 142 [ptr bs,.slice (some ⟨gw,0,none⟩) aH.length cw,.int .u64 now,.int .u64 drawn,.slice sa sent.length sc,.slice none 0 0,.map (some bk),.bool f0,.bool f1],Rw 23 1 (.slice (some ⟨gw,0,none⟩) aH.length cw) aH.length (aH.map ptr),pos bs zs,St bs l 65536,Rw 291 3 (.slice sa sent.length sc) sent.length (hP sent),Mp (aC .i64) bk aD] (fun x:Gt × WS=>x.1.val) (fun x=>[Bk bw 142 [ptr bs,.slice (some ⟨gw,0,none⟩) aH.length cw,.int .u64 x.2.now,.int .u64 x.2.drawn,.slice x.2.sa x.2.sent.length x.2.sc,.slice none 0 0,.map (some bk),.bool x.2.f0,.bool x.2.f1],Rw 23 1 (.slice (some ⟨gw,0,none⟩) aH.length cw) aH.length (aH.map ptr),pos bs x.2.zs,St bs x.2.l 65536,Rw 291 3 (.slice x.2.sa x.2.sent.length x.2.sc) x.2.sent.length (hP x.2.sent),Mp (aC .i64) bk x.2.aD]) (fun x=>∃ A',cL A' (k + 1) aH x.2):=by
 refine Fg Tryz.func91 Tryz.ntmps91 fun W0 R=>?_;have hn:=hI.n2;have hdr:=hI.dr;have hsn:=hI.sn;have hln:=hI.ln;dsimp only at hdr hsn hln;obtain ⟨i,rfl⟩:∃ i:Nat,aa=(i:Int):=⟨aa.toNat,by omega⟩;obtain ⟨⟨bp,gp,cp,gq,cq,bb,bl,md,mk,se,ms,sp,bM,gv,ps,qs⟩,z1,z2,hz,hqi,hz1⟩:=pos_at hI.bp (i:=i) (by omega);dsimp only at hz hqi;have hq:=hI.po ⟨bp,gp,cp,gq,cq,bb,bl,md,mk,se,ms,sp,bM,gv,ps,qs⟩ (by dsimp only; rw [hz]; simp);have hq1:=hq.qn;have hq2:=hq.pn;have hq3:=hq.bM;have hq4:=hq.ms0;have YL:=hq.ms1;have RA:=hq.ps;dsimp only at hq1 hq2 hq3 hq4 YL RA;refine Au ?_;refine Ef (EF.bV rfl) fun b3 _=>?_;refine Ef (EF.alloc aL) fun b4 _=>?_;refine Au ?_;refine Kw (.direct eN rfl) (gU _ _ (by omega)) .nil fun zp S4=>?_;refine Lu rfl (EX.assign rfl) ?_;refine Zn (Zs ?_);refine GC.turn (fun w h=>h.part (.t4 .refl)) ?_;refine GC.turn (fun w h=>(show aB W0 w (Bk bp 79 [ptr bs,.int .i64 md,.int .i64 mk,.slice (some ⟨gp,0,none⟩) ps.length cp,.string bM,.int .i64 20,.int .u64 se,.int .u64 ms,.int .u64 sp,gv,.slice (some ⟨gq,0,none⟩) qs.length cq,.map (some bb),.map (some bl)]::Rw 123 1 (.slice (some ⟨gq,0,none⟩) qs.length cq) qs.length (oH qs)::Rw 64 4 (.slice (some ⟨gp,0,none⟩) ps.length cp) ps.length (iU ps)::Mp (aC .u64) bb []::Mp (aC .u64) bl []::jO qs::pos bs (z1++z2)::_) from fR hz h)) ?_;refine Gr 17 (.f (.f (.t (.t (.f (.f (.t (.t (.t (.t (.t (.t (.t (.t .e)))))))))))))) ?_;refine Dq 11 [0,1,2,3,4,5] ?_;refine Dv 6 rfl (fun X=>EX.indexAddr (a:=i) rfl rfl sL (by omega) (by simp)) ?_;refine Dv 7 rfl (fun X=>EX.tU rfl hqi oN) ?_;refine Dq 6 [8,9,10] ?_;refine Ga 11 ?_;refine Kw (.direct eN rfl) (UT _ _ _ _ _ _ _ _ _ _ _ _ _ _ _ _ _ (by omega) _ _) (.cons .p0 (.cons .p0 (.cons .p2 (.cons .p2 .nil)))) fun ze hze=>?_;refine D.n (.t4 (.t4 (.t4 (.t4 (.t4 (.t4 (.t4 (.t4 (.t4 (.t4 .refl)))))))))) ?_;refine Dq 0 [12,13,14,15,16] ?_;refine Gd ?_;refine Au ?_;refine GC.aQ rfl (decide_eq_true hze) ?_;exact aJa
theorem SU (bw bs gw cw bk:Nat) (aH:List Nat) (sa:Option Addr) (sc:Nat) (sent:List Pk) (now drawn:Int) (f0 f1:Bool) (zs:List Po) (l:List Tm) (aD:List (Int × Value)) (A:Int→Prop) (k:Nat) (hk:k≤60) (hI:cL A k aH ⟨sa,sc,sent,now,drawn,f0,f1,zs,l,aD⟩) (kd aa ab ac ad an:Int) (nM:ByteArray) (h2:(0≤aa∧aa < (aH.length:Int))∧(0≤ab∧ab < (aH.length:Int))) :
  bQ Tryz.prog 92 [ptr bw,.agg #[.int .i64 kd,.int .i64 aa,.int .i64 ab,.int .i64 ac,.int .i64 ad,.int .u64 an,.string nM]] [Bk bw 142 [ptr bs,.slice (some ⟨gw,0,none⟩) aH.length cw,.int .u64 now,.int .u64 drawn,.slice sa sent.length sc,.slice none 0 0,.map (some bk),.bool f0,.bool f1],Rw 23 1 (.slice (some ⟨gw,0,none⟩) aH.length cw) aH.length (aH.map ptr),pos bs zs,St bs l 65536,Rw 291 3 (.slice sa sent.length sc) sent.length (hP sent),Mp (aC .i64) bk aD] (fun x:Gt × WS=>x.1.val) (fun x=>[Bk bw 142 [ptr bs,.slice (some ⟨gw,0,none⟩) aH.length cw,.int .u64 x.2.now,.int .u64 x.2.drawn,.slice x.2.sa x.2.sent.length x.2.sc,.slice none 0 0,.map (some bk),.bool x.2.f0,.bool x.2.f1],Rw 23 1 (.slice (some ⟨gw,0,none⟩) aH.length cw) aH.length (aH.map ptr),pos bs x.2.zs,St bs x.2.l 65536,Rw 291 3 (.slice x.2.sa x.2.sent.length x.2.sc) x.2.sent.length (hP x.2.sent),Mp (aC .i64) bk x.2.aD]) (fun x=>∃ A',cL A' (k + 1) aH x.2):=by
 refine Fg Tryz.func92 Tryz.ntmps92 fun W0 R=>?_;have hn:=hI.n2;have hdr:=hI.dr;have hsn:=hI.sn;have hln:=hI.ln;dsimp only at hdr hsn hln;obtain ⟨i,rfl⟩:∃ i:Nat,aa=(i:Int):=⟨aa.toNat,by omega⟩;obtain ⟨⟨bp,gp,cp,gq,cq,bb,bl,md,mk,se,ms,sp,bM,gv,ps,qs⟩,z1,z2,hz,hqi,hz1⟩:=pos_at hI.bp (i:=i) (by omega);dsimp only at hz hqi;have hq:=hI.po ⟨bp,gp,cp,gq,cq,bb,bl,md,mk,se,ms,sp,bM,gv,ps,qs⟩ (by dsimp only; rw [hz]; simp);have hq1:=hq.qn;have hq2:=hq.pn;have hq3:=hq.bM;have hq4:=hq.ms0;have YL:=hq.ms1;have RA:=hq.ps;dsimp only at hq1 hq2 hq3 hq4 YL RA;refine Au ?_;refine Ef (EF.bV rfl) fun b3 _=>?_;refine Ef (EF.alloc aL) fun b4 _=>?_;refine Lr.run (.a rfl (.a rfl .s)) rfl ?_;refine Zn (Zs ?_);refine GC.turn (fun w h=>h.part (.t4 .refl)) ?_;refine GC.turn (fun w h=>(show aB W0 w (Bk bp 79 [ptr bs,.int .i64 md,.int .i64 mk,.slice (some ⟨gp,0,none⟩) ps.length cp,.string bM,.int .i64 20,.int .u64 se,.int .u64 ms,.int .u64 sp,gv,.slice (some ⟨gq,0,none⟩) qs.length cq,.map (some bb),.map (some bl)]::Rw 123 1 (.slice (some ⟨gq,0,none⟩) qs.length cq) qs.length (oH qs)::Rw 64 4 (.slice (some ⟨gp,0,none⟩) ps.length cp) ps.length (iU ps)::Mp (aC .u64) bb []::Mp (aC .u64) bl []::jO qs::pos bs (z1++z2)::_) from fR hz h)) ?_;refine Gr 18 (.f (.f (.t (.t (.f (.f (.t (.f (.t (.t (.t (.t (.t (.t .e)))))))))))))) ?_;refine Dq 11 [0,1,2,3,4,5,6] ?_;refine Dv 7 rfl (fun X=>EX.indexAddr (a:=i) rfl rfl sL (by omega) (by simp)) ?_;refine Dv 8 rfl (fun X=>EX.tU rfl hqi oN) ?_;refine Dq 5 [9,10,11,12] ?_;refine Ga 13 ?_;refine Kw (.direct eN rfl) (gU _ _ (by omega)) .nil fun zp S4=>?_;refine D.n (.t2 (.t2 (.t4 (.t5 (.t5 (.t5 (.t5 (.t5 (.t5 .refl))))))))) ?_;refine Ga 14 ?_;refine Kw (.direct eN rfl) (UR _ _ _ _ _ _ _ _ _ _ _ _ _ _ _ _ _ (by omega) _) (.cons .p0 (.cons .p0 (.cons .p2 (.cons .p2 .nil)))) fun ze hze=>?_;refine D.n (.t4 (.t4 (.t4 (.t5 (.t5 (.t5 (.t5 (.t5 (.t5 .refl))))))))) ?_;refine Ga 15 ?_;refine Au ?_;refine D.n (.t4 (.t4 (.t4 (.t5 (.t5 (.t5 (.t5 (.t5 (.t5 .refl))))))))) ?_;refine Dq 0 [16,17] ?_;refine Gd ?_;exact aJa
theorem HP (bw bs gw cw bk:Nat) (aH:List Nat) (sa:Option Addr) (sc:Nat) (sent:List Pk) (now drawn:Int) (f0 f1:Bool) (zs:List Po) (l:List Tm) (aD:List (Int × Value)) (A:Int→Prop) (k:Nat) (hk:k≤60) (hI:cL A k aH ⟨sa,sc,sent,now,drawn,f0,f1,zs,l,aD⟩) (kd aa ab ac ad an:Int) (nM:ByteArray) :
  bQ Tryz.prog 98 [ptr bw,.agg #[.int .i64 kd,.int .i64 aa,.int .i64 ab,.int .i64 ac,.int .i64 ad,.int .u64 an,.string nM]] [Bk bw 142 [ptr bs,.slice (some ⟨gw,0,none⟩) aH.length cw,.int .u64 now,.int .u64 drawn,.slice sa sent.length sc,.slice none 0 0,.map (some bk),.bool f0,.bool f1],Rw 23 1 (.slice (some ⟨gw,0,none⟩) aH.length cw) aH.length (aH.map ptr),pos bs zs,St bs l 65536,Rw 291 3 (.slice sa sent.length sc) sent.length (hP sent),Mp (aC .i64) bk aD] (fun x:Gt × WS=>x.1.val) (fun x=>[Bk bw 142 [ptr bs,.slice (some ⟨gw,0,none⟩) aH.length cw,.int .u64 x.2.now,.int .u64 x.2.drawn,.slice x.2.sa x.2.sent.length x.2.sc,.slice none 0 0,.map (some bk),.bool x.2.f0,.bool x.2.f1],Rw 23 1 (.slice (some ⟨gw,0,none⟩) aH.length cw) aH.length (aH.map ptr),pos bs x.2.zs,St bs x.2.l 65536,Rw 291 3 (.slice x.2.sa x.2.sent.length x.2.sc) x.2.sent.length (hP x.2.sent),Mp (aC .i64) bk x.2.aD]) (fun x=>∃ A',cL A' (k + 1) aH x.2):=by
 refine Fg Tryz.func98 Tryz.ntmps98 fun W0 R=>?_;refine Au ?_;refine Ef (EF.bV rfl) fun b3 _=>?_;refine Ef (EF.alloc aL) fun b4 _=>?_;refine Au ?_;refine GL.case 13 rfl (fun g13=>?_) (fun g13=>?_)
 ·exact aI8
 refine Au ?_;refine Lr.run (.g (EX.and rfl rfl rfl) rfl (.q g13) .s) rfl ?_;exact aI8
end
section
open EV (aC)
theorem aI7 {p:Prop} (h:p:=by
  refine Au ?_;refine Kw (.direct eN rfl) (iG _ _ _ _ _ _ _ _ _ _ _ _ _ _ 65536 (by decide) (by omega)) (.cons .p2 (.cons .p4 .nil)) fun _ _=>?_;obtain ⟨s1,⟨r1,e1⟩,hx1,_⟩:=hI.sec.draw 65536;have hI0:cL A (k + 1) aH ⟨sa,sc,sent,now,drawn + 1,f0,f1,zs,(dR l 65536 drawn).2,aD⟩:=hI.step r1 e1 s1 (by dsimp only; omega) (iL hI.ln) hI.bp (fun q hq=>by dsimp only at e1; rw [e1]; exact (hI.po q hq).up fun x hx=>hx.app) (.inl rfl);refine Lu rfl (EX.assign rfl) ?_;refine Zn (Zs ?_);obtain ⟨⟨bp,gp,cp,gq,cq,bb,bl,md,mk,se,ms,sp,bM,gv,ps,qs⟩,z1,z2,hz,hqi,hz1⟩:=pos_at hI.bp (i:=i) (by omega);dsimp only at hz hqi;have hq:=hI.po ⟨bp,gp,cp,gq,cq,bb,bl,md,mk,se,ms,sp,bM,gv,ps,qs⟩ (by dsimp only; rw [hz]; simp);have hq1:=hq.qn;have hq2:=hq.pn;have hq3:=hq.bM;have hq4:=hq.ms0;have YL:=hq.ms1;have RA:=hq.ps;dsimp only at hq1 hq2 hq3 hq4 YL RA;refine GC.turn (fun w h=>h.part (.t5 .refl)) ?_;refine GC.turn (fun w h=>(show aB W0 w (Bk bp 79 [ptr bs,.int .i64 md,.int .i64 mk,.slice (some ⟨gp,0,none⟩) ps.length cp,.string bM,.int .i64 20,.int .u64 se,.int .u64 ms,.int .u64 sp,gv,.slice (some ⟨gq,0,none⟩) qs.length cq,.map (some bb),.map (some bl)]::Rw 123 1 (.slice (some ⟨gq,0,none⟩) qs.length cq) qs.length (oH qs)::Rw 64 4 (.slice (some ⟨gp,0,none⟩) ps.length cp) ps.length (iU ps)::Mp (aC .u64) bb []::Mp (aC .u64) bl []::jO qs::pos bs (z1++z2)::_) from fR hz h)) ?_;refine Gr 18 (.f (.t (.f (.t (.t (.t (.t (.t (.f (.t (.t (.t (.t (.t .e)))))))))))))) ?_;refine Dq 12 [0,1,2,3,4,5] ?_;refine Dv 6 rfl (fun X=>EX.indexAddr (a:=i) rfl rfl sL (by omega) (by simp)) ?_;refine Dv 7 rfl (fun X=>EX.tU rfl hqi oN) ?_;refine Dq 3 [8,9,10,11,13,14,15] ?_;refine Ga 12 ?_;refine Kw (.direct eN rfl) (gU _ _ (by omega)) .nil fun zp S4=>?_;refine D.n (.t1 (.t2 (.t2 (.t2 (.t2 (.t2 (.t3 (.t3 (.t3 (.t3 (.t3 .refl))))))))))) ?_;refine Ga 16 ?_;refine Kw (.direct eN rfl) (ED _ _ _ _ _ _ _ _ _ _ _ _ _ _ _ _ _ (by omega) _ _ _ _ _ (by omega)) (.cons .p0 (.cons .p1 (.cons .p6 .nil))) fun zt mY=>?_;obtain ⟨te,ps9⟩:=zt;dsimp only at mY ⊢;rw [← mY.1];refine D.n (.t3 (.t3 (.t3 (.t3 (.t3 (.t3 (.t3 (.t3 (.t3 (.t3 (.t3 .refl))))))))))) ?_;refine Ds 17 ?_;refine Gd ?_;refine Ze (Zs (Zt ?_));refine GL.turn (fun w h=>h.part (.t0 (.t2 (.t0 (.t1 (.t1 (.t1 (.t1 .refl)))))))) ?_;refine GL.turn (fun w h=>(show aB W0 w (pos bs (z1++⟨bp,gp,cp,gq,cq,bb,bl,md,mk,se,ms,sp,bM,gv,ps9,qs⟩::z2)::_) from iC (q:=⟨bp,gp,cp,gq,cq,bb,bl,md,mk,se,ms,sp,bM,gv,ps9,qs⟩) h)) ?_;have hI1:=hI0.psk hz hx1 mY.1 mY.2;obtain ⟨zs1,aRu⟩:∃ z,z1++⟨bp,gp,cp,gq,cq,bb,bl,md,mk,se,ms,sp,bM,gv,ps9,qs⟩::z2=z:=⟨_,rfl⟩;rw [aRu] at hI1 ⊢;refine Au ?_;refine GC.cond rfl (fun c38=>?_) (fun c38=>?_)
  ·obtain ⟨j,rfl⟩:∃ j:Nat,ab=(j:Int):=⟨ab.toNat,by omega⟩;obtain ⟨⟨bp,gp,cp,gq,cq,bb,bl,md,mk,se,ms,sp,bM,gv,ps,qs⟩,z1,z2,hz,hqi,hz1⟩:=pos_at hI1.bp (i:=j) (by omega);dsimp only at hz hqi;have hq:=hI1.po ⟨bp,gp,cp,gq,cq,bb,bl,md,mk,se,ms,sp,bM,gv,ps,qs⟩ (by dsimp only; rw [hz]; simp);have hq1:=hq.qn;have hq2:=hq.pn;have hq3:=hq.bM;have hq4:=hq.ms0;have YL:=hq.ms1;have RA:=hq.ps;dsimp only at hq1 hq2 hq3 hq4 YL RA;refine GC.turn (fun w h=>(show aB W0 w (Bk bp 79 [ptr bs,.int .i64 md,.int .i64 mk,.slice (some ⟨gp,0,none⟩) ps.length cp,.string bM,.int .i64 20,.int .u64 se,.int .u64 ms,.int .u64 sp,gv,.slice (some ⟨gq,0,none⟩) qs.length cq,.map (some bb),.map (some bl)]::Rw 123 1 (.slice (some ⟨gq,0,none⟩) qs.length cq) qs.length (oH qs)::Rw 64 4 (.slice (some ⟨gp,0,none⟩) ps.length cp) ps.length (iU ps)::Mp (aC .u64) bb []::Mp (aC .u64) bl []::jO qs::pos bs (z1++z2)::_) from fR hz h)) ?_;refine Gr 18 (.f (.t (.f (.t (.t (.t (.t (.f (.t (.t (.t (.t (.t (.t .e)))))))))))))) ?_;refine Dq 12 [0,1,2,3,4,5] ?_;refine Dv 6 rfl (fun X=>EX.indexAddr (a:=j) rfl rfl sL (by omega) (by simp)) ?_;refine Dv 7 rfl (fun X=>EX.tU rfl hqi oN) ?_;refine Dq 3 [8,9,10,11,13,14,15] ?_;refine Ga 12 ?_;refine Kw (.direct eN rfl) (gU _ _ (by omega)) .nil fun zp S4=>?_;refine D.n (.t1 (.t2 (.t2 (.t2 (.t2 (.t3 (.t3 (.t3 (.t3 (.t3 (.t3 .refl))))))))))) ?_;refine Ga 16 ?_;refine Kw (.direct eN rfl) (ED _ _ _ _ _ _ _ _ _ _ _ _ _ _ _ _ _ (by omega) _ _ _ _ _ (by omega)) (.cons .p0 (.cons .p1 (.cons .p5 .nil))) fun zt mY=>?_;obtain ⟨te,ps9⟩:=zt;dsimp only at mY ⊢;rw [← mY.1];refine D.n (.t3 (.t3 (.t3 (.t3 (.t3 (.t3 (.t3 (.t3 (.t3 (.t3 (.t3 .refl))))))))))) ?_;refine Ds 17 ?_;refine Gd ?_;refine Ze (Zt ?_);refine GL.turn (fun w h=>h.part (.t0 (.t2 (.t0 (.t1 (.t1 (.t1 (.t1 .refl)))))))) ?_;refine GL.turn (fun w h=>(show aB W0 w (pos bs (z1++⟨bp,gp,cp,gq,cq,bb,bl,md,mk,se,ms,sp,bM,gv,ps9,qs⟩::z2)::_) from iC (q:=⟨bp,gp,cp,gq,cq,bb,bl,md,mk,se,ms,sp,bM,gv,ps9,qs⟩) h)) ?_;have hI2:=hI1.psk hz hx1 mY.1 mY.2;obtain ⟨zs2,aRt⟩:∃ z,z1++⟨bp,gp,cp,gq,cq,bb,bl,md,mk,se,ms,sp,bM,gv,ps9,qs⟩::z2=z:=⟨_,rfl⟩;rw [aRt] at hI2 ⊢;refine Au ?_;refine Gq fun w h=>?_;exact ⟨(⟨0,0,none,0,0,0,0,_⟩,⟨sa,sc,sent,now,drawn + 1,f0,f1,zs2,_,aD⟩),⟨A,hI2⟩,rfl,h.part (.t2 (.t4 (.t0 (.t0 (.t2 (.t2 (.d (.d .refl))))))))⟩
  refine Au ?_;refine Gq fun w h=>?_;exact ⟨(⟨0,0,none,0,0,0,0,_⟩,⟨sa,sc,sent,now,drawn + 1,f0,f1,zs1,_,aD⟩),⟨A,hI1⟩,rfl,h.part (.t2 (.t4 (.t0 (.t0 (.t2 (.t2 (.d (.d .refl))))))))⟩):p:=h
theorem aI6 {p:Prop} (h:p:=by
  refine Au ?_;refine Gq fun w h=>?_;exact ⟨(⟨0,0,none,0,0,0,0,_⟩,⟨sa,sc,sent,now,drawn,f0,f1,zs,l,aD⟩),⟨A,hI.idle⟩,rfl,h.part (.t2 (.t2 (.t2 (.t2 (.t2 (.t2 (.d (.d .refl))))))))⟩):p:=h
theorem SR (bw bs gw cw bk:Nat) (aH:List Nat) (sa:Option Addr) (sc:Nat) (sent:List Pk) (now drawn:Int) (f0 f1:Bool) (zs:List Po) (l:List Tm) (aD:List (Int × Value)) (A:Int→Prop) (k:Nat) (hk:k≤60) (hI:cL A k aH ⟨sa,sc,sent,now,drawn,f0,f1,zs,l,aD⟩) (kd aa ab ac ad an:Int) (nM:ByteArray) (h2:(0≤aa∧aa < (aH.length:Int))∧(0≤ab∧ab < (aH.length:Int))) :
  bQ Tryz.prog 93 [ptr bw,.agg #[.int .i64 kd,.int .i64 aa,.int .i64 ab,.int .i64 ac,.int .i64 ad,.int .u64 an,.string nM]] [Bk bw 142 [ptr bs,.slice (some ⟨gw,0,none⟩) aH.length cw,.int .u64 now,.int .u64 drawn,.slice sa sent.length sc,.slice none 0 0,.map (some bk),.bool f0,.bool f1],Rw 23 1 (.slice (some ⟨gw,0,none⟩) aH.length cw) aH.length (aH.map ptr),pos bs zs,St bs l 65536,Rw 291 3 (.slice sa sent.length sc) sent.length (hP sent),Mp (aC .i64) bk aD] (fun x:Gt × WS=>x.1.val) (fun x=>[Bk bw 142 [ptr bs,.slice (some ⟨gw,0,none⟩) aH.length cw,.int .u64 x.2.now,.int .u64 x.2.drawn,.slice x.2.sa x.2.sent.length x.2.sc,.slice none 0 0,.map (some bk),.bool x.2.f0,.bool x.2.f1],Rw 23 1 (.slice (some ⟨gw,0,none⟩) aH.length cw) aH.length (aH.map ptr),pos bs x.2.zs,St bs x.2.l 65536,Rw 291 3 (.slice x.2.sa x.2.sent.length x.2.sc) x.2.sent.length (hP x.2.sent),Mp (aC .i64) bk x.2.aD]) (fun x=>∃ A',cL A' (k + 1) aH x.2):=by
 refine Fg Tryz.func93 Tryz.ntmps93 fun W0 R=>?_;have hn:=hI.n2;have hdr:=hI.dr;have hsn:=hI.sn;have hln:=hI.ln;dsimp only at hdr hsn hln;obtain ⟨i,rfl⟩:∃ i:Nat,aa=(i:Int):=⟨aa.toNat,by omega⟩;refine Au ?_;refine Ef (EF.bV rfl) fun b3 _=>?_;refine Ef (EF.alloc aL) fun b4 _=>?_;refine Au ?_;refine GL.case 12 rfl (fun g12=>?_) (fun g12=>?_)
 ·refine Au ?_;refine GC.cond rfl (fun c16=>?_) (fun c16=>?_)
  ·exact aI6
  exact aI7
 refine Au ?_;refine GC.bH rfl rfl ?_;exact aI7
theorem SS (bw bs gw cw bk:Nat) (aH:List Nat) (sa:Option Addr) (sc:Nat) (sent:List Pk) (now drawn:Int) (f0 f1:Bool) (zs:List Po) (l:List Tm) (aD:List (Int × Value)) (A:Int→Prop) (k:Nat) (hk:k≤60) (hI:cL A k aH ⟨sa,sc,sent,now,drawn,f0,f1,zs,l,aD⟩) (kd aa ab ac ad an:Int) (nM:ByteArray) :
  bQ Tryz.prog 94 [ptr bw,.agg #[.int .i64 kd,.int .i64 aa,.int .i64 ab,.int .i64 ac,.int .i64 ad,.int .u64 an,.string nM]] [Bk bw 142 [ptr bs,.slice (some ⟨gw,0,none⟩) aH.length cw,.int .u64 now,.int .u64 drawn,.slice sa sent.length sc,.slice none 0 0,.map (some bk),.bool f0,.bool f1],Rw 23 1 (.slice (some ⟨gw,0,none⟩) aH.length cw) aH.length (aH.map ptr),pos bs zs,St bs l 65536,Rw 291 3 (.slice sa sent.length sc) sent.length (hP sent),Mp (aC .i64) bk aD] (fun x:Gt × WS=>x.1.val) (fun x=>[Bk bw 142 [ptr bs,.slice (some ⟨gw,0,none⟩) aH.length cw,.int .u64 x.2.now,.int .u64 x.2.drawn,.slice x.2.sa x.2.sent.length x.2.sc,.slice none 0 0,.map (some bk),.bool x.2.f0,.bool x.2.f1],Rw 23 1 (.slice (some ⟨gw,0,none⟩) aH.length cw) aH.length (aH.map ptr),pos bs x.2.zs,St bs x.2.l 65536,Rw 291 3 (.slice x.2.sa x.2.sent.length x.2.sc) x.2.sent.length (hP x.2.sent),Mp (aC .i64) bk x.2.aD]) (fun x=>∃ A',cL A' (k + 1) aH x.2):=by
 refine Fg Tryz.func94 Tryz.ntmps94 fun W0 R=>?_;have hn:=hI.n2;have hdr:=hI.dr;have hsn:=hI.sn;have hln:=hI.ln;dsimp only at hdr hsn hln;refine Au ?_;refine Ef (EF.bV rfl) fun b3 _=>?_;refine Ef (EF.alloc aL) fun b4 _=>?_;refine Au ?_;refine GC.cond rfl (fun c11=>?_) (fun c11=>?_)
 ·exact aI6
 refine Au ?_;refine GC.dr [] 9 10 rfl (by kernel_rfl) (.f (.t (.t .e))) ?_;refine Ds 0 ?_;refine Ds 1 ?_;refine Ds 2 ?_;refine D.e 3 (by kernel_rfl) (by kernel_rfl) rfl (fun X=>EX.ld rfl rfl oN) rfl rfl rfl ?_;refine Ds 4 ?_;refine D.e 5 (by kernel_rfl) (by kernel_rfl) rfl (fun X=>EX.ld rfl rfl oN) rfl rfl rfl ?_;refine Dp 6 rfl (fun X=>EX.add rfl rfl rfl) ?_;refine Ds 7 ?_;refine Ds 8 ?_;refine Ga 9 ?_;refine Au ?_;refine D.n1 (by kernel_rfl) .refl ?_;refine Gd ?_;refine Au ?_;obtain ⟨aIl,aK9⟩:∃ n9,IntKind.u64.wrap (now + an)=n9:=⟨_,rfl⟩;rw [aK9];refine GC.lp (σ:=Nat) (fun s=>[(27,.int .i64 (s:Int)),(26,.int .i64 (aH.length:Int)),(25,.slice (some ⟨gw,0,none⟩) aH.length cw),(0,ptr bw),(4,ptr b4)]) (fun s=>Bk bw 142 [ptr bs,.slice (some ⟨gw,0,none⟩) aH.length cw,.int .u64 aIl,.int .u64 drawn,.slice sa sent.length sc,.slice none 0 0,.map (some bk),.bool f0,.bool f1]::Rw 23 1 (.slice (some ⟨gw,0,none⟩) aH.length cw) aH.length (aH.map ptr)::pos bs zs::St bs l 65536::Rw 291 3 (.slice sa sent.length sc) sent.length (hP sent)::Mp (aC .i64) bk aD::Bk b4 34 [.int .i64 0,.string ⟨#[]⟩,.bool false,.int .i64 0,.slice none 0 0,.int .i64 0]::R) (fun s=>s≤aH.length) (fun s=>aH.length - s) 0 (.c rfl (.c rfl (.c rfl (.c rfl (.c rfl .n))))) (.t2 (.t2 (.t2 (.t2 (.t2 (.t2 (.t0 (.d .refl)))))))) (Nat.zero_le _) (fun s hs=>?_);refine Au ?_;refine GC.cond rfl (fun c28=>?_) (fun c28=>?_)
 ·simp only [decide_eq_true_eq] at c28;have hs9:s < aH.length:=by omega
  refine GC.skip (Ze (Zs (GC.block (Zt ?_))));obtain ⟨⟨bp,gp,cp,gq,cq,bb,bl,md,mk,se,ms,sp,bM,gv,ps,qs⟩,z1,z2,hz,hqi,hz1⟩:=pos_at hI.bp (i:=s) (by omega);dsimp only at hz hqi;have hq:=hI.po ⟨bp,gp,cp,gq,cq,bb,bl,md,mk,se,ms,sp,bM,gv,ps,qs⟩ (by dsimp only; rw [hz]; simp);have hq1:=hq.qn;have hq2:=hq.pn;have hq3:=hq.bM;have hq4:=hq.ms0;have YL:=hq.ms1;have RA:=hq.ps;dsimp only at hq1 hq2 hq3 hq4 YL RA;refine GL.turn (fun w h=>h.part (.t2 .refl)) ?_;refine GL.turn (fun w h=>(show aB W0 w (Bk bp 79 [ptr bs,.int .i64 md,.int .i64 mk,.slice (some ⟨gp,0,none⟩) ps.length cp,.string bM,.int .i64 20,.int .u64 se,.int .u64 ms,.int .u64 sp,gv,.slice (some ⟨gq,0,none⟩) qs.length cq,.map (some bb),.map (some bl)]::Rw 123 1 (.slice (some ⟨gq,0,none⟩) qs.length cq) qs.length (oH qs)::Rw 64 4 (.slice (some ⟨gp,0,none⟩) ps.length cp) ps.length (iU ps)::Mp (aC .u64) bb []::Mp (aC .u64) bl []::jO qs::pos bs (z1++z2)::_) from fR hz h)) ?_;refine Lu rfl (EX.indexAddr (a:=s) rfl rfl sL (by omega) (by simp)) ?_;refine Lu rfl (EX.tU rfl hqi oN) ?_;refine Au ?_;refine Kw (.direct eN rfl) (UQ _ _ _ _ _ _ _ _ _ _ _ _ _ _ _ _ _ (by omega) _) (.cons .p0 (.cons .p0 (.cons .p1 (.cons .p1 (.cons .p1 .nil))))) fun zk _=>?_;refine Au ?_;refine La ?_;refine Lr.run (.m rfl .s) rfl ?_;refine (GL.nil ?_);refine GE.turn (fun w h=>h.part (.t0 (.t0 (.t3 .refl)))) ?_;refine GE.turn (fun w h=>(show aB W0 w (pos bs zs::_) from pT (q:=⟨bp,gp,cp,gq,cq,bb,bl,md,mk,se,ms,sp,bM,gv,ps,qs⟩) hz h)) ?_;exact GE.ag (s + 1) (.c (by rw [← Int.natCast_succ]; rfl) (.c rfl (.c rfl (.c rfl (.c rfl .n))))) (.t1 (.t1 .refl)) (by omega) (by omega)
 refine Au ?_;refine Gq fun w h=>?_;exact ⟨(⟨0,0,none,0,0,0,0,0⟩,⟨sa,sc,sent,aIl,drawn,f0,f1,zs,l,aD⟩),⟨A,hI.idle⟩,rfl,h.part (.t0 (.t0 (.t0 (.t0 (.t0 (.t0 (.d .refl)))))))⟩
end
section
open EV (aC)
theorem yS (bw bs gw cw bk n sn sc:Nat) (sa:Option Addr) (now drawn:Int) (f0 f1:Bool) (aD:List (Int × Value)) (hk:1≤aD.length∧aD.length≤999) :
  bQ Tryz.prog 149 [ptr bw] [Bk bw 142 [ptr bs,.slice (some ⟨gw,0,none⟩) n cw,.int .u64 now,.int .u64 drawn,.slice sa sn sc,.slice none 0 0,.map (some bk),.bool f0,.bool f1],Mp (aC .i64) bk aD] (fun x:Value × List Int=>x.1) (fun x=>[Rw 3 1 x.1 x.2.length (aJ x.2),Bk bw 142 [ptr bs,.slice (some ⟨gw,0,none⟩) n cw,.int .u64 now,.int .u64 drawn,.slice sa sn sc,.slice none 0 0,.map (some bk),.bool f0,.bool f1],Mp (aC .i64) bk aD]) (fun x=>Sl x.2.length x.1∧x.2.Perm (aD.map (·.1))):=by
 intro W0 W R hs;have h2:aB W0 W (Mp (aC .i64) bk aD::Bk bw 142 [ptr bs,.slice (some ⟨gw,0,none⟩) n cw,.int .u64 now,.int .u64 drawn,.slice sa sn sc,.slice none 0 0,.map (some bk),.bool f0,.bool f1]::R):=hs.p1;refine (EV.FW (b:=bw) (o:=0) (by omega) hk.2 h2 (fun w h=>(h.bk .here).rd 6)).mono ?_;rintro e w' ⟨v,zs,hp,hv,rfl,h'⟩;have hl:(zs.mergeSort fun x y=>decide (x≤y)).length=zs.length:=(List.mergeSort_perm zs _).length_eq;refine ⟨(v,zs.mergeSort fun x y=>decide (x≤y)),⟨by dsimp only; rw [hl]; exact hv,(List.mergeSort_perm zs _).trans hp⟩,rfl,?_⟩;have h3:=h'.part (.take .p0 (.take .p1 .refl));rw [← hl] at h3;exact h3
theorem RU {W0 w:World} {L:List aA} {ns i:Nat} {l:List Tm} (hv:cM l) (hn:l.Nodup) (hi:i < l.length) (hm:(l.length:Int)≤65536) (h:aB W0 w (St ns (bF (l.take i) 65536 ⟨(aO l ((i:Int) + 1)).kind,(aO l ((i:Int) + 1)).s,(aO l ((i:Int) + 1)).n,(aO l ((i:Int) + 1)).a,(aO l ((i:Int) + 1)).b,(aO l ((i:Int) + 1)).c⟩).2.2 65536::L)):aB W0 w (St ns (l.take (i + 1)) 65536::L):=by
 have e:(⟨(aO l ((i:Int) + 1)).kind,(aO l ((i:Int) + 1)).s,(aO l ((i:Int) + 1)).n,(aO l ((i:Int) + 1)).a,(aO l ((i:Int) + 1)).b,(aO l ((i:Int) + 1)).c⟩:Tm)=l[i]:=qJ hi;rw [e,PC hv hn hi hm] at h;exact h
theorem zE {a:Int} {v:Value}:∀ {l:List (Int × Value)},(∀ p∈cG a v l,p.1=a∨∃ q∈l,p.1=q.1)∧(cG a v l).length≤l.length + 1∧1≤(cG a v l).length
 | []=>⟨fun p hp=>by simp [cG] at hp; exact .inl (by rw [hp]),by simp [cG],by simp [cG]⟩
 | q::r=>by
  have ih:=zE (a:=a) (v:=v) (l:=r);unfold cG;split
  ·refine ⟨fun p hp=>?_,by simp,by simp⟩;rcases List.mem_cons.1 hp with rfl | hp
   ·exact .inl rfl
   exact .inr ⟨p,List.mem_cons_of_mem _ hp,rfl⟩
  refine ⟨fun p hp=>?_,by simp only [List.length_cons]; omega,by simp⟩;rcases List.mem_cons.1 hp with rfl | hp
  ·exact .inr ⟨_,List.mem_cons_self,rfl⟩
  rcases ih.1 p hp with h | ⟨q',hq,h⟩
  ·exact .inl h
  exact .inr ⟨q',List.mem_cons_of_mem _ hq,h⟩
theorem cL.put {A A':Int→Prop} {k:Nat} {aH:List Nat} {w:WS} (h:cL A k aH w) {l:List Tm} {d x:Int} {v:Value} (r:List Tm) (hl:l=w.l++r) (hs:rA A' l d) (hS:∀ y,aV A w.l y→aV A' l y) (hd:0≤d∧d≤w.drawn + 2) (hn:(l.length:Int)≤65536)
  (hA:∀ y,Safe A w.l y→Safe A' l y) (hx:x=0∨Safe A' l x):cL A' (k + 1) aH ⟨w.sa,w.sc,w.sent,w.now,d,w.f0,w.f1,w.zs,l,cG x v w.aD⟩:=by
 have hk:=zE (a:=x) (v:=v) (l:=w.aD);refine ⟨h.n2,h.bp,fun q hq=>?_,hs,by have:=h.dr; dsimp only; omega,hn,by have:=h.sn; dsimp only; omega,h.pk,by have:=h.k1; dsimp only; omega,fun e he=>?_⟩
 ·have:=(h.po q hq).up (r:=r) (A':=A') (fun y hy=>hl ▸ hS y hy);rw [hl]; exact this
 rcases hk.1 e he with h1 | ⟨q,hq,h1⟩
 ·rw [h1]; exact hx
 rw [h1]; exact (h.kn q hq).imp id (hA _)
theorem OF (bw bs gw cw bk n sn sc:Nat) (sa:Option Addr) (now drawn:Int) (f0 f1:Bool) (l:List Tm) (aD:List (Int × Value)) (tk:Int) (ts:ByteArray) (tn ta tb tc:Int) (hkv:1≤aD.length∧aD.length≤999) (hv:cM l) (hln:(l.length:Int)≤65536) :
  bQ Tryz.prog 143 [ptr bw,.agg #[.int .i64 tk,.string ts,.int .u64 tn,.int .i64 ta,.int .i64 tb,.int .i64 tc]] [Bk bw 142 [ptr bs,.slice (some ⟨gw,0,none⟩) n cw,.int .u64 now,.int .u64 drawn,.slice sa sn sc,.slice none 0 0,.map (some bk),.bool f0,.bool f1],St bs l 65536,Mp (aC .i64) bk aD] (fun x:Int=>.int .i64 x) (fun x=>[Bk bw 142 [ptr bs,.slice (some ⟨gw,0,none⟩) n cw,.int .u64 now,.int .u64 drawn,.slice sa sn sc,.slice none 0 0,.map (some bk),.bool f0,.bool f1],St bs l 65536,Mp (aC .i64) bk aD]) (fun x=>x=0→(bF l 65536 ⟨tk,ts,tn,ta,tb,tc⟩).2.1=0∧(∀ e∈aD,1≤e.1)∧∀ S:Int→Prop,nH (bF l 65536 ⟨tk,ts,tn,ta,tb,tc⟩).2.2 S→(∀ e∈aD,S e.1)→S (bF l 65536 ⟨tk,ts,tn,ta,tb,tc⟩).1):=by
 refine Fg Tryz.func143 Tryz.ntmps143 fun W0 R=>?_;refine Au ?_;refine Ef (EF.bV rfl) fun b3 _=>?_;refine Au ?_;refine Ky (D4) fun ns _=>?_;refine Lr.run (.m rfl (.x rfl rfl (.x rfl rfl (.a rfl (.a rfl .s))))) rfl ?_;refine Zn (Zs (Zt ?_));refine GL.know (fun w h=>(uR h .p3).2) (fun hnd=>?_);refine Au ?_;refine GC.bH rfl rfl ?_;refine Au ?_;refine GC.lp (σ:=Nat) (fun s=>[(7,.int .i64 (s:Int)),(5,ptr ns),(0,ptr bw),(3,ptr b3)]) (fun s=>St ns (l.take (s - 1)) 65536::Bk bw 142 [ptr bs,.slice (some ⟨gw,0,none⟩) n cw,.int .u64 now,.int .u64 drawn,.slice sa sn sc,.slice none 0 0,.map (some bk),.bool f0,.bool f1]::St bs l 65536::Mp (aC .i64) bk aD::Bk b3 94 [.int .i64 tk,.string ts,.int .u64 tn,.int .i64 ta,.int .i64 tb,.int .i64 tc]::R) (fun s=>1≤s∧s≤l.length + 1) (fun s=>l.length + 1 - s) 1 (.c rfl (.c rfl (.c rfl (.c rfl .n)))) (.t0 (.t1 (.t1 (.t1 .refl)))) (⟨Nat.le_refl _,by omega⟩) (fun s hs=>?_);refine Au ?_;refine Kc (oP _ _ _) (.one .p2) ?_;refine Au ?_;refine GC.cond rfl (fun c26=>?_) (fun c26=>?_)
 ·simp only [decide_eq_true_eq] at c26;obtain ⟨i,rfl⟩:∃ i,s=i + 1:=⟨s - 1,by omega⟩;simp only [Nat.add_sub_cancel];refine Au ?_;refine Kc (jL _ _ _ _) (.one .p0) ?_;refine Au ?_;refine Ef (EF.alloc aL) fun b8 _=>?_;refine Au ?_;refine K.c (EC.direct eN rfl) (BJ _ _ _ _ _ _ _ _ _ (by decide)) (.one .p2) .a1 rfl rfl (.free rfl) ?_;refine Au ?_;refine La ?_;refine Lr.run (.a rfl .s) rfl ?_;refine (GL.nil ?_);refine GE.turn (fun w h=>RU hv hnd (by omega) hln h) ?_;exact GE.ag (i + 1 + 1) (.c (by rw [← Int.natCast_succ]; rfl) (.c rfl (.c rfl (.c rfl .n)))) (.t0 (.t2 (.t1 (.t1 (.t1 (.d .refl)))))) (by omega) (by omega)
 refine GC.exit (GE.bE (GE.bE (GE.dT ?_)));refine Ze (Zt ?_);refine GL.turn (fun w h=>h.part (.t1 .refl)) ?_;obtain rfl:s=l.length + 1:=(by simp only [decide_eq_false_iff_not] at c26; omega);refine GL.turn (fun w h=>(show aB W0 w (St ns l 65536::_) from by rw [show l.take (l.length + 1 - 1)=l from by rw [Nat.add_sub_cancel,List.take_length]] at h; exact h)) ?_;refine Au ?_;refine K.c (EC.direct eN rfl) (BJ _ _ _ _ _ _ _ _ _ (by decide)) (.one .p0) .a1 rfl rfl (.free rfl) ?_;refine Au ?_;refine GC.cond rfl (fun c48=>?_) (fun c48=>?_)
 ·refine Au ?_;refine Go fun w h=>?_;refine ⟨_,fun h0=>?_,rfl,h.part (.t2 (.t1 (.t1 (.d (.d .refl)))))⟩;exact absurd h0 (by simpa using c48)
 refine Au ?_;refine Gr 14 (.f (.t (.t (.f (.t .e))))) ?_;refine Dq 7 [0,1,3,4,5,6,7] ?_;refine Ga 2 ?_;refine Kx (yS _ _ _ _ _ _ _ _ _ _ _ _ _ _ hkv) (.cons .p2 (.cons .p2 .nil)) fun ko hko=>?_;obtain ⟨kv,ks⟩:=ko;dsimp only at hko ⊢;obtain ⟨⟨ka,kc,rfl⟩,hkp⟩:=hko;have hkl:=hkp.length_eq;rw [List.length_map] at hkl;refine D.n (.t4 (.t1 (.t3 .refl))) ?_;refine Ga 8 ?_;refine Kw (.direct eN rfl) (MI _ _ _ _ _ _ _ _ _ _ rfl (by have:=iL (t:=⟨tk,ts,tn,ta,tb,tc⟩) hln; simp only [List.length_cons]; omega) (kS hv) (by omega)) (.cons .p3 (.cons .p0 .nil)) fun zc hzc=>?_;refine D.n (.t4 (.t2 (.t3 .refl))) ?_;refine Dq 0 [9,10,11,12,13] ?_;refine Gd ?_;refine Au ?_;refine GC.cond rfl (fun c63=>?_) (fun c63=>?_)
 ·refine Au ?_;refine Go fun w h=>?_;refine ⟨_,fun h0=>?_,rfl,h.part (.t2 (.t3 (.t2 (.d (.d (.d .refl))))))⟩;exact absurd h0 (by decide)
 refine Au ?_;refine Go fun w h=>?_;refine ⟨_,fun _=>⟨by simpa using c48,fun e he=>?_,fun S hS hK=>?_⟩,rfl,h.part (.t2 (.t3 (.t2 (.d (.d (.d .refl))))))⟩
 ·exact ((hzc (by simpa using c63)).1 e.1 (hkp.mem_iff.2 (List.mem_map.2 ⟨e,he,rfl⟩))).1
 refine (hzc (by simpa using c63)).2 S hS (fun y hy=>?_);obtain ⟨e,he,rfl⟩:=List.mem_map.1 (hkp.mem_iff.1 hy);exact hK e he
end
section
open EV (aC)
theorem SY (bw bs gw cw bk:Nat) (aH:List Nat) (sa:Option Addr) (sc:Nat) (sent:List Pk) (now drawn:Int) (f0 f1:Bool) (zs:List Po) (l:List Tm) (aD:List (Int × Value)) (A:Int→Prop) (k:Nat) (hk:k≤60) (hI:cL A k aH ⟨sa,sc,sent,now,drawn,f0,f1,zs,l,aD⟩) (kd aa ab ac ad an:Int) (nM:ByteArray) :
  bQ Tryz.prog 96 [ptr bw,.agg #[.int .i64 kd,.int .i64 aa,.int .i64 ab,.int .i64 ac,.int .i64 ad,.int .u64 an,.string nM]] [Bk bw 142 [ptr bs,.slice (some ⟨gw,0,none⟩) aH.length cw,.int .u64 now,.int .u64 drawn,.slice sa sent.length sc,.slice none 0 0,.map (some bk),.bool f0,.bool f1],Rw 23 1 (.slice (some ⟨gw,0,none⟩) aH.length cw) aH.length (aH.map ptr),pos bs zs,St bs l 65536,Rw 291 3 (.slice sa sent.length sc) sent.length (hP sent),Mp (aC .i64) bk aD] (fun x:Gt × WS=>x.1.val) (fun x=>[Bk bw 142 [ptr bs,.slice (some ⟨gw,0,none⟩) aH.length cw,.int .u64 x.2.now,.int .u64 x.2.drawn,.slice x.2.sa x.2.sent.length x.2.sc,.slice none 0 0,.map (some bk),.bool x.2.f0,.bool x.2.f1],Rw 23 1 (.slice (some ⟨gw,0,none⟩) aH.length cw) aH.length (aH.map ptr),pos bs x.2.zs,St bs x.2.l 65536,Rw 291 3 (.slice x.2.sa x.2.sent.length x.2.sc) x.2.sent.length (hP x.2.sent),Mp (aC .i64) bk x.2.aD]) (fun x=>∃ A',cL A' (k + 1) aH x.2):=by
 refine Fg Tryz.func96 Tryz.ntmps96 fun W0 R=>?_;have hn:=hI.n2;have hdr:=hI.dr;have hsn:=hI.sn;have hln:=hI.ln;dsimp only at hdr hsn hln;have hk1:=hI.k1;dsimp only at hk1;refine Au ?_;refine Ef (EF.bV rfl) fun b3 _=>?_;refine Ef (EF.alloc aL) fun b4 _=>?_;refine Au ?_;refine Ef (EF.alloc aL) fun b7 _=>?_;refine Au ?_;refine GC.cond rfl (fun c27=>?_) (fun c27=>?_)
 ·refine Au ?_;refine Kw (.direct eN rfl) (iG _ _ _ _ _ _ _ _ _ _ _ _ _ _ 65536 (by decide) (by omega)) (.cons .p3 (.cons .p5 .nil)) fun _ _=>?_;obtain ⟨s1,⟨r1,e1⟩,_,s4,hx4,hs4⟩:=hI.sec.draw 65536;dsimp only at e1;refine Au ?_;refine Ed (EU.mu (enc:=aC .i64) (a:=(dR l 65536 drawn).1) rfl rfl rfl yI uN) ?_;refine Au ?_;refine Gq fun w h=>?_;exact ⟨(⟨0,(dR l 65536 drawn).1,none,0,0,0,0,0⟩,⟨sa,sc,sent,now,drawn + 1,f0,f1,zs,(dR l 65536 drawn).2,cG (dR l 65536 drawn).1 (.bool true) aD⟩),⟨_,hI.put r1 e1 s4 hs4 (by dsimp only; omega) (iL hI.ln) (fun y hy=>by rw [e1]; exact (hy.more (fun n=>.inl)).app) hx4⟩,rfl,h.part (.t0 (.t4 (.t4 (.t0 (.t3 (.t3 (.d (.d (.d .refl)))))))))⟩
 refine Au ?_;refine Kw (.direct eN rfl) (OF _ _ _ _ _ _ _ _ _ _ _ _ _ _ _ _ _ _ _ _ _ (by omega) hI.sec.valid (by omega)) (.cons .p3 (.cons .p5 (.cons .p6 .nil))) fun zc hzc=>?_;refine Au ?_;refine GC.cond rfl (fun c41=>?_) (fun c41=>?_)
 ·refine Au ?_;refine Gq fun w h=>?_;exact ⟨(⟨0,0,none,0,0,0,0,_⟩,⟨sa,sc,sent,now,drawn,f0,f1,zs,l,aD⟩),⟨A,hI.idle⟩,rfl,h.part (.t0 (.t5 (.t5 (.t0 (.t4 (.t0 (.d (.d (.d .refl)))))))))⟩
 have hc:=hzc (by simpa using c41);refine Au ?_;refine Gr 11 (.t (.f (.t (.t (.t (.t (.t (.t (.t .e))))))))) ?_;refine Dq 6 [0,1,2,3,4] ?_;refine Ga 5 ?_;refine K.c (EC.direct eN rfl) (BJ _ _ _ _ _ _ _ _ _ (by decide)) (.one .p1) .a1 rfl rfl (.free rfl) ?_;refine D.n (.t1 (.t1 (.t1 (.t1 (.t1 (.t1 (.t1 (.t1 .refl)))))))) ?_;refine Dq 0 [6,7,8,9,10] ?_;refine Gd ?_;refine Au ?_;refine GC.bH rfl (decide_eq_false (fun h=>h hc.1)) ?_;refine Au ?_;refine Ed (EU.mu (enc:=aC .i64) (a:=(bF l 65536 ⟨ad,nM,an,aa,ab,ac⟩).1) rfl rfl rfl yI uN) ?_;refine Au ?_;refine Gq fun w h=>?_;obtain ⟨r1,e1,_⟩:=lT l 65536 ⟨ad,nM,an,aa,ab,ac⟩;have hsf:Safe A (bF l 65536 ⟨ad,nM,an,aa,ab,ac⟩).2.2 (bF l 65536 ⟨ad,nM,an,aa,ab,ac⟩).1:=hc.2.2 (Safe A (bF l 65536 ⟨ad,nM,an,aa,ab,ac⟩).2.2) (Safe.NN A _) (fun e he=>((hI.kn e he).resolve_left (by have:=hc.2.1 e he; omega)).put);exact ⟨(⟨0,(bF l 65536 ⟨ad,nM,an,aa,ab,ac⟩).1,none,0,0,0,0,0⟩,⟨sa,sc,sent,now,drawn,f0,f1,zs,(bF l 65536 ⟨ad,nM,an,aa,ab,ac⟩).2.2,cG (bF l 65536 ⟨ad,nM,an,aa,ab,ac⟩).1 (.bool true) aD⟩),⟨A,hI.put r1 e1 (hI.sec.make (by simpa using c27) hc.1 hsf) (fun y hy=>hy.put) (by dsimp only; omega) (iL hI.ln) (fun y hy=>hy.put) (.inr hsf)⟩,rfl,h.part (.t1 (.t5 (.t5 (.t0 (.t4 (.t0 (.d (.d (.d .refl)))))))))⟩
end
section
open EV (aC)
theorem aD6 {p:Prop} (h:p:=by
  refine Au ?_;refine Go fun w h=>?_;simp only [dB,ne_eq,dC] at *;refine ⟨_,fun hx=>?_,rfl,h.part (.t0 (.d .refl))⟩;exact aI5):p:=h
theorem Q0 {p:Prop} (h:p:=by
  refine Au ?_;refine Go fun w h=>?_;simp only [dB,ne_eq,dC] at *;refine ⟨_,fun hx=>?_,rfl,h.part (.t1 (.d .refl))⟩;exact aI5):p:=h
theorem XK {p:Prop} (h:p:=by
  refine Au ?_;refine Kx (uK _ _ _ _ _ _ _ _ _ _ _ _ _ _ _) (.one .p1) fun zw QV=>?_;exact aD6):p:=h
theorem aI5 {p:Prop} (h:p:=by
  refine ⟨fun h0 h8=>?_,fun h=>?_,fun h1 hc=>?_⟩;all_goals first
  | omega
  | (exact ⟨(QV (by simp_all)).1,(QV (by simp_all)).2.1⟩)
  | (simp_all; done)
  | (simp_all; omega)):p:=h
theorem C5 (bw bs gw cw bk n sn sc:Nat) (sa:Option Addr) (now drawn:Int) (f0 f1:Bool) (kd aa ab ac ad an:Int) (nM:ByteArray) :
  bQ Tryz.prog 88 [ptr bw,.agg #[.int .i64 kd,.int .i64 aa,.int .i64 ab,.int .i64 ac,.int .i64 ad,.int .u64 an,.string nM]] [Bk bw 142 [ptr bs,.slice (some ⟨gw,0,none⟩) n cw,.int .u64 now,.int .u64 drawn,.slice sa sn sc,.slice none 0 0,.map (some bk),.bool f0,.bool f1]] (fun x:Bool=>.bool x) (fun x=>[Bk bw 142 [ptr bs,.slice (some ⟨gw,0,none⟩) n cw,.int .u64 now,.int .u64 drawn,.slice sa sn sc,.slice none 0 0,.map (some bk),.bool f0,.bool f1]]) (fun x=>x=true→(kd≠0→kd≠8→1≤kd∧kd < 10)∧((kd=2∨kd=3∨kd=4∨kd=6)→(0≤aa∧aa < (n:Int))∧(0≤ab∧ab < (n:Int)))∧(kd=1→ac=1→(0≤aa∧aa < (n:Int))∧(0≤ab∧ab < (n:Int)))):=by
 refine Fg Tryz.func88 Tryz.ntmps88 fun W0 R=>?_;refine Au ?_;refine Ef (EF.bV rfl) fun b3 _=>?_;refine Au ?_;refine GC.cond rfl (fun c7=>?_) (fun c7=>?_)
 ·refine Au ?_;refine GC.aQ rfl c7 ?_;exact XK
 refine Au ?_;refine GC.cond rfl (fun aMy=>?_) (fun aMy=>?_)
 ·refine Au ?_;refine GC.aQ rfl aMy ?_;exact XK
 refine Au ?_;refine GC.cond rfl (fun aMx=>?_) (fun aMx=>?_)
 ·refine Au ?_;refine GC.aQ rfl aMx ?_;exact XK
 refine Au ?_;refine GC.cond rfl (fun aMw=>?_) (fun aMw=>?_)
 ·refine Au ?_;refine GC.aQ rfl aMw ?_;exact XK
 refine Au ?_;refine GC.cond rfl (fun aSu=>?_) (fun aSu=>?_)
 ·exact XK
 refine Au ?_;refine GC.cond rfl (fun c19=>?_) (fun c19=>?_)
 ·refine Au ?_;refine GL.case 24 rfl (fun g24=>?_) (fun g24=>?_)
  ·exact Q0
  refine Au ?_;refine GL.case 28 rfl (fun SN=>?_) (fun SN=>?_)
  ·refine Au ?_;refine K.x (EC.direct eN rfl) (uK _ _ _ _ _ _ _ _ _ _ _ _ _ _ _) (.one .p1) (fun _=>.a1) rfl rfl (.guard rfl rfl rfl rfl SN) (fun zw QV=>?_);exact aD6
  exact Q0
 refine Au ?_;refine GC.cond rfl (fun c37=>?_) (fun c37=>?_)
 ·refine Au ?_;refine Kx (AV _ _ _ _ _ _ _ _ _ _ _ _ _ _) (.one .p1) fun zi hzi=>?_;exact aD6
 refine Au ?_;refine GL.case 46 rfl (fun g46=>?_) (fun g46=>?_)
 ·exact Q0
 exact Q0
end
section
open EV (aC)
def ZF (k:Int):Nat:=([89,90,91,92,93,94,95,96,97,98]:List Nat)[k.toNat]?.getD 90
abbrev fb (bw f:Nat):Value:=.func (.func f) #[ptr bw] #[]
abbrev doC (bw:Nat):List Value:=[fb bw 89,fb bw 90,fb bw 91,fb bw 92,fb bw 93,fb bw 94,fb bw 95,fb bw 96,fb bw 97,fb bw 98]
theorem BX {k:Int} (h:1≤k∧k < 10):k=1∨k=2∨k=3∨k=4∨k=5∨k=6∨k=7∨k=8∨k=9:=by omega
theorem aL9 {bw:Nat} {k:Int} (h:1≤k∧k < 10):lc (doC bw) k.toNat=some (.func (.func (ZF k)) #[ptr bw] #[]):=by
 rcases BX h with rfl | rfl | rfl | rfl | rfl | rfl | rfl | rfl | rfl <;> rfl
theorem aLr {k:Int} (h:1≤k∧k < 10):Enters Tryz.prog (ZF k):=by
 rcases BX h with rfl | rfl | rfl | rfl | rfl | rfl | rfl | rfl | rfl
 ·exact eN
 ·exact eN
 ·exact eN
 ·exact eN
 ·exact eN
 ·exact eN
 ·exact eN
 ·exact eN
 exact eN
theorem aL8 (bw bs gw cw bk:Nat) (aH:List Nat) (sa:Option Addr) (sc:Nat) (sent:List Pk) (now drawn:Int) (f0 f1:Bool) (zs:List Po) (l:List Tm) (aD:List (Int × Value)) (A:Int→Prop) (k:Nat) (hk:k≤60) (hI:cL A k aH ⟨sa,sc,sent,now,drawn,f0,f1,zs,l,aD⟩) (kd aa ab ac ad an:Int) (nM:ByteArray) (hkd:1≤kd∧kd < 10) (hk8:kd≠8) (h2:(kd=2∨kd=3∨kd=4∨kd=6)→(0≤aa∧aa < (aH.length:Int))∧(0≤ab∧ab < (aH.length:Int))) (hg:kd=1→ac=1→(0≤aa∧aa < (aH.length:Int))∧(0≤ab∧ab < (aH.length:Int))) (han:0≤an) (hs_:nM.size≤60) :
  bQ Tryz.prog (ZF kd) [ptr bw,.agg #[.int .i64 kd,.int .i64 aa,.int .i64 ab,.int .i64 ac,.int .i64 ad,.int .u64 an,.string nM]] [Bk bw 142 [ptr bs,.slice (some ⟨gw,0,none⟩) aH.length cw,.int .u64 now,.int .u64 drawn,.slice sa sent.length sc,.slice none 0 0,.map (some bk),.bool f0,.bool f1],Rw 23 1 (.slice (some ⟨gw,0,none⟩) aH.length cw) aH.length (aH.map ptr),pos bs zs,St bs l 65536,Rw 291 3 (.slice sa sent.length sc) sent.length (hP sent),Mp (aC .i64) bk aD] (fun x:Gt × WS=>x.1.val) (fun x=>[Bk bw 142 [ptr bs,.slice (some ⟨gw,0,none⟩) aH.length cw,.int .u64 x.2.now,.int .u64 x.2.drawn,.slice x.2.sa x.2.sent.length x.2.sc,.slice none 0 0,.map (some bk),.bool x.2.f0,.bool x.2.f1],Rw 23 1 (.slice (some ⟨gw,0,none⟩) aH.length cw) aH.length (aH.map ptr),pos bs x.2.zs,St bs x.2.l 65536,Rw 291 3 (.slice x.2.sa x.2.sent.length x.2.sc) x.2.sent.length (hP x.2.sent),Mp (aC .i64) bk x.2.aD]) (fun x=>∃ A',cL A' (k + 1) aH x.2):=by
 rcases BX hkd with e | e | e | e | e | e | e | e | e
 ·rw [show ZF kd=90 by rw [e]; rfl]; exact TA _ _ _ _ _ _ _ _ _ _ _ _ _ _ _ _ _ _ hk hI _ _ _ _ _ _ _ han (hg e)
 ·rw [show ZF kd=91 by rw [e]; rfl]; exact ST _ _ _ _ _ _ _ _ _ _ _ _ _ _ _ _ _ _ hk hI _ _ _ _ _ _ _ (h2 (by omega)) hs_
 ·rw [show ZF kd=92 by rw [e]; rfl]; exact SU _ _ _ _ _ _ _ _ _ _ _ _ _ _ _ _ _ _ hk hI _ _ _ _ _ _ _ (h2 (by omega))
 ·rw [show ZF kd=93 by rw [e]; rfl]; exact SR _ _ _ _ _ _ _ _ _ _ _ _ _ _ _ _ _ _ hk hI _ _ _ _ _ _ _ (h2 (by omega))
 ·rw [show ZF kd=94 by rw [e]; rfl]; exact SS _ _ _ _ _ _ _ _ _ _ _ _ _ _ _ _ _ _ hk hI _ _ _ _ _ _ _
 ·rw [show ZF kd=95 by rw [e]; rfl]; exact HO _ _ _ _ _ _ _ _ _ _ _ _ _ _ _ _ _ _ hk hI _ _ _ _ _ _ _ (h2 (by omega)) hs_
 ·rw [show ZF kd=96 by rw [e]; rfl]; exact SY _ _ _ _ _ _ _ _ _ _ _ _ _ _ _ _ _ _ hk hI _ _ _ _ _ _ _
 ·exact absurd e hk8
 rw [show ZF kd=98 by rw [e]; rfl]; exact HP _ _ _ _ _ _ _ _ _ _ _ _ _ _ _ _ _ _ hk hI _ _ _ _ _ _ _
theorem aA3 (bw bs gw cw bk:Nat) (aH:List Nat) (sa:Option Addr) (sc:Nat) (sent:List Pk) (now drawn:Int) (f0 f1:Bool) (zs:List Po) (l:List Tm) (aD:List (Int × Value)) (A:Int→Prop) (k:Nat) (hk:k≤60) (hI:cL A k aH ⟨sa,sc,sent,now,drawn,f0,f1,zs,l,aD⟩) (kd aa ab ac ad an:Int) (nM:ByteArray) (hk0:kd≠0) (hk8:kd≠8) (han:0≤an) (hs_:nM.size≤60) :
  bQ Tryz.prog 39 [ptr bw,.agg #[.int .i64 kd,.int .i64 aa,.int .i64 ab,.int .i64 ac,.int .i64 ad,.int .u64 an,.string nM]] [Bk bw 142 [ptr bs,.slice (some ⟨gw,0,none⟩) aH.length cw,.int .u64 now,.int .u64 drawn,.slice sa sent.length sc,.slice none 0 0,.map (some bk),.bool f0,.bool f1],Rw 23 1 (.slice (some ⟨gw,0,none⟩) aH.length cw) aH.length (aH.map ptr),pos bs zs,St bs l 65536,Rw 291 3 (.slice sa sent.length sc) sent.length (hP sent),Mp (aC .i64) bk aD] (fun x:Gt × WS=>x.1.val) (fun x=>[Bk bw 142 [ptr bs,.slice (some ⟨gw,0,none⟩) aH.length cw,.int .u64 x.2.now,.int .u64 x.2.drawn,.slice x.2.sa x.2.sent.length x.2.sc,.slice none 0 0,.map (some bk),.bool x.2.f0,.bool x.2.f1],Rw 23 1 (.slice (some ⟨gw,0,none⟩) aH.length cw) aH.length (aH.map ptr),pos bs x.2.zs,St bs x.2.l 65536,Rw 291 3 (.slice x.2.sa x.2.sent.length x.2.sc) x.2.sent.length (hP x.2.sent),Mp (aC .i64) bk x.2.aD]) (fun x=>∃ A',cL A' (k + 1) aH x.2):=by
 refine Fg Tryz.func39 Tryz.ntmps39 fun W0 R=>?_;have hn:=hI.n2;have hdr:=hI.dr;have hsn:=hI.sn;have hln:=hI.ln;dsimp only at hdr hsn hln;refine Au ?_;refine Ef (EF.bV rfl) fun b3 _=>?_;refine Ef (EF.alloc aL) fun b4 _=>?_;refine Au ?_;refine Kx (C5 _ _ _ _ _ _ _ _ _ _ _ _ _ _ _ _ _ _ _ _ ) (.one .p2) fun zm QW=>?_;refine Au ?_;refine GC.cond rfl (fun c11=>?_) (fun c11=>?_)
 ·refine Au ?_;refine Gq fun w h=>?_;exact ⟨(⟨0,0,none,0,0,0,0,_⟩,⟨sa,sc,sent,now,drawn,f0,f1,zs,l,aD⟩),⟨A,hI.idle⟩,rfl,h.part (.t0 (.t2 (.t2 (.t2 (.t2 (.t2 (.d (.d .refl))))))))⟩
 have hm:=QW (by simpa using c11);have hkd:=hm.1 hk0 hk8;refine Au ?_;refine Lu rfl (EX.makeFunc (fs:=[_]) (cs:=[]) rfl rfl) ?_;refine Au ?_;refine Lu rfl (EX.makeFunc (fs:=[_]) (cs:=[]) rfl rfl) ?_;refine Au ?_;refine Lu rfl (EX.makeFunc (fs:=[_]) (cs:=[]) rfl rfl) ?_;refine Au ?_;refine Lu rfl (EX.makeFunc (fs:=[_]) (cs:=[]) rfl rfl) ?_;refine Au ?_;refine Lu rfl (EX.makeFunc (fs:=[_]) (cs:=[]) rfl rfl) ?_;refine Au ?_;refine Lu rfl (EX.makeFunc (fs:=[_]) (cs:=[]) rfl rfl) ?_;refine Au ?_;refine Lu rfl (EX.makeFunc (fs:=[_]) (cs:=[]) rfl rfl) ?_;refine Au ?_;refine Lu rfl (EX.makeFunc (fs:=[_]) (cs:=[]) rfl rfl) ?_;refine Au ?_;refine Lu rfl (EX.makeFunc (fs:=[_]) (cs:=[]) rfl rfl) ?_;refine Au ?_;refine Lu rfl (EX.makeFunc (fs:=[_]) (cs:=[]) rfl rfl) ?_;refine Lu rfl (EX.build rfl aM9 rfl) ?_;refine Ef (EF.alloc aL) fun b7 _=>?_;refine Au ?_;refine Gr 12 (.t (.f (.f (.t .e)))) ?_;refine Dq 10 [0,1] ?_;refine Dv 2 rfl (fun X=>EX.cE (a:=kd.toNat) rfl rfl aR (by omega) (by simp)) ?_;refine Dv 3 rfl (fun X=>EX.ld rfl (aL9 hkd) oN) ?_;refine Dq 7 [4] ?_;refine Ga 5 ?_;refine K.x (EC.closure rfl (aLr hkd) rfl) (aL8 _ _ _ _ _ _ _ _ _ _ _ _ _ _ _ _ _ _ hk hI _ _ _ _ _ _ _ hkd hk8 hm.2.1 hm.2.2 han hs_) (.cons .p1 (.cons .p3 (.cons .p3 (.cons .p3 (.cons .p3 (.cons .p3 .nil)))))) (fun _=>(.c (.c (.a4)))) rfl rfl (.free rfl) (fun zt mY=>?_);obtain ⟨⟨g0,g1,g2,g3,g4,g5,g6,g7⟩,w9⟩:=zt;dsimp only [Gt.val] at mY ⊢;refine D.n (.t6 (.t7 .refl)) ?_;refine Dq 3 [6,7,8] ?_;refine Ga 9 ?_;refine Au ?_;refine D.n (.t6 (.t7 .refl)) ?_;refine Dq 0 [10,11] ?_;refine Gd ?_;refine Au ?_;refine Gq fun w h=>?_;exact ⟨(⟨g0,g1,g2,g3,g4,g5,g6,g7⟩,w9),mY,rfl,h.part (.t0 (.t0 (.t0 (.t0 (.t0 (.t0 (.d (.d (.d .refl)))))))))⟩
end
section
open EV (aC)
theorem EX.aLl {W0 kn L d g T e ty' x y ty ps af} (hx:ev kn x=some (.slice none 0 0)) (hy:ev kn y=some (.slice none 0 0)) (hT:Tryz.prog.underlying T=some (.slice e)):EX Tryz.prog W0 kn L ⟨d,.binOp .eql T x y ty',ty,ps,af,g⟩ (.bool true):=fun ρ w he hs=>by
 have h1:=run_eql_slice_nil (P:=Tryz.prog) w T e none 0 0 hT;have h2:(eqGuard .eql T x y (.slice none 0 0) (.slice none 0 0)).run Tryz.prog w=.ok () w:=by simp [eqGuard]
 simp only [execOp,he x _ hx,he y _ hy,Sem.run_bind,h1,h2,Result.andThen_ok];rfl
theorem aI4 {p:Prop} (h:p:=by
  refine Au ?_;refine Go fun w h=>?_;exact ⟨(),trivial,rfl,h.part .refl⟩):p:=h
theorem RX  :
  bQ Tryz.prog 43 [.slice none 0 0] [] (fun x:Unit=>.slice none 0 0) (fun x=>[]) (fun x=>True):=by
 refine Fg Tryz.func43 Tryz.ntmps43 fun W0 R=>?_;refine Au ?_;refine Lu rfl (EX.aLl rfl rfl uN) ?_;refine Au ?_;refine GC.aQ rfl rfl ?_;exact aI4
theorem mL (bw bs gw cw bk n sn sc:Nat) (sa:Option Addr) (now drawn:Int) (f0 f1:Bool) :
  bQ Tryz.prog 18 [ptr bw] [Bk bw 142 [ptr bs,.slice (some ⟨gw,0,none⟩) n cw,.int .u64 now,.int .u64 drawn,.slice sa sn sc,.slice none 0 0,.map (some bk),.bool f0,.bool f1]] (fun x:Unit=>.slice none 0 0) (fun x=>[Bk bw 142 [ptr bs,.slice (some ⟨gw,0,none⟩) n cw,.int .u64 now,.int .u64 drawn,.slice sa sn sc,.slice none 0 0,.map (some bk),.bool f0,.bool f1]]) (fun x=>True):=by
 refine Fg Tryz.func18 Tryz.ntmps18 fun W0 R=>?_;refine Au ?_;refine Ky (RX) fun _ _=>?_;exact aI4
theorem DI (bw bs gw cw bk sn sc:Nat) (sa:Option Addr) (now drawn:Int) (f0 f1:Bool) (aH:List Nat) (zs:List Po) (hb:zs.map (·.bp)=aH) (hq:∀ q∈zs,q.qs.length≤1000∧q.ps.length≤1000) (hn:aH.length≤3) (at_:Int) :
  bQ Tryz.prog 44 [ptr bw,.int .i64 at_] [Bk bw 142 [ptr bs,.slice (some ⟨gw,0,none⟩) aH.length cw,.int .u64 now,.int .u64 drawn,.slice sa sn sc,.slice none 0 0,.map (some bk),.bool f0,.bool f1],Rw 23 1 (.slice (some ⟨gw,0,none⟩) aH.length cw) aH.length (aH.map ptr),pos bs zs] (fun x:Value × List Int=>x.1) (fun x=>[Rw 3 1 x.1 x.2.length (aJ x.2),Bk bw 142 [ptr bs,.slice (some ⟨gw,0,none⟩) aH.length cw,.int .u64 now,.int .u64 drawn,.slice sa sn sc,.slice none 0 0,.map (some bk),.bool f0,.bool f1],Rw 23 1 (.slice (some ⟨gw,0,none⟩) aH.length cw) aH.length (aH.map ptr),pos bs zs]) (fun x=>Sl x.2.length x.1∧x.2.length≤3000∧(0 < x.2.length↔0≤at_∧at_ < (aH.length:Int))∧∀ y∈x.2,∃ q∈zs,X5 q.md q.Z8 q.ps y):=by
 refine Fg Tryz.func44 Tryz.ntmps44 fun W0 R=>?_;refine Au ?_;refine Kx (AV _ _ _ _ _ _ _ _ _ _ _ _ _ _ ) (.one .p0) fun zi hzi=>?_;refine Au ?_;refine GC.cond rfl (fun c8=>?_) (fun c8=>?_)
 ·have hw:¬ (0≤at_∧at_ < (aH.length:Int)):=fun h=>(by have:=hzi.2 h; simp_all);refine Au ?_;refine Go fun w h=>?_;refine ⟨(.slice none 0 0,[]),⟨⟨_,_,rfl⟩,Nat.zero_le _,⟨fun h=>(by cases h),fun h=>absurd h hw⟩,fun y hy=>(by cases hy)⟩,rfl,(h.part .refl).eP 3 1⟩
 have hw:=hzi.1 (by simpa using c8);obtain ⟨i,rfl⟩:∃ i:Nat,at_=(i:Int):=⟨at_.toNat,by omega⟩;obtain ⟨⟨bp,gp,cp,gq,cq,bb,bl,md,mk,se,ms,sp,bM,gv,ps,qs⟩,z1,z2,hz,hqi,hz1⟩:=pos_at hb (i:=i) (by omega);dsimp only at hz hqi;have QW:(⟨bp,gp,cp,gq,cq,bb,bl,md,mk,se,ms,sp,bM,gv,ps,qs⟩:Po)∈zs:=(by rw [hz]; simp);have hq1:=hq _ QW;dsimp only at hq1;refine GC.skip (Ze (Zt ?_));refine GL.turn (fun w h=>h.part (.t2 .refl)) ?_;refine GL.turn (fun w h=>(show aB W0 w (Bk bp 79 [ptr bs,.int .i64 md,.int .i64 mk,.slice (some ⟨gp,0,none⟩) ps.length cp,.string bM,.int .i64 20,.int .u64 se,.int .u64 ms,.int .u64 sp,gv,.slice (some ⟨gq,0,none⟩) qs.length cq,.map (some bb),.map (some bl)]::Rw 123 1 (.slice (some ⟨gq,0,none⟩) qs.length cq) qs.length (oH qs)::Rw 64 4 (.slice (some ⟨gp,0,none⟩) ps.length cp) ps.length (iU ps)::Mp (aC .u64) bb []::Mp (aC .u64) bl []::jO qs::pos bs (z1++z2)::_) from fR hz h)) ?_;refine Au ?_;refine Lu rfl (EX.indexAddr (a:=i) rfl rfl sL (by omega) (by simp)) ?_;refine Lu rfl (EX.tU rfl hqi oN) ?_;refine Kw (.direct eN rfl) (PE _ _ _ _ _ _ _ _ _ _ _ _ _ _ _ _ _ (by omega) (by omega)) (.cons .p0 (.cons .p1 (.cons .p1 (.cons .p1 .nil)))) fun zk B6=>?_;refine Au ?_;refine Go fun w h=>?_;exact ⟨zk,⟨B6.1,B6.2.1,⟨fun _=>hw,fun _=>B6.2.2.1⟩,fun y hy=>⟨_,QW,B6.2.2.2 y hy⟩⟩,rfl,(show aB W0 _ (pos bs zs::_) from pT (q:=⟨bp,gp,cp,gq,cq,bb,bl,md,mk,se,ms,sp,bM,gv,ps,qs⟩) hz (h.part (.t1 (.t4 (.t1 (.t1 (.t1 (.t1 (.t1 .refl))))))))).part (.t1 (.t1 (.t1 .refl)))⟩
theorem DJ (bw bs gw cw bk sn sc:Nat) (sa:Option Addr) (now drawn:Int) (f0 f1:Bool) (aH:List Nat) (zs:List Po) (hb:zs.map (·.bp)=aH) (hq:∀ q∈zs,q.qs.length≤1000∧q.ps.length≤1000) (hn:aH.length≤3) (at_ wi_:Int) :
  bQ Tryz.prog 16 [ptr bw,.int .i64 at_,.int .i64 wi_] [Bk bw 142 [ptr bs,.slice (some ⟨gw,0,none⟩) aH.length cw,.int .u64 now,.int .u64 drawn,.slice sa sn sc,.slice none 0 0,.map (some bk),.bool f0,.bool f1],Rw 23 1 (.slice (some ⟨gw,0,none⟩) aH.length cw) aH.length (aH.map ptr),pos bs zs] (fun x:Int × Int × Int=>.tuple #[.int .i64 x.1,.int .i64 x.2.1,.int .i64 x.2.2]) (fun x=>[Bk bw 142 [ptr bs,.slice (some ⟨gw,0,none⟩) aH.length cw,.int .u64 now,.int .u64 drawn,.slice sa sn sc,.slice none 0 0,.map (some bk),.bool f0,.bool f1],Rw 23 1 (.slice (some ⟨gw,0,none⟩) aH.length cw) aH.length (aH.map ptr),pos bs zs]) (fun x=>x.1=0):=by
 refine Fg Tryz.func16 Tryz.ntmps16 fun W0 R=>?_;refine Au ?_;refine Kx (uK _ _ _ _ _ _ _ _ _ _ _ _ _ _ _ ) (.one .p0) fun zw QV=>?_;refine Au ?_;refine GC.cond rfl (fun c13=>?_) (fun c13=>?_)
 ·refine Au ?_;refine Gs fun w h=>?_;exact ⟨(_,_,_),rfl,rfl,h.part .refl⟩
 have hw:=QV (by simpa using c13);obtain ⟨i,rfl⟩:∃ i:Nat,at_=(i:Int):=⟨at_.toNat,by omega⟩;obtain ⟨⟨bp,gp,cp,gq,cq,bb,bl,md,mk,se,ms,sp,bM,gv,ps,qs⟩,z1,z2,hz,hqi,hz1⟩:=pos_at hb (i:=i) (by omega);dsimp only at hz hqi;have QW:(⟨bp,gp,cp,gq,cq,bb,bl,md,mk,se,ms,sp,bM,gv,ps,qs⟩:Po)∈zs:=(by rw [hz]; simp);have hq1:=hq _ QW;dsimp only at hq1;refine GC.skip (Ze (Zs ?_));refine GC.turn (fun w h=>h.part (.t2 .refl)) ?_;refine GC.turn (fun w h=>(show aB W0 w (Bk bp 79 [ptr bs,.int .i64 md,.int .i64 mk,.slice (some ⟨gp,0,none⟩) ps.length cp,.string bM,.int .i64 20,.int .u64 se,.int .u64 ms,.int .u64 sp,gv,.slice (some ⟨gq,0,none⟩) qs.length cq,.map (some bb),.map (some bl)]::Rw 123 1 (.slice (some ⟨gq,0,none⟩) qs.length cq) qs.length (oH qs)::Rw 64 4 (.slice (some ⟨gp,0,none⟩) ps.length cp) ps.length (iU ps)::Mp (aC .u64) bb []::Mp (aC .u64) bl []::jO qs::pos bs (z1++z2)::_) from fR hz h)) ?_;refine Gr 17 (.f (.f (.t (.f (.t (.f (.t (.t (.t .e))))))))) ?_;refine Dq 12 [0,1,2,3,4] ?_;refine Dv 5 rfl (fun X=>EX.indexAddr (a:=i) rfl rfl sL (by omega) (by simp)) ?_;refine Dv 6 rfl (fun X=>EX.tU rfl hqi oN) ?_;refine Dq 8 [7,8] ?_;refine Ga 9 ?_;refine Kw (.direct eN rfl) (gU _ _ (by omega)) .nil fun zp S4=>?_;refine D.n (.t2 (.t3 (.t4 (.t4 (.t4 .refl))))) ?_;refine Ga 10 ?_;refine Kw (.direct eN rfl) (PF _ _ _ _ _ _ _ _ _ _ _ _ _ _ _ _ _ (by omega) _) (.cons .p0 (.cons .p0 (.cons .p1 (.cons .p2 .nil)))) fun zd hzd=>?_;refine D.n (.t4 (.t4 (.t4 (.t4 (.t4 .refl))))) ?_;refine Dq 0 [11,12,13,14,15,16] ?_;refine Gd ?_;refine Au ?_;refine Gs fun w h=>?_;exact ⟨(_,_,_),hzd,rfl,(show aB W0 _ (pos bs zs::_) from pT (q:=⟨bp,gp,cp,gq,cq,bb,bl,md,mk,se,ms,sp,bM,gv,ps,qs⟩) hz (h.part (.t0 (.t0 (.t2 (.t0 (.t1 .refl))))))).part (.t1 (.t1 .refl))⟩
theorem DE (bw bs gw cw bk sn sc:Nat) (sa:Option Addr) (now drawn:Int) (f0 f1:Bool) (aH:List Nat) (zs:List Po) (hb:zs.map (·.bp)=aH) (hq:∀ q∈zs,q.qs.length≤1000∧q.ps.length≤1000) (hn:aH.length≤3) (at_ wi_:Int) :
  bQ Tryz.prog 17 [ptr bw,.int .i64 at_,.int .i64 wi_] [Bk bw 142 [ptr bs,.slice (some ⟨gw,0,none⟩) aH.length cw,.int .u64 now,.int .u64 drawn,.slice sa sn sc,.slice none 0 0,.map (some bk),.bool f0,.bool f1],Rw 23 1 (.slice (some ⟨gw,0,none⟩) aH.length cw) aH.length (aH.map ptr),pos bs zs] (fun x:Unit=>.slice none 0 0) (fun x=>[Bk bw 142 [ptr bs,.slice (some ⟨gw,0,none⟩) aH.length cw,.int .u64 now,.int .u64 drawn,.slice sa sn sc,.slice none 0 0,.map (some bk),.bool f0,.bool f1],Rw 23 1 (.slice (some ⟨gw,0,none⟩) aH.length cw) aH.length (aH.map ptr),pos bs zs]) (fun x=>True):=by
 refine Fg Tryz.func17 Tryz.ntmps17 fun W0 R=>?_;refine Au ?_;refine Kx (uK _ _ _ _ _ _ _ _ _ _ _ _ _ _ _ ) (.one .p0) fun zw QV=>?_;refine Au ?_;refine GC.cond rfl (fun c11=>?_) (fun c11=>?_)
 ·refine Au ?_;refine Go fun w h=>?_;exact ⟨(),trivial,rfl,h.part .refl⟩
 have hw:=QV (by simpa using c11);obtain ⟨i,rfl⟩:∃ i:Nat,at_=(i:Int):=⟨at_.toNat,by omega⟩;obtain ⟨⟨bp,gp,cp,gq,cq,bb,bl,md,mk,se,ms,sp,bM,gv,ps,qs⟩,z1,z2,hz,hqi,hz1⟩:=pos_at hb (i:=i) (by omega);dsimp only at hz hqi;have QW:(⟨bp,gp,cp,gq,cq,bb,bl,md,mk,se,ms,sp,bM,gv,ps,qs⟩:Po)∈zs:=(by rw [hz]; simp);have hq1:=hq _ QW;dsimp only at hq1;refine GC.skip (Ze (Zs ?_));refine GC.turn (fun w h=>h.part (.t2 .refl)) ?_;refine GC.turn (fun w h=>(show aB W0 w (Bk bp 79 [ptr bs,.int .i64 md,.int .i64 mk,.slice (some ⟨gp,0,none⟩) ps.length cp,.string bM,.int .i64 20,.int .u64 se,.int .u64 ms,.int .u64 sp,gv,.slice (some ⟨gq,0,none⟩) qs.length cq,.map (some bb),.map (some bl)]::Rw 123 1 (.slice (some ⟨gq,0,none⟩) qs.length cq) qs.length (oH qs)::Rw 64 4 (.slice (some ⟨gp,0,none⟩) ps.length cp) ps.length (iU ps)::Mp (aC .u64) bb []::Mp (aC .u64) bl []::jO qs::pos bs (z1++z2)::_) from fR hz h)) ?_;refine Gr 12 (.f (.f (.t (.t (.t (.f (.t (.t (.t .e))))))))) ?_;refine Dq 7 [0,1,2,3,4] ?_;refine Dv 5 rfl (fun X=>EX.indexAddr (a:=i) rfl rfl sL (by omega) (by simp)) ?_;refine Dv 6 rfl (fun X=>EX.tU rfl hqi oN) ?_;refine Dq 3 [7,8] ?_;refine Ga 9 ?_;refine Kw (.direct eN rfl) (gU _ _ (by omega)) .nil fun zp S4=>?_;refine D.n (.t2 (.t2 (.t2 (.t3 (.t3 (.t3 .refl)))))) ?_;refine Ga 10 ?_;refine Kw (.direct eN rfl) (US _ _ _ _ _ _ _ _ _ _ _ _ _ _ _ _ _ (by omega) _) (.cons .p0 (.cons .p0 (.cons .p3 .nil))) fun _ _=>?_;refine D.n (.t3 (.t3 (.t3 (.t3 (.t3 (.t3 .refl)))))) ?_;refine Ds 11 ?_;refine Gd ?_;refine Au ?_;refine Go fun w h=>?_;exact ⟨(),trivial,rfl,(show aB W0 _ (pos bs zs::_) from pT (q:=⟨bp,gp,cp,gq,cq,bb,bl,md,mk,se,ms,sp,bM,gv,ps,qs⟩) hz (h.part (.t0 (.t0 (.t1 (.t1 (.t1 .refl))))))).part (.t1 (.t1 .refl))⟩
theorem C9 (bw bs gw cw bk n sn sc:Nat) (sa:Option Addr) (now drawn:Int) (f0 f1:Bool) (l:List Tm) (aD:List (Int × Value)) (name:Int) (hkv:1≤aD.length∧aD.length≤999) (hv:cM l) (hln:(l.length:Int)≤65536) :
  bQ Tryz.prog 103 [ptr bw,.int .i64 name] [Bk bw 142 [ptr bs,.slice (some ⟨gw,0,none⟩) n cw,.int .u64 now,.int .u64 drawn,.slice sa sn sc,.slice none 0 0,.map (some bk),.bool f0,.bool f1],St bs l 65536,Mp (aC .i64) bk aD] (fun x:Bool × Int=>.tuple #[.bool x.1,.int .i64 x.2]) (fun x=>[Bk bw 142 [ptr bs,.slice (some ⟨gw,0,none⟩) n cw,.int .u64 now,.int .u64 drawn,.slice sa sn sc,.slice none 0 0,.map (some bk),.bool f0,.bool f1],St bs l 65536,Mp (aC .i64) bk aD]) (fun x=>x.1=true→(∀ e∈aD,1≤e.1)∧∀ S:Int→Prop,nH l S→(∀ e∈aD,S e.1)→S name):=by
 refine Fg Tryz.func103 Tryz.ntmps103 fun W0 R=>?_;refine Au ?_;refine Gr 16 (.t .e) ?_;refine Dq 6 [0,1,2,3,4,6,7,8,9,10] ?_;refine Ga 5 ?_;refine Kx (yS _ _ _ _ _ _ _ _ _ _ _ _ _ _ hkv) (.cons .p0 (.cons .p1 .nil)) fun ko hko=>?_;obtain ⟨kv,ks⟩:=ko;dsimp only at hko ⊢;obtain ⟨⟨ka,kc,rfl⟩,hkp⟩:=hko;have hkl:=hkp.length_eq;rw [List.length_map] at hkl;refine D.n (.t1 .refl) ?_;refine Ga 11 ?_;refine Kw (.direct eN rfl) (MI _ _ _ _ _ _ _ _ _ _ rfl (by simp only [List.length_cons]; omega) hv (by omega)) (.cons .p3 (.cons .p0 .nil)) fun zc hzc=>?_;refine D.n (.t2 .refl) ?_;refine Dq 0 [12,13,14,15] ?_;refine Gd ?_;refine Au ?_;refine Gs fun w h=>?_;refine ⟨(_,_),fun h0=>⟨fun e he=>?_,fun S hS hK=>?_⟩,rfl,h.part (.t2 (.t0 (.t1 (.d .refl))))⟩
 ·exact ((hzc h0).1 e.1 (hkp.mem_iff.2 (List.mem_map.2 ⟨e,he,rfl⟩))).1
 refine (hzc h0).2 S hS (fun y hy=>?_);obtain ⟨e,he,rfl⟩:=List.mem_map.1 (hkp.mem_iff.1 hy);exact hK e he
end
section
open EV (aC)
theorem XJ {p:Prop} (h:p:=by
  refine Au ?_;refine Go fun w h=>?_;exact ⟨_,trivial,rfl,h.part .refl⟩):p:=h
theorem aI3 {p:Prop} (h:p:=by
  refine Au ?_;refine GC.bH rfl rfl ?_;refine Au ?_;refine Go fun w h=>?_;exact ⟨(),trivial,rfl,h.part .refl⟩):p:=h
theorem aEj {W0 w:World} {L:List aA} {v:Value} {a b:List Int} (h:aB W0 w (Rw 3 1 v (a.length + b.length) (aJ a++aJ b)::L)):aB W0 w (Rw 3 1 v (a++b).length (aJ (a++b))::L):=by
 have e2:aJ (a++b)=aJ a++aJ b:=by simp [aJ]
 rw [List.length_append,e2]; exact h
theorem YG {l:List Int}:∀ u∈aJ l,u.oneCell'=true:=fun u hu=>by
 obtain ⟨x,_,rfl⟩:=List.mem_map.1 hu; rfl
theorem QT {l:List Int}:(aJ l).length=l.length * 1:=by simp [aJ]
theorem QU {l:List Int} {k:Nat} (h:k < l.length):(aJ l)[k * 1]?=some (.int .i64 l[k]):=by simp [aJ,h]
theorem cL.hq {A:Int→Prop} {k:Nat} {aH:List Nat} {w:WS} (h:cL A k aH w):∀ q∈w.zs,q.qs.length≤1000∧q.ps.length≤1000:=fun q hq=>by
 have:=(h.po q hq).qn;have:=(h.po q hq).pn;have:=h.n2;omega
theorem cL.key {A:Int→Prop} {k:Nat} {aH:List Nat} {w:WS} (h:cL A k aH w) {y:Int} (hy:∃ q∈w.zs,X5 q.md q.Z8 q.ps y):aV A w.l y:=by
 obtain ⟨q,hq,h1 | h1 | ⟨p,hp,h1 | h1⟩⟩:=hy
 ·rw [h1]; exact (h.po q hq).md
 ·rw [h1]; exact (h.po q hq).Z8
 ·rw [h1]; exact ((h.po q hq).ps p hp).1
 rw [h1]; exact ((h.po q hq).ps p hp).2
theorem cL.cannot {A:Int→Prop} {k:Nat} {aH:List Nat} {w:WS} (h:cL A k aH w) {y:Int} (hy:aV A w.l y) {c:Bool} (hc:c=true→(∀ e∈w.aD,1≤e.1)∧∀ S:Int→Prop,nH w.l S→(∀ e∈w.aD,S e.1)→S y):c=false:=by
 cases c with
 | false=>rfl
 | true =>
  obtain ⟨h1,h2⟩:=hc rfl;exact absurd (h2 (Safe A w.l) (Safe.NN A w.l) fun e he=>(h.kn e he).resolve_left (by have:=h1 e he; omega)) hy.not
theorem vL (bw bs gw cw bk:Nat) (aH:List Nat) (sa:Option Addr) (sc:Nat) (sent:List Pk) (now drawn:Int) (f0 f1:Bool) (zs:List Po) (l:List Tm) (aD:List (Int × Value)) (A:Int→Prop) (k:Nat) (hk:k≤60) (hI:cL A k aH ⟨sa,sc,sent,now,drawn,f0,f1,zs,l,aD⟩) (m:Nat) (hm:m≤aH.length) :
  bQ Tryz.prog 45 [ptr bw,.int .i64 (m:Int)] [Bk bw 142 [ptr bs,.slice (some ⟨gw,0,none⟩) aH.length cw,.int .u64 now,.int .u64 drawn,.slice sa sent.length sc,.slice none 0 0,.map (some bk),.bool f0,.bool f1],Rw 23 1 (.slice (some ⟨gw,0,none⟩) aH.length cw) aH.length (aH.map ptr),pos bs zs,St bs l 65536,Rw 291 3 (.slice sa sent.length sc) sent.length (hP sent),Mp (aC .i64) bk aD] (fun x:Unit=>.bool true) (fun x=>[Bk bw 142 [ptr bs,.slice (some ⟨gw,0,none⟩) aH.length cw,.int .u64 now,.int .u64 drawn,.slice sa sent.length sc,.slice none 0 0,.map (some bk),.bool f0,.bool f1],Rw 23 1 (.slice (some ⟨gw,0,none⟩) aH.length cw) aH.length (aH.map ptr),pos bs zs,St bs l 65536,Rw 291 3 (.slice sa sent.length sc) sent.length (hP sent),Mp (aC .i64) bk aD]) (fun x=>True):=by
 refine Fg Tryz.func45 Tryz.ntmps45 fun W0 R=>?_;have hn:=hI.n2;have hk1:=hI.k1;have hln:=hI.ln;dsimp only at hk1 hln;refine Zt ?_;refine Lu rfl (EX.assign rfl) ?_;refine Zn (Zt ?_);refine Lu rfl (EX.assign rfl) ?_;refine Zn (Zs (Zt ?_));refine Lr.run (.m rfl (.m rfl .s)) rfl ?_;refine Zn (GC.block ?_);refine GC.turn (fun w h=>h.eP 3 1) ?_;refine GC.lp (σ:=Nat × Value × List Int) (fun s=>[(14,.int .i64 (s.1:Int)),(13,.int .i64 (m:Int)),(5,s.2.1),(0,ptr bw)]) (fun s=>Rw 3 1 s.2.1 s.2.2.length (aJ s.2.2)::Bk bw 142 [ptr bs,.slice (some ⟨gw,0,none⟩) aH.length cw,.int .u64 now,.int .u64 drawn,.slice sa sent.length sc,.slice none 0 0,.map (some bk),.bool f0,.bool f1]::Rw 23 1 (.slice (some ⟨gw,0,none⟩) aH.length cw) aH.length (aH.map ptr)::pos bs zs::St bs l 65536::Rw 291 3 (.slice sa sent.length sc) sent.length (hP sent)::Mp (aC .i64) bk aD::R) (fun s=>s.1≤m∧Sl s.2.2.length s.2.1∧s.2.2.length≤3000 * s.1∧∀ y∈s.2.2,aV A l y) (fun s=>m - s.1) (0,.slice none 0 0,[]) (.c rfl (.c rfl (.c rfl (.c rfl .n)))) .refl (⟨Nat.zero_le _,⟨_,_,rfl⟩,Nat.zero_le _,fun y hy=>(by cases hy)⟩) (fun s hs=>?_);obtain ⟨j,va,ac⟩:=s;dsimp only at hs;obtain ⟨hj,⟨aa,ac9,rfl⟩,hal,hsc⟩:=hs;refine Au ?_;refine GC.cond rfl (fun c15=>?_) (fun c15=>?_)
 ·simp only [decide_eq_true_eq] at c15;refine Au ?_;refine Kx (DI _ _ _ _ _ _ _ _ _ _ _ _ _ _ hI.bp hI.hq hI.n2.2 _) (.cons .p1 (.cons .p1 (.cons .p1 .nil))) fun zk B6=>?_;obtain ⟨kv,ks⟩:=zk;dsimp only at B6;obtain ⟨⟨ka,kc,rfl⟩,h3,h4,h5⟩:=B6;refine GL.know (fun w h=>h.dV .p0 (h4.2 ⟨by omega,by omega⟩)) (fun hg=>?_);obtain ⟨gk,rfl⟩:=hg;refine Ef (EF.W9 rfl rfl NV (fun v=>.there (.there (.there (.there (.here))))) .p0 (QT) (YG) (by dsimp only; unfold maxLen; omega) (by dsimp only; omega)) fun v21 aR2=>?_;obtain ⟨aS4,aSq,rfl⟩:=aR2;refine GL.turn (fun w h=>h.part (.t4 .refl)) ?_;refine GL.turn (fun w h=>aEj h) ?_;refine Au ?_;refine La ?_;refine Au ?_;exact GE.ag ((j + 1,.slice aS4 (ac.length + ks.length) aSq,ac++ks):Nat × Value × List Int) (.c (by rw [← Int.natCast_succ]; rfl) (.c rfl (.c rfl (.c rfl .n)))) (.t0 (.t1 (.t1 (.t1 (.t1 (.t1 (.t1 (.d .refl)))))))) (by dsimp only; omega) ((by refine ⟨by dsimp only; omega,⟨_,_,by rw [List.length_append]⟩,by rw [List.length_append]; omega,fun y hy=>?_⟩; exact (List.mem_append.1 hy).elim (hsc y) (fun h=>hI.key (h5 y h))))
 refine Au ?_;refine Kx (mL _ _ _ _ _ _ _ _ _ _ _ _ _ ) (.one .p1) fun _ _=>?_;refine Au ?_;refine GC.lp (σ:=Unit) (fun s=>[(26,.int .i64 0),(25,.int .i64 0),(5,.slice aa ac.length ac9),(0,ptr bw)]) (fun s=>Rw 3 1 (.slice aa ac.length ac9) ac.length (aJ ac)::Bk bw 142 [ptr bs,.slice (some ⟨gw,0,none⟩) aH.length cw,.int .u64 now,.int .u64 drawn,.slice sa sent.length sc,.slice none 0 0,.map (some bk),.bool f0,.bool f1]::Rw 23 1 (.slice (some ⟨gw,0,none⟩) aH.length cw) aH.length (aH.map ptr)::pos bs zs::St bs l 65536::Rw 291 3 (.slice sa sent.length sc) sent.length (hP sent)::Mp (aC .i64) bk aD::R) (fun s=>True) (fun s=>0) () (.c rfl (.c rfl (.c rfl (.c rfl .n)))) (.t1 .refl) (trivial) (fun s hs=>?_);refine Au ?_;refine GC.bH rfl rfl ?_;refine Au ?_;refine GC.lp (σ:=Nat) (fun s=>[(43,.int .i64 (s:Int)),(42,.int .i64 (ac.length:Int)),(41,.slice aa ac.length ac9),(0,ptr bw)]) (fun s=>Rw 3 1 (.slice aa ac.length ac9) ac.length (aJ ac)::Bk bw 142 [ptr bs,.slice (some ⟨gw,0,none⟩) aH.length cw,.int .u64 now,.int .u64 drawn,.slice sa sent.length sc,.slice none 0 0,.map (some bk),.bool f0,.bool f1]::Rw 23 1 (.slice (some ⟨gw,0,none⟩) aH.length cw) aH.length (aH.map ptr)::pos bs zs::St bs l 65536::Rw 291 3 (.slice sa sent.length sc) sent.length (hP sent)::Mp (aC .i64) bk aD::R) (fun s=>s≤ac.length) (fun s=>ac.length - s) 0 (.c rfl (.c rfl (.c rfl (.c rfl .n)))) .refl (Nat.zero_le _) (fun s hs=>?_);refine Au ?_;refine GC.cond rfl (fun c44=>?_) (fun c44=>?_)
 ·simp only [decide_eq_true_eq] at c44;have hk9:s < ac.length:=by omega
  refine GC.know (fun w h=>h.dV .p0 (by omega)) (fun hg=>?_);obtain ⟨ga,rfl⟩:=hg;refine Au ?_;refine Lu rfl (EX.indexAddr (a:=s * 1) rfl rfl sL (by omega) (by simp)) ?_;refine Lu rfl (EX.tU rfl (QU hk9) oN) ?_;refine Au ?_;refine Kw (.direct eN rfl) (C9 _ _ _ _ _ _ _ _ _ _ _ _ _ _ _ _ (by omega) hI.sec.valid (by omega)) (.cons .p1 (.cons .p3 (.cons .p4 .nil))) fun zc hzc=>?_;have hcf:=hI.cannot (hsc _ (List.getElem_mem hk9)) hzc;refine Au ?_;refine GC.bH rfl hcf ?_;refine Au ?_;refine La ?_;refine Au ?_;exact GE.ag (s + 1) (.c (by rw [← Int.natCast_succ]; rfl) (.c rfl (.c rfl (.c rfl .n)))) (.t3 (.t0 (.t2 (.t2 (.t0 (.t1 .refl)))))) (by omega) (by omega)
 refine Au ?_;refine Go fun w h=>?_;exact ⟨(),trivial,rfl,h.part (.t1 (.t1 (.t1 (.t1 (.t1 (.t1 (.d .refl)))))))⟩
theorem xO  :
  bQ Tryz.prog 46 [.slice none 0 0] [] (fun x:Unit=>.bool true) (fun x=>[]) (fun x=>True):=by
 refine Fg Tryz.func46 Tryz.ntmps46 fun W0 R=>?_;refine Au ?_;refine Ef (EF.makeMap (aC .i64)) fun b10 _=>?_;refine Au ?_;refine GC.lp (σ:=Unit) (fun s=>[(13,.int .i64 0),(12,.int .i64 0)]) (fun s=>R) (fun s=>True) (fun s=>0) () (.c rfl (.c rfl .n)) (.d .refl) (trivial) (fun s hs=>?_);exact aI3
theorem AG  :
  bQ Tryz.prog 47 [.slice none 0 0] [] (fun x:Unit=>.bool true) (fun x=>[]) (fun x=>True):=by
 refine Fg Tryz.func47 Tryz.ntmps47 fun W0 R=>?_;refine Au ?_;refine Ef (EF.makeMap (aC .i64)) fun b7 _=>?_;refine Au ?_;refine GC.lp (σ:=Unit) (fun s=>[(10,.int .i64 0),(9,.int .i64 0)]) (fun s=>R) (fun s=>True) (fun s=>0) () (.c rfl (.c rfl .n)) (.d .refl) (trivial) (fun s hs=>?_);exact aI3
theorem tL (bw bs gw cw bk sn sc:Nat) (sa:Option Addr) (now drawn:Int) (f0 f1:Bool) (aH:List Nat) (zs:List Po) (hb:zs.map (·.bp)=aH) (hq:∀ q∈zs,q.qs.length≤1000∧q.ps.length≤1000) (hn:aH.length≤3) (m:Nat) (hm:m≤8) :
  bQ Tryz.prog 48 [ptr bw,.int .i64 (m:Int)] [Bk bw 142 [ptr bs,.slice (some ⟨gw,0,none⟩) aH.length cw,.int .u64 now,.int .u64 drawn,.slice sa sn sc,.slice none 0 0,.map (some bk),.bool f0,.bool f1],Rw 23 1 (.slice (some ⟨gw,0,none⟩) aH.length cw) aH.length (aH.map ptr),pos bs zs] (fun x:Bool=>.bool x) (fun x=>[Bk bw 142 [ptr bs,.slice (some ⟨gw,0,none⟩) aH.length cw,.int .u64 now,.int .u64 drawn,.slice sa sn sc,.slice none 0 0,.map (some bk),.bool f0,.bool f1],Rw 23 1 (.slice (some ⟨gw,0,none⟩) aH.length cw) aH.length (aH.map ptr),pos bs zs]) (fun x=>True):=by
 refine Fg Tryz.func48 Tryz.ntmps48 fun W0 R=>?_;refine Au ?_;refine GC.lp (σ:=Nat) (fun s=>[(11,.int .i64 (s:Int)),(10,.int .i64 (m:Int)),(0,ptr bw),(1,.int .i64 (m:Int))]) (fun s=>Bk bw 142 [ptr bs,.slice (some ⟨gw,0,none⟩) aH.length cw,.int .u64 now,.int .u64 drawn,.slice sa sn sc,.slice none 0 0,.map (some bk),.bool f0,.bool f1]::Rw 23 1 (.slice (some ⟨gw,0,none⟩) aH.length cw) aH.length (aH.map ptr)::pos bs zs::R) (fun s=>s≤m) (fun s=>m - s) 0 (.c rfl (.c rfl (.c rfl (.c rfl .n)))) .refl (Nat.zero_le _) (fun s hs=>?_);obtain ⟨j,hj⟩:∃ j,j=s:=⟨_,rfl⟩;subst hj;have hj9:=hs;refine Au ?_;refine GC.cond rfl (fun c12=>?_) (fun c12=>?_)
 ·simp only [decide_eq_true_eq] at c12;refine Au ?_;refine GC.lp (σ:=Nat) (fun s=>[(15,.int .i64 (s:Int)),(14,.int .i64 (m:Int)),(5,.int .i64 (j:Int)),(11,.int .i64 (j:Int)),(10,.int .i64 (m:Int)),(0,ptr bw),(1,.int .i64 (m:Int))]) (fun s=>Bk bw 142 [ptr bs,.slice (some ⟨gw,0,none⟩) aH.length cw,.int .u64 now,.int .u64 drawn,.slice sa sn sc,.slice none 0 0,.map (some bk),.bool f0,.bool f1]::Rw 23 1 (.slice (some ⟨gw,0,none⟩) aH.length cw) aH.length (aH.map ptr)::pos bs zs::R) (fun s=>s≤m) (fun s=>m - s) 0 (.c rfl (.c rfl (.c rfl (.c rfl (.c rfl (.c rfl (.c rfl .n))))))) .refl (Nat.zero_le _) (fun s hs=>?_);refine Au ?_;refine GC.cond rfl (fun c16=>?_) (fun c16=>?_)
  ·simp only [decide_eq_true_eq] at c16;refine Au ?_;refine Kx (DJ _ _ _ _ _ _ _ _ _ _ _ _ _ _ hb hq hn _ _) (.cons .p0 (.cons .p0 (.cons .p0 .nil))) fun zd _=>?_;refine Au ?_;refine GL.case 28 rfl (fun SN=>?_) (fun SN=>?_)
   ·refine Au ?_;refine GC.aQ rfl rfl ?_;exact XJ
   refine Au ?_;refine GL.case 32 rfl (fun g32=>?_) (fun g32=>?_)
   ·refine Au ?_;refine GC.aQ rfl rfl ?_;exact XJ
   refine Au ?_;refine GL.case 36 rfl (fun g36=>?_) (fun g36=>?_)
   ·refine Au ?_;refine GC.aQ rfl rfl ?_;exact XJ
   refine Au ?_;refine K.x (EC.direct eN rfl) (DE _ _ _ _ _ _ _ _ _ _ _ _ _ _ hb hq hn _ _) (.cons .p0 (.cons .p0 (.cons .p0 .nil))) (fun _=>.a3) rfl rfl (.guard rfl rfl rfl rfl g36) (fun _ _=>?_);refine Au ?_;refine GC.cond rfl (fun c43=>?_) (fun c43=>?_)
   ·exact XJ
   refine Au ?_;refine La ?_;refine Au ?_;exact GE.ag (s + 1) (.c (by rw [← Int.natCast_succ]; rfl) (.c rfl (.c rfl (.c rfl (.c rfl (.c rfl (.c rfl .n))))))) .refl (by omega) (by omega)
  refine Au ?_;refine La ?_;refine Au ?_;exact GE.ag (j + 1) (.c (by rw [← Int.natCast_succ]; rfl) (.c rfl (.c rfl (.c rfl .n)))) .refl (by omega) (by omega)
 exact XJ
end
section
open EV (aC)
theorem XD:Many Tryz.prog 56 4:=Many.of Tryz.underlying56 rfl (by kernel_rfl)
theorem OS (bw bs gw cw bk:Nat) (aH:List Nat) (sa:Option Addr) (sc:Nat) (sent:List Pk) (now drawn:Int) (f0 f1:Bool) (zs:List Po) (l:List Tm) (aD:List (Int × Value)) (A:Int→Prop) (k:Nat) (hk:k≤60) (hI:cL A k aH ⟨sa,sc,sent,now,drawn,f0,f1,zs,l,aD⟩) :
  bQ Tryz.prog 19 [ptr bw] [Bk bw 142 [ptr bs,.slice (some ⟨gw,0,none⟩) aH.length cw,.int .u64 now,.int .u64 drawn,.slice sa sent.length sc,.slice none 0 0,.map (some bk),.bool f0,.bool f1],Rw 23 1 (.slice (some ⟨gw,0,none⟩) aH.length cw) aH.length (aH.map ptr),pos bs zs,St bs l 65536,Rw 291 3 (.slice sa sent.length sc) sent.length (hP sent),Mp (aC .i64) bk aD] (fun x:Bool=>.agg #[.bool true,.bool true,.bool true,.bool x]) (fun x=>[Bk bw 142 [ptr bs,.slice (some ⟨gw,0,none⟩) aH.length cw,.int .u64 now,.int .u64 drawn,.slice sa sent.length sc,.slice none 0 0,.map (some bk),.bool f0,.bool f1],Rw 23 1 (.slice (some ⟨gw,0,none⟩) aH.length cw) aH.length (aH.map ptr),pos bs zs,St bs l 65536,Rw 291 3 (.slice sa sent.length sc) sent.length (hP sent),Mp (aC .i64) bk aD]) (fun x=>True):=by
 refine Fg Tryz.func19 Tryz.ntmps19 fun W0 R=>?_;have hn:=hI.n2;refine Au ?_;refine Ef (EF.alloc aL) fun b2 _=>?_;refine Au ?_;refine GC.lp (σ:=Nat) (fun s=>[(3,.int .i64 (s:Int)),(0,ptr bw),(2,ptr b2)]) (fun s=>Bk bw 142 [ptr bs,.slice (some ⟨gw,0,none⟩) aH.length cw,.int .u64 now,.int .u64 drawn,.slice sa sent.length sc,.slice none 0 0,.map (some bk),.bool f0,.bool f1]::Rw 23 1 (.slice (some ⟨gw,0,none⟩) aH.length cw) aH.length (aH.map ptr)::pos bs zs::St bs l 65536::Rw 291 3 (.slice sa sent.length sc) sent.length (hP sent)::Mp (aC .i64) bk aD::Bk b2 56 [.bool false,.bool false,.bool false,.bool false]::R) (fun s=>s≤aH.length) (fun s=>aH.length - s) 0 (.c rfl (.c rfl (.c rfl .n))) (.t1 (.t1 (.t1 (.t1 (.t1 (.t1 .refl)))))) (Nat.zero_le _) (fun s hs=>?_);refine Au ?_;refine GL.case 7 rfl (fun g7=>?_) (fun g7=>?_)
 ·refine Au ?_;refine K.x (EC.direct eN rfl) (DI _ _ _ _ _ _ _ _ _ _ _ _ _ _ hI.bp hI.hq hI.n2.2 _) (.cons .p0 (.cons .p0 (.cons .p0 .nil))) (fun _=>.a4) rfl rfl (.guard rfl rfl rfl rfl g7) (fun zk B6=>?_);obtain ⟨kv,ks⟩:=zk;dsimp only at B6;obtain ⟨⟨ka,kc,rfl⟩,h3,h4,h5⟩:=B6;refine Au ?_;refine GC.cond rfl (fun c13=>?_) (fun c13=>?_)
  ·have hlen:0 < ks.length:=by simpa using c13
   have hh:=h4.1 hlen;refine Au ?_;refine La ?_;refine Au ?_;exact GE.ag (s + 1) (.c (by rw [← Int.natCast_succ]; rfl) (.c rfl (.c rfl .n))) (.t1 (.t1 (.t1 (.t1 (.t1 (.t1 (.t1 (.d .refl)))))))) (by omega) (by omega)
  refine Au ?_;refine Kx (mL _ _ _ _ _ _ _ _ _ _ _ _ _ ) (.one .p1) fun _ _=>?_;refine Au ?_;refine Kx (vL _ _ _ _ _ _ _ _ _ _ _ _ _ _ _ _ _ _ hk hI _ hs) (.cons .p0 (.cons .p1 (.cons .p1 (.cons .p1 (.cons .p1 (.cons .p1 .nil)))))) fun _ _=>?_;refine Au ?_;refine Ky (xO) fun _ _=>?_;refine Au ?_;refine Ky (AG) fun _ _=>?_;refine Au ?_;refine Kw (.direct eN rfl) (tL _ _ _ _ _ _ _ _ _ _ _ _ _ _ hI.bp hI.hq hI.n2.2 _ (by omega)) (.cons .p0 (.cons .p0 (.cons .p0 .nil))) fun zb _=>?_;refine Au ?_;refine GE.tO rfl (.fV rfl .p7 XD rfl) (fun w h=>?_);exact ⟨_,trivial,rfl,h.part (.t0 (.t0 (.t0 (.t0 (.t0 (.t0 (.d (.d .refl))))))))⟩
 refine Au ?_;refine GC.bH rfl rfl ?_;refine Au ?_;refine Kx (mL _ _ _ _ _ _ _ _ _ _ _ _ _ ) (.one .p0) fun _ _=>?_;refine Au ?_;refine Kx (vL _ _ _ _ _ _ _ _ _ _ _ _ _ _ _ _ _ _ hk hI _ hs) (.cons .p0 (.cons .p0 (.cons .p0 (.cons .p0 (.cons .p0 (.cons .p0 .nil)))))) fun _ _=>?_;refine Au ?_;refine Ky (xO) fun _ _=>?_;refine Au ?_;refine Ky (AG) fun _ _=>?_;refine Au ?_;refine Kw (.direct eN rfl) (tL _ _ _ _ _ _ _ _ _ _ _ _ _ _ hI.bp hI.hq hI.n2.2 _ (by omega)) (.cons .p0 (.cons .p0 (.cons .p0 .nil))) fun zb _=>?_;refine Au ?_;refine GE.tO rfl (.fV rfl .p6 XD rfl) (fun w h=>?_);exact ⟨_,trivial,rfl,h.part (.t0 (.t0 (.t0 (.t0 (.t0 (.t0 (.d .refl)))))))⟩
end
section
open EV (aC)
def tC {α:Type} (P:Program) (W0:World) (f:FuncId) (args:List Value) (M:List aA) (v:α→Value) (M':α→List aA) (C:α→Prop):Prop :=
 ∀ (W:World) (R:List aA),aB W0 W (M++R)→Calls P f args.toArray W fun e w'=>∃ x,C x∧e=.returned (v x)∧aB W0 w' (M' x++R)
section
variable {P:Program} {W0:World} {N:Nat} {ds:List Deferred} {ops:Array Oper} {Q:Exit→Act→World→Prop} {kn:Kn} {L R:List aA} {r:List Oper}
theorem tC.go {α:Type} {f:FuncId} {fn:Func} {c:Code} {args:List Value} {M:List aA} {v:α→Value} {M':α→List aA} {C:α→Prop} (hf:P.funcs[f]?=some fn) (hb:fn.body=some c) (hn:fn.ntmps=N) (hN:Nat.ble args.length N=true)
  (h:∀ R,GC P W0 N [] c (bodyPost P fn (fun e w'=>∃ x,C x∧e=.returned (v x)∧aB W0 w' (M' x++R))) (iQ 0 args) (M++R)):tC P W0 f args M v M' C:=by
 intro W R hs;refine calls_of_wp hf hb ?_;subst hn;exact h R _ _ (fF args (Nat.le_of_ble_eq_true hN)) hs
theorem K.xa {α:Type} {o:Oper} {f:FuncId} {args:List Value} {M:List aA} {v:α→Value} {M':α→List aA} {C:α→Prop} {L3:α→List aA} {d:Nat} (hx:EC P kn o f args) (hc:tC P W0 f args M v M' C) (hp:eC L M R) (ha:∀ x,App (M' x) R (L3 x)) (hd:o.dst=some d)
  (hN:Nat.blt d N=true) (hon:On ops kn o) (h:∀ x,C x→GL P W0 N ds ops Q r ((d,v x)::kn) (L3 x)):GL P W0 N ds ops Q (o::r) kn L:=by
 intro a w ha' hs;simp only [nP,hon N ds a ha',if_true];refine .inl ?_;simp only [Oper.wp,hx a.eval w ha'.ev,Oper.upon];refine (hc w R (hs.picks hp)).mono ?_;rintro e w' ⟨x,hcx,rfl,h'⟩;show nP P ops Q r (a.put o.dst (v x)) w';rw [hd]; exact h x hcx _ _ (ha'.put d _ hN) ((ha x).eq ▸ h')
theorem EF.uB {W0:World} {kn:Kn} {L:List aA} {d g T ty pos af e size zero} (hb:BS P T e size zero) :
  EF P W0 kn L ⟨d,.buildSlice T 0 #[],ty,pos,af,g⟩ (fun b:Nat=>.slice (some ⟨b,0,none⟩) 0 0) (fun b=>Bk b e []::L) (fun _=>True):=fun ρ w he hs=>by
 obtain ⟨hu,hi,hl,h0⟩:=hb;obtain ⟨inf,CE⟩:∃ inf,P.info? e=some inf:=by
  cases h:P.info? e with
  | none=>simp [h] at hi
  | some i=>exact ⟨i,rfl⟩
 refine ⟨w.heap.size,w.alloc (.cells #[] e),trivial,?_,hs.wD e []⟩;have hlim:¬ (0 > 2 ^ 24):=by decide
 have h0:Array.range 0=#[]:=rfl;have hf:Instr.fill (fun i=>some (i * inf.size,inf.size)) #[] []=some #[]:=rfl;simp only [execOp,Sem.run_bind,Instr.buildSlice,underlying,run_program,hu,Result.andThen_ok,Sem.run_pure,sizeOf,typeInfo,CE,Nat.zero_mul,newRow,run_newObj,hlim,if_false,if_true,h0,Array.map_empty,Array.toList_empty,hf];rfl
theorem EX.aPx {d g t' x ty ps af b k m} {cs:List Value} (hx:ev kn x=some (.pointer (some ⟨b,k,none⟩))) (h1:Many P t' m) (hl:cs.length=m) (hb:b < W0.heap.size) (hc:∀ j,j < m→W0.cell? ⟨b,k + j,none⟩=cs[j]?) :
  EX P W0 kn L ⟨d,.load t' x,ty,ps,af,g⟩ (.agg cs.toArray):=fun ρ w he hs=>by
 have hr:(loadCells ⟨b,k,none⟩ m).run P w=.ok cs.toArray w:=by
  rw [← hl]; refine gL fun j hj=>?_;rw [dI];have hj':j < m:=by omega
  have h3:cs[j]?=some cs[j]:=List.getElem?_eq_getElem hj;have h4:=hs.below.cell (p:=⟨b,k + j,none⟩) hb;rw [h4,hc j hj',h3]
 simp only [execOp,he x _ hx,Sem.run_bind,Instr.loadAt,Instr.sureAddr,loadVar,(h1 w).1,(h1 w).2,Result.andThen_ok,Sem.run_pure,if_true,hr]
end
structure Ac where
 kd:Int
 a:Int
 b:Int
 c:Int
 d:Int
 n:Int
 s:ByteArray
def acc (x:Ac):List Value:=[.int .i64 x.kd,.int .i64 x.a,.int .i64 x.b,.int .i64 x.c,.int .i64 x.d,.int .u64 x.n,.string x.s]
def mJ (l:List Ac):List Value:=l.flatMap acc
theorem ZZ (l:List Ac) (p:Ac):mJ (l++[p])=mJ l++acc p:=by simp [mJ]
theorem A0 {l:List Ac} {k:Nat} (hk:k < l.length):∀ j,j < 7→(mJ l)[k * 7 + j]?=(acc l[k])[j]?:=by
 intro j hj;induction l generalizing k with
 | nil=>simp at hk
 | cons x l ih =>
  have e:mJ (x::l)=acc x++mJ l:=rfl;have h6:(acc x).length=7:=rfl;rw [e];cases k with
  | zero=>rw [List.getElem?_append_left (by omega),Nat.zero_mul,Nat.zero_add]; rfl
  | succ k =>
   rw [List.getElem?_append_right (by omega),h6,show (k + 1) * 7 + j - 7=k * 7 + j by omega];exact ih (by simpa using hk)
def A4 (W0:World) (la:Option Addr) (n:Nat):Prop:=n≤9223372036854775807∧∀ i,i < n→∃ (b o:Nat) (x:Ac),la=some ⟨b,o,none⟩∧b < W0.heap.size∧0≤x.n∧∀ j,j < 7→W0.cell? ⟨b,o + i * 7 + j,none⟩=(acc x)[j]?
def OkA (x:Ac):Prop:=x.kd≠8∧0≤x.n∧x.s.size≤60
section
variable {W0 w:World} {L:List aA} {v:Value} {l:List Ac} {x:Ac} {kd a b c d n:Int} {s:ByteArray}
theorem NZ (h:aB W0 w (Rw 47 7 v (l.length + 1) (mJ l++[.int .i64 kd,.int .i64 a,.int .i64 b,.int .i64 c,.int .i64 d,.int .u64 n,.string s])::L)):aB W0 w (Rw 47 7 v (l++[(⟨kd,a,b,c,d,n,s⟩:Ac)]).length (mJ (l++[(⟨kd,a,b,c,d,n,s⟩:Ac)]))::L):=by
 rw [List.length_append,ZZ]; exact h
end
end
section
open EV (aC)
theorem aI2 {p:Prop} (h:p:=by
  refine Au ?_;refine Ef (EF.buildSlice rfl bS rfl rfl rfl) fun b42 _=>?_;refine Ef (EF.append rfl rfl NV (fun v=>.there (.there (.here))) .p0 (rfl) (rfl) (by dsimp only; unfold maxLen; omega) (by dsimp only; omega)) fun v43 aRy=>?_;obtain ⟨aS0,aSm,rfl⟩:=aRy;refine GL.turn (fun w h=>h.part (.t2 .refl)) ?_;refine GL.turn (fun w h=>NZ h) ?_;refine Au ?_;refine La ?_;refine Au ?_;exact GE.ag ((k + 1,.slice aS0 (ac.length + 1) aSm,ac++[⟨x.kd,x.a,x.b,x.c,x.d,x.n,x.s.extract 0 h9⟩]):Nat × Value × List Ac) (.c (by rw [← Int.natCast_succ]; rfl) (.c rfl (.c rfl (.c rfl (.c rfl .n))))) (.t0 (.d (.d .refl))) (by dsimp only; omega) ((by refine ⟨by dsimp only; omega,by dsimp only; omega,⟨_,_,by rw [List.length_append]; rfl⟩,by rw [List.length_append]; dsimp only [List.length]; omega,fun y hy=>?_⟩; rcases List.mem_append.1 hy with h | h; exact hok y h; rw [List.mem_singleton.1 h]; exact ⟨(by first | exact h8 | simpa using g37),hxn,by dsimp only; rw [ByteArray.size_extract]; omega⟩))):p:=h
theorem aI1 {p:Prop} (h:p:=by
  refine Au ?_;refine Go fun w h=>?_;exact ⟨(_,ac),⟨⟨_,_,rfl⟩,by dsimp only; omega,hok⟩,rfl,h.part .refl⟩):p:=h
theorem C8 (W0:World) (la:Option Addr) (n lc:Nat) (hold:A4 W0 la n) :
  tC Tryz.prog W0 14 [.slice la n lc,.int .i64 18,.bool false] [] (fun x:Value × List Ac=>x.1) (fun x=>[Rw 47 7 x.1 x.2.length (mJ x.2)]) (fun x=>Sl x.2.length x.1∧x.2.length≤18∧∀ y∈x.2,OkA y):=by
 refine tC.go Tryz.func14 rfl Tryz.ntmps14 rfl (fun R=>?_);refine GC.app .a0 ?_;have hn9:=hold.1;refine Au ?_;refine Ef (EF.uB bS) fun b10 _=>?_;refine Lu rfl (EX.assign rfl) ?_;refine Zn (Zs (Zt ?_));refine Lu rfl (EX.assign rfl) ?_;refine Zn (GC.block ?_);refine GC.turn (fun w h=>(show aB W0 w (Rw 47 7 (.slice (some ⟨b10,0,none⟩) 0 0) ([]:List Ac).length (mJ [])::_) from aB.uC (s:=7) (n:=0) (h.part .refl) rfl (by unfold maxLen; omega))) ?_;refine GC.lp (σ:=Nat × Value × List Ac) (fun s=>[(8,.int .i64 (s.1:Int)),(7,s.2.1),(0,.slice la n lc),(1,.int .i64 18),(2,.bool false)]) (fun s=>Rw 47 7 s.2.1 s.2.2.length (mJ s.2.2)::R) (fun s=>s.1≤n∧s.1≤18∧Sl s.2.2.length s.2.1∧s.2.2.length≤s.1∧∀ y∈s.2.2,OkA y) (fun s=>n - s.1) (0,.slice (some ⟨b10,0,none⟩) 0 0,[]) (.c rfl (.c rfl (.c rfl (.c rfl (.c rfl .n))))) .refl (⟨Nat.zero_le _,Nat.zero_le _,⟨_,_,rfl⟩,Nat.le_refl _,fun y hy=>(by cases hy)⟩) (fun s hs=>?_);obtain ⟨k,va,ac⟩:=s;dsimp only at hs;obtain ⟨hk,aTk,⟨aa,ac9,rfl⟩,hal,hok⟩:=hs;refine Au ?_;refine GL.case 15 rfl (fun g15=>?_) (fun g15=>?_)
 ·refine Au ?_;refine GC.cond rfl (fun c19=>?_) (fun c19=>?_)
  ·have hkn:k < n∧k < 18:=(by simp only [decide_eq_true_eq] at *; omega);obtain ⟨ob,oo,x,rfl,hob,hxn,hoc⟩:=hold.2 k hkn.1;obtain ⟨h9,hh9⟩:∃ h:Nat,(if (60:Int) < (x.s.size:Int) then 60 else (x.s.size:Int))=(h:Int):=⟨min x.s.size 60,by split <;> omega⟩;have hh8:h9≤60∧h9≤x.s.size:=(by split at hh9 <;> omega);refine Au ?_;refine Lu rfl (EX.indexAddr (a:=oo + k * 7) rfl rfl sL (by omega) (by simp)) ?_;refine Lu rfl (EX.aPx (cs:=acc x) rfl mN rfl hob hoc) ?_;refine Ef (EF.alloc aL) fun b9 _=>?_;refine Au ?_;refine Lu rfl (EV.EX.min2 rfl rfl hh9) ?_;refine Lu rfl (EX.BB (l:=0) (h:=h9) rfl uN (.inl ⟨rfl,rfl⟩) (.inr ⟨_,_,_,rfl,rfl,rfl⟩) (by omega) (by omega)) ?_;refine Au ?_;refine GL.case 37 rfl (fun g37=>?_) (fun g37=>?_)
   ·refine Au ?_;refine GC.aQ rfl rfl ?_;exact aI2
   refine Au ?_;refine GC.cond rfl (fun V6=>?_) (fun V6=>?_)
   ·have h8:x.kd≠8:=by simp_all
    exact aI2
   refine Au ?_;refine La ?_;refine Au ?_;exact GE.ag ((k + 1,.slice aa ac.length ac9,ac):Nat × Value × List Ac) (.c (by rw [← Int.natCast_succ]; rfl) (.c rfl (.c rfl (.c rfl (.c rfl .n))))) (.t1 (.d .refl)) (by dsimp only; omega) ((by refine ⟨by dsimp only; omega,by dsimp only; omega,⟨_,_,rfl⟩,by dsimp only; omega,hok⟩))
  exact aI1
 refine Au ?_;refine GC.bH rfl rfl ?_;exact aI1
end
section
open EV (aC)
theorem and1 {n:Int}:∃ j:Nat,j≤1∧IntKind.i64.wrap ((BitVec.ofInt IntKind.i64.bits n &&& BitVec.ofInt IntKind.i64.bits 1).toNat:Int)=(j:Int):=by
 have h:(BitVec.ofInt IntKind.i64.bits n &&& BitVec.ofInt IntKind.i64.bits 1).toNat≤1:=by
  rw [BitVec.toNat_and];exact Nat.and_le_right
 refine ⟨_,h,?_⟩;rw [wi (by omega)]
theorem EX.OR {W0 kn L d g x y ty ps af b} {m:Nat} (hx:ev kn x=some (.slice (some ⟨b,0,none⟩) 3 3)) (hy:ev kn y=some (.int .i64 (m:Int))) (hm:m≤3):EX Tryz.prog W0 kn L ⟨d,.slice 26 x none (some y) none,ty,ps,af,g⟩ (.slice (some ⟨b,0,none⟩) m 3):=fun ρ w he hs=>by
 obtain ⟨i,hi⟩:∃ i,Tryz.prog.info? 9=some i:=⟨_,rfl⟩;simp only [execOp,he x _ hx,Option.map_none,Option.map_some,he y _ hy,Sem.run_bind,Instr.sliceAt,Instr.slice,underlying,run_program,Result.andThen_ok,Tryz.underlying26,Sem.run_pure,Instr.sliceBounds,Instr.sliceBound,asIntOf,sizeOf,typeInfo,hi];have hm2:(m:Int)≤3:=by omega
 simp [hm2,Addr.add]
theorem HN (n:Int) :
  bQ Tryz.prog 38 [.int .i64 n] [] (fun x:Nat × Nat=>.slice (some ⟨x.1,0,none⟩) (2 + x.2) 3) (fun x=>[Bk x.1 9 [.string ⟨#[3,2]⟩,.string ⟨#[3,2,1]⟩,.string ⟨#[2,1]⟩]]) (fun x=>x.2≤1):=by
 refine Fg Tryz.func38 Tryz.ntmps38 fun W0 R=>?_;refine Au ?_;refine Ef (EF.buildSlice rfl bS rfl rfl rfl) fun b3 _=>?_;refine Au ?_;obtain ⟨j,hj,hje⟩:=and1 (n:=n);refine Lu rfl (EX.and rfl rfl hje) ?_;refine La ?_;refine Lu rfl (EX.OR (m:=2 + j) rfl (by rw [Int.natCast_add]; rfl) (by omega)) ?_;refine Au ?_;refine Go fun w h=>?_;exact ⟨(b3,j),hj,rfl,h.part .refl⟩
end
end Go.Proofs.YtadggjnohohedaaGreatDoor
namespace Go.Proofs.YtadggjnohohedaaGreatDoor
namespace EV
noncomputable section
def biA:T BI:=T.put aCh (some qG) (T.put aCg (some qT) (T.put p74 (some qM) (T.put p69 (some NK) biS)))
theorem aF4 {W0:World} (hF:eT.Ok Tryz.prog W0) (bU:Tryz.prog.follows .mixedOrders=true):qZ (fun p b=>qY Tryz.prog W0 (p.nat - 1) b) biA :=
 cU aCh _ _ _ (cU aCg _ _ _ (cU p74 _ _ _ (cU p69 _ _ _ (ZT hF bU) ZK) (FV hF bU)) (GQ hF bU)) FF
theorem oC {W0:World} (hF:eT.Ok Tryz.prog W0) (bU:Tryz.prog.follows .mixedOrders=true) (n:Nat):pE Tryz.prog W0 (yC biA n):=oB (aF4 hF bU) YR hF bU FZ n
theorem RN:Y2 (yC biA 100 nR [] .e p1)=some (.b true):=by kernel_rfl
theorem OZ {r:RF} {v:SV} (h:Y2 r=some v):∃ me nx,r=.ret v me nx:=by
 cases r with
 | no=>cases h
 | dL e me nx=>cases h
 | ret u me nx=>exact ⟨me,nx,by rw [show u=v from Option.some.inj h]⟩
def g00:G:=⟨fun _=>none,0,0,by decide,by decide⟩
theorem FP {W0 W:World} {L:List aA} (hF:eT.Ok Tryz.prog W0) (bU:Tryz.prog.follows .mixedOrders=true) (hs:aB W0 W L):Calls Tryz.prog 13 #[] W fun e w'=>e=.returned (.bool true)∧aB W0 w' L:=by
 obtain ⟨me,nx,hr⟩:=OZ RN;refine ((oC hF bU 100).1 nR [] .e p1 _ _ _ hr W L g00 [] (fun _ _=>rfl) rfl hs).mono ?_;rintro e w' ⟨g',x,rfl,k1,k2,k3,k4,k5⟩;have:x=.bool true:=(Option.some.inj (show some (Value.bool true)=some x from k4)).symm;subst this;exact ⟨rfl,wZ k5⟩
end
noncomputable section
def ZC (x y:SV):Bool:=match x,y with
 | .f p us cs,.f q vs ds=>and (Nat.beq p.nat q.nat) (and (allA us vs) (allA cs ds))
 | x,y=>eqA x y
def all1 (l m:List SV):Bool :=
 List.rec (motive:=fun _=>List SV→Bool) (fun m=>List.rec true (fun _ _ _=>false) m) (fun x _ ih m=>List.rec false (fun y r _=>and (ZC x y) (ih r)) m) l m
def JU (x y:SV):Bool:=match x,y with
 | .a l,.a m=>all1 l m
 | x,y=>ZC x y
def aGf (l m:List (Int × SV)):Bool :=
 List.rec (motive:=fun _=>List (Int × SV)→Bool) (fun m=>List.rec true (fun _ _ _=>false) m) (fun x _ ih m=>List.rec false (fun y r _=>and (and (ieq x.1 y.1) (JU x.2 y.2)) (ih r)) m) l m
def aFd (x y:Ob):Bool:=match x,y with
 | .c t cs,.c u ds=>and (Nat.beq t u) (all1 cs ds)
 | .r t z cs,.r u y ds=>and (Nat.beq t u) (and (Nat.beq z y) (all1 cs ds))
 | .ro t cs,.ro u ds=>and (Nat.beq t u) (all1 cs ds)
 | .m k aD,.m j lvs=>and (kN k j) (aGf aD lvs)
 | _,_=>false
theorem NG:∀ x y,ZC x y=true→x=y:=by
 intro x y h;unfold ZC at h;split at h
 ·simp only [Bool.and_eq_true] at h;rw [eE (Nat.eq_of_beq_eq_true h.1),jD lB h.2.1,jD lB h.2.2]
 exact lB _ _ h
theorem qV:∀ {l m:List SV},all1 l m=true→l=m
 | [],[],_=>rfl
 | x::l,y::m,h=>by
  have h':(and (ZC x y) (all1 l m))=true:=h;simp only [Bool.and_eq_true] at h';rw [NG x y h'.1,qV h'.2]
 | [],_::_,h=>by cases h
 | _::_,[],h=>by cases h
theorem NF:∀ x y,JU x y=true→x=y:=by
 intro x y h;unfold JU at h;split at h
 ·rw [qV h]
 exact NG _ _ h
theorem NY:∀ {l m:List (Int × SV)},aGf l m=true→l=m
 | [],[],_=>rfl
 | (a,x)::l,(b,y)::m,h=>by
  have h':(and (and (ieq a b) (JU x y)) (aGf l m))=true:=h;simp only [Bool.and_eq_true] at h';rw [YE h'.1.1,NF x y h'.1.2,NY h'.2]
 | [],_::_,h=>by cases h
 | _::_,[],h=>by cases h
theorem U3:∀ x y,aFd x y=true→x=y:=by
 intro x y h;unfold aFd at h;split at h
 ·simp only [Bool.and_eq_true] at h; rw [Nat.eq_of_beq_eq_true h.1,qV h.2]
 ·simp only [Bool.and_eq_true] at h; rw [Nat.eq_of_beq_eq_true h.1,Nat.eq_of_beq_eq_true h.2.1,qV h.2.2]
 ·simp only [Bool.and_eq_true] at h; rw [Nat.eq_of_beq_eq_true h.1,qV h.2]
 ·simp only [Bool.and_eq_true] at h; rw [dO h.1,NY h.2]
 cases h
theorem fK.less {F':Option (List Nat)} {Fc:List Nat} (hF:F'=none∨F'=some Fc):∀ {rev:List Nat} {l:List Tm},fK F' rev l→fK (some Fc) rev l
 | _,_,.nil=>.nil
 | _,_,.known h hs=>.known h (fK.less hF hs)
 | _,_,.junk (L:=L) e h hs=>by
  rcases hF with rfl | rfl
  ·cases e
  injection e with e; subst e; exact .junk rfl h (fK.less (.inr rfl) hs)
section
variable {W0 W w':World} {R:List aA} {g g':G} {me me':T Ob} {nx:Pos}
end
end
noncomputable section
section
variable {g g':G}
end
def gw (g:G):G:=⟨fun _=>none,g.w,g.n,g.hw,g.hn⟩
section
variable {W0:World}
def eqV (x y:SV):Bool:=match x,y with
 | .w k a b,.w j c d=>and (kN k j) (and (Nat.beq a c) (Nat.beq b d))
 | x,y=>JU x y
def aFa (l m:List SV):Bool :=
 List.rec (motive:=fun _=>List SV→Bool) (fun m=>List.rec true (fun _ _ _=>false) m) (fun x _ ih m=>List.rec false (fun y r _=>and (eqV x y) (ih r)) m) l m
def U4 (l m:List Nat):Bool :=
 List.rec (motive:=fun _=>List Nat→Bool) (fun m=>List.rec true (fun _ _ _=>false) m) (fun x _ ih m=>List.rec false (fun y r _=>and (Nat.beq x y) (ih r)) m) l m
def eqF (x y:Option (List Nat)):Bool:=match x,y with
 | none,none=>true
 | some l,some m=>U4 l m
 | _,_=>false
def aFc (x y:Ob):Bool:=match x,y with
 | .st n l m F,.st n' l' m' F'=>and (and (Nat.beq n n') (Nat.beq m m')) (and (U4 l l') (eqF F F'))
 | x,y=>aFd x y
def U2 (x y:Option Ob):Bool:=match x,y with
 | none,none=>true
 | some a,some b=>aFc a b
 | _,_=>false
theorem aFb:∀ x y,eqV x y=true→x=y:=by
 intro x y h;unfold eqV at h;split at h
 ·simp only [Bool.and_eq_true] at h;rw [dO h.1,Nat.eq_of_beq_eq_true h.2.1,Nat.eq_of_beq_eq_true h.2.2]
 exact NF _ _ h
theorem NE:∀ {l m:List SV},aFa l m=true→l=m
 | [],[],_=>rfl
 | x::l,y::m,h=>by
  have h':(and (eqV x y) (aFa l m))=true:=h;simp only [Bool.and_eq_true] at h';rw [aFb x y h'.1,NE h'.2]
 | [],_::_,h=>by cases h
 | _::_,[],h=>by cases h
theorem CJ:∀ {l m:List Nat},U4 l m=true→l=m
 | [],[],_=>rfl
 | x::l,y::m,h=>by
  have h':(and (Nat.beq x y) (U4 l m))=true:=h;simp only [Bool.and_eq_true] at h';rw [Nat.eq_of_beq_eq_true h'.1,CJ h'.2]
 | [],_::_,h=>by cases h
 | _::_,[],h=>by cases h
theorem U0:∀ x y,aFc x y=true→x=y:=by
 intro x y h;unfold aFc at h;split at h
 ·rename_i n l m F n' l' m' F';simp only [Bool.and_eq_true] at h;obtain ⟨⟨h1,h2⟩,h3,h4⟩:=h;have hF:F=F':=by
   unfold eqF at h4;split at h4
   ·rfl
   ·rw [CJ h4]
   cases h4
  rw [Nat.eq_of_beq_eq_true h1,Nat.eq_of_beq_eq_true h2,CJ h3,hF]
 exact U3 _ _ h
structure Row where
 vs:List SV
 me:T Ob
 nx:Pos
 v:SV
 me':T Ob
 nx':Pos
end
end
noncomputable section
def sO (v v':Option Ob):Bool:=match v with | none=>true | some _=>U2 v v'
def aN4 (t:T Ob):T Ob→Bool :=
 T.rec (motive:=fun _=>T Ob→Bool) (fun _=>true) (fun _ v _ ihl ihr m=>match m with
  | .e=>false
  | .n l' v' r'=>and (sO v v') (and (ihl l') (ihr r'))) t
theorem U1 {x y:Option Ob} (h:U2 x y=true):x=y:=by
 unfold U2 at h;split at h
 ·rfl
 ·rw [U0 _ _ h]
 cases h
theorem T.FX {α:Type} {p:Pos} {t:T α} {x:α} (h:T.get p t=some x):(p,x)∈t.iV:=(T.qO h).mem_iff.2 (by simp)
section
variable {W0 W w':World} {R:List aA} {g g':G} {me:T Ob} {nx:Pos}
theorem BA:∀ (L S:List (Pos × Ob)) (X:List aA),(L.map (·.1)).Nodup→(∀ q∈L,q∈S)→aB W0 w' (S.map (fun q=>OT g q.1 q.2)++X)→aB W0 w' (L.map (fun q=>OT g q.1 q.2)++X)
 | [],S,X,_,_,hs=>wZ hs
 | q::L,S,X,hn,hall,hs=>by
  simp only [List.map_cons,List.nodup_cons] at hn;obtain ⟨s,t,rfl⟩:=List.append_of_mem (hall q (by simp));have h1:aB W0 w' ((s++t).map (fun q=>OT g q.1 q.2)++(OT g q.1 q.2::X)):=by
   refine hs.perm ?_;simp only [List.map_append,List.map_cons,List.append_assoc,List.cons_append];have e:=(List.perm_middle (l₁:=s.map (fun q=>OT g q.1 q.2)++t.map (fun q=>OT g q.1 q.2)) (a:=OT g q.1 q.2) (l₂:=X)).symm;simp only [List.append_assoc] at e;exact List.perm_middle.trans e
  have h2:=BA L (s++t) (OT g q.1 q.2::X) hn.2 (fun p hp=>by
   have:=hall p (List.mem_cons_of_mem _ hp);rcases List.mem_append.1 this with h | h
   ·exact List.mem_append.2 (.inl h)
   rcases List.mem_cons.1 h with rfl | h
   ·exact (hn.1 (List.mem_map.2 ⟨p,hp,rfl⟩)).elim
   exact List.mem_append.2 (.inr h)) h1
  exact h2.perm List.perm_middle
end
def all2 (l m:List SV):Bool :=
 List.rec (motive:=fun _=>List SV→Bool) (fun m=>List.rec true (fun _ _ _=>false) m) (fun x _ ih m=>List.rec false (fun y r _=>and (JU x y) (ih r)) m) l m
def eqR (x y:SV):Bool:=match x,y with
 | .t l,.t m=>all2 l m
 | x,y=>JU x y
def dQ (r:RF) (v:SV) (me':T Ob) (nx':Pos):Bool:=match r with
 | .ret v2 me2 B4=>and (eqR v v2) (and (Nat.ble B4.nat nx'.nat) (aN4 me' me2))
 | _=>false
end
end EV
end Go.Proofs.YtadggjnohohedaaGreatDoor
namespace Go.Proofs.YtadggjnohohedaaGreatDoor
section
section
variable {W0 W:World} {L:List aA} {g:EV.G} {i:EV.Pos}
def pkT:Nat→List aA→Option (aA × List aA)
 | _,[]=>none
 | 0,T::l=>some (T,l)
 | n + 1,U::l=>match pkT n l with
  | some (T,R)=>some (T,U::R)
  | none=>none
theorem UY:∀ {n:Nat} {l:List aA} {T:aA} {R:List aA},pkT n l=some (T,R)→Pick l T R
 | 0,_::_,_,_,h=>by
  simp only [pkT,Option.some.injEq,Prod.mk.injEq] at h;obtain ⟨rfl,rfl⟩:=h;exact .here
 | n + 1,U::l,T,R,h=>by
  simp only [pkT] at h;cases hq:pkT n l with
  | none=>rw [hq] at h; cases h
  | some q =>
   rw [hq] at h;simp only [Option.some.injEq,Prod.mk.injEq] at h;obtain ⟨rfl,rfl⟩:=h;exact .there (UY hq)
theorem Pick.pn (n:Nat) {L R:List aA} {T:aA} (h:pkT n L=some (T,R):=by exact rfl):Pick L T R:=UY h
theorem fY {t:Nat} {cs:List EV.SV} (h:aB W0 W (EV.OT g i (.c t cs)::L)):∃ (b n:Nat) (C:List Value),g.fQ i=some (b,n)∧EV.aF (EV.aE g) cs=some C∧aB W0 W (Bk b t C::L):=by
 obtain ⟨x,h1⟩:=h.aP;have h2:=h1.aS.aN;exact ⟨x.1,x.2.1,x.2.2,h2.1.1,h2.1.2,h2.2⟩
theorem uE {t z:Nat} {cs:List EV.SV} (h:aB W0 W (EV.OT g i (.r t z cs)::L)):∃ (b n:Nat) (C:List Value) (k:Nat),g.fQ i=some (b,n)∧EV.aF (EV.aE g) cs=some C∧C.length=k * z∧aB W0 W (Rw t z (.slice (some ⟨b,0,none⟩) k n) k C::L):=by
 obtain ⟨x,h1⟩:=h.aP;have h2:=h1.aS.aN;exact ⟨x.1,x.2.1,x.2.2.1,x.2.2.2,h2.1.1,h2.1.2,h2.2.TV .here,h2.2⟩
theorem jV {k:IntKind} {aD:List (Int × EV.SV)} (h:aB W0 W (EV.OT g i (.m k aD)::L)):∃ (b n:Nat) (C D:List (Int × Value)),g.fQ i=some (b,n)∧EV.aX g aD=some C∧D.Perm C∧aB W0 W (Mp (EV.aC k) b D::L):=by
 obtain ⟨x,h1⟩:=h.aP;have h2:=h1.aS.aN;exact ⟨x.1,x.2.1,x.2.2.1,x.2.2.2,h2.1.1,h2.1.2.1,h2.1.2.2.1,h2.2⟩
theorem Y6 {n most:Nat} {rev:List Nat} {F:Option (List Nat)} (h:aB W0 W (EV.OT g i (.st n rev most F)::L)):∃ (b m:Nat) (l:List Tm),g.fQ i=some (b,m)∧EV.fK F rev l.reverse∧aB W0 W (St b l most::L):=by
 obtain ⟨x,h1⟩:=h.aP;have h2:=h1.aS.aN;exact ⟨x.1,x.2.1,x.2.2,h2.1.1,h2.1.2.1,h2.2⟩
theorem aIv {t b n:Nat} {cs:List EV.SV} {C:List Value} (hr:g.fQ i=some (b,n)) (hd:EV.aF (EV.aE g) cs=some C) (h:aB W0 W (Bk b t C::L)):aB W0 W (EV.OT g i (.c t cs)::L):=by
 have h1:aB W0 W (Fact (g.fQ i=some (b,n)∧EV.aF (EV.aE g) cs=some C)::Bk b t C::L):=h.bB ⟨hr,hd⟩;exact aB.bR (b,n,C) h1.cB
theorem iX {bp bl:Nat} (h:aB W0 W (Bk bp 241 [.map (some bl),.int .i64 4,.int .i64 4096,.int .i64 0]::Mp (EV.aC .u64) bl []::L)):aB W0 W (Pool bp::L):=by
 have h1:aB W0 W (CX []::Bk bp 241 [.map (some bl),.int .i64 4,.int .i64 4096,.int .i64 0]::Mp (EV.aC .u64) bl []::L):=aB.eX (M:=[]) h;exact iM (ms:=[]) List.nodup_nil (h1.part (.take .p1 (.take .p1 (.take .p0 .refl))))
theorem pS (h:aB W0 W L):aB W0 W (jO []::L):=aB.eX (M:=[]) h
theorem LJ {bs:Nat} (h:aB W0 W L):aB W0 W (pos bs []::L):=aB.eX (M:=[]) h
theorem gX {q:Nat × Nat} {m:List (Nat × Nat)} (h:aB W0 W (Bk q.1 122 (ptr q.2::xW)::Pool q.2::jO m::L)):aB W0 W (jO (q::m)::L):=LG (m1:=[]) h
theorem lV {bs:Nat} {q:Po} {m:List Po} (h:aB W0 W (PoL bs q++(pos bs m::L))):aB W0 W (pos bs (q::m)::L):=iC (m1:=[]) h
end
def CT:List Tm→List Nat→Prop
 | [],[]=>True
 | t::l,c::r=>EV.lL t c∧CT l r
 | _,_=>False
theorem GJ {rev:List Nat} {l:List Tm} (h:EV.fK none rev l):∀ {ts:List Tm},CT ts rev→l=ts:=by
 induction h with
 | nil=>intro ts h; cases ts with
  | nil=>rfl
  | cons t l=>exact h.elim
 | known h _ ih=>intro ts h2; cases ts with
  | nil=>exact h2.elim
  | cons t l=>rw [EV.AI h h2.1,ih h2.2]
 | junk hF _ _=>cases hF
theorem aZ (kind n a b d:Nat) {c:Nat} (h1:kind < 16∧kind≠0∧a < 2097152∧b < 2097152∧d < 2097152∧n < 18446744073709551616) (h2:c=kind + 16 * (a + 2097152 * (b + 2097152 * (d + 2097152 * (n + 18446744073709551616 * (0 + 1024 * 0)))))):EV.lL ⟨kind,⟨#[]⟩,n,a,b,d⟩ c :=
 ⟨kind,0,0,n,a,b,d,rfl,by decide,h1.1,h1.2.1,h1.2.2.1,h1.2.2.2.1,h1.2.2.2.2.1,h1.2.2.2.2.2,by decide,h2⟩
theorem zG {l:List Tm} {d:Int} (h1:∀ t∈l,t.kind≠10∧(t.kind=2→t.n≤d)) (h2:cM l):rA (fun _=>False) l d :=
 ⟨fun x hx hk=>absurd hk (h1 _ (wG hx)).1,fun t ht=>(h1 t ht).2,fun n h=>h.elim,h2⟩
noncomputable def okN (V:List EV.SV) (T:List (EV.Pos × EV.Ob)) (r:EV.RF):Bool:=match r with
 | .ret (.t v) me _=>EV.aFa v V && T.all fun q=>EV.U2 (EV.T.get q.1 me) (some q.2)
 | _=>false
theorem VK {V:List EV.SV} {T:List (EV.Pos × EV.Ob)} {r:EV.RF} (h:okN V T r=true):∃ me nx,r=.ret (.t V) me nx∧∀ q∈T,q∈me.iV:=by
 unfold okN at h;split at h
 ·rename_i v me nx;simp only [Bool.and_eq_true,List.all_eq_true] at h;refine ⟨me,nx,by rw [EV.NE h.1],fun q hq=>EV.T.FX (EV.U1 (h.2 q hq))⟩
 cases h
structure NX where
 bw:Nat
 bs:Nat
 gw:Nat
 cw:Nat
 bk:Nat
 aH:List Nat
 w:WS
end
noncomputable section
open EV
def nL0:List (Pos × Ob):=[(p7,.c 142 [.p p5 0,.sr p76 2,.i .u64 (.ofNat 0),.i .u64 (.ofNat 6),.sn,.sn,.m p6,.b false,.b false]),(p76,.r 23 1 [.p p47 0,.p p69 0]),(p5,.st 10 [69,51,37,19,885443715538058477570,737869762948382064642,590295810358705651714,442721857769029238786,295147905179352825858,147573952589676412930] 65536 none),(p6,.m .i64 [((.ofNat 7),.b true),((.ofNat 8),.b true),((.ofNat 9),.b true),((.ofNat 10),.b true)]),(p47,.c 79 [.p p5 0,.i .i64 (.ofNat 1),.i .i64 (.ofNat 2),.sr p44 1,.s 2 770,.i .i64 (.ofNat 20),.i .u64 (.ofNat 1),.i .u64 (.ofNat 1),.i .u64 (.ofNat 0),.p p42 0,.sr p52 1,.m p45,.m p46]),(p52,.r 123 1 [.p p50 0]),(p44,.r 64 4 [.i .i64 (.ofNat 9),.i .i64 (.ofNat 10),.i .i64 (.ofNat 5),.i .i64 (.ofNat 6)]),(p45,.m .u64 []),(p46,.m .u64 []),(p50,.c 122 [.p p49 0,.i .u64 (.ofNat 0),.i .u64 (.ofNat 0),.i .u64 (.ofNat 0),.i .u64 (.ofNat 0),.i .u64 (.ofNat 0),.i .u64 (.ofNat 0),.i .u64 (.ofNat 0),.i .u64 (.ofNat 0),.i .u64 (.ofNat 0)]),(p49,.c 241 [.m p48,.i .i64 (.ofNat 4),.i .i64 (.ofNat 4096),.i .i64 (.ofNat 0)]),(p48,.m .u64 []),(p42,.c 238 [.pn,.pn,.pn,.pn,.pn,.pn,.pn,.pn,.i .i64 (.ofNat 1)]),(p69,.c 79 [.p p5 0,.i .i64 (.ofNat 3),.i .i64 (.ofNat 4),.sr p66 1,.s 3 197121,.i .i64 (.ofNat 20),.i .u64 (.ofNat 1),.i .u64 (.ofNat 1),.i .u64 (.ofNat 0),.p p64 0,.sr p74 1,.m p67,.m p68]),(p74,.r 123 1 [.p p72 0]),(p66,.r 64 4 [.i .i64 (.ofNat 7),.i .i64 (.ofNat 8),.i .i64 (.ofNat 5),.i .i64 (.ofNat 6)]),(p67,.m .u64 []),(p68,.m .u64 []),(p72,.c 122 [.p p71 0,.i .u64 (.ofNat 0),.i .u64 (.ofNat 0),.i .u64 (.ofNat 0),.i .u64 (.ofNat 0),.i .u64 (.ofNat 0),.i .u64 (.ofNat 0),.i .u64 (.ofNat 0),.i .u64 (.ofNat 0),.i .u64 (.ofNat 0)]),(p71,.c 241 [.m p70,.i .i64 (.ofNat 4),.i .i64 (.ofNat 4096),.i .i64 (.ofNat 0)]),(p70,.m .u64 []),(p64,.c 238 [.pn,.pn,.pn,.pn,.pn,.pn,.pn,.pn,.i .i64 (.ofNat 1)])]
def nM0:T Ob:=.n .e (some (.c 9 [.s 2 770,.s 3 197121,.s 2 513])) .e
theorem nR0:okN ([.p p7 0,.i .i64 (.ofNat 0)]) nL0 (yC biA 100 p38 [.sl p1 0 2 3,.i .i64 (.ofNat 20)] nM0 p2)=true:=by kernel_rfl
def IP:List Tm:=[⟨2,⟨#[]⟩,1,0,0,0⟩,⟨2,⟨#[]⟩,2,0,0,0⟩,⟨2,⟨#[]⟩,3,0,0,0⟩,⟨2,⟨#[]⟩,4,0,0,0⟩,⟨2,⟨#[]⟩,5,0,0,0⟩,⟨2,⟨#[]⟩,6,0,0,0⟩,⟨3,⟨#[]⟩,0,1,0,0⟩,⟨5,⟨#[]⟩,0,2,0,0⟩,⟨3,⟨#[]⟩,0,3,0,0⟩,⟨5,⟨#[]⟩,0,4,0,0⟩]
theorem aAe {p:Prop} (h:p:=by
  simp only [List.mem_cons,List.not_mem_nil,or_false] at hp;rcases hp with rfl <;> exact ⟨sc _ rfl rfl,sc _ rfl rfl⟩):p:=h
theorem nC0 {l:List Tm} (h:fK none [69,51,37,19,885443715538058477570,737869762948382064642,590295810358705651714,442721857769029238786,295147905179352825858,147573952589676412930] l.reverse):l=IP:=by
 have:=GJ h (ts:=IP.reverse) ⟨aZ 5 0 4 0 0 (by decide) (by decide),aZ 3 0 3 0 0 (by decide) (by decide),aZ 5 0 2 0 0 (by decide) (by decide),aZ 3 0 1 0 0 (by decide) (by decide),aZ 2 6 0 0 0 (by decide) (by decide),aZ 2 5 0 0 0 (by decide) (by decide),aZ 2 4 0 0 0 (by decide) (by decide),aZ 2 3 0 0 0 (by decide) (by decide),aZ 2 2 0 0 0 (by decide) (by decide),aZ 2 1 0 0 0 (by decide) (by decide),trivial⟩;rw [← List.reverse_reverse l,this]; rfl
theorem nV0:cM IP:=fun i h=>by
 match i,h with
 | 0,_=>rfl
 | 1,_=>rfl
 | 2,_=>rfl
 | 3,_=>rfl
 | 4,_=>rfl
 | 5,_=>rfl
 | 6,_=>rfl
 | 7,_=>rfl
 | 8,_=>rfl
 | 9,_=>rfl
 | n + 10,h=>exact absurd h (by show ¬ (n + 10 < 10); omega)
theorem nS0:rA (fun _=>False) IP 6:=zG (by
 intro t ht;simp only [IP,List.mem_cons,List.not_mem_nil,or_false] at ht;rcases ht with rfl | rfl | rfl | rfl | rfl | rfl | rfl | rfl | rfl | rfl <;> exact ⟨by decide,by decide⟩) nV0
theorem O2 (W0:World) (hF:eT.Ok Tryz.prog W0) (bU:Tryz.prog.follows .mixedOrders=true) (b:Nat):tC Tryz.prog W0 37 [.slice (some ⟨b,0,none⟩) 2 3,.int .i64 20] [Bk b 9 [.string ⟨#[3,2]⟩,.string ⟨#[3,2,1]⟩,.string ⟨#[2,1]⟩]] (fun x:NX=>.tuple #[ptr x.bw,.int .i64 0]) (fun x=>[Bk x.bw 142 [ptr x.bs,.slice (some ⟨x.gw,0,none⟩) x.aH.length x.cw,.int .u64 x.w.now,.int .u64 x.w.drawn,.slice x.w.sa x.w.sent.length x.w.sc,.slice none 0 0,.map (some x.bk),.bool x.w.f0,.bool x.w.f1],Rw 23 1 (.slice (some ⟨x.gw,0,none⟩) x.aH.length x.cw) x.aH.length (x.aH.map ptr),pos x.bs x.w.zs,St x.bs x.w.l 65536,Rw 291 3 (.slice x.w.sa x.w.sent.length x.w.sc) x.w.sent.length (hP x.w.sent),Mp (aC .i64) x.bk x.w.aD]) (fun x=>cL (fun _=>False) 0 x.aH x.w):=by
 intro W R hs;obtain ⟨me,nx,hr,hall⟩:=VK nR0;have hs0:aB W0 W (mem (g00.set p1 (b,0)) nM0++R):=aIv (b:=b) (n:=0) (G.bL g00 p1 (b,0)) rfl hs;refine ((oC hF bU 100).1 p38 _ _ p2 _ _ _ hr W R (g00.set p1 (b,0)) [.slice (some ⟨b,0,none⟩) 2 3,.int .i64 20] (G.aY (fun _ _=>rfl) (b,0)) rfl hs0).mono ?_;rintro e w ⟨g,x,rfl,k1,k2,k3,k4,k5⟩;have h:=BA (g:=g) nL0 me.iV R (by decide) hall k5;clear k5 hs0 hall hr hs k1 k2 k3;simp only [nL0,List.map_cons,List.map_nil,List.cons_append,List.nil_append] at h;obtain ⟨b7,n7,C7,r7,d7,h⟩:=fY h;replace h:=h.pick .p1;obtain ⟨b76,n76,C76,k76,r76,d76,l76,h⟩:=uE h;replace h:=h.pick .p2;obtain ⟨b5,n5,l5,r5,q5,h⟩:=Y6 h;replace h:=h.pick .p3;obtain ⟨b6,n6,C6,D6,r6,d6,q6,h⟩:=jV h;replace h:=h.pick .p4;obtain ⟨b47,n47,C47,r47,d47,h⟩:=fY h;replace h:=h.pick .p5;obtain ⟨b52,n52,C52,k52,r52,d52,l52,h⟩:=uE h;replace h:=h.pick .p6;obtain ⟨b44,n44,C44,k44,r44,d44,l44,h⟩:=uE h;replace h:=h.pick .p7;obtain ⟨b45,n45,C45,D45,r45,d45,q45,h⟩:=jV h;replace h:=h.pick .p8;obtain ⟨b46,n46,C46,D46,r46,d46,q46,h⟩:=jV h;replace h:=h.pick .p9;obtain ⟨b50,n50,C50,r50,d50,h⟩:=fY h;replace h:=h.pick .eZ;obtain ⟨b49,n49,C49,r49,d49,h⟩:=fY h;replace h:=h.pick .hO;obtain ⟨b48,n48,C48,D48,r48,d48,q48,h⟩:=jV h;replace h:=h.pick .eO;obtain ⟨b42,n42,C42,r42,d42,h⟩:=fY h;replace h:=h.pick .lP;obtain ⟨b69,n69,C69,r69,d69,h⟩:=fY h;replace h:=h.pick .nR;obtain ⟨b74,n74,C74,k74,r74,d74,l74,h⟩:=uE h;replace h:=h.pick .oK;obtain ⟨b66,n66,C66,k66,r66,d66,l66,h⟩:=uE h;replace h:=h.pick .p16;obtain ⟨b67,n67,C67,D67,r67,d67,q67,h⟩:=jV h;replace h:=h.pick .wA;obtain ⟨b68,n68,C68,D68,r68,d68,q68,h⟩:=jV h;replace h:=h.pick .II;obtain ⟨b72,n72,C72,r72,d72,h⟩:=fY h;replace h:=h.pick (.pn 19);obtain ⟨b71,n71,C71,r71,d71,h⟩:=fY h;replace h:=h.pick (.pn 20);obtain ⟨b70,n70,C70,D70,r70,d70,q70,h⟩:=jV h;replace h:=h.pick (.pn 21);obtain ⟨b64,n64,C64,r64,d64,h⟩:=fY h;simp [aF,aE,aI,r5,r6,r76] at d7;subst d7;simp [aF,aE,aI,r47,r69] at d76;subst d76;obtain rfl:=nC0 q5;simp [aX,aT,aE,aI] at d6;subst d6;simp [aF,aE,aI,r5,r42,r44,r45,r46,r52] at d47;subst d47;simp [aF,aE,aI,r50] at d52;subst d52;simp [aF,aE,aI] at d44;subst d44;simp [aX,aT,aE,aI] at d45;subst d45;obtain rfl:=List.perm_nil.1 q45;simp [aX,aT,aE,aI] at d46;subst d46;obtain rfl:=List.perm_nil.1 q46;simp [aF,aE,aI,r49] at d50;subst d50;simp [aF,aE,aI,r48] at d49;subst d49;simp [aX,aT,aE,aI] at d48;subst d48;obtain rfl:=List.perm_nil.1 q48;simp [aF,aE,aI,r5,r64,r66,r67,r68,r74] at d69;subst d69;simp [aF,aE,aI,r72] at d74;subst d74;simp [aF,aE,aI] at d66;subst d66;simp [aX,aT,aE,aI] at d67;subst d67;obtain rfl:=List.perm_nil.1 q67;simp [aX,aT,aE,aI] at d68;subst d68;obtain rfl:=List.perm_nil.1 q68;simp [aF,aE,aI,r71] at d72;subst d72;simp [aF,aE,aI,r70] at d71;subst d71;simp [aX,aT,aE,aI] at d70;subst d70;obtain rfl:=List.perm_nil.1 q70;obtain rfl:k76=2:=by simp at l76; omega
 obtain rfl:k52=1:=by simp at l52; omega
 obtain rfl:k44=1:=by simp at l44; omega
 obtain rfl:k74=1:=by simp at l74; omega
 obtain rfl:k66=1:=by simp at l66; omega
 simp [den,aF,aT,aE,aI,r7] at k4;subst k4;replace h:=iX (h.part (.take .hO (.take .eZ .refl)));replace h:=pS h;replace h:=gX (q:=(b50,b49)) (h.part (.take .eO (.take .p1 .refl)));replace h:=iX (h.part (.take .p3 (.take .p2 .refl)));replace h:=pS h;replace h:=gX (q:=(b72,b71)) (h.part (.take .p4 (.take .p1 .refl)));replace h:=LJ (bs:=b5) h;replace h:=lV (bs:=b5) (q:=⟨b69,b66,n66,b74,n74,b67,b68,3,4,1,1,0,dD 3 197121,.pointer (some ⟨b64,0,none⟩),[⟨7,8,5,6⟩],[(b72,b71)]⟩) (h.part (.take .p8 (.take .p7 (.take .p6 (.take .p5 (.take .p4 (.take .p1 .refl)))))));replace h:=lV (bs:=b5) (q:=⟨b47,b44,n44,b52,n52,b45,b46,1,2,1,1,0,dD 2 770,.pointer (some ⟨b42,0,none⟩),[⟨9,10,5,6⟩],[(b50,b49)]⟩) (h.part (.take .p8 (.take .p7 (.take .p6 (.take .p5 (.take .p4 (.take .p1 .refl)))))));replace h:=h.eP 291 3;refine ⟨⟨b7,b5,b76,n76,b6,[b47,b69],⟨none,0,[],0,6,false,false,[⟨b47,b44,n44,b52,n52,b45,b46,1,2,1,1,0,dD 2 770,.pointer (some ⟨b42,0,none⟩),[⟨9,10,5,6⟩],[(b50,b49)]⟩,⟨b69,b66,n66,b74,n74,b67,b68,3,4,1,1,0,dD 3 197121,.pointer (some ⟨b64,0,none⟩),[⟨7,8,5,6⟩],[(b72,b71)]⟩],IP,D6⟩⟩,?_,rfl,h.part (.take .p7 (.take .p6 (.take .p1 (.take .p4 (.take .p0 (.take .p2 (.drop (.drop .refl))))))))⟩;refine ⟨⟨by dsimp only [List.length]; omega,by dsimp only [List.length]; omega⟩,rfl,?_,nS0,⟨by dsimp only; omega,by dsimp only; omega⟩,(by show ((IP.length:Nat):Int)≤65536; decide),Nat.le_refl _,fun p hp=>(by cases hp),by rw [show D6.length=4 from q6.length_eq]; decide,fun e he=>.inr ?_⟩
 ·intro q hq;simp only [List.mem_cons,List.not_mem_nil,or_false] at hq;have sc:∀ x:Int,eI IP x=true→(aO IP x).kind=2→aV (fun _=>False) IP x:=fun x a b=>⟨a,b,id⟩;rcases hq with rfl | rfl
  ·refine ⟨rfl,rfl,(by show (dD 2 770).size≤100; decide),(by show (1:Int)≤1; decide),(by show (1:Int)≤1; decide),sc _ rfl rfl,sc _ rfl rfl,fun p hp=>?_⟩;exact aAe
  refine ⟨rfl,rfl,(by show (dD 3 197121).size≤100; decide),(by show (1:Int)≤1; decide),(by show (1:Int)≤1; decide),sc _ rfl rfl,sc _ rfl rfl,fun p hp=>?_⟩;exact aAe
 have h9:=q6.mem_iff.1 he;simp only [List.mem_cons,List.not_mem_nil,or_false] at h9;have sf:∀ x:Int,eI IP x=true→decide ((aO IP x).kind=1∨3≤(aO IP x).kind∧(aO IP x).kind≤7)=true→Safe (fun _=>False) IP x:=fun x a b=>.free a (of_decide_eq_true b);rcases h9 with rfl | rfl | rfl | rfl <;> exact sf _ rfl rfl
end
noncomputable section
open EV
def nL1:List (Pos × Ob):=[(p7,.c 142 [.p p5 0,.sr aCm 3,.i .u64 (.ofNat 0),.i .u64 (.ofNat 12),.sn,.sn,.m p6,.b false,.b false]),(aCm,.r 23 1 [.p p61 0,.p p90 0,.p I7 0]),(p5,.st 18 [101,83,69,51,37,19,1770887431076116955138,1623313478486440542210,1475739525896764129282,1328165573307087716354,1180591620717411303426,1033017668127734890498,885443715538058477570,737869762948382064642,590295810358705651714,442721857769029238786,295147905179352825858,147573952589676412930] 65536 none),(p6,.m .i64 [((.ofNat 13),.b true),((.ofNat 14),.b true),((.ofNat 15),.b true),((.ofNat 16),.b true),((.ofNat 17),.b true),((.ofNat 18),.b true)]),(p61,.c 79 [.p p5 0,.i .i64 (.ofNat 1),.i .i64 (.ofNat 2),.sr p58 2,.s 2 770,.i .i64 (.ofNat 20),.i .u64 (.ofNat 1),.i .u64 (.ofNat 1),.i .u64 (.ofNat 0),.p p56 0,.sr p71 2,.m p59,.m p60]),(p71,.r 123 1 [.p p64 0,.p p69 0]),(p58,.r 64 4 [.i .i64 (.ofNat 15),.i .i64 (.ofNat 16),.i .i64 (.ofNat 7),.i .i64 (.ofNat 8),.i .i64 (.ofNat 17),.i .i64 (.ofNat 18),.i .i64 (.ofNat 9),.i .i64 (.ofNat 10)]),(p59,.m .u64 []),(p60,.m .u64 []),(p64,.c 122 [.p p63 0,.i .u64 (.ofNat 0),.i .u64 (.ofNat 0),.i .u64 (.ofNat 0),.i .u64 (.ofNat 0),.i .u64 (.ofNat 0),.i .u64 (.ofNat 0),.i .u64 (.ofNat 0),.i .u64 (.ofNat 0),.i .u64 (.ofNat 0)]),(p63,.c 241 [.m p62,.i .i64 (.ofNat 4),.i .i64 (.ofNat 4096),.i .i64 (.ofNat 0)]),(p62,.m .u64 []),(p69,.c 122 [.p p68 0,.i .u64 (.ofNat 0),.i .u64 (.ofNat 0),.i .u64 (.ofNat 0),.i .u64 (.ofNat 0),.i .u64 (.ofNat 0),.i .u64 (.ofNat 0),.i .u64 (.ofNat 0),.i .u64 (.ofNat 0),.i .u64 (.ofNat 0)]),(p68,.c 241 [.m p67,.i .i64 (.ofNat 4),.i .i64 (.ofNat 4096),.i .i64 (.ofNat 0)]),(p67,.m .u64 []),(p56,.c 238 [.pn,.pn,.pn,.pn,.pn,.pn,.pn,.pn,.i .i64 (.ofNat 2)]),(p90,.c 79 [.p p5 0,.i .i64 (.ofNat 3),.i .i64 (.ofNat 4),.sr p87 2,.s 3 197121,.i .i64 (.ofNat 20),.i .u64 (.ofNat 1),.i .u64 (.ofNat 1),.i .u64 (.ofNat 0),.p H8 0,.sr IK 2,.m p88,.m p89]),(IK,.r 123 1 [.p p93 0,.p p98 0]),(p87,.r 64 4 [.i .i64 (.ofNat 13),.i .i64 (.ofNat 14),.i .i64 (.ofNat 7),.i .i64 (.ofNat 8),.i .i64 (.ofNat 17),.i .i64 (.ofNat 18),.i .i64 (.ofNat 11),.i .i64 (.ofNat 12)]),(p88,.m .u64 []),(p89,.m .u64 []),(p93,.c 122 [.p p92 0,.i .u64 (.ofNat 0),.i .u64 (.ofNat 0),.i .u64 (.ofNat 0),.i .u64 (.ofNat 0),.i .u64 (.ofNat 0),.i .u64 (.ofNat 0),.i .u64 (.ofNat 0),.i .u64 (.ofNat 0),.i .u64 (.ofNat 0)]),(p92,.c 241 [.m p91,.i .i64 (.ofNat 4),.i .i64 (.ofNat 4096),.i .i64 (.ofNat 0)]),(p91,.m .u64 []),(p98,.c 122 [.p p97 0,.i .u64 (.ofNat 0),.i .u64 (.ofNat 0),.i .u64 (.ofNat 0),.i .u64 (.ofNat 0),.i .u64 (.ofNat 0),.i .u64 (.ofNat 0),.i .u64 (.ofNat 0),.i .u64 (.ofNat 0),.i .u64 (.ofNat 0)]),(p97,.c 241 [.m p96,.i .i64 (.ofNat 4),.i .i64 (.ofNat 4096),.i .i64 (.ofNat 0)]),(p96,.m .u64 []),(H8,.c 238 [.pn,.pn,.pn,.pn,.pn,.pn,.pn,.pn,.i .i64 (.ofNat 2)]),(I7,.c 79 [.p p5 0,.i .i64 (.ofNat 5),.i .i64 (.ofNat 6),.sr IJ 2,.s 2 513,.i .i64 (.ofNat 20),.i .u64 (.ofNat 1),.i .u64 (.ofNat 1),.i .u64 (.ofNat 0),.p yE 0,.sr I2 2,.m I9,.m I8]),(I2,.r 123 1 [.p I5 0,.p I4 0]),(IJ,.r 64 4 [.i .i64 (.ofNat 13),.i .i64 (.ofNat 14),.i .i64 (.ofNat 9),.i .i64 (.ofNat 10),.i .i64 (.ofNat 15),.i .i64 (.ofNat 16),.i .i64 (.ofNat 11),.i .i64 (.ofNat 12)]),(I9,.m .u64 []),(I8,.m .u64 []),(I5,.c 122 [.p I6 0,.i .u64 (.ofNat 0),.i .u64 (.ofNat 0),.i .u64 (.ofNat 0),.i .u64 (.ofNat 0),.i .u64 (.ofNat 0),.i .u64 (.ofNat 0),.i .u64 (.ofNat 0),.i .u64 (.ofNat 0),.i .u64 (.ofNat 0)]),(I6,.c 241 [.m aIb,.i .i64 (.ofNat 4),.i .i64 (.ofNat 4096),.i .i64 (.ofNat 0)]),(aIb,.m .u64 []),(I4,.c 122 [.p aH9 0,.i .u64 (.ofNat 0),.i .u64 (.ofNat 0),.i .u64 (.ofNat 0),.i .u64 (.ofNat 0),.i .u64 (.ofNat 0),.i .u64 (.ofNat 0),.i .u64 (.ofNat 0),.i .u64 (.ofNat 0),.i .u64 (.ofNat 0)]),(aH9,.c 241 [.m aIa,.i .i64 (.ofNat 4),.i .i64 (.ofNat 4096),.i .i64 (.ofNat 0)]),(aIa,.m .u64 []),(yE,.c 238 [.pn,.pn,.pn,.pn,.pn,.pn,.pn,.pn,.i .i64 (.ofNat 2)])]
def nM1:T Ob:=.n .e (some (.c 9 [.s 2 770,.s 3 197121,.s 2 513])) .e
theorem nR1:okN ([.p p7 0,.i .i64 (.ofNat 0)]) nL1 (yC biA 100 p38 [.sl p1 0 3 3,.i .i64 (.ofNat 20)] nM1 p2)=true:=by kernel_rfl
def IN:List Tm:=[⟨2,⟨#[]⟩,1,0,0,0⟩,⟨2,⟨#[]⟩,2,0,0,0⟩,⟨2,⟨#[]⟩,3,0,0,0⟩,⟨2,⟨#[]⟩,4,0,0,0⟩,⟨2,⟨#[]⟩,5,0,0,0⟩,⟨2,⟨#[]⟩,6,0,0,0⟩,⟨2,⟨#[]⟩,7,0,0,0⟩,⟨2,⟨#[]⟩,8,0,0,0⟩,⟨2,⟨#[]⟩,9,0,0,0⟩,⟨2,⟨#[]⟩,10,0,0,0⟩,⟨2,⟨#[]⟩,11,0,0,0⟩,⟨2,⟨#[]⟩,12,0,0,0⟩,⟨3,⟨#[]⟩,0,1,0,0⟩,⟨5,⟨#[]⟩,0,2,0,0⟩,⟨3,⟨#[]⟩,0,3,0,0⟩,⟨5,⟨#[]⟩,0,4,0,0⟩,⟨3,⟨#[]⟩,0,5,0,0⟩,⟨5,⟨#[]⟩,0,6,0,0⟩]
theorem XI {p:Prop} (h:p:=by
  simp only [List.mem_cons,List.not_mem_nil,or_false] at hp;rcases hp with rfl | rfl <;> exact ⟨sc _ rfl rfl,sc _ rfl rfl⟩):p:=h
theorem nC1 {l:List Tm} (h:fK none [101,83,69,51,37,19,1770887431076116955138,1623313478486440542210,1475739525896764129282,1328165573307087716354,1180591620717411303426,1033017668127734890498,885443715538058477570,737869762948382064642,590295810358705651714,442721857769029238786,295147905179352825858,147573952589676412930] l.reverse):l=IN:=by
 have:=GJ h (ts:=IN.reverse) ⟨aZ 5 0 6 0 0 (by decide) (by decide),aZ 3 0 5 0 0 (by decide) (by decide),aZ 5 0 4 0 0 (by decide) (by decide),aZ 3 0 3 0 0 (by decide) (by decide),aZ 5 0 2 0 0 (by decide) (by decide),aZ 3 0 1 0 0 (by decide) (by decide),aZ 2 12 0 0 0 (by decide) (by decide),aZ 2 11 0 0 0 (by decide) (by decide),aZ 2 10 0 0 0 (by decide) (by decide),aZ 2 9 0 0 0 (by decide) (by decide),aZ 2 8 0 0 0 (by decide) (by decide),aZ 2 7 0 0 0 (by decide) (by decide),aZ 2 6 0 0 0 (by decide) (by decide),aZ 2 5 0 0 0 (by decide) (by decide),aZ 2 4 0 0 0 (by decide) (by decide),aZ 2 3 0 0 0 (by decide) (by decide),aZ 2 2 0 0 0 (by decide) (by decide),aZ 2 1 0 0 0 (by decide) (by decide),trivial⟩;rw [← List.reverse_reverse l,this]; rfl
theorem nV1:cM IN:=fun i h=>by
 match i,h with
 | 0,_=>rfl
 | 1,_=>rfl
 | 2,_=>rfl
 | 3,_=>rfl
 | 4,_=>rfl
 | 5,_=>rfl
 | 6,_=>rfl
 | 7,_=>rfl
 | 8,_=>rfl
 | 9,_=>rfl
 | 10,_=>rfl
 | 11,_=>rfl
 | 12,_=>rfl
 | 13,_=>rfl
 | 14,_=>rfl
 | 15,_=>rfl
 | 16,_=>rfl
 | 17,_=>rfl
 | n + 18,h=>exact absurd h (by show ¬ (n + 18 < 18); omega)
theorem nS1:rA (fun _=>False) IN 12:=zG (by
 intro t ht;simp only [IN,List.mem_cons,List.not_mem_nil,or_false] at ht;rcases ht with rfl | rfl | rfl | rfl | rfl | rfl | rfl | rfl | rfl | rfl | rfl | rfl | rfl | rfl | rfl | rfl | rfl | rfl <;> exact ⟨by decide,by decide⟩) nV1
theorem O1 (W0:World) (hF:eT.Ok Tryz.prog W0) (bU:Tryz.prog.follows .mixedOrders=true) (b:Nat):tC Tryz.prog W0 37 [.slice (some ⟨b,0,none⟩) 3 3,.int .i64 20] [Bk b 9 [.string ⟨#[3,2]⟩,.string ⟨#[3,2,1]⟩,.string ⟨#[2,1]⟩]] (fun x:NX=>.tuple #[ptr x.bw,.int .i64 0]) (fun x=>[Bk x.bw 142 [ptr x.bs,.slice (some ⟨x.gw,0,none⟩) x.aH.length x.cw,.int .u64 x.w.now,.int .u64 x.w.drawn,.slice x.w.sa x.w.sent.length x.w.sc,.slice none 0 0,.map (some x.bk),.bool x.w.f0,.bool x.w.f1],Rw 23 1 (.slice (some ⟨x.gw,0,none⟩) x.aH.length x.cw) x.aH.length (x.aH.map ptr),pos x.bs x.w.zs,St x.bs x.w.l 65536,Rw 291 3 (.slice x.w.sa x.w.sent.length x.w.sc) x.w.sent.length (hP x.w.sent),Mp (aC .i64) x.bk x.w.aD]) (fun x=>cL (fun _=>False) 0 x.aH x.w):=by
 intro W R hs;obtain ⟨me,nx,hr,hall⟩:=VK nR1;have hs0:aB W0 W (mem (g00.set p1 (b,0)) nM1++R):=aIv (b:=b) (n:=0) (G.bL g00 p1 (b,0)) rfl hs;refine ((oC hF bU 100).1 p38 _ _ p2 _ _ _ hr W R (g00.set p1 (b,0)) [.slice (some ⟨b,0,none⟩) 3 3,.int .i64 20] (G.aY (fun _ _=>rfl) (b,0)) rfl hs0).mono ?_;rintro e w ⟨g,x,rfl,k1,k2,k3,k4,k5⟩;have h:=BA (g:=g) nL1 me.iV R (by decide) hall k5;clear k5 hs0 hall hr hs k1 k2 k3;simp only [nL1,List.map_cons,List.map_nil,List.cons_append,List.nil_append] at h;obtain ⟨b7,n7,C7,r7,d7,h⟩:=fY h;replace h:=h.pick .p1;obtain ⟨aSy,n131,aTy,aQ8,aN8,aMd,aP3,h⟩:=uE h;replace h:=h.pick .p2;obtain ⟨b5,n5,l5,r5,q5,h⟩:=Y6 h;replace h:=h.pick .p3;obtain ⟨b6,n6,C6,D6,r6,d6,q6,h⟩:=jV h;replace h:=h.pick .p4;obtain ⟨b61,n61,C61,r61,d61,h⟩:=fY h;replace h:=h.pick .p5;obtain ⟨b71,n71,C71,k71,r71,d71,l71,h⟩:=uE h;replace h:=h.pick .p6;obtain ⟨b58,n58,C58,k58,r58,d58,l58,h⟩:=uE h;replace h:=h.pick .p7;obtain ⟨b59,n59,C59,D59,r59,d59,q59,h⟩:=jV h;replace h:=h.pick .p8;obtain ⟨b60,n60,C60,D60,r60,d60,q60,h⟩:=jV h;replace h:=h.pick .p9;obtain ⟨b64,n64,C64,r64,d64,h⟩:=fY h;replace h:=h.pick .eZ;obtain ⟨b63,n63,C63,r63,d63,h⟩:=fY h;replace h:=h.pick .hO;obtain ⟨b62,n62,C62,D62,r62,d62,q62,h⟩:=jV h;replace h:=h.pick .eO;obtain ⟨b69,n69,C69,r69,d69,h⟩:=fY h;replace h:=h.pick .lP;obtain ⟨b68,n68,C68,r68,d68,h⟩:=fY h;replace h:=h.pick .nR;obtain ⟨b67,n67,C67,D67,r67,d67,q67,h⟩:=jV h;replace h:=h.pick .oK;obtain ⟨b56,n56,C56,r56,d56,h⟩:=fY h;replace h:=h.pick .p16;obtain ⟨B9,n90,C90,r90,d90,h⟩:=fY h;replace h:=h.pick .wA;obtain ⟨aNg,n100,aUb,aEl,aOl,aMp,aP6,h⟩:=uE h;replace h:=h.pick .II;obtain ⟨b87,n87,C87,k87,r87,d87,l87,h⟩:=uE h;replace h:=h.pick (.pn 19);obtain ⟨b88,n88,C88,D88,r88,d88,q88,h⟩:=jV h;replace h:=h.pick (.pn 20);obtain ⟨b89,n89,C89,D89,r89,d89,q89,h⟩:=jV h;replace h:=h.pick (.pn 21);obtain ⟨W6,n93,C93,r93,d93,h⟩:=fY h;replace h:=h.pick (.pn 22);obtain ⟨b92,n92,C92,r92,d92,h⟩:=fY h;replace h:=h.pick (.pn 23);obtain ⟨b91,n91,C91,D91,r91,d91,q91,h⟩:=jV h;replace h:=h.pick (.pn 24);obtain ⟨b98,n98,C98,r98,d98,h⟩:=fY h;replace h:=h.pick (.pn 25);obtain ⟨b97,n97,C97,r97,d97,h⟩:=fY h;replace h:=h.pick (.pn 26);obtain ⟨b96,n96,C96,D96,r96,d96,q96,h⟩:=jV h;replace h:=h.pick (.pn 27);obtain ⟨b85,n85,C85,r85,d85,h⟩:=fY h;replace h:=h.pick (.pn 28);obtain ⟨aGc,n119,aT6,aOg,aMl,h⟩:=fY h;replace h:=h.pick (.pn 29);obtain ⟨aNb,n129,aTz,aRa,aN9,aMe,aP4,h⟩:=uE h;replace h:=h.pick (.pn 30);obtain ⟨aNe,n116,aT9,aRd,aOj,aMo,aP5,h⟩:=uE h;replace h:=h.pick (.pn 31);obtain ⟨aNd,n117,aT8,aTx,aOi,aMn,aOp,h⟩:=jV h;replace h:=h.pick (.pn 32);obtain ⟨aNc,n118,aT7,aTw,aOh,aMm,aOo,h⟩:=jV h;replace h:=h.pick (.pn 33);obtain ⟨aGa,n122,aT3,aOd,aMi,h⟩:=fY h;replace h:=h.pick (.pn 34);obtain ⟨aGb,n121,aT4,aOe,aMj,h⟩:=fY h;replace h:=h.pick (.pn 35);obtain ⟨aTr,n120,aT5,aTv,aOf,aMk,aOn,h⟩:=jV h;replace h:=h.pick (.pn 36);obtain ⟨aF8,n127,aT0,aOa,aMf,h⟩:=fY h;replace h:=h.pick (.pn 37);obtain ⟨aF9,n126,aT1,aOb,aMg,h⟩:=fY h;replace h:=h.pick (.pn 38);obtain ⟨aTq,n125,aT2,aTu,aOc,aMh,aOm,h⟩:=jV h;replace h:=h.pick (.pn 39);obtain ⟨aNf,n114,aUa,aOk,aTl,h⟩:=fY h;simp [aF,aE,aI,r5,r6,aN8] at d7;subst d7;simp [aF,aE,aI,r61,r90,aOg] at aMd;subst aMd;obtain rfl:=nC1 q5;simp [aX,aT,aE,aI] at d6;subst d6;simp [aF,aE,aI,r5,r56,r58,r59,r60,r71] at d61;subst d61;simp [aF,aE,aI,r64,r69] at d71;subst d71;simp [aF,aE,aI] at d58;subst d58;simp [aX,aT,aE,aI] at d59;subst d59;obtain rfl:=List.perm_nil.1 q59;simp [aX,aT,aE,aI] at d60;subst d60;obtain rfl:=List.perm_nil.1 q60;simp [aF,aE,aI,r63] at d64;subst d64;simp [aF,aE,aI,r62] at d63;subst d63;simp [aX,aT,aE,aI] at d62;subst d62;obtain rfl:=List.perm_nil.1 q62;simp [aF,aE,aI,r68] at d69;subst d69;simp [aF,aE,aI,r67] at d68;subst d68;simp [aX,aT,aE,aI] at d67;subst d67;obtain rfl:=List.perm_nil.1 q67;simp [aF,aE,aI,r5,r85,r87,r88,r89,aOl] at d90;subst d90;simp [aF,aE,aI,r93,r98] at aMp;subst aMp;simp [aF,aE,aI] at d87;subst d87;simp [aX,aT,aE,aI] at d88;subst d88;obtain rfl:=List.perm_nil.1 q88;simp [aX,aT,aE,aI] at d89;subst d89;obtain rfl:=List.perm_nil.1 q89;simp [aF,aE,aI,r92] at d93;subst d93;simp [aF,aE,aI,r91] at d92;subst d92;simp [aX,aT,aE,aI] at d91;subst d91;obtain rfl:=List.perm_nil.1 q91;simp [aF,aE,aI,r97] at d98;subst d98;simp [aF,aE,aI,r96] at d97;subst d97;simp [aX,aT,aE,aI] at d96;subst d96;obtain rfl:=List.perm_nil.1 q96;simp [aF,aE,aI,r5,aOk,aOj,aOi,aOh,aN9] at aMl;subst aMl;simp [aF,aE,aI,aOd,aOa] at aMe;subst aMe;simp [aF,aE,aI] at aMo;subst aMo;simp [aX,aT,aE,aI] at aMn;subst aMn;obtain rfl:=List.perm_nil.1 aOp;simp [aX,aT,aE,aI] at aMm;subst aMm;obtain rfl:=List.perm_nil.1 aOo;simp [aF,aE,aI,aOe] at aMi;subst aMi;simp [aF,aE,aI,aOf] at aMj;subst aMj;simp [aX,aT,aE,aI] at aMk;subst aMk;obtain rfl:=List.perm_nil.1 aOn;simp [aF,aE,aI,aOb] at aMf;subst aMf;simp [aF,aE,aI,aOc] at aMg;subst aMg;simp [aX,aT,aE,aI] at aMh;subst aMh;obtain rfl:=List.perm_nil.1 aOm;obtain rfl:aQ8=3:=by simp at aP3; omega
 obtain rfl:k71=2:=by simp at l71; omega
 obtain rfl:k58=2:=by simp at l58; omega
 obtain rfl:aEl=2:=by simp at aP6; omega
 obtain rfl:k87=2:=by simp at l87; omega
 obtain rfl:aRa=2:=by simp at aP4; omega
 obtain rfl:aRd=2:=by simp at aP5; omega
 simp [den,aF,aT,aE,aI,r7] at k4;subst k4;replace h:=iX (h.part (.take (.pn 29) (.take (.pn 28) .refl)));replace h:=iX (h.part (.take (.pn 27) (.take (.pn 26) .refl)));replace h:=pS h;replace h:=gX (q:=(b69,b68)) (h.part (.take (.pn 28) (.take .p1 .refl)));replace h:=gX (q:=(b64,b63)) (h.part (.take (.pn 27) (.take .p1 .refl)));replace h:=iX (h.part (.take .II (.take .wA .refl)));replace h:=iX (h.part (.take .p16 (.take .oK .refl)));replace h:=pS h;replace h:=gX (q:=(b98,b97)) (h.part (.take .wA (.take .p1 .refl)));replace h:=gX (q:=(W6,b92)) (h.part (.take .p16 (.take .p1 .refl)));replace h:=iX (h.part (.take .p7 (.take .p6 .refl)));replace h:=iX (h.part (.take .p5 (.take .p4 .refl)));replace h:=pS h;replace h:=gX (q:=(aF8,aF9)) (h.part (.take .p6 (.take .p1 .refl)));replace h:=gX (q:=(aGa,aGb)) (h.part (.take .p5 (.take .p1 .refl)));replace h:=LJ (bs:=b5) h;replace h:=lV (bs:=b5) (q:=⟨aGc,aNe,n116,aNb,n129,aNd,aNc,5,6,1,1,0,dD 2 513,.pointer (some ⟨aNf,0,none⟩),[⟨13,14,9,10⟩,⟨15,16,11,12⟩],[(aGa,aGb),(aF8,aF9)]⟩) (h.part (.take .p9 (.take .p8 (.take .p7 (.take .p6 (.take .p5 (.take .p1 .refl)))))));replace h:=lV (bs:=b5) (q:=⟨B9,b87,n87,aNg,n100,b88,b89,3,4,1,1,0,dD 3 197121,.pointer (some ⟨b85,0,none⟩),[⟨13,14,7,8⟩,⟨17,18,11,12⟩],[(W6,b92),(b98,b97)]⟩) (h.part (.take .p9 (.take .p8 (.take .p7 (.take .p6 (.take .p5 (.take .p1 .refl)))))));replace h:=lV (bs:=b5) (q:=⟨b61,b58,n58,b71,n71,b59,b60,1,2,1,1,0,dD 2 770,.pointer (some ⟨b56,0,none⟩),[⟨15,16,7,8⟩,⟨17,18,9,10⟩],[(b64,b63),(b69,b68)]⟩) (h.part (.take .p9 (.take .p8 (.take .p7 (.take .p6 (.take .p5 (.take .p1 .refl)))))));replace h:=h.eP 291 3;refine ⟨⟨b7,b5,aSy,n131,b6,[b61,B9,aGc],⟨none,0,[],0,12,false,false,[⟨b61,b58,n58,b71,n71,b59,b60,1,2,1,1,0,dD 2 770,.pointer (some ⟨b56,0,none⟩),[⟨15,16,7,8⟩,⟨17,18,9,10⟩],[(b64,b63),(b69,b68)]⟩,⟨B9,b87,n87,aNg,n100,b88,b89,3,4,1,1,0,dD 3 197121,.pointer (some ⟨b85,0,none⟩),[⟨13,14,7,8⟩,⟨17,18,11,12⟩],[(W6,b92),(b98,b97)]⟩,⟨aGc,aNe,n116,aNb,n129,aNd,aNc,5,6,1,1,0,dD 2 513,.pointer (some ⟨aNf,0,none⟩),[⟨13,14,9,10⟩,⟨15,16,11,12⟩],[(aGa,aGb),(aF8,aF9)]⟩],IN,D6⟩⟩,?_,rfl,h.part (.take .p8 (.take .p7 (.take .p1 (.take .p5 (.take .p0 (.take .p3 (.drop (.drop (.drop .refl)))))))))⟩;refine ⟨⟨by dsimp only [List.length]; omega,by dsimp only [List.length]; omega⟩,rfl,?_,nS1,⟨by dsimp only; omega,by dsimp only; omega⟩,(by show ((IN.length:Nat):Int)≤65536; decide),Nat.le_refl _,fun p hp=>(by cases hp),by rw [show D6.length=6 from q6.length_eq]; decide,fun e he=>.inr ?_⟩
 ·intro q hq;simp only [List.mem_cons,List.not_mem_nil,or_false] at hq;have sc:∀ x:Int,eI IN x=true→(aO IN x).kind=2→aV (fun _=>False) IN x:=fun x a b=>⟨a,b,id⟩;rcases hq with rfl | rfl | rfl
  ·refine ⟨rfl,rfl,(by show (dD 2 770).size≤100; decide),(by show (1:Int)≤1; decide),(by show (1:Int)≤1; decide),sc _ rfl rfl,sc _ rfl rfl,fun p hp=>?_⟩;exact XI
  ·refine ⟨rfl,rfl,(by show (dD 3 197121).size≤100; decide),(by show (1:Int)≤1; decide),(by show (1:Int)≤1; decide),sc _ rfl rfl,sc _ rfl rfl,fun p hp=>?_⟩;exact XI
  refine ⟨rfl,rfl,(by show (dD 2 513).size≤100; decide),(by show (1:Int)≤1; decide),(by show (1:Int)≤1; decide),sc _ rfl rfl,sc _ rfl rfl,fun p hp=>?_⟩;exact XI
 have h9:=q6.mem_iff.1 he;simp only [List.mem_cons,List.not_mem_nil,or_false] at h9;have sf:∀ x:Int,eI IN x=true→decide ((aO IN x).kind=1∨3≤(aO IN x).kind∧(aO IN x).kind≤7)=true→Safe (fun _=>False) IN x:=fun x a b=>.free a (of_decide_eq_true b);rcases h9 with rfl | rfl | rfl | rfl | rfl | rfl <;> exact sf _ rfl rfl
end
section
open EV (aC)
theorem C4 (W0:World) (hF:EV.eT.Ok Tryz.prog W0) (bU:Tryz.prog.follows .mixedOrders=true) (b j:Nat) (hj:j≤1):tC Tryz.prog W0 37 [.slice (some ⟨b,0,none⟩) (2 + j) 3,.int .i64 20] [Bk b 9 [.string ⟨#[3,2]⟩,.string ⟨#[3,2,1]⟩,.string ⟨#[2,1]⟩]] (fun x:NX=>.tuple #[ptr x.bw,.int .i64 0]) (fun x=>[Bk x.bw 142 [ptr x.bs,.slice (some ⟨x.gw,0,none⟩) x.aH.length x.cw,.int .u64 x.w.now,.int .u64 x.w.drawn,.slice x.w.sa x.w.sent.length x.w.sc,.slice none 0 0,.map (some x.bk),.bool x.w.f0,.bool x.w.f1],Rw 23 1 (.slice (some ⟨x.gw,0,none⟩) x.aH.length x.cw) x.aH.length (x.aH.map ptr),pos x.bs x.w.zs,St x.bs x.w.l 65536,Rw 291 3 (.slice x.w.sa x.w.sent.length x.w.sc) x.w.sent.length (hP x.w.sent),Mp (aC .i64) x.bk x.w.aD]) (fun x=>cL (fun _=>False) 0 x.aH x.w):=by
 match j,hj with
 | 0,_=>exact O2 W0 hF bU b
 | 1,_=>exact O1 W0 hF bU b
theorem YV (W0:World) (hF:EV.eT.Ok Tryz.prog W0) (bU:Tryz.prog.follows .mixedOrders=true):tC Tryz.prog W0 13 [] [] (fun _:Unit=>.bool true) (fun _=>[]) (fun _=>True):=fun W R hs =>
 (EV.FP hF bU hs).mono fun e w' h=>⟨(),trivial,h.1,h.2⟩
theorem OC (W0:World)  (hF:EV.eT.Ok Tryz.prog W0) (bU:Tryz.prog.follows .mixedOrders=true) (n:Int) (aa:Option Addr) (ac:Nat) (al:List Ac) (aTj:al.length≤18) (hal:∀ y∈al,OkA y∧y.kd≠0) :
  tC Tryz.prog W0 15 [.int .i64 n,.slice aa al.length ac] [Rw 47 7 (.slice aa al.length ac) al.length (mJ al)] (fun x:NX=>ptr x.bw) (fun x=>[Bk x.bw 142 [ptr x.bs,.slice (some ⟨x.gw,0,none⟩) x.aH.length x.cw,.int .u64 x.w.now,.int .u64 x.w.drawn,.slice x.w.sa x.w.sent.length x.w.sc,.slice none 0 0,.map (some x.bk),.bool x.w.f0,.bool x.w.f1],Rw 23 1 (.slice (some ⟨x.gw,0,none⟩) x.aH.length x.cw) x.aH.length (x.aH.map ptr),pos x.bs x.w.zs,St x.bs x.w.l 65536,Rw 291 3 (.slice x.w.sa x.w.sent.length x.w.sc) x.w.sent.length (hP x.w.sent),Mp (aC .i64) x.bk x.w.aD]) (fun x=>∃ A k,k≤18∧cL A k x.aH x.w):=by
 refine tC.go Tryz.func15 rfl Tryz.ntmps15 rfl (fun R=>?_);refine GC.app .a1 ?_;refine Zt ?_;refine L.v (EX.assign rfl) rfl rfl rfl ?_;refine Zn (Zt ?_);refine L.v (EX.move rfl) rfl rfl rfl ?_;refine K.x (EC.direct eN rfl) (HN _) .nil (fun _=>.a1) rfl rfl (.free rfl) (fun zo hzo=>?_);refine K.xa (EC.direct eN rfl) (C4 W0 hF bU _ _ hzo) (.one .p0) (fun _=>(.c (.c (.a4)))) rfl rfl (.free rfl) (fun y hy=>?_);obtain ⟨bw,bs,gw,cw,bk,aH,w0⟩:=y;dsimp only at hy ⊢;refine Lr.jF (.m rfl (.x rfl rfl (.x rfl rfl (.a rfl (.a rfl .s))))) rfl (Zs (Zt ?_));refine Lr.run (.m rfl (.v (EX.T8 rfl rfl uN) rfl rfl (.m rfl .s))) rfl ?_;refine GL.case 16 rfl (fun g16=>?_) (fun g16=>?_)
 ·refine Lr.jF (.o rfl (.q g16) (.o rfl (.q g16) (.v (EX.vX rfl g16 rfl) rfl rfl .s))) rfl ?_;refine GC.aQ rfl rfl ?_;refine Zt ?_;refine L.v (EX.assign rfl) rfl rfl rfl ?_;refine Zn ?_;refine GC.ret (GE.iH ?_);refine GE.out rfl rfl (fun w h=>?_);cases (show false=true from g16)
 refine Lr.jF (.g (EX.move rfl) rfl (.q g16) (.g (EX.neq rfl rfl) rfl (.q g16) (.v (EX.lG rfl g16 rfl) rfl rfl .s))) rfl ?_;refine GC.bH rfl rfl ?_;refine GC.skip (Ze (Zs (Zt ?_)));refine L.v (EX.assign rfl) rfl rfl rfl ?_;refine Zn (GC.block ?_);refine GC.lp (σ:=Nat × WS) (fun s=>[(7,.int .i64 (s.1:Int)),(5,ptr bw),(1,.slice aa al.length ac)]) (fun s=>Bk bw 142 [ptr bs,.slice (some ⟨gw,0,none⟩) aH.length cw,.int .u64 s.2.now,.int .u64 s.2.drawn,.slice s.2.sa s.2.sent.length s.2.sc,.slice none 0 0,.map (some bk),.bool s.2.f0,.bool s.2.f1]::Rw 23 1 (.slice (some ⟨gw,0,none⟩) aH.length cw) aH.length (aH.map ptr)::pos bs s.2.zs::St bs s.2.l 65536::Rw 291 3 (.slice s.2.sa s.2.sent.length s.2.sc) s.2.sent.length (hP s.2.sent)::Mp (aC .i64) bk s.2.aD::Rw 47 7 (.slice aa al.length ac) al.length (mJ al)::R) (fun s=>s.1≤al.length∧∃ A,cL A s.1 aH s.2) (fun s=>al.length - s.1) (0,w0) (.c rfl (.c rfl (.c rfl .n))) .refl (⟨Nat.zero_le _,_,hy⟩) (fun s hs=>?_);obtain ⟨k,⟨sa,sc,sent,now,drawn,f0,f1,zs,l,aD⟩⟩:=s;dsimp only at hs;obtain ⟨hk,A,hI⟩:=hs;refine Zs (Zt ?_);refine Lr.jF (.m rfl (.m rfl (.v (EX.rT rfl uN) rfl rfl (.v (EX.lss rfl rfl) rfl rfl .s)))) rfl ?_;refine GC.cond rfl (fun c23=>?_) (fun c23=>?_)
 ·simp only [decide_eq_true_eq] at c23;have hk9:k < al.length:=by omega
  refine GC.skip (Ze (Zs (GC.block (Zr ?_))));refine GL.know (fun w h=>h.dV .p6 (by omega)) (fun hg=>?_);obtain ⟨ga,rfl⟩:=hg;refine Lr.run (.m rfl (.m rfl (.m rfl (.v (EX.indexAddr (a:=k * 7) rfl rfl sL (by omega) (by simp)) rfl rfl (.v (EX.rW (cs:=acc al[k]) rfl mN rfl (A0 hk9)) rfl rfl .s))))) rfl ?_;refine K.x (EC.direct eN rfl) (aA3 _ _ _ _ _ _ _ _ _ _ _ _ _ _ _ _ _ _ (by omega) hI _ _ _ _ _ _ _ (hal _ (List.getElem_mem hk9)).2 (hal _ (List.getElem_mem hk9)).1.1 (hal _ (List.getElem_mem hk9)).1.2.1 (hal _ (List.getElem_mem hk9)).1.2.2) (.cons .p0 (.cons .p0 (.cons .p0 (.cons .p0 (.cons .p0 (.cons .p0 .nil)))))) (fun _=>(.c (.c (.a4)))) rfl rfl (.free rfl) (fun zt mY=>?_);refine GL.nil (GE.block (Ze (Zr ?_)));refine Lr.run (.m rfl (.v (EX.add rfl rfl (wi (by omega))) rfl rfl (.a rfl .s))) rfl (GL.nil ?_);exact GE.ag (s:=(k,⟨sa,sc,sent,now,drawn,f0,f1,zs,l,aD⟩)) (k + 1,zt.2) (.c (by rw [← Int.natCast_succ]; rfl) (.c rfl (.c rfl .n))) .refl (by dsimp only; omega) (⟨by dsimp only; omega,mY⟩)
 refine GC.exit (GE.bE (GE.bE (GE.dT ?_)));refine Ze (Zt ?_);refine Lr.jF (.m rfl (.a rfl .s)) rfl ?_;refine GC.ret ?_;refine GE.out rfl rfl (fun w h=>?_);exact ⟨⟨bw,bs,gw,cw,bk,aH,⟨sa,sc,sent,now,drawn,f0,f1,zs,l,aD⟩⟩,⟨A,k,by omega,hI⟩,rfl,h.part (.t0 (.t0 (.t0 (.t0 (.t0 (.t0 (.d .refl)))))))⟩
end
section
open EV (aC)
theorem EX.T4 {W0 kn L d g x ty ps af} {a:Bool} (hx:ev kn x=some (.agg #[.bool true,.bool true,.bool true,.bool a])):EX Tryz.prog W0 kn L ⟨d,.field 56 x 0,ty,ps,af,g⟩ (.bool true):=fun ρ w he hs=>by
 have i0:(Instr.field 56 (.agg #[.bool true,.bool true,.bool true,.bool a]) 0).run Tryz.prog w=.ok (.bool true) w:=by kernel_rfl
 simp only [execOp,he x _ hx,Sem.run_bind,i0,Result.andThen_ok]; rfl
theorem P9 {p:Prop} (h:p:=by
  refine Au ?_;refine Go fun w h=>?_;first
  | exact ⟨(),trivial,rfl,h.part (.d (.d (.d (.d (.d (.d .refl))))))⟩
  | (exfalso; simp at g60; done)
  | (exfalso; simp at g72; done)
  | (exfalso; simp at g77; done)):p:=h
theorem OG (W0:World)  (hF:EV.eT.Ok Tryz.prog W0) (bU:Tryz.prog.follows .mixedOrders=true) (n:Int) (hn8:0≤n∧n < 256) (la:Option Addr) (m lc:Nat) (hold:A4 W0 la m) :
  tC Tryz.prog W0 4 [.int .u8 n,.slice la m lc] [] (fun x:Unit=>.bool true) (fun x=>[]) (fun x=>True):=by
 refine tC.go Tryz.func4 rfl Tryz.ntmps4 rfl (fun R=>?_);refine GC.app .a0 ?_;refine Au ?_;refine Ef (EF.uB bS) fun b14 _=>?_;refine Au ?_;refine K.xa (EC.direct eN rfl) (C8 W0 _ _ _ hold) .nil (fun _=>.a1) rfl rfl (.free rfl) (fun co hco=>?_);obtain ⟨cv,cl⟩:=co;dsimp only at hco ⊢;obtain ⟨⟨ca,cc,rfl⟩,hcl,hco⟩:=hco;refine Lu rfl (EX.assign rfl) ?_;refine Zn (Zs (Zt ?_));refine Lu rfl (EX.assign rfl) ?_;refine Zn (GC.block ?_);refine GC.turn (fun w h=>(show aB W0 w (Rw 47 7 (.slice (some ⟨b14,0,none⟩) 0 0) ([]:List Ac).length (mJ [])::_) from aB.uC (s:=7) (n:=0) (h.part (.t1 .refl)) rfl (by unfold maxLen; omega))) ?_;refine GC.lp (σ:=Nat × Value × List Ac) (fun s=>[(7,.int .i64 (s.1:Int)),(5,s.2.1),(6,.slice ca cl.length cc),(0,.int .u8 n)]) (fun s=>Rw 47 7 s.2.1 s.2.2.length (mJ s.2.2)::Rw 47 7 (.slice ca cl.length cc) cl.length (mJ cl)::R) (fun s=>s.1≤cl.length∧Sl s.2.2.length s.2.1∧s.2.2.length≤s.1∧∀ y∈s.2.2,OkA y∧y.kd≠0) (fun s=>cl.length - s.1) (0,.slice (some ⟨b14,0,none⟩) 0 0,[]) (.c rfl (.c rfl (.c rfl (.c rfl .n)))) .refl (⟨Nat.zero_le _,⟨_,_,rfl⟩,Nat.le_refl _,fun y hy=>(by cases hy)⟩) (fun s hs=>?_);obtain ⟨j,va,al⟩:=s;dsimp only at hs;obtain ⟨hj,⟨aa,ac,rfl⟩,hal,hok⟩:=hs;refine Au ?_;refine GC.cond rfl (fun c20=>?_) (fun c20=>?_)
 ·simp only [decide_eq_true_eq] at c20;have hj9:j < cl.length:=by omega
  refine GC.know (fun w h=>h.dV .p1 (by omega)) (fun hg=>?_);obtain ⟨gc,rfl⟩:=hg;refine Au ?_;refine Lu rfl (EX.indexAddr (a:=j * 7) rfl rfl sL (by omega) (by simp)) ?_;refine Au ?_;refine Lu rfl (EX.tU rfl (show (mJ cl)[j * 7 + 0]?=some (.int .i64 cl[j].kd) from (A0 hj9 0 (by decide)).trans rfl) oN) ?_;refine Au ?_;refine GC.cond rfl (fun c28=>?_) (fun c28=>?_)
  ·refine Au ?_;refine Lu rfl (EX.indexAddr (a:=j * 7) rfl rfl sL (by omega) (by simp)) ?_;refine Lu rfl (EX.rW (cs:=acc cl[j]) rfl (mN rfl) rfl (A0 hj9)) ?_;refine Ef (EF.buildSlice rfl bS rfl rfl rfl) fun b34 _=>?_;refine Ef (EF.append rfl rfl NV (fun v=>.there (.here)) .p0 (rfl) (rfl) (by dsimp only; unfold maxLen; omega) (by dsimp only; omega)) fun v35 aR1=>?_;obtain ⟨aS1,aSn,rfl⟩:=aR1;refine GL.turn (fun w h=>h.part (.t1 .refl)) ?_;refine GL.turn (fun w h=>NZ h) ?_;refine Au ?_;refine La ?_;refine Au ?_;exact GE.ag ((j + 1,.slice aS1 (al.length + 1) aSn,al++[cl[j]]):Nat × Value × List Ac) (.c (by rw [← Int.natCast_succ]; rfl) (.c rfl (.c rfl (.c rfl .n)))) (.t0 (.t1 (.d .refl))) (by dsimp only; omega) ((by refine ⟨by dsimp only; omega,⟨_,_,by rw [List.length_append]; rfl⟩,by rw [List.length_append]; dsimp only [List.length]; omega,fun y hy=>?_⟩; rcases List.mem_append.1 hy with h | h; exact hok y h; rw [List.mem_singleton.1 h]; exact ⟨hco _ (List.getElem_mem hj9),by simpa using c28⟩))
  refine Au ?_;refine La ?_;refine Au ?_;exact GE.ag ((j + 1,.slice aa al.length ac,al):Nat × Value × List Ac) (.c (by rw [← Int.natCast_succ]; rfl) (.c rfl (.c rfl (.c rfl .n)))) .refl (by dsimp only; omega) ((by refine ⟨by dsimp only; omega,⟨_,_,rfl⟩,by dsimp only; omega,hok⟩))
 refine Au ?_;refine Lu rfl (EX.conv rfl uN uN (wi (by omega))) ?_;refine Au ?_;refine K.xa (EC.direct eN rfl) (OC W0 hF bU _ _ _ _ (by omega) hok) (.one .p0) (fun _=>(.c (.c (.a4)))) rfl rfl (.free rfl) (fun y hy=>?_);obtain ⟨bw,bs,gw,cw,bk,aH,⟨sa,sc,sent,now,drawn,f0,f1,zs,l,aD⟩⟩:=y;dsimp only at hy ⊢;obtain ⟨A,k,hk,hI⟩:=hy;have hn:=hI.n2;refine Au ?_;refine Lu rfl (EX.T8 rfl rfl uN) ?_;refine Au ?_;refine GC.bH rfl rfl ?_;refine Au ?_;refine GC.lp (σ:=Nat) (fun s=>[(9,.int .i64 (s:Int)),(8,ptr bw)]) (fun s=>Bk bw 142 [ptr bs,.slice (some ⟨gw,0,none⟩) aH.length cw,.int .u64 now,.int .u64 drawn,.slice sa sent.length sc,.slice none 0 0,.map (some bk),.bool f0,.bool f1]::Rw 23 1 (.slice (some ⟨gw,0,none⟩) aH.length cw) aH.length (aH.map ptr)::pos bs zs::St bs l 65536::Rw 291 3 (.slice sa sent.length sc) sent.length (hP sent)::Mp (aC .i64) bk aD::R) (fun s=>s≤3) (fun s=>3 - s) 0 (.c rfl (.c rfl .n)) (.t0 (.t0 (.t0 (.t0 (.t0 (.t0 (.d .refl))))))) (by omega) (fun s hs=>?_);obtain ⟨j9,hj9⟩:∃ j,j=s:=⟨_,rfl⟩;subst hj9;have hj9:=hs;refine Au ?_;refine GC.cond rfl (fun c43=>?_) (fun c43=>?_)
 ·simp only [decide_eq_true_eq] at c43;refine Au ?_;refine GC.lp (σ:=Nat) (fun s=>[(10,.int .i64 (s:Int)),(9,.int .i64 (j9:Int)),(8,ptr bw)]) (fun s=>Bk bw 142 [ptr bs,.slice (some ⟨gw,0,none⟩) aH.length cw,.int .u64 now,.int .u64 drawn,.slice sa sent.length sc,.slice none 0 0,.map (some bk),.bool f0,.bool f1]::Rw 23 1 (.slice (some ⟨gw,0,none⟩) aH.length cw) aH.length (aH.map ptr)::pos bs zs::St bs l 65536::Rw 291 3 (.slice sa sent.length sc) sent.length (hP sent)::Mp (aC .i64) bk aD::R) (fun s=>s≤3) (fun s=>3 - s) 0 (.c rfl (.c rfl (.c rfl .n))) .refl (by omega) (fun s hs=>?_);refine Au ?_;refine GC.cond rfl (fun c47=>?_) (fun c47=>?_)
  ·simp only [decide_eq_true_eq] at c47;refine Au ?_;refine Kx (DJ _ _ _ _ _ _ _ _ _ _ _ _ _ _ hI.bp hI.hq hI.n2.2 _ _) (.cons .p0 (.cons .p0 (.cons .p0 .nil))) fun zd hzd=>?_;obtain ⟨z1,z2,z3⟩:=zd;obtain rfl:z1=0:=hzd;refine Au ?_;refine GL.case 60 rfl (fun g60=>?_) (fun g60=>?_)
   ·refine Au ?_;refine GC.aQ rfl rfl ?_;exact P9
   refine Au ?_;refine K.x (EC.direct eN rfl) (DE _ _ _ _ _ _ _ _ _ _ _ _ _ _ hI.bp hI.hq hI.n2.2 _ _) (.cons .p0 (.cons .p0 (.cons .p0 .nil))) (fun _=>.a3) rfl rfl (.guard rfl rfl rfl rfl g60) (fun _ _=>?_);refine Au ?_;refine GC.cond rfl (fun c67=>?_) (fun c67=>?_)
   ·exfalso;simp_all
   refine Au ?_;refine La ?_;refine Au ?_;exact GE.ag (s + 1) (.c (by rw [← Int.natCast_succ]; rfl) (.c rfl (.c rfl .n))) .refl (by omega) (by omega)
  refine Au ?_;refine La ?_;refine Au ?_;exact GE.ag (j9 + 1) (.c (by rw [← Int.natCast_succ]; rfl) (.c rfl .n)) .refl (by omega) (by omega)
 refine Au ?_;refine Kx (mL _ _ _ _ _ _ _ _ _ _ _ _ _ ) (.one .p0) fun _ _=>?_;refine Au ?_;refine GL.case 72 rfl (fun g72=>?_) (fun g72=>?_)
 ·refine Au ?_;refine K.x (EC.direct eN rfl) (OS _ _ _ _ _ _ _ _ _ _ _ _ _ _ _ _ _ _ (by omega) hI) (.cons .p0 (.cons .p0 (.cons .p0 (.cons .p0 (.cons .p0 (.cons .p0 .nil)))))) (fun _=>(.c (.c (.a4)))) rfl rfl (.guard rfl rfl rfl rfl g72) (fun zj _=>?_);refine Lr.run (.g (EX.T4 rfl) rfl (.q g72) .s) rfl ?_;refine Au ?_;refine GL.case 77 rfl (fun g77=>?_) (fun g77=>?_)
  ·refine K.xa (EC.direct eN rfl) (YV W0 hF bU) .nil (fun _=>.a0) rfl rfl (.guard rfl rfl rfl rfl g77) (fun _ _=>?_);exact P9
  exact P9
 exact P9
end
section
theorem DS {H:Type} {enc:TypeId × Value→H} {P:Program} {w:World} {base:Nat} {sp:Nat→Bool} {held:Bool} {fuel:Nat} {t e:TypeId} {n:Nat} {cs:List Value} {zs:List (List UInt8)} {p:List MemPlace}
  (ht:P.underlying t=some (.array n e)) (he:P.underlying e=some .string) (hce:P.cellsOf e=1) (hct:P.cellsOf t=n)
  (h:DataW.trod enc P w base sp held fuel t cs=some (.agg (zs.map fun z=>.lit (.string z)),p)):cs=zs.map fun z=>Value.string ⟨z.toArray⟩:=by
 cases fuel with
 | zero=>simp [DataW.trod] at h
 | succ fuel =>
  simp only [DataW.trod,ht,hce,hct,Nat.mul_one] at h;split at h
  ·rename_i hl;obtain ⟨xs,hm,hx⟩:=Option.map_eq_some_iff.1 h;have hxs:xs.map (·.1)=zs.map fun z=>(DataW.lit (.string z):DataW H):=by
    have:=congrArg Prod.fst hx;simpa using this
   have hxl:xs.length=n:=by simpa using Lib.mapM_length hm
   have hzl:zs.length=n:=by
    have:=congrArg List.length hxs;simp at this;omega
   apply List.ext_getElem?;intro i
   by_cases hi:i < n
   ·obtain ⟨b,hb,hf⟩:=Lib.mapM_at hm i i (by simp [hi]);obtain ⟨z,hc,rfl,_⟩:=DataW.trod_string he hf;have h1:cs[i]?=some (.string z):=by
     have:=congrArg (·[0]?) hc;simpa [List.getElem?_take,List.getElem?_drop] using this
    have h2:(xs.map (·.1))[i]?=some (DataW.lit (.string z.data.toList):DataW H):=by simp [hb]
    rw [hxs] at h2;simp only [List.getElem?_map,Option.map_eq_some_iff,DataW.lit.injEq,Lit.string.injEq] at h2;obtain ⟨z',hz',rfl⟩:=h2;simp [h1,hz']
   rw [List.getElem?_eq_none (by omega),List.getElem?_eq_none (by simp; omega)]
  cases h
theorem MS : Tryz.prog.globalNamed "sough/script.fields" = some 0 := by kernel_rfl
def fieldsB:List (List UInt8):=[[65,66,67],[78,67,65,66],[65,66,83],[65,66],[65,66,67],[78],[65,66,83],[68,65,66,67,78,83],[65],[78]]
theorem FU {W : World} (h : laidMetH Tryz.prog Rows.topTampersRow.laid W) : W.var? Tryz.prog "sough/script.fields" = some (fieldsB.map fun z => Value.string ⟨z.toArray⟩).toArray := by
 have h:laidMet Tryz.prog Rows.topTampersRow.laid W:=h;obtain ⟨ps,hl,_⟩:=h;obtain ⟨_,_,_,_,_,q1,_,_,_,_,hl1,_⟩:=hl;obtain ⟨_,_,_,_,_,q2,_,_,_,_,hl2,_⟩:=hl1;obtain ⟨_,_,_,_,_,q3,_,_,_,_,hl3,_⟩:=hl2;obtain ⟨g,t,cs,fuel,p,q,hg,hty,hvar,hd,_,_⟩:=hl3;obtain rfl:=Option.some.inj (MS.symm.trans hg);obtain ⟨t',e,ht',hu,he,hce,hct⟩:∃ t e,(Tryz.prog.globals[0]?).map (·.type)=some t∧Tryz.prog.underlying t=some (.array 10 e)∧Tryz.prog.underlying e=some .string∧Tryz.prog.cellsOf e=1∧Tryz.prog.cellsOf t=10:=by
  refine ⟨322,9,by kernel_rfl,Tryz.underlying322,Tryz.underlying9,by kernel_rfl,by kernel_rfl⟩
 obtain rfl:=Option.some.inj (ht'.symm.trans hty);have:=DS (zs:=fieldsB) hu he hce hct hd;rw [hvar,← this]
namespace EV
theorem JQ:∀ (o:Nat) (v:SV),uZ[o]?=some v→∃ z:List UInt8,fieldsB[o]?=some z∧∀ g,aE g v=some (.string ⟨z.toArray⟩):=by
 intro o v h;match o,h with
 | 0,h=>injection h with h; subst h; exact ⟨_,rfl,fun g=>rfl⟩
 | 1,h=>injection h with h; subst h; exact ⟨_,rfl,fun g=>rfl⟩
 | 2,h=>injection h with h; subst h; exact ⟨_,rfl,fun g=>rfl⟩
 | 3,h=>injection h with h; subst h; exact ⟨_,rfl,fun g=>rfl⟩
 | 4,h=>injection h with h; subst h; exact ⟨_,rfl,fun g=>rfl⟩
 | 5,h=>injection h with h; subst h; exact ⟨_,rfl,fun g=>rfl⟩
 | 6,h=>injection h with h; subst h; exact ⟨_,rfl,fun g=>rfl⟩
 | 7,h=>injection h with h; subst h; exact ⟨_,rfl,fun g=>rfl⟩
 | 8,h=>injection h with h; subst h; exact ⟨_,rfl,fun g=>rfl⟩
 | 9,h=>injection h with h; subst h; exact ⟨_,rfl,fun g=>rfl⟩
 | n + 10,h=>cases h
theorem RO {W:World} (h:laidMetH Tryz.prog Rows.topTampersRow.laid W):eT.Ok Tryz.prog W:=by
 refine T1 aLe (fun b l hb o v ho=>?_);have hb':(Nat.beq b 0 && allA l uZ)=true:=hb;simp only [Bool.and_eq_true] at hb';have e1:=Nat.eq_of_beq_eq_true hb'.1;have e2:=jD lB hb'.2;subst e1; subst e2;obtain ⟨z,h1,h2⟩:=JQ o v ho;refine ⟨_,h2,?_⟩;rw [World.var?_cell MS (FU h) o];simp [h1]
end EV
end
end Go.Proofs.YtadggjnohohedaaGreatDoor
