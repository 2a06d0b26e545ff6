/-
  The tied card of TopAlone: for every input the call returns true, and each argument reads behind the call as it read before.
  No condition beyond the given row: the listed package variables read as the program's text lays them.
-/
import Derived.Test.YtadggjnohohedaaGreatDoorA7
import Derived.Deep.Slices
import Derived.Test.YtadggjnohohedaaGreatDoorCards
import Derived.Test.YtadggjnohohedaaGreatDoorTie
import Derived.WalkKit
import Derived.ProofKit
import Derived.OpenShut
import Derived.ChangeOld
import Derived.Below
import Derived.Deep.DeepHandedRow
set_option linter.unusedVariables false
set_option linter.unusedSimpArgs false
set_option linter.unusedSectionVars false
set_option maxRecDepth 1000000
open Go.RowKit
namespace Go.Proofs.YtadggjnohohedaaGreatDoor
section
theorem aP0 {l:List Value} (h:l.length=7):∃ a b c d e f g,l=[a,b,c,d,e,f,g]:=by
 match l,h with
 | [a,b,c,d,e,f,g],_=>exact ⟨a,b,c,d,e,f,g,rfl⟩
theorem PQ {H:Type} {enc:TypeId × Value→H} {w:World} {base:Nat} {spare:Nat→Bool} {held:Bool} {fuel:Nat} {a:Option Addr} {len cap:Nat} {x:DataW H × List MemPlace} (h:DataW.trod enc Tryz.prog w base spare held fuel 44 [.slice a len cap]=some x):A4 w a len:=by
 have c47:Tryz.prog.cellsOf 47=7:=by kernel_rfl
 have c3:Tryz.prog.cellsOf 3=1:=by kernel_rfl
 have c30:Tryz.prog.cellsOf 30=1:=by kernel_rfl
 have c9:Tryz.prog.cellsOf 9=1:=by kernel_rfl
 rcases Go.Deep.open_slice Tryz.underlying44 h with ⟨hcs,_⟩ | ⟨x,l,c,m,n,D,Pl,hcs,_,hl,hm,hmm,_,hi⟩
 ·simp at hcs;obtain ⟨rfl,rfl,rfl⟩:=hcs;exact ⟨Nat.zero_le _,fun i hi=>absurd hi (Nat.not_lt_zero i)⟩
 simp at hcs;obtain ⟨rfl,rfl,rfl⟩:=hcs;have hlm:len≤m:=by rw [hmm]; split <;> omega
 refine ⟨by unfold maxLen at hm; omega,fun i hil=>?_⟩;obtain ⟨cs',hc,htr⟩:=hi i (by omega);rw [c47] at hc;obtain ⟨xs,m',_,_,hlen,hxl,hel⟩:=DataW.trod_struct Tryz.underlying47 htr;rw [c47] at hlen;obtain ⟨_,_,hat⟩:=World.cells?_some hc;obtain ⟨v0,v1,v2,v3,v4,v5,v6,rfl⟩:=aP0 hlen;have hx7:xs.length=7:=hxl;have at_:∀ j (hj:j < 7),xs[j]?=some (xs[j]'(by omega)):=fun j hj=>List.getElem?_eq_getElem (by omega);have e0:DataW.trod enc Tryz.prog w base spare held m' 3 (([v0,v1,v2,v3,v4,v5,v6].drop 0).take (Tryz.prog.cellsOf 3))=xs[0]?:=hel 0 _ rfl;have e1:DataW.trod enc Tryz.prog w base spare held m' 3 (([v0,v1,v2,v3,v4,v5,v6].drop 1).take (Tryz.prog.cellsOf 3))=xs[1]?:=hel 1 _ rfl;have e2:DataW.trod enc Tryz.prog w base spare held m' 3 (([v0,v1,v2,v3,v4,v5,v6].drop 2).take (Tryz.prog.cellsOf 3))=xs[2]?:=hel 2 _ rfl;have e3:DataW.trod enc Tryz.prog w base spare held m' 3 (([v0,v1,v2,v3,v4,v5,v6].drop 3).take (Tryz.prog.cellsOf 3))=xs[3]?:=hel 3 _ rfl;have e4:DataW.trod enc Tryz.prog w base spare held m' 3 (([v0,v1,v2,v3,v4,v5,v6].drop 4).take (Tryz.prog.cellsOf 3))=xs[4]?:=hel 4 _ rfl;have e5:DataW.trod enc Tryz.prog w base spare held m' 30 (([v0,v1,v2,v3,v4,v5,v6].drop 5).take (Tryz.prog.cellsOf 30))=xs[5]?:=hel 5 _ rfl;have e6:DataW.trod enc Tryz.prog w base spare held m' 9 (([v0,v1,v2,v3,v4,v5,v6].drop 6).take (Tryz.prog.cellsOf 9))=xs[6]?:=hel 6 _ rfl;rw [c3,at_ 0 (by decide)] at e0;rw [c3,at_ 1 (by decide)] at e1;rw [c3,at_ 2 (by decide)] at e2;rw [c3,at_ 3 (by decide)] at e3;rw [c3,at_ 4 (by decide)] at e4;rw [c30,at_ 5 (by decide)] at e5;rw [c9,at_ 6 (by decide)] at e6;obtain ⟨n0,q0,_,_⟩:=DataW.trod_int Tryz.underlying3 e0;obtain ⟨n1,q1,_,_⟩:=DataW.trod_int Tryz.underlying3 e1;obtain ⟨n2,q2,_,_⟩:=DataW.trod_int Tryz.underlying3 e2;obtain ⟨n3,q3,_,_⟩:=DataW.trod_int Tryz.underlying3 e3;obtain ⟨n4,q4,_,_⟩:=DataW.trod_int Tryz.underlying3 e4;obtain ⟨n5,q5,_,w5⟩:=DataW.trod_int Tryz.underlying30 e5;obtain ⟨s6,q6,_,_⟩:=DataW.trod_string Tryz.underlying9 e6;have t0:v0=.int .i64 n0:=List.head_eq_of_cons_eq (show v0::[]=_ from q0);have t1:v1=.int .i64 n1:=List.head_eq_of_cons_eq (show v1::[]=_ from q1);have t2:v2=.int .i64 n2:=List.head_eq_of_cons_eq (show v2::[]=_ from q2);have t3:v3=.int .i64 n3:=List.head_eq_of_cons_eq (show v3::[]=_ from q3);have t4:v4=.int .i64 n4:=List.head_eq_of_cons_eq (show v4::[]=_ from q4);have t5:v5=.int .u64 n5:=List.head_eq_of_cons_eq (show v5::[]=_ from q5);have t6:v6=.string s6:=List.head_eq_of_cons_eq (show v6::[]=_ from q6);subst t0; subst t1; subst t2; subst t3; subst t4; subst t5; subst t6;have hc0:w.cell? (x.add (i * 7))=some (.int .i64 n0):=by
  have:=hat 0 (by decide);rw [Go.Deep.add_add] at this;simpa using this
 have hspot:x.spot=none:=by
  obtain ⟨ds,hd,_⟩:=hi 0 (by omega);rw [c47] at hd;obtain ⟨_,hdl,hda⟩:=World.cells?_some hd;have h3:=hda 0 (by decide);rw [List.getElem?_eq_getElem (by omega),Go.Deep.add_add] at h3;have h4:=World.cell?_spot h3;simpa [Addr.add] using h4
 obtain ⟨xb,xo,xp⟩:=x;simp at hspot;subst hspot;have had:∀ o k,(⟨xb,o,none⟩:Addr).add k=⟨xb,o + k,none⟩:=fun o k=>by
  unfold Addr.add;split
  ·rename_i hk; subst hk; rfl
  rfl
 refine ⟨xb,xo,⟨n0,n1,n2,n3,n4,n5,s6⟩,rfl,?_,?_,fun j hj=>?_⟩
 ·rcases Nat.lt_or_ge xb w.heap.size with h1 | h1
  ·exact h1
  rw [had] at hc0;unfold World.cell? at hc0;rw [show w.heap[(⟨xb,xo + i * 7,none⟩:Addr).block]?=none from Array.getElem?_eq_none h1] at hc0;cases hc0
 ·have h1:IntKind.u64.min≤n5∧n5≤IntKind.u64.max:=by simpa [Lit.wf] using w5
  have e1:IntKind.u64.min=0:=rfl;rw [e1] at h1;exact h1.1
 have:=hat j hj;rw [had,had] at this;exact this
theorem OM (a0:Int) (w0:(Lit.int .u8 a0).wf=true) (la:Option Addr) (m lc:Nat) (W:World) (hold:A4 W la m) (hL:laidMetH Tryz.prog Rows.topAloneRow.laid W) :
  Calls Tryz.prog 4 #[.int .u8 a0,.slice la m lc] W fun e w'=>e=.returned (.bool true)∧Below W.heap.size W w':=by
 have h1:IntKind.u8.min≤a0∧a0≤IntKind.u8.max:=by simpa [Lit.wf] using w0
 have e1:IntKind.u8.min=0:=rfl;have e2:IntKind.u8.max=255:=rfl;rw [e1,e2] at h1;refine (OG W (EV.RO hL) (by kernel_rfl) a0 (by omega) la m lc hold W [] (aB.nil W)).mono ?_;rintro e w' ⟨_,_,rfl,h⟩;exact ⟨rfl,h.1⟩
end
end Go.Proofs.YtadggjnohohedaaGreatDoor
namespace Go.Proofs.YtadggjnohohedaaGreatDoor.topAlone
open Go.ChangeShapes Go.WideShapes Go.ChangeAt Go.RowKit
theorem laidOut:laidOutB Tryz.prog=true:=by kernel_rfl
theorem own:ownKnob Tryz.prog.godebug=none:=by kernel_rfl
set_option maxRecDepth 100000 in
theorem contract (H:Type) (enc:TypeId × Value→H) (W:World) (base:Nat) (args:Array Value) (ds gs:List (DataW H)) (before:List MemPlace)
  (hval:∀ (j:Nat) t v,Tryz.f4.params[j]?=some t→args[j]?=some v→Value.okWide Tryz.prog W .any base t v)
  (hW:DataW.Whole enc Tryz.prog Tryz.f4.params.toList Rows.topAloneSpec.vars false W args.toList ds gs before) (hL:laidMetH Tryz.prog Rows.topAloneRow.laid W) :
  Calls Tryz.prog 4 args W fun e W'=>∃ v,e=.returned v∧Rows.topAloneSpec.post enc Tryz.prog Tryz.f4 false true false false W args v W':=by
 have hW':=hW;obtain ⟨p,q,hA0,hV,rfl,hfz,hnd⟩:=hW;have hA:DataW.TrodAll enc Tryz.prog W 0 (fun _=>true) true Tryz.f4.params.toList args.toList ds p:=hA0;rw [Tryz.params4] at hA hval;obtain ⟨v0,vs0,d0,ds0,p0,q0,hargs,rfl,rfl,h0,r0⟩:=trodAll_cons hA;obtain ⟨v1,vs1,d1,ds1,p1,q1,rfl,rfl,rfl,h1,r1⟩:=trodAll_cons r0;obtain ⟨rfl,rfl,rfl⟩:=trodAll_nil r1;obtain rfl:args=#[v0,v1]:=by cases args; simp_all
 obtain ⟨rfl,rfl⟩:=trodVars_none hV;obtain ⟨a0,rfl,rfl,rfl,w0⟩:=open_int Tryz.underlying5 (hval 0 5 v0 rfl rfl) h0;have k1:=h1;have lt1:∀ x∈p1,x.block < W.heap.size:=by obtain ⟨m,hm⟩:=k1; exact DataW.trod_lt m _ _ _ hm
 obtain ⟨a1,aI0,aSt,rfl⟩:=okWide_slice Tryz.underlying44 (hval 1 44 v1 rfl rfl);have w1:A4 W a1 aI0:=by
  obtain ⟨fuel,hf⟩:=h1;exact PQ (by simpa [Value.cells] using hf)
 clear hA0;refine (OM a0 w0 a1 aI0 aSt W w1 hL).mono fun e W' ⟨he,bel⟩=>?_;subst he;exact ⟨_,rfl,_,_,_,[],_,[],hW',(trodAll_cons_mk (shut_bool Tryz.underlying4 _) trodAll_mk0),(trodAll_cons_mk (shut_int Tryz.underlying5 w0) (trodAll_cons_mk (Below.trod laidOut (by kernel_rfl) (of_decide_eq_true (by as_aux_lemma=>kernel_rfl)) k1 bel lt1) trodAll_mk0)),rfl,bel.frame _,fun h=>by cases h⟩
noncomputable def lay (w : World) (b : Nat) (cs : Array Value) : World :=
  { w with heap := w.heap.modify b fun
      | .cells _ t frozen => .cells cs t frozen
      | o => o }
noncomputable def u8s (l:List Nat):Array Value:=(l.map fun (n:Nat)=>Value.int .u8 (n:Int)).toArray
noncomputable def rX (os:Os):World :=
 lay (lay (lay (lay (World.holding Tryz.prog os ⟨#[],#[],[]⟩) 0 (fieldsB.map fun z=>Value.string ⟨z.toArray⟩).toArray)
  2 (([1,10,100,1000,10000,100000,1000000,10000000,100000000,1000000000,10000000000,100000000000,1000000000000,10000000000000,100000000000000,1000000000000000,10000000000000000,100000000000000000,1000000000000000000,10000000000000000000]:List Nat).map fun (n:Nat)=>Value.int .u64 (n:Int)).toArray)
  3 (u8s [0,1,28,2,29,14,24,3,30,22,20,15,25,17,4,8,31,27,13,23,21,19,16,7,26,12,18,6,11,5,10,9]))
  4 (u8s [0,1,56,2,57,49,28,3,61,58,42,50,38,29,17,4,62,47,59,36,45,43,51,22,53,39,33,30,24,18,12,5,63,55,48,27,60,41,37,16,46,35,44,21,52,32,23,11,54,26,40,15,34,20,31,10,25,14,19,9,13,8,7,6])
theorem XH (os:Os):laidMet Tryz.prog Rows.topAloneRow.laid ((rX os).forCall (fun _ _=>0) ⟨#[],#[.int .u8 0,.slice none 0 0],[]⟩).memory :=
 laidMet_of_run' 8 (by kernel_rfl) (by kernel_rfl)
theorem reads (os:Os) {H:Type} (enc:TypeId × Value→H):∃ places,DataW.whole enc Tryz.prog ((rX os).forCall (fun _ _=>0) ⟨#[],#[.int .u8 0,.slice none 0 0],[]⟩).memory Tryz.f4.params.toList Rows.topAloneSpec.vars false #[Value.int .u8 0,Value.slice none 0 0].toList 8=some ([.lit (.int .u8 0),.nil],[],places) :=
 ⟨[],by kernel_rfl⟩
set_option maxRecDepth 100000 in
theorem lifted (os:Os) (started:os.Started) (H:Type) (enc:TypeId × Value→H) (F:Stop.Interp) :
  ReturnsInHanded {} Tryz.checked os 4 .any ((OpenSpec.ofChange Rows.topAloneSpec).preRow enc Tryz.prog Tryz.f4 Rows.topAloneRow.domain false Rows.topAloneRow.laid) (((OpenSpec.ofChange Rows.topAloneSpec).at F).post enc Tryz.prog Tryz.f4 false true false false):=by
 obtain ⟨places,hx⟩:=reads os enc;refine returnsInHanded_of_row (C:=Tryz.checked) (s:=OpenSpec.ofChange Rows.topAloneSpec) own started (by kernel_rfl) Tryz.func4
  (witness_row_at (enc:=enc) (C:=Tryz.checked) false (rX os) #[.int .u8 0,.slice none 0 0] rfl (by kernel_rfl) (by kernel_rfl) (by kernel_rfl)
   (OpenSpec.preRow_of_cond 8 hx (by kernel_rfl) (fun k hk=>by cases hk) (by kernel_rfl) (XH os))) ?_
 intro W base args ds gs before hval hW _ _ _ hL _ _;exact contract H enc W base args ds gs before hval hW hL
set_option maxHeartbeats 40000000 in
theorem said:Rows.TopAloneSaid :=
 OpenClaim.holds_of_cond 4 Tryz.f4 rfl rfl rfl rfl rfl rfl rfl ⟨rfl,rfl,rfl,rfl,rfl⟩ rfl rfl rfl rfl rfl (by as_aux_lemma=>kernel_rfl) Tryz.func4 (by as_aux_lemma=>kernel_rfl)
  (of_decide_eq_true (by as_aux_lemma=>kernel_rfl)) (by unfold Func.isWrapper; first | (rw [if_pos (by decide +kernel)]; kernel_rfl) | (rw [if_neg (by decide +kernel)]; exact ⟨rfl,rfl⟩))
  (fun os started H enc _ F=>by rw [OpenClaim.pre_eq_preRow]; exact lifted os started H enc F)
theorem plain (f : FuncId) (fn : Func) (hf : Tryz.pinned.checked.prog.funcNamed "sough/soughtop.TopAlone" = some f) (hfn : Tryz.pinned.checked.prog.funcs[f]? = some fn) :
  true=Tryz.pinned.checked.prog.looks []∧∀ (j:Nat) t,fn.params[j]?=some t→Tryz.pinned.checked.prog.wantsStandIn t=false:=by
 obtain rfl : f = 4 := Option.some.inj ((show Tryz.prog.funcNamed "sough/soughtop.TopAlone" = some 4 by kernel_rfl).symm.trans hf) |>.symm;obtain rfl:fn=Tryz.f4:=(Option.some.inj (Tryz.func4.symm.trans hfn)).symm;refine ⟨by kernel_rfl,fun j t ht=>?_⟩;rw [Tryz.params4] at ht;have h5:t=5∨t=44:=by simpa using Array.mem_of_getElem? ht
 rcases h5 with rfl | rfl
 ·exact (show Tryz.prog.wantsStandIn 5=false by kernel_rfl)
 exact (show Tryz.prog.wantsStandIn 44=false by kernel_rfl)
theorem proved:Rows.TopAloneCardSaid :=
 Claim7.holds_tied_plain_at .later [] _ _ _ _ said (fun _ h=>by cases h) (by kernel_rfl) (fun _ h=>by cases h) topAlone_row_tie rfl ⟨rfl,rfl⟩ (by kernel_rfl) rfl plain (by kernel_rfl)
#print axioms proved
end Go.Proofs.YtadggjnohohedaaGreatDoor.topAlone
