/- What the proof rests on, part 23: contracts of functions. No condition beyond what each states. -/
import Derived.Test.YtmmafcjjlbgnkaaGreatDoorZBiE22
namespace Go.Proofs.YtmmafcjjlbgnkaaGreatDoor
open Go.RowKit
open Nat renaming reduceEqDiff→Rq,reduceBEq→Rb,reduceAdd→Ra,reduceSub→Rs
open Int renaming reduceToNat→Rt
set_option linter.all false
set_option maxHeartbeats 32000000
noncomputable section
def ail:Fun:=F1 iy fun b=>if aeL b.1∧atY b.2.1 then some (bv true)else none
def aoX:Ctx:={fn:=aT [(16,vM),(17,vW),(14,φBi),(18,ahL),(22,vV)],io:=aT [(13,(qQ ΨBi)),(21,wG)]}
theorem aJ:au Tryz.prog aoX:=okΓ (fC Tryz.func16 aoy (fC Tryz.func17 aoN (fC Tryz.func14 amI (fC Tryz.func18 (nL.nil 1) (fC Tryz.func22 (ze.nil 1) aj))))) (fD Tryz.func13 xH.lift (fD Tryz.func21 ahZ aj))
def aoR:=ah (Γ:=aoX) (f:=16) (φ:=vM) rfl
def al5:=ah (Γ:=aoX) (f:=17) (φ:=vW) rfl
def am1:=ah (Γ:=aoX) (f:=14) (φ:=φBi) rfl
def ale:=ah (Γ:=aoX) (f:=18) (φ:=ahL) rfl
def akG:=ah (Γ:=aoX) (f:=22) (φ:=vV) rfl
theorem aoS:aoX.io 13=some (qQ ΨBi):=rfl
theorem anl:aoX.io 21=some wG:=rfl
set_option maxRecDepth 20000 in
theorem lawBiE_ok:Sound Tryz.prog 5 ail:=by
 refine HZ.sound (N:=96) (rs:=[.tmp 2]) Tryz.func5 rfl rfl rfl fun ps r hr=>?_;obtain⟨⟨p,q,x,y,z⟩,rfl,hq⟩:=bC hr;clear hr;split at hq
 case isFalse=>cases hq
 case isTrue hpre=>
 cases hq;refine⟨by simp,fun B w00=>HZ.start ?_⟩;simp only[dIs,dUs,dSs,bP,bS,bQ,bT,aP,bR,aQ,aO,aR,aL];(try dsimp only at hpre⊢);show HZ _ _ _ _ _ _ ⟨(bX [vJ p q x y z]).tm,fun _=>none,0⟩ _;have ap1:=@aei p q x y z hpre.1 hpre.2;clear hpre;by_cases hneg:atp p q<0
 ·have gbif_c16:=aoR;have gbif_c17:=al5;have gbif_c14:=am1;have gbif_c13:=aoS;have gbif_c18:=ale;have gbif_c22:=akG;have gbif_c21:=anl
  (refine HZ.seq (HZ.eng mixed aJ (by kernel_rfl) ?_);(try dsimp only);((refine wlk ?_;intros));(try dsimp only[X.out]);(try simp only[↓reduceIte]));(refine HZ.seq (HZ.eng mixed aJ (by kernel_rfl) ?_);(try dsimp only);((refine wlk ?_;intros));(try dsimp only[X.out]);(try simp only[↓reduceIte]));(refine HZ.seq (HZ.eng mixed aJ (by kernel_rfl) ?_);(try dsimp only);((refine wlk ?_;intros));(try dsimp only[X.out]);(try simp only[↓reduceIte]));(refine HZ.seq (HZ.eng mixed aJ (by kernel_rfl) ?_);(try dsimp only);((refine wlk ?_;intros));(try dsimp only[X.out]);(try simp only[↓reduceIte]));refine⟨by simp,⟨_,fun g w v h=>h,by(exact sr)⟩,fun i e=>False.elim e⟩
 obtain⟨hs,hb,hlt⟩:=apY (p:=p) (q:=q) (by omega);have hss:aFC p:=⟨hb.1,fun k=>(hb.2.1 k).1⟩;have ap2:=@aeh p q x y z hs hb.2.2.1;have ap3:=ayy (x:=x) (y:=y) (z:=z) hb;have hqs:=hb.2.2.1;generalize atp p q=sz at*;have gbif_c16:=aoR;have gbif_c17:=al5;have gbif_c14:=am1;have gbif_c13:=aoS;have gbif_c18:=ale;have gbif_c22:=akG;have gbif_c21:=anl;(refine HZ.seq (HZ.eng mixed aJ (by kernel_rfl) ?_);(try dsimp only);((refine wlk ?_;intros));(try dsimp only[X.out]);(try simp only[↓reduceIte]));(refine HZ.seq (HZ.eng mixed aJ (by kernel_rfl) ?_);(try dsimp only);((refine wlk ?_;intros));(try dsimp only[X.out]);(try simp only[↓reduceIte]));(refine HZ.seq (HZ.eng mixed aJ (by kernel_rfl) ?_);(try dsimp only);((refine wlk ?_;intros));(try dsimp only[X.out]);(try simp only[↓reduceIte]));(refine HZ.seq (HZ.eng mixed aJ (by kernel_rfl) ?_);(try dsimp only);((refine wlk ?_;intros));(try dsimp only[X.out]);(try simp only[↓reduceIte]));(refine HZ.seq (HZ.eng mixed aJ (by kernel_rfl) ?_);(try dsimp only);((refine wlk ?_;intros));(try dsimp only[X.out]);(try simp only[↓reduceIte]));refine HZ.seq (HZ.each ?_);refine ZO.pre (imm:=⟨[],[],[]⟩) 1 aJ (by kernel_rfl) (by simp only[List.take_succ_cons,List.take_zero]<;>exact rfl) (by simp only[List.drop_succ_cons,List.drop_zero]<;>exact rfl) (by simp only[List.map_cons,List.map_nil]<;>exact rfl) ?_;(try dsimp only);(refine wlk ?_;intros);(try dsimp only);refine ZO.wV rfl rfl ⟨_,Tryz.func17,rfl,rfl⟩ rfl (by rintro y ⟨⟩;decide) (fun v σ'=>∃a n c a2 n2 c2 vs,v=bkV (.slice a n c) (.slice a2 n2 c2) x y z∧σ'=aiF 24 9 (.slice a n c) vs (.slice a2 n2 c2) p q∧∀i,(uJ (.slice a n c) vs i∨(Value.slice a2 n2 c2).ownBlock=some i)→B≤i) (fun a w1 hst=>?_) (fun v σ' ⟨a1,n1,c1,a2,n2,c2,vs,e1,e2,hbo⟩=>?_)
 ·obtain⟨⟨io,w0,g,hr,hC⟩,hM⟩:=hst
  simp only[List.map_toArray,List.map_cons,List.map_nil];have hrep:=hr.aEm (x:=.tmp 25) (q:=vJ p q x y z) (by(exact sr));have hT1:kr w1 fun _=>False:=(hr.tab.keep hr.fr fun t ht=>(hr.tab.apart t ht)).io fun _ _ q=>False.elim q;refine(aiD hss hqs (fun b hb=>hb) hT1 ⟨_,_,rfl,hrep,rfl⟩).mono ?_;rintro e w' ⟨vo,vs,vp,rfl,hf,hM2,hb2⟩;have hsz:=Nat.le_trans hC.sz hr.fr.size;obtain⟨a1,n1,c1,rfl⟩:=hM2.ss.out.sl;obtain⟨a2,n2,c2,rfl⟩:=hM2.row.sl;exact⟨_,_,rfl,⟨a1,n1,c1,a2,n2,c2,vs,rfl,rfl,fun i hi=>Nat.le_trans hsz (hb2 i hi)⟩,⟨hf.os,hf.tape,hf.output,hf.size,fun i hi _=>hf.block i hi fun e=>e⟩,fun i hi e=>by have:=hb2 i e;omega,fun i e=>False.elim e,fun i e=>hM2.lt e,hM2⟩
 subst e1 e2;have hc1:bJ (bkQ (.slice a1 n1 c1) (.slice a2 n2 c2) x y z)=some [.val (.slice a1 n1 c1),.val (.slice a2 n2 c2),.val (.int .i64 x),.val (.int .i64 y),.val (.int .i64 z)]:=rfl;dsimp only[AS.put];refine ZO.weak (t:=26) (p:=bkQ (.slice a1 n1 c1) (.slice a2 n2 c2) x y z) (fun g w v h=>au7 g w v h) ?_;(try dsimp only);refine ZO.pre (imm:=⟨[],[],[]⟩) 2 aJ (by kernel_rfl) (by simp only[List.take_succ_cons,List.take_zero]<;>exact rfl) (by simp only[List.drop_succ_cons,List.drop_zero]<;>exact rfl) (by simp only[List.map_cons,List.map_nil]<;>exact rfl) ?_;(try dsimp only);(refine wlk ?_;intros);(try dsimp only);refine ZO.nil ?_;(try dsimp only);refine HZ.seq (HZ.each ?_);refine ZO.pre (imm:=⟨[],[],[]⟩) 1 aJ (by kernel_rfl) (by simp only[List.take_succ_cons,List.take_zero]<;>exact rfl) (by simp only[List.drop_succ_cons,List.drop_zero]<;>exact rfl) (by simp only[List.map_cons,List.map_nil]<;>exact rfl) ?_;(try dsimp only);(refine wlk ?_;intros);(try dsimp only);by_cases h0:(biV p q x y z).length=0
 ·refine ZO.ao6 (Ψ:=ΨBi) (ps:=[vJ p q x y z]) (r:=.tup [.val (.slice none 0 0),bv (biB p q x y z)]) (r':=.tup [.val (.slice none 0 0),bv (biB p q x y z)]) (cs':=[]) (cs2:=[]) rfl rfl ⟨_,Tryz.func13,rfl,rfl⟩ rfl (by rintro y ⟨⟩;decide) xH ((yX (A:=iy) (p,q,x,y,z)).trans ((if_pos hb).trans (by dsimp only;rw[if_neg (by omega)]))) rfl rfl (fun a w1 hst=>?_) ?_
  ·obtain⟨⟨io,w0,g,hr,hC⟩,hM⟩:=hst
   have hM1:ahr 24 9 (.slice a1 n1 c1) vs (.slice a2 n2 c2) p q w1:=hM;have hX:=hr.look (.tmp 28);rw[show look _ (.tmp 28)=bkQ (.slice a1 n1 c1) (.slice a2 n2 c2) x y z from by(exact sr)]at hX;have hv:=oF hX;refine⟨fun i=>i<w1.heap.size,fun i hi=>hi,?_⟩;simp only[List.map_toArray,List.map_cons,List.map_nil];rw[hv];exact⟨_,_,rfl,hM1.rep,rfl⟩
  (try dsimp only[AS.put]);rw[ac4];have hΨ:ΨBi [vJ p q x y z]=some (.tup [.val (.slice none 0 0),bv (biB p q x y z)],[]):=(yX (A:=iy) (p,q,x,y,z)).trans ((if_pos hb).trans (by dsimp only;rw[if_neg (by omega)]));replace hΨ:=Lib.hid hΨ;rw[List.eq_nil_of_length_eq_zero h0]at ap3⊢;generalize biB p q x y z=b at*;have ap5:=aiI;refine ZO.pre (imm:=⟨[],[],[]⟩) 5 aJ (by kernel_rfl) (by simp only[List.take_succ_cons,List.take_zero]<;>exact rfl) (by simp only[List.drop_succ_cons,List.drop_zero]<;>exact rfl) (by simp only[List.map_cons,List.map_nil]<;>exact rfl) ?_;(try dsimp only);(refine wlk ?_;intros);(try dsimp only);refine ZO.nil ?_;(try dsimp only);(refine HZ.seq (HZ.eng mixed aJ (by kernel_rfl) ?_);(try dsimp only);((refine wlk ?_;intros));(try dsimp only[X.out]);(try simp only[↓reduceIte]));have hLK:True:=trivial;refine HZ.seq (HZ.seq ?_);refine HZ.avN (Γ:=aoX) (imm:=⟨[],[41,42],[0,1]⟩) (xs:=[41,43]) (d:=44) (RA:=fun v σ'=>v=.bool true∧σ'=aiF 24 9 (.slice a1 n1 c1) vs (.slice a2 n2 c2) p q) 3 mixed (by simp only[List.take_succ_cons,List.take_zero]<;>exact rfl) (by simp only[List.drop_succ_cons,List.drop_zero]<;>exact rfl) (by simp only[List.map_cons,List.map_nil]<;>exact rfl) rfl rfl rfl rfl (by kernel_rfl) (by kernel_rfl) (by kernel_rfl) (by kernel_rfl) (by kernel_rfl) (fun v=>by kernel_rfl) (fun io w0 g s a w hr hC hM=>aJ.w) ?_;(try dsimp only);(refine wlk ?_;intros);(try dsimp only);refine⟨?_,fun s a w hz e1 e2 e3 Kn Q' hK=>?_,?_⟩
  ·rintro v σ' ⟨rfl,rfl⟩ io w0 g s a w hr hC hM
   exact aJ.w
  ·have hA:bL (lG fun i=>i<w.heap.size) w [vJ p q x y z,vJ p q x y z] [a.eval (.tmp 41),a.eval (.tmp 43)]:=by
    have h52:s.tm 41=bkQ (.slice a1 n1 c1) (.slice a2 n2 c2) x y z:=(e3 41 (by decide)).symm.trans (by(exact sr));have h54:reify false 0 s.ob fuel (look s.tm (.tmp 43))=some (vJ p q x y z):=by rw[show look s.tm (.tmp 43)=s.tm 43 from rfl,←e3 43 (by decide),←e1];(exact sr)
    clear e1 e2 e3 hK;obtain⟨g,hlk,hall,hM⟩:=Zt.get hz;have hM1:ahr 24 9 (.slice a1 n1 c1) vs (.slice a2 n2 c2) p q w:=hM;have hX:=hlk (.tmp 41);rw[show look s.tm (.tmp 41)=s.tm 41 from rfl,h52]at hX;have hv:=oF hX;rw[hv];exact⟨_,_,rfl,hM1.rep,_,_,rfl,hall (.tmp 43) _ h54,rfl⟩
   exact Zt.aBj (ps:=[vJ p q x y z,vJ p q x y z]) (u:=.bool true) rfl rfl ⟨_,Tryz.func19,rfl,rfl⟩ rfl (by decide) acL (@xw p q x y z hs hqs) hz (Jm:=fun i=>i<w.heap.size) (fun i hi=>hi) (by simp only[List.map_toArray,List.map_cons,List.map_nil];exact hA) (fun a' w' hz'=>hK _ _ a' w' hz' ⟨rfl,rfl⟩)
  rintro v σ' ⟨rfl,rfl⟩ a w hz Kn Q' hK;refine Zt.aGN (x:=.tmp 44) (b:=true) rfl rfl (by decide) ?_ hz (fun a' w' hz'=>hK _ _ a' w' hz' ?_)
  ·dsimp only[AS.put]
   (exact sr)
  dsimp only[AS.put,X.out];clear hz hK;refine HZ.eng mixed aJ (by kernel_rfl) ?_;(try dsimp only);(refine wlk ?_;intros);(try dsimp only[X.out]);(try simp only[↓reduceIte]);(refine HZ.seq (HZ.eng mixed aJ (by kernel_rfl) ?_);(try dsimp only);((refine wlk ?_;intros));(try dsimp only[X.out]);(try simp only[↓reduceIte]));refine HZ.seq (HZ.each ?_);refine ZO.pre (imm:=⟨[],[],[]⟩) 2 aJ (by kernel_rfl) (by simp only[List.take_succ_cons,List.take_zero]<;>exact rfl) (by simp only[List.drop_succ_cons,List.drop_zero]<;>exact rfl) (by simp only[List.map_cons,List.map_nil]<;>exact rfl) ?_;(try dsimp only);(refine wlk ?_;intros);(try dsimp only);refine ZO.wV rfl rfl ⟨_,Tryz.func20,rfl,rfl⟩ rfl (by rintro y ⟨⟩;decide) (fun v σ'=>v=.int .i64 (1+uN p+q.length)∧σ'=aEH (.slice a1 n1 c1) vs (.slice a2 n2 c2)) (fun a w1 hst=>?_) (fun v σ' ⟨e1,e2⟩=>?_)
  ·have hst0:=hst
   obtain⟨g,hlk,hall,hM⟩:=hst0.get;have hM1:ahr 24 9 (.slice a1 n1 c1) vs (.slice a2 n2 c2) p q w1:=hM;have hX:=hlk (.tmp 46);have hY:=hlk (.tmp 47);rw[show look _ (.tmp 46)=bkQ (.slice a1 n1 c1) (.slice a2 n2 c2) x y z from by(exact sr)]at hX;rw[show look _ (.tmp 47)=.val (.int .i64 1)from by(exact sr)]at hY;have hv:=oF hX;simp only[Rep]at hY;obtain⟨⟨io,w0,g2,hr,hC⟩,_⟩:=hst;have hT1:kr w1 fun i=>uJ (.slice a1 n1 c1) vs i∨(Value.slice a2 n2 c2).ownBlock=some i:=(hr.tab.keep hr.fr fun t ht=>(hr.tab.apart t ht)).io fun t ht q=>(hC.tk t ht).2 q;refine(uy (x:=x) (y:=y) (z:=z) (k0:=1) hM1 hlt hb.1 hqs (by decide) (by decide) hT1 ?_).mono ?_
   ·simp only[List.map_toArray,List.map_cons,List.map_nil]
    rw[hv,hY]
   rintro e w' ⟨rfl,hf⟩;exact⟨_,_,rfl,⟨rfl,rfl⟩,hf,fun i hi e=>e,fun i e=>e,fun i e=>Nat.lt_of_lt_of_le (hM1.lt e) hf.size,trivial⟩
  subst e1 e2;dsimp only[AS.put];refine ZO.pre (imm:=⟨[],[],[]⟩) 1 aJ (by kernel_rfl) (by simp only[List.take_succ_cons,List.take_zero]<;>exact rfl) (by simp only[List.drop_succ_cons,List.drop_zero]<;>exact rfl) (by simp only[List.map_cons,List.map_nil]<;>exact rfl) ?_;(try dsimp only);(refine wlk ?_;intros);(try dsimp only);refine ZO.nil ?_;(try dsimp only);have ap7:=vB.2 1;have ap8:=acR;(refine HZ.seq (HZ.eng mixed aJ (by kernel_rfl) ?_);(try dsimp only);((refine wlk ?_;intros));(try dsimp only[X.out]);(try simp only[↓reduceIte]));(refine HZ.seq (HZ.eng mixed aJ (by kernel_rfl) ?_);(try dsimp only);((refine wlk ?_;intros));(try dsimp only[X.out]);(try simp only[↓reduceIte]));(refine HZ.seq (HZ.eng mixed aJ (by kernel_rfl) ?_);(try dsimp only);((refine wlk ?_;intros));(try dsimp only[X.out]);(try simp only[↓reduceIte]));(refine HZ.seq (HZ.eng mixed aJ (by kernel_rfl) ?_);(try dsimp only);((refine wlk ?_;intros));(try dsimp only[X.out]);(try simp only[↓reduceIte]));(refine HZ.seq (HZ.eng mixed aJ (by kernel_rfl) ?_);(try dsimp only);((refine wlk ?_;intros));(try dsimp only[X.out]);(try simp only[↓reduceIte]));(refine HZ.seq (HZ.eng mixed aJ (by kernel_rfl) ?_);(try dsimp only);((refine wlk ?_;intros));(try dsimp only[X.out]);(try simp only[↓reduceIte]));(refine HZ.seq (HZ.eng mixed aJ (by kernel_rfl) ?_);(try dsimp only);((refine wlk ?_;intros));(try dsimp only[X.out]);(try simp only[↓reduceIte]));refine HZ.seq (HZ.each ?_);refine ZO.pre (imm:=⟨[],[],[]⟩) 2 aJ (by kernel_rfl) (by simp only[List.take_succ_cons,List.take_zero]<;>exact rfl) (by simp only[List.drop_succ_cons,List.drop_zero]<;>exact rfl) (by simp only[List.map_cons,List.map_nil]<;>exact rfl) ?_;(try dsimp only);(refine wlk ?_;intros);(try dsimp only);refine ZO.ao6 (Ψ:=ΨBi) (ps:=[vJ p q x y z]) (r:=.tup [.val (.slice none 0 0),bv b]) (r':=.tup [.val (.slice none 0 0),bv b]) (cs':=[]) (cs2:=[]) rfl rfl ⟨_,Tryz.func13,rfl,rfl⟩ rfl (by rintro y ⟨⟩;decide) xH hΨ.out rfl rfl (fun a w1 hst=>?_) ?_
  ·obtain⟨g,hlk,hall,hM⟩:=hst.get
   refine⟨fun i=>i<w1.heap.size,fun i hi=>hi,?_⟩;simp only[List.map_toArray,List.map_cons,List.map_nil];exact⟨_,_,rfl,hall (.tmp 75) (vJ p q x y z) (by(exact sr)),rfl⟩
  (try dsimp only[AS.put]);rw[ac4];refine ZO.pre (imm:=⟨[],[],[]⟩) 5 aJ (by kernel_rfl) (by simp only[List.take_succ_cons,List.take_zero]<;>exact rfl) (by simp only[List.drop_succ_cons,List.drop_zero]<;>exact rfl) (by simp only[List.map_cons,List.map_nil]<;>exact rfl) ?_;(try dsimp only);(refine wlk ?_;intros);(try dsimp only);refine ZO.nil ?_;(try dsimp only);(refine HZ.seq (HZ.eng mixed aJ (by kernel_rfl) ?_);(try dsimp only);((refine wlk ?_;intros));(try dsimp only[X.out]);(try simp only[↓reduceIte]));(refine HZ.seq (HZ.eng mixed aJ (by kernel_rfl) ?_);(try dsimp only);((refine wlk ?_;intros));(try dsimp only[X.out]);(try simp only[↓reduceIte]));(refine HZ.seq (HZ.eng mixed aJ (by kernel_rfl) ?_);(try dsimp only);((refine wlk ?_;intros));(try dsimp only[X.out]);(try simp only[↓reduceIte]));(refine HZ.seq (HZ.eng mixed aJ (by kernel_rfl) ?_);(try dsimp only);((refine wlk ?_;intros));(try dsimp only[X.out]);(try simp only[↓reduceIte]));(refine HZ.seq (HZ.eng mixed aJ (by kernel_rfl) ?_);(try dsimp only);((refine wlk ?_;intros));(try dsimp only[X.out]);(try simp only[↓reduceIte]));refine HZ.eng mixed aJ (by kernel_rfl) ?_;(try dsimp only);(refine wlk ?_;intros);(try dsimp only[X.out]);(try simp only[↓reduceIte]);refine⟨by simp,⟨_,fun g w v h=>h,by(exact sr)⟩,fun i hi=>hbo i hi⟩
 ·refine ZO.ao6 (Ψ:=ΨBi) (ps:=[vJ p q x y z]) (r:=.tup [.row 0 1 0 (biV p q x y z).length,bv (biB p q x y z)]) (r':=.tup [.row 2 1 0 (biV p q x y z).length,bv (biB p q x y z)]) (cs':=[(9,1,(biV p q x y z).map fun s=> .val (.string s))]) (cs2:=[(9,1,(biV p q x y z).map fun s=> .val (.string s))]) rfl rfl ⟨_,Tryz.func13,rfl,rfl⟩ rfl (by rintro y ⟨⟩;decide) xH ((yX (A:=iy) (p,q,x,y,z)).trans ((if_pos hb).trans (by dsimp only;rw[if_pos (by omega)]))) rfl (by rw[mapM_cons',lq,Option.bind_some,mapM_nil'];rfl) (fun a w1 hst=>?_) ?_
  ·obtain⟨⟨io,w0,g,hr,hC⟩,hM⟩:=hst
   have hM1:ahr 24 9 (.slice a1 n1 c1) vs (.slice a2 n2 c2) p q w1:=hM;have hX:=hr.look (.tmp 28);rw[show look _ (.tmp 28)=bkQ (.slice a1 n1 c1) (.slice a2 n2 c2) x y z from by(exact sr)]at hX;have hv:=oF hX;refine⟨fun i=>i<w1.heap.size,fun i hi=>hi,?_⟩;simp only[List.map_toArray,List.map_cons,List.map_nil];rw[hv];exact⟨_,_,rfl,hM1.rep,rfl⟩
  (try dsimp only[AS.put]);rw[adg];have hl60:=auL (x:=x) (y:=y) (z:=z) hb;have hΨ:ΨBi [vJ p q x y z]=some (.tup [.row 0 1 0 (biV p q x y z).length,bv (biB p q x y z)],[(9,1,(biV p q x y z).map fun s=> .val (.string s))]):=(yX (A:=iy) (p,q,x,y,z)).trans ((if_pos hb).trans (by dsimp only;rw[if_pos (by omega)]));replace hΨ:=Lib.hid hΨ;generalize biV p q x y z=A at*;generalize biB p q x y z=b at*;have ap5:=alX (a:=A) (b:=A) (by omega) (by omega);refine ZO.pre (imm:=⟨[],[],[]⟩) 5 aJ (by kernel_rfl) (by simp only[List.take_succ_cons,List.take_zero]<;>exact rfl) (by simp only[List.drop_succ_cons,List.drop_zero]<;>exact rfl) (by simp only[List.map_cons,List.map_nil]<;>exact rfl) ?_;(try dsimp only);(refine wlk ?_;intros);(try dsimp only);refine ZO.nil ?_;(try dsimp only);(refine HZ.seq (HZ.eng mixed aJ (by kernel_rfl) ?_);(try dsimp only);((refine wlk ?_;intros));(try dsimp only[X.out]);(try simp only[↓reduceIte]));have hLK:True:=trivial;refine HZ.seq (HZ.seq ?_);refine HZ.avN (Γ:=aoX) (imm:=⟨[],[41,42],[0,1]⟩) (xs:=[41,43]) (d:=44) (RA:=fun v σ'=>v=.bool true∧σ'=aiF 24 9 (.slice a1 n1 c1) vs (.slice a2 n2 c2) p q) 3 mixed (by simp only[List.take_succ_cons,List.take_zero]<;>exact rfl) (by simp only[List.drop_succ_cons,List.drop_zero]<;>exact rfl) (by simp only[List.map_cons,List.map_nil]<;>exact rfl) rfl rfl rfl rfl (by kernel_rfl) (by kernel_rfl) (by kernel_rfl) (by kernel_rfl) (by kernel_rfl) (fun v=>by kernel_rfl) (fun io w0 g s a w hr hC hM=>aJ.w) ?_;(try dsimp only);(refine wlk ?_;intros);(try dsimp only);refine⟨?_,fun s a w hz e1 e2 e3 Kn Q' hK=>?_,?_⟩
  ·rintro v σ' ⟨rfl,rfl⟩ io w0 g s a w hr hC hM
   exact aJ.w
  ·have hA:bL (lG fun i=>i<w.heap.size) w [vJ p q x y z,vJ p q x y z] [a.eval (.tmp 41),a.eval (.tmp 43)]:=by
    have h52:s.tm 41=bkQ (.slice a1 n1 c1) (.slice a2 n2 c2) x y z:=(e3 41 (by decide)).symm.trans (by(exact sr));have h54:reify false 0 s.ob fuel (look s.tm (.tmp 43))=some (vJ p q x y z):=by rw[show look s.tm (.tmp 43)=s.tm 43 from rfl,←e3 43 (by decide),←e1];(exact sr)
    clear e1 e2 e3 hK;obtain⟨g,hlk,hall,hM⟩:=Zt.get hz;have hM1:ahr 24 9 (.slice a1 n1 c1) vs (.slice a2 n2 c2) p q w:=hM;have hX:=hlk (.tmp 41);rw[show look s.tm (.tmp 41)=s.tm 41 from rfl,h52]at hX;have hv:=oF hX;rw[hv];exact⟨_,_,rfl,hM1.rep,_,_,rfl,hall (.tmp 43) _ h54,rfl⟩
   exact Zt.aBj (ps:=[vJ p q x y z,vJ p q x y z]) (u:=.bool true) rfl rfl ⟨_,Tryz.func19,rfl,rfl⟩ rfl (by decide) acL (@xw p q x y z hs hqs) hz (Jm:=fun i=>i<w.heap.size) (fun i hi=>hi) (by simp only[List.map_toArray,List.map_cons,List.map_nil];exact hA) (fun a' w' hz'=>hK _ _ a' w' hz' ⟨rfl,rfl⟩)
  rintro v σ' ⟨rfl,rfl⟩ a w hz Kn Q' hK;refine Zt.aGN (x:=.tmp 44) (b:=true) rfl rfl (by decide) ?_ hz (fun a' w' hz'=>hK _ _ a' w' hz' ?_)
  ·dsimp only[AS.put]
   (exact sr)
  dsimp only[AS.put,X.out];clear hz hK;refine HZ.eng mixed aJ (by kernel_rfl) ?_;(try dsimp only);(refine wlk ?_;intros);(try dsimp only[X.out]);(try simp only[↓reduceIte]);(refine HZ.seq (HZ.eng mixed aJ (by kernel_rfl) ?_);(try dsimp only);((refine wlk ?_;intros));(try dsimp only[X.out]);(try simp only[↓reduceIte]));refine HZ.seq (HZ.each ?_);refine ZO.pre (imm:=⟨[],[],[]⟩) 2 aJ (by kernel_rfl) (by simp only[List.take_succ_cons,List.take_zero]<;>exact rfl) (by simp only[List.drop_succ_cons,List.drop_zero]<;>exact rfl) (by simp only[List.map_cons,List.map_nil]<;>exact rfl) ?_;(try dsimp only);(refine wlk ?_;intros);(try dsimp only);refine ZO.wV rfl rfl ⟨_,Tryz.func20,rfl,rfl⟩ rfl (by rintro y ⟨⟩;decide) (fun v σ'=>v=.int .i64 (1+uN p+q.length)∧σ'=aEH (.slice a1 n1 c1) vs (.slice a2 n2 c2)) (fun a w1 hst=>?_) (fun v σ' ⟨e1,e2⟩=>?_)
  ·have hst0:=hst
   obtain⟨g,hlk,hall,hM⟩:=hst0.get;have hM1:ahr 24 9 (.slice a1 n1 c1) vs (.slice a2 n2 c2) p q w1:=hM;have hX:=hlk (.tmp 46);have hY:=hlk (.tmp 47);rw[show look _ (.tmp 46)=bkQ (.slice a1 n1 c1) (.slice a2 n2 c2) x y z from by(exact sr)]at hX;rw[show look _ (.tmp 47)=.val (.int .i64 1)from by(exact sr)]at hY;have hv:=oF hX;simp only[Rep]at hY;obtain⟨⟨io,w0,g2,hr,hC⟩,_⟩:=hst;have hT1:kr w1 fun i=>uJ (.slice a1 n1 c1) vs i∨(Value.slice a2 n2 c2).ownBlock=some i:=(hr.tab.keep hr.fr fun t ht=>(hr.tab.apart t ht)).io fun t ht q=>(hC.tk t ht).2 q;refine(uy (x:=x) (y:=y) (z:=z) (k0:=1) hM1 hlt hb.1 hqs (by decide) (by decide) hT1 ?_).mono ?_
   ·simp only[List.map_toArray,List.map_cons,List.map_nil]
    rw[hv,hY]
   rintro e w' ⟨rfl,hf⟩;exact⟨_,_,rfl,⟨rfl,rfl⟩,hf,fun i hi e=>e,fun i e=>e,fun i e=>Nat.lt_of_lt_of_le (hM1.lt e) hf.size,trivial⟩
  subst e1 e2;dsimp only[AS.put];refine ZO.pre (imm:=⟨[],[],[]⟩) 1 aJ (by kernel_rfl) (by simp only[List.take_succ_cons,List.take_zero]<;>exact rfl) (by simp only[List.drop_succ_cons,List.drop_zero]<;>exact rfl) (by simp only[List.map_cons,List.map_nil]<;>exact rfl) ?_;(try dsimp only);(refine wlk ?_;intros);(try dsimp only);refine ZO.nil ?_;(try dsimp only);have ap7:=vB.1 A 1 (by omega) (by omega) (by omega);have ap8:=ae2 (k:=1) (n:=A.length) (by omega) (by omega) (by omega);have hml:=fH 1 A.length;(refine HZ.seq (HZ.eng mixed aJ (by kernel_rfl) ?_);(try dsimp only);((refine wlk ?_;intros));(try dsimp only[X.out]);(try simp only[↓reduceIte]));(refine HZ.seq (HZ.eng mixed aJ (by kernel_rfl) ?_);(try dsimp only);((refine wlk ?_;intros));(try dsimp only[X.out]);(try simp only[↓reduceIte]));(refine HZ.seq (HZ.eng mixed aJ (by kernel_rfl) ?_);(try dsimp only);((refine wlk ?_;intros));(try dsimp only[X.out]);(try simp only[↓reduceIte]));(refine HZ.seq (HZ.eng mixed aJ (by kernel_rfl) ?_);(try dsimp only);((refine wlk ?_;intros));(try dsimp only[X.out]);(try simp only[↓reduceIte]));(refine HZ.seq (HZ.eng mixed aJ (by kernel_rfl) ?_);(try dsimp only);((refine wlk ?_;intros));(try dsimp only[X.out]);(try simp only[↓reduceIte]));(refine HZ.seq (HZ.eng mixed aJ (by kernel_rfl) ?_);(try dsimp only);((refine wlk ?_;intros));(try dsimp only[X.out]);(try simp only[↓reduceIte]));(refine HZ.seq (HZ.eng mixed aJ (by kernel_rfl) ?_);(try dsimp only);((refine wlk ?_;intros));(try dsimp only[X.out]);(try simp only[↓reduceIte]));refine HZ.seq (HZ.each ?_);refine ZO.pre (imm:=⟨[],[],[]⟩) 2 aJ (by kernel_rfl) (by simp only[List.take_succ_cons,List.take_zero]<;>exact rfl) (by simp only[List.drop_succ_cons,List.drop_zero]<;>exact rfl) (by simp only[List.map_cons,List.map_nil]<;>exact rfl) ?_;(try dsimp only);(refine wlk ?_;intros);(try dsimp only);refine ZO.ao6 (Ψ:=ΨBi) (ps:=[vJ p q x y z]) (r:=.tup [.row 0 1 0 A.length,bv b]) (r':=.tup [.row 3 1 0 A.length,bv b]) (cs':=[(9,1,A.map fun s=> .val (.string s))]) (cs2:=[(9,1,A.map fun s=> .val (.string s))]) rfl rfl ⟨_,Tryz.func13,rfl,rfl⟩ rfl (by rintro y ⟨⟩;decide) xH hΨ.out rfl (by rw[mapM_cons',lq,Option.bind_some,mapM_nil'];rfl) (fun a w1 hst=>?_) ?_
  ·obtain⟨g,hlk,hall,hM⟩:=hst.get
   refine⟨fun i=>i<w1.heap.size,fun i hi=>hi,?_⟩;simp only[List.map_toArray,List.map_cons,List.map_nil];exact⟨_,_,rfl,hall (.tmp 75) (vJ p q x y z) (by(exact sr)),rfl⟩
  (try dsimp only[AS.put]);rw[adg];refine ZO.pre (imm:=⟨[],[],[]⟩) 5 aJ (by kernel_rfl) (by simp only[List.take_succ_cons,List.take_zero]<;>exact rfl) (by simp only[List.drop_succ_cons,List.drop_zero]<;>exact rfl) (by simp only[List.map_cons,List.map_nil]<;>exact rfl) ?_;(try dsimp only);(refine wlk ?_;intros);(try dsimp only);refine ZO.nil ?_;(try dsimp only);(refine HZ.seq (HZ.eng mixed aJ (by kernel_rfl) ?_);(try dsimp only);((refine wlk ?_;intros));(try dsimp only[X.out]);(try simp only[↓reduceIte]));(refine HZ.seq (HZ.eng mixed aJ (by kernel_rfl) ?_);(try dsimp only);((refine wlk ?_;intros));(try dsimp only[X.out]);(try simp only[↓reduceIte]));(refine HZ.seq (HZ.eng mixed aJ (by kernel_rfl) ?_);(try dsimp only);((refine wlk ?_;intros));(try dsimp only[X.out]);(try simp only[↓reduceIte]));(refine HZ.seq (HZ.eng mixed aJ (by kernel_rfl) ?_);(try dsimp only);((refine wlk ?_;intros));(try dsimp only[X.out]);(try simp only[↓reduceIte]));(refine HZ.seq (HZ.eng mixed aJ (by kernel_rfl) ?_);(try dsimp only);((refine wlk ?_;intros));(try dsimp only[X.out]);(try simp only[↓reduceIte]));refine HZ.eng mixed aJ (by kernel_rfl) ?_;(try dsimp only);(refine wlk ?_;intros);(try dsimp only[X.out]);(try simp only[↓reduceIte]);refine⟨by simp,⟨_,fun g w v h=>h,by(exact sr)⟩,fun i hi=>hbo i hi⟩
section
open Go.ChangeShapes Go.WideShapes Go.ChangeAt Go.RowKit
open Go.ChangeMaps (open_string shut_string)
theorem own:ownKnob Tryz.prog.godebug=none:=by kernel_rfl
theorem laidOut:laidOutB Tryz.prog=true:=by kernel_rfl
theorem akY {x:Int} (h:(Lit.int .i64 x).wf=true):-9223372036854775808≤x∧x≤9223372036854775807:=by simpa [Lit.wf,IntKind.min,IntKind.max,IntKind.signed,IntKind.bits]using h
theorem addr_add (b off i:Nat):(⟨b,off,none⟩:Addr).add i=⟨b,off+i,none⟩:=by unfold Addr.add;by_cases h:i=0<;>simp[h]
theorem avi {w:World} {a:Addr} {v:Value} (h:w.cell? a=some v):a.block<w.heap.size:=by
 unfold World.cell? at h;by_cases hb:a.block<w.heap.size
 ·exact hb
 ·rw[Array.getElem?_eq_none (by omega)]at h
  cases a.spot<;>simp at h
theorem aAu {P:Program} {W:World} {name:String} {k:IntKind} {zs:List Int} {g:Nat} (hg:P.globalNamed name=some g) (h:Lib.TabIs P W name k zs):∃T k',W.heap[g]?=some (.cells ((zs.map fun z=>Value.int k z).toArray) T k'):=by
 unfold Lib.TabIs World.var? at h;rw[hg,Option.bind_some]at h;split at h
 ·rename_i cs T k' hc
  cases h;exact⟨_,_,hc⟩
 ·cases h
theorem acW {P:Program} {x:String×DataW Unit} {r:List (String×DataW Unit)} {w:World} (h:laidMet P (x::r) w):laidMet P r w:=by obtain⟨ps,hv,hnd,hc⟩:=h;obtain⟨g,t,cs,fuel,p,q,h1,h2,h3,h4,h5,rfl⟩:=hv;exact⟨q,h5,(List.nodup_append.1 hnd).2.1,fun b off hm=>hc b off (List.mem_append_right _ hm)⟩
abbrev gW (W:World):Gh:=lG fun b=>b<W.heap.size
section
variable {H:Type} {enc:TypeId×Value→H} {P:Program} {W:World} {base:Nat} {α β γ δ ε:Type}
def OpC (enc:TypeId×Value→H) (P:Program) (W:World) (base:Nat) (t:TypeId) (A:Dec α) (ok:α→Prop):Prop:=
 ∀fuel cs x,DataW.trod enc P W base (fun _=>true) true fuel t cs=some x→∃a v,ok a∧Rep (gW W) W (A.e a) v∧v.cells.toList=cs∧v.cells.all (·.oneCell')=true
theorem opI {t:TypeId} (ht:P.underlying t=some (.int .i64)):OpC enc P W base t dI okI:=fun fuel cs x h=>by obtain⟨n,rfl,_,hw⟩:=DataW.trod_int ht h;exact⟨n,.int .i64 n,akY hw,rfl,rfl,by simp[Value.cells,Value.oneCell']⟩
theorem opS {t:TypeId} (ht:P.underlying t=some .string):OpC enc P W base t dS okS:=fun fuel cs x h=>by obtain⟨s,rfl,_,hs⟩:=DataW.trod_string ht h;exact⟨s,.string s,hs,rfl,rfl,by simp[Value.cells,Value.oneCell']⟩
theorem axw {n:Nat} {p:Nat→α→Prop} (h:∀i,i<n→∃x,p i x):∃l:List α,l.length=n∧∀i a,l[i]?=some a→p i a:=by
 induction n with
 |zero=>exact⟨[],rfl,fun i a h=>by simp at h⟩
 |succ n ih=>
  obtain⟨l,hl,hp⟩:=ih fun i hi=>h i (by omega);obtain⟨x,hx⟩:=h n (by omega);refine⟨l++[x],by simp[hl],fun i a hi=>?_⟩;rw[List.getElem?_append]at hi;split at hi
  ·exact hp i a hi
  ·rename_i hlt
   have:i-l.length=0:=by
    by_cases h0:i-l.length=0
    ·exact h0
    ·rw[List.getElem?_eq_none (by simp;omega)]at hi
     cases hi
   rw[this]at hi;simp at hi;subst hi;have:i=n:=by omega
   subst this;exact hx
theorem opL {t e:TypeId} {A:Dec α} {ok:α→Prop} (sz:Nat) (ht:P.underlying t=some (.slice e)) (hs:P.cellsOf e=sz) (h0:0<sz) (hA:OpC enc P W base e A ok):OpC enc P W base t (dL sz A) (okL ok):=fun fuel cs x h=>by
 rcases Go.Deep.open_slice ht h with⟨rfl,_⟩|⟨x,len,cap,m,n,D,Pl,rfl,hb,hl,hm,hmm,_,hx⟩
 ·exact⟨[],.slice none 0 0,⟨by simp,by simp⟩,⟨none,0,rfl,by simp,by simp,.inl rfl⟩,rfl,by simp[Value.cells,Value.oneCell']⟩
 have hm2:m=cap:=by simpa using hmm
 have hcap:cap≤9223372036854775807:=hm;obtain⟨l,hlen,hp⟩:=axw (n:=len) (p:=fun i a=>ok a∧∃v,Rep (gW W) W (A.e a) v∧v.cells.size=sz∧v.cells.all (·.oneCell')=true∧∀j,j<sz→W.cell? ((x.add (i*sz)).add j)=v.cells[j]?) (fun i hi=>by
  obtain⟨cs',h1,h2⟩:=hx i (by omega);obtain⟨a,v,h3,h4,h5,h6⟩:=hA _ _ _ h2;obtain⟨_,h7,h8⟩:=World.cells?_some h1;rw[hs]at h7 h8;refine⟨a,h3,v,h4,?_,h6,fun j hj=>?_⟩
  ·rw[←h7,←h5];simp
  ·rw[h8 j hj,←h5];simp)
 refine⟨l,.slice (some x) len cap,⟨by omega,fun a ha=>?_⟩,?_,rfl,by simp[Value.cells,Value.oneCell']⟩
 ·obtain⟨i,hi,rfl⟩:=List.getElem_of_mem ha
  exact(hp i _ (by simp[hi])).1
 ·refine⟨some x,cap,by simp[hlen],by simp[hlen];omega,hcap,?_⟩
  by_cases hn:l=[]
  ·exact .inl (by simp[hn])
  right;have hl0:0<l.length:=List.length_pos_iff.2 hn;obtain⟨_,v,h4,h5,h6,h7⟩:=hp 0 l[0] (by simp[hl0]);have h8:=h7 0 h0;have h9:v.cells[0]?=some v.cells[0]:=by simp
  rw[h9]at h8;have hspot:=World.cell?_spot h8;have hlt:=avi h8;obtain⟨b,off,spot⟩:=x;simp only[Nat.zero_mul,Addr.add,if_true]at hspot hlt;subst hspot;refine⟨b,off,rfl,⟨rfl,hlt⟩,bB.of fun i p hi=>?_⟩;rw[List.getElem?_map,Option.map_eq_some_iff]at hi;obtain⟨a,ha,rfl⟩:=hi;obtain⟨_,v,h4,h5,h6,h7⟩:=hp i a ha;refine⟨v,h4,⟨h6,fun j hj=>?_⟩,h5⟩;have:=h7 j (by omega)
  rwa[addr_add,addr_add]at this
theorem opF {t:TypeId} {A:Dec α} {ok:α→Prop} {n:Nat} {cs:List Value} {y:DataW H×List MemPlace} (hA:OpC enc P W base t A ok) (h1:∀a,nX (A.e a)=true)
 (h:DataW.trod enc P W base (fun _=>true) true n t cs=some y):∃a v,ok a∧Rep (gW W) W (A.e a) v∧v.oneCell'=true∧cs=[v]:=by
 obtain⟨a,v,h3,h4,h5,h6⟩:=hA _ _ _ h;have:=abu h4 (h1 a);exact⟨a,v,h3,h4,this,by rw[←h5,rz this]⟩
theorem aHl {t:TypeId} {f0 f1 f2 f3 f4:Field} {A:Dec α} {B:Dec β} {C:Dec γ} {D:Dec δ} {E:Dec ε} {ok0:α→Prop} {ok1:β→Prop} {ok2:γ→Prop} {ok3:δ→Prop} {ok4:ε→Prop} (hs:P.underlying t=some (.struct #[f0,f1,f2,f3,f4])) (hone:Go.Deep.oneCellFields P #[f0,f1,f2,f3,f4]=true) (hC:P.cellsOf t=5)
 (h0:OpC enc P W base f0.type A ok0) (o0:∀a,nX (A.e a)=true) (h1:OpC enc P W base f1.type B ok1) (o1:∀a,nX (B.e a)=true) (h2:OpC enc P W base f2.type C ok2) (o2:∀a,nX (C.e a)=true) (h3:OpC enc P W base f3.type D ok3) (o3:∀a,nX (D.e a)=true) (h4:OpC enc P W base f4.type E ok4) (o4:∀a,nX (E.e a)=true):
 OpC enc P W base t (dA5 A B C D E) (fun p=>ok0 p.1∧ok1 p.2.1∧ok2 p.2.2.1∧ok3 p.2.2.2.1∧ok4 p.2.2.2.2):=fun fuel cs x h=>by
 obtain⟨xs,n,_,_,hl,hlen,hf⟩:=DataW.trod_struct hs h;rw[hC]at hl
 match cs,hl with
 |[c0,c1,c2,c3,c4],_=>
  obtain⟨y0,hy0⟩:∃y,xs[0]?=some y:=⟨_,List.getElem?_eq_getElem (by rw[hlen];show 0<5;omega)⟩;obtain⟨q0,k0⟩:=Go.Deep.hone_of hone 0 f0 rfl;have t0:=hf 0 f0 rfl;rw[q0,k0,hy0]at t0;obtain⟨a0,v0,e0,r0,u0,z0⟩:=opF h0 o0 t0;have z0':c0=v0:=by simpa using z0
  subst z0';obtain⟨y1,hy1⟩:∃y,xs[1]?=some y:=⟨_,List.getElem?_eq_getElem (by rw[hlen];show 1<5;omega)⟩;obtain⟨q1,k1⟩:=Go.Deep.hone_of hone 1 f1 rfl;have t1:=hf 1 f1 rfl;rw[q1,k1,hy1]at t1;obtain⟨a1,v1,e1,r1,u1,z1⟩:=opF h1 o1 t1;have z1':c1=v1:=by simpa using z1
  subst z1';obtain⟨y2,hy2⟩:∃y,xs[2]?=some y:=⟨_,List.getElem?_eq_getElem (by rw[hlen];show 2<5;omega)⟩;obtain⟨q2,k2⟩:=Go.Deep.hone_of hone 2 f2 rfl;have t2:=hf 2 f2 rfl;rw[q2,k2,hy2]at t2;obtain⟨a2,v2,e2,r2,u2,z2⟩:=opF h2 o2 t2;have z2':c2=v2:=by simpa using z2
  subst z2';obtain⟨y3,hy3⟩:∃y,xs[3]?=some y:=⟨_,List.getElem?_eq_getElem (by rw[hlen];show 3<5;omega)⟩;obtain⟨q3,k3⟩:=Go.Deep.hone_of hone 3 f3 rfl;have t3:=hf 3 f3 rfl;rw[q3,k3,hy3]at t3;obtain⟨a3,v3,e3,r3,u3,z3⟩:=opF h3 o3 t3;have z3':c3=v3:=by simpa using z3
  subst z3';obtain⟨y4,hy4⟩:∃y,xs[4]?=some y:=⟨_,List.getElem?_eq_getElem (by rw[hlen];show 4<5;omega)⟩;obtain⟨q4,k4⟩:=Go.Deep.hone_of hone 4 f4 rfl;have t4:=hf 4 f4 rfl;rw[q4,k4,hy4]at t4;obtain⟨a4,v4,e4,r4,u4,z4⟩:=opF h4 o4 t4;have z4':c4=v4:=by simpa using z4
  subst z4';exact⟨(a0,a1,a2,a3,a4),.agg #[c0,c1,c2,c3,c4],⟨e0,e1,e2,e3,e4⟩,⟨_,rfl,⟨c0,[c1,c2,c3,c4],rfl,r0,⟨c1,[c2,c3,c4],rfl,r1,⟨c2,[c3,c4],rfl,r2,⟨c3,[c4],rfl,r3,⟨c4,[],rfl,r4,rfl⟩⟩⟩⟩⟩⟩,rfl,by simp[Value.cells,u0,u1,u2,u3,u4]⟩
theorem opT {t:TypeId} {A:Dec α} {ok:α→Prop} {cs:Array Value} {d:DataW H} {p:List MemPlace} (hA:OpC enc P W base t A ok) (h1:∀a,∃ps,A.e a=.agg ps)
 (h:DataW.Trod enc P W base (fun _=>true) true t (.agg cs) d p):∃a,ok a∧Rep (gW W) W (A.e a) (.agg cs):=by
 obtain⟨fuel,hf⟩:=h;obtain⟨a,u,h3,h4,h5,h6⟩:=hA _ _ _ hf;obtain⟨ps,hps⟩:=h1 a;have h7:=h4;rw[hps]at h7;obtain⟨us,rfl,_⟩:=h7;have:us=cs:=by have h5':us.toList=cs.toList:=h5;cases us;cases cs;simp_all
 subst this;exact⟨a,h3,h4⟩
theorem axr {f:Nat} {φ:Fun} {ps:List PV} {args:Array Value} (h:Sound P f φ) (hT:kr W fun _=>False) (ha:φ ps=some (bv true)) (hr:bL (gW W) W ps args.toList):
 Calls P f args W fun e w'=>e=.returned (.bool true)∧Below W.heap.size W w':=by
 refine(h W (fun b=>b<W.heap.size) ps args _ ha (fun b hb=>hb) hT hr).mono ?_;rintro e w' ⟨v,rfl,hb,hv⟩;have:=hv {I:=fun _ _=>True,β:=fun _=>0,κ:=fun _=>0,nx:=0} fun b _ _=>trivial;have hv2:v=.bool true:=this;subst hv2;exact⟨rfl,hb⟩
end
end
end
end Go.Proofs.YtmmafcjjlbgnkaaGreatDoor
