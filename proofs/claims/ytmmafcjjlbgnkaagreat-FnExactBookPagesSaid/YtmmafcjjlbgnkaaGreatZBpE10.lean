/- What the proof rests on, part 10: contracts of functions. No condition beyond what each states. -/
import Derived.Test.YtmmafcjjlbgnkaaGreatZBpE9
namespace Go.Proofs.YtmmafcjjlbgnkaaGreat
open Go.RowKit
set_option linter.all false
set_option maxHeartbeats 32000000
noncomputable section
def oN (w:ByteArray) (pats:LS):List Int:=if qC w pats=true then jO w pats else []
def φPc:Fun:=F2 dS dSs fun w pats=>if aj4 w pats then some (.lst true 1 ((oN w pats).map fun n=> .val (.int .i64 n)))else none
theorem agQ {w:ByteArray} {pats:LS} (h:aj4 w pats):φPc [.val (.string w),.lst false 1 (pats.map fun s=> .val (.string s))]=some (.lst true 1 ((oN w pats).map fun n=> .val (.int .i64 n))):=(gY (A:=dS) (B:=dSs) w pats).trans (if_pos h)
abbrev LI:=List Int
theorem nD {T sz x:Nat} {es:List PV}:jk (lo (nO T sz es x)) (nO T sz es x):=by
 cases es with
 |nil=>trivial
 |cons e es=>show jk (lo [_]) [_];simp only[push_cast]
theorem alW {sz:Nat} {lv:List Int} {k:Nat} (h:¬(2≤k∧k+3≤sz∧lv[k]?.getD 0 % 2=1)):plB sz lv k=false:=decide_eq_false h
theorem ahM {sz:Nat} {lv:List Int} {k:Nat} (h:2≤k∧k+3≤sz∧lv[k]?.getD 0 % 2=1):plB sz lv k=true:=decide_eq_true h
def avY:Ctx:={fn:=aT [(103,φLv),(43,φIn)],io:=aT []}
theorem aor:au Tryz.prog avY:=okΓ (fC Tryz.func103 ahL (fC Tryz.func43 qd aj)) aj
def adI:=ah (Γ:=avY) (f:=103) (φ:=φLv) rfl
def ail:=ah (Γ:=avY) (f:=43) (φ:=φIn) rfl
theorem aii:Sound Tryz.prog 87 φPc:=by
 refine fU mixed aor Tryz.func87 rfl 33 rfl [.tmp 4] rfl (by kernel_rfl) fun ps r hr=>?_;obtain⟨w,pats,rfl,hpre,rfl⟩:=gy hr;refine⟨by simp,?_⟩;simp only[dIs,dUs,dSs,bR,bV,bT,bU,aI,bW,aL,aO,aH,aJ];have apl:=agh hpre;have api:=bJ;unfold oJ at apl;unfold oN;cases hB:qC w pats with
 |false=>
  rw[hB,if_neg (by decide)]at apl;rw[if_neg (by decide)];clear hB hpre;have gpci_c103:=adI;have gpci_c43:=ail;(refine wlk ?_;intros);refine aF (α:=Unit) mixed (fun _=>[(5,.val (.slice none 0 0)),(10,.lst true 1 []),(11,iv 0),(12,iv 0)]) (fun _=>[]) (fun _=>0) (fun _=>True) (fun _=>0) (by kernel_rfl) () trivial ?_ ?_ rfl ?_
  ·exact agr
  ·exact agr
  rintro⟨⟩-;(refine wlk ?_;intros);all_goals((with_reducible apply bS (by first|exact .inl rfl|exact .inr rfl));(simp(disch:=(first|omega|(simp only[push_cast];first|done|omega))) only[push_cast,↓reduceIte,Nat.reduceEqDiff,Nat.reduceBEq,Nat.reduceAdd,Nat.reduceSub,Int.reduceToNat, *]<;>with_reducible exact rfl))
  all_goals exact nil_le _ _
 |true=>
  rw[hB,if_pos rfl]at apl;rw[if_pos rfl];obtain⟨-,hw1,hw2⟩:=aR (jK.1 hB).1;obtain⟨l1,l2⟩:=zH w pats pats.length;unfold jO;have he:iq w pats=lvP w pats pats.length:=rfl;rw[he]at apl⊢;generalize lvP w pats pats.length=lv at*;clear hB hpre he;have hP0:plK w.size lv 0=[]:=rfl;have hPl:=agt w.size lv;have gpci_c103:=adI;have gpci_c43:=ail;(refine wlk ?_;intros);refine aF (α:=Nat×LI×Nat×Nat) mixed (fun z=>[(0,.val (.string w)),(5,nP 1 (z.2.1.map pvN) z.2.2.1),(10,.lst true 1 (lv.map pvN)),(11,iv lv.length),(12,iv z.1)])
   (fun z=>nO 3 1 (z.2.1.map pvN) z.2.2.1) (fun z=>z.2.2.2)
   (fun z=>z.1≤lv.length∧z.2.1=plK w.size lv z.1∧(0<z.2.1.length→z.2.2.1<z.2.2.2)) (fun z=>lv.length-z.1) (by kernel_rfl) (0,[],0,0) ⟨Nat.zero_le _,rfl,by simp⟩ ?_ ?_ rfl ?_
  ·exact agr
  ·exact agr
  rintro⟨k,out,x,y⟩ ⟨hk,hI,hxy⟩;dsimp only at hk hI hxy;have hol:out.length≤22:=by rw[hI];have:=hPl k;omega
  clear hPl hP0;by_cases h0:k<lv.length
  ·have hlk:=l2 k
   by_cases hc:2≤k∧k+3≤w.size∧lv[k]?.getD 0 % 2=1
   ·have hI2:out++[(k:Int)]=plK w.size lv (k+1):=by rw[abw (ahM hc),←hI]
    replace hI2:=Lib.hid hI2;obtain⟨c1,c2,c3⟩:=hc;have api1:inB (k:Int) 2 ((w.size:Int)-3)=true:=ay.2 ⟨by omega,by omega⟩;clear hI l2;by_cases hz:out.length=0
    ·obtain rfl:out=[]:=List.eq_nil_of_length_eq_zero hz
     (refine wlk ?_;intros);refine⟨(k+1,[]++[(k:Int)],y+1,y+2),⟨by dsimp only;omega,hI2.out,fun _=>by dsimp only;omega⟩,by dsimp only;omega,?_,?_,rfl⟩
     ·exact agr
     ·exact agr
    ·have hxy:=hxy (by omega)
     have hap:0<(out.map pvN).length:=by rw[List.length_map];omega
     clear hz;have hap3:0<((out++[(k:Int)]).map pvN).length:=by simp
     simp only[aA hap,aD hap,List.length_map];(refine wlk ?_;intros);refine⟨(k+1,out++[(k:Int)],y+1,y+2),⟨by dsimp only;omega,hI2.out,fun _=>by dsimp only;omega⟩,by dsimp only;omega,?_,?_,rfl⟩
     ·simp(disch:=(first|omega|(simp only[push_cast];first|done|omega))) only[push_cast,↓reduceIte,Nat.reduceEqDiff,Nat.reduceBEq,Nat.reduceAdd,Nat.reduceSub,Int.reduceToNat,aA hap3,List.length_append, *]
     ·simp(disch:=(first|omega|(simp only[push_cast];first|done|omega))) only[push_cast,↓reduceIte,Nat.reduceEqDiff,Nat.reduceBEq,Nat.reduceAdd,Nat.reduceSub,Int.reduceToNat,aD hap3, *]
   ·have hI2:out=plK w.size lv (k+1):=by rw[uL (alW hc),←hI]
    replace hI2:=Lib.hid hI2;clear hI l2;by_cases c3:lv[k]?.getD 0 % 2=1
    ·have api1:inB (k:Int) 2 ((w.size:Int)-3)=false:=Bool.eq_false_iff.2 fun q=>by have:=ay.1 q;omega
     clear hc;(refine wlk ?_;intros);refine⟨(k+1,out,x,y),⟨by dsimp only;omega,hI2.out,hxy⟩,by dsimp only;omega,?_,nD,rfl⟩
     ·exact agr
    ·clear hc
     (refine wlk ?_;intros);refine⟨(k+1,out,x,y),⟨by dsimp only;omega,hI2.out,hxy⟩,by dsimp only;omega,?_,nD,rfl⟩
     ·exact agr
  ·obtain rfl:k=lv.length:=by omega
   rw[←l1,←hI];clear hI l2;by_cases hz:out.length=0
   ·obtain rfl:out=[]:=List.eq_nil_of_length_eq_zero hz
    (refine wlk ?_;intros);all_goals((with_reducible apply bS (by first|exact .inl rfl|exact .inr rfl));(simp(disch:=(first|omega|(simp only[push_cast];first|done|omega))) only[push_cast,↓reduceIte,Nat.reduceEqDiff,Nat.reduceBEq,Nat.reduceAdd,Nat.reduceSub,Int.reduceToNat, *]<;>with_reducible exact rfl))
    all_goals exact nil_le _ _
   ·have hxy:=hxy (by omega)
    have hap:0<(out.map pvN).length:=by rw[List.length_map];omega
    clear hz;simp only[aA hap,aD hap,List.length_map];(refine wlk ?_;intros);all_goals((with_reducible apply bS (by first|exact .inl rfl|exact .inr rfl));(simp(disch:=(first|omega|(simp only[push_cast];first|done|omega))) only[push_cast,↓reduceIte,Nat.reduceEqDiff,Nat.reduceBEq,Nat.reduceAdd,Nat.reduceSub,Int.reduceToNat, *]<;>with_reducible exact rfl))
    all_goals exact PV.le_refl _
def axU:Ctx:={fn:=aT [(102,φLv)],io:=aT []}
theorem ap9:au Tryz.prog axU:=okΓ (fC Tryz.func102 agp aj) aj
def acJ:=ah (Γ:=axU) (f:=102) (φ:=φLv) rfl
theorem afN:Sound Tryz.prog 84 φPc:=by
 refine ak mixed ap9 Tryz.func84 rfl 30 rfl [.tmp 4] rfl (by kernel_rfl) fun ps r hr=>?_;obtain⟨w,pats,rfl,hpre,rfl⟩:=gy hr;refine⟨by simp,?_⟩;simp only[dIs,dUs,dSs,bR,bV,bT,bU,aI,bW,aL,aO,aH,aJ];have apl:=agh hpre;unfold oJ at apl;unfold oN;cases hB:qC w pats with
 |false=>
  rw[hB,if_neg (by decide)]at apl;rw[if_neg (by decide)];clear hB hpre;have gpcs_c102:=acJ;(refine wlk ?_;intros);refine aF (α:=Unit) mixed (fun _=>[(5,.row 0 1 0 0),(6,.lst true 1 []),(7,iv 2)]) (fun _=>[(0,3,1,[])]) (fun _=>1) (fun _=>True) (fun _=>0) (by kernel_rfl) () trivial ?_ ?_ rfl ?_
  ·exact agr
  ·exact agr
  rintro⟨⟩-;exact wlkF
 |true=>
  rw[hB,if_pos rfl]at apl;rw[if_pos rfl];obtain⟨-,hw1,hw2⟩:=aR (jK.1 hB).1;obtain⟨l1,l2⟩:=zH w pats pats.length;unfold jO;have he:iq w pats=lvP w pats pats.length:=rfl;rw[he]at apl⊢;generalize lvP w pats pats.length=lv at*;clear hB hpre he;have hP0:=@aoT w.size lv;have hPl:=agt w.size lv;have hPh:∀k,w.size<k+3→k≤w.size+1→plK w.size lv (w.size+1)=plK w.size lv k:=fun k h1 h2=>by
   have:=ac0 (lv:=lv) h1 (w.size+1-k)
   rwa[show k+(w.size+1-k)=w.size+1 by omega]at this
  have hPs:w.size<5→plK w.size lv (w.size+1)=plK w.size lv 2:=fun h=>by rw[alO h,hP0]
  replace hP0:=Lib.hid hP0;have gpcs_c102:=acJ;(refine wlk ?_;intros);refine aF (α:=Nat×LI×Nat×Nat) mixed (fun z=>[(5,.row z.2.2.1 1 0 z.2.1.length),(6,.lst true 1 (lv.map pvN)),(7,iv z.1)])
   (fun z=>[(z.2.2.1,3,1,z.2.1.map pvN)]) (fun z=>z.2.2.2)
   (fun z=>2≤z.1∧(2<z.1→z.1+2≤w.size)∧z.2.1=plK w.size lv z.1∧z.2.2.1<z.2.2.2) (fun z=>lv.length-z.1) (by kernel_rfl) (2,[],0,1) ⟨by simp,by simp,hP0.out.symm,by simp⟩ ?_ ?_ rfl ?_
  ·exact agi
  ·exact agr
  rintro⟨k,out,x,y⟩ ⟨hk,hk2,hI,hxy⟩;dsimp only at hk hk2 hI hxy;have hol:out.length≤22:=by
   rw[hI];by_cases h2:2<k
   ·have:=hPl k;have:=hk2 h2;omega
   ·have:=hPl k;omega
  clear hPl hP0;by_cases h0:k+3<lv.length
  ·have hlk:=l2 k
   by_cases c3:lv[k]?.getD 0 % 2=1
   ·have hI2:out++[(k:Int)]=plK w.size lv (k+1):=by rw[abw (ahM ⟨hk,by omega,c3⟩),←hI]
    replace hI2:=Lib.hid hI2;clear hI l2 hPh hPs;(refine wlk ?_;intros);refine⟨(k+1,out++[(k:Int)],y+1,y+2),⟨by dsimp only;omega,fun _=>by dsimp only;omega,hI2.out,by dsimp only;omega⟩,by dsimp only;omega,?_,?_,rfl⟩
    ·exact agr
    ·exact agr
   ·have hI2:out=plK w.size lv (k+1):=by rw[uL (alW fun q=>c3 q.2.2),←hI]
    replace hI2:=Lib.hid hI2;clear hI l2 hPh hPs;(refine wlk ?_;intros);refine⟨(k+1,out,x,y),⟨by dsimp only;omega,fun _=>by dsimp only;omega,hI2.out,hxy⟩,by dsimp only;omega,?_,?_,rfl⟩
    ·exact agr
    ·exact agr
  ·have hfin:plK w.size lv (w.size+1)=out:=by
    rw[hI];by_cases h5:w.size<5
    ·by_cases h2:2<k
     ·have:=hk2 h2
      omega
     ·obtain rfl:k=2:=by omega
      exact hPs h5
    ·refine hPh k (by omega) ?_
     by_cases h2:2<k
     ·have:=hk2 h2;omega
     ·omega
   rw[hfin];clear hI l2 hPh hPs hfin;exact wlkF
def bN (w:ByteArray) (pats:LS):LS:=if qC w pats=true then zC w pats else []
def φPr:Fun:=F2 dS dSs fun w pats=>if aj4 w pats then some (.lst true 1 ((bN w pats).map fun s=> .val (.string s)))else none
theorem aay {w:ByteArray} {pats:LS} (h:aj4 w pats):φPr [.val (.string w),.lst false 1 (pats.map fun s=> .val (.string s))]=some (.lst true 1 ((bN w pats).map fun s=> .val (.string s))):=(gY (A:=dS) (B:=dSs) w pats).trans (if_pos h)
def avB:Ctx:={fn:=aT [(66,fQ),(50,fO),(87,φPc)],io:=aT []}
theorem aqY:au Tryz.prog avB:=okΓ (fC Tryz.func66 fu (fC Tryz.func50 dz (fC Tryz.func87 aii aj))) aj
def aby:=ah (Γ:=avB) (f:=66) (φ:=fQ) rfl
def abr:=ah (Γ:=avB) (f:=50) (φ:=fO) rfl
def aaE:=ah (Γ:=avB) (f:=87) (φ:=φPc) rfl
theorem ahw:Sound Tryz.prog 68 φPr:=by
 refine fU mixed aqY Tryz.func68 rfl 40 rfl [.tmp 4] rfl (by kernel_rfl) fun ps r hr=>?_;obtain⟨w,pats,rfl,hpre,rfl⟩:=gy hr;refine⟨by simp,?_⟩;simp only[dIs,dUs,dSs,bR,bV,bT,bU,aI,bW,aL,aO,aH,aJ];have ap1:=gP (s:=w) (by omega);have ap2:=gT hpre.2;have apc:=agQ hpre;unfold oN at apc;unfold bN;cases hw:dw w with
 |false=>
  have hB:qC w pats=false:=by unfold qC;rw[hw];rfl
  rw[hw]at ap1;rw[hB,if_neg (by decide)];clear apc hpre hw hB;have gpri_c66:=aby;have gpri_c50:=abr;have gpri_c87:=aaE;(refine wlk ?_;intros);all_goals((with_reducible apply bS (by first|exact .inl rfl|exact .inr rfl));(simp(disch:=(first|omega|(simp only[push_cast];first|done|omega))) only[push_cast,↓reduceIte,Nat.reduceEqDiff,Nat.reduceBEq,Nat.reduceAdd,Nat.reduceSub,Int.reduceToNat, *]<;>with_reducible exact rfl))
  all_goals exact nil_le _ _
 |true=>
 cases hp:bg pats with
 |false=>
  have hB:qC w pats=false:=by unfold qC;rw[hw,hp];rfl
  rw[hw]at ap1;rw[hp]at ap2;rw[hB,if_neg (by decide)];clear apc hpre hw hp hB;have gpri_c66:=aby;have gpri_c50:=abr;have gpri_c87:=aaE;(refine wlk ?_;intros);all_goals((with_reducible apply bS (by first|exact .inl rfl|exact .inr rfl));(simp(disch:=(first|omega|(simp only[push_cast];first|done|omega))) only[push_cast,↓reduceIte,Nat.reduceEqDiff,Nat.reduceBEq,Nat.reduceAdd,Nat.reduceSub,Int.reduceToNat, *]<;>with_reducible exact rfl))
  all_goals exact nil_le _ _
 |true=>
  have hB:qC w pats=true:=by unfold qC;rw[hw,hp];rfl
  have hok:=mO (pats:=pats) hw;obtain⟨-,hw1,hw2⟩:=aR hw;rw[hw]at ap1;rw[hp]at ap2;rw[hB,if_pos rfl]at apc;rw[hB,if_pos rfl];unfold zC;have hfr:=rR hok hw1;generalize jO w pats=pl at*;obtain⟨hl,hat⟩:=hok;unfold ptR;have hpl:=vN w pl;clear hB hw hp hpre;have gpri_c66:=aby;have gpri_c50:=abr;have gpri_c87:=aaE;(refine wlk ?_;intros);refine aF (α:=Nat×Nat×Nat) mixed (fun z=>[(0,.val (.string w)),(5,nP 1 ((ptF w pl z.1).map pvS) z.2.1),(6,iv (frK pl z.1)),(19,.lst true 1 (pl.map pvN)),(20,iv pl.length),(21,iv z.1)])
   (fun z=>nO 9 1 ((ptF w pl z.1).map pvS) z.2.1) (fun z=>z.2.2)
   (fun z=>z.1≤pl.length∧(0<z.1→z.2.1<z.2.2)) (fun z=>pl.length-z.1) (by kernel_rfl) (0,0,0) ⟨Nat.zero_le _,by simp⟩ ?_ ?_ rfl ?_
  ·simp(disch:=(first|omega|(simp only[push_cast];first|done|omega))) only[push_cast,↓reduceIte,Nat.reduceEqDiff,Nat.reduceBEq,Nat.reduceAdd,Nat.reduceSub,Int.reduceToNat,ptF,frK,List.map_nil, *]
  ·simp(disch:=(first|omega|(simp only[push_cast];first|done|omega))) only[push_cast,↓reduceIte,Nat.reduceEqDiff,Nat.reduceBEq,Nat.reduceAdd,Nat.reduceSub,Int.reduceToNat,ptF,List.map_nil, *]
  rintro⟨k,x,y⟩ ⟨hk,hxy⟩;dsimp only at hk hxy;have hlk:=hpl k;have hfk:=hfr k hk;by_cases h0:k<pl.length
  ·obtain⟨a1,a2⟩:=hat k h0
   have hn:ptF w pl (k+1)=ptF w pl k++[w.extract (frK pl k).toNat (pl[k]?.getD 0).toNat]:=rfl;have hf:=vD pl k;replace hn:=Lib.hid hn;replace hf:=Lib.hid hf;generalize ptF w pl k=out at*;generalize frK pl k=fr at*;clear hat hpl hfr;by_cases hz:out.length=0
   ·obtain rfl:out=[]:=List.eq_nil_of_length_eq_zero hz
    (refine wlk ?_;intros);refine⟨(k+1,y+1,y+2),⟨by dsimp only;omega,fun _=>by dsimp only;omega⟩,by dsimp only;omega,?_,?_,rfl⟩
    ·dsimp only
     rw[hn.out,hf.out];exact agr
    ·dsimp only
     rw[hn.out];exact agr
   ·have hxy:=hxy (by omega)
    have hap:0<(out.map pvS).length:=by rw[List.length_map];omega
    clear hz;have hap3:0<((out++[w.extract fr.toNat (pl[k]?.getD 0).toNat]).map pvS).length:=by simp
    simp only[aA hap,aD hap,List.length_map];(refine wlk ?_;intros);refine⟨(k+1,y+1,y+2),⟨by dsimp only;omega,fun _=>by dsimp only;omega⟩,by dsimp only;omega,?_,?_,rfl⟩
    ·dsimp only
     rw[hn.out,hf.out];simp(disch:=(first|omega|(simp only[push_cast];first|done|omega))) only[push_cast,↓reduceIte,Nat.reduceEqDiff,Nat.reduceBEq,Nat.reduceAdd,Nat.reduceSub,Int.reduceToNat,aA hap3,List.length_append, *]
    ·dsimp only
     rw[hn.out];simp(disch:=(first|omega|(simp only[push_cast];first|done|omega))) only[push_cast,↓reduceIte,Nat.reduceEqDiff,Nat.reduceBEq,Nat.reduceAdd,Nat.reduceSub,Int.reduceToNat,aD hap3, *]
  ·obtain rfl:k=pl.length:=by omega
   generalize ptF w pl pl.length=out at*;generalize frK pl pl.length=fr at*;clear hat hpl hfr;by_cases hz:out.length=0
   ·obtain rfl:out=[]:=List.eq_nil_of_length_eq_zero hz
    (refine wlk ?_;intros);all_goals((with_reducible apply bS (by first|exact .inl rfl|exact .inr rfl));(simp(disch:=(first|omega|(simp only[push_cast];first|done|omega))) only[push_cast,↓reduceIte,Nat.reduceEqDiff,Nat.reduceBEq,Nat.reduceAdd,Nat.reduceSub,Int.reduceToNat, *]<;>with_reducible exact rfl))
    all_goals exact PV.le_refl _
   ·have hxy:=hxy (by omega)
    have hap:0<(out.map pvS).length:=by rw[List.length_map];omega
    clear hz;simp only[aA hap,aD hap,List.length_map];(refine wlk ?_;intros);all_goals((with_reducible apply bS (by first|exact .inl rfl|exact .inr rfl));(simp(disch:=(first|omega|(simp only[push_cast];first|done|omega))) only[push_cast,↓reduceIte,Nat.reduceEqDiff,Nat.reduceBEq,Nat.reduceAdd,Nat.reduceSub,Int.reduceToNat, *]<;>with_reducible exact rfl))
    all_goals exact PV.le_refl _
def avv:Ctx:={fn:=aT [(74,fQ),(61,fO),(84,φPc)],io:=aT []}
theorem aqi:au Tryz.prog avv:=okΓ (fC Tryz.func74 fq (fC Tryz.func61 dx (fC Tryz.func84 afN aj))) aj
def abn:=ah (Γ:=avv) (f:=74) (φ:=fQ) rfl
def abm:=ah (Γ:=avv) (f:=61) (φ:=fO) rfl
def abE:=ah (Γ:=avv) (f:=84) (φ:=φPc) rfl
theorem zA:Sound Tryz.prog 64 φPr:=by
 refine ak mixed aqi Tryz.func64 rfl 48 rfl [.tmp 4] rfl (by kernel_rfl) fun ps r hr=>?_;obtain⟨w,pats,rfl,hpre,rfl⟩:=gy hr;refine⟨by simp,?_⟩;simp only[dIs,dUs,dSs,bR,bV,bT,bU,aI,bW,aL,aO,aH,aJ];have ap1:=gP (s:=w) (by omega);have ap2:=gT hpre.2;have apc:=agQ hpre;unfold oN at apc;unfold bN;cases hw:dw w with
 |false=>
  have hB:qC w pats=false:=by unfold qC;rw[hw];rfl
  rw[hw]at ap1;rw[hB,if_neg (by decide)];clear apc hpre hw hB;have gprs_c74:=abn;have gprs_c61:=abm;have gprs_c84:=abE;exact wlkF
 |true=>
 cases hp:bg pats with
 |false=>
  have hB:qC w pats=false:=by unfold qC;rw[hw,hp];rfl
  rw[hw]at ap1;rw[hp]at ap2;rw[hB,if_neg (by decide)];clear apc hpre hw hp hB;have gprs_c74:=abn;have gprs_c61:=abm;have gprs_c84:=abE;exact wlkF
 |true=>
  have hB:qC w pats=true:=by unfold qC;rw[hw,hp];rfl
  have hok:=mO (pats:=pats) hw;obtain⟨-,hw1,hw2⟩:=aR hw;rw[hw]at ap1;rw[hp]at ap2;rw[hB,if_pos rfl]at apc;rw[hB,if_pos rfl];unfold zC;have hfr:=rR hok hw1;generalize jO w pats=pl at*;obtain⟨hl,hat⟩:=hok;unfold ptR;have hpl:=vN w pl;clear hB hw hp hpre;have gprs_c74:=abn;have gprs_c61:=abm;have gprs_c84:=abE;(refine wlk ?_;intros);refine aF (α:=Nat×Nat×Nat) mixed (fun z=>[(0,.val (.string w)),(5,.row z.2.1 1 0 (ptF w pl z.1).length),(6,.lst true 1 (pl.map pvN)),(7,iv (frK pl z.1)),(8,iv z.1)])
   (fun z=>[(z.2.1,9,1,(ptF w pl z.1).map pvS)]) (fun z=>z.2.2)
   (fun z=>z.1≤pl.length∧z.2.1<z.2.2) (fun z=>pl.length-z.1) (by kernel_rfl) (0,0,1) ⟨Nat.zero_le _,by simp⟩ ?_ ?_ rfl ?_
  ·simp(disch:=(first|omega|(simp only[push_cast];first|done|omega))) only[push_cast,↓reduceIte,Nat.reduceEqDiff,Nat.reduceBEq,Nat.reduceAdd,Nat.reduceSub,Int.reduceToNat,ptF,frK,List.length_nil, *]
  ·simp(disch:=(first|omega|(simp only[push_cast];first|done|omega))) only[push_cast,↓reduceIte,Nat.reduceEqDiff,Nat.reduceBEq,Nat.reduceAdd,Nat.reduceSub,Int.reduceToNat,ptF,List.map_nil, *]
  rintro⟨k,x,y⟩ ⟨hk,hxy⟩;dsimp only at hk hxy;have hlk:=hpl k;have hfk:=hfr k hk;by_cases h0:k<pl.length
  ·obtain⟨a1,a2⟩:=hat k h0
   have hn:ptF w pl (k+1)=ptF w pl k++[w.extract (frK pl k).toNat (pl[k]?.getD 0).toNat]:=rfl;have hf:=vD pl k;replace hn:=Lib.hid hn;replace hf:=Lib.hid hf;generalize ptF w pl k=out at*;generalize frK pl k=fr at*;clear hat hpl hfr;(refine wlk ?_;intros);refine⟨(k+1,y+1,y+2),⟨by dsimp only;omega,by dsimp only;omega⟩,by dsimp only;omega,?_,?_,rfl⟩
   ·dsimp only
    rw[hn.out,hf.out];exact agr
   ·dsimp only
    rw[hn.out];exact agr
  ·obtain rfl:k=pl.length:=by omega
   generalize ptF w pl pl.length=out at*;generalize frK pl pl.length=fr at*;clear hat hpl hfr;exact wlkF
abbrev It:=Int×Int×Int×Int×Int×Int×Bool
def it0:It:=(0,0,0,0,0,0,false)
abbrev It.kd (x:It):Int:=x.1
abbrev It.wd (x:It):Int:=x.2.1
abbrev It.st (x:It):Int:=x.2.2.1
abbrev It.sh (x:It):Int:=x.2.2.2.1
abbrev It.od (x:It):Int:=x.2.2.2.2.1
abbrev It.cost (x:It):Int:=x.2.2.2.2.2.1
abbrev It.mark (x:It):Bool:=x.2.2.2.2.2.2
abbrev It.gl (x:It):I4:=(x.2.1,x.2.2.1,x.2.2.2.1,x.2.2.2.2.1)
def glB (g:I4):Bool:=inB g.1 0 1000&&(inB g.2.1 0 1000&&(inB g.2.2.1 0 g.1&&inB g.2.2.2 0 1))
def adN (g:I4):Bool:=decide (g.2.1=0∧g.2.2.1=0∧g.2.2.2=0)
def xS (c:Int):Bool:=inB c 0 10000||decide (c=-10000)
def itB (x:It):Bool:=glB x.gl&&((decide (x.kd=1)&&(adN x.gl&&decide (x.cost=0∧x.mark=false)))||((decide (x.kd=2)&&decide (x.cost=0∧x.mark=false))||(decide (x.kd=3)&&(adN x.gl&&xS x.cost))))
def aS (l:List It):Bool:=decide (l.length≤60)&&l.all itB
structure avE (x:It):Prop where
 wd:0≤x.wd∧x.wd≤1000
 st:0≤x.st∧x.st≤1000
 sh:0≤x.sh∧x.sh≤1000
 od:x.od=0∨x.od=1
 kd:x.kd=1∨x.kd=2∨x.kd=3
 cost:(0≤x.cost∧x.cost≤10000)∨x.cost=-10000
 mark:x.mark=true→x.kd=3
theorem auQ {x:It} (h:itB x=true):avE x:=by
 obtain⟨kd,wd,st,sh,od,cost,mark⟩:=x;simp only[itB,glB,adN,xS,It.kd,It.gl,It.cost,It.mark,Bool.and_eq_true,Bool.or_eq_true,ay,decide_eq_true_eq]at h;obtain⟨⟨h1,h2,h3,h4⟩,h5⟩:=h;refine⟨h1,h2,⟨h3.1,show sh≤1000 by omega⟩,show od=0∨od=1 by omega,show kd=1∨kd=2∨kd=3 by omega,show(0≤cost∧cost≤10000)∨cost=-10000 by omega,fun hm=>?_⟩;rcases h5 with h5|h5|h5
 ·rw[h5.2.2.2]at hm;cases hm
 ·rw[h5.2.2]at hm;cases hm
 ·exact h5.1
theorem bC {l:List It} (h:aS l=true):l.length≤60:=by unfold aS at h;rw[Bool.and_eq_true]at h;exact of_decide_eq_true h.1
theorem fI {l:List It} (h:aS l=true) {k:Nat} (hk:k<l.length):avE (l[k]?.getD it0):=by unfold aS at h;rw[Bool.and_eq_true,List.all_eq_true]at h;rw[List.getElem?_eq_getElem hk,Option.getD_some];exact auQ (h.2 _ (List.getElem_mem hk))
abbrev gI (l:List It) (k:Nat):It:=l[k]?.getD it0
def forced (x:It):Bool:=decide (x.kd=3∧x.cost=-10000)
def mg (l:List It) (n:Nat):Bool:=if(gI l n).kd=2 then decide (0<n∧(gI l (n-1)).kd=1)else decide ((gI l n).kd=3∧(gI l n).cost<10000)
def stN (l:List It):Nat→Nat→Nat
 |0,n=>n
 |f+1,n=>if n<l.length∧¬(gI l n).kd=1∧forced (gI l n)=false then stN l f (n+1)else n
def aB (l:List It) (a:Nat):Nat:=stN l (l.length-a) a
theorem auS {l:List It} {a:Nat} (h:a<l.length) (h1:¬(gI l a).kd=1) (h2:forced (gI l a)=false):aB l a=aB l (a+1):=by unfold aB;rw[show l.length-a=(l.length-(a+1))+1 by omega,stN,if_pos ⟨h,h1,h2⟩]
theorem aj8 {l:List It} {a:Nat} (h:¬(a<l.length∧¬(gI l a).kd=1∧forced (gI l a)=false)):aB l a=a:=by
 unfold aB;cases hf:l.length-a with
 |zero=>rfl
 |succ f=>rw[stN,if_neg h]
theorem aha (l:List It):∀(f n:Nat),n≤stN l f n∧(n≤l.length→stN l f n≤l.length)
 |0,n=>⟨Nat.le_refl _,fun h=>h⟩
 |f+1,n=>by
  unfold stN;split
  ·rename_i hc
   have:=aha l f (n+1);exact⟨by omega,fun _=>this.2 (by omega)⟩
  ·exact⟨Nat.le_refl _,fun h=>h⟩
theorem uw {l:List It} {a:Nat}:a≤aB l a∧(a≤l.length→aB l a≤l.length):=aha l _ a
def qj (l:List It) (a b:Nat):Bool:=(List.range (b-a)).all fun i=> !forced (gI l (a+i))
theorem xR {l:List It} {a b:Nat} (h:b≤a):qj l a b=true:=by unfold qj;rw[show b-a=0 by omega];rfl
theorem qZ {l:List It} {a b:Nat} (h:a≤b):qj l a (b+1)=(qj l a b&& !forced (gI l b)):=by unfold qj;rw[show b+1-a=(b-a)+1 by omega,List.range_succ,List.all_append];simp[show a+(b-a)=b by omega]
theorem abj {l:List It} {a b k:Nat} (h:qj l a (k+1)=false) (ha:a≤k) (hk:k<b):qj l a b=false:=by unfold qj at h⊢;rw[List.all_eq_false]at h⊢;obtain⟨i,hi,h1⟩:=h;have:=List.mem_range.1 hi;exact⟨i,List.mem_range.2 (by omega),h1⟩
def dH (l:List It) (a en:Nat):Bool:=decide (a≤en∧en<l.length)&&(mg l en&&((decide (a=0)||mg l (a-1))&&(decide (aB l a≤en)&&qj l a en)))
theorem eX {l:List It} {a en:Nat}:dH l a en=true↔(a≤en∧en<l.length)∧mg l en=true∧(a=0∨mg l (a-1)=true)∧aB l a≤en∧qj l a en=true:=by simp[dH]
def lN (l:List It) (b c:Nat):List Int:=((List.range (c-b)).filter fun i=> !decide ((gI l (b+i)).kd=3)).map fun i:Nat=>((b+i:Nat):Int)
theorem qH {l:List It} {b c:Nat} (h:c≤b):lN l b c=[]:=by unfold lN;rw[show c-b=0 by omega];rfl
theorem nM {l:List It} {b c:Nat} (h:b≤c) (hk:¬(gI l c).kd=3):lN l b (c+1)=lN l b c++[(c:Int)]:=by unfold lN;rw[show c+1-b=(c-b)+1 by omega,List.range_succ,List.filter_append,List.map_append];simp[show b+(c-b)=c by omega,hk];omega
theorem vT {l:List It} {b c:Nat} (h:b≤c) (hk:(gI l c).kd=3):lN l b (c+1)=lN l b c:=by unfold lN;rw[show c+1-b=(c-b)+1 by omega,List.range_succ,List.filter_append,List.map_append];simp[show b+(c-b)=c by omega,hk]
theorem nH (l:List It) (b c:Nat):(lN l b c).length≤c-b:=by unfold lN;rw[List.length_map];exact Nat.le_trans (List.length_filter_le _ _) (by simp)
theorem qA {l:List It} {b c:Nat}:∀x∈lN l b c,(b:Int)≤x∧x<c∧¬(gI l x.toNat).kd=3:=fun x hx=>by obtain⟨i,hi,rfl⟩:=List.mem_map.1 hx;obtain⟨h1,h2⟩:=List.mem_filter.1 hi;have h3:=List.mem_range.1 h1;refine⟨by omega,by omega,?_⟩;rw[Int.toNat_natCast];simpa using h2
def g40:I4:=(0,0,0,0)
def abA (a b:I4):I4:=
 let oa:=if a.2.1=0 then 0 else a.2.2.2
 let ob:=if b.2.1=0 then 0 else b.2.2.2
 let o:=max oa ob
 (a.1+b.1,(if oa=o then a.2.1 else 0)+(if ob=o then b.2.1 else 0),a.2.2.1+b.2.2.1,o)
def iV (gs:List I4):I4:=gs.foldl abA g40
theorem nG (gs:List I4) (g:I4):iV (gs++[g])=abA (iV gs) g:=by simp[iV,List.foldl_append]
def ug (gs:List I4):Int:=if gs.any (fun g=>decide (g.2.2.2=1∧0<g.2.1))=true then 1 else 0
def jX (gs:List I4) (o:Int):I4:=gs.foldl (fun t g=>(t.1+g.1,(if g.2.2.2=o then t.2.1+g.2.1 else t.2.1),t.2.2.1+g.2.2.1,o)) (0,0,0,o)
theorem fP (gs:List I4) (g:I4) (o:Int):jX (gs++[g]) o=((jX gs o).1+g.1,(if g.2.2.2=o then(jX gs o).2.1+g.2.1 else(jX gs o).2.1),(jX gs o).2.2.1+g.2.2.1,o):=by simp[jX,List.foldl_append]
theorem ai1:∀(gs:List I4) (o:Int),(jX gs o).2.2.2=o:=fun gs o=>by
 rcases List.eq_nil_or_concat gs with h|⟨l,x,h⟩
 ·subst h;rfl
 ·rw[List.concat_eq_append]at h
  subst h;rw[fP]
structure GOk (g:I4):Prop where
 wd:0≤g.1∧g.1≤1000
 st:0≤g.2.1∧g.2.1≤1000
 sh:0≤g.2.2.1∧g.2.2.1≤1000
 od:g.2.2.2=0∨g.2.2.2=1
theorem avE.gl {x:It} (h:avE x):GOk x.gl:=⟨h.wd,h.st,h.sh,h.od⟩
theorem yC (gs:List I4) (g:I4):ug (gs++[g])=if ug gs=1∨(g.2.2.2=1∧0<g.2.1)then 1 else 0:=by
 unfold ug;rw[List.any_append];cases h:gs.any (fun g=>decide (g.2.2.2=1∧0<g.2.1))with
 |true=>simp
 |false=>simp
theorem afz (gs:List I4):ug gs=0∨ug gs=1:=by
 unfold ug;split
 ·exact .inr rfl
 ·exact .inl rfl
theorem iw {α:Type} {p:List α→Prop} (h0:p []) (h1:∀l x,p l→p (l++[x])):∀l,p l:=fun l=>by
 have key:∀n,∀l:List α,l.length=n→p l:=by
  intro n
  induction n with
  |zero=>intro l h;rw[List.eq_nil_of_length_eq_zero h];exact h0
  |succ n ih=>
   intro l h;rcases List.eq_nil_or_concat l with h2|⟨l0,x,h2⟩
   ·subst h2;simp at h
   ·rw[List.concat_eq_append]at h2
    subst h2;rw[List.length_append,List.length_singleton]at h;exact h1 _ _ (ih l0 (by omega))
 exact key _ l rfl
theorem anr:∀gs:List I4,(∀g∈gs,GOk g)→iV gs=jX gs (ug gs)∧(ug gs=0→∀g∈gs,g.2.2.2=1→g.2.1=0)∧(ug gs=1→0<(iV gs).2.1)∧(ug gs=0→(jX gs 1).2.1=0):=by
 refine iw ?_ ?_
 ·intro _
  refine⟨rfl,by simp,fun h=>by simp[ug]at h,fun _=>rfl⟩
 ·intro gs g ih hg
  obtain⟨i1,i2,i3,i4⟩:=ih fun x hx=>hg x (List.mem_append.2 (.inl hx));have gk:=hg g (by simp);obtain⟨w,st,sh,od⟩:=g;obtain⟨g1,g2,g3,g4⟩:=gk;dsimp only at g1 g2 g3 g4;have hod:=ai1 gs (ug gs);rw[nG,yC,i1];rw[i1]at i3;rcases afz gs with h|h
  ·rw[h]at i1 i2 i3 i4 hod⊢
   have i4:=i4 rfl;have i2:=i2 rfl;by_cases hc:od=1∧0<st
   ·have hc2:(0:Int)=1∨(od=1∧0<st):=.inr hc
    have hst:¬st=0:=by omega
    rw[if_pos hc2];refine⟨?_,fun q=>by simp at q,fun _=>?_,fun q=>by simp at q⟩
    ·rw[fP,i4]
     unfold abA;rw[hod,hc.1];have e1:((jX gs 0).1=(jX gs 1).1)∧(jX gs 0).2.2.1=(jX gs 1).2.2.1:=by clear i1 i2 i3 i4 hod hg ih;refine iw (p:=fun gs=>(jX gs 0).1=(jX gs 1).1∧(jX gs 0).2.2.1=(jX gs 1).2.2.1) ⟨rfl,rfl⟩ (fun l x hx=>?_) gs;rw[fP,fP];exact⟨by dsimp only;rw[hx.1],by dsimp only;rw[hx.2]⟩
     have hm01:max (0:Int) 1=1:=by decide
     simp[e1.1,e1.2,hst,hm01]
    ·unfold abA
     rw[hod,hc.1];simp[hst];omega
   ·have hc2:¬((0:Int)=1∨(od=1∧0<st)):=by omega
    rw[if_neg hc2];have hz:od=1→st=0:=by omega
    refine⟨?_,fun _=>?_,fun q=>by simp at q,fun _=>?_⟩
    ·rw[fP]
     unfold abA;rw[hod];by_cases hs:st=0
     ·simp[hs]
     ·have h0:od=0:=by omega
      simp[hs,h0]
    ·intro x hx
     rcases List.mem_append.1 hx with hx|hx
     ·exact i2 x hx
     ·rw[List.mem_singleton.1 hx]
      exact hz
    ·rw[fP,i4]
     dsimp only
     split
     ·rename_i h1
      rw[hz h1];rfl
     ·rfl
  ·rw[h]at i1 i3 hod⊢
   have i3:=i3 rfl;rw[if_pos (.inl rfl)];have hne:¬(jX gs 1).2.1=0:=by omega
   refine⟨?_,fun q=>by simp at q,fun _=>?_,fun q=>by simp at q⟩
   ·rw[fP]
    unfold abA;rw[hod,if_neg hne];by_cases hs:st=0
    ·simp[hs]
     omega
    ·rcases g4 with h0|h0
     ·simp[hs,h0]
      omega
     ·simp[hs,h0]
   ·unfold abA
    rw[hod,if_neg hne];dsimp only
    have:max 1 (if st=0 then(0:Int)else od)=1:=by split<;>omega
    rw[this,if_pos rfl];split<;>omega
theorem aql:∀gs:List I4,(∀g∈gs,GOk g)→(0≤(iV gs).1∧(iV gs).1≤1000*gs.length)∧(0≤(iV gs).2.1∧(iV gs).2.1≤1000*gs.length)∧(0≤(iV gs).2.2.1∧(iV gs).2.2.1≤1000*gs.length)∧((iV gs).2.2.2=0∨(iV gs).2.2.2=1):=by
 refine iw ?_ ?_
 ·intro _
  exact⟨by decide,by decide,by decide,by decide⟩
 ·intro gs g ih hg
  obtain⟨i1,i2,i3,i4⟩:=ih fun x hx=>hg x (List.mem_append.2 (.inl hx));have gk:=hg g (by simp);obtain⟨w,st,sh,od⟩:=g;obtain⟨g1,g2,g3,g4⟩:=gk;dsimp only at g1 g2 g3 g4;rw[nG,List.length_append,List.length_singleton];generalize iV gs=t at*;obtain⟨tw,ts,th,en⟩:=t;dsimp only at i1 i2 i3 i4;unfold abA;dsimp only
  push_cast
  refine⟨by omega,?_,by omega,?_⟩
  ·(repeat' split)<;>omega
  ·(repeat' split)<;>omega
def aa9 (need room:Int):Int:=if need=0 then 0 else if room=0∨10*room<need then 10000 else min 10000 (100*need*need*need/(room*room*room))
theorem ali {n r:Int} (h0:0<r) (h:5*r<n):10000≤100*n*n*n/(r*r*r):=by
 have hr:0<r*r*r:=Int.mul_pos (Int.mul_pos h0 h0) h0;rw[Int.le_ediv_iff_mul_le hr];have h1:(5*r)*(5*r)≤n*n:=Int.mul_le_mul (by omega) (by omega) (by omega) (by omega);have h2:(5*r)*(5*r)*(5*r)≤n*n*n:=Int.mul_le_mul h1 (by omega) (by omega) (Int.mul_nonneg (by omega) (by omega));have e1:(5*r)*(5*r)*(5*r)=125*(r*r*r):=by rw[show 5*r*(5*r)*(5*r)=(5*5*5)*(r*r*r) by simp only[Int.mul_assoc,Int.mul_left_comm r 5]];rfl
 have e2:100*n*n*n=100*(n*n*n):=by simp only[Int.mul_assoc]
 rw[e2];omega
theorem aiG {need room:Int} (hn:0≤need) (hr:0≤room):aa9 need room=if need=0 then 0 else if room=0∨5*room<need then 10000 else min 10000 (100*need*need*need/(room*room*room)):=by
 unfold aa9;split
 ·rfl
 ·split
  ·rename_i h1
   rw[if_pos (by omega)]
  ·split
   ·have:=ali (n:=need) (r:=room) (by omega) (by omega)
    omega
   ·rfl
def fF (s:Bool) (bad:Int):Int:=if bad≤12 then 1 else if s=false then 0 else if bad<100 then 2 else 3
theorem lu (s:Bool) (bad:Int):0≤fF s bad∧fF s bad≤3:=by
 unfold fF
 repeat' split
 all_goals omega
def jY (bad cost:Int):Int:=(10+bad)*(10+bad)+(if cost=-10000 then 0 else cost*cost)
theorem mP {bad cost:Int} (h:0≤bad∧bad≤10000) (h2:(0≤cost∧cost≤10000)∨cost=-10000):0≤jY bad cost∧jY bad cost≤300000000:=by
 have h3:0≤(10+bad)*(10+bad):=Int.mul_nonneg (by omega) (by omega);have h4:(10+bad)*(10+bad)≤10010*10010:=Int.mul_le_mul (by omega) (by omega) (by omega) (by omega);unfold jY;split
 ·omega
 ·have h5:0≤cost*cost:=Int.mul_nonneg (by omega) (by omega)
  have h6:cost*cost≤10000*10000:=Int.mul_le_mul (by omega) (by omega) (by omega) (by omega);omega
def ac1 (l:List It) (a en:Nat):List I4:=((lN l (aB l a) en).map fun n:Int=>(gI l n.toNat).gl)++(if(gI l en).kd=3 then [(gI l en).gl]else [])
def asa (g:I4) (wd:Int):Int×Bool:=if g.1≤wd then(if g.2.2.2=1 then(0,true)else(aa9 (wd-g.1) g.2.1,true))else if g.1-wd≤g.2.2.1 then(aa9 (g.1-wd) g.2.2.1,false)else(-1,false)
def gZ (l:List It) (wd:Int) (a en:Nat):Int×Bool:=asa (iV (ac1 l a en)) wd
def iA (l:List It) (wd most:Int) (a en:Nat):Option (Int×Int):=
 if dH l a en=true∧0≤(gZ l wd a en).1∧(gZ l wd a en).1≤most then some (jY (gZ l wd a en).1 (gI l en).cost,fF (gZ l wd a en).2 (gZ l wd a en).1)else none
def iI (l:List It) (a en:Nat) (before looks:Int):Int:=
 (if 0<a∧(gI l (a-1)).mark=true∧(gI l en).mark=true then 3000 else 0)+(if 0<a∧(1<before-looks∨before-looks< -1)then 3000 else 0)
theorem lg (l:List It) (a en:Nat) (b k:Int):0≤iI l a en b k∧iI l a en b k≤6000:=by
 unfold iI
 repeat' split
 all_goals omega
abbrev Ch:=Int×Nat×Int
def gL (l:List It) (wd most:Int) (a:Nat) (lk:Int) (rest:Nat→Int→Option Ch) (acc:Option Ch) (en:Nat):Option Ch:=
 match iA l wd most a en with
 |none=>acc
 |some (c,k)=>match rest (en+1) k with
  |none=>acc
  |some r=>if acc.all (fun x=>decide (c+iI l a en lk k+r.1<x.1))=true then some (c+iI l a en lk k+r.1,en,k)else acc
def aZ (l:List It) (wd most:Int) (a:Nat) (lk:Int) (rest:Nat→Int→Option Ch):Nat→Option Ch
 |0=>none
 |j+1=>gL l wd most a lk rest (aZ l wd most a lk rest j) (l.length-(j+1))
def rU (l:List It) (wd most:Int):Nat→Nat→Int→Option Ch
 |0,_,_=>some (0,0,0)
 |f+1,a,lk=>if a=l.length then some (0,0,0)else aZ l wd most a lk (rU l wd most f) (l.length-a)
def aP (l:List It) (wd most:Int) (a:Nat) (lk:Int):Option Ch:=rU l wd most (l.length-a) a lk
theorem kR {l:List It} {wd most:Int} {a:Nat} {lk:Int} {r r':Nat→Int→Option Ch}:∀j,(∀b k,l.length-j<b→b≤l.length→r b k=r' b k)→j≤l.length→aZ l wd most a lk r j=aZ l wd most a lk r' j
 |0,_,_=>rfl
 |j+1,h,hj=>by
  rw[aZ,aZ,kR j (fun b k h1 h2=>h b k (by omega) h2) (by omega)];unfold gL;cases iA l wd most a (l.length-(j+1))with
  |none=>rfl
  |some c=>dsimp only;rw[h _ _ (by omega) (by omega)]
theorem uY {l:List It} {wd most:Int}:∀(f f' a:Nat) (lk:Int),l.length-a≤f→l.length-a≤f'→a≤l.length→rU l wd most f a lk=rU l wd most f' a lk
 |0,f',a,lk,h,h',ha=>by
  have:a=l.length:=by omega
  subst this;cases f' with
  |zero=>rfl
  |succ f'=>rw[rU,rU,if_pos rfl]
 |f+1,0,a,lk,h,h',ha=>by
  have:a=l.length:=by omega
  subst this;rw[rU,rU,if_pos rfl]
 |f+1,f'+1,a,lk,h,h',ha=>by
  rw[rU,rU];split
  ·rfl
  ·exact kR _ (fun b k h1 h2=>uY f f' b k (by omega) (by omega) h2) (by omega)
theorem og (l:List It) (wd most lk:Int):aP l wd most l.length lk=some (0,0,0):=by unfold aP;rw[Nat.sub_self];rfl
theorem lI {l:List It} {wd most lk:Int} {a:Nat} (h:a<l.length):aP l wd most a lk=aZ l wd most a lk (aP l wd most) (l.length-a):=by
 unfold aP;obtain⟨f,hf⟩:∃f,l.length-a=f+1:=⟨l.length-a-1,by omega⟩
 conv=>lhs;rw[hf]
 rw[rU,if_neg (by omega)];exact kR _ (fun b k h1 h2=>uY _ _ _ _ (by omega) (by omega) h2) (by omega)
theorem o8 {l:List It} {wd most:Int} {a en:Nat} {x:Int×Int} (h:iA l wd most a en=some x):dH l a en=true∧(0≤(gZ l wd a en).1∧(gZ l wd a en).1≤most)∧x=(jY (gZ l wd a en).1 (gI l en).cost,fF (gZ l wd a en).2 (gZ l wd a en).1):=by
 unfold iA at h;split at h
 ·rename_i hc
  cases h;exact⟨hc.1,hc.2,rfl⟩
 ·cases h
theorem nA {l:List It} {wd most:Int} {a en:Nat} {x:Int×Int} (hl:aS l=true) (hm:most≤10000) (h:iA l wd most a en=some x):(a≤en∧en<l.length)∧(0≤x.1∧x.1≤300000000)∧0≤x.2∧x.2≤3:=by obtain⟨h1,h2,rfl⟩:=o8 h;obtain⟨h3,-⟩:=eX.1 h1;exact⟨h3,mP ⟨h2.1,by omega⟩ (fI hl h3.2).cost,lu _ _⟩
theorem iy {l:List It} {wd most:Int} {a:Nat} {lk:Int} {rest:Nat→Int→Option Ch} {acc:Option Ch} {en:Nat} (h:iA l wd most a en=none):gL l wd most a lk rest acc en=acc:=by unfold gL;rw[h]
theorem jI {l:List It} {wd most:Int} {a:Nat} {lk:Int} {rest:Nat→Int→Option Ch} {acc:Option Ch} {en:Nat} {c k:Int} (h:iA l wd most a en=some (c,k)) (h2:rest (en+1) k=none):gL l wd most a lk rest acc en=acc:=by
 unfold gL;rw[h];dsimp only
 rw[h2]
theorem jR {l:List It} {wd most:Int} {a:Nat} {lk:Int} {rest:Nat→Int→Option Ch} {acc:Option Ch} {en:Nat} {c k:Int} {r:Ch} (h:iA l wd most a en=some (c,k)) (h2:rest (en+1) k=some r):
 gL l wd most a lk rest acc en=if acc.all (fun x=>decide (c+iI l a en lk k+r.1<x.1))=true then some (c+iI l a en lk k+r.1,en,k)else acc:=by
 unfold gL;rw[h];dsimp only
 rw[h2]
def avz (l:List It) (wd most:Int) (a:Nat) (lk:Int) (rest:Nat→Int→Option Ch) (j:Nat) (x:Ch):Prop:=
 ∃c0 r,iA l wd most a x.2.1=some (c0,x.2.2)∧rest (x.2.1+1) x.2.2=some r∧x.1=c0+iI l a x.2.1 lk x.2.2+r.1∧l.length-j≤x.2.1∧x.2.1<l.length
theorem lZ {l:List It} {wd most:Int} {a:Nat} {lk:Int} {rest:Nat→Int→Option Ch} {x:Ch}:∀j,0<l.length→aZ l wd most a lk rest j=some x→avz l wd most a lk rest j x
 |0,_,h=>by cases h
 |j+1,hp,h=>by
  have ih:=@lZ l wd most a lk rest x j hp;have wk:avz l wd most a lk rest j x→avz l wd most a lk rest (j+1) x:=fun⟨c0,r,h1,h2,h3,h4,h5⟩=>⟨c0,r,h1,h2,h3,by omega,h5⟩;rw[aZ]at h;cases hL:iA l wd most a (l.length-(j+1))with
  |none=>rw[iy hL]at h;exact wk (ih h)
  |some c=>
   obtain⟨c,k⟩:=c;cases hr:rest (l.length-(j+1)+1) k with
   |none=>rw[jI hL hr]at h;exact wk (ih h)
   |some r=>
    rw[jR hL hr]at h;split at h
    ·cases h
     exact⟨c,r,hL,hr,rfl,Nat.le_refl _,by dsimp only;omega⟩
    ·exact wk (ih h)
theorem oI {l:List It} {wd most lk:Int} {a:Nat} {x:Ch} (h:a<l.length) (hx:aP l wd most a lk=some x):avz l wd most a lk (aP l wd most) (l.length-a) x:=by rw[lI h]at hx;exact lZ _ (by omega) hx
theorem sO {l:List It} {wd most:Int} (hl:aS l=true) (hm:most≤10000):∀(n a:Nat) (lk:Int) (x:Ch),l.length-a=n→a≤l.length→aP l wd most a lk=some x→0≤x.1∧x.1≤306000000*n
 |0,a,lk,x,hn,ha,h=>by
  have:a=l.length:=by omega
  subst this;rw[og]at h;cases h;exact⟨by decide,by simp⟩
 |n+1,a,lk,x,hn,ha,h=>by
  obtain⟨c0,r,h1,h2,h3,h4,h5⟩:=oI (by omega) h;obtain⟨g1,g2,g3⟩:=nA hl hm h1;have hb:=lg l a x.2.1 lk x.2.2;have ih:=sO hl hm (l.length-(x.2.1+1)) (x.2.1+1) _ r rfl (by omega) h2;dsimp only at g2
  push_cast
  omega
theorem oK {l:List It} {wd most:Int} (hl:aS l=true) (hm:most≤10000) {a:Nat} {lk:Int} {j:Nat} {x:Ch} (ha:a<l.length) (h:aZ l wd most a lk (aP l wd most) j=some x):(0≤x.1∧x.1≤20000000000)∧x.2.1<l.length∧0≤x.2.2∧x.2.2≤3:=by obtain⟨c0,r,h1,h2,h3,h4,h5⟩:=lZ j (by omega) h;obtain⟨g1,g2,g3⟩:=nA hl hm h1;have hb:=lg l a x.2.1 lk x.2.2;have ih:=sO hl hm _ _ _ r rfl (by omega) h2;have:=bC hl;dsimp only at g2 g3;exact⟨by omega,h5,g3⟩
theorem dh {l:List It} {wd most:Int} (hl:aS l=true) (hm:most≤10000) {a:Nat} {lk:Int} {x:Ch} (ha:a≤l.length) (h:aP l wd most a lk=some x):(0≤x.1∧x.1≤20000000000)∧(a<l.length→(a≤x.2.1∧x.2.1<l.length)∧0≤x.2.2∧x.2.2≤3):=by have h1:=sO hl hm _ a lk x rfl ha h;have:=bC hl;refine⟨by omega,fun h2=>?_⟩;obtain⟨c0,r,g1,g2,g3,g4,g5⟩:=oI h2 h;obtain⟨k1,k2,k3⟩:=nA hl hm g1;exact⟨k1,k3⟩
theorem wJ {l:List It} {wd most:Int} {a en:Nat} (h0:0<a) (h:mg l (a-1)=false):iA l wd most a en=none:=by
 unfold iA;rw[if_neg];rintro⟨h1,-⟩;obtain⟨-,-,h2,-⟩:=eX.1 h1;rcases h2 with h2|h2
 ·omega
 ·rw[h]at h2;cases h2
theorem lW {l:List It} {wd most:Int} {a:Nat} {lk:Int} {rest:Nat→Int→Option Ch} (h0:0<a) (h:mg l (a-1)=false):∀j,aZ l wd most a lk rest j=none
 |0=>rfl
 |j+1=>by rw[aZ,iy (wJ h0 h),lW h0 h j]
theorem wY {l:List It} {wd most lk:Int} {a:Nat} (ha:a<l.length) (h0:0<a) (h:mg l (a-1)=false):aP l wd most a lk=none:=by rw[lI ha,lW h0 h]
theorem p8 {l:List It} {wd most lk lk':Int} {rest:Nat→Int→Option Ch}:∀j,aZ l wd most 0 lk rest j=aZ l wd most 0 lk' rest j
 |0=>rfl
 |j+1=>by
  rw[aZ,aZ,p8 (lk:=lk) (lk':=lk') j];have:∀en k,iI l 0 en lk k=iI l 0 en lk' k:=fun en k=>by simp[iI]
  unfold gL;simp only[this]
theorem qW {l:List It} {wd most:Int} (lk lk':Int):aP l wd most 0 lk=aP l wd most 0 lk':=by
 by_cases h:0<l.length
 ·rw[lI h,lI h,p8 (lk:=lk) (lk':=lk')]
 ·unfold aP
  rw[show l.length-0=0 by omega];rfl
def bkF (l:List It) (wd most:Int):Nat→Nat→Int→List Int
 |0,_,_=>[]
 |f+1,a,lk=>if a=l.length then []else match aP l wd most a lk with
  |none=>[]
  |some r=>(r.2.1:Int)::bkF l wd most f (r.2.1+1) r.2.2
def dD (l:List It) (wd most:Int):List Int:=bkF l wd most (l.length+1) 0 1
def jo (l:List It) (wd most:Int):Bool:=aS l&&(decide (0<l.length)&&(inB wd 0 1000&&(inB most 0 10000&&(aP l wd most 0 1).isSome)))
def aoP (l:List It) (wd most:Int):List Int:=if jo l wd most=true then dD l wd most else []
theorem fJ {l:List It} {wd most:Int}:jo l wd most=true↔aS l=true∧0<l.length∧(0≤wd∧wd≤1000)∧(0≤most∧most≤10000)∧(aP l wd most 0 1).isSome=true:=by simp[jo,ay]
theorem nV {l:List It} {wd most:Int} {f a:Nat} {lk:Int} {r:Ch} (h:¬a=l.length) (hr:aP l wd most a lk=some r):bkF l wd most (f+1) a lk=(r.2.1:Int)::bkF l wd most f (r.2.1+1) r.2.2:=by rw[bkF,if_neg h,hr]
theorem wH {l:List It} {wd most:Int} {f:Nat} {lk:Int}:bkF l wd most f l.length lk=[]:=by
 cases f with
 |zero=>rfl
 |succ f=>rw[bkF,if_pos rfl]
theorem aaw {l:List It} {wd most:Int} (hl:aS l=true) (hm:most≤10000):∀(f a:Nat) (lk:Int),a≤l.length→(bkF l wd most f a lk).length≤l.length-a
 |0,a,lk,_=>by simp[bkF]
 |f+1,a,lk,ha=>by
  by_cases h:a=l.length
  ·subst h;rw[wH];simp
  ·cases hr:aP l wd most a lk with
   |none=>rw[bkF,if_neg h,hr];simp
   |some r=>obtain⟨h1,h2⟩:=dh hl hm ha hr;have h2:=h2 (by omega);rw[nV h hr,List.length_cons];have:=aaw (wd:=wd) hl hm f (r.2.1+1) r.2.2 (by omega);omega
theorem oU {l:List It} {wd most:Int} {a:Nat} {lk:Int} {r:Ch} (ha:a<l.length) (hr:aP l wd most a lk=some r):∃x c0,aP l wd most (r.2.1+1) r.2.2=some x∧iA l wd most a r.2.1=some (c0,r.2.2):=by obtain⟨c0,x,g1,g2,-⟩:=oI ha hr;exact⟨x,c0,g2,g1⟩
def nbX (l:List It) (n:Nat):Nat:=((l.take n).filter fun x=>decide (x.kd=1)).length
theorem aaQ {l:List It} {n:Nat} (h:n<l.length) (hk:(gI l n).kd=1):nbX l (n+1)=nbX l n+1:=by
 unfold nbX;rw[List.take_succ_eq_append_getElem h,List.filter_append,List.length_append];have e:gI l n=l[n]:=by unfold gI;rw[List.getElem?_eq_getElem h,Option.getD_some]
 rw[e]at hk;simp[hk]
theorem ahe {l:List It} {n:Nat} (h:n<l.length) (hk:¬(gI l n).kd=1):nbX l (n+1)=nbX l n:=by
 unfold nbX;rw[List.take_succ_eq_append_getElem h,List.filter_append,List.length_append];have e:gI l n=l[n]:=by unfold gI;rw[List.getElem?_eq_getElem h,Option.getD_some]
 rw[e]at hk;simp[hk]
def mQ (l:List It) (tx:LS) (s:ByteArray) (n:Nat):ByteArray:=
 if(gI l n).kd=1 then s++(tx[nbX l n]?.getD .empty)else if(gI l n).kd=2∧0<(gI l n).wd∧¬s=⟨#[]⟩then s++⟨#[32]⟩else s
instance:DecidableEq ByteArray:=inferInstance
def lnT (l:List It) (tx:LS) (a:Nat):Nat→ByteArray
 |0=>⟨#[]⟩
 |j+1=>mQ l tx (lnT l tx a j) (a+j)
def lnR (l:List It) (tx:LS) (a en:Nat):ByteArray:=if(gI l en).mark=true then lnT l tx a (en-a)++⟨#[45]⟩else lnT l tx a (en-a)
def dA7 {α β γ δ ε ζ η:Type} (A:Dec α) (B:Dec β) (C:Dec γ) (D:Dec δ) (E:Dec ε) (F:Dec ζ) (G:Dec η):Dec (α×β×γ×δ×ε×ζ×η) where
 d:=fun| .agg [p,q,r,s,t,u,v]=>(A.d p).bind fun a=>(B.d q).bind fun b=>(C.d r).bind fun c=>(D.d s).bind fun d=>(E.d t).bind fun e=>(F.d u).bind fun f=>(G.d v).map fun g=>(a,b,c,d,e,f,g)|_=>none
 e:=fun x=> .agg [A.e x.1,B.e x.2.1,C.e x.2.2.1,D.e x.2.2.2.1,E.e x.2.2.2.2.1,F.e x.2.2.2.2.2.1,G.e x.2.2.2.2.2.2]
 h:=fun p a h=>by
  split at h
  ·simp only[Option.bind_eq_some_iff,Option.map_eq_some_iff]at h
   obtain⟨x,h1,y,h2,z,h3,t,h4,u,h5,v,h6,w,h7,rfl⟩:=h;rw[A.h _ _ h1,B.h _ _ h2,C.h _ _ h3,D.h _ _ h4,E.h _ _ h5,F.h _ _ h6,G.h _ _ h7]
  ·cases h
 h':=fun a=>by simp[A.h',B.h',C.h',D.h',E.h',F.h',G.h']
theorem an4 {α β γ δ ε ζ η:Type} (A:Dec α) (B:Dec β) (C:Dec γ) (D:Dec δ) (E:Dec ε) (F:Dec ζ) (G:Dec η):(dA7 A B C D E F G).e=fun x=> .agg [A.e x.1,B.e x.2.1,C.e x.2.2.1,D.e x.2.2.2.1,E.e x.2.2.2.2.1,F.e x.2.2.2.2.2.1,G.e x.2.2.2.2.2.2]:=rfl
abbrev dIt:Dec It:=dA7 dI dI dI dI dI dI dB
abbrev lV:Dec (List It):=dL 7 dIt
abbrev fE (x:It):PV:=.agg [.val (.int .i64 x.1),.val (.int .i64 x.2.1),.val (.int .i64 x.2.2.1),.val (.int .i64 x.2.2.2.1),.val (.int .i64 x.2.2.2.2.1),.val (.int .i64 x.2.2.2.2.2.1),.val (.bool x.2.2.2.2.2.2)]
section
variable {β:Type} {n sz f i:Nat} {ob:bn} {k fr:Bool} {l:List It}
theorem auX {g:It→β} (h:i<l.length):Option.map g l[i]?=some (g ((l[i]?).getD it0)):=by simp[h]
theorem aho:reify false n ob (f+3) (.lst k sz (l.map fE))=some (.lst false sz (l.map fE)):=rD fun _=>rfl
theorem akD {m T:Nat} (hm:m=l.length):qp fr (f+2) ob sz 0 m (some (T,sz,l.map fE))=some (.lst fr sz (l.map fE)):=uN (fun _=>rfl) hm
end
attribute[push_cast]
 auX aho akD
abbrev adY (l:List It):Prop:=l.length≤1000
def abO:Fun:=F1 dI4 fun g=>some (bv (glB g))
theorem acv {a b c d:Int}:abO [.agg [.val (.int .i64 a),.val (.int .i64 b),.val (.int .i64 c),.val (.int .i64 d)]]=some (.val (.bool (glB (a,b,c,d)))):=fM (A:=dI4) (a,b,c,d)
def arh:Ctx:={fn:=aT [(43,φIn)],io:=aT []}
theorem alG:au Tryz.prog arh:=okΓ (fC Tryz.func43 qd aj) aj
def ajr:=ah (Γ:=arh) (f:=43) (φ:=φIn) rfl
theorem adQ:Sound Tryz.prog 26 abO:=by
 refine ak mixed alG Tryz.func26 rfl 23 rfl [.tmp 2] rfl (by kernel_rfl) fun ps r hr=>?_;obtain⟨⟨a,b,c,d⟩,rfl,hr⟩:=bG hr;cases hr;refine⟨by simp,?_⟩;simp only[dIs,dUs,dSs,bR,bV,bT,bU,aI,bW,aL,aO,aH,aJ];have ggl4i_c43:=ajr;have ap:=bJ;(refine wlkX6 ?_ ?_ ?_ ?_ ?_ ?_<;>intros<;>try with_reducible exact trivial);all_goals(refine fnG ?_;try with_reducible exact trivial)
 all_goals simp_all [glB]
def asu:Ctx:={fn:=aT [(48,φIn)],io:=aT []}
theorem alr:au Tryz.prog asu:=okΓ (fC Tryz.func48 gB aj) aj
def akI:=ah (Γ:=asu) (f:=48) (φ:=φIn) rfl
theorem adV:Sound Tryz.prog 113 abO:=by
 refine ak mixed alr Tryz.func113 rfl 23 rfl [.tmp 2] rfl (by kernel_rfl) fun ps r hr=>?_;obtain⟨⟨a,b,c,d⟩,rfl,hr⟩:=bG hr;cases hr;refine⟨by simp,?_⟩;simp only[dIs,dUs,dSs,bR,bV,bT,bU,aI,bW,aL,aO,aH,aJ];have ggl4s_c48:=akI;have ap:=bJ;(refine wlkX6 ?_ ?_ ?_ ?_ ?_ ?_<;>intros<;>try with_reducible exact trivial);all_goals(refine fnG ?_;try with_reducible exact trivial)
 all_goals simp_all [glB]
def abL:Fun:=F1 dIt fun x=>some (bv (itB x))
theorem adK {a b c d e f:Int} {g:Bool}:abL [.agg [.val (.int .i64 a),.val (.int .i64 b),.val (.int .i64 c),.val (.int .i64 d),.val (.int .i64 e),.val (.int .i64 f),.val (.bool g)]]=some (.val (.bool (itB (a,b,c,d,e,f,g)))):=fM (A:=dIt) (a,b,c,d,e,f,g)
def tJ:Fun:=F1 dI fun c=>some (bv (xS c))
theorem zW (c:Int):tJ [.val (.int .i64 c)]=some (.val (.bool (xS c))):=rfl
def arA:Ctx:={fn:=aT [(51,nU)],io:=aT []}
theorem akA:au Tryz.prog arA:=okΓ (fC Tryz.func51 mU aj) aj
def alI:=ah (Γ:=arA) (f:=51) (φ:=nU) rfl
theorem zK:Sound Tryz.prog 119 tJ:=by
 refine ak mixed akA Tryz.func119 rfl 9 rfl [.tmp 2] rfl (by kernel_rfl) fun ps r hr=>?_;obtain⟨c,rfl,hr⟩:=bG hr;cases hr;refine⟨by simp,?_⟩;simp only[dIs,dUs,dSs,bR,bV,bT,bU,aI,bW,aL,aO,aH,aJ];have ap:=lD;have gcost_c51:=alI;(refine wlkX6 ?_ ?_ ?_ ?_ ?_ ?_<;>intros<;>try with_reducible exact trivial);all_goals(refine fnG ?_;try with_reducible exact trivial)
 all_goals simp_all [xS]
def avR:Ctx:={fn:=aT [(26,abO),(119,tJ)],io:=aT []}
theorem aok:au Tryz.prog avR:=okΓ (fC Tryz.func26 adQ (fC Tryz.func119 zK aj)) aj
def ao6:=ah (Γ:=avR) (f:=26) (φ:=abO) rfl
def alh:=ah (Γ:=avR) (f:=119) (φ:=tJ) rfl
theorem afm:Sound Tryz.prog 106 abL:=by
 refine ak mixed aok Tryz.func106 rfl 63 rfl [.tmp 2] rfl (by kernel_rfl) fun ps r hr=>?_;obtain⟨⟨a,b,c,d,e,f,g⟩,rfl,hr⟩:=bG hr;cases hr;refine⟨by simp,?_⟩;simp only[dIs,dUs,dSs,bR,bV,bT,bU,aI,bW,aL,aO,aH,aJ];simp only[an4,bR,bT];have ap1:=@acv;have ap2:=zW;have hE:itB (a,b,c,d,e,f,g)=(glB (b,c,d,e)&&((decide (a=1)&&(decide (c=0∧d=0∧e=0)&&decide (f=0∧g=false)))||((decide (a=2)&&decide (f=0∧g=false))||(decide (a=3)&&(decide (c=0∧d=0∧e=0)&&xS f))))):=rfl;rw[hE];clear hE;cases hg:glB (b,c,d,e)<;>cases hc:xS f<;>
 ·have giti_c26:=ao6;have giti_c119:=alh
  repeat' (first|(with_reducible first|apply nk|apply fV|apply iW|apply iR|apply nZ|apply acQ|apply ny|apply nR|apply adH|apply ou|apply nL|apply adj|apply mX|apply nK|apply nN)|((with_reducible apply dR);(simp only[List.map_cons,List.map_nil]<;>exact rfl))|((with_reducible apply iP);(simp only[List.map_cons,List.map_nil]<;>exact rfl);decide+kernel)|((with_reducible apply mY);rfl)|((first|((with_reducible apply i_V);rfl;rfl;rfl)|((first|((with_reducible apply i_E);rfl)|((with_reducible apply i_S);rfl));first|rfl|(simp only[push_cast,↓reduceIte]))|((with_reducible apply acF);rfl;rfl)|((with_reducible apply adM);rfl;rfl;rfl)|(with_reducible first|apply adg|apply iT));(simp(disch:=(first|omega|(simp only[push_cast];first|done|omega))) only[push_cast,↓reduceIte,Nat.reduceEqDiff,Nat.reduceBEq,Nat.reduceAdd,Nat.reduceSub,Int.reduceToNat, *]<;>with_reducible exact rfl);all_goals try(first|(with_reducible first|refine hyT ?_|refine hyF ?_|exact hyA|exact hyB)|(intro hX;first|(cases hX;done)|((try simp only[decide_eq_true_eq,decide_eq_false_iff_not,Bool.not_eq_true',Bool.not_eq_false']at hX);(try have hXb:=ay.1 hX))))))
  all_goals(refine fnG ?_;try with_reducible exact trivial)
  all_goals(first|(simp_all;done)|(simp_all;omega))
def av7:Ctx:={fn:=aT [(113,abO),(48,φIn)],io:=aT []}
theorem aov:au Tryz.prog av7:=okΓ (fC Tryz.func113 adV (fC Tryz.func48 gB aj)) aj
def aj3:=ah (Γ:=av7) (f:=113) (φ:=abO) rfl
def aqZ:=ah (Γ:=av7) (f:=48) (φ:=φIn) rfl
theorem afp:Sound Tryz.prog 97 abL:=by
 refine ak mixed aov Tryz.func97 rfl 62 rfl [.tmp 2] rfl (by kernel_rfl) fun ps r hr=>?_;obtain⟨⟨a,b,c,d,e,f,g⟩,rfl,hr⟩:=bG hr;cases hr;refine⟨by simp,?_⟩;simp only[dIs,dUs,dSs,bR,bV,bT,bU,aI,bW,aL,aO,aH,aJ];simp only[an4,bR,bT];have ap1:=@acv;have ap2:=bJ;have hE:itB (a,b,c,d,e,f,g)=(glB (b,c,d,e)&&((decide (a=1)&&(decide (c=0∧d=0∧e=0)&&decide (f=0∧g=false)))||((decide (a=2)&&decide (f=0∧g=false))||(decide (a=3)&&(decide (c=0∧d=0∧e=0)&&(inB f 0 10000||decide (f=-10000))))))):=rfl;rw[hE];clear hE;cases hg:glB (b,c,d,e)<;>
 ·have gits_c113:=aj3;have gits_c48:=aqZ
  repeat' (first|(with_reducible first|apply nk|apply fV|apply iW|apply iR|apply nZ|apply acQ|apply ny|apply nR|apply adH|apply ou|apply nL|apply adj|apply mX|apply nK|apply nN)|((with_reducible apply dR);(simp only[List.map_cons,List.map_nil]<;>exact rfl))|((with_reducible apply iP);(simp only[List.map_cons,List.map_nil]<;>exact rfl);decide+kernel)|((with_reducible apply mY);rfl)|((first|((with_reducible apply i_V);rfl;rfl;rfl)|((first|((with_reducible apply i_E);rfl)|((with_reducible apply i_S);rfl));first|rfl|(simp only[push_cast,↓reduceIte]))|((with_reducible apply acF);rfl;rfl)|((with_reducible apply adM);rfl;rfl;rfl)|(with_reducible first|apply adg|apply iT));(simp(disch:=(first|omega|(simp only[push_cast];first|done|omega))) only[push_cast,↓reduceIte,Nat.reduceEqDiff,Nat.reduceBEq,Nat.reduceAdd,Nat.reduceSub,Int.reduceToNat, *]<;>with_reducible exact rfl);all_goals try(first|(with_reducible first|refine hyT ?_|refine hyF ?_|exact hyA|exact hyB)|(intro hX;first|(cases hX;done)|((try simp only[decide_eq_true_eq,decide_eq_false_iff_not,Bool.not_eq_true',Bool.not_eq_false']at hX);(try have hXb:=ay.1 hX))))))
  all_goals(refine fnG ?_;try with_reducible exact trivial)
  all_goals(first|(simp_all;done)|(simp_all;omega))
def wT:Fun:=F1 lV fun l=>if adY l then some (bv (aS l))else none
theorem wB {l:List It} (h:adY l):wT [.lst false 7 (l.map fE)]=some (.val (.bool (aS l))):=(fM (A:=lV) l).trans (if_pos h)
def asH:Ctx:={fn:=aT [(106,abL)],io:=aT []}
theorem ak5:au Tryz.prog asH:=okΓ (fC Tryz.func106 afm aj) aj
def ah4:=ah (Γ:=asH) (f:=106) (φ:=abL) rfl
theorem uP:Sound Tryz.prog 91 wT:=by
 refine ak mixed ak5 Tryz.func91 rfl 18 rfl [.tmp 2] rfl (by kernel_rfl) fun ps r hr=>?_;obtain⟨l,rfl,hpre,rfl⟩:=kW hr;refine⟨by simp,?_⟩;simp only[dIs,dUs,dSs,bR,bV,bT,bU,aI,bW,aL,aO,aH,aJ];have hlen:l.length≤1000:=hpre;have ap:=@adK;clear hpre;show pq _ _ _ _ _ (bM [.lst false 7 (l.map fE)]).tm _ _;have gitsi_c106:=ah4;(refine wlk ?_;intros);refine aF (α:=Nat×Nat) mixed (fun z=>[(0,.lst false 7 (l.map fE)),(5,.lst false 7 (l.map fE)),(6,iv l.length),(7,iv z.1)]) (fun _=>[]) (fun z=>z.2)
  (fun z=>z.1≤l.length∧∀j,j<z.1→itB (l[j]?.getD it0)=true) (fun z=>l.length-z.1) (by kernel_rfl) (0,0) ⟨Nat.zero_le _,fun j hj=>by simp at hj⟩ ?_ trivial rfl ?_
 ·exact agr
 rintro⟨k,y⟩ ⟨hk,hok⟩;dsimp only at hk hok;by_cases h0:k<l.length
 ·cases hb:itB (l[k]?.getD it0)with
  |false=>
   have hE:aS l=false:=by unfold aS;rw[iZ (d:=it0) h0 hb,Bool.and_false]
   rw[hE];clear hok hE;generalize hx9:l[k]?.getD it0=x at*;obtain⟨a,b,c,d,e,f,g⟩:=x;exact wlkF
  |true=>
   have hok2:∀j,j<k+1→itB (l[j]?.getD it0)=true:=fun j hj=>by
    by_cases h1:j<k
    ·exact hok j h1
    ·obtain rfl:j=k:=by omega
     exact hb
   replace hok2:=Lib.hid hok2;clear hok;generalize hx9:l[k]?.getD it0=x at*;obtain⟨a,b,c,d,e,f,g⟩:=x;(refine wlk ?_;intros);refine⟨(k+1,y+1),⟨by dsimp only;omega,hok2.out⟩,by dsimp only;omega,?_,trivial,rfl⟩;exact agr
 ·obtain rfl:k=l.length:=by omega
  have hE:aS l=decide (l.length≤60):=by unfold aS;rw[fA (d:=it0) fun j hj=>hok j hj,Bool.and_true]
  rw[hE];clear hok hE;((refine wlk6 ?_ ?_ ?_ ?_ ?_ ?_<;>intros<;>try with_reducible exact trivial)<;>(refine fnG ?_;try with_reducible exact trivial));all_goals(first|(simp;omega)|skip)
def au6:Ctx:={fn:=aT [(97,abL)],io:=aT []}
theorem ajM:au Tryz.prog au6:=okΓ (fC Tryz.func97 afp aj) aj
def ajT:=ah (Γ:=au6) (f:=97) (φ:=abL) rfl
theorem ad3:Sound Tryz.prog 77 wT:=by
 refine ak mixed ajM Tryz.func77 rfl 19 rfl [.tmp 2] rfl (by kernel_rfl) fun ps r hr=>?_;obtain⟨l,rfl,hpre,rfl⟩:=kW hr;refine⟨by simp,?_⟩;simp only[dIs,dUs,dSs,bR,bV,bT,bU,aI,bW,aL,aO,aH,aJ];have hlen:l.length≤1000:=hpre;have ap:=@adK;clear hpre;show pq _ _ _ _ _ (bM [.lst false 7 (l.map fE)]).tm _ _;have gitss_c97:=ajT;(refine wlk ?_;intros);refine aF (α:=Nat) mixed (fun k=>[(0,.lst false 7 (l.map fE)),(3,iv k)]) (fun _=>[]) (fun _=>0)
  (fun k=>k≤l.length∧∀j,j<k→itB (l[j]?.getD it0)=true) (fun k=>l.length-k) (by kernel_rfl) 0 ⟨Nat.zero_le _,fun j hj=>by simp at hj⟩ ?_ trivial rfl ?_
 ·exact agr
 rintro k ⟨hk,hok⟩;by_cases h0:k<l.length
 ·cases hb:itB (l[k]?.getD it0)with
  |false=>
   have hE:aS l=false:=by unfold aS;rw[iZ (d:=it0) h0 hb,Bool.and_false]
   rw[hE];clear hok hE;generalize hx9:l[k]?.getD it0=x at*;obtain⟨a,b,c,d,e,f,g⟩:=x;exact wlkF
  |true=>
   have hok2:∀j,j<k+1→itB (l[j]?.getD it0)=true:=fun j hj=>by
    by_cases h1:j<k
    ·exact hok j h1
    ·obtain rfl:j=k:=by omega
     exact hb
   replace hok2:=Lib.hid hok2;clear hok;generalize hx9:l[k]?.getD it0=x at*;obtain⟨a,b,c,d,e,f,g⟩:=x;(refine wlk ?_;intros);refine⟨k+1,⟨by omega,hok2.out⟩,by dsimp only;omega,?_,trivial,rfl⟩;exact agr
 ·obtain rfl:k=l.length:=by omega
  have hE:aS l=decide (l.length≤60):=by unfold aS;rw[fA (d:=it0) fun j hj=>hok j hj,Bool.and_true]
  rw[hE];clear hok hE;((refine wlk6 ?_ ?_ ?_ ?_ ?_ ?_<;>intros<;>try with_reducible exact trivial)<;>(refine fnG ?_;try with_reducible exact trivial));all_goals(first|(simp;omega)|skip)
theorem arf {l:List It} {a b c d e f:Int} {g:Bool}:l.map fE++[.agg [.val (.int .i64 a),.val (.int .i64 b),.val (.int .i64 c),.val (.int .i64 d),.val (.int .i64 e),.val (.int .i64 f),.val (.bool g)]]=(l++[(a,b,c,d,e,f,g)]).map fE:=by simp
theorem apy {l:List It} {a b c d e f a2 b2 c2 d2 e2 f2 a3 b3 c3 d3 e3 f3:Int} {g g2 g3:Bool}:l.map fE++[.agg [.val (.int .i64 a),.val (.int .i64 b),.val (.int .i64 c),.val (.int .i64 d),.val (.int .i64 e),.val (.int .i64 f),.val (.bool g)],.agg [.val (.int .i64 a2),.val (.int .i64 b2),.val (.int .i64 c2),.val (.int .i64 d2),.val (.int .i64 e2),.val (.int .i64 f2),.val (.bool g2)],.agg [.val (.int .i64 a3),.val (.int .i64 b3),.val (.int .i64 c3),.val (.int .i64 d3),.val (.int .i64 e3),.val (.int .i64 f3),.val (.bool g3)]]=(l++[(a,b,c,d,e,f,g),(a2,b2,c2,d2,e2,f2,g2),(a3,b3,c3,d3,e3,f3,g3)]).map fE:=by simp
theorem anU {l l':List It}:l.map fE++l'.map fE=(l++l').map fE:=List.map_append.symm
attribute[push_cast]
 arf apy anU
def wiK (ps:LS):Nat→List It
 |0=>[]
 |k+1=>(if k=0 then wiK ps k else wiK ps k++[(3,3,0,0,0,50,true)])++[(1,oQ (ps[k]?.getD .empty),0,0,0,0,false)]
def wiR (w:ByteArray) (pats:LS):List It:=wiK (bN w pats) (bN w pats).length
def piK (ws pats:LS):Nat→List It
 |0=>[]
 |k+1=>(if k=0 then piK ws pats k else piK ws pats k++[(2,4,3,1,0,0,false)])++wiR (ws[k]?.getD .empty) pats
def piR (ws pats:LS):List It:=piK ws pats ws.length++[(3,0,0,0,0,10000,false),(2,0,1,0,1,0,false),(3,0,0,0,0,-10000,false)]
def o9 (ws pats:LS):Bool:=bF ws&&(bg pats&&(decide (0<ws.length)&&decide ((piR ws pats).length≤60)))
def piV (ws pats:LS):List It:=if o9 ws pats=true then piR ws pats else []
theorem wo (ps:LS):∀k,(wiK ps k).length≤2*k
 |0=>by simp[wiK]
 |k+1=>by
  have:=wo ps k;unfold wiK;rw[List.length_append,List.length_singleton];split
  ·omega
  ·rw[List.length_append,List.length_singleton];omega
theorem jr (w:ByteArray) (pats:LS):(bN w pats).length≤21:=by
 unfold bN;split
 ·rename_i h
  have:=(mO (pats:=pats) (jK.1 h).1).1;unfold zC;rw[agI];omega
 ·simp
theorem mD {w:ByteArray} {pats:LS}:∀x∈bN w pats,dw x=true:=fun x hx=>by
 unfold bN at hx;split at hx
 ·rename_i h
  exact ak9 (jK.1 h).1 (mO (jK.1 h).1) x hx
 ·simp at hx
theorem yO {w:ByteArray} {pats:LS} {k:Nat} (h:k<(bN w pats).length):dw ((bN w pats)[k]?.getD .empty)=true:=by rw[List.getElem?_eq_getElem h,Option.getD_some];exact mD _ (List.getElem_mem h)
theorem af7 (w:ByteArray) (pats:LS):(wiR w pats).length≤42:=by have h1:=wo (bN w pats) (bN w pats).length;have h2:=jr w pats;unfold wiR;omega
theorem abP (ws pats:LS):∀k,(piK ws pats k).length≤43*k
 |0=>by simp[piK]
 |k+1=>by
  have:=abP ws pats k;have h2:=af7 (ws[k]?.getD .empty) pats;unfold piK;rw[List.length_append];split
  ·omega
  ·rw[List.length_append,List.length_singleton];omega
theorem amK {ps:LS} (h:∀x∈ps,dw x=true):∀k,k≤ps.length→∀x∈wiK ps k,itB x=true
 |0,_=>by simp[wiK]
 |k+1,hk=>fun x hx=>by
  have ih:=amK h k (by omega);unfold wiK at hx;rcases List.mem_append.1 hx with hx|hx
  ·split at hx
   ·exact ih x hx
   ·rcases List.mem_append.1 hx with hx|hx
    ·exact ih x hx
    ·rw[List.mem_singleton.1 hx];decide
  ·rw[List.mem_singleton.1 hx]
   have h1:dw (ps[k]?.getD .empty)=true:=by rw[List.getElem?_eq_getElem (show k<ps.length by omega),Option.getD_some];exact h _ (List.getElem_mem _)
   have h2:=aga h1;generalize oQ (ps[k]?.getD .empty)=n at*;simp[itB,glB,adN,It.kd,It.gl,It.cost,It.mark,ay];omega
theorem amQ (ws pats:LS):∀k,∀x∈piK ws pats k,itB x=true
 |0=>by simp[piK]
 |k+1=>fun x hx=>by
  have ih:=amQ ws pats k;unfold piK at hx;rcases List.mem_append.1 hx with hx|hx
  ·split at hx
   ·exact ih x hx
   ·rcases List.mem_append.1 hx with hx|hx
    ·exact ih x hx
    ·rw[List.mem_singleton.1 hx];decide
  ·exact amK mD _ (Nat.le_refl _) x hx
theorem asx {ws pats:LS} (h:(piR ws pats).length≤60):aS (piR ws pats)=true:=by
 unfold aS;rw[Bool.and_eq_true,List.all_eq_true];refine⟨decide_eq_true h,fun x hx=>?_⟩;unfold piR at hx;rcases List.mem_append.1 hx with hx|hx
 ·exact amQ ws pats _ x hx
 ·rcases List.mem_cons.1 hx with rfl|hx
  ·decide
  ·rcases List.mem_cons.1 hx with rfl|hx
   ·decide
   ·rw[List.mem_singleton.1 hx];decide
theorem vF {ws pats:LS}:o9 ws pats=true↔bF ws=true∧bg pats=true∧0<ws.length∧(piR ws pats).length≤60:=by simp[o9]
theorem amF {ws pats:LS} (h:o9 ws pats=true):aS (piV ws pats)=true:=by unfold piV;rw[if_pos h];exact asx (vF.1 h).2.2.2
def φL6:Fun:=F2 dS dSs fun w pats=>if aj4 w pats then some (.lst true 7 ((wiR w pats).map fE))else none
theorem aqp {w:ByteArray} {pats:LS} (h:aj4 w pats):φL6 [.val (.string w),.lst false 1 (pats.map fun s=> .val (.string s))]=some (.lst true 7 ((wiR w pats).map fE)):=(gY (A:=dS) (B:=dSs) w pats).trans (if_pos h)
def GL6:Ctx:={fn:=aT [(64,φPr),(96,φWw)],io:=aT []}
theorem atf:au Tryz.prog GL6:=okΓ (fC Tryz.func64 zA (fC Tryz.func96 ag7 aj)) aj
def as3:=ah (Γ:=GL6) (f:=64) (φ:=φPr) rfl
def atT:=ah (Γ:=GL6) (f:=96) (φ:=φWw) rfl
theorem afL:Sound Tryz.prog 76 φL6:=by
 refine ak mixed atf Tryz.func76 rfl 36 rfl [.tmp 4] rfl (by kernel_rfl) fun ps r hr=>?_;obtain⟨w,pats,rfl,hpre,rfl⟩:=gy hr;refine⟨by simp,?_⟩;simp only[dIs,dUs,dSs,bR,bV,bT,bU,aI,bW,aL,aO,aH,aJ];have apr:=aay hpre;have hps:∀k,k<(bN w pats).length→((bN w pats)[k]?.getD .empty).size≤1048576:=fun k hk=>by have:=aR (yO hk);omega
 have hpl:=jr w pats;unfold wiR;generalize bN w pats=ps at*;have hwl:=wo ps;clear hpre;have gl6_c64:=as3;have gl6_c96:=atT;(refine wlk ?_;intros);refine aF (α:=Nat×Nat×Nat) mixed (fun z=>[(0,.val (.string w)),(5,.row z.2.1 7 0 (wiK ps z.1).length),(6,.lst true 1 (ps.map pvS)),(7,iv z.1)])
  (fun z=>[(z.2.1,79,7,(wiK ps z.1).map fE)]) (fun z=>z.2.2)
  (fun z=>z.1≤ps.length∧z.2.1<z.2.2) (fun z=>ps.length-z.1) (by kernel_rfl) (0,0,1) ⟨Nat.zero_le _,by simp⟩ ?_ ?_ rfl ?_
 ·simp(disch:=(first|omega|(simp only[push_cast];first|done|omega))) only[push_cast,↓reduceIte,Nat.reduceEqDiff,Nat.reduceBEq,Nat.reduceAdd,Nat.reduceSub,Int.reduceToNat,wiK,List.length_nil, *]
 ·simp(disch:=(first|omega|(simp only[push_cast];first|done|omega))) only[push_cast,↓reduceIte,Nat.reduceEqDiff,Nat.reduceBEq,Nat.reduceAdd,Nat.reduceSub,Int.reduceToNat,wiK,List.map_nil, *]
 rintro⟨k,x,y⟩ ⟨hk,hxy⟩;dsimp only at hk hxy;have hlk:=hwl k;by_cases h0:k<ps.length
 ·have apw:=abf (hps k h0)
  have hn:wiK ps (k+1)=(if k=0 then wiK ps k else wiK ps k++[(3,3,0,0,0,50,true)])++[(1,oQ (ps[k]?.getD .empty),0,0,0,0,false)]:=rfl;by_cases hz:k=0
  ·rw[if_pos hz]at hn
   replace hn:=Lib.hid hn;replace hz:k<1:=by omega
   generalize wiK ps k=out at*;clear hwl hps;(refine wlk ?_;intros);refine⟨(k+1,y+1,y+2),⟨by dsimp only;omega,by dsimp only;omega⟩,by dsimp only;omega,?_,?_,rfl⟩
   ·dsimp only
    rw[hn.out];exact agr
   ·dsimp only
    rw[hn.out];exact agr
  ·rw[if_neg hz]at hn
   replace hn:=Lib.hid hn;generalize wiK ps k=out at*;clear hwl hps;(refine wlk ?_;intros);refine⟨(k+1,y+3,y+4),⟨by dsimp only;omega,by dsimp only;omega⟩,by dsimp only;omega,?_,?_,rfl⟩
   ·dsimp only
    rw[hn.out];exact agr
   ·dsimp only
    rw[hn.out];exact agr
 ·obtain rfl:k=ps.length:=by omega
  generalize wiK ps ps.length=out at*;clear hwl hps;exact wlkF
def φPi:Fun:=F2 dSs dSs fun ws pats=>if lX ws∧lX pats then some (.tup [.lst true 7 ((piV ws pats).map fE),bv (o9 ws pats)])else none
theorem amY {ws pats:LS} (h:lX ws∧lX pats):φPi [.lst false 1 (ws.map fun s=> .val (.string s)),.lst false 1 (pats.map fun s=> .val (.string s))]=some (.tup [.lst true 7 ((piV ws pats).map fE),.val (.bool (o9 ws pats))]):=(gY (A:=dSs) (B:=dSs) ws pats).trans (if_pos h)
theorem rH {ws:LS} (h:bF ws=true):ws.length≤12:=by unfold bF at h;rw[Bool.and_eq_true]at h;exact of_decide_eq_true h.1
theorem ac7 {ws:LS} (h:bF ws=true) {k:Nat} (hk:k<ws.length):dw (ws[k]?.getD .empty)=true:=by unfold bF at h;rw[Bool.and_eq_true,List.all_eq_true]at h;rw[List.getElem?_eq_getElem hk,Option.getD_some];exact h.2 _ (List.getElem_mem hk)
def GPi:Ctx:={fn:=aT [(60,iF),(61,fO),(76,φL6)],io:=aT []}
theorem ar6:au Tryz.prog GPi:=okΓ (fC Tryz.func60 jE (fC Tryz.func61 dx (fC Tryz.func76 afL aj))) aj
def adk:=ah (Γ:=GPi) (f:=60) (φ:=iF) rfl
def adD:=ah (Γ:=GPi) (f:=61) (φ:=fO) rfl
def adh:=ah (Γ:=GPi) (f:=76) (φ:=φL6) rfl
theorem af2:Sound Tryz.prog 62 φPi:=by
 refine ak mixed ar6 Tryz.func62 rfl 56 rfl [.tmp 4,.tmp 5] rfl (by kernel_rfl) fun ps r hr=>?_;obtain⟨ws,pats,rfl,hpre,rfl⟩:=gy hr;refine⟨by simp,?_⟩;simp only[dIs,dUs,dSs,bR,bV,bT,bU,aI,bW,aL,aO,aH,aJ];have ap1:=lH hpre.1;have ap2:=gT hpre.2;have hwl0:=hpre.1.1;unfold piV;cases hw:bF ws with
 |false=>
  have hB:o9 ws pats=false:=by unfold o9;rw[hw];rfl
  rw[hw]at ap1;rw[hB,if_neg (by decide)];clear hpre hw hB;have gpi_c60:=adk;have gpi_c61:=adD;have gpi_c76:=adh;exact wlkF
 |true=>
 cases hp:bg pats with
 |false=>
  have hB:o9 ws pats=false:=by unfold o9;rw[hw,hp];rfl
  rw[hw]at ap1;rw[hp]at ap2;rw[hB,if_neg (by decide)];clear hpre hw hp hB;have gpi_c60:=adk;have gpi_c61:=adD;have gpi_c76:=adh;exact wlkF
 |true=>
 by_cases hz:ws.length=0
 ·have hB:o9 ws pats=false:=by unfold o9;rw[hw,hp,hz];rfl
  rw[hw]at ap1;rw[hp]at ap2;rw[hB,if_neg (by decide)];clear hpre hw hp hB;have gpi_c60:=adk;have gpi_c61:=adD;have gpi_c76:=adh;exact wlkF
 ·have hB:o9 ws pats=decide ((piR ws pats).length≤60):=by unfold o9;rw[hw,hp,decide_eq_true (show 0<ws.length by omega)];rfl
  rw[hw]at ap1;rw[hp]at ap2;have hwl:=rH hw;have hap:∀k,k<ws.length→φL6 [.val (.string (ws[k]?.getD .empty)),.lst false 1 (pats.map fun s=> .val (.string s))]=some (.lst true 7 ((wiR (ws[k]?.getD .empty) pats).map fE)):=fun k hk=>aqp ⟨hpre.1.2 k,hpre.2⟩;have hkl:=abP ws pats;have hil:∀k:Nat,(wiR (ws[k]?.getD .empty) pats).length≤42:=fun k=>af7 _ _;rw[hB];have hR:piR ws pats=piK ws pats ws.length++[(3,0,0,0,0,10000,false),(2,0,1,0,1,0,false),(3,0,0,0,0,-10000,false)]:=rfl;rw[hR];clear hpre hw hp hB hR;have gpi_c60:=adk;have gpi_c61:=adD;have gpi_c76:=adh;(refine wlk ?_;intros);refine aF (α:=Nat×Nat×Nat) mixed (fun z=>[(0,.lst false 1 (ws.map pvS)),(1,.lst false 1 (pats.map pvS)),(6,.row z.2.1 7 0 (piK ws pats z.1).length),(7,iv z.1)])
   (fun z=>[(z.2.1,79,7,(piK ws pats z.1).map fE)]) (fun z=>z.2.2)
   (fun z=>z.1≤ws.length∧z.2.1<z.2.2) (fun z=>ws.length-z.1) (by kernel_rfl) (0,0,1) ⟨Nat.zero_le _,by simp⟩ ?_ ?_ rfl ?_
  ·simp(disch:=(first|omega|(simp only[push_cast];first|done|omega))) only[push_cast,↓reduceIte,Nat.reduceEqDiff,Nat.reduceBEq,Nat.reduceAdd,Nat.reduceSub,Int.reduceToNat,piK,List.length_nil, *]
  ·simp(disch:=(first|omega|(simp only[push_cast];first|done|omega))) only[push_cast,↓reduceIte,Nat.reduceEqDiff,Nat.reduceBEq,Nat.reduceAdd,Nat.reduceSub,Int.reduceToNat,piK,List.map_nil, *]
  rintro⟨k,x,y⟩ ⟨hk,hxy⟩;dsimp only at hk hxy;have hlk:=hkl k;have hlw:=hil k;by_cases h0:k<ws.length
  ·have apk:=hap k h0
   have hn:piK ws pats (k+1)=(if k=0 then piK ws pats k else piK ws pats k++[(2,4,3,1,0,0,false)])++wiR (ws[k]?.getD .empty) pats:=rfl;generalize wiR (ws[k]?.getD .empty) pats=its at*;by_cases hk0:k=0
   ·rw[if_pos hk0]at hn
    replace hn:=Lib.hid hn;replace hk0:k<1:=by omega
    generalize piK ws pats k=out at*;clear hkl hil hap;(refine wlk ?_;intros);refine⟨(k+1,y,y+1),⟨by dsimp only;omega,by dsimp only;omega⟩,by dsimp only;omega,?_,?_,rfl⟩
    ·dsimp only
     rw[hn.out];exact agr
    ·dsimp only
     rw[hn.out];exact agr
   ·rw[if_neg hk0]at hn
    replace hn:=Lib.hid hn;generalize piK ws pats k=out at*;clear hkl hil hap;(refine wlk ?_;intros);refine⟨(k+1,y+2,y+3),⟨by dsimp only;omega,by dsimp only;omega⟩,by dsimp only;omega,?_,?_,rfl⟩
    ·dsimp only
     rw[hn.out];exact agr
    ·dsimp only
     rw[hn.out];exact agr
  ·obtain rfl:k=ws.length:=by omega
   generalize piK ws pats ws.length=out at*;clear hkl hil hap;by_cases h60:out.length+3≤60
   ·rw[decide_eq_true (by simpa using h60),if_pos rfl]
    exact wlkF
   ·rw[decide_eq_false (by simpa using h60),if_neg (by decide)]
    exact wlkF
end
end Go.Proofs.YtmmafcjjlbgnkaaGreat
