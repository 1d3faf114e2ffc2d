/- What the proof rests on, part 9: contracts of functions. No condition beyond what each states. -/
import Derived.Test.YtmmafcjjlbgnkaaGreatDoorZPr8
namespace Go.Proofs.YtmmafcjjlbgnkaaGreatDoor
open Go.RowKit
set_option linter.all false
set_option maxHeartbeats 32000000
noncomputable section
def pJ (w:ByteArray) (pats:LS):List Int:=if rJ w pats=true then jZ w pats else []
def φPc:Fun:=F2 dS dSs fun w pats=>if akd w pats then some (.lst true 1 ((pJ w pats).map fun n=> .val (.int .i64 n)))else none
theorem ahy {w:ByteArray} {pats:LS} (h:akd w pats):φPc [.val (.string w),.lst false 1 (pats.map fun s=> .val (.string s))]=some (.lst true 1 ((pJ w pats).map fun n=> .val (.int .i64 n))):=(jm (A:=dS) (B:=dSs) w pats).trans (if_pos h)
abbrev LI:=List Int
theorem oK {T sz x:Nat} {es:List PV}:kN (lo (nO T sz es x)) (nO T sz es x):=by
 cases es with
 |nil=>trivial
 |cons e es=>show kN (lo [_]) [_];simp only[push_cast]
theorem amN {sz:Nat} {lv:List Int} {k:Nat} (h:¬(2≤k∧k+3≤sz∧lv[k]?.getD 0 % 2=1)):plB sz lv k=false:=decide_eq_false h
theorem ajs {sz:Nat} {lv:List Int} {k:Nat} (h:2≤k∧k+3≤sz∧lv[k]?.getD 0 % 2=1):plB sz lv k=true:=decide_eq_true h
def ayh:Ctx:={fn:=aY [(211,φLv),(64,φIn)],io:=aY []}
theorem aoi:ak Tryz.prog ayh:=okΓ (fC Tryz.func211 aiK (fC Tryz.func64 oH aj)) aj
def ac8:=ah (Γ:=ayh) (f:=211) (φ:=φLv) rfl
def ah2:=ah (Γ:=ayh) (f:=64) (φ:=φIn) rfl
theorem agE:Sound Tryz.prog 171 φPc:=by
 refine gM mixed aoi Tryz.func171 rfl 33 rfl [.tmp 4] rfl (by kernel_rfl) fun ps r hr=>?_;obtain⟨w,pats,rfl,hpre,rfl⟩:=iB hr;refine⟨by simp,?_⟩;simp only[dIs,dUs,dSs,dz,dF,dx,dG,aR,dD,aU,aV,aS,aT];have apl:=agk hpre;have api:=bK;unfold pI at apl;unfold pJ;cases hB:rJ w pats with
 |false=>
  rw[hB,if_neg (by decide)]at apl;rw[if_neg (by decide)];clear hB hpre;have gpci_c211:=ac8;have gpci_c64:=ah2;(refine wlk ?_;intros);refine aG (α:=Unit) mixed (fun _=>[(5,.val (.slice none 0 0)),(10,.lst true 1 []),(11,iv 0),(12,iv 0)]) (fun _=>[]) (fun _=>0) (fun _=>True) (fun _=>0) (by kernel_rfl) () trivial ?_ ?_ rfl ?_
  ·exact agr
  ·exact agr
  rintro⟨⟩-;(refine wlk ?_;intros);all_goals((with_reducible apply dw (by first|exact .inl rfl|exact .inr rfl));(simp(disch:=(first|omega|(simp only[push_cast];first|done|omega))) only[push_cast,↓reduceIte,Nat.reduceEqDiff,Nat.reduceBEq,Nat.reduceAdd,Nat.reduceSub,Int.reduceToNat, *]<;>with_reducible exact rfl))
  all_goals exact nil_le _ _
 |true=>
  rw[hB,if_pos rfl]at apl;rw[if_pos rfl];obtain⟨-,hw1,hw2⟩:=aX (jW.1 hB).1;obtain⟨l1,l2⟩:=zX w pats pats.length;unfold jZ;have he:iO w pats=lvP w pats pats.length:=rfl;rw[he]at apl⊢;generalize lvP w pats pats.length=lv at*;clear hB hpre he;have hP0:plK w.size lv 0=[]:=rfl;have hPl:=af2 w.size lv;have gpci_c211:=ac8;have gpci_c64:=ah2;(refine wlk ?_;intros);refine aG (α:=Nat×LI×Nat×Nat) mixed (fun z=>[(0,.val (.string w)),(5,nP 1 (z.2.1.map pvN) z.2.2.1),(10,.lst true 1 (lv.map pvN)),(11,iv lv.length),(12,iv z.1)])
   (fun z=>nO 3 1 (z.2.1.map pvN) z.2.2.1) (fun z=>z.2.2.2)
   (fun z=>z.1≤lv.length∧z.2.1=plK w.size lv z.1∧(0<z.2.1.length→z.2.2.1<z.2.2.2)) (fun z=>lv.length-z.1) (by kernel_rfl) (0,[],0,0) ⟨Nat.zero_le _,rfl,by simp⟩ ?_ ?_ rfl ?_
  ·exact agr
  ·exact agr
  rintro⟨k,out,x,y⟩ ⟨hk,hI,hxy⟩;dsimp only at hk hI hxy;have hol:out.length≤22:=by rw[hI];have:=hPl k;omega
  clear hPl hP0;by_cases h0:k<lv.length
  ·have hlk:=l2 k
   by_cases hc:2≤k∧k+3≤w.size∧lv[k]?.getD 0 % 2=1
   ·have hI2:out++[(k:Int)]=plK w.size lv (k+1):=by rw[aaV (ajs hc),←hI]
    replace hI2:=Lib.hid hI2;obtain⟨c1,c2,c3⟩:=hc;have api1:inB (k:Int) 2 ((w.size:Int)-3)=true:=av.2 ⟨by omega,by omega⟩;clear hI l2;by_cases hz:out.length=0
    ·obtain rfl:out=[]:=List.eq_nil_of_length_eq_zero hz
     (refine wlk ?_;intros);refine⟨(k+1,[]++[(k:Int)],y+1,y+2),⟨by dsimp only;omega,hI2.out,fun _=>by dsimp only;omega⟩,by dsimp only;omega,?_,?_,rfl⟩
     ·exact agr
     ·exact agr
    ·have hxy:=hxy (by omega)
     have hap:0<(out.map pvN).length:=by rw[List.length_map];omega
     clear hz;have hap3:0<((out++[(k:Int)]).map pvN).length:=by simp
     simp only[aA hap,aB hap,List.length_map];(refine wlk ?_;intros);refine⟨(k+1,out++[(k:Int)],y+1,y+2),⟨by dsimp only;omega,hI2.out,fun _=>by dsimp only;omega⟩,by dsimp only;omega,?_,?_,rfl⟩
     ·simp(disch:=(first|omega|(simp only[push_cast];first|done|omega))) only[push_cast,↓reduceIte,Nat.reduceEqDiff,Nat.reduceBEq,Nat.reduceAdd,Nat.reduceSub,Int.reduceToNat,aA hap3,List.length_append, *]
     ·simp(disch:=(first|omega|(simp only[push_cast];first|done|omega))) only[push_cast,↓reduceIte,Nat.reduceEqDiff,Nat.reduceBEq,Nat.reduceAdd,Nat.reduceSub,Int.reduceToNat,aB hap3, *]
   ·have hI2:out=plK w.size lv (k+1):=by rw[vZ (amN hc),←hI]
    replace hI2:=Lib.hid hI2;clear hI l2;by_cases c3:lv[k]?.getD 0 % 2=1
    ·have api1:inB (k:Int) 2 ((w.size:Int)-3)=false:=Bool.eq_false_iff.2 fun q=>by have:=av.1 q;omega
     clear hc;(refine wlk ?_;intros);refine⟨(k+1,out,x,y),⟨by dsimp only;omega,hI2.out,hxy⟩,by dsimp only;omega,?_,oK,rfl⟩
     ·exact agr
    ·clear hc
     (refine wlk ?_;intros);refine⟨(k+1,out,x,y),⟨by dsimp only;omega,hI2.out,hxy⟩,by dsimp only;omega,?_,oK,rfl⟩
     ·exact agr
  ·obtain rfl:k=lv.length:=by omega
   rw[←l1,←hI];clear hI l2;by_cases hz:out.length=0
   ·obtain rfl:out=[]:=List.eq_nil_of_length_eq_zero hz
    (refine wlk ?_;intros);all_goals((with_reducible apply dw (by first|exact .inl rfl|exact .inr rfl));(simp(disch:=(first|omega|(simp only[push_cast];first|done|omega))) only[push_cast,↓reduceIte,Nat.reduceEqDiff,Nat.reduceBEq,Nat.reduceAdd,Nat.reduceSub,Int.reduceToNat, *]<;>with_reducible exact rfl))
    all_goals exact nil_le _ _
   ·have hxy:=hxy (by omega)
    have hap:0<(out.map pvN).length:=by rw[List.length_map];omega
    clear hz;simp only[aA hap,aB hap,List.length_map];(refine wlk ?_;intros);all_goals((with_reducible apply dw (by first|exact .inl rfl|exact .inr rfl));(simp(disch:=(first|omega|(simp only[push_cast];first|done|omega))) only[push_cast,↓reduceIte,Nat.reduceEqDiff,Nat.reduceBEq,Nat.reduceAdd,Nat.reduceSub,Int.reduceToNat, *]<;>with_reducible exact rfl))
    all_goals exact PV.le_refl _
def ay0:Ctx:={fn:=aY [(186,φLv)],io:=aY []}
theorem aoK:ak Tryz.prog ay0:=okΓ (fC Tryz.func186 ajz aj) aj
def adJ:=ah (Γ:=ay0) (f:=186) (φ:=φLv) rfl
theorem aiR:Sound Tryz.prog 134 φPc:=by
 refine au mixed aoK Tryz.func134 rfl 30 rfl [.tmp 4] rfl (by kernel_rfl) fun ps r hr=>?_;obtain⟨w,pats,rfl,hpre,rfl⟩:=iB hr;refine⟨by simp,?_⟩;simp only[dIs,dUs,dSs,dz,dF,dx,dG,aR,dD,aU,aV,aS,aT];have apl:=agk hpre;unfold pI at apl;unfold pJ;cases hB:rJ w pats with
 |false=>
  rw[hB,if_neg (by decide)]at apl;rw[if_neg (by decide)];clear hB hpre;have gpcs_c186:=adJ;(refine wlk ?_;intros);refine aG (α:=Unit) mixed (fun _=>[(5,.row 0 1 0 0),(6,.lst true 1 []),(7,iv 2)]) (fun _=>[(0,3,1,[])]) (fun _=>1) (fun _=>True) (fun _=>0) (by kernel_rfl) () trivial ?_ ?_ rfl ?_
  ·exact agr
  ·exact agr
  rintro⟨⟩-;exact wlkF
 |true=>
  rw[hB,if_pos rfl]at apl;rw[if_pos rfl];obtain⟨-,hw1,hw2⟩:=aX (jW.1 hB).1;obtain⟨l1,l2⟩:=zX w pats pats.length;unfold jZ;have he:iO w pats=lvP w pats pats.length:=rfl;rw[he]at apl⊢;generalize lvP w pats pats.length=lv at*;clear hB hpre he;have hP0:=@aqz w.size lv;have hPl:=af2 w.size lv;have hPh:∀k,w.size<k+3→k≤w.size+1→plK w.size lv (w.size+1)=plK w.size lv k:=fun k h1 h2=>by
   have:=aef (lv:=lv) h1 (w.size+1-k)
   rwa[show k+(w.size+1-k)=w.size+1 by omega]at this
  have hPs:w.size<5→plK w.size lv (w.size+1)=plK w.size lv 2:=fun h=>by rw[amm h,hP0]
  replace hP0:=Lib.hid hP0;have gpcs_c186:=adJ;(refine wlk ?_;intros);refine aG (α:=Nat×LI×Nat×Nat) mixed (fun z=>[(5,.row z.2.2.1 1 0 z.2.1.length),(6,.lst true 1 (lv.map pvN)),(7,iv z.1)])
   (fun z=>[(z.2.2.1,3,1,z.2.1.map pvN)]) (fun z=>z.2.2.2)
   (fun z=>2≤z.1∧(2<z.1→z.1+2≤w.size)∧z.2.1=plK w.size lv z.1∧z.2.2.1<z.2.2.2) (fun z=>lv.length-z.1) (by kernel_rfl) (2,[],0,1) ⟨by simp,by simp,hP0.out.symm,by simp⟩ ?_ ?_ rfl ?_
  ·exact agi
  ·exact agr
  rintro⟨k,out,x,y⟩ ⟨hk,hk2,hI,hxy⟩;dsimp only at hk hk2 hI hxy;have hol:out.length≤22:=by
   rw[hI];by_cases h2:2<k
   ·have:=hPl k;have:=hk2 h2;omega
   ·have:=hPl k;omega
  clear hPl hP0;by_cases h0:k+3<lv.length
  ·have hlk:=l2 k
   by_cases c3:lv[k]?.getD 0 % 2=1
   ·have hI2:out++[(k:Int)]=plK w.size lv (k+1):=by rw[aaV (ajs ⟨hk,by omega,c3⟩),←hI]
    replace hI2:=Lib.hid hI2;clear hI l2 hPh hPs;(refine wlk ?_;intros);refine⟨(k+1,out++[(k:Int)],y+1,y+2),⟨by dsimp only;omega,fun _=>by dsimp only;omega,hI2.out,by dsimp only;omega⟩,by dsimp only;omega,?_,?_,rfl⟩
    ·exact agr
    ·exact agr
   ·have hI2:out=plK w.size lv (k+1):=by rw[vZ (amN fun q=>c3 q.2.2),←hI]
    replace hI2:=Lib.hid hI2;clear hI l2 hPh hPs;(refine wlk ?_;intros);refine⟨(k+1,out,x,y),⟨by dsimp only;omega,fun _=>by dsimp only;omega,hI2.out,hxy⟩,by dsimp only;omega,?_,?_,rfl⟩
    ·exact agr
    ·exact agr
  ·have hfin:plK w.size lv (w.size+1)=out:=by
    rw[hI];by_cases h5:w.size<5
    ·by_cases h2:2<k
     ·have:=hk2 h2
      omega
     ·obtain rfl:k=2:=by omega
      exact hPs h5
    ·refine hPh k (by omega) ?_
     by_cases h2:2<k
     ·have:=hk2 h2;omega
     ·omega
   rw[hfin];clear hI l2 hPh hPs hfin;exact wlkF
def bZ (w:ByteArray) (pats:LS):LS:=if rJ w pats=true then aaz w pats else []
def φPr:Fun:=F2 dS dSs fun w pats=>if akd w pats then some (.lst true 1 ((bZ w pats).map fun s=> .val (.string s)))else none
theorem aaW {w:ByteArray} {pats:LS} (h:akd w pats):φPr [.val (.string w),.lst false 1 (pats.map fun s=> .val (.string s))]=some (.lst true 1 ((bZ w pats).map fun s=> .val (.string s))):=(jm (A:=dS) (B:=dSs) w pats).trans (if_pos h)
def aw4:Ctx:={fn:=aY [(81,gP),(71,gX),(171,φPc)],io:=aY []}
theorem aoo:ak Tryz.prog aw4:=okΓ (fC Tryz.func81 gy (fC Tryz.func71 dR (fC Tryz.func171 agE aj))) aj
def acC:=ah (Γ:=aw4) (f:=81) (φ:=gP) rfl
def abY:=ah (Γ:=aw4) (f:=71) (φ:=gX) rfl
def yC:=ah (Γ:=aw4) (f:=171) (φ:=φPc) rfl
theorem ahC:Sound Tryz.prog 120 φPr:=by
 refine gM mixed aoo Tryz.func120 rfl 40 rfl [.tmp 4] rfl (by kernel_rfl) fun ps r hr=>?_;obtain⟨w,pats,rfl,hpre,rfl⟩:=iB hr;refine⟨by simp,?_⟩;simp only[dIs,dUs,dSs,dz,dF,dx,dG,aR,dD,aU,aV,aS,aT];have ap1:=iH (s:=w) (by omega);have ap2:=iJ hpre.2;have apc:=ahy hpre;unfold pJ at apc;unfold bZ;cases hw:dM w with
 |false=>
  have hB:rJ w pats=false:=by unfold rJ;rw[hw];rfl
  rw[hw]at ap1;rw[hB,if_neg (by decide)];clear apc hpre hw hB;have gpri_c81:=acC;have gpri_c71:=abY;have gpri_c171:=yC;(refine wlk ?_;intros);all_goals((with_reducible apply dw (by first|exact .inl rfl|exact .inr rfl));(simp(disch:=(first|omega|(simp only[push_cast];first|done|omega))) only[push_cast,↓reduceIte,Nat.reduceEqDiff,Nat.reduceBEq,Nat.reduceAdd,Nat.reduceSub,Int.reduceToNat, *]<;>with_reducible exact rfl))
  all_goals exact nil_le _ _
 |true=>
 cases hp:bE pats with
 |false=>
  have hB:rJ w pats=false:=by unfold rJ;rw[hw,hp];rfl
  rw[hw]at ap1;rw[hp]at ap2;rw[hB,if_neg (by decide)];clear apc hpre hw hp hB;have gpri_c81:=acC;have gpri_c71:=abY;have gpri_c171:=yC;(refine wlk ?_;intros);all_goals((with_reducible apply dw (by first|exact .inl rfl|exact .inr rfl));(simp(disch:=(first|omega|(simp only[push_cast];first|done|omega))) only[push_cast,↓reduceIte,Nat.reduceEqDiff,Nat.reduceBEq,Nat.reduceAdd,Nat.reduceSub,Int.reduceToNat, *]<;>with_reducible exact rfl))
  all_goals exact nil_le _ _
 |true=>
  have hB:rJ w pats=true:=by unfold rJ;rw[hw,hp];rfl
  have hok:=nM (pats:=pats) hw;obtain⟨-,hw1,hw2⟩:=aX hw;rw[hw]at ap1;rw[hp]at ap2;rw[hB,if_pos rfl]at apc;rw[hB,if_pos rfl];unfold aaz;have hfr:=su hok hw1;generalize jZ w pats=pl at*;obtain⟨hl,hat⟩:=hok;unfold ptR;have hpl:=wS w pl;clear hB hw hp hpre;have gpri_c81:=acC;have gpri_c71:=abY;have gpri_c171:=yC;(refine wlk ?_;intros);refine aG (α:=Nat×Nat×Nat) mixed (fun z=>[(0,.val (.string w)),(5,nP 1 ((ptF w pl z.1).map pvS) z.2.1),(6,iv (frK pl z.1)),(19,.lst true 1 (pl.map pvN)),(20,iv pl.length),(21,iv z.1)])
   (fun z=>nO 9 1 ((ptF w pl z.1).map pvS) z.2.1) (fun z=>z.2.2)
   (fun z=>z.1≤pl.length∧(0<z.1→z.2.1<z.2.2)) (fun z=>pl.length-z.1) (by kernel_rfl) (0,0,0) ⟨Nat.zero_le _,by simp⟩ ?_ ?_ rfl ?_
  ·simp(disch:=(first|omega|(simp only[push_cast];first|done|omega))) only[push_cast,↓reduceIte,Nat.reduceEqDiff,Nat.reduceBEq,Nat.reduceAdd,Nat.reduceSub,Int.reduceToNat,ptF,frK,List.map_nil, *]
  ·simp(disch:=(first|omega|(simp only[push_cast];first|done|omega))) only[push_cast,↓reduceIte,Nat.reduceEqDiff,Nat.reduceBEq,Nat.reduceAdd,Nat.reduceSub,Int.reduceToNat,ptF,List.map_nil, *]
  rintro⟨k,x,y⟩ ⟨hk,hxy⟩;dsimp only at hk hxy;have hlk:=hpl k;have hfk:=hfr k hk;by_cases h0:k<pl.length
  ·obtain⟨a1,a2⟩:=hat k h0
   have hn:ptF w pl (k+1)=ptF w pl k++[w.extract (frK pl k).toNat (pl[k]?.getD 0).toNat]:=rfl;have hf:=xw pl k;replace hn:=Lib.hid hn;replace hf:=Lib.hid hf;generalize ptF w pl k=out at*;generalize frK pl k=fr at*;clear hat hpl hfr;by_cases hz:out.length=0
   ·obtain rfl:out=[]:=List.eq_nil_of_length_eq_zero hz
    (refine wlk ?_;intros);refine⟨(k+1,y+1,y+2),⟨by dsimp only;omega,fun _=>by dsimp only;omega⟩,by dsimp only;omega,?_,?_,rfl⟩
    ·dsimp only
     rw[hn.out,hf.out];exact agr
    ·dsimp only
     rw[hn.out];exact agr
   ·have hxy:=hxy (by omega)
    have hap:0<(out.map pvS).length:=by rw[List.length_map];omega
    clear hz;have hap3:0<((out++[w.extract fr.toNat (pl[k]?.getD 0).toNat]).map pvS).length:=by simp
    simp only[aA hap,aB hap,List.length_map];(refine wlk ?_;intros);refine⟨(k+1,y+1,y+2),⟨by dsimp only;omega,fun _=>by dsimp only;omega⟩,by dsimp only;omega,?_,?_,rfl⟩
    ·dsimp only
     rw[hn.out,hf.out];simp(disch:=(first|omega|(simp only[push_cast];first|done|omega))) only[push_cast,↓reduceIte,Nat.reduceEqDiff,Nat.reduceBEq,Nat.reduceAdd,Nat.reduceSub,Int.reduceToNat,aA hap3,List.length_append, *]
    ·dsimp only
     rw[hn.out];simp(disch:=(first|omega|(simp only[push_cast];first|done|omega))) only[push_cast,↓reduceIte,Nat.reduceEqDiff,Nat.reduceBEq,Nat.reduceAdd,Nat.reduceSub,Int.reduceToNat,aB hap3, *]
  ·obtain rfl:k=pl.length:=by omega
   generalize ptF w pl pl.length=out at*;generalize frK pl pl.length=fr at*;clear hat hpl hfr;by_cases hz:out.length=0
   ·obtain rfl:out=[]:=List.eq_nil_of_length_eq_zero hz
    (refine wlk ?_;intros);all_goals((with_reducible apply dw (by first|exact .inl rfl|exact .inr rfl));(simp(disch:=(first|omega|(simp only[push_cast];first|done|omega))) only[push_cast,↓reduceIte,Nat.reduceEqDiff,Nat.reduceBEq,Nat.reduceAdd,Nat.reduceSub,Int.reduceToNat, *]<;>with_reducible exact rfl))
    all_goals exact PV.le_refl _
   ·have hxy:=hxy (by omega)
    have hap:0<(out.map pvS).length:=by rw[List.length_map];omega
    clear hz;simp only[aA hap,aB hap,List.length_map];(refine wlk ?_;intros);all_goals((with_reducible apply dw (by first|exact .inl rfl|exact .inr rfl));(simp(disch:=(first|omega|(simp only[push_cast];first|done|omega))) only[push_cast,↓reduceIte,Nat.reduceEqDiff,Nat.reduceBEq,Nat.reduceAdd,Nat.reduceSub,Int.reduceToNat, *]<;>with_reducible exact rfl))
    all_goals exact PV.le_refl _
def awT:Ctx:={fn:=aY [(68,gP),(33,gX),(134,φPc)],io:=aY []}
theorem an3:ak Tryz.prog awT:=okΓ (fC Tryz.func68 gD (fC Tryz.func33 dQ (fC Tryz.func134 aiR aj))) aj
def abK:=ah (Γ:=awT) (f:=68) (φ:=gP) rfl
def acp:=ah (Γ:=awT) (f:=33) (φ:=gX) rfl
def yK:=ah (Γ:=awT) (f:=134) (φ:=φPc) rfl
theorem zG:Sound Tryz.prog 98 φPr:=by
 refine au mixed an3 Tryz.func98 rfl 48 rfl [.tmp 4] rfl (by kernel_rfl) fun ps r hr=>?_;obtain⟨w,pats,rfl,hpre,rfl⟩:=iB hr;refine⟨by simp,?_⟩;simp only[dIs,dUs,dSs,dz,dF,dx,dG,aR,dD,aU,aV,aS,aT];have ap1:=iH (s:=w) (by omega);have ap2:=iJ hpre.2;have apc:=ahy hpre;unfold pJ at apc;unfold bZ;cases hw:dM w with
 |false=>
  have hB:rJ w pats=false:=by unfold rJ;rw[hw];rfl
  rw[hw]at ap1;rw[hB,if_neg (by decide)];clear apc hpre hw hB;have gprs_c68:=abK;have gprs_c33:=acp;have gprs_c134:=yK;exact wlkF
 |true=>
 cases hp:bE pats with
 |false=>
  have hB:rJ w pats=false:=by unfold rJ;rw[hw,hp];rfl
  rw[hw]at ap1;rw[hp]at ap2;rw[hB,if_neg (by decide)];clear apc hpre hw hp hB;have gprs_c68:=abK;have gprs_c33:=acp;have gprs_c134:=yK;exact wlkF
 |true=>
  have hB:rJ w pats=true:=by unfold rJ;rw[hw,hp];rfl
  have hok:=nM (pats:=pats) hw;obtain⟨-,hw1,hw2⟩:=aX hw;rw[hw]at ap1;rw[hp]at ap2;rw[hB,if_pos rfl]at apc;rw[hB,if_pos rfl];unfold aaz;have hfr:=su hok hw1;generalize jZ w pats=pl at*;obtain⟨hl,hat⟩:=hok;unfold ptR;have hpl:=wS w pl;clear hB hw hp hpre;have gprs_c68:=abK;have gprs_c33:=acp;have gprs_c134:=yK;(refine wlk ?_;intros);refine aG (α:=Nat×Nat×Nat) mixed (fun z=>[(0,.val (.string w)),(5,.row z.2.1 1 0 (ptF w pl z.1).length),(6,.lst true 1 (pl.map pvN)),(7,iv (frK pl z.1)),(8,iv z.1)])
   (fun z=>[(z.2.1,9,1,(ptF w pl z.1).map pvS)]) (fun z=>z.2.2)
   (fun z=>z.1≤pl.length∧z.2.1<z.2.2) (fun z=>pl.length-z.1) (by kernel_rfl) (0,0,1) ⟨Nat.zero_le _,by simp⟩ ?_ ?_ rfl ?_
  ·simp(disch:=(first|omega|(simp only[push_cast];first|done|omega))) only[push_cast,↓reduceIte,Nat.reduceEqDiff,Nat.reduceBEq,Nat.reduceAdd,Nat.reduceSub,Int.reduceToNat,ptF,frK,List.length_nil, *]
  ·simp(disch:=(first|omega|(simp only[push_cast];first|done|omega))) only[push_cast,↓reduceIte,Nat.reduceEqDiff,Nat.reduceBEq,Nat.reduceAdd,Nat.reduceSub,Int.reduceToNat,ptF,List.map_nil, *]
  rintro⟨k,x,y⟩ ⟨hk,hxy⟩;dsimp only at hk hxy;have hlk:=hpl k;have hfk:=hfr k hk;by_cases h0:k<pl.length
  ·obtain⟨a1,a2⟩:=hat k h0
   have hn:ptF w pl (k+1)=ptF w pl k++[w.extract (frK pl k).toNat (pl[k]?.getD 0).toNat]:=rfl;have hf:=xw pl k;replace hn:=Lib.hid hn;replace hf:=Lib.hid hf;generalize ptF w pl k=out at*;generalize frK pl k=fr at*;clear hat hpl hfr;(refine wlk ?_;intros);refine⟨(k+1,y+1,y+2),⟨by dsimp only;omega,by dsimp only;omega⟩,by dsimp only;omega,?_,?_,rfl⟩
   ·dsimp only
    rw[hn.out,hf.out];exact agr
   ·dsimp only
    rw[hn.out];exact agr
  ·obtain rfl:k=pl.length:=by omega
   generalize ptF w pl pl.length=out at*;generalize frK pl pl.length=fr at*;clear hat hpl hfr;exact wlkF
abbrev It:=Int×Int×Int×Int×Int×Int×Bool
def it0:It:=(0,0,0,0,0,0,false)
abbrev It.kd (x:It):Int:=x.1
abbrev It.wd (x:It):Int:=x.2.1
abbrev It.st (x:It):Int:=x.2.2.1
abbrev It.sh (x:It):Int:=x.2.2.2.1
abbrev It.od (x:It):Int:=x.2.2.2.2.1
abbrev It.cost (x:It):Int:=x.2.2.2.2.2.1
abbrev It.mark (x:It):Bool:=x.2.2.2.2.2.2
abbrev It.gl (x:It):I4:=(x.2.1,x.2.2.1,x.2.2.2.1,x.2.2.2.2.1)
def glB (g:I4):Bool:=inB g.1 0 1000&&(inB g.2.1 0 1000&&(inB g.2.2.1 0 g.1&&inB g.2.2.2 0 1))
def aee (g:I4):Bool:=decide (g.2.1=0∧g.2.2.1=0∧g.2.2.2=0)
def wP (c:Int):Bool:=inB c 0 10000||decide (c=-10000)
def itB (x:It):Bool:=glB x.gl&&((decide (x.kd=1)&&(aee x.gl&&decide (x.cost=0∧x.mark=false)))||((decide (x.kd=2)&&decide (x.cost=0∧x.mark=false))||(decide (x.kd=3)&&(aee x.gl&&wP x.cost))))
def aW (l:List It):Bool:=decide (l.length≤60)&&l.all itB
structure aw3 (x:It):Prop where
 wd:0≤x.wd∧x.wd≤1000
 st:0≤x.st∧x.st≤1000
 sh:0≤x.sh∧x.sh≤1000
 od:x.od=0∨x.od=1
 kd:x.kd=1∨x.kd=2∨x.kd=3
 cost:(0≤x.cost∧x.cost≤10000)∨x.cost=-10000
 mark:x.mark=true→x.kd=3
theorem avH {x:It} (h:itB x=true):aw3 x:=by
 obtain⟨kd,wd,st,sh,od,cost,mark⟩:=x;simp only[itB,glB,aee,wP,It.kd,It.gl,It.cost,It.mark,Bool.and_eq_true,Bool.or_eq_true,av,decide_eq_true_eq]at h;obtain⟨⟨h1,h2,h3,h4⟩,h5⟩:=h;refine⟨h1,h2,⟨h3.1,show sh≤1000 by omega⟩,show od=0∨od=1 by omega,show kd=1∨kd=2∨kd=3 by omega,show(0≤cost∧cost≤10000)∨cost=-10000 by omega,fun hm=>?_⟩;rcases h5 with h5|h5|h5
 ·rw[h5.2.2.2]at hm;cases hm
 ·rw[h5.2.2]at hm;cases hm
 ·exact h5.1
theorem bH {l:List It} (h:aW l=true):l.length≤60:=by unfold aW at h;rw[Bool.and_eq_true]at h;exact of_decide_eq_true h.1
theorem gQ {l:List It} (h:aW l=true) {k:Nat} (hk:k<l.length):aw3 (l[k]?.getD it0):=by unfold aW at h;rw[Bool.and_eq_true,List.all_eq_true]at h;rw[List.getElem?_eq_getElem hk,Option.getD_some];exact avH (h.2 _ (List.getElem_mem hk))
abbrev gI (l:List It) (k:Nat):It:=l[k]?.getD it0
def forced (x:It):Bool:=decide (x.kd=3∧x.cost=-10000)
def nH (l:List It) (n:Nat):Bool:=if(gI l n).kd=2 then decide (0<n∧(gI l (n-1)).kd=1)else decide ((gI l n).kd=3∧(gI l n).cost<10000)
def stN (l:List It):Nat→Nat→Nat
 |0,n=>n
 |f+1,n=>if n<l.length∧¬(gI l n).kd=1∧forced (gI l n)=false then stN l f (n+1)else n
def aF (l:List It) (a:Nat):Nat:=stN l (l.length-a) a
theorem atv {l:List It} {a:Nat} (h:a<l.length) (h1:¬(gI l a).kd=1) (h2:forced (gI l a)=false):aF l a=aF l (a+1):=by unfold aF;rw[show l.length-a=(l.length-(a+1))+1 by omega,stN,if_pos ⟨h,h1,h2⟩]
theorem ajK {l:List It} {a:Nat} (h:¬(a<l.length∧¬(gI l a).kd=1∧forced (gI l a)=false)):aF l a=a:=by
 unfold aF;cases hf:l.length-a with
 |zero=>rfl
 |succ f=>rw[stN,if_neg h]
theorem aiV (l:List It):∀(f n:Nat),n≤stN l f n∧(n≤l.length→stN l f n≤l.length)
 |0,n=>⟨Nat.le_refl _,fun h=>h⟩
 |f+1,n=>by
  unfold stN;split
  ·rename_i hc
   have:=aiV l f (n+1);exact⟨by omega,fun _=>this.2 (by omega)⟩
  ·exact⟨Nat.le_refl _,fun h=>h⟩
theorem wm {l:List It} {a:Nat}:a≤aF l a∧(a≤l.length→aF l a≤l.length):=aiV l _ a
def qJ (l:List It) (a b:Nat):Bool:=(List.range (b-a)).all fun i=> !forced (gI l (a+i))
theorem yS {l:List It} {a b:Nat} (h:b≤a):qJ l a b=true:=by unfold qJ;rw[show b-a=0 by omega];rfl
theorem uT {l:List It} {a b:Nat} (h:a≤b):qJ l a (b+1)=(qJ l a b&& !forced (gI l b)):=by unfold qJ;rw[show b+1-a=(b-a)+1 by omega,List.range_succ,List.all_append];simp[show a+(b-a)=b by omega]
theorem aco {l:List It} {a b k:Nat} (h:qJ l a (k+1)=false) (ha:a≤k) (hk:k<b):qJ l a b=false:=by unfold qJ at h⊢;rw[List.all_eq_false]at h⊢;obtain⟨i,hi,h1⟩:=h;have:=List.mem_range.1 hi;exact⟨i,List.mem_range.2 (by omega),h1⟩
def eG (l:List It) (a en:Nat):Bool:=decide (a≤en∧en<l.length)&&(nH l en&&((decide (a=0)||nH l (a-1))&&(decide (aF l a≤en)&&qJ l a en)))
theorem fZ {l:List It} {a en:Nat}:eG l a en=true↔(a≤en∧en<l.length)∧nH l en=true∧(a=0∨nH l (a-1)=true)∧aF l a≤en∧qJ l a en=true:=by simp[eG]
def mK (l:List It) (b c:Nat):List Int:=((List.range (c-b)).filter fun i=> !decide ((gI l (b+i)).kd=3)).map fun i:Nat=>((b+i:Nat):Int)
theorem rF {l:List It} {b c:Nat} (h:c≤b):mK l b c=[]:=by unfold mK;rw[show c-b=0 by omega];rfl
theorem oJ {l:List It} {b c:Nat} (h:b≤c) (hk:¬(gI l c).kd=3):mK l b (c+1)=mK l b c++[(c:Int)]:=by unfold mK;rw[show c+1-b=(c-b)+1 by omega,List.range_succ,List.filter_append,List.map_append];simp[show b+(c-b)=c by omega,hk];omega
theorem xH {l:List It} {b c:Nat} (h:b≤c) (hk:(gI l c).kd=3):mK l b (c+1)=mK l b c:=by unfold mK;rw[show c+1-b=(c-b)+1 by omega,List.range_succ,List.filter_append,List.map_append];simp[show b+(c-b)=c by omega,hk]
theorem nN (l:List It) (b c:Nat):(mK l b c).length≤c-b:=by unfold mK;rw[List.length_map];exact Nat.le_trans (List.length_filter_le _ _) (by simp)
theorem qK {l:List It} {b c:Nat}:∀x∈mK l b c,(b:Int)≤x∧x<c∧¬(gI l x.toNat).kd=3:=fun x hx=>by obtain⟨i,hi,rfl⟩:=List.mem_map.1 hx;obtain⟨h1,h2⟩:=List.mem_filter.1 hi;have h3:=List.mem_range.1 h1;refine⟨by omega,by omega,?_⟩;rw[Int.toNat_natCast];simpa using h2
def g40:I4:=(0,0,0,0)
def abG (a b:I4):I4:=
 let oa:=if a.2.1=0 then 0 else a.2.2.2
 let ob:=if b.2.1=0 then 0 else b.2.2.2
 let o:=max oa ob
 (a.1+b.1,(if oa=o then a.2.1 else 0)+(if ob=o then b.2.1 else 0),a.2.2.1+b.2.2.1,o)
def jq (gs:List I4):I4:=gs.foldl abG g40
theorem nQ (gs:List I4) (g:I4):jq (gs++[g])=abG (jq gs) g:=by simp[jq,List.foldl_append]
def vB (gs:List I4):Int:=if gs.any (fun g=>decide (g.2.2.2=1∧0<g.2.1))=true then 1 else 0
def kR (gs:List I4) (o:Int):I4:=gs.foldl (fun t g=>(t.1+g.1,(if g.2.2.2=o then t.2.1+g.2.1 else t.2.1),t.2.2.1+g.2.2.1,o)) (0,0,0,o)
theorem gV (gs:List I4) (g:I4) (o:Int):kR (gs++[g]) o=((kR gs o).1+g.1,(if g.2.2.2=o then(kR gs o).2.1+g.2.1 else(kR gs o).2.1),(kR gs o).2.2.1+g.2.2.1,o):=by simp[kR,List.foldl_append]
theorem ai9:∀(gs:List I4) (o:Int),(kR gs o).2.2.2=o:=fun gs o=>by
 rcases List.eq_nil_or_concat gs with h|⟨l,x,h⟩
 ·subst h;rfl
 ·rw[List.concat_eq_append]at h
  subst h;rw[gV]
structure GOk (g:I4):Prop where
 wd:0≤g.1∧g.1≤1000
 st:0≤g.2.1∧g.2.1≤1000
 sh:0≤g.2.2.1∧g.2.2.1≤1000
 od:g.2.2.2=0∨g.2.2.2=1
theorem aw3.gl {x:It} (h:aw3 x):GOk x.gl:=⟨h.wd,h.st,h.sh,h.od⟩
theorem zu (gs:List I4) (g:I4):vB (gs++[g])=if vB gs=1∨(g.2.2.2=1∧0<g.2.1)then 1 else 0:=by
 unfold vB;rw[List.any_append];cases h:gs.any (fun g=>decide (g.2.2.2=1∧0<g.2.1))with
 |true=>simp
 |false=>simp
theorem ahe (gs:List I4):vB gs=0∨vB gs=1:=by
 unfold vB;split
 ·exact .inr rfl
 ·exact .inl rfl
theorem iR {α:Type} {p:List α→Prop} (h0:p []) (h1:∀l x,p l→p (l++[x])):∀l,p l:=fun l=>by
 have key:∀n,∀l:List α,l.length=n→p l:=by
  intro n
  induction n with
  |zero=>intro l h;rw[List.eq_nil_of_length_eq_zero h];exact h0
  |succ n ih=>
   intro l h;rcases List.eq_nil_or_concat l with h2|⟨l0,x,h2⟩
   ·subst h2;simp at h
   ·rw[List.concat_eq_append]at h2
    subst h2;rw[List.length_append,List.length_singleton]at h;exact h1 _ _ (ih l0 (by omega))
 exact key _ l rfl
theorem apQ:∀gs:List I4,(∀g∈gs,GOk g)→jq gs=kR gs (vB gs)∧(vB gs=0→∀g∈gs,g.2.2.2=1→g.2.1=0)∧(vB gs=1→0<(jq gs).2.1)∧(vB gs=0→(kR gs 1).2.1=0):=by
 refine iR ?_ ?_
 ·intro _
  refine⟨rfl,by simp,fun h=>by simp[vB]at h,fun _=>rfl⟩
 ·intro gs g ih hg
  obtain⟨i1,i2,i3,i4⟩:=ih fun x hx=>hg x (List.mem_append.2 (.inl hx));have gk:=hg g (by simp);obtain⟨w,st,sh,od⟩:=g;obtain⟨g1,g2,g3,g4⟩:=gk;dsimp only at g1 g2 g3 g4;have hod:=ai9 gs (vB gs);rw[nQ,zu,i1];rw[i1]at i3;rcases ahe gs with h|h
  ·rw[h]at i1 i2 i3 i4 hod⊢
   have i4:=i4 rfl;have i2:=i2 rfl;by_cases hc:od=1∧0<st
   ·have hc2:(0:Int)=1∨(od=1∧0<st):=.inr hc
    have hst:¬st=0:=by omega
    rw[if_pos hc2];refine⟨?_,fun q=>by simp at q,fun _=>?_,fun q=>by simp at q⟩
    ·rw[gV,i4]
     unfold abG;rw[hod,hc.1];have e1:((kR gs 0).1=(kR gs 1).1)∧(kR gs 0).2.2.1=(kR gs 1).2.2.1:=by clear i1 i2 i3 i4 hod hg ih;refine iR (p:=fun gs=>(kR gs 0).1=(kR gs 1).1∧(kR gs 0).2.2.1=(kR gs 1).2.2.1) ⟨rfl,rfl⟩ (fun l x hx=>?_) gs;rw[gV,gV];exact⟨by dsimp only;rw[hx.1],by dsimp only;rw[hx.2]⟩
     have hm01:max (0:Int) 1=1:=by decide
     simp[e1.1,e1.2,hst,hm01]
    ·unfold abG
     rw[hod,hc.1];simp[hst];omega
   ·have hc2:¬((0:Int)=1∨(od=1∧0<st)):=by omega
    rw[if_neg hc2];have hz:od=1→st=0:=by omega
    refine⟨?_,fun _=>?_,fun q=>by simp at q,fun _=>?_⟩
    ·rw[gV]
     unfold abG;rw[hod];by_cases hs:st=0
     ·simp[hs]
     ·have h0:od=0:=by omega
      simp[hs,h0]
    ·intro x hx
     rcases List.mem_append.1 hx with hx|hx
     ·exact i2 x hx
     ·rw[List.mem_singleton.1 hx]
      exact hz
    ·rw[gV,i4]
     dsimp only
     split
     ·rename_i h1
      rw[hz h1];rfl
     ·rfl
  ·rw[h]at i1 i3 hod⊢
   have i3:=i3 rfl;rw[if_pos (.inl rfl)];have hne:¬(kR gs 1).2.1=0:=by omega
   refine⟨?_,fun q=>by simp at q,fun _=>?_,fun q=>by simp at q⟩
   ·rw[gV]
    unfold abG;rw[hod,if_neg hne];by_cases hs:st=0
    ·simp[hs]
     omega
    ·rcases g4 with h0|h0
     ·simp[hs,h0]
      omega
     ·simp[hs,h0]
   ·unfold abG
    rw[hod,if_neg hne];dsimp only
    have:max 1 (if st=0 then(0:Int)else od)=1:=by split<;>omega
    rw[this,if_pos rfl];split<;>omega
theorem aqC:∀gs:List I4,(∀g∈gs,GOk g)→(0≤(jq gs).1∧(jq gs).1≤1000*gs.length)∧(0≤(jq gs).2.1∧(jq gs).2.1≤1000*gs.length)∧(0≤(jq gs).2.2.1∧(jq gs).2.2.1≤1000*gs.length)∧((jq gs).2.2.2=0∨(jq gs).2.2.2=1):=by
 refine iR ?_ ?_
 ·intro _
  exact⟨by decide,by decide,by decide,by decide⟩
 ·intro gs g ih hg
  obtain⟨i1,i2,i3,i4⟩:=ih fun x hx=>hg x (List.mem_append.2 (.inl hx));have gk:=hg g (by simp);obtain⟨w,st,sh,od⟩:=g;obtain⟨g1,g2,g3,g4⟩:=gk;dsimp only at g1 g2 g3 g4;rw[nQ,List.length_append,List.length_singleton];generalize jq gs=t at*;obtain⟨tw,ts,th,en⟩:=t;dsimp only at i1 i2 i3 i4;unfold abG;dsimp only
  push_cast
  refine⟨by omega,?_,by omega,?_⟩
  ·(repeat' split)<;>omega
  ·(repeat' split)<;>omega
def aa3 (need room:Int):Int:=if need=0 then 0 else if room=0∨10*room<need then 10000 else min 10000 (100*need*need*need/(room*room*room))
theorem akU {n r:Int} (h0:0<r) (h:5*r<n):10000≤100*n*n*n/(r*r*r):=by
 have hr:0<r*r*r:=Int.mul_pos (Int.mul_pos h0 h0) h0;rw[Int.le_ediv_iff_mul_le hr];have h1:(5*r)*(5*r)≤n*n:=Int.mul_le_mul (by omega) (by omega) (by omega) (by omega);have h2:(5*r)*(5*r)*(5*r)≤n*n*n:=Int.mul_le_mul h1 (by omega) (by omega) (Int.mul_nonneg (by omega) (by omega));have e1:(5*r)*(5*r)*(5*r)=125*(r*r*r):=by rw[show 5*r*(5*r)*(5*r)=(5*5*5)*(r*r*r) by simp only[Int.mul_assoc,Int.mul_left_comm r 5]];rfl
 have e2:100*n*n*n=100*(n*n*n):=by simp only[Int.mul_assoc]
 rw[e2];omega
theorem ai2 {need room:Int} (hn:0≤need) (hr:0≤room):aa3 need room=if need=0 then 0 else if room=0∨5*room<need then 10000 else min 10000 (100*need*need*need/(room*room*room)):=by
 unfold aa3;split
 ·rfl
 ·split
  ·rename_i h1
   rw[if_pos (by omega)]
  ·split
   ·have:=akU (n:=need) (r:=room) (by omega) (by omega)
    omega
   ·rfl
def gH (s:Bool) (bad:Int):Int:=if bad≤12 then 1 else if s=false then 0 else if bad<100 then 2 else 3
theorem l5 (s:Bool) (bad:Int):0≤gH s bad∧gH s bad≤3:=by
 unfold gH
 repeat' split
 all_goals omega
def lT (bad cost:Int):Int:=(10+bad)*(10+bad)+(if cost=-10000 then 0 else cost*cost)
theorem ow {bad cost:Int} (h:0≤bad∧bad≤10000) (h2:(0≤cost∧cost≤10000)∨cost=-10000):0≤lT bad cost∧lT bad cost≤300000000:=by
 have h3:0≤(10+bad)*(10+bad):=Int.mul_nonneg (by omega) (by omega);have h4:(10+bad)*(10+bad)≤10010*10010:=Int.mul_le_mul (by omega) (by omega) (by omega) (by omega);unfold lT;split
 ·omega
 ·have h5:0≤cost*cost:=Int.mul_nonneg (by omega) (by omega)
  have h6:cost*cost≤10000*10000:=Int.mul_le_mul (by omega) (by omega) (by omega) (by omega);omega
def acU (l:List It) (a en:Nat):List I4:=((mK l (aF l a) en).map fun n:Int=>(gI l n.toNat).gl)++(if(gI l en).kd=3 then [(gI l en).gl]else [])
def atn (g:I4) (wd:Int):Int×Bool:=if g.1≤wd then(if g.2.2.2=1 then(0,true)else(aa3 (wd-g.1) g.2.1,true))else if g.1-wd≤g.2.2.1 then(aa3 (g.1-wd) g.2.2.1,false)else(-1,false)
def iM (l:List It) (wd:Int) (a en:Nat):Int×Bool:=atn (jq (acU l a en)) wd
def iT (l:List It) (wd most:Int) (a en:Nat):Option (Int×Int):=
 if eG l a en=true∧0≤(iM l wd a en).1∧(iM l wd a en).1≤most then some (lT (iM l wd a en).1 (gI l en).cost,gH (iM l wd a en).2 (iM l wd a en).1)else none
def iZ (l:List It) (a en:Nat) (before looks:Int):Int:=
 (if 0<a∧(gI l (a-1)).mark=true∧(gI l en).mark=true then 3000 else 0)+(if 0<a∧(1<before-looks∨before-looks< -1)then 3000 else 0)
theorem kZ (l:List It) (a en:Nat) (b k:Int):0≤iZ l a en b k∧iZ l a en b k≤6000:=by
 unfold iZ
 repeat' split
 all_goals omega
abbrev Ch:=Int×Nat×Int
def iF (l:List It) (wd most:Int) (a:Nat) (lk:Int) (rest:Nat→Int→Option Ch) (acc:Option Ch) (en:Nat):Option Ch:=
 match iT l wd most a en with
 |none=>acc
 |some (c,k)=>match rest (en+1) k with
  |none=>acc
  |some r=>if acc.all (fun x=>decide (c+iZ l a en lk k+r.1<x.1))=true then some (c+iZ l a en lk k+r.1,en,k)else acc
def bC (l:List It) (wd most:Int) (a:Nat) (lk:Int) (rest:Nat→Int→Option Ch):Nat→Option Ch
 |0=>none
 |j+1=>iF l wd most a lk rest (bC l wd most a lk rest j) (l.length-(j+1))
def uY (l:List It) (wd most:Int):Nat→Nat→Int→Option Ch
 |0,_,_=>some (0,0,0)
 |f+1,a,lk=>if a=l.length then some (0,0,0)else bC l wd most a lk (uY l wd most f) (l.length-a)
def aJ (l:List It) (wd most:Int) (a:Nat) (lk:Int):Option Ch:=uY l wd most (l.length-a) a lk
theorem kT {l:List It} {wd most:Int} {a:Nat} {lk:Int} {r r':Nat→Int→Option Ch}:∀j,(∀b k,l.length-j<b→b≤l.length→r b k=r' b k)→j≤l.length→bC l wd most a lk r j=bC l wd most a lk r' j
 |0,_,_=>rfl
 |j+1,h,hj=>by
  rw[bC,bC,kT j (fun b k h1 h2=>h b k (by omega) h2) (by omega)];unfold iF;cases iT l wd most a (l.length-(j+1))with
  |none=>rfl
  |some c=>dsimp only;rw[h _ _ (by omega) (by omega)]
theorem vN {l:List It} {wd most:Int}:∀(f f' a:Nat) (lk:Int),l.length-a≤f→l.length-a≤f'→a≤l.length→uY l wd most f a lk=uY l wd most f' a lk
 |0,f',a,lk,h,h',ha=>by
  have:a=l.length:=by omega
  subst this;cases f' with
  |zero=>rfl
  |succ f'=>rw[uY,uY,if_pos rfl]
 |f+1,0,a,lk,h,h',ha=>by
  have:a=l.length:=by omega
  subst this;rw[uY,uY,if_pos rfl]
 |f+1,f'+1,a,lk,h,h',ha=>by
  rw[uY,uY];split
  ·rfl
  ·exact kT _ (fun b k h1 h2=>vN f f' b k (by omega) (by omega) h2) (by omega)
theorem nR (l:List It) (wd most lk:Int):aJ l wd most l.length lk=some (0,0,0):=by unfold aJ;rw[Nat.sub_self];rfl
theorem mh {l:List It} {wd most lk:Int} {a:Nat} (h:a<l.length):aJ l wd most a lk=bC l wd most a lk (aJ l wd most) (l.length-a):=by
 unfold aJ;obtain⟨f,hf⟩:∃f,l.length-a=f+1:=⟨l.length-a-1,by omega⟩
 conv=>lhs;rw[hf]
 rw[uY,if_neg (by omega)];exact kT _ (fun b k h1 h2=>vN _ _ _ _ (by omega) (by omega) h2) (by omega)
theorem o8 {l:List It} {wd most:Int} {a en:Nat} {x:Int×Int} (h:iT l wd most a en=some x):eG l a en=true∧(0≤(iM l wd a en).1∧(iM l wd a en).1≤most)∧x=(lT (iM l wd a en).1 (gI l en).cost,gH (iM l wd a en).2 (iM l wd a en).1):=by
 unfold iT at h;split at h
 ·rename_i hc
  cases h;exact⟨hc.1,hc.2,rfl⟩
 ·cases h
theorem nU {l:List It} {wd most:Int} {a en:Nat} {x:Int×Int} (hl:aW l=true) (hm:most≤10000) (h:iT l wd most a en=some x):(a≤en∧en<l.length)∧(0≤x.1∧x.1≤300000000)∧0≤x.2∧x.2≤3:=by obtain⟨h1,h2,rfl⟩:=o8 h;obtain⟨h3,-⟩:=fZ.1 h1;exact⟨h3,ow ⟨h2.1,by omega⟩ (gQ hl h3.2).cost,l5 _ _⟩
theorem iQ {l:List It} {wd most:Int} {a:Nat} {lk:Int} {rest:Nat→Int→Option Ch} {acc:Option Ch} {en:Nat} (h:iT l wd most a en=none):iF l wd most a lk rest acc en=acc:=by unfold iF;rw[h]
theorem kC {l:List It} {wd most:Int} {a:Nat} {lk:Int} {rest:Nat→Int→Option Ch} {acc:Option Ch} {en:Nat} {c k:Int} (h:iT l wd most a en=some (c,k)) (h2:rest (en+1) k=none):iF l wd most a lk rest acc en=acc:=by
 unfold iF;rw[h];dsimp only
 rw[h2]
theorem j6 {l:List It} {wd most:Int} {a:Nat} {lk:Int} {rest:Nat→Int→Option Ch} {acc:Option Ch} {en:Nat} {c k:Int} {r:Ch} (h:iT l wd most a en=some (c,k)) (h2:rest (en+1) k=some r):
 iF l wd most a lk rest acc en=if acc.all (fun x=>decide (c+iZ l a en lk k+r.1<x.1))=true then some (c+iZ l a en lk k+r.1,en,k)else acc:=by
 unfold iF;rw[h];dsimp only
 rw[h2]
def aw8 (l:List It) (wd most:Int) (a:Nat) (lk:Int) (rest:Nat→Int→Option Ch) (j:Nat) (x:Ch):Prop:=
 ∃c0 r,iT l wd most a x.2.1=some (c0,x.2.2)∧rest (x.2.1+1) x.2.2=some r∧x.1=c0+iZ l a x.2.1 lk x.2.2+r.1∧l.length-j≤x.2.1∧x.2.1<l.length
theorem mZ {l:List It} {wd most:Int} {a:Nat} {lk:Int} {rest:Nat→Int→Option Ch} {x:Ch}:∀j,0<l.length→bC l wd most a lk rest j=some x→aw8 l wd most a lk rest j x
 |0,_,h=>by cases h
 |j+1,hp,h=>by
  have ih:=@mZ l wd most a lk rest x j hp;have wk:aw8 l wd most a lk rest j x→aw8 l wd most a lk rest (j+1) x:=fun⟨c0,r,h1,h2,h3,h4,h5⟩=>⟨c0,r,h1,h2,h3,by omega,h5⟩;rw[bC]at h;cases hL:iT l wd most a (l.length-(j+1))with
  |none=>rw[iQ hL]at h;exact wk (ih h)
  |some c=>
   obtain⟨c,k⟩:=c;cases hr:rest (l.length-(j+1)+1) k with
   |none=>rw[kC hL hr]at h;exact wk (ih h)
   |some r=>
    rw[j6 hL hr]at h;split at h
    ·cases h
     exact⟨c,r,hL,hr,rfl,Nat.le_refl _,by dsimp only;omega⟩
    ·exact wk (ih h)
theorem pU {l:List It} {wd most lk:Int} {a:Nat} {x:Ch} (h:a<l.length) (hx:aJ l wd most a lk=some x):aw8 l wd most a lk (aJ l wd most) (l.length-a) x:=by rw[mh h]at hx;exact mZ _ (by omega) hx
theorem uW {l:List It} {wd most:Int} (hl:aW l=true) (hm:most≤10000):∀(n a:Nat) (lk:Int) (x:Ch),l.length-a=n→a≤l.length→aJ l wd most a lk=some x→0≤x.1∧x.1≤306000000*n
 |0,a,lk,x,hn,ha,h=>by
  have:a=l.length:=by omega
  subst this;rw[nR]at h;cases h;exact⟨by decide,by simp⟩
 |n+1,a,lk,x,hn,ha,h=>by
  obtain⟨c0,r,h1,h2,h3,h4,h5⟩:=pU (by omega) h;obtain⟨g1,g2,g3⟩:=nU hl hm h1;have hb:=kZ l a x.2.1 lk x.2.2;have ih:=uW hl hm (l.length-(x.2.1+1)) (x.2.1+1) _ r rfl (by omega) h2;dsimp only at g2
  push_cast
  omega
theorem qc {l:List It} {wd most:Int} (hl:aW l=true) (hm:most≤10000) {a:Nat} {lk:Int} {j:Nat} {x:Ch} (ha:a<l.length) (h:bC l wd most a lk (aJ l wd most) j=some x):(0≤x.1∧x.1≤20000000000)∧x.2.1<l.length∧0≤x.2.2∧x.2.2≤3:=by obtain⟨c0,r,h1,h2,h3,h4,h5⟩:=mZ j (by omega) h;obtain⟨g1,g2,g3⟩:=nU hl hm h1;have hb:=kZ l a x.2.1 lk x.2.2;have ih:=uW hl hm _ _ _ r rfl (by omega) h2;have:=bH hl;dsimp only at g2 g3;exact⟨by omega,h5,g3⟩
theorem dJ {l:List It} {wd most:Int} (hl:aW l=true) (hm:most≤10000) {a:Nat} {lk:Int} {x:Ch} (ha:a≤l.length) (h:aJ l wd most a lk=some x):(0≤x.1∧x.1≤20000000000)∧(a<l.length→(a≤x.2.1∧x.2.1<l.length)∧0≤x.2.2∧x.2.2≤3):=by have h1:=uW hl hm _ a lk x rfl ha h;have:=bH hl;refine⟨by omega,fun h2=>?_⟩;obtain⟨c0,r,g1,g2,g3,g4,g5⟩:=pU h2 h;obtain⟨k1,k2,k3⟩:=nU hl hm g1;exact⟨k1,k3⟩
theorem yV {l:List It} {wd most:Int} {a en:Nat} (h0:0<a) (h:nH l (a-1)=false):iT l wd most a en=none:=by
 unfold iT;rw[if_neg];rintro⟨h1,-⟩;obtain⟨-,-,h2,-⟩:=fZ.1 h1;rcases h2 with h2|h2
 ·omega
 ·rw[h]at h2;cases h2
theorem mU {l:List It} {wd most:Int} {a:Nat} {lk:Int} {rest:Nat→Int→Option Ch} (h0:0<a) (h:nH l (a-1)=false):∀j,bC l wd most a lk rest j=none
 |0=>rfl
 |j+1=>by rw[bC,iQ (yV h0 h),mU h0 h j]
theorem wM {l:List It} {wd most lk:Int} {a:Nat} (ha:a<l.length) (h0:0<a) (h:nH l (a-1)=false):aJ l wd most a lk=none:=by rw[mh ha,mU h0 h]
theorem qB {l:List It} {wd most lk lk':Int} {rest:Nat→Int→Option Ch}:∀j,bC l wd most 0 lk rest j=bC l wd most 0 lk' rest j
 |0=>rfl
 |j+1=>by
  rw[bC,bC,qB (lk:=lk) (lk':=lk') j];have:∀en k,iZ l 0 en lk k=iZ l 0 en lk' k:=fun en k=>by simp[iZ]
  unfold iF;simp only[this]
theorem sV {l:List It} {wd most:Int} (lk lk':Int):aJ l wd most 0 lk=aJ l wd most 0 lk':=by
 by_cases h:0<l.length
 ·rw[mh h,mh h,qB (lk:=lk) (lk':=lk')]
 ·unfold aJ
  rw[show l.length-0=0 by omega];rfl
def bkF (l:List It) (wd most:Int):Nat→Nat→Int→List Int
 |0,_,_=>[]
 |f+1,a,lk=>if a=l.length then []else match aJ l wd most a lk with
  |none=>[]
  |some r=>(r.2.1:Int)::bkF l wd most f (r.2.1+1) r.2.2
def dZ (l:List It) (wd most:Int):List Int:=bkF l wd most (l.length+1) 0 1
def jI (l:List It) (wd most:Int):Bool:=aW l&&(decide (0<l.length)&&(inB wd 0 1000&&(inB most 0 10000&&(aJ l wd most 0 1).isSome)))
def aqa (l:List It) (wd most:Int):List Int:=if jI l wd most=true then dZ l wd most else []
theorem gZ {l:List It} {wd most:Int}:jI l wd most=true↔aW l=true∧0<l.length∧(0≤wd∧wd≤1000)∧(0≤most∧most≤10000)∧(aJ l wd most 0 1).isSome=true:=by simp[jI,av]
theorem nK {l:List It} {wd most:Int} {f a:Nat} {lk:Int} {r:Ch} (h:¬a=l.length) (hr:aJ l wd most a lk=some r):bkF l wd most (f+1) a lk=(r.2.1:Int)::bkF l wd most f (r.2.1+1) r.2.2:=by rw[bkF,if_neg h,hr]
theorem yI {l:List It} {wd most:Int} {f:Nat} {lk:Int}:bkF l wd most f l.length lk=[]:=by
 cases f with
 |zero=>rfl
 |succ f=>rw[bkF,if_pos rfl]
theorem abA {l:List It} {wd most:Int} (hl:aW l=true) (hm:most≤10000):∀(f a:Nat) (lk:Int),a≤l.length→(bkF l wd most f a lk).length≤l.length-a
 |0,a,lk,_=>by simp[bkF]
 |f+1,a,lk,ha=>by
  by_cases h:a=l.length
  ·subst h;rw[yI];simp
  ·cases hr:aJ l wd most a lk with
   |none=>rw[bkF,if_neg h,hr];simp
   |some r=>obtain⟨h1,h2⟩:=dJ hl hm ha hr;have h2:=h2 (by omega);rw[nK h hr,List.length_cons];have:=abA (wd:=wd) hl hm f (r.2.1+1) r.2.2 (by omega);omega
theorem p8 {l:List It} {wd most:Int} {a:Nat} {lk:Int} {r:Ch} (ha:a<l.length) (hr:aJ l wd most a lk=some r):∃x c0,aJ l wd most (r.2.1+1) r.2.2=some x∧iT l wd most a r.2.1=some (c0,r.2.2):=by obtain⟨c0,x,g1,g2,-⟩:=pU ha hr;exact⟨x,c0,g2,g1⟩
def nbX (l:List It) (n:Nat):Nat:=((l.take n).filter fun x=>decide (x.kd=1)).length
theorem ace {l:List It} {n:Nat} (h:n<l.length) (hk:(gI l n).kd=1):nbX l (n+1)=nbX l n+1:=by
 unfold nbX;rw[List.take_succ_eq_append_getElem h,List.filter_append,List.length_append];have e:gI l n=l[n]:=by unfold gI;rw[List.getElem?_eq_getElem h,Option.getD_some]
 rw[e]at hk;simp[hk]
theorem ahO {l:List It} {n:Nat} (h:n<l.length) (hk:¬(gI l n).kd=1):nbX l (n+1)=nbX l n:=by
 unfold nbX;rw[List.take_succ_eq_append_getElem h,List.filter_append,List.length_append];have e:gI l n=l[n]:=by unfold gI;rw[List.getElem?_eq_getElem h,Option.getD_some]
 rw[e]at hk;simp[hk]
def oN (l:List It) (tx:LS) (s:ByteArray) (n:Nat):ByteArray:=
 if(gI l n).kd=1 then s++(tx[nbX l n]?.getD .empty)else if(gI l n).kd=2∧0<(gI l n).wd∧¬s=⟨#[]⟩then s++⟨#[32]⟩else s
instance:DecidableEq ByteArray:=inferInstance
def lnT (l:List It) (tx:LS) (a:Nat):Nat→ByteArray
 |0=>⟨#[]⟩
 |j+1=>oN l tx (lnT l tx a j) (a+j)
def lnR (l:List It) (tx:LS) (a en:Nat):ByteArray:=if(gI l en).mark=true then lnT l tx a (en-a)++⟨#[45]⟩else lnT l tx a (en-a)
def dA7 {α β γ δ ε ζ η:Type} (A:Dec α) (B:Dec β) (C:Dec γ) (D:Dec δ) (E:Dec ε) (F:Dec ζ) (G:Dec η):Dec (α×β×γ×δ×ε×ζ×η) where
 d:=fun| .agg [p,q,r,s,t,u,v]=>(A.d p).bind fun a=>(B.d q).bind fun b=>(C.d r).bind fun c=>(D.d s).bind fun d=>(E.d t).bind fun e=>(F.d u).bind fun f=>(G.d v).map fun g=>(a,b,c,d,e,f,g)|_=>none
 e:=fun x=> .agg [A.e x.1,B.e x.2.1,C.e x.2.2.1,D.e x.2.2.2.1,E.e x.2.2.2.2.1,F.e x.2.2.2.2.2.1,G.e x.2.2.2.2.2.2]
 h:=fun p a h=>by
  split at h
  ·simp only[Option.bind_eq_some_iff,Option.map_eq_some_iff]at h
   obtain⟨x,h1,y,h2,z,h3,t,h4,u,h5,v,h6,w,h7,rfl⟩:=h;rw[A.h _ _ h1,B.h _ _ h2,C.h _ _ h3,D.h _ _ h4,E.h _ _ h5,F.h _ _ h6,G.h _ _ h7]
  ·cases h
 h':=fun a=>by simp[A.h',B.h',C.h',D.h',E.h',F.h',G.h']
theorem aqd {α β γ δ ε ζ η:Type} (A:Dec α) (B:Dec β) (C:Dec γ) (D:Dec δ) (E:Dec ε) (F:Dec ζ) (G:Dec η):(dA7 A B C D E F G).e=fun x=> .agg [A.e x.1,B.e x.2.1,C.e x.2.2.1,D.e x.2.2.2.1,E.e x.2.2.2.2.1,F.e x.2.2.2.2.2.1,G.e x.2.2.2.2.2.2]:=rfl
abbrev dIt:Dec It:=dA7 dI dI dI dI dI dI dB
abbrev mQ:Dec (List It):=dL 7 dIt
abbrev gG (x:It):PV:=.agg [.val (.int .i64 x.1),.val (.int .i64 x.2.1),.val (.int .i64 x.2.2.1),.val (.int .i64 x.2.2.2.1),.val (.int .i64 x.2.2.2.2.1),.val (.int .i64 x.2.2.2.2.2.1),.val (.bool x.2.2.2.2.2.2)]
section
variable {β:Type} {n sz f i:Nat} {ob:bD} {k fr:Bool} {l:List It}
theorem atz {g:It→β} (h:i<l.length):Option.map g l[i]?=some (g ((l[i]?).getD it0)):=by simp[h]
theorem ahg:reify false n ob (f+3) (.lst k sz (l.map gG))=some (.lst false sz (l.map gG)):=sI fun _=>rfl
theorem alx {m T:Nat} (hm:m=l.length):qH fr (f+2) ob sz 0 m (some (T,sz,l.map gG))=some (.lst fr sz (l.map gG)):=vK (fun _=>rfl) hm
end
attribute[push_cast]
 atz ahg alx
abbrev afh (l:List It):Prop:=l.length≤1000
def aaZ:Fun:=F1 dI4 fun g=>some (bv (glB g))
theorem adM {a b c d:Int}:aaZ [.agg [.val (.int .i64 a),.val (.int .i64 b),.val (.int .i64 c),.val (.int .i64 d)]]=some (.val (.bool (glB (a,b,c,d)))):=gu (A:=dI4) (a,b,c,d)
def awG:Ctx:={fn:=aY [(64,φIn)],io:=aY []}
theorem amf:ak Tryz.prog awG:=okΓ (fC Tryz.func64 oH aj) aj
def alj:=ah (Γ:=awG) (f:=64) (φ:=φIn) rfl
theorem afz:Sound Tryz.prog 35 aaZ:=by
 refine au mixed amf Tryz.func35 rfl 23 rfl [.tmp 2] rfl (by kernel_rfl) fun ps r hr=>?_;obtain⟨⟨a,b,c,d⟩,rfl,hr⟩:=bQ hr;cases hr;refine⟨by simp,?_⟩;simp only[dIs,dUs,dSs,dz,dF,dx,dG,aR,dD,aU,aV,aS,aT];have ggl4i_c64:=alj;have ap:=bK;(refine wlkX6 ?_ ?_ ?_ ?_ ?_ ?_<;>intros<;>try with_reducible exact trivial);all_goals(refine fnG ?_;try with_reducible exact trivial)
 all_goals simp_all [glB]
def asr:Ctx:={fn:=aY [(34,φIn)],io:=aY []}
theorem amj:ak Tryz.prog asr:=okΓ (fC Tryz.func34 iy aj) aj
def akx:=ah (Γ:=asr) (f:=34) (φ:=φIn) rfl
theorem aeu:Sound Tryz.prog 221 aaZ:=by
 refine au mixed amj Tryz.func221 rfl 23 rfl [.tmp 2] rfl (by kernel_rfl) fun ps r hr=>?_;obtain⟨⟨a,b,c,d⟩,rfl,hr⟩:=bQ hr;cases hr;refine⟨by simp,?_⟩;simp only[dIs,dUs,dSs,dz,dF,dx,dG,aR,dD,aU,aV,aS,aT];have ggl4s_c34:=akx;have ap:=bK;(refine wlkX6 ?_ ?_ ?_ ?_ ?_ ?_<;>intros<;>try with_reducible exact trivial);all_goals(refine fnG ?_;try with_reducible exact trivial)
 all_goals simp_all [glB]
def aaY:Fun:=F1 dIt fun x=>some (bv (itB x))
theorem adC {a b c d e f:Int} {g:Bool}:aaY [.agg [.val (.int .i64 a),.val (.int .i64 b),.val (.int .i64 c),.val (.int .i64 d),.val (.int .i64 e),.val (.int .i64 f),.val (.bool g)]]=some (.val (.bool (itB (a,b,c,d,e,f,g)))):=gu (A:=dIt) (a,b,c,d,e,f,g)
def tu:Fun:=F1 dI fun c=>some (bv (wP c))
theorem aai (c:Int):tu [.val (.int .i64 c)]=some (.val (.bool (wP c))):=rfl
def avh:Ctx:={fn:=aY [(72,oL)],io:=aY []}
theorem ajP:ak Tryz.prog avh:=okΓ (fC Tryz.func72 nX aj) aj
def alO:=ah (Γ:=avh) (f:=72) (φ:=oL) rfl
theorem aal:Sound Tryz.prog 235 tu:=by
 refine au mixed ajP Tryz.func235 rfl 9 rfl [.tmp 2] rfl (by kernel_rfl) fun ps r hr=>?_;obtain⟨c,rfl,hr⟩:=bQ hr;cases hr;refine⟨by simp,?_⟩;simp only[dIs,dUs,dSs,dz,dF,dx,dG,aR,dD,aU,aV,aS,aT];have ap:=mD;have gcost_c72:=alO;(refine wlkX6 ?_ ?_ ?_ ?_ ?_ ?_<;>intros<;>try with_reducible exact trivial);all_goals(refine fnG ?_;try with_reducible exact trivial)
 all_goals simp_all [wP]
def axu:Ctx:={fn:=aY [(35,aaZ),(235,tu)],io:=aY []}
theorem apA:ak Tryz.prog axu:=okΓ (fC Tryz.func35 afz (fC Tryz.func235 aal aj)) aj
def ari:=ah (Γ:=axu) (f:=35) (φ:=aaZ) rfl
def akK:=ah (Γ:=axu) (f:=235) (φ:=tu) rfl
theorem afU:Sound Tryz.prog 214 aaY:=by
 refine au mixed apA Tryz.func214 rfl 63 rfl [.tmp 2] rfl (by kernel_rfl) fun ps r hr=>?_;obtain⟨⟨a,b,c,d,e,f,g⟩,rfl,hr⟩:=bQ hr;cases hr;refine⟨by simp,?_⟩;simp only[dIs,dUs,dSs,dz,dF,dx,dG,aR,dD,aU,aV,aS,aT];simp only[aqd,dz,dx];have ap1:=@adM;have ap2:=aai;have hE:itB (a,b,c,d,e,f,g)=(glB (b,c,d,e)&&((decide (a=1)&&(decide (c=0∧d=0∧e=0)&&decide (f=0∧g=false)))||((decide (a=2)&&decide (f=0∧g=false))||(decide (a=3)&&(decide (c=0∧d=0∧e=0)&&wP f))))):=rfl;rw[hE];clear hE;cases hg:glB (b,c,d,e)<;>cases hc:wP f<;>
 ·have giti_c35:=ari;have giti_c235:=akK
  repeat' (first|(with_reducible first|apply fM|apply bF|apply cO|apply dn|apply fG|apply mJ|apply fK|apply fP|apply mH|apply fB|apply fE|apply mI|apply fO|apply fH|apply fJ)|((with_reducible apply bg);(simp only[List.map_cons,List.map_nil]<;>exact rfl))|((with_reducible apply dh);(simp only[List.map_cons,List.map_nil]<;>exact rfl);decide+kernel)|((with_reducible apply fI);rfl)|((first|((with_reducible apply i_V);rfl;rfl;rfl)|((first|((with_reducible apply i_E);rfl)|((with_reducible apply i_S);rfl));first|rfl|(simp only[push_cast,↓reduceIte]))|((with_reducible apply mM);rfl;rfl)|((with_reducible apply mE);rfl;rfl;rfl)|(with_reducible first|apply mG|apply cZ));(simp(disch:=(first|omega|(simp only[push_cast];first|done|omega))) only[push_cast,↓reduceIte,Nat.reduceEqDiff,Nat.reduceBEq,Nat.reduceAdd,Nat.reduceSub,Int.reduceToNat, *]<;>with_reducible exact rfl);all_goals try(first|(with_reducible first|refine hyT ?_|refine hyF ?_|exact hyA|exact hyB)|(intro hX;first|(cases hX;done)|((try simp only[decide_eq_true_eq,decide_eq_false_iff_not,Bool.not_eq_true',Bool.not_eq_false']at hX);(try have hXb:=av.1 hX))))))
  all_goals(refine fnG ?_;try with_reducible exact trivial)
  all_goals(first|(simp_all;done)|(simp_all;omega))
def ayi:Ctx:={fn:=aY [(221,aaZ),(34,φIn)],io:=aY []}
theorem arf:ak Tryz.prog ayi:=okΓ (fC Tryz.func221 aeu (fC Tryz.func34 iy aj)) aj
def ajF:=ah (Γ:=ayi) (f:=221) (φ:=aaZ) rfl
def aqY:=ah (Γ:=ayi) (f:=34) (φ:=φIn) rfl
theorem ae1:Sound Tryz.prog 181 aaY:=by
 refine au mixed arf Tryz.func181 rfl 62 rfl [.tmp 2] rfl (by kernel_rfl) fun ps r hr=>?_;obtain⟨⟨a,b,c,d,e,f,g⟩,rfl,hr⟩:=bQ hr;cases hr;refine⟨by simp,?_⟩;simp only[dIs,dUs,dSs,dz,dF,dx,dG,aR,dD,aU,aV,aS,aT];simp only[aqd,dz,dx];have ap1:=@adM;have ap2:=bK;have hE:itB (a,b,c,d,e,f,g)=(glB (b,c,d,e)&&((decide (a=1)&&(decide (c=0∧d=0∧e=0)&&decide (f=0∧g=false)))||((decide (a=2)&&decide (f=0∧g=false))||(decide (a=3)&&(decide (c=0∧d=0∧e=0)&&(inB f 0 10000||decide (f=-10000))))))):=rfl;rw[hE];clear hE;cases hg:glB (b,c,d,e)<;>
 ·have gits_c221:=ajF;have gits_c34:=aqY
  repeat' (first|(with_reducible first|apply fM|apply bF|apply cO|apply dn|apply fG|apply mJ|apply fK|apply fP|apply mH|apply fB|apply fE|apply mI|apply fO|apply fH|apply fJ)|((with_reducible apply bg);(simp only[List.map_cons,List.map_nil]<;>exact rfl))|((with_reducible apply dh);(simp only[List.map_cons,List.map_nil]<;>exact rfl);decide+kernel)|((with_reducible apply fI);rfl)|((first|((with_reducible apply i_V);rfl;rfl;rfl)|((first|((with_reducible apply i_E);rfl)|((with_reducible apply i_S);rfl));first|rfl|(simp only[push_cast,↓reduceIte]))|((with_reducible apply mM);rfl;rfl)|((with_reducible apply mE);rfl;rfl;rfl)|(with_reducible first|apply mG|apply cZ));(simp(disch:=(first|omega|(simp only[push_cast];first|done|omega))) only[push_cast,↓reduceIte,Nat.reduceEqDiff,Nat.reduceBEq,Nat.reduceAdd,Nat.reduceSub,Int.reduceToNat, *]<;>with_reducible exact rfl);all_goals try(first|(with_reducible first|refine hyT ?_|refine hyF ?_|exact hyA|exact hyB)|(intro hX;first|(cases hX;done)|((try simp only[decide_eq_true_eq,decide_eq_false_iff_not,Bool.not_eq_true',Bool.not_eq_false']at hX);(try have hXb:=av.1 hX))))))
  all_goals(refine fnG ?_;try with_reducible exact trivial)
  all_goals(first|(simp_all;done)|(simp_all;omega))
def yQ:Fun:=F1 mQ fun l=>if afh l then some (bv (aW l))else none
theorem wV {l:List It} (h:afh l):yQ [.lst false 7 (l.map gG)]=some (.val (.bool (aW l))):=(gu (A:=mQ) l).trans (if_pos h)
def avb:Ctx:={fn:=aY [(214,aaY)],io:=aY []}
theorem alL:ak Tryz.prog avb:=okΓ (fC Tryz.func214 afU aj) aj
def agq:=ah (Γ:=avb) (f:=214) (φ:=aaY) rfl
theorem vU:Sound Tryz.prog 175 yQ:=by
 refine au mixed alL Tryz.func175 rfl 18 rfl [.tmp 2] rfl (by kernel_rfl) fun ps r hr=>?_;obtain⟨l,rfl,hpre,rfl⟩:=jQ hr;refine⟨by simp,?_⟩;simp only[dIs,dUs,dSs,dz,dF,dx,dG,aR,dD,aU,aV,aS,aT];have hlen:l.length≤1000:=hpre;have ap:=@adC;clear hpre;show pq _ _ _ _ _ (bY [.lst false 7 (l.map gG)]).tm _ _;have gitsi_c214:=agq;(refine wlk ?_;intros);refine aG (α:=Nat×Nat) mixed (fun z=>[(0,.lst false 7 (l.map gG)),(5,.lst false 7 (l.map gG)),(6,iv l.length),(7,iv z.1)]) (fun _=>[]) (fun z=>z.2)
  (fun z=>z.1≤l.length∧∀j,j<z.1→itB (l[j]?.getD it0)=true) (fun z=>l.length-z.1) (by kernel_rfl) (0,0) ⟨Nat.zero_le _,fun j hj=>by simp at hj⟩ ?_ trivial rfl ?_
 ·exact agr
 rintro⟨k,y⟩ ⟨hk,hok⟩;dsimp only at hk hok;by_cases h0:k<l.length
 ·cases hb:itB (l[k]?.getD it0)with
  |false=>
   have hE:aW l=false:=by unfold aW;rw[jy (d:=it0) h0 hb,Bool.and_false]
   rw[hE];clear hok hE;generalize hx9:l[k]?.getD it0=x at*;obtain⟨a,b,c,d,e,f,g⟩:=x;exact wlkF
  |true=>
   have hok2:∀j,j<k+1→itB (l[j]?.getD it0)=true:=fun j hj=>by
    by_cases h1:j<k
    ·exact hok j h1
    ·obtain rfl:j=k:=by omega
     exact hb
   replace hok2:=Lib.hid hok2;clear hok;generalize hx9:l[k]?.getD it0=x at*;obtain⟨a,b,c,d,e,f,g⟩:=x;(refine wlk ?_;intros);refine⟨(k+1,y+1),⟨by dsimp only;omega,hok2.out⟩,by dsimp only;omega,?_,trivial,rfl⟩;exact agr
 ·obtain rfl:k=l.length:=by omega
  have hE:aW l=decide (l.length≤60):=by unfold aW;rw[gB (d:=it0) fun j hj=>hok j hj,Bool.and_true]
  rw[hE];clear hok hE;((refine wlk6 ?_ ?_ ?_ ?_ ?_ ?_<;>intros<;>try with_reducible exact trivial)<;>(refine fnG ?_;try with_reducible exact trivial));all_goals(first|(simp;omega)|skip)
def ato:Ctx:={fn:=aY [(181,aaY)],io:=aY []}
theorem akF:ak Tryz.prog ato:=okΓ (fC Tryz.func181 ae1 aj) aj
def aiq:=ah (Γ:=ato) (f:=181) (φ:=aaY) rfl
theorem afL:Sound Tryz.prog 127 yQ:=by
 refine au mixed akF Tryz.func127 rfl 19 rfl [.tmp 2] rfl (by kernel_rfl) fun ps r hr=>?_;obtain⟨l,rfl,hpre,rfl⟩:=jQ hr;refine⟨by simp,?_⟩;simp only[dIs,dUs,dSs,dz,dF,dx,dG,aR,dD,aU,aV,aS,aT];have hlen:l.length≤1000:=hpre;have ap:=@adC;clear hpre;show pq _ _ _ _ _ (bY [.lst false 7 (l.map gG)]).tm _ _;have gitss_c181:=aiq;(refine wlk ?_;intros);refine aG (α:=Nat) mixed (fun k=>[(0,.lst false 7 (l.map gG)),(3,iv k)]) (fun _=>[]) (fun _=>0)
  (fun k=>k≤l.length∧∀j,j<k→itB (l[j]?.getD it0)=true) (fun k=>l.length-k) (by kernel_rfl) 0 ⟨Nat.zero_le _,fun j hj=>by simp at hj⟩ ?_ trivial rfl ?_
 ·exact agr
 rintro k ⟨hk,hok⟩;by_cases h0:k<l.length
 ·cases hb:itB (l[k]?.getD it0)with
  |false=>
   have hE:aW l=false:=by unfold aW;rw[jy (d:=it0) h0 hb,Bool.and_false]
   rw[hE];clear hok hE;generalize hx9:l[k]?.getD it0=x at*;obtain⟨a,b,c,d,e,f,g⟩:=x;exact wlkF
  |true=>
   have hok2:∀j,j<k+1→itB (l[j]?.getD it0)=true:=fun j hj=>by
    by_cases h1:j<k
    ·exact hok j h1
    ·obtain rfl:j=k:=by omega
     exact hb
   replace hok2:=Lib.hid hok2;clear hok;generalize hx9:l[k]?.getD it0=x at*;obtain⟨a,b,c,d,e,f,g⟩:=x;(refine wlk ?_;intros);refine⟨k+1,⟨by omega,hok2.out⟩,by dsimp only;omega,?_,trivial,rfl⟩;exact agr
 ·obtain rfl:k=l.length:=by omega
  have hE:aW l=decide (l.length≤60):=by unfold aW;rw[gB (d:=it0) fun j hj=>hok j hj,Bool.and_true]
  rw[hE];clear hok hE;((refine wlk6 ?_ ?_ ?_ ?_ ?_ ?_<;>intros<;>try with_reducible exact trivial)<;>(refine fnG ?_;try with_reducible exact trivial));all_goals(first|(simp;omega)|skip)
theorem avZ {l:List It} {a b c d e f:Int} {g:Bool}:l.map gG++[.agg [.val (.int .i64 a),.val (.int .i64 b),.val (.int .i64 c),.val (.int .i64 d),.val (.int .i64 e),.val (.int .i64 f),.val (.bool g)]]=(l++[(a,b,c,d,e,f,g)]).map gG:=by simp
theorem aq6 {l:List It} {a b c d e f a2 b2 c2 d2 e2 f2 a3 b3 c3 d3 e3 f3:Int} {g g2 g3:Bool}:l.map gG++[.agg [.val (.int .i64 a),.val (.int .i64 b),.val (.int .i64 c),.val (.int .i64 d),.val (.int .i64 e),.val (.int .i64 f),.val (.bool g)],.agg [.val (.int .i64 a2),.val (.int .i64 b2),.val (.int .i64 c2),.val (.int .i64 d2),.val (.int .i64 e2),.val (.int .i64 f2),.val (.bool g2)],.agg [.val (.int .i64 a3),.val (.int .i64 b3),.val (.int .i64 c3),.val (.int .i64 d3),.val (.int .i64 e3),.val (.int .i64 f3),.val (.bool g3)]]=(l++[(a,b,c,d,e,f,g),(a2,b2,c2,d2,e2,f2,g2),(a3,b3,c3,d3,e3,f3,g3)]).map gG:=by simp
theorem aqi {l l':List It}:l.map gG++l'.map gG=(l++l').map gG:=List.map_append.symm
attribute[push_cast]
 avZ aq6 aqi
def wiK (ps:LS):Nat→List It
 |0=>[]
 |k+1=>(if k=0 then wiK ps k else wiK ps k++[(3,3,0,0,0,50,true)])++[(1,p9 (ps[k]?.getD .empty),0,0,0,0,false)]
def wiR (w:ByteArray) (pats:LS):List It:=wiK (bZ w pats) (bZ w pats).length
def piK (ws pats:LS):Nat→List It
 |0=>[]
 |k+1=>(if k=0 then piK ws pats k else piK ws pats k++[(2,4,3,1,0,0,false)])++wiR (ws[k]?.getD .empty) pats
def piR (ws pats:LS):List It:=piK ws pats ws.length++[(3,0,0,0,0,10000,false),(2,0,1,0,1,0,false),(3,0,0,0,0,-10000,false)]
def ql (ws pats:LS):Bool:=bN ws&&(bE pats&&(decide (0<ws.length)&&decide ((piR ws pats).length≤60)))
def piV (ws pats:LS):List It:=if ql ws pats=true then piR ws pats else []
theorem za (ps:LS):∀k,(wiK ps k).length≤2*k
 |0=>by simp[wiK]
 |k+1=>by
  have:=za ps k;unfold wiK;rw[List.length_append,List.length_singleton];split
  ·omega
  ·rw[List.length_append,List.length_singleton];omega
theorem jG (w:ByteArray) (pats:LS):(bZ w pats).length≤21:=by
 unfold bZ;split
 ·rename_i h
  have:=(nM (pats:=pats) (jW.1 h).1).1;unfold aaz;rw[ai7];omega
 ·simp
theorem mX {w:ByteArray} {pats:LS}:∀x∈bZ w pats,dM x=true:=fun x hx=>by
 unfold bZ at hx;split at hx
 ·rename_i h
  exact amy (jW.1 h).1 (nM (jW.1 h).1) x hx
 ·simp at hx
theorem zW {w:ByteArray} {pats:LS} {k:Nat} (h:k<(bZ w pats).length):dM ((bZ w pats)[k]?.getD .empty)=true:=by rw[List.getElem?_eq_getElem h,Option.getD_some];exact mX _ (List.getElem_mem h)
theorem ag4 (w:ByteArray) (pats:LS):(wiR w pats).length≤42:=by have h1:=za (bZ w pats) (bZ w pats).length;have h2:=jG w pats;unfold wiR;omega
theorem ab8 (ws pats:LS):∀k,(piK ws pats k).length≤43*k
 |0=>by simp[piK]
 |k+1=>by
  have:=ab8 ws pats k;have h2:=ag4 (ws[k]?.getD .empty) pats;unfold piK;rw[List.length_append];split
  ·omega
  ·rw[List.length_append,List.length_singleton];omega
theorem anc {ps:LS} (h:∀x∈ps,dM x=true):∀k,k≤ps.length→∀x∈wiK ps k,itB x=true
 |0,_=>by simp[wiK]
 |k+1,hk=>fun x hx=>by
  have ih:=anc h k (by omega);unfold wiK at hx;rcases List.mem_append.1 hx with hx|hx
  ·split at hx
   ·exact ih x hx
   ·rcases List.mem_append.1 hx with hx|hx
    ·exact ih x hx
    ·rw[List.mem_singleton.1 hx];decide
  ·rw[List.mem_singleton.1 hx]
   have h1:dM (ps[k]?.getD .empty)=true:=by rw[List.getElem?_eq_getElem (show k<ps.length by omega),Option.getD_some];exact h _ (List.getElem_mem _)
   have h2:=ahU h1;generalize p9 (ps[k]?.getD .empty)=n at*;simp[itB,glB,aee,It.kd,It.gl,It.cost,It.mark,av];omega
theorem am9 (ws pats:LS):∀k,∀x∈piK ws pats k,itB x=true
 |0=>by simp[piK]
 |k+1=>fun x hx=>by
  have ih:=am9 ws pats k;unfold piK at hx;rcases List.mem_append.1 hx with hx|hx
  ·split at hx
   ·exact ih x hx
   ·rcases List.mem_append.1 hx with hx|hx
    ·exact ih x hx
    ·rw[List.mem_singleton.1 hx];decide
  ·exact anc mX _ (Nat.le_refl _) x hx
theorem atF {ws pats:LS} (h:(piR ws pats).length≤60):aW (piR ws pats)=true:=by
 unfold aW;rw[Bool.and_eq_true,List.all_eq_true];refine⟨decide_eq_true h,fun x hx=>?_⟩;unfold piR at hx;rcases List.mem_append.1 hx with hx|hx
 ·exact am9 ws pats _ x hx
 ·rcases List.mem_cons.1 hx with rfl|hx
  ·decide
  ·rcases List.mem_cons.1 hx with rfl|hx
   ·decide
   ·rw[List.mem_singleton.1 hx];decide
theorem xX {ws pats:LS}:ql ws pats=true↔bN ws=true∧bE pats=true∧0<ws.length∧(piR ws pats).length≤60:=by simp[ql]
theorem anw {ws pats:LS} (h:ql ws pats=true):aW (piV ws pats)=true:=by unfold piV;rw[if_pos h];exact atF (xX.1 h).2.2.2
def φL6:Fun:=F2 dS dSs fun w pats=>if akd w pats then some (.lst true 7 ((wiR w pats).map gG))else none
theorem apO {w:ByteArray} {pats:LS} (h:akd w pats):φL6 [.val (.string w),.lst false 1 (pats.map fun s=> .val (.string s))]=some (.lst true 7 ((wiR w pats).map gG)):=(jm (A:=dS) (B:=dSs) w pats).trans (if_pos h)
def GL6:Ctx:={fn:=aY [(98,φPr),(180,φWw)],io:=aY []}
theorem auh:ak Tryz.prog GL6:=okΓ (fC Tryz.func98 zG (fC Tryz.func180 ahB aj)) aj
def avs:=ah (Γ:=GL6) (f:=98) (φ:=φPr) rfl
def ara:=ah (Γ:=GL6) (f:=180) (φ:=φWw) rfl
theorem aiZ:Sound Tryz.prog 126 φL6:=by
 refine au mixed auh Tryz.func126 rfl 36 rfl [.tmp 4] rfl (by kernel_rfl) fun ps r hr=>?_;obtain⟨w,pats,rfl,hpre,rfl⟩:=iB hr;refine⟨by simp,?_⟩;simp only[dIs,dUs,dSs,dz,dF,dx,dG,aR,dD,aU,aV,aS,aT];have apr:=aaW hpre;have hps:∀k,k<(bZ w pats).length→((bZ w pats)[k]?.getD .empty).size≤1048576:=fun k hk=>by have:=aX (zW hk);omega
 have hpl:=jG w pats;unfold wiR;generalize bZ w pats=ps at*;have hwl:=za ps;clear hpre;have gl6_c98:=avs;have gl6_c180:=ara;(refine wlk ?_;intros);refine aG (α:=Nat×Nat×Nat) mixed (fun z=>[(0,.val (.string w)),(5,.row z.2.1 7 0 (wiK ps z.1).length),(6,.lst true 1 (ps.map pvS)),(7,iv z.1)])
  (fun z=>[(z.2.1,111,7,(wiK ps z.1).map gG)]) (fun z=>z.2.2)
  (fun z=>z.1≤ps.length∧z.2.1<z.2.2) (fun z=>ps.length-z.1) (by kernel_rfl) (0,0,1) ⟨Nat.zero_le _,by simp⟩ ?_ ?_ rfl ?_
 ·simp(disch:=(first|omega|(simp only[push_cast];first|done|omega))) only[push_cast,↓reduceIte,Nat.reduceEqDiff,Nat.reduceBEq,Nat.reduceAdd,Nat.reduceSub,Int.reduceToNat,wiK,List.length_nil, *]
 ·simp(disch:=(first|omega|(simp only[push_cast];first|done|omega))) only[push_cast,↓reduceIte,Nat.reduceEqDiff,Nat.reduceBEq,Nat.reduceAdd,Nat.reduceSub,Int.reduceToNat,wiK,List.map_nil, *]
 rintro⟨k,x,y⟩ ⟨hk,hxy⟩;dsimp only at hk hxy;have hlk:=hwl k;by_cases h0:k<ps.length
 ·have apw:=acH (hps k h0)
  have hn:wiK ps (k+1)=(if k=0 then wiK ps k else wiK ps k++[(3,3,0,0,0,50,true)])++[(1,p9 (ps[k]?.getD .empty),0,0,0,0,false)]:=rfl;by_cases hz:k=0
  ·rw[if_pos hz]at hn
   replace hn:=Lib.hid hn;replace hz:k<1:=by omega
   generalize wiK ps k=out at*;clear hwl hps;(refine wlk ?_;intros);refine⟨(k+1,y+1,y+2),⟨by dsimp only;omega,by dsimp only;omega⟩,by dsimp only;omega,?_,?_,rfl⟩
   ·dsimp only
    rw[hn.out];exact agr
   ·dsimp only
    rw[hn.out];exact agr
  ·rw[if_neg hz]at hn
   replace hn:=Lib.hid hn;generalize wiK ps k=out at*;clear hwl hps;(refine wlk ?_;intros);refine⟨(k+1,y+3,y+4),⟨by dsimp only;omega,by dsimp only;omega⟩,by dsimp only;omega,?_,?_,rfl⟩
   ·dsimp only
    rw[hn.out];exact agr
   ·dsimp only
    rw[hn.out];exact agr
 ·obtain rfl:k=ps.length:=by omega
  generalize wiK ps ps.length=out at*;clear hwl hps;exact wlkF
def φPi:Fun:=F2 dSs dSs fun ws pats=>if oo ws∧oo pats then some (.tup [.lst true 7 ((piV ws pats).map gG),bv (ql ws pats)])else none
theorem anS {ws pats:LS} (h:oo ws∧oo pats):φPi [.lst false 1 (ws.map fun s=> .val (.string s)),.lst false 1 (pats.map fun s=> .val (.string s))]=some (.tup [.lst true 7 ((piV ws pats).map gG),.val (.bool (ql ws pats))]):=(jm (A:=dSs) (B:=dSs) ws pats).trans (if_pos h)
theorem tX {ws:LS} (h:bN ws=true):ws.length≤12:=by unfold bN at h;rw[Bool.and_eq_true]at h;exact of_decide_eq_true h.1
theorem aeg {ws:LS} (h:bN ws=true) {k:Nat} (hk:k<ws.length):dM (ws[k]?.getD .empty)=true:=by unfold bN at h;rw[Bool.and_eq_true,List.all_eq_true]at h;rw[List.getElem?_eq_getElem hk,Option.getD_some];exact h.2 _ (List.getElem_mem hk)
def GPi:Ctx:={fn:=aY [(32,iX),(33,gX),(126,φL6)],io:=aY []}
theorem auJ:ak Tryz.prog GPi:=okΓ (fC Tryz.func32 jO (fC Tryz.func33 dQ (fC Tryz.func126 aiZ aj))) aj
def adA:=ah (Γ:=GPi) (f:=32) (φ:=iX) rfl
def ad7:=ah (Γ:=GPi) (f:=33) (φ:=gX) rfl
def yA:=ah (Γ:=GPi) (f:=126) (φ:=φL6) rfl
theorem agW:Sound Tryz.prog 96 φPi:=by
 refine au mixed auJ Tryz.func96 rfl 56 rfl [.tmp 4,.tmp 5] rfl (by kernel_rfl) fun ps r hr=>?_;obtain⟨ws,pats,rfl,hpre,rfl⟩:=iB hr;refine⟨by simp,?_⟩;simp only[dIs,dUs,dSs,dz,dF,dx,dG,aR,dD,aU,aV,aS,aT];have ap1:=lX hpre.1;have ap2:=iJ hpre.2;have hwl0:=hpre.1.1;unfold piV;cases hw:bN ws with
 |false=>
  have hB:ql ws pats=false:=by unfold ql;rw[hw];rfl
  rw[hw]at ap1;rw[hB,if_neg (by decide)];clear hpre hw hB;have gpi_c32:=adA;have gpi_c33:=ad7;have gpi_c126:=yA;exact wlkF
 |true=>
 cases hp:bE pats with
 |false=>
  have hB:ql ws pats=false:=by unfold ql;rw[hw,hp];rfl
  rw[hw]at ap1;rw[hp]at ap2;rw[hB,if_neg (by decide)];clear hpre hw hp hB;have gpi_c32:=adA;have gpi_c33:=ad7;have gpi_c126:=yA;exact wlkF
 |true=>
 by_cases hz:ws.length=0
 ·have hB:ql ws pats=false:=by unfold ql;rw[hw,hp,hz];rfl
  rw[hw]at ap1;rw[hp]at ap2;rw[hB,if_neg (by decide)];clear hpre hw hp hB;have gpi_c32:=adA;have gpi_c33:=ad7;have gpi_c126:=yA;exact wlkF
 ·have hB:ql ws pats=decide ((piR ws pats).length≤60):=by unfold ql;rw[hw,hp,decide_eq_true (show 0<ws.length by omega)];rfl
  rw[hw]at ap1;rw[hp]at ap2;have hwl:=tX hw;have hap:∀k,k<ws.length→φL6 [.val (.string (ws[k]?.getD .empty)),.lst false 1 (pats.map fun s=> .val (.string s))]=some (.lst true 7 ((wiR (ws[k]?.getD .empty) pats).map gG)):=fun k hk=>apO ⟨hpre.1.2 k,hpre.2⟩;have hkl:=ab8 ws pats;have hil:∀k:Nat,(wiR (ws[k]?.getD .empty) pats).length≤42:=fun k=>ag4 _ _;rw[hB];have hR:piR ws pats=piK ws pats ws.length++[(3,0,0,0,0,10000,false),(2,0,1,0,1,0,false),(3,0,0,0,0,-10000,false)]:=rfl;rw[hR];clear hpre hw hp hB hR;have gpi_c32:=adA;have gpi_c33:=ad7;have gpi_c126:=yA;(refine wlk ?_;intros);refine aG (α:=Nat×Nat×Nat) mixed (fun z=>[(0,.lst false 1 (ws.map pvS)),(1,.lst false 1 (pats.map pvS)),(6,.row z.2.1 7 0 (piK ws pats z.1).length),(7,iv z.1)])
   (fun z=>[(z.2.1,111,7,(piK ws pats z.1).map gG)]) (fun z=>z.2.2)
   (fun z=>z.1≤ws.length∧z.2.1<z.2.2) (fun z=>ws.length-z.1) (by kernel_rfl) (0,0,1) ⟨Nat.zero_le _,by simp⟩ ?_ ?_ rfl ?_
  ·simp(disch:=(first|omega|(simp only[push_cast];first|done|omega))) only[push_cast,↓reduceIte,Nat.reduceEqDiff,Nat.reduceBEq,Nat.reduceAdd,Nat.reduceSub,Int.reduceToNat,piK,List.length_nil, *]
  ·simp(disch:=(first|omega|(simp only[push_cast];first|done|omega))) only[push_cast,↓reduceIte,Nat.reduceEqDiff,Nat.reduceBEq,Nat.reduceAdd,Nat.reduceSub,Int.reduceToNat,piK,List.map_nil, *]
  rintro⟨k,x,y⟩ ⟨hk,hxy⟩;dsimp only at hk hxy;have hlk:=hkl k;have hlw:=hil k;by_cases h0:k<ws.length
  ·have apk:=hap k h0
   have hn:piK ws pats (k+1)=(if k=0 then piK ws pats k else piK ws pats k++[(2,4,3,1,0,0,false)])++wiR (ws[k]?.getD .empty) pats:=rfl;generalize wiR (ws[k]?.getD .empty) pats=its at*;by_cases hk0:k=0
   ·rw[if_pos hk0]at hn
    replace hn:=Lib.hid hn;replace hk0:k<1:=by omega
    generalize piK ws pats k=out at*;clear hkl hil hap;(refine wlk ?_;intros);refine⟨(k+1,y,y+1),⟨by dsimp only;omega,by dsimp only;omega⟩,by dsimp only;omega,?_,?_,rfl⟩
    ·dsimp only
     rw[hn.out];exact agr
    ·dsimp only
     rw[hn.out];exact agr
   ·rw[if_neg hk0]at hn
    replace hn:=Lib.hid hn;generalize piK ws pats k=out at*;clear hkl hil hap;(refine wlk ?_;intros);refine⟨(k+1,y+2,y+3),⟨by dsimp only;omega,by dsimp only;omega⟩,by dsimp only;omega,?_,?_,rfl⟩
    ·dsimp only
     rw[hn.out];exact agr
    ·dsimp only
     rw[hn.out];exact agr
  ·obtain rfl:k=ws.length:=by omega
   generalize piK ws pats ws.length=out at*;clear hkl hil hap;by_cases h60:out.length+3≤60
   ·rw[decide_eq_true (by simpa using h60),if_pos rfl]
    exact wlkF
   ·rw[decide_eq_false (by simpa using h60),if_neg (by decide)]
    exact wlkF
end
end Go.Proofs.YtmmafcjjlbgnkaaGreatDoor
