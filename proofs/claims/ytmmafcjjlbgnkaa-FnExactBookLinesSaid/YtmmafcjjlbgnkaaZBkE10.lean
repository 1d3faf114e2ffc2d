/- What the proof rests on, part 10: contracts of functions. No condition beyond what each states. -/
import Derived.Test.YtmmafcjjlbgnkaaZBkE9
namespace Go.Proofs.Ytmmafcjjlbgnkaa
open Go.RowKit
set_option linter.all false
set_option maxHeartbeats 32000000
noncomputable section
def p9 (w:ByteArray) (pats:LS):Bool:=cu w&&bq pats
theorem jl {w:ByteArray} {pats:LS}:p9 w pats=true↔cu w=true∧bq pats=true:=by simp[p9]
theorem aeF {pats:LS} (h:bq pats=true) {k:Nat} (hk:k<pats.length):xO (pats[k]?.getD .empty)=true:=by unfold bq at h;rw[Bool.and_eq_true,List.all_eq_true]at h;rw[List.getElem?_eq_getElem hk,Option.getD_some];exact h.2 _ (List.getElem_mem hk)
theorem abk {pats:LS} (h:bq pats=true):pats.length≤20:=by unfold bq at h;rw[Bool.and_eq_true]at h;exact of_decide_eq_true h.1
def nS (w:ByteArray) (pats:LS):List Int:=if p9 w pats=true then gL w pats else []
abbrev ahU (w:ByteArray) (pats:LS):Prop:=w.size≤1048576∧lU pats
instance (w:ByteArray) (pats:LS):Decidable (ahU w pats):=Classical.propDecidable _
def φLv:Fun:=F2 dS dSs fun w pats=>if ahU w pats then some (.lst true 1 ((nS w pats).map fun n=> .val (.int .i64 n)))else none
theorem agS {w:ByteArray} {pats:LS} (h:ahU w pats):φLv [.val (.string w),.lst false 1 (pats.map fun s=> .val (.string s))]=some (.lst true 1 ((nS w pats).map fun n=> .val (.int .i64 n))):=(gD (A:=dS) (B:=dSs) w pats).trans (if_pos h)
def ajf:Fun:=F2 dS dSs fun w pats=>if p9 w pats=true then some (.lst true 1 ((gL w pats).map fun n=> .val (.int .i64 n)))else none
theorem aiF {w:ByteArray} {pats:LS} (h:p9 w pats=true):ajf [.val (.string w),.lst false 1 (pats.map fun s=> .val (.string s))]=some (.lst true 1 ((gL w pats).map fun n=> .val (.int .i64 n))):=(gD (A:=dS) (B:=dSs) w pats).trans (if_pos h)
theorem aco {sz a j:Nat} {lv o:List Int} (h:1≤a+j) (h2:a+j≤sz+1):zC sz a j lv o=o.set (a+j-1) (if lv[j]?.getD 0>o[a+j-1]?.getD 0 then lv[j]?.getD 0 else o[a+j-1]?.getD 0):=if_pos ⟨h,h2⟩
theorem xL {sz a j:Nat} {lv o:List Int} (h:¬(1≤a+j∧a+j≤sz+1)):zC sz a j lv o=o:=if_neg h
theorem afh {d lt:ByteArray} {sz a:Nat} {lv o:List Int} (h:d.extract a (a+lt.size)=lt):lvA d sz lt lv o (a+1)=lvJ sz a lv (lvA d sz lt lv o a) lv.length:=by rw[lvA,if_pos h]
theorem acj {d lt:ByteArray} {sz a:Nat} {lv o:List Int} (h:¬d.extract a (a+lt.size)=lt):lvA d sz lt lv o (a+1)=lvA d sz lt lv o a:=by rw[lvA,if_neg h]
def as9:Ctx:={fn:=aZ [(97,φPp),(35,φIn)],io:=aZ []}
theorem ali:au Try.prog as9:=okΓ (fC Try.func97 agf (fC Try.func35 vY aj)) aj
def akv:=ah (Γ:=as9) (f:=97) (φ:=φPp) rfl
def akZ:=ah (Γ:=as9) (f:=35) (φ:=φIn) rfl
theorem ac4:Sound Try.prog 91 ajf:=by
 refine ak mixed ali Try.func91 rfl 78 rfl [.tmp 4] rfl (by kernel_rfl) fun ps r hr=>?_;obtain⟨w,pats,rfl,hpre,rfl⟩:=fQ hr;refine⟨by simp,?_⟩;simp only[dIs,dUs,dSs,bQ,bU,bP,bT,aL,bS,aQ,aO,aR,aP];obtain⟨hw,hp⟩:=jl.1 hpre;obtain⟨-,hw1,hw2⟩:=aS hw;have hpl:=abk hp;have hpa:=fun k hk=>aeF hp (k:=k) hk;have hds:=wV w;have hlo:=xD w pats;have hd0:alH w=(⟨#[46]⟩++w)++⟨#[46]⟩:=rfl;have h46:(⟨#[46]⟩:ByteArray).size=1:=rfl;have api:=bO;unfold gL;clear hw hp hpre;have glvi_c97:=akv;have glvi_c35:=akZ;(refine wlk ?_;intros);rw[←hd0];clear hd0 h46;generalize hdd:alH w=d at*;refine aD (α:=Nat) mixed (fun k=>[(0,.val (.string w)),(5,.val (.string d)),(6,.row 0 1 0 (w.size+1)),(22,.lst false 1 (pats.map fun s=> .val (.string s))),(23,iv pats.length),(24,iv k)])
  (fun k=>[(0,3,1,(lvP w pats k).map pvN)]) (fun _=>1)
  (fun k=>k≤pats.length) (fun k=>pats.length-k) (by kernel_rfl) 0 (Nat.zero_le _) ?_ ?_ rfl ?_
 ·exact agr
 ·simp(disch:=(first|omega|(simp only[push_cast];first|done|omega))) only[push_cast,↓reduceIte,Nat.reduceEqDiff,Nat.reduceBEq,Nat.reduceAdd,Nat.reduceSub,Int.reduceToNat,lvP,List.map_replicate, *]
 intro k hk;by_cases h0:k<pats.length
 ·have hpk:=hpa k h0
  have happ:=anx (p:=pats[k]?.getD .empty) (jW hpk).2;obtain⟨g1,g2,g3⟩:=lI (pats[k]?.getD .empty);have hps:=(jW hpk).2;have hnx:lvP w pats (k+1)=lvA d w.size (bV (pats[k]?.getD .empty)) (dH (pats[k]?.getD .empty)) (lvP w pats k) (w.size+3-(bV (pats[k]?.getD .empty)).size):=by rw[lvP,hdd]
  have ho:=hlo k;replace hnx:=Lib.hid hnx;clear hpa hlo hpk;generalize hp9:pats[k]?.getD ByteArray.empty=p at*;generalize bV p=lt at*;generalize dH p=lv at*;generalize lvP w pats k=o at*;have hA:=fun a=>(ho.lvA (d:=d) (lt:=lt) (lv:=lv) g3 a);(refine wlk ?_;intros);refine aD (α:=Nat) mixed (fun a=>[(0,.val (.string w)),(5,.val (.string d)),(6,.row 0 1 0 (w.size+1)),(22,.lst false 1 (pats.map fun s=> .val (.string s))),(23,iv pats.length),(24,iv k),(9,.val (.string lt)),(10,.lst true 1 (lv.map pvN)),(11,iv a)])
   (fun a=>[(0,3,1,(lvA d w.size lt lv o a).map pvN)]) (fun _=>1)
   (fun a=>a≤w.size+3-lt.size) (fun a=>w.size+3-lt.size-a) (by kernel_rfl) 0 (Nat.zero_le _) ?_ ?_ rfl ?_
  ·exact agr
  ·simp(disch:=(first|omega|(simp only[push_cast];first|done|omega))) only[push_cast,↓reduceIte,Nat.reduceEqDiff,Nat.reduceBEq,Nat.reduceAdd,Nat.reduceSub,Int.reduceToNat,lvA, *]
  intro a ha;by_cases ha0:a<w.size+3-lt.size
  ·obtain⟨oa1,oa2⟩:=hA a
   have hJ:=fun j=>((hA a).lvJ (a:=a) (lv:=lv) g3 j);clear hA ho happ;by_cases hm:d.extract a (a+lt.size)=lt
   ·have hn:=afh (sz:=w.size) (lv:=lv) (o:=o) hm
    replace hn:=Lib.hid hn;replace hm:=Lib.hid hm;generalize lvA d w.size lt lv o a=oa at*;have hm:=hm.out;(refine wlk ?_;intros);clear hm;refine aD (α:=Nat) mixed (fun j=>[(0,.val (.string w)),(5,.val (.string d)),(6,.row 0 1 0 (w.size+1)),(22,.lst false 1 (pats.map fun s=> .val (.string s))),(23,iv pats.length),(24,iv k),(9,.val (.string lt)),(10,.lst true 1 (lv.map pvN)),(11,iv a),(51,.lst true 1 (lv.map pvN)),(52,iv lv.length),(53,iv j)])
     (fun j=>[(0,3,1,(lvJ w.size a lv oa j).map pvN)]) (fun _=>1)
     (fun j=>j≤lv.length) (fun j=>lv.length-j) (by kernel_rfl) 0 (Nat.zero_le _) ?_ ?_ rfl ?_
    ·exact agr
    ·simp(disch:=(first|omega|(simp only[push_cast];first|done|omega))) only[push_cast,↓reduceIte,Nat.reduceEqDiff,Nat.reduceBEq,Nat.reduceAdd,Nat.reduceSub,Int.reduceToNat,lvJ, *]
    intro j hj;by_cases hj0:j<lv.length
    ·obtain⟨oj1,oj2⟩:=hJ j
     clear hJ;have hs:lvJ w.size a lv oa (j+1)=zC w.size a j lv (lvJ w.size a lv oa j):=rfl;have hg3:=g3 j;by_cases hin:1≤a+j∧a+j≤w.size+1
     ·rw[aco hin.1 hin.2]at hs
      replace hs:=Lib.hid hs;have api1:inB ((a:Int)+j-1) 0 w.size=true:=aB.2 ⟨by omega,by omega⟩;have hti:((a:Int)+j-1).toNat=a+j-1:=by omega
      generalize lvJ w.size a lv oa j=oj at*;(refine wlk ?_;intros);refine⟨j+1,by omega,by dsimp only;omega,?_,?_,rfl⟩
      ·exact agr
      ·dsimp only
       rw[hs.out];exact agr
     ·rw[xL hin]at hs
      replace hs:=Lib.hid hs;have api1:inB ((a:Int)+j-1) 0 w.size=false:=Bool.eq_false_iff.2 fun q=>by have:=aB.1 q;omega
      generalize lvJ w.size a lv oa j=oj at*;(refine wlk ?_;intros);refine⟨j+1,by omega,by dsimp only;omega,?_,?_,rfl⟩
      ·exact agr
      ·dsimp only
       rw[hs.out];exact agr
    ·obtain rfl:j=lv.length:=by omega
     clear hJ;(refine wlk ?_;intros);refine⟨a+1,by omega,by dsimp only;omega,?_,?_,rfl⟩
     ·exact agr
     ·dsimp only
      rw[hn.out];exact agr
   ·have hn:=acj (sz:=w.size) (lv:=lv) (o:=o) hm
    replace hn:=Lib.hid hn;generalize lvA d w.size lt lv o a=oa at*;(refine wlk ?_;intros);refine⟨a+1,by omega,by dsimp only;omega,?_,?_,rfl⟩
    ·exact agr
    ·dsimp only
     rw[hn.out];exact agr
  ·have hae:a=w.size+3-lt.size:=by omega
   clear hA ho happ;rw[←hae]at hnx;generalize lvA d w.size lt lv o a=oa at*;clear hae;(refine wlk ?_;intros);refine⟨k+1,by omega,by dsimp only;omega,?_,?_,rfl⟩
   ·exact agr
   ·dsimp only
    rw[hnx.out];exact agr
 ·obtain rfl:k=pats.length:=by omega
  obtain⟨o1,o2⟩:=hlo pats.length;clear hlo hpa;generalize lvP w pats pats.length=o at*;exact wlkF
def ahE:Ctx:={fn:=aZ [(51,fG),(34,eZ),(91,ajf)],io:=aZ []}
theorem ahC:au Try.prog ahE:=okΓ (fC Try.func51 eG (fC Try.func34 cK (fC Try.func91 ac4 aj))) aj
def tV:=ah (Γ:=ahE) (f:=51) (φ:=fG) rfl
def tX:=ah (Γ:=ahE) (f:=34) (φ:=eZ) rfl
def uN:=ah (Γ:=ahE) (f:=91) (φ:=ajf) rfl
theorem agL:Sound Try.prog 83 φLv:=by
 refine jM mixed ahC Try.func83 rfl 16 rfl [.tmp 4] rfl (by kernel_rfl) fun ps r hr=>?_;obtain⟨w,pats,rfl,hpre,rfl⟩:=fQ hr;refine⟨by simp,?_⟩;simp only[dIs,dUs,dSs,bQ,bU,bP,bT,aL,bS,aQ,aO,aR,aP];have ap1:=gH (s:=w) (by omega);have ap2:=gu hpre.2;have apl:=fun h=>aiF (w:=w) (pats:=pats) h;unfold nS p9;unfold p9 at apl;cases hw:cu w with
 |false=>
  rw[hw]at ap1;clear apl hpre hw;rw[Bool.false_and,if_neg (by decide)];have glvi2_c51:=tV;have glvi2_c34:=tX;have glvi2_c91:=uN;(refine wlk ?_;intros);all_goals((with_reducible apply dA (by first|exact .inl rfl|exact .inr rfl));(simp(disch:=(first|omega|(simp only[push_cast];first|done|omega))) only[push_cast,↓reduceIte,Nat.reduceEqDiff,Nat.reduceBEq,Nat.reduceAdd,Nat.reduceSub,Int.reduceToNat, *]<;>with_reducible exact rfl))
  all_goals exact nil_le _ _
 |true=>
  cases hp:bq pats with
  |false=>
   rw[hw]at ap1;rw[hp]at ap2;clear apl hpre hw hp;rw[Bool.and_false,if_neg (by decide)];have glvi2_c51:=tV;have glvi2_c34:=tX;have glvi2_c91:=uN;(refine wlk ?_;intros);all_goals((with_reducible apply dA (by first|exact .inl rfl|exact .inr rfl));(simp(disch:=(first|omega|(simp only[push_cast];first|done|omega))) only[push_cast,↓reduceIte,Nat.reduceEqDiff,Nat.reduceBEq,Nat.reduceAdd,Nat.reduceSub,Int.reduceToNat, *]<;>with_reducible exact rfl))
   all_goals exact nil_le _ _
  |true=>
   have apl:=apl (by rw[hw,hp];rfl);rw[hw]at ap1;rw[hp]at ap2;clear hpre hw hp;rw[Bool.and_true,if_pos rfl];have glvi2_c51:=tV;have glvi2_c34:=tX;have glvi2_c91:=uN;(refine wlk ?_;intros);all_goals((with_reducible apply dA (by first|exact .inl rfl|exact .inr rfl));(simp(disch:=(first|omega|(simp only[push_cast];first|done|omega))) only[push_cast,↓reduceIte,Nat.reduceEqDiff,Nat.reduceBEq,Nat.reduceAdd,Nat.reduceSub,Int.reduceToNat, *]<;>with_reducible exact rfl))
   all_goals exact PV.le_refl _
def anF:Ctx:={fn:=aZ [(40,fG),(28,eZ),(81,φPl),(82,φPv),(29,φIn)],io:=aZ []}
theorem aly:au Try.prog anF:=okΓ (fC Try.func40 eF (fC Try.func28 cO (fC Try.func81 afF (fC Try.func82 aeL (fC Try.func29 iJ aj))))) aj
def aam:=ah (Γ:=anF) (f:=40) (φ:=fG) rfl
def zI:=ah (Γ:=anF) (f:=28) (φ:=eZ) rfl
def aaK:=ah (Γ:=anF) (f:=81) (φ:=φPl) rfl
def zk:=ah (Γ:=anF) (f:=82) (φ:=φPv) rfl
def zY:=ah (Γ:=anF) (f:=29) (φ:=φIn) rfl
theorem ahb:Sound Try.prog 64 φLv:=by
 refine ak mixed aly Try.func64 rfl 90 rfl [.tmp 4] rfl (by kernel_rfl) fun ps r hr=>?_;obtain⟨w,pats,rfl,hpre,rfl⟩:=fQ hr;refine⟨by simp,?_⟩;simp only[dIs,dUs,dSs,bQ,bU,bP,bT,aL,bS,aQ,aO,aR,aP];have ap1:=gH (s:=w) (by omega);have ap2:=gu hpre.2;unfold nS p9;cases hw:cu w with
 |false=>rw[hw]at ap1;clear hpre hw;rw[Bool.false_and,if_neg (by decide)];have glvs_c40:=aam;have glvs_c28:=zI;have glvs_c81:=aaK;have glvs_c82:=zk;have glvs_c29:=zY;exact wlkF
 |true=>
 cases hp:bq pats with
 |false=>rw[hw]at ap1;rw[hp]at ap2;clear hpre hw hp;rw[Bool.and_false,if_neg (by decide)];have glvs_c40:=aam;have glvs_c28:=zI;have glvs_c81:=aaK;have glvs_c82:=zk;have glvs_c29:=zY;exact wlkF
 |true=>
 rw[hw]at ap1;rw[hp]at ap2;rw[Bool.and_true,if_pos rfl];obtain⟨-,hw1,hw2⟩:=aS hw;have hpl:=abk hp;have hpa:=fun k hk=>aeF hp (k:=k) hk;have hds:=wV w;have hlo:=xD w pats;have hd0:alH w=(⟨#[46]⟩++w)++⟨#[46]⟩:=rfl;have h46:(⟨#[46]⟩:ByteArray).size=1:=rfl;have api:=bO;unfold gL;clear hw hp hpre;have glvs_c40:=aam;have glvs_c28:=zI;have glvs_c81:=aaK;have glvs_c82:=zk;have glvs_c29:=zY;(refine wlk ?_;intros);rw[←hd0];clear hd0 h46;generalize hdd:alH w=d at*;refine aD (α:=Nat) mixed (fun k=>[(0,.val (.string w)),(1,.lst false 1 (pats.map fun s=> .val (.string s))),(5,.row 0 1 0 (w.size+1)),(6,.val (.string d)),(7,iv k)])
  (fun k=>[(0,3,1,(lvP w pats k).map pvN)]) (fun _=>1)
  (fun k=>k≤pats.length) (fun k=>pats.length-k) (by kernel_rfl) 0 (Nat.zero_le _) ?_ ?_ rfl ?_
 ·exact agr
 ·simp(disch:=(first|omega|(simp only[push_cast];first|done|omega))) only[push_cast,↓reduceIte,Nat.reduceEqDiff,Nat.reduceBEq,Nat.reduceAdd,Nat.reduceSub,Int.reduceToNat,lvP,List.map_replicate, *]
 intro k hk;by_cases h0:k<pats.length
 ·have hpk:=hpa k h0
  have hap1:=amW hpk;have hap2:=amS hpk;obtain⟨g1,g2,g3⟩:=lI (pats[k]?.getD .empty);have hps:=(jW hpk).2;have hnx:lvP w pats (k+1)=lvA d w.size (bV (pats[k]?.getD .empty)) (dH (pats[k]?.getD .empty)) (lvP w pats k) (w.size+3-(bV (pats[k]?.getD .empty)).size):=by rw[lvP,hdd]
  have ho:=hlo k;replace hnx:=Lib.hid hnx;clear hpa hlo hpk;generalize hp9:pats[k]?.getD ByteArray.empty=p at*;generalize bV p=lt at*;generalize dH p=lv at*;generalize lvP w pats k=o at*;have hA:=fun a=>(ho.lvA (d:=d) (lt:=lt) (lv:=lv) g3 a);(refine wlk ?_;intros);refine aD (α:=Nat) mixed (fun a=>[(0,.val (.string w)),(1,.lst false 1 (pats.map fun s=> .val (.string s))),(5,.row 0 1 0 (w.size+1)),(6,.val (.string d)),(7,iv k),(8,.val (.string lt)),(9,.lst true 1 (lv.map pvN)),(10,iv a)])
   (fun a=>[(0,3,1,(lvA d w.size lt lv o a).map pvN)]) (fun _=>1)
   (fun a=>a≤w.size+3-lt.size) (fun a=>w.size+3-lt.size-a) (by kernel_rfl) 0 (Nat.zero_le _) ?_ ?_ rfl ?_
  ·exact agr
  ·simp(disch:=(first|omega|(simp only[push_cast];first|done|omega))) only[push_cast,↓reduceIte,Nat.reduceEqDiff,Nat.reduceBEq,Nat.reduceAdd,Nat.reduceSub,Int.reduceToNat,lvA, *]
  intro a ha;by_cases ha0:a<w.size+3-lt.size
  ·obtain⟨oa1,oa2⟩:=hA a
   have hJ:=fun j=>((hA a).lvJ (a:=a) (lv:=lv) g3 j);clear hA ho hap1 hap2;by_cases hm:d.extract a (a+lt.size)=lt
   ·have hn:=afh (sz:=w.size) (lv:=lv) (o:=o) hm
    replace hn:=Lib.hid hn;replace hm:=Lib.hid hm;generalize lvA d w.size lt lv o a=oa at*;have hm:=hm.out;(refine wlk ?_;intros);clear hm;refine aD (α:=Nat) mixed (fun j=>[(0,.val (.string w)),(1,.lst false 1 (pats.map fun s=> .val (.string s))),(5,.row 0 1 0 (w.size+1)),(6,.val (.string d)),(7,iv k),(8,.val (.string lt)),(9,.lst true 1 (lv.map pvN)),(10,iv a),(11,iv j)])
     (fun j=>[(0,3,1,(lvJ w.size a lv oa j).map pvN)]) (fun _=>1)
     (fun j=>j≤lv.length) (fun j=>lv.length-j) (by kernel_rfl) 0 (Nat.zero_le _) ?_ ?_ rfl ?_
    ·exact agr
    ·simp(disch:=(first|omega|(simp only[push_cast];first|done|omega))) only[push_cast,↓reduceIte,Nat.reduceEqDiff,Nat.reduceBEq,Nat.reduceAdd,Nat.reduceSub,Int.reduceToNat,lvJ, *]
    intro j hj;by_cases hj0:j<lv.length
    ·obtain⟨oj1,oj2⟩:=hJ j
     clear hJ;have hs:lvJ w.size a lv oa (j+1)=zC w.size a j lv (lvJ w.size a lv oa j):=rfl;have hg3:=g3 j;by_cases hin:1≤a+j∧a+j≤w.size+1
     ·rw[aco hin.1 hin.2]at hs
      replace hs:=Lib.hid hs;have api1:inB ((a:Int)+j-1) 0 w.size=true:=aB.2 ⟨by omega,by omega⟩;have hti:((a:Int)+j-1).toNat=a+j-1:=by omega
      generalize lvJ w.size a lv oa j=oj at*;(refine wlk ?_;intros);refine⟨j+1,by omega,by dsimp only;omega,?_,?_,rfl⟩
      ·exact agr
      ·dsimp only
       rw[hs.out];exact agr
     ·rw[xL hin]at hs
      replace hs:=Lib.hid hs;have api1:inB ((a:Int)+j-1) 0 w.size=false:=Bool.eq_false_iff.2 fun q=>by have:=aB.1 q;omega
      generalize lvJ w.size a lv oa j=oj at*;(refine wlk ?_;intros);refine⟨j+1,by omega,by dsimp only;omega,?_,?_,rfl⟩
      ·exact agr
      ·dsimp only
       rw[hs.out];exact agr
    ·obtain rfl:j=lv.length:=by omega
     clear hJ;(refine wlk ?_;intros);refine⟨a+1,by omega,by dsimp only;omega,?_,?_,rfl⟩
     ·exact agr
     ·dsimp only
      rw[hn.out];exact agr
   ·have hn:=acj (sz:=w.size) (lv:=lv) (o:=o) hm
    replace hn:=Lib.hid hn;generalize lvA d w.size lt lv o a=oa at*;(refine wlk ?_;intros);refine⟨a+1,by omega,by dsimp only;omega,?_,?_,rfl⟩
    ·exact agr
    ·dsimp only
     rw[hn.out];exact agr
  ·have hae:a=w.size+3-lt.size:=by omega
   clear hA ho hap1 hap2;rw[←hae]at hnx;generalize lvA d w.size lt lv o a=oa at*;clear hae;(refine wlk ?_;intros);refine⟨k+1,by omega,by dsimp only;omega,?_,?_,rfl⟩
   ·exact agr
   ·dsimp only
    rw[hnx.out];exact agr
 ·obtain rfl:k=pats.length:=by omega
  obtain⟨o1,o2⟩:=hlo pats.length;clear hlo hpa;generalize lvP w pats pats.length=o at*;exact wlkF
def ow (w:ByteArray) (pats:LS):List Int:=if p9 w pats=true then jy w pats else []
def φPc:Fun:=F2 dS dSs fun w pats=>if ahU w pats then some (.lst true 1 ((ow w pats).map fun n=> .val (.int .i64 n)))else none
theorem aeQ {w:ByteArray} {pats:LS} (h:ahU w pats):φPc [.val (.string w),.lst false 1 (pats.map fun s=> .val (.string s))]=some (.lst true 1 ((ow w pats).map fun n=> .val (.int .i64 n))):=(gD (A:=dS) (B:=dSs) w pats).trans (if_pos h)
abbrev LI:=List Int
theorem lY {T sz x:Nat} {es:List PV}:iT (lo (nO T sz es x)) (nO T sz es x):=by
 cases es with
 |nil=>trivial
 |cons e es=>show iT (lo [_]) [_];simp only[push_cast]
theorem ajZ {sz:Nat} {lv:List Int} {k:Nat} (h:¬(2≤k∧k+3≤sz∧lv[k]?.getD 0 % 2=1)):plB sz lv k=false:=decide_eq_false h
theorem agT {sz:Nat} {lv:List Int} {k:Nat} (h:2≤k∧k+3≤sz∧lv[k]?.getD 0 % 2=1):plB sz lv k=true:=decide_eq_true h
def at6:Ctx:={fn:=aZ [(83,φLv),(35,φIn)],io:=aZ []}
theorem akO:au Try.prog at6:=okΓ (fC Try.func83 agL (fC Try.func35 vY aj)) aj
def ag3:=ah (Γ:=at6) (f:=83) (φ:=φLv) rfl
def afS:=ah (Γ:=at6) (f:=35) (φ:=φIn) rfl
theorem afI:Sound Try.prog 67 φPc:=by
 refine jM mixed akO Try.func67 rfl 33 rfl [.tmp 4] rfl (by kernel_rfl) fun ps r hr=>?_;obtain⟨w,pats,rfl,hpre,rfl⟩:=fQ hr;refine⟨by simp,?_⟩;simp only[dIs,dUs,dSs,bQ,bU,bP,bT,aL,bS,aQ,aO,aR,aP];have apl:=agS hpre;have api:=bO;unfold nS at apl;unfold ow;cases hB:p9 w pats with
 |false=>
  rw[hB,if_neg (by decide)]at apl;rw[if_neg (by decide)];clear hB hpre;have gpci_c83:=ag3;have gpci_c35:=afS;(refine wlk ?_;intros);refine aD (α:=Unit) mixed (fun _=>[(5,.val (.slice none 0 0)),(10,.lst true 1 []),(11,iv 0),(12,iv 0)]) (fun _=>[]) (fun _=>0) (fun _=>True) (fun _=>0) (by kernel_rfl) () trivial ?_ ?_ rfl ?_
  ·exact agr
  ·exact agr
  rintro⟨⟩-;(refine wlk ?_;intros);all_goals((with_reducible apply dA (by first|exact .inl rfl|exact .inr rfl));(simp(disch:=(first|omega|(simp only[push_cast];first|done|omega))) only[push_cast,↓reduceIte,Nat.reduceEqDiff,Nat.reduceBEq,Nat.reduceAdd,Nat.reduceSub,Int.reduceToNat, *]<;>with_reducible exact rfl))
  all_goals exact nil_le _ _
 |true=>
  rw[hB,if_pos rfl]at apl;rw[if_pos rfl];obtain⟨-,hw1,hw2⟩:=aS (jl.1 hB).1;obtain⟨l1,l2⟩:=xD w pats pats.length;unfold jy;have he:gL w pats=lvP w pats pats.length:=rfl;rw[he]at apl⊢;generalize lvP w pats pats.length=lv at*;clear hB hpre he;have hP0:plK w.size lv 0=[]:=rfl;have hPl:=agH w.size lv;have gpci_c83:=ag3;have gpci_c35:=afS;(refine wlk ?_;intros);refine aD (α:=Nat×LI×Nat×Nat) mixed (fun z=>[(0,.val (.string w)),(5,nP 1 (z.2.1.map pvN) z.2.2.1),(10,.lst true 1 (lv.map pvN)),(11,iv lv.length),(12,iv z.1)])
   (fun z=>nO 3 1 (z.2.1.map pvN) z.2.2.1) (fun z=>z.2.2.2)
   (fun z=>z.1≤lv.length∧z.2.1=plK w.size lv z.1∧(0<z.2.1.length→z.2.2.1<z.2.2.2)) (fun z=>lv.length-z.1) (by kernel_rfl) (0,[],0,0) ⟨Nat.zero_le _,rfl,by simp⟩ ?_ ?_ rfl ?_
  ·exact agr
  ·exact agr
  rintro⟨k,out,x,y⟩ ⟨hk,hI,hxy⟩;dsimp only at hk hI hxy;have hol:out.length≤22:=by rw[hI];have:=hPl k;omega
  clear hPl hP0;by_cases h0:k<lv.length
  ·have hlk:=l2 k
   by_cases hc:2≤k∧k+3≤w.size∧lv[k]?.getD 0 % 2=1
   ·have hI2:out++[(k:Int)]=plK w.size lv (k+1):=by rw[aas (agT hc),←hI]
    replace hI2:=Lib.hid hI2;obtain⟨c1,c2,c3⟩:=hc;have api1:inB (k:Int) 2 ((w.size:Int)-3)=true:=aB.2 ⟨by omega,by omega⟩;clear hI l2;by_cases hz:out.length=0
    ·obtain rfl:out=[]:=List.eq_nil_of_length_eq_zero hz
     (refine wlk ?_;intros);refine⟨(k+1,[]++[(k:Int)],y+1,y+2),⟨by dsimp only;omega,hI2.out,fun _=>by dsimp only;omega⟩,by dsimp only;omega,?_,?_,rfl⟩
     ·exact agr
     ·exact agr
    ·have hxy:=hxy (by omega)
     have hap:0<(out.map pvN).length:=by rw[List.length_map];omega
     clear hz;have hap3:0<((out++[(k:Int)]).map pvN).length:=by simp
     simp only[aF hap,aG hap,List.length_map];(refine wlk ?_;intros);refine⟨(k+1,out++[(k:Int)],y+1,y+2),⟨by dsimp only;omega,hI2.out,fun _=>by dsimp only;omega⟩,by dsimp only;omega,?_,?_,rfl⟩
     ·simp(disch:=(first|omega|(simp only[push_cast];first|done|omega))) only[push_cast,↓reduceIte,Nat.reduceEqDiff,Nat.reduceBEq,Nat.reduceAdd,Nat.reduceSub,Int.reduceToNat,aF hap3,List.length_append, *]
     ·simp(disch:=(first|omega|(simp only[push_cast];first|done|omega))) only[push_cast,↓reduceIte,Nat.reduceEqDiff,Nat.reduceBEq,Nat.reduceAdd,Nat.reduceSub,Int.reduceToNat,aG hap3, *]
   ·have hI2:out=plK w.size lv (k+1):=by rw[sJ (ajZ hc),←hI]
    replace hI2:=Lib.hid hI2;clear hI l2;by_cases c3:lv[k]?.getD 0 % 2=1
    ·have api1:inB (k:Int) 2 ((w.size:Int)-3)=false:=Bool.eq_false_iff.2 fun q=>by have:=aB.1 q;omega
     clear hc;(refine wlk ?_;intros);refine⟨(k+1,out,x,y),⟨by dsimp only;omega,hI2.out,hxy⟩,by dsimp only;omega,?_,lY,rfl⟩
     ·exact agr
    ·clear hc
     (refine wlk ?_;intros);refine⟨(k+1,out,x,y),⟨by dsimp only;omega,hI2.out,hxy⟩,by dsimp only;omega,?_,lY,rfl⟩
     ·exact agr
  ·obtain rfl:k=lv.length:=by omega
   rw[←l1,←hI];clear hI l2;by_cases hz:out.length=0
   ·obtain rfl:out=[]:=List.eq_nil_of_length_eq_zero hz
    (refine wlk ?_;intros);all_goals((with_reducible apply dA (by first|exact .inl rfl|exact .inr rfl));(simp(disch:=(first|omega|(simp only[push_cast];first|done|omega))) only[push_cast,↓reduceIte,Nat.reduceEqDiff,Nat.reduceBEq,Nat.reduceAdd,Nat.reduceSub,Int.reduceToNat, *]<;>with_reducible exact rfl))
    all_goals exact nil_le _ _
   ·have hxy:=hxy (by omega)
    have hap:0<(out.map pvN).length:=by rw[List.length_map];omega
    clear hz;simp only[aF hap,aG hap,List.length_map];(refine wlk ?_;intros);all_goals((with_reducible apply dA (by first|exact .inl rfl|exact .inr rfl));(simp(disch:=(first|omega|(simp only[push_cast];first|done|omega))) only[push_cast,↓reduceIte,Nat.reduceEqDiff,Nat.reduceBEq,Nat.reduceAdd,Nat.reduceSub,Int.reduceToNat, *]<;>with_reducible exact rfl))
    all_goals exact PV.le_refl _
def aut:Ctx:={fn:=aZ [(64,φLv)],io:=aZ []}
theorem alf:au Try.prog aut:=okΓ (fC Try.func64 ahb aj) aj
def aeM:=ah (Γ:=aut) (f:=64) (φ:=φLv) rfl
theorem ahe:Sound Try.prog 50 φPc:=by
 refine ak mixed alf Try.func50 rfl 30 rfl [.tmp 4] rfl (by kernel_rfl) fun ps r hr=>?_;obtain⟨w,pats,rfl,hpre,rfl⟩:=fQ hr;refine⟨by simp,?_⟩;simp only[dIs,dUs,dSs,bQ,bU,bP,bT,aL,bS,aQ,aO,aR,aP];have apl:=agS hpre;unfold nS at apl;unfold ow;cases hB:p9 w pats with
 |false=>
  rw[hB,if_neg (by decide)]at apl;rw[if_neg (by decide)];clear hB hpre;have gpcs_c64:=aeM;(refine wlk ?_;intros);refine aD (α:=Unit) mixed (fun _=>[(5,.row 0 1 0 0),(6,.lst true 1 []),(7,iv 2)]) (fun _=>[(0,3,1,[])]) (fun _=>1) (fun _=>True) (fun _=>0) (by kernel_rfl) () trivial ?_ ?_ rfl ?_
  ·exact agr
  ·exact agr
  rintro⟨⟩-;exact wlkF
 |true=>
  rw[hB,if_pos rfl]at apl;rw[if_pos rfl];obtain⟨-,hw1,hw2⟩:=aS (jl.1 hB).1;obtain⟨l1,l2⟩:=xD w pats pats.length;unfold jy;have he:gL w pats=lvP w pats pats.length:=rfl;rw[he]at apl⊢;generalize lvP w pats pats.length=lv at*;clear hB hpre he;have hP0:=@akB w.size lv;have hPl:=agH w.size lv;have hPh:∀k,w.size<k+3→k≤w.size+1→plK w.size lv (w.size+1)=plK w.size lv k:=fun k h1 h2=>by
   have:=abD (lv:=lv) h1 (w.size+1-k)
   rwa[show k+(w.size+1-k)=w.size+1 by omega]at this
  have hPs:w.size<5→plK w.size lv (w.size+1)=plK w.size lv 2:=fun h=>by rw[aia h,hP0]
  replace hP0:=Lib.hid hP0;have gpcs_c64:=aeM;(refine wlk ?_;intros);refine aD (α:=Nat×LI×Nat×Nat) mixed (fun z=>[(5,.row z.2.2.1 1 0 z.2.1.length),(6,.lst true 1 (lv.map pvN)),(7,iv z.1)])
   (fun z=>[(z.2.2.1,3,1,z.2.1.map pvN)]) (fun z=>z.2.2.2)
   (fun z=>2≤z.1∧(2<z.1→z.1+2≤w.size)∧z.2.1=plK w.size lv z.1∧z.2.2.1<z.2.2.2) (fun z=>lv.length-z.1) (by kernel_rfl) (2,[],0,1) ⟨by simp,by simp,hP0.out.symm,by simp⟩ ?_ ?_ rfl ?_
  ·exact agi
  ·exact agr
  rintro⟨k,out,x,y⟩ ⟨hk,hk2,hI,hxy⟩;dsimp only at hk hk2 hI hxy;have hol:out.length≤22:=by
   rw[hI];by_cases h2:2<k
   ·have:=hPl k;have:=hk2 h2;omega
   ·have:=hPl k;omega
  clear hPl hP0;by_cases h0:k+3<lv.length
  ·have hlk:=l2 k
   by_cases c3:lv[k]?.getD 0 % 2=1
   ·have hI2:out++[(k:Int)]=plK w.size lv (k+1):=by rw[aas (agT ⟨hk,by omega,c3⟩),←hI]
    replace hI2:=Lib.hid hI2;clear hI l2 hPh hPs;(refine wlk ?_;intros);refine⟨(k+1,out++[(k:Int)],y+1,y+2),⟨by dsimp only;omega,fun _=>by dsimp only;omega,hI2.out,by dsimp only;omega⟩,by dsimp only;omega,?_,?_,rfl⟩
    ·exact agr
    ·exact agr
   ·have hI2:out=plK w.size lv (k+1):=by rw[sJ (ajZ fun q=>c3 q.2.2),←hI]
    replace hI2:=Lib.hid hI2;clear hI l2 hPh hPs;(refine wlk ?_;intros);refine⟨(k+1,out,x,y),⟨by dsimp only;omega,fun _=>by dsimp only;omega,hI2.out,hxy⟩,by dsimp only;omega,?_,?_,rfl⟩
    ·exact agr
    ·exact agr
  ·have hfin:plK w.size lv (w.size+1)=out:=by
    rw[hI];by_cases h5:w.size<5
    ·by_cases h2:2<k
     ·have:=hk2 h2
      omega
     ·obtain rfl:k=2:=by omega
      exact hPs h5
    ·refine hPh k (by omega) ?_
     by_cases h2:2<k
     ·have:=hk2 h2;omega
     ·omega
   rw[hfin];clear hI l2 hPh hPs hfin;exact wlkF
def bH (w:ByteArray) (pats:LS):LS:=if p9 w pats=true then yS w pats else []
def φPr:Fun:=F2 dS dSs fun w pats=>if ahU w pats then some (.lst true 1 ((bH w pats).map fun s=> .val (.string s)))else none
theorem aaM {w:ByteArray} {pats:LS} (h:ahU w pats):φPr [.val (.string w),.lst false 1 (pats.map fun s=> .val (.string s))]=some (.lst true 1 ((bH w pats).map fun s=> .val (.string s))):=(gD (A:=dS) (B:=dSs) w pats).trans (if_pos h)
def ar7:Ctx:={fn:=aZ [(51,fG),(34,eZ),(67,φPc)],io:=aZ []}
theorem am8:au Try.prog ar7:=okΓ (fC Try.func51 eG (fC Try.func34 cK (fC Try.func67 afI aj))) aj
def zG:=ah (Γ:=ar7) (f:=51) (φ:=fG) rfl
def aaU:=ah (Γ:=ar7) (f:=34) (φ:=eZ) rfl
def zD:=ah (Γ:=ar7) (f:=67) (φ:=φPc) rfl
theorem agE:Sound Try.prog 53 φPr:=by
 refine jM mixed am8 Try.func53 rfl 40 rfl [.tmp 4] rfl (by kernel_rfl) fun ps r hr=>?_;obtain⟨w,pats,rfl,hpre,rfl⟩:=fQ hr;refine⟨by simp,?_⟩;simp only[dIs,dUs,dSs,bQ,bU,bP,bT,aL,bS,aQ,aO,aR,aP];have ap1:=gH (s:=w) (by omega);have ap2:=gu hpre.2;have apc:=aeQ hpre;unfold ow at apc;unfold bH;cases hw:cu w with
 |false=>
  have hB:p9 w pats=false:=by unfold p9;rw[hw];rfl
  rw[hw]at ap1;rw[hB,if_neg (by decide)];clear apc hpre hw hB;have gpri_c51:=zG;have gpri_c34:=aaU;have gpri_c67:=zD;(refine wlk ?_;intros);all_goals((with_reducible apply dA (by first|exact .inl rfl|exact .inr rfl));(simp(disch:=(first|omega|(simp only[push_cast];first|done|omega))) only[push_cast,↓reduceIte,Nat.reduceEqDiff,Nat.reduceBEq,Nat.reduceAdd,Nat.reduceSub,Int.reduceToNat, *]<;>with_reducible exact rfl))
  all_goals exact nil_le _ _
 |true=>
 cases hp:bq pats with
 |false=>
  have hB:p9 w pats=false:=by unfold p9;rw[hw,hp];rfl
  rw[hw]at ap1;rw[hp]at ap2;rw[hB,if_neg (by decide)];clear apc hpre hw hp hB;have gpri_c51:=zG;have gpri_c34:=aaU;have gpri_c67:=zD;(refine wlk ?_;intros);all_goals((with_reducible apply dA (by first|exact .inl rfl|exact .inr rfl));(simp(disch:=(first|omega|(simp only[push_cast];first|done|omega))) only[push_cast,↓reduceIte,Nat.reduceEqDiff,Nat.reduceBEq,Nat.reduceAdd,Nat.reduceSub,Int.reduceToNat, *]<;>with_reducible exact rfl))
  all_goals exact nil_le _ _
 |true=>
  have hB:p9 w pats=true:=by unfold p9;rw[hw,hp];rfl
  have hok:=mh (pats:=pats) hw;obtain⟨-,hw1,hw2⟩:=aS hw;rw[hw]at ap1;rw[hp]at ap2;rw[hB,if_pos rfl]at apc;rw[hB,if_pos rfl];unfold yS;have hfr:=qw hok hw1;generalize jy w pats=pl at*;obtain⟨hl,hat⟩:=hok;unfold ptR;have hpl:=tT w pl;clear hB hw hp hpre;have gpri_c51:=zG;have gpri_c34:=aaU;have gpri_c67:=zD;(refine wlk ?_;intros);refine aD (α:=Nat×Nat×Nat) mixed (fun z=>[(0,.val (.string w)),(5,nP 1 ((ptF w pl z.1).map pvS) z.2.1),(6,iv (frK pl z.1)),(19,.lst true 1 (pl.map pvN)),(20,iv pl.length),(21,iv z.1)])
   (fun z=>nO 9 1 ((ptF w pl z.1).map pvS) z.2.1) (fun z=>z.2.2)
   (fun z=>z.1≤pl.length∧(0<z.1→z.2.1<z.2.2)) (fun z=>pl.length-z.1) (by kernel_rfl) (0,0,0) ⟨Nat.zero_le _,by simp⟩ ?_ ?_ rfl ?_
  ·simp(disch:=(first|omega|(simp only[push_cast];first|done|omega))) only[push_cast,↓reduceIte,Nat.reduceEqDiff,Nat.reduceBEq,Nat.reduceAdd,Nat.reduceSub,Int.reduceToNat,ptF,frK,List.map_nil, *]
  ·simp(disch:=(first|omega|(simp only[push_cast];first|done|omega))) only[push_cast,↓reduceIte,Nat.reduceEqDiff,Nat.reduceBEq,Nat.reduceAdd,Nat.reduceSub,Int.reduceToNat,ptF,List.map_nil, *]
  rintro⟨k,x,y⟩ ⟨hk,hxy⟩;dsimp only at hk hxy;have hlk:=hpl k;have hfk:=hfr k hk;by_cases h0:k<pl.length
  ·obtain⟨a1,a2⟩:=hat k h0
   have hn:ptF w pl (k+1)=ptF w pl k++[w.extract (frK pl k).toNat (pl[k]?.getD 0).toNat]:=rfl;have hf:=uU pl k;replace hn:=Lib.hid hn;replace hf:=Lib.hid hf;generalize ptF w pl k=out at*;generalize frK pl k=fr at*;clear hat hpl hfr;by_cases hz:out.length=0
   ·obtain rfl:out=[]:=List.eq_nil_of_length_eq_zero hz
    (refine wlk ?_;intros);refine⟨(k+1,y+1,y+2),⟨by dsimp only;omega,fun _=>by dsimp only;omega⟩,by dsimp only;omega,?_,?_,rfl⟩
    ·dsimp only
     rw[hn.out,hf.out];exact agr
    ·dsimp only
     rw[hn.out];exact agr
   ·have hxy:=hxy (by omega)
    have hap:0<(out.map pvS).length:=by rw[List.length_map];omega
    clear hz;have hap3:0<((out++[w.extract fr.toNat (pl[k]?.getD 0).toNat]).map pvS).length:=by simp
    simp only[aF hap,aG hap,List.length_map];(refine wlk ?_;intros);refine⟨(k+1,y+1,y+2),⟨by dsimp only;omega,fun _=>by dsimp only;omega⟩,by dsimp only;omega,?_,?_,rfl⟩
    ·dsimp only
     rw[hn.out,hf.out];simp(disch:=(first|omega|(simp only[push_cast];first|done|omega))) only[push_cast,↓reduceIte,Nat.reduceEqDiff,Nat.reduceBEq,Nat.reduceAdd,Nat.reduceSub,Int.reduceToNat,aF hap3,List.length_append, *]
    ·dsimp only
     rw[hn.out];simp(disch:=(first|omega|(simp only[push_cast];first|done|omega))) only[push_cast,↓reduceIte,Nat.reduceEqDiff,Nat.reduceBEq,Nat.reduceAdd,Nat.reduceSub,Int.reduceToNat,aG hap3, *]
  ·obtain rfl:k=pl.length:=by omega
   generalize ptF w pl pl.length=out at*;generalize frK pl pl.length=fr at*;clear hat hpl hfr;by_cases hz:out.length=0
   ·obtain rfl:out=[]:=List.eq_nil_of_length_eq_zero hz
    (refine wlk ?_;intros);all_goals((with_reducible apply dA (by first|exact .inl rfl|exact .inr rfl));(simp(disch:=(first|omega|(simp only[push_cast];first|done|omega))) only[push_cast,↓reduceIte,Nat.reduceEqDiff,Nat.reduceBEq,Nat.reduceAdd,Nat.reduceSub,Int.reduceToNat, *]<;>with_reducible exact rfl))
    all_goals exact PV.le_refl _
   ·have hxy:=hxy (by omega)
    have hap:0<(out.map pvS).length:=by rw[List.length_map];omega
    clear hz;simp only[aF hap,aG hap,List.length_map];(refine wlk ?_;intros);all_goals((with_reducible apply dA (by first|exact .inl rfl|exact .inr rfl));(simp(disch:=(first|omega|(simp only[push_cast];first|done|omega))) only[push_cast,↓reduceIte,Nat.reduceEqDiff,Nat.reduceBEq,Nat.reduceAdd,Nat.reduceSub,Int.reduceToNat, *]<;>with_reducible exact rfl))
    all_goals exact PV.le_refl _
def ar1:Ctx:={fn:=aZ [(40,fG),(28,eZ),(50,φPc)],io:=aZ []}
theorem ank:au Try.prog ar1:=okΓ (fC Try.func40 eF (fC Try.func28 cO (fC Try.func50 ahe aj))) aj
def aaD:=ah (Γ:=ar1) (f:=40) (φ:=fG) rfl
def aah:=ah (Γ:=ar1) (f:=28) (φ:=eZ) rfl
def aay:=ah (Γ:=ar1) (f:=50) (φ:=φPc) rfl
theorem yw:Sound Try.prog 32 φPr:=by
 refine ak mixed ank Try.func32 rfl 48 rfl [.tmp 4] rfl (by kernel_rfl) fun ps r hr=>?_;obtain⟨w,pats,rfl,hpre,rfl⟩:=fQ hr;refine⟨by simp,?_⟩;simp only[dIs,dUs,dSs,bQ,bU,bP,bT,aL,bS,aQ,aO,aR,aP];have ap1:=gH (s:=w) (by omega);have ap2:=gu hpre.2;have apc:=aeQ hpre;unfold ow at apc;unfold bH;cases hw:cu w with
 |false=>
  have hB:p9 w pats=false:=by unfold p9;rw[hw];rfl
  rw[hw]at ap1;rw[hB,if_neg (by decide)];clear apc hpre hw hB;have gprs_c40:=aaD;have gprs_c28:=aah;have gprs_c50:=aay;exact wlkF
 |true=>
 cases hp:bq pats with
 |false=>
  have hB:p9 w pats=false:=by unfold p9;rw[hw,hp];rfl
  rw[hw]at ap1;rw[hp]at ap2;rw[hB,if_neg (by decide)];clear apc hpre hw hp hB;have gprs_c40:=aaD;have gprs_c28:=aah;have gprs_c50:=aay;exact wlkF
 |true=>
  have hB:p9 w pats=true:=by unfold p9;rw[hw,hp];rfl
  have hok:=mh (pats:=pats) hw;obtain⟨-,hw1,hw2⟩:=aS hw;rw[hw]at ap1;rw[hp]at ap2;rw[hB,if_pos rfl]at apc;rw[hB,if_pos rfl];unfold yS;have hfr:=qw hok hw1;generalize jy w pats=pl at*;obtain⟨hl,hat⟩:=hok;unfold ptR;have hpl:=tT w pl;clear hB hw hp hpre;have gprs_c40:=aaD;have gprs_c28:=aah;have gprs_c50:=aay;(refine wlk ?_;intros);refine aD (α:=Nat×Nat×Nat) mixed (fun z=>[(0,.val (.string w)),(5,.row z.2.1 1 0 (ptF w pl z.1).length),(6,.lst true 1 (pl.map pvN)),(7,iv (frK pl z.1)),(8,iv z.1)])
   (fun z=>[(z.2.1,9,1,(ptF w pl z.1).map pvS)]) (fun z=>z.2.2)
   (fun z=>z.1≤pl.length∧z.2.1<z.2.2) (fun z=>pl.length-z.1) (by kernel_rfl) (0,0,1) ⟨Nat.zero_le _,by simp⟩ ?_ ?_ rfl ?_
  ·simp(disch:=(first|omega|(simp only[push_cast];first|done|omega))) only[push_cast,↓reduceIte,Nat.reduceEqDiff,Nat.reduceBEq,Nat.reduceAdd,Nat.reduceSub,Int.reduceToNat,ptF,frK,List.length_nil, *]
  ·simp(disch:=(first|omega|(simp only[push_cast];first|done|omega))) only[push_cast,↓reduceIte,Nat.reduceEqDiff,Nat.reduceBEq,Nat.reduceAdd,Nat.reduceSub,Int.reduceToNat,ptF,List.map_nil, *]
  rintro⟨k,x,y⟩ ⟨hk,hxy⟩;dsimp only at hk hxy;have hlk:=hpl k;have hfk:=hfr k hk;by_cases h0:k<pl.length
  ·obtain⟨a1,a2⟩:=hat k h0
   have hn:ptF w pl (k+1)=ptF w pl k++[w.extract (frK pl k).toNat (pl[k]?.getD 0).toNat]:=rfl;have hf:=uU pl k;replace hn:=Lib.hid hn;replace hf:=Lib.hid hf;generalize ptF w pl k=out at*;generalize frK pl k=fr at*;clear hat hpl hfr;(refine wlk ?_;intros);refine⟨(k+1,y+1,y+2),⟨by dsimp only;omega,by dsimp only;omega⟩,by dsimp only;omega,?_,?_,rfl⟩
   ·dsimp only
    rw[hn.out,hf.out];exact agr
   ·dsimp only
    rw[hn.out];exact agr
  ·obtain rfl:k=pl.length:=by omega
   generalize ptF w pl pl.length=out at*;generalize frK pl pl.length=fr at*;clear hat hpl hfr;exact wlkF
abbrev It:=Int×Int×Int×Int×Int×Int×Bool
def it0:It:=(0,0,0,0,0,0,false)
abbrev It.kd (x:It):Int:=x.1
abbrev It.wd (x:It):Int:=x.2.1
abbrev It.st (x:It):Int:=x.2.2.1
abbrev It.sh (x:It):Int:=x.2.2.2.1
abbrev It.od (x:It):Int:=x.2.2.2.2.1
abbrev It.cost (x:It):Int:=x.2.2.2.2.2.1
abbrev It.mark (x:It):Bool:=x.2.2.2.2.2.2
abbrev It.gl (x:It):I4:=(x.2.1,x.2.2.1,x.2.2.2.1,x.2.2.2.2.1)
def glB (g:I4):Bool:=inB g.1 0 1000&&(inB g.2.1 0 1000&&(inB g.2.2.1 0 g.1&&inB g.2.2.2 0 1))
def abB (g:I4):Bool:=decide (g.2.1=0∧g.2.2.1=0∧g.2.2.2=0)
def vg (c:Int):Bool:=inB c 0 10000||decide (c=-10000)
def itB (x:It):Bool:=glB x.gl&&((decide (x.kd=1)&&(abB x.gl&&decide (x.cost=0∧x.mark=false)))||((decide (x.kd=2)&&decide (x.cost=0∧x.mark=false))||(decide (x.kd=3)&&(abB x.gl&&vg x.cost))))
def aT (l:List It):Bool:=decide (l.length≤60)&&l.all itB
structure arT (x:It):Prop where
 wd:0≤x.wd∧x.wd≤1000
 st:0≤x.st∧x.st≤1000
 sh:0≤x.sh∧x.sh≤1000
 od:x.od=0∨x.od=1
 kd:x.kd=1∨x.kd=2∨x.kd=3
 cost:(0≤x.cost∧x.cost≤10000)∨x.cost=-10000
 mark:x.mark=true→x.kd=3
theorem aoJ {x:It} (h:itB x=true):arT x:=by
 obtain⟨kd,wd,st,sh,od,cost,mark⟩:=x;simp only[itB,glB,abB,vg,It.kd,It.gl,It.cost,It.mark,Bool.and_eq_true,Bool.or_eq_true,aB,decide_eq_true_eq]at h;obtain⟨⟨h1,h2,h3,h4⟩,h5⟩:=h;refine⟨h1,h2,⟨h3.1,show sh≤1000 by omega⟩,show od=0∨od=1 by omega,show kd=1∨kd=2∨kd=3 by omega,show(0≤cost∧cost≤10000)∨cost=-10000 by omega,fun hm=>?_⟩;rcases h5 with h5|h5|h5
 ·rw[h5.2.2.2]at hm;cases hm
 ·rw[h5.2.2]at hm;cases hm
 ·exact h5.1
theorem bB {l:List It} (h:aT l=true):l.length≤60:=by unfold aT at h;rw[Bool.and_eq_true]at h;exact of_decide_eq_true h.1
theorem eX {l:List It} (h:aT l=true) {k:Nat} (hk:k<l.length):arT (l[k]?.getD it0):=by unfold aT at h;rw[Bool.and_eq_true,List.all_eq_true]at h;rw[List.getElem?_eq_getElem hk,Option.getD_some];exact aoJ (h.2 _ (List.getElem_mem hk))
abbrev gI (l:List It) (k:Nat):It:=l[k]?.getD it0
def forced (x:It):Bool:=decide (x.kd=3∧x.cost=-10000)
def lH (l:List It) (n:Nat):Bool:=if(gI l n).kd=2 then decide (0<n∧(gI l (n-1)).kd=1)else decide ((gI l n).kd=3∧(gI l n).cost<10000)
def stN (l:List It):Nat→Nat→Nat
 |0,n=>n
 |f+1,n=>if n<l.length∧¬(gI l n).kd=1∧forced (gI l n)=false then stN l f (n+1)else n
def ay (l:List It) (a:Nat):Nat:=stN l (l.length-a) a
theorem arh {l:List It} {a:Nat} (h:a<l.length) (h1:¬(gI l a).kd=1) (h2:forced (gI l a)=false):ay l a=ay l (a+1):=by unfold ay;rw[show l.length-a=(l.length-(a+1))+1 by omega,stN,if_pos ⟨h,h1,h2⟩]
theorem ah5 {l:List It} {a:Nat} (h:¬(a<l.length∧¬(gI l a).kd=1∧forced (gI l a)=false)):ay l a=a:=by
 unfold ay;cases hf:l.length-a with
 |zero=>rfl
 |succ f=>rw[stN,if_neg h]
theorem aez (l:List It):∀(f n:Nat),n≤stN l f n∧(n≤l.length→stN l f n≤l.length)
 |0,n=>⟨Nat.le_refl _,fun h=>h⟩
 |f+1,n=>by
  unfold stN;split
  ·rename_i hc
   have:=aez l f (n+1);exact⟨by omega,fun _=>this.2 (by omega)⟩
  ·exact⟨Nat.le_refl _,fun h=>h⟩
theorem tF {l:List It} {a:Nat}:a≤ay l a∧(a≤l.length→ay l a≤l.length):=aez l _ a
def oP (l:List It) (a b:Nat):Bool:=(List.range (b-a)).all fun i=> !forced (gI l (a+i))
theorem vB {l:List It} {a b:Nat} (h:b≤a):oP l a b=true:=by unfold oP;rw[show b-a=0 by omega];rfl
theorem qH {l:List It} {a b:Nat} (h:a≤b):oP l a (b+1)=(oP l a b&& !forced (gI l b)):=by unfold oP;rw[show b+1-a=(b-a)+1 by omega,List.range_succ,List.all_append];simp[show a+(b-a)=b by omega]
theorem aac {l:List It} {a b k:Nat} (h:oP l a (k+1)=false) (ha:a≤k) (hk:k<b):oP l a b=false:=by unfold oP at h⊢;rw[List.all_eq_false]at h⊢;obtain⟨i,hi,h1⟩:=h;have:=List.mem_range.1 hi;exact⟨i,List.mem_range.2 (by omega),h1⟩
def dx (l:List It) (a en:Nat):Bool:=decide (a≤en∧en<l.length)&&(lH l en&&((decide (a=0)||lH l (a-1))&&(decide (ay l a≤en)&&oP l a en)))
theorem eD {l:List It} {a en:Nat}:dx l a en=true↔(a≤en∧en<l.length)∧lH l en=true∧(a=0∨lH l (a-1)=true)∧ay l a≤en∧oP l a en=true:=by simp[dx]
def kW (l:List It) (b c:Nat):List Int:=((List.range (c-b)).filter fun i=> !decide ((gI l (b+i)).kd=3)).map fun i:Nat=>((b+i:Nat):Int)
theorem qb {l:List It} {b c:Nat} (h:c≤b):kW l b c=[]:=by unfold kW;rw[show c-b=0 by omega];rfl
theorem mV {l:List It} {b c:Nat} (h:b≤c) (hk:¬(gI l c).kd=3):kW l b (c+1)=kW l b c++[(c:Int)]:=by unfold kW;rw[show c+1-b=(c-b)+1 by omega,List.range_succ,List.filter_append,List.map_append];simp[show b+(c-b)=c by omega,hk];omega
theorem vw {l:List It} {b c:Nat} (h:b≤c) (hk:(gI l c).kd=3):kW l b (c+1)=kW l b c:=by unfold kW;rw[show c+1-b=(c-b)+1 by omega,List.range_succ,List.filter_append,List.map_append];simp[show b+(c-b)=c by omega,hk]
theorem ny (l:List It) (b c:Nat):(kW l b c).length≤c-b:=by unfold kW;rw[List.length_map];exact Nat.le_trans (List.length_filter_le _ _) (by simp)
theorem pF {l:List It} {b c:Nat}:∀x∈kW l b c,(b:Int)≤x∧x<c∧¬(gI l x.toNat).kd=3:=fun x hx=>by obtain⟨i,hi,rfl⟩:=List.mem_map.1 hx;obtain⟨h1,h2⟩:=List.mem_filter.1 hi;have h3:=List.mem_range.1 h1;refine⟨by omega,by omega,?_⟩;rw[Int.toNat_natCast];simpa using h2
def g40:I4:=(0,0,0,0)
def zn (a b:I4):I4:=
 let oa:=if a.2.1=0 then 0 else a.2.2.2
 let ob:=if b.2.1=0 then 0 else b.2.2.2
 let o:=max oa ob
 (a.1+b.1,(if oa=o then a.2.1 else 0)+(if ob=o then b.2.1 else 0),a.2.2.1+b.2.2.1,o)
def iA (gs:List I4):I4:=gs.foldl zn g40
theorem mD (gs:List I4) (g:I4):iA (gs++[g])=zn (iA gs) g:=by simp[iA,List.foldl_append]
def rT (gs:List I4):Int:=if gs.any (fun g=>decide (g.2.2.2=1∧0<g.2.1))=true then 1 else 0
def jE (gs:List I4) (o:Int):I4:=gs.foldl (fun t g=>(t.1+g.1,(if g.2.2.2=o then t.2.1+g.2.1 else t.2.1),t.2.2.1+g.2.2.1,o)) (0,0,0,o)
theorem eY (gs:List I4) (g:I4) (o:Int):jE (gs++[g]) o=((jE gs o).1+g.1,(if g.2.2.2=o then(jE gs o).2.1+g.2.1 else(jE gs o).2.1),(jE gs o).2.2.1+g.2.2.1,o):=by simp[jE,List.foldl_append]
theorem afW:∀(gs:List I4) (o:Int),(jE gs o).2.2.2=o:=fun gs o=>by
 rcases List.eq_nil_or_concat gs with h|⟨l,x,h⟩
 ·subst h;rfl
 ·rw[List.concat_eq_append]at h
  subst h;rw[eY]
structure GOk (g:I4):Prop where
 wd:0≤g.1∧g.1≤1000
 st:0≤g.2.1∧g.2.1≤1000
 sh:0≤g.2.2.1∧g.2.2.1≤1000
 od:g.2.2.2=0∨g.2.2.2=1
theorem arT.gl {x:It} (h:arT x):GOk x.gl:=⟨h.wd,h.st,h.sh,h.od⟩
theorem xI (gs:List I4) (g:I4):rT (gs++[g])=if rT gs=1∨(g.2.2.2=1∧0<g.2.1)then 1 else 0:=by
 unfold rT;rw[List.any_append];cases h:gs.any (fun g=>decide (g.2.2.2=1∧0<g.2.1))with
 |true=>simp
 |false=>simp
theorem af9 (gs:List I4):rT gs=0∨rT gs=1:=by
 unfold rT;split
 ·exact .inr rfl
 ·exact .inl rfl
theorem gT {α:Type} {p:List α→Prop} (h0:p []) (h1:∀l x,p l→p (l++[x])):∀l,p l:=fun l=>by
 have key:∀n,∀l:List α,l.length=n→p l:=by
  intro n
  induction n with
  |zero=>intro l h;rw[List.eq_nil_of_length_eq_zero h];exact h0
  |succ n ih=>
   intro l h;rcases List.eq_nil_or_concat l with h2|⟨l0,x,h2⟩
   ·subst h2;simp at h
   ·rw[List.concat_eq_append]at h2
    subst h2;rw[List.length_append,List.length_singleton]at h;exact h1 _ _ (ih l0 (by omega))
 exact key _ l rfl
theorem akK:∀gs:List I4,(∀g∈gs,GOk g)→iA gs=jE gs (rT gs)∧(rT gs=0→∀g∈gs,g.2.2.2=1→g.2.1=0)∧(rT gs=1→0<(iA gs).2.1)∧(rT gs=0→(jE gs 1).2.1=0):=by
 refine gT ?_ ?_
 ·intro _
  refine⟨rfl,by simp,fun h=>by simp[rT]at h,fun _=>rfl⟩
 ·intro gs g ih hg
  obtain⟨i1,i2,i3,i4⟩:=ih fun x hx=>hg x (List.mem_append.2 (.inl hx));have gk:=hg g (by simp);obtain⟨w,st,sh,od⟩:=g;obtain⟨g1,g2,g3,g4⟩:=gk;dsimp only at g1 g2 g3 g4;have hod:=afW gs (rT gs);rw[mD,xI,i1];rw[i1]at i3;rcases af9 gs with h|h
  ·rw[h]at i1 i2 i3 i4 hod⊢
   have i4:=i4 rfl;have i2:=i2 rfl;by_cases hc:od=1∧0<st
   ·have hc2:(0:Int)=1∨(od=1∧0<st):=.inr hc
    have hst:¬st=0:=by omega
    rw[if_pos hc2];refine⟨?_,fun q=>by simp at q,fun _=>?_,fun q=>by simp at q⟩
    ·rw[eY,i4]
     unfold zn;rw[hod,hc.1];have e1:((jE gs 0).1=(jE gs 1).1)∧(jE gs 0).2.2.1=(jE gs 1).2.2.1:=by clear i1 i2 i3 i4 hod hg ih;refine gT (p:=fun gs=>(jE gs 0).1=(jE gs 1).1∧(jE gs 0).2.2.1=(jE gs 1).2.2.1) ⟨rfl,rfl⟩ (fun l x hx=>?_) gs;rw[eY,eY];exact⟨by dsimp only;rw[hx.1],by dsimp only;rw[hx.2]⟩
     have hm01:max (0:Int) 1=1:=by decide
     simp[e1.1,e1.2,hst,hm01]
    ·unfold zn
     rw[hod,hc.1];simp[hst];omega
   ·have hc2:¬((0:Int)=1∨(od=1∧0<st)):=by omega
    rw[if_neg hc2];have hz:od=1→st=0:=by omega
    refine⟨?_,fun _=>?_,fun q=>by simp at q,fun _=>?_⟩
    ·rw[eY]
     unfold zn;rw[hod];by_cases hs:st=0
     ·simp[hs]
     ·have h0:od=0:=by omega
      simp[hs,h0]
    ·intro x hx
     rcases List.mem_append.1 hx with hx|hx
     ·exact i2 x hx
     ·rw[List.mem_singleton.1 hx]
      exact hz
    ·rw[eY,i4]
     dsimp only
     split
     ·rename_i h1
      rw[hz h1];rfl
     ·rfl
  ·rw[h]at i1 i3 hod⊢
   have i3:=i3 rfl;rw[if_pos (.inl rfl)];have hne:¬(jE gs 1).2.1=0:=by omega
   refine⟨?_,fun q=>by simp at q,fun _=>?_,fun q=>by simp at q⟩
   ·rw[eY]
    unfold zn;rw[hod,if_neg hne];by_cases hs:st=0
    ·simp[hs]
     omega
    ·rcases g4 with h0|h0
     ·simp[hs,h0]
      omega
     ·simp[hs,h0]
   ·unfold zn
    rw[hod,if_neg hne];dsimp only
    have:max 1 (if st=0 then(0:Int)else od)=1:=by split<;>omega
    rw[this,if_pos rfl];split<;>omega
theorem am0:∀gs:List I4,(∀g∈gs,GOk g)→(0≤(iA gs).1∧(iA gs).1≤1000*gs.length)∧(0≤(iA gs).2.1∧(iA gs).2.1≤1000*gs.length)∧(0≤(iA gs).2.2.1∧(iA gs).2.2.1≤1000*gs.length)∧((iA gs).2.2.2=0∨(iA gs).2.2.2=1):=by
 refine gT ?_ ?_
 ·intro _
  exact⟨by decide,by decide,by decide,by decide⟩
 ·intro gs g ih hg
  obtain⟨i1,i2,i3,i4⟩:=ih fun x hx=>hg x (List.mem_append.2 (.inl hx));have gk:=hg g (by simp);obtain⟨w,st,sh,od⟩:=g;obtain⟨g1,g2,g3,g4⟩:=gk;dsimp only at g1 g2 g3 g4;rw[mD,List.length_append,List.length_singleton];generalize iA gs=t at*;obtain⟨tw,ts,th,en⟩:=t;dsimp only at i1 i2 i3 i4;unfold zn;dsimp only
  push_cast
  refine⟨by omega,?_,by omega,?_⟩
  ·(repeat' split)<;>omega
  ·(repeat' split)<;>omega
def zf (need room:Int):Int:=if need=0 then 0 else if room=0∨10*room<need then 10000 else min 10000 (100*need*need*need/(room*room*room))
theorem ah9 {n r:Int} (h0:0<r) (h:5*r<n):10000≤100*n*n*n/(r*r*r):=by
 have hr:0<r*r*r:=Int.mul_pos (Int.mul_pos h0 h0) h0;rw[Int.le_ediv_iff_mul_le hr];have h1:(5*r)*(5*r)≤n*n:=Int.mul_le_mul (by omega) (by omega) (by omega) (by omega);have h2:(5*r)*(5*r)*(5*r)≤n*n*n:=Int.mul_le_mul h1 (by omega) (by omega) (Int.mul_nonneg (by omega) (by omega));have e1:(5*r)*(5*r)*(5*r)=125*(r*r*r):=by rw[show 5*r*(5*r)*(5*r)=(5*5*5)*(r*r*r) by simp only[Int.mul_assoc,Int.mul_left_comm r 5]];rfl
 have e2:100*n*n*n=100*(n*n*n):=by simp only[Int.mul_assoc]
 rw[e2];omega
theorem agW {need room:Int} (hn:0≤need) (hr:0≤room):zf need room=if need=0 then 0 else if room=0∨5*room<need then 10000 else min 10000 (100*need*need*need/(room*room*room)):=by
 unfold zf;split
 ·rfl
 ·split
  ·rename_i h1
   rw[if_pos (by omega)]
  ·split
   ·have:=ah9 (n:=need) (r:=room) (by omega) (by omega)
    omega
   ·rfl
def eP (s:Bool) (bad:Int):Int:=if bad≤12 then 1 else if s=false then 0 else if bad<100 then 2 else 3
theorem kD (s:Bool) (bad:Int):0≤eP s bad∧eP s bad≤3:=by
 unfold eP
 repeat' split
 all_goals omega
def jU (bad cost:Int):Int:=(10+bad)*(10+bad)+(if cost=-10000 then 0 else cost*cost)
theorem l8 {bad cost:Int} (h:0≤bad∧bad≤10000) (h2:(0≤cost∧cost≤10000)∨cost=-10000):0≤jU bad cost∧jU bad cost≤300000000:=by
 have h3:0≤(10+bad)*(10+bad):=Int.mul_nonneg (by omega) (by omega);have h4:(10+bad)*(10+bad)≤10010*10010:=Int.mul_le_mul (by omega) (by omega) (by omega) (by omega);unfold jU;split
 ·omega
 ·have h5:0≤cost*cost:=Int.mul_nonneg (by omega) (by omega)
  have h6:cost*cost≤10000*10000:=Int.mul_le_mul (by omega) (by omega) (by omega) (by omega);omega
def abx (l:List It) (a en:Nat):List I4:=((kW l (ay l a) en).map fun n:Int=>(gI l n.toNat).gl)++(if(gI l en).kd=3 then [(gI l en).gl]else [])
def arL (g:I4) (wd:Int):Int×Bool:=if g.1≤wd then(if g.2.2.2=1 then(0,true)else(zf (wd-g.1) g.2.1,true))else if g.1-wd≤g.2.2.1 then(zf (g.1-wd) g.2.2.1,false)else(-1,false)
def gJ (l:List It) (wd:Int) (a en:Nat):Int×Bool:=arL (iA (abx l a en)) wd
def gP (l:List It) (wd most:Int) (a en:Nat):Option (Int×Int):=
 if dx l a en=true∧0≤(gJ l wd a en).1∧(gJ l wd a en).1≤most then some (jU (gJ l wd a en).1 (gI l en).cost,eP (gJ l wd a en).2 (gJ l wd a en).1)else none
def gY (l:List It) (a en:Nat) (before looks:Int):Int:=
 (if 0<a∧(gI l (a-1)).mark=true∧(gI l en).mark=true then 3000 else 0)+(if 0<a∧(1<before-looks∨before-looks< -1)then 3000 else 0)
theorem jG (l:List It) (a en:Nat) (b k:Int):0≤gY l a en b k∧gY l a en b k≤6000:=by
 unfold gY
 repeat' split
 all_goals omega
abbrev Ch:=Int×Nat×Int
def fV (l:List It) (wd most:Int) (a:Nat) (lk:Int) (rest:Nat→Int→Option Ch) (acc:Option Ch) (en:Nat):Option Ch:=
 match gP l wd most a en with
 |none=>acc
 |some (c,k)=>match rest (en+1) k with
  |none=>acc
  |some r=>if acc.all (fun x=>decide (c+gY l a en lk k+r.1<x.1))=true then some (c+gY l a en lk k+r.1,en,k)else acc
def aY (l:List It) (wd most:Int) (a:Nat) (lk:Int) (rest:Nat→Int→Option Ch):Nat→Option Ch
 |0=>none
 |j+1=>fV l wd most a lk rest (aY l wd most a lk rest j) (l.length-(j+1))
def qo (l:List It) (wd most:Int):Nat→Nat→Int→Option Ch
 |0,_,_=>some (0,0,0)
 |f+1,a,lk=>if a=l.length then some (0,0,0)else aY l wd most a lk (qo l wd most f) (l.length-a)
def aH (l:List It) (wd most:Int) (a:Nat) (lk:Int):Option Ch:=qo l wd most (l.length-a) a lk
theorem j4 {l:List It} {wd most:Int} {a:Nat} {lk:Int} {r r':Nat→Int→Option Ch}:∀j,(∀b k,l.length-j<b→b≤l.length→r b k=r' b k)→j≤l.length→aY l wd most a lk r j=aY l wd most a lk r' j
 |0,_,_=>rfl
 |j+1,h,hj=>by
  rw[aY,aY,j4 j (fun b k h1 h2=>h b k (by omega) h2) (by omega)];unfold fV;cases gP l wd most a (l.length-(j+1))with
  |none=>rfl
  |some c=>dsimp only;rw[h _ _ (by omega) (by omega)]
theorem sD {l:List It} {wd most:Int}:∀(f f' a:Nat) (lk:Int),l.length-a≤f→l.length-a≤f'→a≤l.length→qo l wd most f a lk=qo l wd most f' a lk
 |0,f',a,lk,h,h',ha=>by
  have:a=l.length:=by omega
  subst this;cases f' with
  |zero=>rfl
  |succ f'=>rw[qo,qo,if_pos rfl]
 |f+1,0,a,lk,h,h',ha=>by
  have:a=l.length:=by omega
  subst this;rw[qo,qo,if_pos rfl]
 |f+1,f'+1,a,lk,h,h',ha=>by
  rw[qo,qo];split
  ·rfl
  ·exact j4 _ (fun b k h1 h2=>sD f f' b k (by omega) (by omega) h2) (by omega)
theorem mI (l:List It) (wd most lk:Int):aH l wd most l.length lk=some (0,0,0):=by unfold aH;rw[Nat.sub_self];rfl
theorem kM {l:List It} {wd most lk:Int} {a:Nat} (h:a<l.length):aH l wd most a lk=aY l wd most a lk (aH l wd most) (l.length-a):=by
 unfold aH;obtain⟨f,hf⟩:∃f,l.length-a=f+1:=⟨l.length-a-1,by omega⟩
 conv=>lhs;rw[hf]
 rw[qo,if_neg (by omega)];exact j4 _ (fun b k h1 h2=>sD _ _ _ _ (by omega) (by omega) h2) (by omega)
theorem nN {l:List It} {wd most:Int} {a en:Nat} {x:Int×Int} (h:gP l wd most a en=some x):dx l a en=true∧(0≤(gJ l wd a en).1∧(gJ l wd a en).1≤most)∧x=(jU (gJ l wd a en).1 (gI l en).cost,eP (gJ l wd a en).2 (gJ l wd a en).1):=by
 unfold gP at h;split at h
 ·rename_i hc
  cases h;exact⟨hc.1,hc.2,rfl⟩
 ·cases h
theorem nH {l:List It} {wd most:Int} {a en:Nat} {x:Int×Int} (hl:aT l=true) (hm:most≤10000) (h:gP l wd most a en=some x):(a≤en∧en<l.length)∧(0≤x.1∧x.1≤300000000)∧0≤x.2∧x.2≤3:=by obtain⟨h1,h2,rfl⟩:=nN h;obtain⟨h3,-⟩:=eD.1 h1;exact⟨h3,l8 ⟨h2.1,by omega⟩ (eX hl h3.2).cost,kD _ _⟩
theorem gN {l:List It} {wd most:Int} {a:Nat} {lk:Int} {rest:Nat→Int→Option Ch} {acc:Option Ch} {en:Nat} (h:gP l wd most a en=none):fV l wd most a lk rest acc en=acc:=by unfold fV;rw[h]
theorem jq {l:List It} {wd most:Int} {a:Nat} {lk:Int} {rest:Nat→Int→Option Ch} {acc:Option Ch} {en:Nat} {c k:Int} (h:gP l wd most a en=some (c,k)) (h2:rest (en+1) k=none):fV l wd most a lk rest acc en=acc:=by
 unfold fV;rw[h];dsimp only
 rw[h2]
theorem jk {l:List It} {wd most:Int} {a:Nat} {lk:Int} {rest:Nat→Int→Option Ch} {acc:Option Ch} {en:Nat} {c k:Int} {r:Ch} (h:gP l wd most a en=some (c,k)) (h2:rest (en+1) k=some r):
 fV l wd most a lk rest acc en=if acc.all (fun x=>decide (c+gY l a en lk k+r.1<x.1))=true then some (c+gY l a en lk k+r.1,en,k)else acc:=by
 unfold fV;rw[h];dsimp only
 rw[h2]
def ar3 (l:List It) (wd most:Int) (a:Nat) (lk:Int) (rest:Nat→Int→Option Ch) (j:Nat) (x:Ch):Prop:=
 ∃c0 r,gP l wd most a x.2.1=some (c0,x.2.2)∧rest (x.2.1+1) x.2.2=some r∧x.1=c0+gY l a x.2.1 lk x.2.2+r.1∧l.length-j≤x.2.1∧x.2.1<l.length
theorem lD {l:List It} {wd most:Int} {a:Nat} {lk:Int} {rest:Nat→Int→Option Ch} {x:Ch}:∀j,0<l.length→aY l wd most a lk rest j=some x→ar3 l wd most a lk rest j x
 |0,_,h=>by cases h
 |j+1,hp,h=>by
  have ih:=@lD l wd most a lk rest x j hp;have wk:ar3 l wd most a lk rest j x→ar3 l wd most a lk rest (j+1) x:=fun⟨c0,r,h1,h2,h3,h4,h5⟩=>⟨c0,r,h1,h2,h3,by omega,h5⟩;rw[aY]at h;cases hL:gP l wd most a (l.length-(j+1))with
  |none=>rw[gN hL]at h;exact wk (ih h)
  |some c=>
   obtain⟨c,k⟩:=c;cases hr:rest (l.length-(j+1)+1) k with
   |none=>rw[jq hL hr]at h;exact wk (ih h)
   |some r=>
    rw[jk hL hr]at h;split at h
    ·cases h
     exact⟨c,r,hL,hr,rfl,Nat.le_refl _,by dsimp only;omega⟩
    ·exact wk (ih h)
theorem nZ {l:List It} {wd most lk:Int} {a:Nat} {x:Ch} (h:a<l.length) (hx:aH l wd most a lk=some x):ar3 l wd most a lk (aH l wd most) (l.length-a) x:=by rw[kM h]at hx;exact lD _ (by omega) hx
theorem qX {l:List It} {wd most:Int} (hl:aT l=true) (hm:most≤10000):∀(n a:Nat) (lk:Int) (x:Ch),l.length-a=n→a≤l.length→aH l wd most a lk=some x→0≤x.1∧x.1≤306000000*n
 |0,a,lk,x,hn,ha,h=>by
  have:a=l.length:=by omega
  subst this;rw[mI]at h;cases h;exact⟨by decide,by simp⟩
 |n+1,a,lk,x,hn,ha,h=>by
  obtain⟨c0,r,h1,h2,h3,h4,h5⟩:=nZ (by omega) h;obtain⟨g1,g2,g3⟩:=nH hl hm h1;have hb:=jG l a x.2.1 lk x.2.2;have ih:=qX hl hm (l.length-(x.2.1+1)) (x.2.1+1) _ r rfl (by omega) h2;dsimp only at g2
  push_cast
  omega
theorem nT {l:List It} {wd most:Int} (hl:aT l=true) (hm:most≤10000) {a:Nat} {lk:Int} {j:Nat} {x:Ch} (ha:a<l.length) (h:aY l wd most a lk (aH l wd most) j=some x):(0≤x.1∧x.1≤20000000000)∧x.2.1<l.length∧0≤x.2.2∧x.2.2≤3:=by obtain⟨c0,r,h1,h2,h3,h4,h5⟩:=lD j (by omega) h;obtain⟨g1,g2,g3⟩:=nH hl hm h1;have hb:=jG l a x.2.1 lk x.2.2;have ih:=qX hl hm _ _ _ r rfl (by omega) h2;have:=bB hl;dsimp only at g2 g3;exact⟨by omega,h5,g3⟩
theorem bZ {l:List It} {wd most:Int} (hl:aT l=true) (hm:most≤10000) {a:Nat} {lk:Int} {x:Ch} (ha:a≤l.length) (h:aH l wd most a lk=some x):(0≤x.1∧x.1≤20000000000)∧(a<l.length→(a≤x.2.1∧x.2.1<l.length)∧0≤x.2.2∧x.2.2≤3):=by have h1:=qX hl hm _ a lk x rfl ha h;have:=bB hl;refine⟨by omega,fun h2=>?_⟩;obtain⟨c0,r,g1,g2,g3,g4,g5⟩:=nZ h2 h;obtain⟨k1,k2,k3⟩:=nH hl hm g1;exact⟨k1,k3⟩
theorem uZ {l:List It} {wd most:Int} {a en:Nat} (h0:0<a) (h:lH l (a-1)=false):gP l wd most a en=none:=by
 unfold gP;rw[if_neg];rintro⟨h1,-⟩;obtain⟨-,-,h2,-⟩:=eD.1 h1;rcases h2 with h2|h2
 ·omega
 ·rw[h]at h2;cases h2
theorem kY {l:List It} {wd most:Int} {a:Nat} {lk:Int} {rest:Nat→Int→Option Ch} (h0:0<a) (h:lH l (a-1)=false):∀j,aY l wd most a lk rest j=none
 |0=>rfl
 |j+1=>by rw[aY,gN (uZ h0 h),kY h0 h j]
theorem uP {l:List It} {wd most lk:Int} {a:Nat} (ha:a<l.length) (h0:0<a) (h:lH l (a-1)=false):aH l wd most a lk=none:=by rw[kM ha,kY h0 h]
theorem oJ {l:List It} {wd most lk lk':Int} {rest:Nat→Int→Option Ch}:∀j,aY l wd most 0 lk rest j=aY l wd most 0 lk' rest j
 |0=>rfl
 |j+1=>by
  rw[aY,aY,oJ (lk:=lk) (lk':=lk') j];have:∀en k,gY l 0 en lk k=gY l 0 en lk' k:=fun en k=>by simp[gY]
  unfold fV;simp only[this]
theorem qz {l:List It} {wd most:Int} (lk lk':Int):aH l wd most 0 lk=aH l wd most 0 lk':=by
 by_cases h:0<l.length
 ·rw[kM h,kM h,oJ (lk:=lk) (lk':=lk')]
 ·unfold aH
  rw[show l.length-0=0 by omega];rfl
def bkF (l:List It) (wd most:Int):Nat→Nat→Int→List Int
 |0,_,_=>[]
 |f+1,a,lk=>if a=l.length then []else match aH l wd most a lk with
  |none=>[]
  |some r=>(r.2.1:Int)::bkF l wd most f (r.2.1+1) r.2.2
def dh (l:List It) (wd most:Int):List Int:=bkF l wd most (l.length+1) 0 1
def iQ (l:List It) (wd most:Int):Bool:=aT l&&(decide (0<l.length)&&(inB wd 0 1000&&(inB most 0 10000&&(aH l wd most 0 1).isSome)))
def alz (l:List It) (wd most:Int):List Int:=if iQ l wd most=true then dh l wd most else []
theorem fu {l:List It} {wd most:Int}:iQ l wd most=true↔aT l=true∧0<l.length∧(0≤wd∧wd≤1000)∧(0≤most∧most≤10000)∧(aH l wd most 0 1).isSome=true:=by simp[iQ,aB]
theorem nu {l:List It} {wd most:Int} {f a:Nat} {lk:Int} {r:Ch} (h:¬a=l.length) (hr:aH l wd most a lk=some r):bkF l wd most (f+1) a lk=(r.2.1:Int)::bkF l wd most f (r.2.1+1) r.2.2:=by rw[bkF,if_neg h,hr]
theorem vX {l:List It} {wd most:Int} {f:Nat} {lk:Int}:bkF l wd most f l.length lk=[]:=by
 cases f with
 |zero=>rfl
 |succ f=>rw[bkF,if_pos rfl]
theorem zw {l:List It} {wd most:Int} (hl:aT l=true) (hm:most≤10000):∀(f a:Nat) (lk:Int),a≤l.length→(bkF l wd most f a lk).length≤l.length-a
 |0,a,lk,_=>by simp[bkF]
 |f+1,a,lk,ha=>by
  by_cases h:a=l.length
  ·subst h;rw[vX];simp
  ·cases hr:aH l wd most a lk with
   |none=>rw[bkF,if_neg h,hr];simp
   |some r=>obtain⟨h1,h2⟩:=bZ hl hm ha hr;have h2:=h2 (by omega);rw[nu h hr,List.length_cons];have:=zw (wd:=wd) hl hm f (r.2.1+1) r.2.2 (by omega);omega
theorem nW {l:List It} {wd most:Int} {a:Nat} {lk:Int} {r:Ch} (ha:a<l.length) (hr:aH l wd most a lk=some r):∃x c0,aH l wd most (r.2.1+1) r.2.2=some x∧gP l wd most a r.2.1=some (c0,r.2.2):=by obtain⟨c0,x,g1,g2,-⟩:=nZ ha hr;exact⟨x,c0,g2,g1⟩
def nbX (l:List It) (n:Nat):Nat:=((l.take n).filter fun x=>decide (x.kd=1)).length
theorem zJ {l:List It} {n:Nat} (h:n<l.length) (hk:(gI l n).kd=1):nbX l (n+1)=nbX l n+1:=by
 unfold nbX;rw[List.take_succ_eq_append_getElem h,List.filter_append,List.length_append];have e:gI l n=l[n]:=by unfold gI;rw[List.getElem?_eq_getElem h,Option.getD_some]
 rw[e]at hk;simp[hk]
theorem afC {l:List It} {n:Nat} (h:n<l.length) (hk:¬(gI l n).kd=1):nbX l (n+1)=nbX l n:=by
 unfold nbX;rw[List.take_succ_eq_append_getElem h,List.filter_append,List.length_append];have e:gI l n=l[n]:=by unfold gI;rw[List.getElem?_eq_getElem h,Option.getD_some]
 rw[e]at hk;simp[hk]
def mZ (l:List It) (tx:LS) (s:ByteArray) (n:Nat):ByteArray:=
 if(gI l n).kd=1 then s++(tx[nbX l n]?.getD .empty)else if(gI l n).kd=2∧0<(gI l n).wd∧¬s=⟨#[]⟩then s++⟨#[32]⟩else s
instance:DecidableEq ByteArray:=inferInstance
def lnT (l:List It) (tx:LS) (a:Nat):Nat→ByteArray
 |0=>⟨#[]⟩
 |j+1=>mZ l tx (lnT l tx a j) (a+j)
def lnR (l:List It) (tx:LS) (a en:Nat):ByteArray:=if(gI l en).mark=true then lnT l tx a (en-a)++⟨#[45]⟩else lnT l tx a (en-a)
def dA7 {α β γ δ ε ζ η:Type} (A:Dec α) (B:Dec β) (C:Dec γ) (D:Dec δ) (E:Dec ε) (F:Dec ζ) (G:Dec η):Dec (α×β×γ×δ×ε×ζ×η) where
 d:=fun| .agg [p,q,r,s,t,u,v]=>(A.d p).bind fun a=>(B.d q).bind fun b=>(C.d r).bind fun c=>(D.d s).bind fun d=>(E.d t).bind fun e=>(F.d u).bind fun f=>(G.d v).map fun g=>(a,b,c,d,e,f,g)|_=>none
 e:=fun x=> .agg [A.e x.1,B.e x.2.1,C.e x.2.2.1,D.e x.2.2.2.1,E.e x.2.2.2.2.1,F.e x.2.2.2.2.2.1,G.e x.2.2.2.2.2.2]
 h:=fun p a h=>by
  split at h
  ·simp only[Option.bind_eq_some_iff,Option.map_eq_some_iff]at h
   obtain⟨x,h1,y,h2,z,h3,t,h4,u,h5,v,h6,w,h7,rfl⟩:=h;rw[A.h _ _ h1,B.h _ _ h2,C.h _ _ h3,D.h _ _ h4,E.h _ _ h5,F.h _ _ h6,G.h _ _ h7]
  ·cases h
 h':=fun a=>by simp[A.h',B.h',C.h',D.h',E.h',F.h',G.h']
theorem amI {α β γ δ ε ζ η:Type} (A:Dec α) (B:Dec β) (C:Dec γ) (D:Dec δ) (E:Dec ε) (F:Dec ζ) (G:Dec η):(dA7 A B C D E F G).e=fun x=> .agg [A.e x.1,B.e x.2.1,C.e x.2.2.1,D.e x.2.2.2.1,E.e x.2.2.2.2.1,F.e x.2.2.2.2.2.1,G.e x.2.2.2.2.2.2]:=rfl
abbrev dIt:Dec It:=dA7 dI dI dI dI dI dI dB
abbrev lq:Dec (List It):=dL 7 dIt
abbrev eO (x:It):PV:=.agg [.val (.int .i64 x.1),.val (.int .i64 x.2.1),.val (.int .i64 x.2.2.1),.val (.int .i64 x.2.2.2.1),.val (.int .i64 x.2.2.2.2.1),.val (.int .i64 x.2.2.2.2.2.1),.val (.bool x.2.2.2.2.2.2)]
section
variable {β:Type} {n sz f i:Nat} {ob:bg} {k fr:Bool} {l:List It}
theorem an8 {g:It→β} (h:i<l.length):Option.map g l[i]?=some (g ((l[i]?).getD it0)):=by simp[h]
theorem agJ:reify false n ob (f+3) (.lst k sz (l.map eO))=some (.lst false sz (l.map eO)):=zR fun _=>rfl
theorem ais {m T:Nat} (hm:m=l.length):oU fr (f+2) ob sz 0 m (some (T,sz,l.map eO))=some (.lst fr sz (l.map eO)):=sM (fun _=>rfl) hm
end
attribute[push_cast]
 an8 agJ ais
abbrev acS (l:List It):Prop:=l.length≤1000
def aaY:Fun:=F1 dI4 fun g=>some (bv (glB g))
theorem abE {a b c d:Int}:aaY [.agg [.val (.int .i64 a),.val (.int .i64 b),.val (.int .i64 c),.val (.int .i64 d)]]=some (.val (.bool (glB (a,b,c,d)))):=iy (A:=dI4) (a,b,c,d)
def aoG:Ctx:={fn:=aZ [(35,φIn)],io:=aZ []}
theorem ajl:au Try.prog aoG:=okΓ (fC Try.func35 vY aj) aj
def ahQ:=ah (Γ:=aoG) (f:=35) (φ:=φIn) rfl
theorem adh:Sound Try.prog 93 aaY:=by
 refine ak mixed ajl Try.func93 rfl 23 rfl [.tmp 2] rfl (by kernel_rfl) fun ps r hr=>?_;obtain⟨⟨a,b,c,d⟩,rfl,hr⟩:=bJ hr;cases hr;refine⟨by simp,?_⟩;simp only[dIs,dUs,dSs,bQ,bU,bP,bT,aL,bS,aQ,aO,aR,aP];have ggl4i_c35:=ahQ;have ap:=bO;(refine wlkX6 ?_ ?_ ?_ ?_ ?_ ?_<;>intros<;>try with_reducible exact trivial);all_goals(refine fnG ?_;try with_reducible exact trivial)
 all_goals simp_all [glB]
def arx:Ctx:={fn:=aZ [(29,φIn)],io:=aZ []}
theorem ahk:au Try.prog arx:=okΓ (fC Try.func29 iJ aj) aj
def ajj:=ah (Γ:=arx) (f:=29) (φ:=φIn) rfl
theorem acw:Sound Try.prog 79 aaY:=by
 refine ak mixed ahk Try.func79 rfl 23 rfl [.tmp 2] rfl (by kernel_rfl) fun ps r hr=>?_;obtain⟨⟨a,b,c,d⟩,rfl,hr⟩:=bJ hr;cases hr;refine⟨by simp,?_⟩;simp only[dIs,dUs,dSs,bQ,bU,bP,bT,aL,bS,aQ,aO,aR,aP];have ggl4s_c29:=ajj;have ap:=bO;(refine wlkX6 ?_ ?_ ?_ ?_ ?_ ?_<;>intros<;>try with_reducible exact trivial);all_goals(refine fnG ?_;try with_reducible exact trivial)
 all_goals simp_all [glB]
def aau:Fun:=F1 dIt fun x=>some (bv (itB x))
theorem abK {a b c d e f:Int} {g:Bool}:aau [.agg [.val (.int .i64 a),.val (.int .i64 b),.val (.int .i64 c),.val (.int .i64 d),.val (.int .i64 e),.val (.int .i64 f),.val (.bool g)]]=some (.val (.bool (itB (a,b,c,d,e,f,g)))):=iy (A:=dIt) (a,b,c,d,e,f,g)
def qm:Fun:=F1 dI fun c=>some (bv (vg c))
theorem wC (c:Int):qm [.val (.int .i64 c)]=some (.val (.bool (vg c))):=rfl
def aoZ:Ctx:={fn:=aZ [(36,nA)],io:=aZ []}
theorem aiU:au Try.prog aoZ:=okΓ (fC Try.func36 mE aj) aj
def aiL:=ah (Γ:=aoZ) (f:=36) (φ:=nA) rfl
theorem yR:Sound Try.prog 94 qm:=by
 refine ak mixed aiU Try.func94 rfl 9 rfl [.tmp 2] rfl (by kernel_rfl) fun ps r hr=>?_;obtain⟨c,rfl,hr⟩:=bJ hr;cases hr;refine⟨by simp,?_⟩;simp only[dIs,dUs,dSs,bQ,bU,bP,bT,aL,bS,aQ,aO,aR,aP];have ap:=ku;have gcost_c36:=aiL;(refine wlkX6 ?_ ?_ ?_ ?_ ?_ ?_<;>intros<;>try with_reducible exact trivial);all_goals(refine fnG ?_;try with_reducible exact trivial)
 all_goals simp_all [vg]
def ata:Ctx:={fn:=aZ [(93,aaY),(94,qm)],io:=aZ []}
theorem aky:au Try.prog ata:=okΓ (fC Try.func93 adh (fC Try.func94 yR aj)) aj
def alU:=ah (Γ:=ata) (f:=93) (φ:=aaY) rfl
def alR:=ah (Γ:=ata) (f:=94) (φ:=qm) rfl
theorem acV:Sound Try.prog 86 aau:=by
 refine ak mixed aky Try.func86 rfl 63 rfl [.tmp 2] rfl (by kernel_rfl) fun ps r hr=>?_;obtain⟨⟨a,b,c,d,e,f,g⟩,rfl,hr⟩:=bJ hr;cases hr;refine⟨by simp,?_⟩;simp only[dIs,dUs,dSs,bQ,bU,bP,bT,aL,bS,aQ,aO,aR,aP];simp only[amI,bQ,bP];have ap1:=@abE;have ap2:=wC;have hE:itB (a,b,c,d,e,f,g)=(glB (b,c,d,e)&&((decide (a=1)&&(decide (c=0∧d=0∧e=0)&&decide (f=0∧g=false)))||((decide (a=2)&&decide (f=0∧g=false))||(decide (a=3)&&(decide (c=0∧d=0∧e=0)&&vg f))))):=rfl;rw[hE];clear hE;cases hg:glB (b,c,d,e)<;>cases hc:vg f<;>
 ·have giti_c93:=alU;have giti_c94:=alR
  repeat' (first|(with_reducible first|apply nK|apply fH|apply iC|apply iF|apply mJ|apply aci|apply l9|apply ni|apply abp|apply nD|apply nG|apply abY|apply mY|apply mG|apply l7)|((with_reducible apply dM);(simp only[List.map_cons,List.map_nil]<;>exact rfl))|((with_reducible apply iD);(simp only[List.map_cons,List.map_nil]<;>exact rfl);decide+kernel)|((with_reducible apply ng);rfl)|((first|((with_reducible apply i_V);rfl;rfl;rfl)|((first|((with_reducible apply i_E);rfl)|((with_reducible apply i_S);rfl));first|rfl|(simp only[push_cast,↓reduceIte]))|((with_reducible apply aa9);rfl;rfl)|((with_reducible apply acr);rfl;rfl;rfl)|(with_reducible first|apply ab2|apply iG));(simp(disch:=(first|omega|(simp only[push_cast];first|done|omega))) only[push_cast,↓reduceIte,Nat.reduceEqDiff,Nat.reduceBEq,Nat.reduceAdd,Nat.reduceSub,Int.reduceToNat, *]<;>with_reducible exact rfl);all_goals try(first|(with_reducible first|refine hyT ?_|refine hyF ?_|exact hyA|exact hyB)|(intro hX;first|(cases hX;done)|((try simp only[decide_eq_true_eq,decide_eq_false_iff_not,Bool.not_eq_true',Bool.not_eq_false']at hX);(try have hXb:=aB.1 hX))))))
  all_goals(refine fnG ?_;try with_reducible exact trivial)
  all_goals(first|(simp_all;done)|(simp_all;omega))
def atx:Ctx:={fn:=aZ [(79,aaY),(29,φIn)],io:=aZ []}
theorem akQ:au Try.prog atx:=okΓ (fC Try.func79 acw (fC Try.func29 iJ aj)) aj
def amc:=ah (Γ:=atx) (f:=79) (φ:=aaY) rfl
def anA:=ah (Γ:=atx) (f:=29) (φ:=φIn) rfl
theorem adC:Sound Try.prog 59 aau:=by
 refine ak mixed akQ Try.func59 rfl 62 rfl [.tmp 2] rfl (by kernel_rfl) fun ps r hr=>?_;obtain⟨⟨a,b,c,d,e,f,g⟩,rfl,hr⟩:=bJ hr;cases hr;refine⟨by simp,?_⟩;simp only[dIs,dUs,dSs,bQ,bU,bP,bT,aL,bS,aQ,aO,aR,aP];simp only[amI,bQ,bP];have ap1:=@abE;have ap2:=bO;have hE:itB (a,b,c,d,e,f,g)=(glB (b,c,d,e)&&((decide (a=1)&&(decide (c=0∧d=0∧e=0)&&decide (f=0∧g=false)))||((decide (a=2)&&decide (f=0∧g=false))||(decide (a=3)&&(decide (c=0∧d=0∧e=0)&&(inB f 0 10000||decide (f=-10000))))))):=rfl;rw[hE];clear hE;cases hg:glB (b,c,d,e)<;>
 ·have gits_c79:=amc;have gits_c29:=anA
  repeat' (first|(with_reducible first|apply nK|apply fH|apply iC|apply iF|apply mJ|apply aci|apply l9|apply ni|apply abp|apply nD|apply nG|apply abY|apply mY|apply mG|apply l7)|((with_reducible apply dM);(simp only[List.map_cons,List.map_nil]<;>exact rfl))|((with_reducible apply iD);(simp only[List.map_cons,List.map_nil]<;>exact rfl);decide+kernel)|((with_reducible apply ng);rfl)|((first|((with_reducible apply i_V);rfl;rfl;rfl)|((first|((with_reducible apply i_E);rfl)|((with_reducible apply i_S);rfl));first|rfl|(simp only[push_cast,↓reduceIte]))|((with_reducible apply aa9);rfl;rfl)|((with_reducible apply acr);rfl;rfl;rfl)|(with_reducible first|apply ab2|apply iG));(simp(disch:=(first|omega|(simp only[push_cast];first|done|omega))) only[push_cast,↓reduceIte,Nat.reduceEqDiff,Nat.reduceBEq,Nat.reduceAdd,Nat.reduceSub,Int.reduceToNat, *]<;>with_reducible exact rfl);all_goals try(first|(with_reducible first|refine hyT ?_|refine hyF ?_|exact hyA|exact hyB)|(intro hX;first|(cases hX;done)|((try simp only[decide_eq_true_eq,decide_eq_false_iff_not,Bool.not_eq_true',Bool.not_eq_false']at hX);(try have hXb:=aB.1 hX))))))
  all_goals(refine fnG ?_;try with_reducible exact trivial)
  all_goals(first|(simp_all;done)|(simp_all;omega))
def tL:Fun:=F1 lq fun l=>if acS l then some (bv (aT l))else none
theorem um {l:List It} (h:acS l):tL [.lst false 7 (l.map eO)]=some (.val (.bool (aT l))):=(iy (A:=lq) l).trans (if_pos h)
def aqz:Ctx:={fn:=aZ [(86,aau)],io:=aZ []}
theorem ahi:au Try.prog aqz:=okΓ (fC Try.func86 acV aj) aj
def ah0:=ah (Γ:=aqz) (f:=86) (φ:=aau) rfl
theorem sW:Sound Try.prog 71 tL:=by
 refine ak mixed ahi Try.func71 rfl 18 rfl [.tmp 2] rfl (by kernel_rfl) fun ps r hr=>?_;obtain⟨l,rfl,hpre,rfl⟩:=oM hr;refine⟨by simp,?_⟩;simp only[dIs,dUs,dSs,bQ,bU,bP,bT,aL,bS,aQ,aO,aR,aP];have hlen:l.length≤1000:=hpre;have ap:=@abK;clear hpre;show pq _ _ _ _ _ (bM [.lst false 7 (l.map eO)]).tm _ _;have gitsi_c86:=ah0;(refine wlk ?_;intros);refine aD (α:=Nat×Nat) mixed (fun z=>[(0,.lst false 7 (l.map eO)),(5,.lst false 7 (l.map eO)),(6,iv l.length),(7,iv z.1)]) (fun _=>[]) (fun z=>z.2)
  (fun z=>z.1≤l.length∧∀j,j<z.1→itB (l[j]?.getD it0)=true) (fun z=>l.length-z.1) (by kernel_rfl) (0,0) ⟨Nat.zero_le _,fun j hj=>by simp at hj⟩ ?_ trivial rfl ?_
 ·exact agr
 rintro⟨k,y⟩ ⟨hk,hok⟩;dsimp only at hk hok;by_cases h0:k<l.length
 ·cases hb:itB (l[k]?.getD it0)with
  |false=>
   have hE:aT l=false:=by unfold aT;rw[iI (d:=it0) h0 hb,Bool.and_false]
   rw[hE];clear hok hE;generalize hx9:l[k]?.getD it0=x at*;obtain⟨a,b,c,d,e,f,g⟩:=x;exact wlkF
  |true=>
   have hok2:∀j,j<k+1→itB (l[j]?.getD it0)=true:=fun j hj=>by
    by_cases h1:j<k
    ·exact hok j h1
    ·obtain rfl:j=k:=by omega
     exact hb
   replace hok2:=Lib.hid hok2;clear hok;generalize hx9:l[k]?.getD it0=x at*;obtain⟨a,b,c,d,e,f,g⟩:=x;(refine wlk ?_;intros);refine⟨(k+1,y+1),⟨by dsimp only;omega,hok2.out⟩,by dsimp only;omega,?_,trivial,rfl⟩;exact agr
 ·obtain rfl:k=l.length:=by omega
  have hE:aT l=decide (l.length≤60):=by unfold aT;rw[eH (d:=it0) fun j hj=>hok j hj,Bool.and_true]
  rw[hE];clear hok hE;((refine wlk6 ?_ ?_ ?_ ?_ ?_ ?_<;>intros<;>try with_reducible exact trivial)<;>(refine fnG ?_;try with_reducible exact trivial));all_goals(first|(simp;omega)|skip)
def arS:Ctx:={fn:=aZ [(59,aau)],io:=aZ []}
theorem ahr:au Try.prog arS:=okΓ (fC Try.func59 adC aj) aj
def aiE:=ah (Γ:=arS) (f:=59) (φ:=aau) rfl
theorem adv:Sound Try.prog 43 tL:=by
 refine ak mixed ahr Try.func43 rfl 19 rfl [.tmp 2] rfl (by kernel_rfl) fun ps r hr=>?_;obtain⟨l,rfl,hpre,rfl⟩:=oM hr;refine⟨by simp,?_⟩;simp only[dIs,dUs,dSs,bQ,bU,bP,bT,aL,bS,aQ,aO,aR,aP];have hlen:l.length≤1000:=hpre;have ap:=@abK;clear hpre;show pq _ _ _ _ _ (bM [.lst false 7 (l.map eO)]).tm _ _;have gitss_c59:=aiE;(refine wlk ?_;intros);refine aD (α:=Nat) mixed (fun k=>[(0,.lst false 7 (l.map eO)),(3,iv k)]) (fun _=>[]) (fun _=>0)
  (fun k=>k≤l.length∧∀j,j<k→itB (l[j]?.getD it0)=true) (fun k=>l.length-k) (by kernel_rfl) 0 ⟨Nat.zero_le _,fun j hj=>by simp at hj⟩ ?_ trivial rfl ?_
 ·exact agr
 rintro k ⟨hk,hok⟩;by_cases h0:k<l.length
 ·cases hb:itB (l[k]?.getD it0)with
  |false=>
   have hE:aT l=false:=by unfold aT;rw[iI (d:=it0) h0 hb,Bool.and_false]
   rw[hE];clear hok hE;generalize hx9:l[k]?.getD it0=x at*;obtain⟨a,b,c,d,e,f,g⟩:=x;exact wlkF
  |true=>
   have hok2:∀j,j<k+1→itB (l[j]?.getD it0)=true:=fun j hj=>by
    by_cases h1:j<k
    ·exact hok j h1
    ·obtain rfl:j=k:=by omega
     exact hb
   replace hok2:=Lib.hid hok2;clear hok;generalize hx9:l[k]?.getD it0=x at*;obtain⟨a,b,c,d,e,f,g⟩:=x;(refine wlk ?_;intros);refine⟨k+1,⟨by omega,hok2.out⟩,by dsimp only;omega,?_,trivial,rfl⟩;exact agr
 ·obtain rfl:k=l.length:=by omega
  have hE:aT l=decide (l.length≤60):=by unfold aT;rw[eH (d:=it0) fun j hj=>hok j hj,Bool.and_true]
  rw[hE];clear hok hE;((refine wlk6 ?_ ?_ ?_ ?_ ?_ ?_<;>intros<;>try with_reducible exact trivial)<;>(refine fnG ?_;try with_reducible exact trivial));all_goals(first|(simp;omega)|skip)
end
end Go.Proofs.Ytmmafcjjlbgnkaa
