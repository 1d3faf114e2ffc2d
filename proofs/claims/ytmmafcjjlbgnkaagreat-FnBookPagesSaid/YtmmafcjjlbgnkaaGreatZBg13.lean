/- What the proof rests on, part 13: contracts of functions. No condition beyond what each states. -/
import Derived.Test.YtmmafcjjlbgnkaaGreatZBg12
namespace Go.Proofs.YtmmafcjjlbgnkaaGreat
open Go.RowKit
set_option linter.all false
set_option maxHeartbeats 32000000
noncomputable section
theorem uz {l:LS} {k:Nat} (h:k<l.length):l.take (k+1)=l.take k++[l[k]?.getD .empty]:=by rw[List.take_succ_eq_append_getElem h,List.getElem?_eq_getElem h];rfl
theorem ahL (ps:LS):∀{k:Nat},0<k→0<(wiK ps k).length
 |0,h=>by omega
 |k+1,_=>by rw[wiK,List.length_append,List.length_singleton];omega
def as0:Ctx:={fn:=aY [(49,jd),(50,gQ),(68,φPr),(69,φWw)],io:=aY []}
theorem aoH:ak Tryz.prog as0:=okΓ (fC Tryz.func49 jO (fC Tryz.func50 dO (fC Tryz.func68 agT (fC Tryz.func69 af6 aj)))) aj
def xQ:=ah (Γ:=as0) (f:=49) (φ:=jd) rfl
def wu:=ah (Γ:=as0) (f:=50) (φ:=gQ) rfl
def vk:=ah (Γ:=as0) (f:=68) (φ:=φPr) rfl
def vS:=ah (Γ:=as0) (f:=69) (φ:=φWw) rfl
theorem adL:Sound Tryz.prog 52 akf:=by
 refine gP mixed aoH Tryz.func52 rfl 81 rfl [.tmp 4,.tmp 5,.tmp 6] rfl (by kernel_rfl) fun ps r hr=>?_;obtain⟨ws,pats,rfl,hpre,rfl⟩:=iF hr;refine⟨by simp,?_⟩;simp only[dIs,dUs,dSs,dx,dA,dz,dF,aS,dD,aT,aU,aR,aV];have ap1:=lJ hpre.1;have ap2:=iG hpre.2;have hwl0:=hpre.1.1;cases hw:bJ ws with
 |false=>
  have hA:aao ws pats=false:=by unfold aao;rw[hw];rfl
  have hB:oO ws pats=false:=by unfold oO;rw[hw];rfl
  rw[hw]at ap1;rw[hB,hA];simp only[Bool.false_eq_true,if_false,List.map_nil];clear hpre hw hB hA;have gpit_c49:=xQ;have gpit_c50:=wu;have gpit_c68:=vk;have gpit_c69:=vS;(refine wlk ?_;intros);all_goals((with_reducible apply cO (by first|exact .inl rfl|exact .inr rfl));(simp(disch:=(first|omega|(simp only[push_cast];first|done|omega))) only[push_cast,↓reduceIte,Nat.reduceEqDiff,Nat.reduceBEq,Nat.reduceAdd,Nat.reduceSub,Int.reduceToNat, *]<;>with_reducible exact rfl))
  all_goals exact nL ⟨nil_le _ _,nil_le _ _,PV.le_refl _,trivial⟩
 |true=>
 cases hp:bE pats with
 |false=>
  have hA:aao ws pats=false:=by unfold aao;rw[hw,hp];rfl
  have hB:oO ws pats=false:=by unfold oO;rw[hw,hp];rfl
  rw[hw]at ap1;rw[hp]at ap2;rw[hB,hA];simp only[Bool.false_eq_true,if_false,List.map_nil];clear hpre hw hp hB hA;have gpit_c49:=xQ;have gpit_c50:=wu;have gpit_c68:=vk;have gpit_c69:=vS;(refine wlk ?_;intros);all_goals((with_reducible apply cO (by first|exact .inl rfl|exact .inr rfl));(simp(disch:=(first|omega|(simp only[push_cast];first|done|omega))) only[push_cast,↓reduceIte,Nat.reduceEqDiff,Nat.reduceBEq,Nat.reduceAdd,Nat.reduceSub,Int.reduceToNat, *]<;>with_reducible exact rfl))
  all_goals exact nL ⟨nil_le _ _,nil_le _ _,PV.le_refl _,trivial⟩
 |true=>
 by_cases hz:ws.length=0
 ·have hA:aao ws pats=false:=by unfold aao;rw[hw,hp,hz];rfl
  have hB:oO ws pats=false:=by unfold oO;rw[hw,hp,hz];rfl
  rw[hw]at ap1;rw[hp]at ap2;rw[hB,hA];simp only[Bool.false_eq_true,if_false,List.map_nil];clear hpre hw hp hB hA;have gpit_c49:=xQ;have gpit_c50:=wu;have gpit_c68:=vk;have gpit_c69:=vS;(refine wlk ?_;intros);all_goals((with_reducible apply cO (by first|exact .inl rfl|exact .inr rfl));(simp(disch:=(first|omega|(simp only[push_cast];first|done|omega))) only[push_cast,↓reduceIte,Nat.reduceEqDiff,Nat.reduceBEq,Nat.reduceAdd,Nat.reduceSub,Int.reduceToNat, *]<;>with_reducible exact rfl))
  all_goals exact nL ⟨nil_le _ _,nil_le _ _,PV.le_refl _,trivial⟩
 ·have hB:oO ws pats=decide ((piR ws pats).length≤60):=by unfold oO;rw[hw,hp,decide_eq_true (show 0<ws.length by omega)];rfl
  have hA:aao ws pats=true:=by unfold aao;rw[hw,hp,decide_eq_true (show 0<ws.length by omega)];rfl
  have hwl:=rR hw;have hap:∀k,k<ws.length→φPr [.val (.string (ws[k]?.getD .empty)),.lst false 1 (pats.map fun s=> .val (.string s))]=some (.lst true 1 ((bW (ws[k]?.getD .empty) pats).map fun s=> .val (.string s))):=fun k hk=>aap ⟨hpre.1.2 k,hpre.2⟩;have hpp:∀k:Nat,k<ws.length→0<(bW (ws[k]?.getD ByteArray.empty) pats).length:=fun k hk=>yF (adj hw hk) hp;have hpw:∀k j:Nat,j<(bW (ws[k]?.getD ByteArray.empty) pats).length→((bW (ws[k]?.getD ByteArray.empty) pats)[j]?.getD .empty).size≤1048576:=fun k j hj=>by have:=(aW (x9 hj)).2.2;omega
  have hpl:∀k:Nat,(bW (ws[k]?.getD ByteArray.empty) pats).length≤21:=fun k=>jN _ _;have htp:=fun k hk h0=>ahS hw hp k hk h0;have hip:=fun k hk h0=>ap7 (k:=k) hw hp hk h0;have htl:=aaL ws pats;have hil:=abB ws pats;rw[hw]at ap1;rw[hp]at ap2;rw[hB,hA];simp only[if_true];have hR:piR ws pats=piK ws pats ws.length++[(3,0,0,0,0,10000,false),(2,0,1,0,1,0,false),(3,0,0,0,0,-10000,false)]:=rfl;have hT:txR ws pats=txK ws pats ws.length:=rfl;rw[hR,hT];clear hpre hw hp hB hA hR hT;have gpit_c49:=xQ;have gpit_c50:=wu;have gpit_c68:=vk;have gpit_c69:=vS;(refine wlk ?_;intros);refine aG (α:=Nat×Nat×Nat×Nat) mixed (fun z=>[(1,.lst false 1 (pats.map pvS)),(7,nP 7 ((piK ws pats z.1).map gB) z.2.1),(8,nP 1 ((txK ws pats z.1).map pvS) z.2.2.1),(26,.lst false 1 (ws.map pvS)),(27,iv ws.length),(28,iv z.1)])
   (fun z=>nO 79 7 ((piK ws pats z.1).map gB) z.2.1++nO 9 1 ((txK ws pats z.1).map pvS) z.2.2.1) (fun z=>z.2.2.2)
   (fun z=>z.1≤ws.length∧(0<z.1→z.2.1<z.2.2.2∧z.2.2.1<z.2.2.2∧¬z.2.1=z.2.2.1)) (fun z=>ws.length-z.1) (by kernel_rfl) (0,0,0,0) ⟨Nat.zero_le _,by simp⟩ ?_ ?_ rfl ?_
  ·simp(disch:=(first|omega|(simp only[push_cast];first|done|omega))) only[push_cast,↓reduceIte,Nat.reduceEqDiff,Nat.reduceBEq,Nat.reduceAdd,Nat.reduceSub,Int.reduceToNat,piK,txK,List.map_nil, *]
  ·simp(disch:=(first|omega|(simp only[push_cast];first|done|omega))) only[push_cast,↓reduceIte,Nat.reduceEqDiff,Nat.reduceBEq,Nat.reduceAdd,Nat.reduceSub,Int.reduceToNat,piK,txK,List.map_nil,List.append_nil, *]
  rintro⟨k,x,xt,y⟩ ⟨hk,hxy⟩;dsimp only at hk hxy;by_cases h0:k<ws.length
  ·have apr:=hap k h0
   have hps:=hpw k;have hpl2:=hpl k;have hpp2:=hpp k h0;have hKI0:piK ws pats (k+1)=(if k=0 then piK ws pats k else piK ws pats k++[(2,4,3,1,0,0,false)])++wiK (bW (ws[k]?.getD .empty) pats) (bW (ws[k]?.getD .empty) pats).length:=rfl;have hKT:txK ws pats (k+1)=txK ws pats k++bW (ws[k]?.getD .empty) pats:=rfl;have hpos:=Lib.hid (And.intro (hip (k+1) (by omega) (by omega)) (htp (k+1) (by omega) (by omega)));have hlk:=hil k;have hlt:=htl k;generalize bW (ws[k]?.getD .empty) pats=ps at*;have hwk:=vN ps;by_cases hk0:k=0
   ·rw[if_pos hk0]at hKI0
    have hI0:piK ws pats k=[]:=by rw[hk0];rfl
    have hT0:txK ws pats k=[]:=by rw[hk0];rfl
    obtain⟨A,hA⟩:∃A,A=piK ws pats k:=⟨_,rfl⟩;obtain⟨T,hT⟩:∃T,T=txK ws pats k:=⟨_,rfl⟩;have hAT:(0<A.length∧0<T.length)∨(A.length=0∧T.length=0):=.inr (by rw[hA,hT,hI0,hT0];exact⟨rfl,rfl⟩);rw[←hA]at hKI0 hlk;rw[←hT]at hKT hlt;have hAe:A=[]:=hA.trans hI0;have hTe:T=[]:=hT.trans hT0;rw[hI0,hT0];replace hAe:=Lib.hid hAe;replace hTe:=Lib.hid hTe;have hKI:=Lib.hid hKI0;replace hKT:=Lib.hid hKT;replace hI0:=Lib.hid hI0;replace hk0:k<1:=by omega
    clear hKI0 hA hT hT0 hxy hap hpp hpw hpl hil htl hip htp;(refine wlk ?_;intros);refine aG (α:=Nat×Nat×Nat×Nat) mixed (fun z=>[(1,.lst false 1 (pats.map pvS)),(7,nP 7 ((A++wiK ps z.1).map gB) z.2.1),(8,nP 1 ((T++ps.take z.1).map pvS) z.2.2.1),(26,.lst false 1 (ws.map pvS)),(27,iv ws.length),(28,iv k),(42,.lst true 1 (ps.map pvS)),(43,iv ps.length),(44,iv z.1)])
     (fun z=>nO 79 7 ((A++wiK ps z.1).map gB) z.2.1++nO 9 1 ((T++ps.take z.1).map pvS) z.2.2.1) (fun z=>z.2.2.2)
     (fun z=>z.1≤ps.length∧(0<(A++wiK ps z.1).length→z.2.1<z.2.2.2∧z.2.2.1<z.2.2.2∧¬z.2.1=z.2.2.1)) (fun z=>ps.length-z.1) (by kernel_rfl) (0,x,xt,y) ⟨Nat.zero_le _,fun h=>by rw[hAe.out]at h;simp[wiK]at h⟩ ?_ ?_ rfl ?_
    ·simp(disch:=(first|omega|(simp only[push_cast];first|done|omega))) only[push_cast,↓reduceIte,Nat.reduceEqDiff,Nat.reduceBEq,Nat.reduceAdd,Nat.reduceSub,Int.reduceToNat,wiK,List.take_zero,List.append_nil,hAe.out,hTe.out,List.map_nil, *]
    ·simp(disch:=(first|omega|(simp only[push_cast];first|done|omega))) only[push_cast,↓reduceIte,Nat.reduceEqDiff,Nat.reduceBEq,Nat.reduceAdd,Nat.reduceSub,Int.reduceToNat,wiK,List.take_zero,List.append_nil,hAe.out,hTe.out,List.map_nil, *]
    clear hI0;rintro⟨j,x2,xt2,y2⟩ ⟨hj,hx2⟩;dsimp only at hj hx2;have hwj:=hwk j;by_cases hjl:j<ps.length
    ·have hn:A++wiK ps (j+1)=(if j=0 then A++wiK ps j else(A++wiK ps j)++[(3,3,0,0,0,50,true)])++[(1,pI (ps[j]?.getD .empty),0,0,0,0,false)]:=by rw[wiK];split<;>simp
     have ht:T++ps.take (j+1)=(T++ps.take j)++[ps[j]?.getD .empty]:=by rw[uz hjl,List.append_assoc]
     have h3:(0<(A++wiK ps j).length∧0<(T++ps.take j).length)∨((A++wiK ps j)=[]∧(T++ps.take j)=[]∧j<1):=by
      by_cases hj0:j=0
      ·subst hj0
       rcases hAT with h|h
       ·exact .inl ⟨by rw[List.length_append];omega,by rw[List.length_append];omega⟩
       ·exact .inr ⟨by rw[List.eq_nil_of_length_eq_zero h.1];rfl,by rw[List.eq_nil_of_length_eq_zero h.2];rfl,by omega⟩
      ·refine .inl ⟨by rw[List.length_append];have:=ahL ps (k:=j) (by omega);omega,by rw[List.length_append,List.length_take];omega⟩
     have hil2:(A++wiK ps j).length≤700:=by rw[List.length_append];omega
     have htl2:(T++ps.take j).length≤400:=by rw[List.length_append,List.length_take];omega
     have apw:=ab1 (hps j hjl);have hnx:0<(A++wiK ps (j+1)).length∧0<(T++ps.take (j+1)).length:=⟨by rw[hn,List.length_append,List.length_singleton];omega,by rw[ht,List.length_append,List.length_singleton];omega⟩;replace hnx:=Lib.hid hnx;replace hn:=Lib.hid hn;replace ht:=Lib.hid ht;generalize A++wiK ps j=its at*;generalize T++ps.take j=tx at*;clear hwj hwk hps;rcases h3 with⟨hi0,ht0⟩|⟨rfl,rfl,hj1⟩
     ·obtain⟨x3,x4,x5⟩:=hx2 hi0
      have hap:0<(its.map gB).length:=by rw[List.length_map];omega
      have hbp:0<(tx.map pvS).length:=by rw[List.length_map];omega
      have x6:¬xt2=x2:=fun q=>x5 q.symm;clear hx2;simp only[aB hap,aB hbp,aF hap,aF hbp,List.length_map,List.cons_append,List.nil_append];by_cases hj0:j=0
      ·have hn2:=hn.out
       rw[if_pos hj0]at hn2;replace hn2:=Lib.hid hn2;replace hj0:j<1:=by omega
       (refine wlk ?_;intros);refine⟨(j+1,y2+1,y2+3,y2+4),⟨by dsimp only;omega,fun _=>by dsimp only;omega⟩,by dsimp only;omega,?_,?_,rfl⟩
       ·have h1:=hnx.out
        have hap3:0<((A++wiK ps (j+1)).map gB).length:=by rw[List.length_map];exact h1.1
        have hbp3:0<((T++ps.take (j+1)).map pvS).length:=by rw[List.length_map];exact h1.2
        dsimp only
        rw[aB hap3,aB hbp3,hn2.out,ht.out];exact agr
       ·have h1:=hnx.out
        have hap3:0<((A++wiK ps (j+1)).map gB).length:=by rw[List.length_map];exact h1.1
        have hbp3:0<((T++ps.take (j+1)).map pvS).length:=by rw[List.length_map];exact h1.2
        dsimp only
        rw[aF hap3,aF hbp3,hn2.out,ht.out];simp(disch:=(first|omega|(simp only[push_cast];first|done|omega))) only[push_cast,↓reduceIte,Nat.reduceEqDiff,Nat.reduceBEq,Nat.reduceAdd,Nat.reduceSub,Int.reduceToNat,List.cons_append,List.nil_append, *]
      ·have hn2:=hn.out
       rw[if_neg hj0]at hn2;replace hn2:=Lib.hid hn2;(refine wlk ?_;intros);refine⟨(j+1,y2+3,y2+5,y2+6),⟨by dsimp only;omega,fun _=>by dsimp only;omega⟩,by dsimp only;omega,?_,?_,rfl⟩
       ·have h1:=hnx.out
        have hap3:0<((A++wiK ps (j+1)).map gB).length:=by rw[List.length_map];exact h1.1
        have hbp3:0<((T++ps.take (j+1)).map pvS).length:=by rw[List.length_map];exact h1.2
        dsimp only
        rw[aB hap3,aB hbp3,hn2.out,ht.out];exact agr
       ·have h1:=hnx.out
        have hap3:0<((A++wiK ps (j+1)).map gB).length:=by rw[List.length_map];exact h1.1
        have hbp3:0<((T++ps.take (j+1)).map pvS).length:=by rw[List.length_map];exact h1.2
        dsimp only
        rw[aF hap3,aF hbp3,hn2.out,ht.out];simp(disch:=(first|omega|(simp only[push_cast];first|done|omega))) only[push_cast,↓reduceIte,Nat.reduceEqDiff,Nat.reduceBEq,Nat.reduceAdd,Nat.reduceSub,Int.reduceToNat,List.cons_append,List.nil_append, *]
     ·have hn2:=hn.out
      rw[if_pos (show j=0 by omega)]at hn2;replace hn2:=Lib.hid hn2;clear hx2;(refine wlk ?_;intros);refine⟨(j+1,y2+1,y2+3,y2+4),⟨by dsimp only;omega,fun _=>by dsimp only;omega⟩,by dsimp only;omega,?_,?_,rfl⟩
      ·have h1:=hnx.out
       have hap3:0<((A++wiK ps (j+1)).map gB).length:=by rw[List.length_map];exact h1.1
       have hbp3:0<((T++ps.take (j+1)).map pvS).length:=by rw[List.length_map];exact h1.2
       dsimp only
       rw[aB hap3,aB hbp3,hn2.out,ht.out];exact agr
      ·have h1:=hnx.out
       have hap3:0<((A++wiK ps (j+1)).map gB).length:=by rw[List.length_map];exact h1.1
       have hbp3:0<((T++ps.take (j+1)).map pvS).length:=by rw[List.length_map];exact h1.2
       dsimp only
       rw[aF hap3,aF hbp3,hn2.out,ht.out];simp(disch:=(first|omega|(simp only[push_cast];first|done|omega))) only[push_cast,↓reduceIte,Nat.reduceEqDiff,Nat.reduceBEq,Nat.reduceAdd,Nat.reduceSub,Int.reduceToNat,List.cons_append,List.nil_append, *]
    ·obtain rfl:j=ps.length:=by omega
     rw[List.take_length]at*;rw[←hKI.out,←hKT.out]at*;obtain⟨hi2,ht2⟩:=hpos.out;obtain⟨x3,x4,x5⟩:=hx2 hi2;have x6:¬xt2=x2:=fun q=>x5 q.symm;have hap:0<((piK ws pats (k+1)).map gB).length:=by rw[List.length_map];omega
     have hbp:0<((txK ws pats (k+1)).map pvS).length:=by rw[List.length_map];omega
     clear hx2 hwk hps;simp only[aB hap,aB hbp,aF hap,aF hbp,List.length_map,List.cons_append,List.nil_append];(refine wlk ?_;intros);refine⟨(k+1,x2,xt2,y2),⟨by dsimp only;omega,fun _=>⟨x3,x4,x5⟩⟩,by dsimp only;omega,?_,?_,rfl⟩
     ·simp(disch:=(first|omega|(simp only[push_cast];first|done|omega))) only[push_cast,↓reduceIte,Nat.reduceEqDiff,Nat.reduceBEq,Nat.reduceAdd,Nat.reduceSub,Int.reduceToNat,aB hap,aB hbp, *]
     ·simp(disch:=(first|omega|(simp only[push_cast];first|done|omega))) only[push_cast,↓reduceIte,Nat.reduceEqDiff,Nat.reduceBEq,Nat.reduceAdd,Nat.reduceSub,Int.reduceToNat,aF hap,aF hbp,List.cons_append,List.nil_append, *]
   ·rw[if_neg hk0]at hKI0
    have hi0:=hip k hk (by omega);have ht0:=htp k hk (by omega);obtain⟨x3,x4,x5⟩:=hxy (by omega);have x6:¬xt=x:=fun q=>x5 q.symm;obtain⟨A,hA⟩:∃A,A=piK ws pats k++[(2,4,3,1,0,0,false)]:=⟨_,rfl⟩;rw[←hA]at hKI0;have hAl:A.length=(piK ws pats k).length+1:=by rw[hA];simp
    generalize piK ws pats k=P at*;generalize txK ws pats k=T at*;have hAT:(0<A.length∧0<T.length)∨(A.length=0∧T.length=0):=.inl ⟨by omega,ht0⟩;have hap1:0<(P.map gB).length:=by rw[List.length_map];omega
    have hbp1:0<(T.map pvS).length:=by rw[List.length_map];omega
    have hap2:0<((A++wiK ps 0).map gB).length:=by rw[List.length_map,List.length_append];omega
    have hbp2:0<((T++ps.take 0).map pvS).length:=by rw[List.length_map,List.length_append];omega
    simp only[aB hap1,aB hbp1,aF hap1,aF hbp1,List.length_map,List.cons_append,List.nil_append];have hlkP:P.length≤600:=by omega
    replace hlk:A.length≤43*k+1:=by omega
    have hA1:A++wiK ps 0=P++[(2,4,3,1,0,0,false)]:=by rw[hA];exact List.append_nil _
    have hT1:T++ps.take 0=T:=List.append_nil _;have hI0:=Lib.hid (And.intro hA1 hT1);have hKI:=Lib.hid hKI0;replace hKT:=Lib.hid hKT;replace hA:=Lib.hid hA;replace hAl:=Lib.hid hAl;clear hKI0 hxy hap hpp hpw hpl hil htl hip htp hA1 hT1;replace hk0:0<k:=by omega
    (refine wlk ?_;intros);refine aG (α:=Nat×Nat×Nat×Nat) mixed (fun z=>[(1,.lst false 1 (pats.map pvS)),(7,nP 7 ((A++wiK ps z.1).map gB) z.2.1),(8,nP 1 ((T++ps.take z.1).map pvS) z.2.2.1),(26,.lst false 1 (ws.map pvS)),(27,iv ws.length),(28,iv k),(42,.lst true 1 (ps.map pvS)),(43,iv ps.length),(44,iv z.1)])
     (fun z=>nO 79 7 ((A++wiK ps z.1).map gB) z.2.1++nO 9 1 ((T++ps.take z.1).map pvS) z.2.2.1) (fun z=>z.2.2.2)
     (fun z=>z.1≤ps.length∧(0<(A++wiK ps z.1).length→z.2.1<z.2.2.2∧z.2.2.1<z.2.2.2∧¬z.2.1=z.2.2.1)) (fun z=>ps.length-z.1) (by kernel_rfl) (0,y+1,xt,y+2) ⟨Nat.zero_le _,fun _=>by dsimp only;omega⟩ ?_ ?_ rfl ?_
    ·dsimp only;rw[aB hap2,aB hbp2,hI0.out.1,hI0.out.2];exact agr
    ·dsimp only;rw[aF hap2,aF hbp2,hI0.out.1,hI0.out.2];simp(disch:=(first|omega|(simp only[push_cast];first|done|omega))) only[push_cast,↓reduceIte,Nat.reduceEqDiff,Nat.reduceBEq,Nat.reduceAdd,Nat.reduceSub,Int.reduceToNat,List.cons_append,List.nil_append, *]
    clear hI0;rintro⟨j,x2,xt2,y2⟩ ⟨hj,hx2⟩;dsimp only at hj hx2;have hwj:=hwk j;by_cases hjl:j<ps.length
    ·have hn:A++wiK ps (j+1)=(if j=0 then A++wiK ps j else(A++wiK ps j)++[(3,3,0,0,0,50,true)])++[(1,pI (ps[j]?.getD .empty),0,0,0,0,false)]:=by rw[wiK];split<;>simp
     have ht:T++ps.take (j+1)=(T++ps.take j)++[ps[j]?.getD .empty]:=by rw[uz hjl,List.append_assoc]
     have h3:(0<(A++wiK ps j).length∧0<(T++ps.take j).length)∨((A++wiK ps j)=[]∧(T++ps.take j)=[]∧j<1):=by
      by_cases hj0:j=0
      ·subst hj0
       rcases hAT with h|h
       ·exact .inl ⟨by rw[List.length_append];omega,by rw[List.length_append];omega⟩
       ·exact .inr ⟨by rw[List.eq_nil_of_length_eq_zero h.1];rfl,by rw[List.eq_nil_of_length_eq_zero h.2];rfl,by omega⟩
      ·refine .inl ⟨by rw[List.length_append];have:=ahL ps (k:=j) (by omega);omega,by rw[List.length_append,List.length_take];omega⟩
     have hil2:(A++wiK ps j).length≤700:=by rw[List.length_append];omega
     have htl2:(T++ps.take j).length≤400:=by rw[List.length_append,List.length_take];omega
     have apw:=ab1 (hps j hjl);have hnx:0<(A++wiK ps (j+1)).length∧0<(T++ps.take (j+1)).length:=⟨by rw[hn,List.length_append,List.length_singleton];omega,by rw[ht,List.length_append,List.length_singleton];omega⟩;replace hnx:=Lib.hid hnx;replace hn:=Lib.hid hn;replace ht:=Lib.hid ht;generalize A++wiK ps j=its at*;generalize T++ps.take j=tx at*;clear hwj hwk hps;rcases h3 with⟨hi0,ht0⟩|⟨rfl,rfl,hj1⟩
     ·obtain⟨x3,x4,x5⟩:=hx2 hi0
      have hap:0<(its.map gB).length:=by rw[List.length_map];omega
      have hbp:0<(tx.map pvS).length:=by rw[List.length_map];omega
      have x6:¬xt2=x2:=fun q=>x5 q.symm;clear hx2;simp only[aB hap,aB hbp,aF hap,aF hbp,List.length_map,List.cons_append,List.nil_append];by_cases hj0:j=0
      ·have hn2:=hn.out
       rw[if_pos hj0]at hn2;replace hn2:=Lib.hid hn2;replace hj0:j<1:=by omega
       (refine wlk ?_;intros);refine⟨(j+1,y2+1,y2+3,y2+4),⟨by dsimp only;omega,fun _=>by dsimp only;omega⟩,by dsimp only;omega,?_,?_,rfl⟩
       ·have h1:=hnx.out
        have hap3:0<((A++wiK ps (j+1)).map gB).length:=by rw[List.length_map];exact h1.1
        have hbp3:0<((T++ps.take (j+1)).map pvS).length:=by rw[List.length_map];exact h1.2
        dsimp only
        rw[aB hap3,aB hbp3,hn2.out,ht.out];exact agr
       ·have h1:=hnx.out
        have hap3:0<((A++wiK ps (j+1)).map gB).length:=by rw[List.length_map];exact h1.1
        have hbp3:0<((T++ps.take (j+1)).map pvS).length:=by rw[List.length_map];exact h1.2
        dsimp only
        rw[aF hap3,aF hbp3,hn2.out,ht.out];simp(disch:=(first|omega|(simp only[push_cast];first|done|omega))) only[push_cast,↓reduceIte,Nat.reduceEqDiff,Nat.reduceBEq,Nat.reduceAdd,Nat.reduceSub,Int.reduceToNat,List.cons_append,List.nil_append, *]
      ·have hn2:=hn.out
       rw[if_neg hj0]at hn2;replace hn2:=Lib.hid hn2;(refine wlk ?_;intros);refine⟨(j+1,y2+3,y2+5,y2+6),⟨by dsimp only;omega,fun _=>by dsimp only;omega⟩,by dsimp only;omega,?_,?_,rfl⟩
       ·have h1:=hnx.out
        have hap3:0<((A++wiK ps (j+1)).map gB).length:=by rw[List.length_map];exact h1.1
        have hbp3:0<((T++ps.take (j+1)).map pvS).length:=by rw[List.length_map];exact h1.2
        dsimp only
        rw[aB hap3,aB hbp3,hn2.out,ht.out];exact agr
       ·have h1:=hnx.out
        have hap3:0<((A++wiK ps (j+1)).map gB).length:=by rw[List.length_map];exact h1.1
        have hbp3:0<((T++ps.take (j+1)).map pvS).length:=by rw[List.length_map];exact h1.2
        dsimp only
        rw[aF hap3,aF hbp3,hn2.out,ht.out];simp(disch:=(first|omega|(simp only[push_cast];first|done|omega))) only[push_cast,↓reduceIte,Nat.reduceEqDiff,Nat.reduceBEq,Nat.reduceAdd,Nat.reduceSub,Int.reduceToNat,List.cons_append,List.nil_append, *]
     ·have hn2:=hn.out
      rw[if_pos (show j=0 by omega)]at hn2;replace hn2:=Lib.hid hn2;clear hx2;(refine wlk ?_;intros);refine⟨(j+1,y2+1,y2+3,y2+4),⟨by dsimp only;omega,fun _=>by dsimp only;omega⟩,by dsimp only;omega,?_,?_,rfl⟩
      ·have h1:=hnx.out
       have hap3:0<((A++wiK ps (j+1)).map gB).length:=by rw[List.length_map];exact h1.1
       have hbp3:0<((T++ps.take (j+1)).map pvS).length:=by rw[List.length_map];exact h1.2
       dsimp only
       rw[aB hap3,aB hbp3,hn2.out,ht.out];exact agr
      ·have h1:=hnx.out
       have hap3:0<((A++wiK ps (j+1)).map gB).length:=by rw[List.length_map];exact h1.1
       have hbp3:0<((T++ps.take (j+1)).map pvS).length:=by rw[List.length_map];exact h1.2
       dsimp only
       rw[aF hap3,aF hbp3,hn2.out,ht.out];simp(disch:=(first|omega|(simp only[push_cast];first|done|omega))) only[push_cast,↓reduceIte,Nat.reduceEqDiff,Nat.reduceBEq,Nat.reduceAdd,Nat.reduceSub,Int.reduceToNat,List.cons_append,List.nil_append, *]
    ·obtain rfl:j=ps.length:=by omega
     rw[List.take_length]at*;rw[←hKI.out,←hKT.out]at*;obtain⟨hi2,ht2⟩:=hpos.out;obtain⟨x3,x4,x5⟩:=hx2 hi2;have x6:¬xt2=x2:=fun q=>x5 q.symm;have hap:0<((piK ws pats (k+1)).map gB).length:=by rw[List.length_map];omega
     have hbp:0<((txK ws pats (k+1)).map pvS).length:=by rw[List.length_map];omega
     clear hx2 hwk hps;simp only[aB hap,aB hbp,aF hap,aF hbp,List.length_map,List.cons_append,List.nil_append];(refine wlk ?_;intros);refine⟨(k+1,x2,xt2,y2),⟨by dsimp only;omega,fun _=>⟨x3,x4,x5⟩⟩,by dsimp only;omega,?_,?_,rfl⟩
     ·simp(disch:=(first|omega|(simp only[push_cast];first|done|omega))) only[push_cast,↓reduceIte,Nat.reduceEqDiff,Nat.reduceBEq,Nat.reduceAdd,Nat.reduceSub,Int.reduceToNat,aB hap,aB hbp, *]
     ·simp(disch:=(first|omega|(simp only[push_cast];first|done|omega))) only[push_cast,↓reduceIte,Nat.reduceEqDiff,Nat.reduceBEq,Nat.reduceAdd,Nat.reduceSub,Int.reduceToNat,aF hap,aF hbp,List.cons_append,List.nil_append, *]
  ·obtain rfl:k=ws.length:=by omega
   have hi0:=hip _ (Nat.le_refl _) (by omega);have ht0:=htp _ (Nat.le_refl _) (by omega);obtain⟨x3,x4,x5⟩:=hxy (by omega);have x6:¬xt=x:=fun q=>x5 q.symm;have hlk:=hil ws.length;have hlt:=htl ws.length;generalize piK ws pats ws.length=P at*;generalize txK ws pats ws.length=T at*;have hap1:0<(P.map gB).length:=by rw[List.length_map];omega
   have hbp1:0<(T.map pvS).length:=by rw[List.length_map];omega
   simp only[aB hap1,aB hbp1,aF hap1,aF hbp1,List.length_map,List.cons_append,List.nil_append];clear hap hpp hpw hpl hil htl hip htp hxy;by_cases h60:P.length+3≤60
   ·rw[decide_eq_true (by simpa using h60)]
    (refine wlk ?_;intros);all_goals((with_reducible apply cO (by first|exact .inl rfl|exact .inr rfl));(simp(disch:=(first|omega|(simp only[push_cast];first|done|omega))) only[push_cast,↓reduceIte,Nat.reduceEqDiff,Nat.reduceBEq,Nat.reduceAdd,Nat.reduceSub,Int.reduceToNat, *]<;>with_reducible exact rfl))
    all_goals(rw[show decide ((P.length:Int)+1+1+1≤60)=true from decide_eq_true (by omega)];exact PV.le_refl _)
   ·rw[decide_eq_false (by simpa using h60)]
    (refine wlk ?_;intros);all_goals((with_reducible apply cO (by first|exact .inl rfl|exact .inr rfl));(simp(disch:=(first|omega|(simp only[push_cast];first|done|omega))) only[push_cast,↓reduceIte,Nat.reduceEqDiff,Nat.reduceBEq,Nat.reduceAdd,Nat.reduceSub,Int.reduceToNat, *]<;>with_reducible exact rfl))
    all_goals(rw[show decide ((P.length:Int)+1+1+1≤60)=false from decide_eq_false (by omega)];exact PV.le_refl _)
def arF:ajm:=G4 dSs dSs dI dI fun ws pats wd most=>if ow ws∧ow pats then some (.tup [.row 0 1 0 (mE ws pats wd most).length,bv (mO ws pats wd most)],[(9,1,(mE ws pats wd most).map fun s=> .val (.string s))])else none
theorem aqN {l l':LS}:(l.map fun s=>PV.val (.string s))++(l'.map fun s=>PV.val (.string s))=(l++l').map fun s=>PV.val (.string s):=List.map_append.symm
attribute[push_cast]
 aqN
def auY:Ctx:={fn:=aY [(62,φPi),(63,φBb),(64,φPr)],io:=aY []}
theorem aqc:ak Tryz.prog auY:=okΓ (fC Tryz.func62 agZ (fC Tryz.func63 agc (fC Tryz.func64 yT aj))) aj
def abQ:=ah (Γ:=auY) (f:=62) (φ:=φPi) rfl
def abC:=ah (Γ:=auY) (f:=63) (φ:=φBb) rfl
def abJ:=ah (Γ:=auY) (f:=64) (φ:=φPr) rfl
theorem aj2:tQ Tryz.prog 46 arF:=by
 refine yC mixed aqc Tryz.func46 rfl 127 rfl [.tmp 8,.tmp 9] rfl (by kernel_rfl) fun ps r cs' hr=>?_;obtain⟨ws,pats,wd,most,rfl,hq⟩:=aaA hr;clear hr;split at hq
 case isFalse=>cases hq
 case isTrue hpre=>
 cases hq;refine⟨by simp,?_⟩;simp only[dIs,dUs,dSs,dx,dA,dz,dF,aS,dD,aT,aU,aR,aV];have api:=aqb hpre;unfold mE mO;cases hp:oO ws pats with
 |false=>rw[hp]at api;simp only[Bool.false_and];rw[if_neg (by decide)];generalize piV ws pats=l at*;clear hp;have hl:l=[]∨True:=.inr trivial;clear hl;have gpgl_c62:=abQ;have gpgl_c63:=abC;have gpgl_c64:=abJ;(refine wlk ?_;intros);all_goals((with_reducible apply oP (0) (by first|exact .inl rfl|exact .inr rfl));(focus(simp(disch:=(first|omega|(simp only[push_cast];first|done|omega))) only[push_cast,↓reduceIte,Nat.reduceEqDiff,Nat.reduceBEq,Nat.reduceAdd,Nat.reduceSub,Int.reduceToNat, *]<;>with_reducible exact rfl));(focus(simp(disch:=(first|omega|(simp only[push_cast];first|done|omega))) only[push_cast,↓reduceIte,Nat.reduceEqDiff,Nat.reduceBEq,Nat.reduceAdd,Nat.reduceSub,Int.reduceToNat, *]<;>with_reducible exact rfl)))
 |true=>
 have hB:=alW hp;have hV:piV ws pats=piR ws pats:=if_pos hp;rw[hp]at api;simp only[Bool.true_and];have hl:=bG hB;have apb:=ag8 (l:=piV ws pats) (wd:=wd) (most:=most) (show(piV ws pats).length≤1000 by omega);have hnb:=atX ws pats;rw[←hV]at hnb⊢;have hwl:=rR (xw.1 hp).1;have hap:∀k,k<ws.length→φPr [.val (.string (ws[k]?.getD .empty)),.lst false 1 (pats.map fun s=> .val (.string s))]=some (.lst true 1 ((bW (ws[k]?.getD .empty) pats).map fun s=> .val (.string s))):=fun k hk=>aap ⟨hpre.1.2 k,hpre.2⟩;have htl:=aaL ws pats;have htz:∀k:Nat,((txR ws pats)[k]?.getD ByteArray.empty).size≤20:=abG;have hpl:∀k:Nat,(bW (ws[k]?.getD ByteArray.empty) pats).length≤21:=fun k=>jN _ _;have hob:jH (piV ws pats) wd most=true→aqA (piV ws pats) (dX (piV ws pats) wd most):=fun h=>agV hB (gU.1 h).2.2.2.1.2;have hrr:jH (piV ws pats) wd most=true→am9 (piV ws pats) wd most=dX (piV ws pats) wd most:=fun h=>if_pos h;clear hp hB hV;generalize piV ws pats=l at*;cases hb:jH l wd most with
 |false=>rw[hb]at apb;rw[if_neg (by decide)];clear hob hrr hnb hap htl htz hpl hpre hb;have gpgl_c62:=abQ;have gpgl_c63:=abC;have gpgl_c64:=abJ;(refine wlk ?_;intros);all_goals((with_reducible apply oP (0) (by first|exact .inl rfl|exact .inr rfl));(focus(simp(disch:=(first|omega|(simp only[push_cast];first|done|omega))) only[push_cast,↓reduceIte,Nat.reduceEqDiff,Nat.reduceBEq,Nat.reduceAdd,Nat.reduceSub,Int.reduceToNat, *]<;>with_reducible exact rfl));(focus(simp(disch:=(first|omega|(simp only[push_cast];first|done|omega))) only[push_cast,↓reduceIte,Nat.reduceEqDiff,Nat.reduceBEq,Nat.reduceAdd,Nat.reduceSub,Int.reduceToNat, *]<;>with_reducible exact rfl)))
 |true=>
  have hbr:=hob hb;rw[hb,hrr hb]at apb;rw[if_pos rfl];clear hob hrr hb hpre;generalize dX l wd most=br at*;obtain⟨hbl,-⟩:=id hbr;have hbat:=fun k hk=>hbr.at_ (k:=k) hk;clear hbr;have htR:txR ws pats=txK ws pats ws.length:=rfl;have gpgl_c62:=abQ;have gpgl_c63:=abC;have gpgl_c64:=abJ;(refine wlk ?_;intros);refine aG (α:=Nat×Nat×Nat) mixed (fun z=>[(0,.lst false 1 (ws.map pvS)),(1,.lst false 1 (pats.map pvS)),(10,.row 0 1 0 0),(11,.lst true 7 (l.map gB)),(13,.lst true 1 (br.map pvN)),(15,.row z.2.1 1 0 (txK ws pats z.1).length),(16,iv z.1)])
   (fun z=>[(0,9,1,[]),(z.2.1,9,1,(txK ws pats z.1).map pvS)]) (fun z=>z.2.2)
   (fun z=>z.1≤ws.length∧0<z.2.1∧z.2.1<z.2.2) (fun z=>ws.length-z.1) (by kernel_rfl) (0,1,2) ⟨Nat.zero_le _,by simp,by simp⟩ ?_ ?_ rfl ?_
  ·simp(disch:=(first|omega|(simp only[push_cast];first|done|omega))) only[push_cast,↓reduceIte,Nat.reduceEqDiff,Nat.reduceBEq,Nat.reduceAdd,Nat.reduceSub,Int.reduceToNat,txK,List.length_nil, *]
  ·simp(disch:=(first|omega|(simp only[push_cast];first|done|omega))) only[push_cast,↓reduceIte,Nat.reduceEqDiff,Nat.reduceBEq,Nat.reduceAdd,Nat.reduceSub,Int.reduceToNat,txK,List.map_nil, *]
  rintro⟨k,x,y⟩ ⟨hk,hx0,hxy⟩;dsimp only at hk hx0 hxy;have hlk:=htl k;by_cases h0:k<ws.length
  ·have apk:=hap k h0
   have hlp:=hpl k;have hn:txK ws pats (k+1)=txK ws pats k++bW (ws[k]?.getD .empty) pats:=rfl;replace hn:=Lib.hid hn;generalize txK ws pats k=out at*;generalize bW (ws[k]?.getD .empty) pats=ps at*;clear htl hap hpl htR hnb htz hbat;(refine wlk ?_;intros);refine⟨(k+1,y,y+1),⟨by dsimp only;omega,by dsimp only;omega,by dsimp only;omega⟩,by dsimp only;omega,?_,?_,rfl⟩
   ·dsimp only
    rw[hn.out];exact agr
   ·dsimp only
    rw[hn.out];exact agr
  ·obtain rfl:k=ws.length:=by omega
   rw[←htR];rw[←htR]at hlk;have hts:=fun a=>wh (l:=l) (tx:=txR ws pats) (a:=a) htz;have htz2:∀k:Nat,((txR ws pats)[k]?.getD ByteArray.empty).size≤20:=htz;have htxl:(txR ws pats).length≤252:=by omega
   generalize txR ws pats=tx at*;clear htl hap hpl htR htz;have hlnk:=og l tx br;(refine wlk ?_;intros);refine aG (α:=Nat×Nat×Nat×Int) mixed (fun z=>[(10,.row z.2.1 1 0 z.1),(11,.lst true 7 (l.map gB)),(13,.lst true 1 (br.map pvN)),(15,.row x 1 0 tx.length),(17,iv (nbX l (frB br z.1))),(18,iv z.2.2.2),(19,iv z.1)])
    (fun z=>[(x,9,1,tx.map pvS),(z.2.1,9,1,(oG l tx br z.1).map pvS)]) (fun z=>z.2.2.1)
    (fun z=>z.1≤br.length∧(¬z.2.1=x∧x<z.2.2.1∧z.2.1<z.2.2.1)∧z.2.2.2=(frB br z.1:Int)-1) (fun z=>br.length-z.1) (by kernel_rfl) (0,0,y,-1) ⟨Nat.zero_le _,⟨by dsimp only;omega,hxy,by dsimp only;omega⟩,rfl⟩ ?_ ?_ rfl ?_
   ·simp(disch:=(first|omega|(simp only[push_cast];first|done|omega))) only[push_cast,↓reduceIte,Nat.reduceEqDiff,Nat.reduceBEq,Nat.reduceAdd,Nat.reduceSub,Int.reduceToNat,frB,nbX,List.take_zero,List.filter_nil,List.length_nil, *]
   ·simp(disch:=(first|omega|(simp only[push_cast];first|done|omega))) only[push_cast,↓reduceIte,Nat.reduceEqDiff,Nat.reduceBEq,Nat.reduceAdd,Nat.reduceSub,Int.reduceToNat,oG,List.map_nil, *]
   rintro⟨k,o,y2,v⟩ ⟨hkb,⟨hox,hxy2,hoy⟩,hv⟩;dsimp only at hkb hox hxy2 hoy hv;subst hv;have hxo:¬x=o:=fun q=>hox q.symm;clear hk h0 hlk;have hlk:=hlnk k;by_cases hk:k<br.length
   ·obtain⟨b1,b2,b3,b4⟩:=hbat k hk
    have hn:oG l tx br (k+1)=oG l tx br k++[lnR l tx (frB br k) (br[k]?.getD 0).toNat]:=rfl;have hfs:=xB br k;replace hn:=Lib.hid hn;replace hfs:=Lib.hid hfs;generalize oG l tx br k=out at*;generalize frB br k=a at*;obtain⟨en,hen⟩:∃en:Nat,br[k]?.getD 0=en:=⟨(br[k]?.getD 0).toNat,by omega⟩;rw[hen,Int.toNat_natCast]at hn hfs b2 b3 b4;rw[hen]at b1;have hmk:lnR l tx a en=if(l[en]?.getD it0).2.2.2.2.2.2=true then lnT l tx a (en-a)++⟨#[45]⟩else lnT l tx a (en-a):=rfl;replace b4:¬(l[en]?.getD it0).1=1:=b4;have hbox:nbX l (en+1)=nbX l en:=ahy b3 b4;replace hmk:=Lib.hid hmk;replace hbox:=Lib.hid hbox;clear hbat hlnk;have h45:(⟨#[45]⟩:ByteArray).size=1:=rfl;have h32:(⟨#[32]⟩:ByteArray).size=1:=rfl;(refine wlk ?_;intros);refine aG (α:=Nat) mixed (fun j=>[(10,.row o 1 0 k),(11,.lst true 7 (l.map gB)),(13,.lst true 1 (br.map pvN)),(15,.row x 1 0 tx.length),(17,iv (nbX l (a+j))),(18,iv ((a:Int)-1)),(19,iv k),(20,.val (.string (lnT l tx a j))),(21,iv ((a+j:Nat):Int))])
     (fun _=>[(x,9,1,tx.map pvS),(o,9,1,out.map pvS)]) (fun _=>y2)
     (fun j=>a+j≤en) (fun j=>en-j) (by kernel_rfl) 0 (by omega) ?_ ?_ rfl ?_
    ·have hl0:lnT l tx a 0=⟨#[]⟩:=rfl
     have hcan:(a:Int)-1+1=a:=by omega
     exact agr
    ·exact agr
    intro j hj;have hsz:=hts a j;by_cases hje:a+j<en
    ·have hal:a+j<l.length:=by omega
     have hS:lnT l tx a (j+1)=oz l tx (lnT l tx a j) (a+j):=rfl;have hbx1:=fun q=>aa6 (l:=l) (n:=a+j) hal q;have hbx2:=fun q=>ahy (l:=l) (n:=a+j) hal q;have hlt1:=fun q=>ahs (l:=l) (n:=a+j) hal q;have hq1:=fun q=>al1 (l:=l) (tx:=tx) (s:=lnT l tx a j) (n:=a+j) q;have hq2:=fun q=>ali (l:=l) (tx:=tx) (s:=lnT l tx a j) (n:=a+j) q;have hq3:=fun q r=>ajA (l:=l) (tx:=tx) (s:=lnT l tx a j) (n:=a+j) q r;rw[hnb]at hlt1;rw[←hS]at hq1 hq2 hq3;have hnx:=af0 l (a+j);rw[hnb]at hnx;clear hS hmk hn hfs hbox;generalize hs9:lnT l tx a j=s at*;generalize hs8:lnT l tx a (j+1)=s2 at*;replace hs9:=Lib.hid hs9;replace hs8:=Lib.hid hs8;generalize hnb2:nbX l (a+j+1)=nn2 at*;replace hnb2:=Lib.hid hnb2;generalize nbX l (a+j)=nn at*;clear hnb b4;change∀q:(l[a+j]?.getD it0).1=1,_ at hbx1 hlt1 hq1;change∀q:¬(l[a+j]?.getD it0).1=1,_ at hbx2 hq3;change∀q:(l[a+j]?.getD it0).1=2∧0<(l[a+j]?.getD it0).2.1∧¬s=⟨#[]⟩,_ at hq2;have hq3':¬(l[a+j]?.getD it0).1=1→¬((l[a+j]?.getD it0).1=2∧0<(l[a+j]?.getD it0).2.1∧¬s=⟨#[]⟩)→s2=s:=hq3;clear hq3;generalize hyy:l[a+j]?.getD it0=yy at*;obtain⟨y1,y2',y3,y4,y5,y6,y7⟩:=yy;dsimp only at hbx1 hbx2 hlt1 hq1 hq2 hq3';have hfin:∀nn':Nat,∀s':ByteArray,nn2=nn'→s2=s'→nbX l (a+(j+1))=nn'∧lnT l tx a (j+1)=s':=fun nn' s' h1 h2=>⟨by rw[←h1];exact hnb2.out,by rw[←h2];exact hs8.out⟩;by_cases k1:y1=1
     ·have hf:=Lib.hid (hfin _ _ (hbx1 k1) (hq1 k1))
      have hn9:=hlt1 k1;have ht9:=htz2 nn;clear hbx1 hbx2 hlt1 hq1 hq2 hq3' hfin;subst k1;(refine wlk ?_;intros);refine⟨j+1,by dsimp only;omega,by dsimp only;omega,?_,?_,rfl⟩
      ·dsimp only
       rw[hf.out.1,hf.out.2];exact agi
      ·exact agr
     ·by_cases k2:y1=2∧0<y2'∧¬s=⟨#[]⟩
      ·have hf:=Lib.hid (hfin _ _ (hbx2 k1) (hq2 k2))
       clear hbx1 hbx2 hlt1 hq1 hq2 hq3' hfin;obtain⟨rfl,k2,k3⟩:=k2;(refine wlk ?_;intros);refine⟨j+1,by dsimp only;omega,by dsimp only;omega,?_,?_,rfl⟩
       ·dsimp only
        rw[hf.out.1,hf.out.2];exact agi
       ·exact agr
      ·have hf:=Lib.hid (hfin _ _ (hbx2 k1) (hq3' k1 k2))
       clear hbx1 hbx2 hlt1 hq1 hq2 hq3' hfin;by_cases k3:y1=2
       ·by_cases k4:0<y2'
        ·have k5:s=⟨#[]⟩:=Classical.byContradiction fun q=>k2 ⟨k3,k4,q⟩
         clear k2;subst k3 k5;(refine wlk ?_;intros);refine⟨j+1,by dsimp only;omega,by dsimp only;omega,?_,?_,rfl⟩
         ·dsimp only
          rw[hf.out.1,hf.out.2];exact agi
         ·exact agr
        ·clear k2
         subst k3;(refine wlk ?_;intros);refine⟨j+1,by dsimp only;omega,by dsimp only;omega,?_,?_,rfl⟩
         ·dsimp only
          rw[hf.out.1,hf.out.2];exact agi
         ·exact agr
       ·clear k2
        (refine wlk ?_;intros);refine⟨j+1,by dsimp only;omega,by dsimp only;omega,?_,?_,rfl⟩
        ·dsimp only
         rw[hf.out.1,hf.out.2];exact agi
        ·exact agr
    ·have hje2:j=en-a:=by omega
     have hae:a+j=en:=by omega
     rw[hae];rw[←hje2]at hmk;generalize lnT l tx a j=s at*;clear hje2;have hcl:(((en:Int)-1)+1)=en:=by omega
     have hfe:frB br (k+1)=en+1:=hfs.out;have hnx:nbX l (frB br (k+1))=nbX l en:=by rw[hfe];exact hbox.out
     replace hfe:=Lib.hid hfe;replace hnx:=Lib.hid hnx;clear hae b4 hfs hbox hcl hnb;generalize hyy:l[en]?.getD it0=yy at*;obtain⟨y1,y2',y3,y4,y5,y6,y7⟩:=yy;have hmk2:=hmk.out;clear hmk;dsimp only at hmk2;cases y7 with
     |true=>
      rw[if_pos rfl]at hmk2;rw[hmk2]at hn;clear hmk2;(refine wlk ?_;intros);refine⟨(k+1,y2+1,y2+2,(en:Int)),⟨by dsimp only;omega,⟨by dsimp only;omega,by dsimp only;omega,by dsimp only;omega⟩,by dsimp only;rw[hfe.out];omega⟩,by dsimp only;omega,?_,?_,rfl⟩
      ·dsimp only
       rw[hnx.out];exact agi
      ·dsimp only
       rw[hn.out];exact agr
     |false=>
      rw[if_neg (by decide)]at hmk2;rw[hmk2]at hn;clear hmk2;(refine wlk ?_;intros);refine⟨(k+1,y2+1,y2+2,(en:Int)),⟨by dsimp only;omega,⟨by dsimp only;omega,by dsimp only;omega,by dsimp only;omega⟩,by dsimp only;rw[hfe.out];omega⟩,by dsimp only;omega,?_,?_,rfl⟩
      ·dsimp only
       rw[hnx.out];exact agi
      ·dsimp only
       rw[hn.out];exact agr
   ·obtain rfl:k=br.length:=by omega
    generalize oG l tx br br.length=out at*;(refine wlk ?_;intros);all_goals((with_reducible apply oP (o) (by first|exact .inl rfl|exact .inr rfl));(focus(simp(disch:=(first|omega|(simp only[push_cast];first|done|omega))) only[push_cast,↓reduceIte,Nat.reduceEqDiff,Nat.reduceBEq,Nat.reduceAdd,Nat.reduceSub,Int.reduceToNat, *]<;>with_reducible exact rfl));(focus(simp(disch:=(first|omega|(simp only[push_cast];first|done|omega))) only[push_cast,↓reduceIte,Nat.reduceEqDiff,Nat.reduceBEq,Nat.reduceAdd,Nat.reduceSub,Int.reduceToNat, *]<;>with_reducible exact rfl)))
def akj:Fun:=abw arF
theorem ad3:Sound Tryz.prog 46 akj:=aj2.pure
theorem akr {ws pats:LS} {wd most:Int} (h:ow ws∧ow pats):akj [.lst false 1 (ws.map fun s=> .val (.string s)),.lst false 1 (pats.map fun s=> .val (.string s)),.val (.int .i64 wd),.val (.int .i64 most)]=some (.tup [.lst true 1 ((mE ws pats wd most).map fun s=> .val (.string s)),.val (.bool (mO ws pats wd most))]):=by refine nI (r:=.tup [.row 0 1 0 (mE ws pats wd most).length,.val (.bool (mO ws pats wd most))]) (cs0:=[(9,1,(mE ws pats wd most).map fun s=> .val (.string s))]) ((aoO (A:=dSs) (B:=dSs) (C:=dI) (D:=dI) ws pats wd most).trans (if_pos h)) ?_;rw[adz];(simp(disch:=(first|omega|(simp only[push_cast];first|done|omega))) only[push_cast,↓reduceIte,Nat.reduceEqDiff,Nat.reduceBEq,Nat.reduceAdd,Nat.reduceSub,Int.reduceToNat, *]<;>with_reducible exact rfl)
def arW:ajm:=G4 dSs dSs dI dI fun ws pats wd most=>if ow ws∧ow pats then some (.tup [nP 1 ((mE ws pats wd most).map fun s=> .val (.string s)) 0,bv (mO ws pats wd most)],nC 9 1 ((mE ws pats wd most).map fun s=> .val (.string s)))else none
theorem anc (es:List PV) (b:Bool):ou id fuel (.tup [nP 1 es 0,bv b])=some (.tup [nP 1 es 0,bv b]):=by cases es<;>rfl
theorem am1 {T:Nat} (l:LS):(nC T 1 (l.map fun s=>PV.val (.string s))).mapM (adW id fuel)=some (nC T 1 (l.map fun s=>PV.val (.string s))):=by
 cases l with
 |nil=>rfl
 |cons s l=>show [(T,1,(s::l).map fun s=>PV.val (.string s))].mapM (adW id fuel)=_;rw[mapM_cons',mapM_nil',ad9];rfl
theorem ahW {l:List It} {wd most lk:Int} {f a:Nat} (ha:a<l.length) (h:(aJ l wd most a lk).isSome=true):0<(bkF l wd most (f+1) a lk).length:=by obtain⟨r,hr⟩:=Option.isSome_iff_exists.1 h;rw[nN (by omega) hr];simp
theorem amr:Tryz.prog.underlying 77=some (.map 3 9):=by kernel_rfl
theorem aiC:Go.Maps.Keyed Tryz.prog 3:=Go.Maps.int_keyed Tryz.underlying3
theorem atc {n:Int} (h:okI n):keyOf Tryz.prog 3 (.int .i64 n)=some (.int .i64 n):=Go.Maps.keyOf_int_mk Tryz.underlying3 (by show(decide (-9223372036854775808≤n)&&decide (n≤9223372036854775807))=true;simp[h.1,h.2])
def aqz:Ctx:={fn:=aY [(52,akf),(53,φBb),(54,ahd)],io:=aY []}
theorem bY:ak Tryz.prog aqz:=okΓ (fC Tryz.func52 adL (fC Tryz.func53 ah9 (fC Tryz.func54 ad5 aj))) aj
def abW:=ah (Γ:=aqz) (f:=52) (φ:=akf) rfl
def aaW:=ah (Γ:=aqz) (f:=53) (φ:=φBb) rfl
def xE:=ah (Γ:=aqz) (f:=54) (φ:=ahd) rfl
set_option maxRecDepth 100000 in
theorem ak5:tQ Tryz.prog 28 arW:=by
 refine HY.auM (k:=3) (N:=113) (rs:=[.tmp 8,.tmp 9]) Tryz.func28 rfl rfl rfl (fun ps r cs' hr=>?_) (fun ps r cs' hr=>?_)
 ·obtain⟨ws,pats,wd,most,rfl,hq⟩:=aaA hr
  clear hr;split at hq
  case isFalse=>cases hq
  case isTrue hpre=>
  cases hq;refine⟨?_,anc _ _,am1 _⟩;simp only[dIs,dUs,dSs,dx,dA,dz,dF,aS,dD,aT,aU,aR,aV];(simp(disch:=(first|omega|(simp only[push_cast];first|done|omega))) only[push_cast,↓reduceIte,Nat.reduceEqDiff,Nat.reduceBEq,Nat.reduceAdd,Nat.reduceSub,Int.reduceToNat, *]<;>with_reducible exact rfl)
 obtain⟨ws,pats,wd,most,rfl,hq⟩:=aaA hr;clear hr;split at hq
 case isFalse=>cases hq
 case isTrue hpre=>
 cases hq;refine⟨by simp,fun B w00=>HY.start ?_⟩;simp only[dIs,dUs,dSs,dx,dA,dz,dF,aS,dD,aT,aU,aR,aV];have api:=ajk hpre;unfold mE mO;cases hp:oO ws pats with
 |false=>rw[hp]at api;simp only[Bool.false_and];rw[if_neg (by decide)];generalize(if aao ws pats=true then piR ws pats else [])=l at*;generalize(if aao ws pats=true then txR ws pats else [])=tx at*;clear hp;have gpgi_c52:=abW;have gpgi_c53:=aaW;have gpgi_c54:=xE;refine HY.seq (HY.eng mixed bY (by kernel_rfl) ?_);(try dsimp only);(refine wlk ?_;intros);refine HY.seq (HY.eng mixed bY (by kernel_rfl) ?_);(try dsimp only);(refine wlk ?_;intros);refine HY.seq (HY.eng mixed bY (by kernel_rfl) ?_);(try dsimp only);(refine wlk ?_;intros);refine⟨?_,fun b L e=>by cases e⟩;rw[List.map_nil,eZ,alH];((with_reducible apply pJ (by first|exact .inl rfl|exact .inr rfl));(simp(disch:=(first|omega|(simp only[push_cast];first|done|omega))) only[push_cast,↓reduceIte,Nat.reduceEqDiff,Nat.reduceBEq,Nat.reduceAdd,Nat.reduceSub,Int.reduceToNat, *]<;>with_reducible exact rfl))
 |true=>
 have hB:=alW hp;have hV:piV ws pats=piR ws pats:=if_pos hp;have hA:aao ws pats=true:=by obtain⟨h1,h2,h3,-⟩:=xw.1 hp;unfold aao;rw[h1,h2,decide_eq_true h3];rfl
 rw[hp,hA,if_pos rfl,if_pos rfl]at api;simp only[Bool.true_and];rw[hV]at hB;have hl:=bG hB;have apb:=ag8 (l:=piR ws pats) (wd:=wd) (most:=most) (show(piR ws pats).length≤1000 by omega);have hnb:=atX ws pats;rw[hV];have htz:∀k:Nat,((txR ws pats)[k]?.getD ByteArray.empty).size≤20:=abG;have htp:∀k:Nat,k<nb (piR ws pats)→1≤((txR ws pats)[k]?.getD ByteArray.empty).size:=fun k hk=>aut (by rw[←hnb];exact hk);have htl:(txR ws pats).length≤60:=by rw[←hnb];exact Nat.le_trans (List.length_filter_le _ _) hl
 have hob:jH (piR ws pats) wd most=true→aqA (piR ws pats) (dX (piR ws pats) wd most):=fun h=>agV hB (gU.1 h).2.2.2.1.2;have hrr:jH (piR ws pats) wd most=true→am9 (piR ws pats) wd most=dX (piR ws pats) wd most:=fun h=>if_pos h;have hbp:jH (piR ws pats) wd most=true→0<(dX (piR ws pats) wd most).length:=fun h=>ahW (gU.1 h).2.1 (gU.1 h).2.2.2.2;clear hp hA hV hpre;generalize piR ws pats=l at*;generalize txR ws pats=tx at*;cases hb:jH l wd most with
 |false=>rw[hb]at apb;rw[if_neg (by decide)];clear hob hrr hnb htz htp hb hbp;generalize am9 l wd most=br at*;have gpgi_c52:=abW;have gpgi_c53:=aaW;have gpgi_c54:=xE;refine HY.seq (HY.eng mixed bY (by kernel_rfl) ?_);(try dsimp only);(refine wlk ?_;intros);refine HY.seq (HY.eng mixed bY (by kernel_rfl) ?_);(try dsimp only);(refine wlk ?_;intros);refine HY.seq (HY.eng mixed bY (by kernel_rfl) ?_);(try dsimp only);(refine wlk ?_;intros);refine HY.seq (HY.eng mixed bY (by kernel_rfl) ?_);(try dsimp only);(refine wlk ?_;intros);refine HY.seq (HY.eng mixed bY (by kernel_rfl) ?_);(try dsimp only);(refine wlk ?_;intros);refine⟨?_,fun b L e=>by cases e⟩;rw[List.map_nil,eZ,alH];((with_reducible apply pJ (by first|exact .inl rfl|exact .inr rfl));(simp(disch:=(first|omega|(simp only[push_cast];first|done|omega))) only[push_cast,↓reduceIte,Nat.reduceEqDiff,Nat.reduceBEq,Nat.reduceAdd,Nat.reduceSub,Int.reduceToNat, *]<;>with_reducible exact rfl))
 |true=>
  have hbr:=hob hb;have hbp0:=hbp hb;rw[hb,hrr hb]at apb;rw[if_pos rfl];clear hob hrr hb hbp;generalize dX l wd most=br at*;have gpgi_c52:=abW;have gpgi_c53:=aaW;have gpgi_c54:=xE;refine HY.seq (HY.eng mixed bY (by kernel_rfl) ?_);(try dsimp only);(refine wlk ?_;intros);refine HY.seq (HY.eng mixed bY (by kernel_rfl) ?_);(try dsimp only);(refine wlk ?_;intros);refine HY.seq (HY.eng mixed bY (by kernel_rfl) ?_);(try dsimp only);(refine wlk ?_;intros);refine HY.seq (HY.eng mixed bY (by kernel_rfl) ?_);(try dsimp only);(refine wlk ?_;intros);refine HY.seq (HY.eng mixed bY (by kernel_rfl) ?_);(try dsimp only);(refine wlk ?_;intros);refine HY.seq (HY.each (HO.make rfl rfl (by decide) rfl fun b hbB=>?_));dsimp only[AS.put];refine HO.pre (imm:=⟨[],[],[]⟩) 1 bY (by kernel_rfl) (by simp only[List.take_succ_cons,List.take_zero]<;>exact rfl) (by simp only[List.drop_succ_cons,List.drop_zero]<;>exact rfl) (by simp only[List.map_cons,List.map_nil]<;>exact rfl) ?_;(try dsimp only);(refine wlk ?_;intros);refine HO.nil ?_;refine HY.seq (HY.seq (HY.eng mixed bY (by kernel_rfl) ?_));(try dsimp only);(refine wlk ?_;intros);(try dsimp only);have hll:((l.map gB).length:Int)=(l.length:Int):=by simp
  refine HY.block (HY.aaB (α:=Nat×Nat) (fun i=>[(10,.lst true 7 (l.map gB)),(11,.lst true 1 (tx.map pvS)),(13,.lst true 1 (br.map pvN)),(14,.val (.map (some b))),(43,.lst true 7 (l.map gB)),(44,iv l.length),(45,iv i.1)])
   (fun i=>[]) (fun i=>i.2) (fun i σ=>i.1≤l.length∧σ=some (b,bxL l tx i.1)) (fun i=>l.length-i.1) (0,0) ⟨Nat.zero_le _,rfl⟩ ?_ ?_ rfl ?_)
  ·(try dsimp only)
   exact agi
  ·(try dsimp only)
   exact agr
  rintro⟨k,y⟩ σ ⟨hk,rfl⟩;dsimp only at hk⊢;refine HY.seq (HY.eng mixed bY (by kernel_rfl) ?_);by_cases hkl:k<l.length
  ·have hn1:=af0 l k
   have hbl:=ag6 (tx:=tx) hk;have hnew:=aos (l:=l) (tx:=tx) (k:=k);have hyes:=fun h=>agw (l:=l) (tx:=tx) (k:=k) h;have hno:=fun h=>al6 (l:=l) (tx:=tx) (k:=k) h;have hlt:=fun h=>ahs (l:=l) (n:=k) hkl h;rw[hnb]at hlt hn1;replace hnew:=Lib.hid hnew;replace hyes:=Lib.hid hyes;replace hno:=Lib.hid hno;replace hlt:=Lib.hid hlt;replace hbl:=Lib.hid hbl;clear hnb htz htp hbr;(refine wlk ?_;intros);refine HY.seq (HY.eng mixed bY (by kernel_rfl) ?_);(try dsimp only);(refine wlk ?_;intros);(try dsimp only);refine HY.seq (HY.block (HY.seq (HY.eng mixed bY (by kernel_rfl) ?_)));(try dsimp only);(refine wlk ?_;intros);refine HY.seq (HY.eng mixed bY (by kernel_rfl) ?_);(try dsimp only);(refine wlk ?_;intros);refine HY.cond (b:=decide ((l[k]?.getD it0).1=1)) (by(simp(disch:=(first|omega|(simp only[push_cast];first|done|omega))) only[push_cast,↓reduceIte,Nat.reduceEqDiff,Nat.reduceBEq,Nat.reduceAdd,Nat.reduceSub,Int.reduceToNat, *]<;>with_reducible exact rfl)) (fun hc=>?_) (fun hc=>?_)
   ·have hc1:(l[k]?.getD it0).1=1:=of_decide_eq_true hc
    have h9:=hlt.out hc1;have hy9:=hyes.out hc1;replace hy9:=Lib.hid hy9;have hb9:=hbl.out;clear hc hyes hno hlt hbl;generalize hnn:nbX l k=nn at*;replace hnn:=Lib.hid hnn;generalize hLL:bxL l tx k=LL at*;replace hLL:=Lib.hid hLL;replace hb9:=Lib.hid hb9;refine HY.each (HO.pre (imm:=⟨[],[],[]⟩) 4 bY (by kernel_rfl) (by simp only[List.take_succ_cons,List.take_zero]<;>exact rfl) (by simp only[List.drop_succ_cons,List.drop_zero]<;>exact rfl) (by simp only[List.map_cons,List.map_nil]<;>exact rfl) ?_);(try dsimp only);(refine wlk ?_;intros);refine HO.axC amr rfl rfl rfl (by decide) (by(simp(disch:=(first|omega|(simp only[push_cast];first|done|omega))) only[push_cast,↓reduceIte,Nat.reduceEqDiff,Nat.reduceBEq,Nat.reduceAdd,Nat.reduceSub,Int.reduceToNat, *]<;>with_reducible exact rfl)) ?_;dsimp only[AS.put];rw[hb9.out];refine HO.pre (imm:=⟨[],[],[]⟩) 2 bY (by kernel_rfl) (by simp only[List.take_succ_cons,List.take_zero]<;>exact rfl) (by simp only[List.drop_succ_cons,List.drop_zero]<;>exact rfl) (by simp only[List.map_cons,List.map_nil]<;>exact rfl) ?_;(try dsimp only);(refine wlk ?_;intros);refine HO.upd aiC amr rfl rfl rfl (by(try dsimp only);(simp(disch:=(first|omega|(simp only[push_cast];first|done|omega))) only[push_cast,↓reduceIte,Nat.reduceEqDiff,Nat.reduceBEq,Nat.reduceAdd,Nat.reduceSub,Int.reduceToNat, *]<;>with_reducible exact rfl)) (key:=.int .i64 k) (val:=.string (tx[nn]?.getD .empty)) (congrArg toVal (show _=PV.val (.int .i64 k) by(try dsimp only);(simp(disch:=(first|omega|(simp only[push_cast];first|done|omega))) only[push_cast,↓reduceIte,Nat.reduceEqDiff,Nat.reduceBEq,Nat.reduceAdd,Nat.reduceSub,Int.reduceToNat, *]<;>with_reducible exact rfl))) (congrArg toVal (show _=PV.val (.string (tx[nn]?.getD .empty)) by(try dsimp only);(simp(disch:=(first|omega|(simp only[push_cast];first|done|omega))) only[push_cast,↓reduceIte,Nat.reduceEqDiff,Nat.reduceBEq,Nat.reduceAdd,Nat.reduceSub,Int.reduceToNat, *]<;>with_reducible exact rfl))) (atc (by omega)) fun L' hu=>?_;have hL':L'=bxL l tx (k+1):=by
     rw[hy9.out];cases hu with
     |new _=>rfl
     |old h=>exact absurd rfl (hnew.out (_,_) (by rw[h];exact List.mem_append.2 (.inr List.mem_cons_self)))
    refine HO.nil ?_;refine HY.eng mixed bY (by kernel_rfl) ?_;(try dsimp only);(refine wlk ?_;intros);(try dsimp only);refine⟨(k+1,y+1),⟨by dsimp only;omega,congrArg some (Prod.ext rfl hL')⟩,by dsimp only;omega,?_,?_,rfl⟩
    ·(try dsimp only)
     exact agi
    ·(try dsimp only)
     exact agr
   ·have hc1:¬(l[k]?.getD it0).1=1:=of_decide_eq_false hc
    have hn9:=hno.out hc1;clear hc hyes hno hlt hbl hnew;refine HY.skip ?_;refine HY.eng mixed bY (by kernel_rfl) ?_;(try dsimp only);(refine wlk ?_;intros);(try dsimp only);refine⟨(k+1,y+1),⟨by dsimp only;omega,congrArg some (Prod.ext rfl hn9.symm)⟩,by dsimp only;omega,?_,?_,rfl⟩
    ·(try dsimp only)
     exact agi
    ·(try dsimp only)
     exact agr
  ·obtain rfl:k=l.length:=by omega
   have hlook:∀n:Nat,n<l.length→(l[n]?.getD it0).1=1→lkP (aqz.see ⟨77,b,alR (bxL l tx l.length)⟩).mp 77 (.val (.map (some b))) (some (.int .i64 (n:Int))) false=some (.val (.string (tx[nbX l n]?.getD .empty))):=fun n h1 h2=>by have:=ajg (afQ (l:=l) (tx:=tx) l.length) (aoB (tx:=tx) h1 h2);simpa [Ctx.see,lkP]using this
   have hcall:∀(ob:bC) (ps:List PV),zY (aqz.see ⟨77,b,alR (bxL l tx l.length)⟩) ob 54 ps=(ps.mapM (reify false 0 ob fuel)).bind ahd:=xE;(refine wlk ?_;intros);refine HY.seq (HY.eng mixed bY (by kernel_rfl) ?_);(try dsimp only);(refine wlk ?_;intros);(try dsimp only);refine HY.see (M:=⟨77,b,alR (bxL l tx l.length)⟩) mixed bY rfl (fun key c p hp w1 g1 hM1=>?_) (by kernel_rfl) ?_
   ·obtain⟨rfl,v,hv,rfl⟩:=ahz hp
    obtain⟨n,hn,hkey⟩:=agB hv;dsimp only at hkey;subst hkey;exact⟨v,hM1.ab5 aiC amr false (atc (by omega)) hv,by simp[Rep]⟩
   generalize alR (bxL l tx l.length)=A9 at*;clear api apb;have htz2:=htz;have hlnk:=og l tx br;have hbat:=fun k hk=>hbr.at_ (k:=k) hk;have hbq:=fun k hk=>(hbr.2 k hk).2;have hbl:=hbr.1;clear hbr;(try dsimp only);(refine wlk ?_;intros);refine aG (α:=Nat×Nat×Nat) mixed (fun z=>[(10,.lst true 7 (l.map gB)),(11,.lst true 1 (tx.map pvS)),(13,.lst true 1 (br.map pvN)),(14,.val (.map (some b))),(17,nP 1 ((oG l tx br z.1).map pvS) z.2.1),(18,iv ((frB br z.1:Int)-1)),(61,.lst true 1 (br.map pvN)),(62,iv br.length),(63,iv z.1)])
    (fun z=>nO 9 1 ((oG l tx br z.1).map pvS) z.2.1) (fun z=>z.2.2) (fun z=>z.1≤br.length∧(0<z.1→z.2.1<z.2.2)) (fun z=>br.length-z.1) (by kernel_rfl) (0,0,y) ⟨Nat.zero_le _,fun h=>absurd h (Nat.lt_irrefl 0)⟩ ?_ ?_ rfl ?_
   ·have hf0:frB br 0=0:=rfl
    dsimp only
    rw[hf0,show oG l tx br 0=[]from rfl,List.map_nil,eZ];exact agi
   ·dsimp only
    rw[show oG l tx br 0=[]from rfl,List.map_nil,eF];exact agr
   rintro⟨k,x,y⟩ ⟨hk,hxy⟩;dsimp only at hk hxy⊢;have hlk0:=hlnk k;by_cases hkb:k<br.length
   ·by_cases hk0:k=0
    ·skip
     subst hk0;rw[show oG l tx br 0=[]from rfl,List.map_nil,eZ,eF];obtain⟨b1,b2,b3,b4⟩:=hbat 0 hkb;have hq:=hbq 0 hkb;have hn0:oG l tx br (0+1)=oG l tx br 0++[lnR l tx (frB br 0) (br[0]?.getD 0).toNat]:=rfl;have hfs:=xB br 0;have hlk9:(oG l tx br 0).length=0:=rfl;rw[show oG l tx br 0=[]from rfl,List.nil_append]at hn0;generalize frB br 0=a at*;obtain⟨en,hen⟩:∃en:Nat,br[0]?.getD 0=(en:Int):=⟨(br[0]?.getD 0).toNat,by omega⟩;rw[hen,Int.toNat_natCast]at hn0 hfs b2 b3 b4 hq;rw[hen]at b1;have hline:=afB (tx:=tx) hB hq htp;have hmk:lnR l tx a en=if(l[en]?.getD it0).2.2.2.2.2.2=true then lnT l tx a (en-a)++⟨#[45]⟩else lnT l tx a (en-a):=rfl;rw[←hline]at hmk;have api:=adG (l:=l) (a:=a) (en:=en) hB b2 b3;rw[hq,if_pos rfl]at api;have hil:=nV l (aD l a) en;have him:=fun x hx=>qm (l:=l) (b:=aD l a) (c:=en) x hx;generalize hI:l9 l (aD l a) en=is at*;have hit:=fun j hj=>xk (l:=l) (tx:=tx) (is:=is) (j:=j) hj;have his:=fun j hj=>wC (l:=l) (tx:=tx) htz is j hj;have hfull:is.take is.length=is:=List.take_of_length_le (Nat.le_refl _);replace hit:=Lib.hid hit;replace him:=Lib.hid him;replace hmk:=Lib.hid hmk;replace hn0:=Lib.hid hn0;replace hfull:=Lib.hid hfull;replace hlook:=Lib.hid hlook;have HFS:=Lib.hid hfs;have hfe:=Lib.hid (show(frB br (0+1):Int)-1=(en:Int) by rw[hfs];omega);clear hline hq hI hlnk hbat hbq hnb htp hfs;have h45:(⟨#[45]⟩:ByteArray).size=1:=rfl;have h32:(⟨#[32]⟩:ByteArray).size=1:=rfl;have hill:((is.map pvN).length:Int)=(is.length:Int):=by simp
     (refine wlk ?_;intros);refine aG (α:=Nat) mixed (fun j=>[(10,.lst true 7 (l.map gB)),(11,.lst true 1 (tx.map pvS)),(13,.lst true 1 (br.map pvN)),(14,.val (.map (some b))),(17,.val (.slice none 0 0)),(18,iv ((a:Int)-1)),(20,iv en),(21,.val (.string (liF l tx (is.take j)))),(61,.lst true 1 (br.map pvN)),(62,iv br.length),(63,iv (0:Nat)),(70,.lst true 1 (is.map pvN)),(71,iv is.length),(72,iv j)])
      (fun _=>[]) (fun _=>y) (fun j=>j≤is.length) (fun j=>is.length-j) (by kernel_rfl) 0 (Nat.zero_le _) ?_ ?_ rfl ?_
     ·have hl0:liF l tx (is.take 0)=⟨#[]⟩:=rfl
      (try dsimp only);rw[hl0];exact agi
     ·(try dsimp only)
      exact agr
     intro j hj;have hsz:=his j hj;by_cases hjl:j<is.length
     ·have hxm:=him.out (is[j]?.getD 0) (by rw[List.getElem?_eq_getElem hjl];exact List.getElem_mem hjl)
      have ht:=hit.out j hjl;obtain⟨n,hnn⟩:∃n:Nat,is[j]?.getD 0=n:=⟨(is[j]?.getD 0).toNat,by omega⟩;rw[hnn,Int.toNat_natCast]at hxm;rw[hnn,Int.toNat_natCast]at ht;obtain⟨hn1,hn2,hn3⟩:=hxm;have hnl:n<l.length:=by omega
      have hk3:¬(l[n]?.getD it0).1=3:=hn3;have hS:pU l tx (liF l tx (is.take j)) n=if(l[n]?.getD it0).1=1 then liF l tx (is.take j)++(tx[nbX l n]?.getD .empty)else if 0<(l[n]?.getD it0).2.1 then liF l tx (is.take j)++⟨#[32]⟩else liF l tx (is.take j):=rfl;rw[hS]at ht;have hlk9:=hlook.out n hnl;have hz9:=htz2 (nbX l n);clear hS hn3 his;generalize hs2:liF l tx (is.take (j+1))=s2 at*;replace hs2:=Lib.hid hs2;generalize liF l tx (is.take j)=s at*;generalize nbX l n=nn at*;generalize tx[nn]?.getD ByteArray.empty=tn at*;generalize hyy:l[n]?.getD it0=yy at*;obtain⟨y1,y2',y3,y4,y5,y6,y7⟩:=yy;dsimp only at ht hk3 hlk9;by_cases k1:y1=1
      ·rw[if_pos k1]at ht
       have hf:=Lib.hid ht;have hlk8:=hlk9 k1;clear ht hlk9;subst k1;(refine wlk ?_;intros);refine⟨j+1,by dsimp only;omega,by dsimp only;omega,?_,?_,rfl⟩
       ·dsimp only
        rw[hs2.out,hf.out];exact agi
       ·dsimp only
        exact agr
      ·rw[if_neg k1]at ht
       by_cases k2:0<y2'
       ·rw[if_pos k2]at ht
        have hf:=Lib.hid ht;clear ht hlk9;(refine wlk ?_;intros);refine⟨j+1,by dsimp only;omega,by dsimp only;omega,?_,?_,rfl⟩
        ·dsimp only
         rw[hs2.out,hf.out];exact agi
        ·dsimp only
         exact agr
       ·rw[if_neg k2]at ht
        have hf:=Lib.hid ht;clear ht hlk9;(refine wlk ?_;intros);refine⟨j+1,by dsimp only;omega,by dsimp only;omega,?_,?_,rfl⟩
        ·dsimp only
         rw[hs2.out,hf.out];exact agi
        ·dsimp only
         exact agr
     ·obtain rfl:j=is.length:=by omega
      rw[hfull.out]at*;generalize hSS:liF l tx is=s at*;clear his hSS;generalize hyy:l[en]?.getD it0=yy at*;obtain⟨y1,y2',y3,y4,y5,y6,y7⟩:=yy;have hmk2:=hmk.out;clear hmk;dsimp only at hmk2;cases y7 with
      |true=>
       rw[if_pos rfl]at hmk2;have hn:=hn0.out;rw[hmk2]at hn;replace hn:=Lib.hid hn;clear hmk2 hn0;(refine wlk ?_;intros);refine⟨(0+1,y+1,y+2),⟨by dsimp only;omega,fun _=>by dsimp only;omega⟩,by dsimp only;omega,?_,?_,rfl⟩
       ·dsimp only
        rw[hn.out,hfe.out,aB (by simp)];exact agi
       ·dsimp only
        rw[hn.out,aF (by simp)];exact agr
      |false=>
       rw[if_neg (by decide)]at hmk2;have hn:=hn0.out;rw[hmk2]at hn;replace hn:=Lib.hid hn;clear hmk2 hn0;(refine wlk ?_;intros);refine⟨(0+1,y+1,y+2),⟨by dsimp only;omega,fun _=>by dsimp only;omega⟩,by dsimp only;omega,?_,?_,rfl⟩
       ·dsimp only
        rw[hn.out,hfe.out,aB (by simp)];exact agi
       ·dsimp only
        rw[hn.out,aF (by simp)];exact agr
    ·skip
     have hnp:0<((oG l tx br k).map pvS).length:=by rw[List.length_map];omega
     have hxy2:=hxy (by omega);rw[aB hnp,aF hnp,List.length_map,hlk0];have hxne:¬x=y:=by omega
     have hyne:¬y=x:=by omega
     obtain⟨b1,b2,b3,b4⟩:=hbat k hkb;have hq:=hbq k hkb;have hn0:oG l tx br (k+1)=oG l tx br k++[lnR l tx (frB br k) (br[k]?.getD 0).toNat]:=rfl;have hfs:=xB br k;generalize oG l tx br k=out at*;generalize frB br k=a at*;obtain⟨en,hen⟩:∃en:Nat,br[k]?.getD 0=(en:Int):=⟨(br[k]?.getD 0).toNat,by omega⟩;rw[hen,Int.toNat_natCast]at hn0 hfs b2 b3 b4 hq;rw[hen]at b1;have hline:=afB (tx:=tx) hB hq htp;have hmk:lnR l tx a en=if(l[en]?.getD it0).2.2.2.2.2.2=true then lnT l tx a (en-a)++⟨#[45]⟩else lnT l tx a (en-a):=rfl;rw[←hline]at hmk;have api:=adG (l:=l) (a:=a) (en:=en) hB b2 b3;rw[hq,if_pos rfl]at api;have hil:=nV l (aD l a) en;have him:=fun x hx=>qm (l:=l) (b:=aD l a) (c:=en) x hx;generalize hI:l9 l (aD l a) en=is at*;have hit:=fun j hj=>xk (l:=l) (tx:=tx) (is:=is) (j:=j) hj;have his:=fun j hj=>wC (l:=l) (tx:=tx) htz is j hj;have hfull:is.take is.length=is:=List.take_of_length_le (Nat.le_refl _);replace hit:=Lib.hid hit;replace him:=Lib.hid him;replace hmk:=Lib.hid hmk;replace hn0:=Lib.hid hn0;replace hfull:=Lib.hid hfull;replace hlook:=Lib.hid hlook;have HFS:=Lib.hid hfs;have hfe:=Lib.hid (show(frB br (k+1):Int)-1=(en:Int) by rw[hfs];omega);clear hline hq hI hlnk hbat hbq hnb htp hfs;have h45:(⟨#[45]⟩:ByteArray).size=1:=rfl;have h32:(⟨#[32]⟩:ByteArray).size=1:=rfl;have hill:((is.map pvN).length:Int)=(is.length:Int):=by simp
     (refine wlk ?_;intros);refine aG (α:=Nat) mixed (fun j=>[(10,.lst true 7 (l.map gB)),(11,.lst true 1 (tx.map pvS)),(13,.lst true 1 (br.map pvN)),(14,.val (.map (some b))),(17,.row x 1 0 k),(18,iv ((a:Int)-1)),(20,iv en),(21,.val (.string (liF l tx (is.take j)))),(61,.lst true 1 (br.map pvN)),(62,iv br.length),(63,iv (k:Nat)),(70,.lst true 1 (is.map pvN)),(71,iv is.length),(72,iv j)])
      (fun _=>[(x,9,1,out.map pvS)]) (fun _=>y) (fun j=>j≤is.length) (fun j=>is.length-j) (by kernel_rfl) 0 (Nat.zero_le _) ?_ ?_ rfl ?_
     ·have hl0:liF l tx (is.take 0)=⟨#[]⟩:=rfl
      (try dsimp only);rw[hl0];exact agi
     ·(try dsimp only)
      exact agr
     intro j hj;have hsz:=his j hj;by_cases hjl:j<is.length
     ·have hxm:=him.out (is[j]?.getD 0) (by rw[List.getElem?_eq_getElem hjl];exact List.getElem_mem hjl)
      have ht:=hit.out j hjl;obtain⟨n,hnn⟩:∃n:Nat,is[j]?.getD 0=n:=⟨(is[j]?.getD 0).toNat,by omega⟩;rw[hnn,Int.toNat_natCast]at hxm;rw[hnn,Int.toNat_natCast]at ht;obtain⟨hn1,hn2,hn3⟩:=hxm;have hnl:n<l.length:=by omega
      have hk3:¬(l[n]?.getD it0).1=3:=hn3;have hS:pU l tx (liF l tx (is.take j)) n=if(l[n]?.getD it0).1=1 then liF l tx (is.take j)++(tx[nbX l n]?.getD .empty)else if 0<(l[n]?.getD it0).2.1 then liF l tx (is.take j)++⟨#[32]⟩else liF l tx (is.take j):=rfl;rw[hS]at ht;have hlk9:=hlook.out n hnl;have hz9:=htz2 (nbX l n);clear hS hn3 his;generalize hs2:liF l tx (is.take (j+1))=s2 at*;replace hs2:=Lib.hid hs2;generalize liF l tx (is.take j)=s at*;generalize nbX l n=nn at*;generalize tx[nn]?.getD ByteArray.empty=tn at*;generalize hyy:l[n]?.getD it0=yy at*;obtain⟨y1,y2',y3,y4,y5,y6,y7⟩:=yy;dsimp only at ht hk3 hlk9;by_cases k1:y1=1
      ·rw[if_pos k1]at ht
       have hf:=Lib.hid ht;have hlk8:=hlk9 k1;clear ht hlk9;subst k1;(refine wlk ?_;intros);refine⟨j+1,by dsimp only;omega,by dsimp only;omega,?_,?_,rfl⟩
       ·dsimp only
        rw[hs2.out,hf.out];exact agi
       ·dsimp only
        exact agr
      ·rw[if_neg k1]at ht
       by_cases k2:0<y2'
       ·rw[if_pos k2]at ht
        have hf:=Lib.hid ht;clear ht hlk9;(refine wlk ?_;intros);refine⟨j+1,by dsimp only;omega,by dsimp only;omega,?_,?_,rfl⟩
        ·dsimp only
         rw[hs2.out,hf.out];exact agi
        ·dsimp only
         exact agr
       ·rw[if_neg k2]at ht
        have hf:=Lib.hid ht;clear ht hlk9;(refine wlk ?_;intros);refine⟨j+1,by dsimp only;omega,by dsimp only;omega,?_,?_,rfl⟩
        ·dsimp only
         rw[hs2.out,hf.out];exact agi
        ·dsimp only
         exact agr
     ·obtain rfl:j=is.length:=by omega
      rw[hfull.out]at*;generalize hSS:liF l tx is=s at*;clear his hSS;generalize hyy:l[en]?.getD it0=yy at*;obtain⟨y1,y2',y3,y4,y5,y6,y7⟩:=yy;have hmk2:=hmk.out;clear hmk;dsimp only at hmk2;cases y7 with
      |true=>
       rw[if_pos rfl]at hmk2;have hn:=hn0.out;rw[hmk2]at hn;replace hn:=Lib.hid hn;clear hmk2 hn0;(refine wlk ?_;intros);refine⟨(k+1,y+1,y+2),⟨by dsimp only;omega,fun _=>by dsimp only;omega⟩,by dsimp only;omega,?_,?_,rfl⟩
       ·dsimp only
        rw[hn.out,hfe.out,aB (by simp)];exact agi
       ·dsimp only
        rw[hn.out,aF (by simp)];exact agr
      |false=>
       rw[if_neg (by decide)]at hmk2;have hn:=hn0.out;rw[hmk2]at hn;replace hn:=Lib.hid hn;clear hmk2 hn0;(refine wlk ?_;intros);refine⟨(k+1,y+1,y+2),⟨by dsimp only;omega,fun _=>by dsimp only;omega⟩,by dsimp only;omega,?_,?_,rfl⟩
       ·dsimp only
        rw[hn.out,hfe.out,aB (by simp)];exact agi
       ·dsimp only
        rw[hn.out,aF (by simp)];exact agr
   ·obtain rfl:k=br.length:=by omega
    have hnp:0<((oG l tx br br.length).map pvS).length:=by rw[List.length_map];omega
    have hxy2:=hxy (by omega);rw[aB hnp,aF hnp,aB hnp,ald hnp];generalize oG l tx br br.length=out at*;simp only[List.length_map,hlk0];(refine wlk ?_;intros);refine⟨?_,fun b2 L2 e=>by cases e;exact hbB⟩;((with_reducible apply oP (x) (by first|exact .inl rfl|exact .inr rfl));(focus(simp(disch:=(first|omega|(simp only[push_cast];first|done|omega))) only[push_cast,↓reduceIte,Nat.reduceEqDiff,Nat.reduceBEq,Nat.reduceAdd,Nat.reduceSub,Int.reduceToNat, *]<;>with_reducible exact rfl));(focus(simp(disch:=(first|omega|(simp only[push_cast];first|done|omega))) only[push_cast,↓reduceIte,Nat.reduceEqDiff,Nat.reduceBEq,Nat.reduceAdd,Nat.reduceSub,Int.reduceToNat, *]<;>with_reducible exact rfl)))
def uZ:dN:=fun ps cs=>match ps,cs with
 |[p],[]=>(dUs.d p).map fun code=>(.own 0 2 0 0,[rdC 65 (code.take 2000) 0])
 |_,_=>none
theorem aho {code:List Int}:uZ [.lst false 1 (code.map fun n=> .val (.int .u8 n))] []=some (.own 0 2 0 0,[rdC 65 (code.take 2000) 0]):=by have:=dUs.h' code;simp only[dUs,dD,dA]at this;simp only[uZ,dUs,this,Option.map_some]
theorem anW:bK Tryz.prog 19 uZ:=by
 refine yZ mixed gV Tryz.func19 rfl 11 rfl [.tmp 2] rfl (by kernel_rfl) fun ps cs r cs' hr=>?_;unfold uZ at hr;split at hr
 case h_2=>cases hr
 rename_i p;rw[Option.map_eq_some_iff]at hr;obtain⟨code,h1,h2⟩:=hr;obtain rfl:=dUs.h _ _ h1;clear h1;cases h2;refine⟨rfl,by simp,?_⟩;simp only[dIs,dUs,dSs,dx,dA,dz,dF,aS,dD,aT,aU,aR,aV];(refine wlkX6 ?_ ?_ ?_ ?_ ?_ ?_<;>intros<;>try with_reducible exact trivial)
 ·refine oP 0 (by first|exact .inl rfl|exact .inr rfl) ?_ ?_
  ·(focus(simp(disch:=(first|omega|(simp only[push_cast];first|done|omega))) only[push_cast,↓reduceIte,Nat.reduceEqDiff,Nat.reduceBEq,Nat.reduceAdd,Nat.reduceSub,Int.reduceToNat,aO,aL,bH,aQ,aP, *]<;>with_reducible exact rfl))
  ·simp only[push_cast,↓reduceIte,Nat.reduceEqDiff,Nat.reduceBEq,Nat.reduceAdd,Nat.reduceSub,Int.reduceToNat,rdC]
 ·have h:code.take 2000=code:=List.take_of_length_le (by simp_all;omega)
  refine oP 0 (by first|exact .inl rfl|exact .inr rfl) ?_ ?_
  ·(focus(simp(disch:=(first|omega|(simp only[push_cast];first|done|omega))) only[push_cast,↓reduceIte,Nat.reduceEqDiff,Nat.reduceBEq,Nat.reduceAdd,Nat.reduceSub,Int.reduceToNat,aO,aL,bH,aQ,aP, *]<;>with_reducible exact rfl))
  ·simp only[push_cast,↓reduceIte,Nat.reduceEqDiff,Nat.reduceBEq,Nat.reduceAdd,Nat.reduceSub,Int.reduceToNat,rdC,h]
theorem abN:∃Φ:dN,bK Tryz.prog 37 Φ∧ads 65 Φ 1000000000 1 (fun v:Int=>PV.val (.int .i64 v)) (fun _=>True) (fun n v=>0≤v∧(1≤n→v<n)):=by
 refine oK mixed gV Tryz.func37 rfl 99 rfl [.tmp 4] rfl (by kernel_rfl) (by simp) _ _ _ _ _ _ fun code p n hok hp _=>?_;obtain⟨hlen,hbyte,hp0,hp1⟩:=id hok;have hb0:=hbyte p.toNat;have hb1:=hbyte (p % code.length).toNat;have hb2:=hbyte ((p*7+3) % code.length).toNat;have hm:0<code.length→0≤p % (code.length:Int)∧p % (code.length:Int)<code.length∧0≤(p*7+3) % (code.length:Int)∧(p*7+3) % (code.length:Int)<code.length∧0≤p/(code.length:Int)∧p/(code.length:Int)≤p:=fun h=>⟨Int.emod_nonneg _ (by omega),Int.emod_lt_of_pos _ (by omega),Int.emod_nonneg _ (by omega),Int.emod_lt_of_pos _ (by omega),Int.ediv_nonneg hp0 (by omega),Int.ediv_le_self _ hp0⟩
 clear hbyte
 repeat' (first|(first|(with_reducible first|apply fM|apply bD|apply cK|apply cZ|apply fJ|apply l6|apply fq|apply fI|apply l7|apply fH|apply fE|apply lY|apply fB|apply fu|apply fK)|((with_reducible apply bg);(simp only[List.map_cons,List.map_nil]<;>exact rfl))|((with_reducible apply dh);(simp only[List.map_cons,List.map_nil]<;>exact rfl);decide+kernel)|((with_reducible apply fA);rfl)|((first|((with_reducible apply i_V);rfl;rfl;rfl)|((first|((with_reducible apply i_E);rfl)|((with_reducible apply i_S);rfl));first|rfl|(simp only[push_cast,↓reduceIte]))|((with_reducible apply lW);rfl;rfl)|((with_reducible apply lX);rfl;rfl;rfl)|(with_reducible first|apply lZ|apply dn));(simp(disch:=(first|omega|(simp only[push_cast];first|done|omega))) only[push_cast,↓reduceIte,Nat.reduceEqDiff,Nat.reduceBEq,Nat.reduceAdd,Nat.reduceSub,Int.reduceToNat, *]<;>with_reducible exact rfl);all_goals try(first|(with_reducible first|refine hyT ?_|refine hyF ?_|exact hyA|exact hyB)|(intro hX;first|(cases hX;done)|((try simp only[decide_eq_true_eq,decide_eq_false_iff_not,Bool.not_eq_true',Bool.not_eq_false']at hX);(try have hXb:=av.1 hX))))))|((with_reducible apply avF);rfl;(simp(disch:=(first|omega|(simp only[push_cast];first|done|omega))) only[push_cast,↓reduceIte,Nat.reduceEqDiff,Nat.reduceBEq,Nat.reduceAdd,Nat.reduceSub,Int.reduceToNat, *]<;>with_reducible exact rfl);(simp(disch:=(first|omega|(simp only[push_cast];first|done|omega))) only[push_cast,↓reduceIte,Nat.reduceEqDiff,Nat.reduceBEq,Nat.reduceAdd,Nat.reduceSub,Int.reduceToNat, *]<;>with_reducible exact rfl);(first|omega|(simp only[push_cast];first|done|omega));(first|omega|(simp only[push_cast];first|done|omega));(first|omega|(simp only[push_cast];first|done|omega));(first|omega|(simp only[push_cast];first|done|omega));intro z hz1 hz2))
 all_goals((with_reducible apply fO (by first|exact .inl rfl|exact .inr rfl));(focus(simp(disch:=(first|omega|(simp only[push_cast];first|done|omega))) only[push_cast,↓reduceIte,Nat.reduceEqDiff,Nat.reduceBEq,Nat.reduceAdd,Nat.reduceSub,Int.reduceToNat,aO,aL,bH,aQ,aP, *]<;>with_reducible exact rfl));(focus(simp(disch:=(first|omega|(simp only[push_cast];first|done|omega))) only[push_cast,↓reduceIte,Nat.reduceEqDiff,Nat.reduceBEq,Nat.reduceAdd,Nat.reduceSub,Int.reduceToNat,aO,aL,bH,aQ,aP, *]<;>with_reducible exact rfl)))
 all_goals(first|omega|exact hok.to (by omega) (by omega)|exact⟨Int.emod_nonneg _ (by omega),fun _=>Int.emod_lt_of_pos _ (by omega)⟩)
def sS:dN:=Classical.choose abN
theorem tu:bK Tryz.prog 37 sS:=(Classical.choose_spec abN).1
theorem dZ:ads 65 sS 1000000000 1 (fun v:Int=>PV.val (.int .i64 v)) (fun _=>True) (fun n v=>0≤v∧(1≤n→v<n)):=(Classical.choose_spec abN).2
def axR:Ctx:={fn:=aY [],io:=aY [(37,sS)]}
theorem ao9:ak Tryz.prog axR:=okΓ aj (fD Tryz.func37 tu aj)
theorem agx:∃Φ:dN,bK Tryz.prog 39 Φ∧ads 65 Φ 900000000 1 (fun v:Bool=>PV.val (.bool v)) (fun n=>0≤n∧n≤1000000) (fun n v=>n≤0→v=false):=by
 refine oK mixed ao9 Tryz.func39 rfl 15 rfl [.tmp 4] rfl (by kernel_rfl) (by simp) _ _ _ _ _ _ fun code p n hok hp hn=>?_;have hp0:=hok.pos
 repeat' (first|(first|(with_reducible first|apply fM|apply bD|apply cK|apply cZ|apply fJ|apply l6|apply fq|apply fI|apply l7|apply fH|apply fE|apply lY|apply fB|apply fu|apply fK)|((with_reducible apply bg);(simp only[List.map_cons,List.map_nil]<;>exact rfl))|((with_reducible apply dh);(simp only[List.map_cons,List.map_nil]<;>exact rfl);decide+kernel)|((with_reducible apply fA);rfl)|((first|((with_reducible apply i_V);rfl;rfl;rfl)|((first|((with_reducible apply i_E);rfl)|((with_reducible apply i_S);rfl));first|rfl|(simp only[push_cast,↓reduceIte]))|((with_reducible apply lW);rfl;rfl)|((with_reducible apply lX);rfl;rfl;rfl)|(with_reducible first|apply lZ|apply dn));(simp(disch:=(first|omega|(simp only[push_cast];first|done|omega))) only[push_cast,↓reduceIte,Nat.reduceEqDiff,Nat.reduceBEq,Nat.reduceAdd,Nat.reduceSub,Int.reduceToNat, *]<;>with_reducible exact rfl);all_goals try(first|(with_reducible first|refine hyT ?_|refine hyF ?_|exact hyA|exact hyB)|(intro hX;first|(cases hX;done)|((try simp only[decide_eq_true_eq,decide_eq_false_iff_not,Bool.not_eq_true',Bool.not_eq_false']at hX);(try have hXb:=av.1 hX))))))|((with_reducible apply bQ dZ (fun _ _=>rfl));rfl;(simp(disch:=(first|omega|(simp only[push_cast];first|done|omega))) only[push_cast,↓reduceIte,Nat.reduceEqDiff,Nat.reduceBEq,Nat.reduceAdd,Nat.reduceSub,Int.reduceToNat, *]<;>with_reducible exact rfl);(simp(disch:=(first|omega|(simp only[push_cast];first|done|omega))) only[push_cast,↓reduceIte,Nat.reduceEqDiff,Nat.reduceBEq,Nat.reduceAdd,Nat.reduceSub,Int.reduceToNat, *]<;>with_reducible exact rfl);(simp(disch:=(first|omega|(simp only[push_cast];first|done|omega))) only[push_cast,↓reduceIte,Nat.reduceEqDiff,Nat.reduceBEq,Nat.reduceAdd,Nat.reduceSub,Int.reduceToNat, *]<;>with_reducible exact rfl);assumption;omega;(focus(first|trivial|omega));(focus(first|rfl|(simp only[push_cast,↓reduceIte])));intro v pp hv hok hpp1 hpp2))
 all_goals((with_reducible apply fO (by first|exact .inl rfl|exact .inr rfl));(focus(simp(disch:=(first|omega|(simp only[push_cast];first|done|omega))) only[push_cast,↓reduceIte,Nat.reduceEqDiff,Nat.reduceBEq,Nat.reduceAdd,Nat.reduceSub,Int.reduceToNat,aO,aL,bH,aQ,aP, *]<;>with_reducible exact rfl));(focus(simp(disch:=(first|omega|(simp only[push_cast];first|done|omega))) only[push_cast,↓reduceIte,Nat.reduceEqDiff,Nat.reduceBEq,Nat.reduceAdd,Nat.reduceSub,Int.reduceToNat,aO,aL,bH,aQ,aP, *]<;>with_reducible exact rfl)))
 all_goals(first|omega|assumption|(intro h;first|omega|rfl|(simp;omega)))
def ad7:dN:=Classical.choose agx
theorem acF:bK Tryz.prog 39 ad7:=(Classical.choose_spec agx).1
theorem iZ:ads 65 ad7 900000000 1 (fun v:Bool=>PV.val (.bool v)) (fun n=>0≤n∧n≤1000000) (fun n v=>n≤0→v=false):=(Classical.choose_spec agx).2
end
end Go.Proofs.YtmmafcjjlbgnkaaGreat
