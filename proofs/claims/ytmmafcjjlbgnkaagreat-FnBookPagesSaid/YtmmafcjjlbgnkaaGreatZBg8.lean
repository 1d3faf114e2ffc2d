/- What the proof rests on, part 8: contracts of functions. No condition beyond what each states. -/
import Derived.Test.YtmmafcjjlbgnkaaGreatZBg7
namespace Go.Proofs.YtmmafcjjlbgnkaaGreat
open Go.RowKit
set_option linter.all false
set_option maxHeartbeats 32000000
noncomputable section
abbrev pvS (s:ByteArray):PV:=.val (.string s)
def φSg:Fun:=F1 dS fun s=>if dM s=true then some (.lst true 1 ((signs s).map fun s=> .val (.string s)))else none
theorem anm {s:ByteArray} (h:dM s=true):φSg [.val (.string s)]=some (.lst true 1 ((signs s).map fun s=> .val (.string s))):=(iA (A:=dS) s).trans (if_pos h)
def ac2 (s:ByteArray):LS:=if dM s=true then signs s else []
def aki:Fun:=F1 dS fun s=>if s.size≤1048576 then some (.lst true 1 ((ac2 s).map fun s=> .val (.string s)))else none
theorem ak3 {s:ByteArray} (h:s.size≤1048576):aki [.val (.string s)]=some (.lst true 1 ((ac2 s).map fun s=> .val (.string s))):=(iA (A:=dS) s).trans (if_pos h)
def GSg:Ctx:={fn:=aY [(104,wH)],io:=aY []}
theorem aq3:ak Tryz.prog GSg:=okΓ (fC Tryz.func104 zJ aj) aj
def an7:=ah (Γ:=GSg) (f:=104) (φ:=wH) rfl
theorem afR:Sound Tryz.prog 88 φSg:=by
 refine au mixed aq3 Tryz.func88 rfl 38 rfl [.tmp 2] rfl (by kernel_rfl) fun ps r hr=>?_;obtain⟨s,rfl,hpre,rfl⟩:=kQ hr;refine⟨by simp,?_⟩;simp only[dIs,dUs,dSs,dx,dA,dz,dF,aS,dD,aT,aU,aR,aV];obtain⟨-,hs1,hs2⟩:=aW hpre;have hsg1:=(nJ hpre).2.1;have apj:=fun i=>aeA (iM s i) (iM s (i+1));have hI0:[]++sgF s s.size 0=signs s:=rfl;replace hI0:=Lib.hid hI0;generalize signs s=R at*;clear hpre;have gsg_c104:=an7;(refine wlk ?_;intros);refine aG (α:=Nat×Nat×LS×Nat×Nat) mixed (fun z=>[(0,.val (.string s)),(3,nP 1 (z.2.2.1.map pvS) z.2.2.2.1),(4,iv z.2.1)])
  (fun z=>nO 9 1 (z.2.2.1.map pvS) z.2.2.2.1) (fun z=>z.2.2.2.2)
  (fun z=>z.2.2.1++sgF s z.1 z.2.1=R∧s.size≤z.2.1+z.1∧z.2.1≤s.size∧z.2.2.1.length≤z.2.1∧(0<z.2.2.1.length→z.2.2.2.1<z.2.2.2.2)) (fun z=>z.1) (by kernel_rfl) (s.size,0,[],0,0) ⟨hI0.out,by simp,by simp,by simp,by simp⟩ ?_ ?_ rfl ?_
 ·exact agr
 ·exact agr
 rintro⟨f,i,out,x,y⟩ ⟨hI,hf,hi,ho,hxy⟩;dsimp only at hI hf hi ho hxy;clear hI0;by_cases h0:i<s.size
 ·cases f with
  |zero=>omega
  |succ f=>
  rw[qA h0]at hI;have hI2:(out++[s.extract i (i+sgN s i)])++sgF s f (i+sgN s i)=R:=by rw[List.append_assoc];exact hI
  clear hI;replace apj:=apj i;by_cases hj:i+1<s.size∧oN (at8 s i) (at8 s (i+1))=true
  ·have hn:sgN s i=2:=if_pos hj
   rw[hn]at hI2;replace hI2:=Lib.hid hI2;obtain⟨hj1,hj2⟩:=hj;rw[hj2]at apj;have e3:((i:Int)+2).toNat=i+2:=by omega
   clear hn;by_cases hz:out.length=0
   ·obtain rfl:out=[]:=List.eq_nil_of_length_eq_zero hz
    (refine wlk ?_;intros);refine⟨(f,i+2,[]++[s.extract i (i+2)],y+1,y+2),⟨hI2.out,by dsimp only;omega,by dsimp only;omega,by simp,fun _=>by dsimp only;omega⟩,by dsimp only;omega,?_,?_,rfl⟩
    ·exact agi
    ·exact agr
   ·have hxy:=hxy (by omega)
    have hap:0<(out.map pvS).length:=by rw[List.length_map];omega
    clear hz;have hap3:0<((out++[s.extract i (i+2)]).map pvS).length:=by simp
    simp only[aB hap,aF hap,List.length_map];(refine wlk ?_;intros);refine⟨(f,i+2,out++[s.extract i (i+2)],y+1,y+2),⟨hI2.out,by dsimp only;omega,by dsimp only;omega,by simp;omega,fun _=>by dsimp only;omega⟩,by dsimp only;omega,?_,?_,rfl⟩
    ·simp(disch:=(first|omega|(simp only[push_cast];first|done|omega))) only[push_cast,↓reduceIte,Nat.reduceEqDiff,Nat.reduceBEq,Nat.reduceAdd,Nat.reduceSub,Int.reduceToNat,aB hap3,List.length_append, *]
     try exact congrArg (fun z=>PV.val (Value.int IntKind.i64 z)) (by omega)
    ·simp(disch:=(first|omega|(simp only[push_cast];first|done|omega))) only[push_cast,↓reduceIte,Nat.reduceEqDiff,Nat.reduceBEq,Nat.reduceAdd,Nat.reduceSub,Int.reduceToNat,aF hap3, *]
  ·have hn:sgN s i=1:=if_neg hj
   rw[hn]at hI2;replace hI2:=Lib.hid hI2;clear hn;have hj3:i+1<s.size→oN (at8 s i) (at8 s (i+1))=false:=fun h=>by
    cases hq:oN (at8 s i) (at8 s (i+1))with
    |false=>rfl
    |true=>exact absurd ⟨h,hq⟩ hj
   clear hj;by_cases hz:out.length=0
   ·obtain rfl:out=[]:=List.eq_nil_of_length_eq_zero hz
    by_cases h1:i+1<s.size
    ·rw[hj3 h1]at apj
     clear hj3;(refine wlk ?_;intros);refine⟨(f,i+1,[]++[s.extract i (i+1)],y+1,y+2),⟨hI2.out,by dsimp only;omega,by dsimp only;omega,by simp,fun _=>by dsimp only;omega⟩,by dsimp only;omega,?_,?_,rfl⟩
     ·exact agr
     ·exact agr
    ·clear hj3
     (refine wlk ?_;intros);refine⟨(f,i+1,[]++[s.extract i (i+1)],y+1,y+2),⟨hI2.out,by dsimp only;omega,by dsimp only;omega,by simp,fun _=>by dsimp only;omega⟩,by dsimp only;omega,?_,?_,rfl⟩
     ·exact agr
     ·exact agr
   ·have hxy:=hxy (by omega)
    have hap:0<(out.map pvS).length:=by rw[List.length_map];omega
    clear hz;have hap3:0<((out++[s.extract i (i+1)]).map pvS).length:=by simp
    simp only[aB hap,aF hap,List.length_map];by_cases h1:i+1<s.size
    ·rw[hj3 h1]at apj
     clear hj3;(refine wlk ?_;intros);refine⟨(f,i+1,out++[s.extract i (i+1)],y+1,y+2),⟨hI2.out,by dsimp only;omega,by dsimp only;omega,by simp;omega,fun _=>by dsimp only;omega⟩,by dsimp only;omega,?_,?_,rfl⟩
     ·simp(disch:=(first|omega|(simp only[push_cast];first|done|omega))) only[push_cast,↓reduceIte,Nat.reduceEqDiff,Nat.reduceBEq,Nat.reduceAdd,Nat.reduceSub,Int.reduceToNat,aB hap3,List.length_append, *]
      try exact congrArg (fun z=>PV.val (Value.int IntKind.i64 z)) (by omega)
     ·simp(disch:=(first|omega|(simp only[push_cast];first|done|omega))) only[push_cast,↓reduceIte,Nat.reduceEqDiff,Nat.reduceBEq,Nat.reduceAdd,Nat.reduceSub,Int.reduceToNat,aF hap3, *]
    ·clear hj3
     (refine wlk ?_;intros);refine⟨(f,i+1,out++[s.extract i (i+1)],y+1,y+2),⟨hI2.out,by dsimp only;omega,by dsimp only;omega,by simp;omega,fun _=>by dsimp only;omega⟩,by dsimp only;omega,?_,?_,rfl⟩
     ·simp(disch:=(first|omega|(simp only[push_cast];first|done|omega))) only[push_cast,↓reduceIte,Nat.reduceEqDiff,Nat.reduceBEq,Nat.reduceAdd,Nat.reduceSub,Int.reduceToNat,aB hap3,List.length_append, *]
      try exact congrArg (fun z=>PV.val (Value.int IntKind.i64 z)) (by omega)
     ·simp(disch:=(first|omega|(simp only[push_cast];first|done|omega))) only[push_cast,↓reduceIte,Nat.reduceEqDiff,Nat.reduceBEq,Nat.reduceAdd,Nat.reduceSub,Int.reduceToNat,aF hap3, *]
 ·rw[abH (by omega),List.append_nil]at hI
  subst hI;have hxy:=hxy (by omega);have hap:0<(out.map pvS).length:=by rw[List.length_map];omega
  simp only[aB hap,aF hap,List.length_map];clear apj;exact wlkF
def awp:Ctx:={fn:=aY [(122,wG),(74,gJ)],io:=aY []}
theorem ao6:ak Tryz.prog awp:=okΓ (fC Tryz.func122 zS (fC Tryz.func74 fV aj)) aj
def acM:=ah (Γ:=awp) (f:=122) (φ:=wG) rfl
def ahI:=ah (Γ:=awp) (f:=74) (φ:=gJ) rfl
theorem af3:Sound Tryz.prog 110 aki:=by
 refine au mixed ao6 Tryz.func110 rfl 50 rfl [.tmp 2] rfl (by kernel_rfl) fun ps r hr=>?_;obtain⟨s,rfl,hpre,rfl⟩:=kQ hr;refine⟨by simp,?_⟩;simp only[dIs,dUs,dSs,dx,dA,dz,dF,aS,dD,aT,aU,aR,aV];have apw:=iJ (s:=s) (by omega);unfold ac2;cases hw:dM s with
 |false=>
  rw[hw]at apw;rw[if_neg (by decide)];clear hw;have gsgs_c122:=acM;have gsgs_c74:=ahI;(refine wlk ?_;intros);refine aG (α:=Unit) mixed (fun z=>[(0,.val (.string s)),(3,.row 0 1 0 0),(4,iv 0)]) (fun z=>[(0,9,1,[])]) (fun z=>1) (fun _=>True) (fun _=>0) (by kernel_rfl) () trivial ?_ ?_ rfl ?_
  ·exact agr
  ·exact agr
  rintro⟨⟩-;exact wlkF
 |true=>
  rw[hw]at apw;rw[if_pos rfl];obtain⟨-,hs1,hs2⟩:=aW hw;have apj:=fun i=>aeJ (at8 s i) (at8 s (i+1));have hI0:[]++sgF s s.size 0=signs s:=rfl;replace hI0:=Lib.hid hI0;generalize signs s=R at*;clear hpre hw;have gsgs_c122:=acM;have gsgs_c74:=ahI;(refine wlk ?_;intros);refine aG (α:=Nat×Nat×LS×Nat×Nat) mixed (fun z=>[(0,.val (.string s)),(3,.row z.2.2.2.1 1 0 z.2.2.1.length),(4,iv z.2.1)])
   (fun z=>[(z.2.2.2.1,9,1,z.2.2.1.map pvS)]) (fun z=>z.2.2.2.2)
   (fun z=>z.2.2.1++sgF s z.1 z.2.1=R∧s.size≤z.2.1+z.1∧z.2.1≤s.size∧z.2.2.1.length≤z.2.1∧z.2.2.2.1<z.2.2.2.2) (fun z=>z.1) (by kernel_rfl) (s.size,0,[],0,1) ⟨hI0.out,by simp,by simp,by simp,by simp⟩ ?_ ?_ rfl ?_
  ·exact agr
  ·exact agr
  rintro⟨f,i,out,x,y⟩ ⟨hI,hf,hi,ho,hxy⟩;dsimp only at hI hf hi ho hxy;clear hI0;by_cases h0:i<s.size
  ·cases f with
   |zero=>omega
   |succ f=>
   rw[qA h0]at hI;have hI2:(out++[s.extract i (i+sgN s i)])++sgF s f (i+sgN s i)=R:=by rw[List.append_assoc];exact hI
   clear hI;replace apj:=apj i;by_cases hj:i+1<s.size∧oN (at8 s i) (at8 s (i+1))=true
   ·have hn:sgN s i=2:=if_pos hj
    rw[hn]at hI2;replace hI2:=Lib.hid hI2;obtain⟨hj1,hj2⟩:=hj;rw[hj2]at apj;have e3:((i:Int)+2).toNat=i+2:=by omega
    clear hn;(refine wlk ?_;intros);refine⟨(f,i+2,out++[s.extract i (i+2)],y+1,y+2),⟨hI2.out,by dsimp only;omega,by dsimp only;omega,by simp;omega,by dsimp only;omega⟩,by dsimp only;omega,?_,?_,rfl⟩
    ·exact agi
    ·exact agr
   ·have hn:sgN s i=1:=if_neg hj
    rw[hn]at hI2;replace hI2:=Lib.hid hI2;clear hn;have hj3:i+1<s.size→oN (at8 s i) (at8 s (i+1))=false:=fun h=>by
     cases hq:oN (at8 s i) (at8 s (i+1))with
     |false=>rfl
     |true=>exact absurd ⟨h,hq⟩ hj
    clear hj;by_cases h1:i+1<s.size
    ·rw[hj3 h1]at apj
     clear hj3;(refine wlk ?_;intros);refine⟨(f,i+1,out++[s.extract i (i+1)],y+1,y+2),⟨hI2.out,by dsimp only;omega,by dsimp only;omega,by simp;omega,by dsimp only;omega⟩,by dsimp only;omega,?_,?_,rfl⟩
     ·exact agr
     ·exact agr
    ·clear hj3
     (refine wlk ?_;intros);refine⟨(f,i+1,out++[s.extract i (i+1)],y+1,y+2),⟨hI2.out,by dsimp only;omega,by dsimp only;omega,by simp;omega,by dsimp only;omega⟩,by dsimp only;omega,?_,?_,rfl⟩
     ·exact agr
     ·exact agr
  ·rw[abH (by omega),List.append_nil]at hI
   subst hI;clear apj;exact wlkF
def φWw:Fun:=F1 dS fun s=>if s.size≤1048576 then some (iv (pI s))else none
theorem ab1 {s:ByteArray} (h:s.size≤1048576):φWw [.val (.string s)]=some (.val (.int .i64 (pI s))):=(iA (A:=dS) s).trans (if_pos h)
def ar8:Ctx:={fn:=aY [(66,gJ),(88,φSg),(89,vB),(90,wT)],io:=aY []}
theorem amu:ak Tryz.prog ar8:=okΓ (fC Tryz.func66 gu (fC Tryz.func88 afR (fC Tryz.func89 aby (fC Tryz.func90 aau aj)))) aj
def agU:=ah (Γ:=ar8) (f:=66) (φ:=gJ) rfl
def aga:=ah (Γ:=ar8) (f:=88) (φ:=φSg) rfl
def agR:=ah (Γ:=ar8) (f:=89) (φ:=vB) rfl
def agh:=ah (Γ:=ar8) (f:=90) (φ:=wT) rfl
theorem af6:Sound Tryz.prog 69 φWw:=by
 refine au mixed amu Tryz.func69 rfl 58 rfl [.tmp 2] rfl (by kernel_rfl) fun ps r hr=>?_;obtain⟨s,rfl,hpre,rfl⟩:=kQ hr;refine⟨by simp,?_⟩;simp only[dIs,dUs,dSs,dx,dA,dz,dF,aS,dD,aT,aU,aR,aV];have apw:=iJ (s:=s) (by omega);unfold pI;cases hw:dM s with
 |false=>rw[hw]at apw;rw[if_neg (by decide)];clear hw;have gwwi_c66:=agU;have gwwi_c88:=aga;have gwwi_c89:=agR;have gwwi_c90:=agh;exact wlkF
 |true=>
  rw[hw]at apw;rw[if_pos rfl];have aps:=anm hw;have hat:=fun k hk=>xH hw (k:=k) hk;have hlen:=(nJ hw).2;have hrg:=wS hat;generalize signs s=g at*;clear hw hpre;have gwwi_c66:=agU;have gwwi_c88:=aga;have gwwi_c89:=agR;have gwwi_c90:=agh;(refine wlk ?_;intros);refine aG (α:=Nat) mixed (fun k=>[(3,iv (wdK g k)),(4,.lst true 1 (g.map pvS)),(13,.lst true 1 (g.map pvS)),(14,iv g.length),(15,iv k)]) (fun _=>[]) (fun _=>0)
   (fun k=>k≤g.length) (fun k=>g.length-k) (by kernel_rfl) 0 (Nat.zero_le _) ?_ ?_ rfl ?_
  ·simp only[push_cast,↓reduceIte,Nat.reduceEqDiff,Nat.reduceBEq,Nat.reduceAdd,Nat.reduceSub,Int.reduceToNat,wdK]
  ·exact agr
  intro k hk;have hrk:=hrg k hk;by_cases hkl:k<g.length
  ·have hsg:=hat k hkl
   have hnx:=fun h=>hat (k+1) h;have hfl:=ace hsg;have hsn:wdK g (k+1)=wdK g k+sgW (g[k]?.getD .empty) (g[k]?.getD .empty).size-((g[k]?.getD .empty).size-1)-wm g k:=rfl;have hne:wm g k=if k+1<g.length then nA (at8 (g[k]?.getD .empty) ((g[k]?.getD .empty).size-1)) (at8 (g[k+1]?.getD .empty) 0)else 0:=rfl;replace hsn:=Lib.hid hsn;replace hne:=Lib.hid hne;clear hat hrg;generalize hx9:g[k]?.getD ByteArray.empty=x at*;obtain⟨hx1,hx2,-⟩:=hsg;generalize hw9:wdK g k=w9 at*;(refine wlk ?_;intros);refine aG (α:=Nat) mixed (fun j=>[(3,iv (w9+sgW x j)),(4,.lst true 1 (g.map pvS)),(13,.lst true 1 (g.map pvS)),(14,iv g.length),(15,iv k),(5,iv k),(6,.val (.string x)),(21,iv x.size),(22,iv j)]) (fun _=>[]) (fun _=>0)
    (fun j=>j≤x.size) (fun j=>x.size-j) (by kernel_rfl) 0 (Nat.zero_le _) ?_ ?_ rfl ?_
   ·simp(disch:=(first|omega|(simp only[push_cast];first|done|omega))) only[push_cast,↓reduceIte,Nat.reduceEqDiff,Nat.reduceBEq,Nat.reduceAdd,Nat.reduceSub,Int.reduceToNat,sgW,Int.add_zero, *]
   ·exact agr
   intro j hj;have hfj:=hfl j hj;have apl:=adY (iM x j);have hlw:=wM (at8 x j);have hsj:sgW x (j+1)=sgW x j+aai (at8 x j):=rfl;replace hsj:=Lib.hid hsj;by_cases hjl:j<x.size
   ·clear hfl hnx
    generalize aai (at8 x j)=lw at*;(refine wlk ?_;intros);refine⟨j+1,by omega,by dsimp only;omega,?_,?_,rfl⟩
    ·dsimp only
     rw[hsj.out,←Int.add_assoc];exact agr
    ·exact agr
   ·obtain rfl:j=x.size:=by omega
    clear apl hlw hsj hfl;by_cases h1:k+1<g.length
    ·have hn1:=hnx h1
     clear hnx;obtain⟨hy1,-,-⟩:=hn1;have apn:=aek (iM x (x.size-1)) (iM (g[k+1]?.getD .empty) 0);have hnr:=rQ (at8 x (x.size-1)) (at8 (g[k+1]?.getD .empty) 0);have hne:=hne.out;rw[if_pos h1]at hne;have hsn:=hsn.out;rw[hne]at hsn;replace hsn:=Lib.hid hsn;clear hne;generalize nA (at8 x (x.size-1)) (at8 (g[k+1]?.getD .empty) 0)=nr at*;generalize sgW x x.size=sw at*;(refine wlk ?_;intros);refine⟨k+1,by omega,by dsimp only;omega,?_,?_,rfl⟩
     ·dsimp only
      rw[hsn.out];exact agr
     ·exact agr
    ·have hne:=hne.out
     rw[if_neg h1]at hne;have hsn:=hsn.out;rw[hne,Int.sub_zero]at hsn;replace hsn:=Lib.hid hsn;clear hne hnx;generalize sgW x x.size=sw at*;(refine wlk ?_;intros);refine⟨k+1,by omega,by dsimp only;omega,?_,?_,rfl⟩
     ·dsimp only
      rw[hsn.out];exact agr
     ·exact agr
  ·obtain rfl:k=g.length:=by omega
   clear hat hrg;generalize wdK g g.length=w9 at*;exact wlkF
def auN:Ctx:={fn:=aY [(110,aki),(111,ac5),(112,ac8)],io:=aY []}
theorem al7:ak Tryz.prog auN:=okΓ (fC Tryz.func110 af3 (fC Tryz.func111 abn (fC Tryz.func112 abD aj))) aj
def aci:=ah (Γ:=auN) (f:=110) (φ:=aki) rfl
def acW:=ah (Γ:=auN) (f:=111) (φ:=ac5) rfl
def acI:=ah (Γ:=auN) (f:=112) (φ:=ac8) rfl
theorem agz:Sound Tryz.prog 96 φWw:=by
 refine au mixed al7 Tryz.func96 rfl 70 rfl [.tmp 2] rfl (by kernel_rfl) fun ps r hr=>?_;obtain⟨s,rfl,hpre,rfl⟩:=kQ hr;refine⟨by simp,?_⟩;simp only[dIs,dUs,dSs,dx,dA,dz,dF,aS,dD,aT,aU,aR,aV];have aps:=ak3 (s:=s) hpre;unfold pI;unfold ac2 at aps;cases hw:dM s with
 |false=>rw[hw,if_neg (by decide)]at aps;rw[if_neg (by decide)];clear hw;have gwws_c110:=aci;have gwws_c111:=acW;have gwws_c112:=acI;exact wlkF
 |true=>
  rw[hw,if_pos rfl]at aps;rw[if_pos rfl];have hat:=fun k hk=>xH hw (k:=k) hk;have hlen:=(nJ hw).2;have hrg:=wS hat;generalize signs s=g at*;clear hw hpre;have gwws_c110:=aci;have gwws_c111:=acW;have gwws_c112:=acI;(refine wlk ?_;intros);refine aG (α:=Nat) mixed (fun k=>[(3,.lst true 1 (g.map pvS)),(4,iv (wdK g k)),(5,iv k)]) (fun _=>[]) (fun _=>0)
   (fun k=>k≤g.length) (fun k=>g.length-k) (by kernel_rfl) 0 (Nat.zero_le _) ?_ ?_ rfl ?_
  ·simp only[push_cast,↓reduceIte,Nat.reduceEqDiff,Nat.reduceBEq,Nat.reduceAdd,Nat.reduceSub,Int.reduceToNat,wdK]
  ·exact agr
  intro k hk;have hrk:=hrg k hk;by_cases hkl:k<g.length
  ·have hsg:=hat k hkl
   have hnx:=fun h=>hat (k+1) h;have hfl:=ace hsg;have hsn:wdK g (k+1)=wdK g k+sgW (g[k]?.getD .empty) (g[k]?.getD .empty).size-((g[k]?.getD .empty).size-1)-wm g k:=rfl;have hne:wm g k=if k+1<g.length then nA (at8 (g[k]?.getD .empty) ((g[k]?.getD .empty).size-1)) (at8 (g[k+1]?.getD .empty) 0)else 0:=rfl;replace hsn:=Lib.hid hsn;replace hne:=Lib.hid hne;clear hat hrg;generalize hx9:g[k]?.getD ByteArray.empty=x at*;obtain⟨hx1,hx2,-⟩:=hsg;generalize hw9:wdK g k=w9 at*;(refine wlk ?_;intros);refine aG (α:=Nat) mixed (fun j=>[(3,.lst true 1 (g.map pvS)),(4,iv (w9+sgW x j)),(5,iv k),(6,iv j)]) (fun _=>[]) (fun _=>0)
    (fun j=>j≤x.size) (fun j=>x.size-j) (by kernel_rfl) 0 (Nat.zero_le _) ?_ ?_ rfl ?_
   ·simp(disch:=(first|omega|(simp only[push_cast];first|done|omega))) only[push_cast,↓reduceIte,Nat.reduceEqDiff,Nat.reduceBEq,Nat.reduceAdd,Nat.reduceSub,Int.reduceToNat,sgW,Int.add_zero, *]
   ·exact agr
   intro j hj;have hfj:=hfl j hj;have apl:=ahp (at8 x j);have hlw:=wM (at8 x j);have hsj:sgW x (j+1)=sgW x j+aai (at8 x j):=rfl;replace hsj:=Lib.hid hsj;by_cases hjl:j<x.size
   ·clear hfl hnx
    generalize aai (at8 x j)=lw at*;(refine wlk ?_;intros);refine⟨j+1,by omega,by dsimp only;omega,?_,?_,rfl⟩
    ·dsimp only
     rw[hsj.out,←Int.add_assoc];exact agr
    ·exact agr
   ·obtain rfl:j=x.size:=by omega
    clear apl hlw hsj hfl;by_cases h1:k+1<g.length
    ·have hn1:=hnx h1
     clear hnx;obtain⟨hy1,-,-⟩:=hn1;have apn:=af5 (at8 x (x.size-1)) (at8 (g[k+1]?.getD .empty) 0);have hnr:=rQ (at8 x (x.size-1)) (at8 (g[k+1]?.getD .empty) 0);have hne:=hne.out;rw[if_pos h1]at hne;have hsn:=hsn.out;rw[hne]at hsn;replace hsn:=Lib.hid hsn;clear hne;generalize nA (at8 x (x.size-1)) (at8 (g[k+1]?.getD .empty) 0)=nr at*;generalize sgW x x.size=sw at*;(refine wlk ?_;intros);refine⟨k+1,by omega,by dsimp only;omega,?_,?_,rfl⟩
     ·dsimp only
      rw[hsn.out,show w9+sw-((x.size:Int)-1)-nr=w9+sw-x.size+1-nr by omega];exact agr
     ·exact agr
    ·have hne:=hne.out
     rw[if_neg h1]at hne;have hsn:=hsn.out;rw[hne,Int.sub_zero]at hsn;replace hsn:=Lib.hid hsn;clear hne hnx;generalize sgW x x.size=sw at*;(refine wlk ?_;intros);refine⟨k+1,by omega,by dsimp only;omega,?_,?_,rfl⟩
     ·dsimp only
      rw[hsn.out,show w9+sw-((x.size:Int)-1)=w9+sw-x.size+1 by omega];exact agr
     ·exact agr
  ·obtain rfl:k=g.length:=by omega
   clear hat hrg;generalize wdK g g.length=w9 at*;exact wlkF
abbrev pvN (n:Int):PV:=.val (.int .i64 n)
theorem lG {p:ByteArray} (h:zw p=true):1≤p.size∧p.size≤12:=by
 unfold zw at h;simp only[Bool.and_eq_true,decide_eq_true_eq]at h;obtain⟨-,h1,h2⟩:=h;refine⟨?_,h2⟩;rcases Nat.eq_zero_or_pos p.size with h0|h0
 ·rw[h0]at h1
  simp[anyS]at h1
 ·exact h0
def φPp:Fun:=F1 dS fun p=>if p.size≤12 then some (.tup [.val (.string (dG p)),.lst true 1 ((eG p).map fun n=> .val (.int .i64 n))])else none
theorem aqa {p:ByteArray} (h:p.size≤12):φPp [.val (.string p)]=some (.tup [.val (.string (dG p)),.lst true 1 ((eG p).map fun n=> .val (.int .i64 n))]):=(iA (A:=dS) p).trans (if_pos h)
def GPp:Ctx:={fn:=aY [(86,aeh)],io:=aY []}
theorem asW:ak Tryz.prog GPp:=okΓ (fC Tryz.func86 u6 aj) aj
def as6:=ah (Γ:=GPp) (f:=86) (φ:=aeh) rfl
theorem aju {o:List Int} {v x:Int}:(o++[v]).set o.length x=o++[x]:=by simp
theorem ahT:Sound Tryz.prog 123 φPp:=by
 refine au mixed asW Tryz.func123 rfl 40 rfl [.tmp 2,.tmp 3] rfl (by kernel_rfl) fun ps r hr=>?_;obtain⟨p,rfl,hpre,rfl⟩:=kQ hr;refine⟨by simp,?_⟩;simp only[dIs,dUs,dSs,dx,dA,dz,dF,aS,dD,aT,aU,aR,aV];have hrg:=nU p;unfold dG eG;have gpp_c86:=as6;(refine wlk ?_;intros);refine aG (α:=Nat×Nat×Nat) mixed (fun z=>[(0,.val (.string p)),(4,.val (.string (iI p z.1).1)),(5,.row z.2.1 1 0 ((iI p z.1).2.1.length+1)),(8,.val (.string p)),(9,iv p.size),(10,iv z.1)])
  (fun z=>[(z.2.1,3,1,((iI p z.1).2.1++[(iI p z.1).2.2]).map pvN)]) (fun z=>z.2.2)
  (fun z=>z.1≤p.size∧z.2.1<z.2.2) (fun z=>p.size-z.1) (by kernel_rfl) (0,0,1) ⟨by simp,by simp⟩ ?_ ?_ rfl ?_
 ·simp(disch:=(first|omega|(simp only[push_cast];first|done|omega))) only[push_cast,↓reduceIte,Nat.reduceEqDiff,Nat.reduceBEq,Nat.reduceAdd,Nat.reduceSub,Int.reduceToNat,iI,List.length_nil,Nat.zero_add, *]
 ·simp(disch:=(first|omega|(simp only[push_cast];first|done|omega))) only[push_cast,↓reduceIte,Nat.reduceEqDiff,Nat.reduceBEq,Nat.reduceAdd,Nat.reduceSub,Int.reduceToNat,iI,List.nil_append,List.map_cons,List.map_nil, *]
 rintro⟨k,x,y⟩ ⟨hk,hxy⟩;dsimp only at hk hxy;obtain⟨r1,r2,r3,-⟩:=hrg k hk;by_cases h0:k<p.size
 ·have apd:=acs (at8 p k)
  have hdd:abm (at8 p k)=inB (at8 p k) 48 57:=rfl;have hb8:=iM p k;cases hd:inB (at8 p k) 48 57 with
  |true=>
   have hst:=qB (hdd.trans hd);have hin:=av.1 hd;have w1:IntKind.u8.wrap (at8 p k-48)=at8 p k-48:=by rw[IntKind.wrap_u8];omega
   have w3:=dw (n:=at8 p k-48) (by omega) (by omega);have hsl:=@aju (iI p k).2.1 (iI p k).2.2 (at8 p k-48);rw[hd]at apd;replace hst:=Lib.hid hst;clear hrg hdd hd;generalize(iI p k).2.1=o at*;generalize(iI p k).2.2=v at*;generalize(iI p k).1=lt at*;(refine wlk ?_;intros);refine⟨(k+1,x,y),⟨by dsimp only;omega,hxy⟩,by dsimp only;omega,?_,?_,rfl⟩
   ·dsimp only
    rw[hst.out];exact agr
   ·dsimp only
    rw[hst.out];exact agr
  |false=>
   have hxz:(p.extract k (k+1)).size=1:=by rw[ByteArray.size_extract];omega
   have hst:=qw (hdd.trans hd);rw[hd]at apd;replace hst:=Lib.hid hst;clear hrg hdd hd;generalize(iI p k).2.1=o at*;generalize(iI p k).2.2=v at*;generalize(iI p k).1=lt at*;(refine wlk ?_;intros);refine⟨(k+1,y+1,y+2),⟨by dsimp only;omega,by dsimp only;omega⟩,by dsimp only;omega,?_,?_,rfl⟩
   ·dsimp only
    rw[hst.out];exact agr
   ·dsimp only
    rw[hst.out];exact agr
 ·obtain rfl:k=p.size:=by omega
  clear hrg;exact wlkF
def φPl:Fun:=F1 dS fun p=>if zw p=true then some (.val (.string (dG p)))else none
theorem anS {p:ByteArray} (h:zw p=true):φPl [.val (.string p)]=some (.val (.string (dG p))):=(iA (A:=dS) p).trans (if_pos h)
def GPl:Ctx:={fn:=aY [(75,vG)],io:=aY []}
theorem alJ:ak Tryz.prog GPl:=okΓ (fC Tryz.func75 je aj) aj
def alP:=ah (Γ:=GPl) (f:=75) (φ:=vG) rfl
theorem ah7:Sound Tryz.prog 115 φPl:=by
 refine au mixed alJ Tryz.func115 rfl 33 rfl [.tmp 2] rfl (by kernel_rfl) fun ps r hr=>?_;obtain⟨p,rfl,hpre,rfl⟩:=kQ hr;refine⟨by simp,?_⟩;simp only[dIs,dUs,dSs,dx,dA,dz,dF,aS,dD,aT,aU,aR,aV];have hsz:=lG hpre;have hrg:=nU p;have apv:=qp (s:=p) (by omega);rw[hpre]at apv;unfold dG;clear hpre;have gpl_c75:=alP;(refine wlk ?_;intros);refine aG (α:=Nat) mixed (fun k=>[(0,.val (.string p)),(3,.val (.string (iI p k).1)),(4,iv k)]) (fun _=>[]) (fun _=>0)
  (fun k=>k≤p.size) (fun k=>p.size-k) (by kernel_rfl) 0 (Nat.zero_le _) ?_ ?_ rfl ?_
 ·simp(disch:=(first|omega|(simp only[push_cast];first|done|omega))) only[push_cast,↓reduceIte,Nat.reduceEqDiff,Nat.reduceBEq,Nat.reduceAdd,Nat.reduceSub,Int.reduceToNat,iI, *]
 ·exact agr
 intro k hk;obtain⟨r1,r2,r3,-⟩:=hrg k hk;by_cases h0:k<p.size
 ·have hb8:=iM p k
  cases hd:abm (at8 p k)with
  |true=>
   have hst:=qB hd;have hin:=av.1 hd;have w1:IntKind.u8.wrap (at8 p k-48)=at8 p k-48:=by rw[IntKind.wrap_u8];omega
   have w3:=dw (n:=at8 p k-48) (by omega) (by omega);replace hst:=Lib.hid hst;clear hrg hd;generalize(iI p k).1=lt at*;(refine wlk ?_;intros);refine⟨k+1,by omega,by dsimp only;omega,?_,?_,rfl⟩
   ·dsimp only
    rw[hst.out];exact agr
   ·exact agr
  |false=>
   have hxz:(p.extract k (k+1)).size=1:=by rw[ByteArray.size_extract];omega
   have hst:=qw hd;have hno:at8 p k<48∨57<at8 p k:=by
    by_cases hh:48≤at8 p k∧at8 p k≤57
    ·have:abm (at8 p k)=true:=av.2 hh
     rw[this]at hd;cases hd
    ·omega
   replace hst:=Lib.hid hst;clear hrg hd;generalize(iI p k).1=lt at*;(refine wlk6 ?_ ?_ ?_ ?_ ?_ ?_<;>intros<;>try with_reducible exact trivial);all_goals
    refine⟨k+1,by omega,by dsimp only;omega,?_,?_,rfl⟩
    ·dsimp only
     rw[hst.out];exact agr
    ·exact agr
 ·obtain rfl:k=p.size:=by omega
  clear hrg;exact wlkF
def φPv:Fun:=F1 dS fun p=>if zw p=true then some (.lst true 1 ((eG p).map fun n=> .val (.int .i64 n)))else none
theorem anx {p:ByteArray} (h:zw p=true):φPv [.val (.string p)]=some (.lst true 1 ((eG p).map fun n=> .val (.int .i64 n))):=(iA (A:=dS) p).trans (if_pos h)
theorem aiG:Sound Tryz.prog 116 φPv:=by
 refine au mixed alJ Tryz.func116 rfl 44 rfl [.tmp 2] rfl (by kernel_rfl) fun ps r hr=>?_;obtain⟨p,rfl,hpre,rfl⟩:=kQ hr;refine⟨by simp,?_⟩;simp only[dIs,dUs,dSs,dx,dA,dz,dF,aS,dD,aT,aU,aR,aV];have hsz:=lG hpre;have hrg:=nU p;have apv:=qp (s:=p) (by omega);rw[hpre]at apv;unfold eG;clear hpre;have gpl_c75:=alP;(refine wlk ?_;intros);refine aG (α:=Nat×Nat×Nat) mixed (fun z=>[(0,.val (.string p)),(3,.row z.2.1 1 0 (iI p z.1).2.1.length),(4,iv (iI p z.1).2.2),(5,iv z.1)])
  (fun z=>[(z.2.1,3,1,(iI p z.1).2.1.map pvN)]) (fun z=>z.2.2)
  (fun z=>z.1≤p.size∧z.2.1<z.2.2) (fun z=>p.size-z.1) (by kernel_rfl) (0,0,1) ⟨by simp,by simp⟩ ?_ ?_ rfl ?_
 ·simp(disch:=(first|omega|(simp only[push_cast];first|done|omega))) only[push_cast,↓reduceIte,Nat.reduceEqDiff,Nat.reduceBEq,Nat.reduceAdd,Nat.reduceSub,Int.reduceToNat,iI,List.length_nil, *]
 ·simp(disch:=(first|omega|(simp only[push_cast];first|done|omega))) only[push_cast,↓reduceIte,Nat.reduceEqDiff,Nat.reduceBEq,Nat.reduceAdd,Nat.reduceSub,Int.reduceToNat,iI,List.map_nil, *]
 rintro⟨k,x,y⟩ ⟨hk,hxy⟩;dsimp only at hk hxy;obtain⟨r1,r2,r3,-⟩:=hrg k hk;by_cases h0:k<p.size
 ·have hb8:=iM p k
  cases hd:abm (at8 p k)with
  |true=>
   have hst:=qB hd;have hin:=av.1 hd;have w1:IntKind.u8.wrap (at8 p k-48)=at8 p k-48:=by rw[IntKind.wrap_u8];omega
   have w3:=dw (n:=at8 p k-48) (by omega) (by omega);replace hst:=Lib.hid hst;clear hrg hd;generalize(iI p k).2.1=o at*;generalize(iI p k).2.2=v at*;generalize(iI p k).1=lt at*;(refine wlk ?_;intros);refine⟨(k+1,x,y),⟨by dsimp only;omega,hxy⟩,by dsimp only;omega,?_,?_,rfl⟩
   ·dsimp only
    rw[hst.out];exact agr
   ·dsimp only
    rw[hst.out];exact agr
  |false=>
   have hxz:(p.extract k (k+1)).size=1:=by rw[ByteArray.size_extract];omega
   have hst:=qw hd;have hno:at8 p k<48∨57<at8 p k:=by
    by_cases hh:48≤at8 p k∧at8 p k≤57
    ·have:abm (at8 p k)=true:=av.2 hh
     rw[this]at hd;cases hd
    ·omega
   replace hst:=Lib.hid hst;clear hrg hd;generalize(iI p k).2.1=o at*;generalize(iI p k).2.2=v at*;generalize(iI p k).1=lt at*;(refine wlk6 ?_ ?_ ?_ ?_ ?_ ?_<;>intros<;>try with_reducible exact trivial);all_goals
    refine⟨(k+1,y+1,y+2),⟨by dsimp only;omega,by dsimp only;omega⟩,by dsimp only;omega,?_,?_,rfl⟩
    ·dsimp only
     rw[hst.out];exact agr
    ·dsimp only
     rw[hst.out];exact agr
 ·obtain rfl:k=p.size:=by omega
  clear hrg;exact wlkF
def ql (w:ByteArray) (pats:LS):Bool:=dM w&&bE pats
theorem j4 {w:ByteArray} {pats:LS}:ql w pats=true↔dM w=true∧bE pats=true:=by simp[ql]
theorem ahY {pats:LS} (h:bE pats=true) {k:Nat} (hk:k<pats.length):zw (pats[k]?.getD .empty)=true:=by unfold bE at h;rw[Bool.and_eq_true,List.all_eq_true]at h;rw[List.getElem?_eq_getElem hk,Option.getD_some];exact h.2 _ (List.getElem_mem hk)
theorem acE {pats:LS} (h:bE pats=true):pats.length≤20:=by unfold bE at h;rw[Bool.and_eq_true]at h;exact of_decide_eq_true h.1
def o7 (w:ByteArray) (pats:LS):List Int:=if ql w pats=true then iL w pats else []
abbrev ai8 (w:ByteArray) (pats:LS):Prop:=w.size≤1048576∧ow pats
instance (w:ByteArray) (pats:LS):Decidable (ai8 w pats):=Classical.propDecidable _
def φLv:Fun:=F2 dS dSs fun w pats=>if ai8 w pats then some (.lst true 1 ((o7 w pats).map fun n=> .val (.int .i64 n)))else none
theorem agJ {w:ByteArray} {pats:LS} (h:ai8 w pats):φLv [.val (.string w),.lst false 1 (pats.map fun s=> .val (.string s))]=some (.lst true 1 ((o7 w pats).map fun n=> .val (.int .i64 n))):=(jZ (A:=dS) (B:=dSs) w pats).trans (if_pos h)
def akS:Fun:=F2 dS dSs fun w pats=>if ql w pats=true then some (.lst true 1 ((iL w pats).map fun n=> .val (.int .i64 n)))else none
theorem ai5 {w:ByteArray} {pats:LS} (h:ql w pats=true):akS [.val (.string w),.lst false 1 (pats.map fun s=> .val (.string s))]=some (.lst true 1 ((iL w pats).map fun n=> .val (.int .i64 n))):=(jZ (A:=dS) (B:=dSs) w pats).trans (if_pos h)
theorem adi {sz a j:Nat} {lv o:List Int} (h:1≤a+j) (h2:a+j≤sz+1):aas sz a j lv o=o.set (a+j-1) (if lv[j]?.getD 0>o[a+j-1]?.getD 0 then lv[j]?.getD 0 else o[a+j-1]?.getD 0):=if_pos ⟨h,h2⟩
theorem zl {sz a j:Nat} {lv o:List Int} (h:¬(1≤a+j∧a+j≤sz+1)):aas sz a j lv o=o:=if_neg h
theorem aiF {d lt:ByteArray} {sz a:Nat} {lv o:List Int} (h:d.extract a (a+lt.size)=lt):lvA d sz lt lv o (a+1)=lvJ sz a lv (lvA d sz lt lv o a) lv.length:=by rw[lvA,if_pos h]
theorem adH {d lt:ByteArray} {sz a:Nat} {lv o:List Int} (h:¬d.extract a (a+lt.size)=lt):lvA d sz lt lv o (a+1)=lvA d sz lt lv o a:=by rw[lvA,if_neg h]
def avY:Ctx:={fn:=aY [(123,φPp),(43,φIn)],io:=aY []}
theorem anu:ak Tryz.prog avY:=okΓ (fC Tryz.func123 ahT (fC Tryz.func43 pO aj)) aj
def akg:=ah (Γ:=avY) (f:=123) (φ:=φPp) rfl
def aqe:=ah (Γ:=avY) (f:=43) (φ:=φIn) rfl
theorem aeL:Sound Tryz.prog 117 akS:=by
 refine au mixed anu Tryz.func117 rfl 78 rfl [.tmp 4] rfl (by kernel_rfl) fun ps r hr=>?_;obtain⟨w,pats,rfl,hpre,rfl⟩:=iF hr;refine⟨by simp,?_⟩;simp only[dIs,dUs,dSs,dx,dA,dz,dF,aS,dD,aT,aU,aR,aV];obtain⟨hw,hp⟩:=j4.1 hpre;obtain⟨-,hw1,hw2⟩:=aW hw;have hpl:=acE hp;have hpa:=fun k hk=>ahY hp (k:=k) hk;have hds:=yt w;have hlo:=aah w pats;have hd0:aoS w=(⟨#[46]⟩++w)++⟨#[46]⟩:=rfl;have h46:(⟨#[46]⟩:ByteArray).size=1:=rfl;have api:=bL;unfold iL;clear hw hp hpre;have glvi_c123:=akg;have glvi_c43:=aqe;(refine wlk ?_;intros);rw[←hd0];clear hd0 h46;generalize hdd:aoS w=d at*;refine aG (α:=Nat) mixed (fun k=>[(0,.val (.string w)),(5,.val (.string d)),(6,.row 0 1 0 (w.size+1)),(22,.lst false 1 (pats.map fun s=> .val (.string s))),(23,iv pats.length),(24,iv k)])
  (fun k=>[(0,3,1,(lvP w pats k).map pvN)]) (fun _=>1)
  (fun k=>k≤pats.length) (fun k=>pats.length-k) (by kernel_rfl) 0 (Nat.zero_le _) ?_ ?_ rfl ?_
 ·exact agr
 ·simp(disch:=(first|omega|(simp only[push_cast];first|done|omega))) only[push_cast,↓reduceIte,Nat.reduceEqDiff,Nat.reduceBEq,Nat.reduceAdd,Nat.reduceSub,Int.reduceToNat,lvP,List.map_replicate, *]
 intro k hk;by_cases h0:k<pats.length
 ·have hpk:=hpa k h0
  have happ:=aqa (p:=pats[k]?.getD .empty) (lG hpk).2;obtain⟨g1,g2,g3⟩:=mQ (pats[k]?.getD .empty);have hps:=(lG hpk).2;have hnx:lvP w pats (k+1)=lvA d w.size (dG (pats[k]?.getD .empty)) (eG (pats[k]?.getD .empty)) (lvP w pats k) (w.size+3-(dG (pats[k]?.getD .empty)).size):=by rw[lvP,hdd]
  have ho:=hlo k;replace hnx:=Lib.hid hnx;clear hpa hlo hpk;generalize hp9:pats[k]?.getD ByteArray.empty=p at*;generalize dG p=lt at*;generalize eG p=lv at*;generalize lvP w pats k=o at*;have hA:=fun a=>(ho.lvA (d:=d) (lt:=lt) (lv:=lv) g3 a);(refine wlk ?_;intros);refine aG (α:=Nat) mixed (fun a=>[(0,.val (.string w)),(5,.val (.string d)),(6,.row 0 1 0 (w.size+1)),(22,.lst false 1 (pats.map fun s=> .val (.string s))),(23,iv pats.length),(24,iv k),(9,.val (.string lt)),(10,.lst true 1 (lv.map pvN)),(11,iv a)])
   (fun a=>[(0,3,1,(lvA d w.size lt lv o a).map pvN)]) (fun _=>1)
   (fun a=>a≤w.size+3-lt.size) (fun a=>w.size+3-lt.size-a) (by kernel_rfl) 0 (Nat.zero_le _) ?_ ?_ rfl ?_
  ·exact agr
  ·simp(disch:=(first|omega|(simp only[push_cast];first|done|omega))) only[push_cast,↓reduceIte,Nat.reduceEqDiff,Nat.reduceBEq,Nat.reduceAdd,Nat.reduceSub,Int.reduceToNat,lvA, *]
  intro a ha;by_cases ha0:a<w.size+3-lt.size
  ·obtain⟨oa1,oa2⟩:=hA a
   have hJ:=fun j=>((hA a).lvJ (a:=a) (lv:=lv) g3 j);clear hA ho happ;by_cases hm:d.extract a (a+lt.size)=lt
   ·have hn:=aiF (sz:=w.size) (lv:=lv) (o:=o) hm
    replace hn:=Lib.hid hn;replace hm:=Lib.hid hm;generalize lvA d w.size lt lv o a=oa at*;have hm:=hm.out;(refine wlk ?_;intros);clear hm;refine aG (α:=Nat) mixed (fun j=>[(0,.val (.string w)),(5,.val (.string d)),(6,.row 0 1 0 (w.size+1)),(22,.lst false 1 (pats.map fun s=> .val (.string s))),(23,iv pats.length),(24,iv k),(9,.val (.string lt)),(10,.lst true 1 (lv.map pvN)),(11,iv a),(51,.lst true 1 (lv.map pvN)),(52,iv lv.length),(53,iv j)])
     (fun j=>[(0,3,1,(lvJ w.size a lv oa j).map pvN)]) (fun _=>1)
     (fun j=>j≤lv.length) (fun j=>lv.length-j) (by kernel_rfl) 0 (Nat.zero_le _) ?_ ?_ rfl ?_
    ·exact agr
    ·simp(disch:=(first|omega|(simp only[push_cast];first|done|omega))) only[push_cast,↓reduceIte,Nat.reduceEqDiff,Nat.reduceBEq,Nat.reduceAdd,Nat.reduceSub,Int.reduceToNat,lvJ, *]
    intro j hj;by_cases hj0:j<lv.length
    ·obtain⟨oj1,oj2⟩:=hJ j
     clear hJ;have hs:lvJ w.size a lv oa (j+1)=aas w.size a j lv (lvJ w.size a lv oa j):=rfl;have hg3:=g3 j;by_cases hin:1≤a+j∧a+j≤w.size+1
     ·rw[adi hin.1 hin.2]at hs
      replace hs:=Lib.hid hs;have api1:inB ((a:Int)+j-1) 0 w.size=true:=av.2 ⟨by omega,by omega⟩;have hti:((a:Int)+j-1).toNat=a+j-1:=by omega
      generalize lvJ w.size a lv oa j=oj at*;(refine wlk ?_;intros);refine⟨j+1,by omega,by dsimp only;omega,?_,?_,rfl⟩
      ·exact agr
      ·dsimp only
       rw[hs.out];exact agr
     ·rw[zl hin]at hs
      replace hs:=Lib.hid hs;have api1:inB ((a:Int)+j-1) 0 w.size=false:=Bool.eq_false_iff.2 fun q=>by have:=av.1 q;omega
      generalize lvJ w.size a lv oa j=oj at*;(refine wlk ?_;intros);refine⟨j+1,by omega,by dsimp only;omega,?_,?_,rfl⟩
      ·exact agr
      ·dsimp only
       rw[hs.out];exact agr
    ·obtain rfl:j=lv.length:=by omega
     clear hJ;(refine wlk ?_;intros);refine⟨a+1,by omega,by dsimp only;omega,?_,?_,rfl⟩
     ·exact agr
     ·dsimp only
      rw[hn.out];exact agr
   ·have hn:=adH (sz:=w.size) (lv:=lv) (o:=o) hm
    replace hn:=Lib.hid hn;generalize lvA d w.size lt lv o a=oa at*;(refine wlk ?_;intros);refine⟨a+1,by omega,by dsimp only;omega,?_,?_,rfl⟩
    ·exact agr
    ·dsimp only
     rw[hn.out];exact agr
  ·have hae:a=w.size+3-lt.size:=by omega
   clear hA ho happ;rw[←hae]at hnx;generalize lvA d w.size lt lv o a=oa at*;clear hae;(refine wlk ?_;intros);refine⟨k+1,by omega,by dsimp only;omega,?_,?_,rfl⟩
   ·exact agr
   ·dsimp only
    rw[hnx.out];exact agr
 ·obtain rfl:k=pats.length:=by omega
  obtain⟨o1,o2⟩:=hlo pats.length;clear hlo hpa;generalize lvP w pats pats.length=o at*;exact wlkF
def akQ:Ctx:={fn:=aY [(66,gJ),(50,gQ),(117,akS)],io:=aY []}
theorem ajb:ak Tryz.prog akQ:=okΓ (fC Tryz.func66 gu (fC Tryz.func50 dO (fC Tryz.func117 aeL aj))) aj
def vw:=ah (Γ:=akQ) (f:=66) (φ:=gJ) rfl
def vH:=ah (Γ:=akQ) (f:=50) (φ:=gQ) rfl
def tL:=ah (Γ:=akQ) (f:=117) (φ:=akS) rfl
theorem ahJ:Sound Tryz.prog 103 φLv:=by
 refine gP mixed ajb Tryz.func103 rfl 16 rfl [.tmp 4] rfl (by kernel_rfl) fun ps r hr=>?_;obtain⟨w,pats,rfl,hpre,rfl⟩:=iF hr;refine⟨by simp,?_⟩;simp only[dIs,dUs,dSs,dx,dA,dz,dF,aS,dD,aT,aU,aR,aV];have ap1:=iJ (s:=w) (by omega);have ap2:=iG hpre.2;have apl:=fun h=>ai5 (w:=w) (pats:=pats) h;unfold o7 ql;unfold ql at apl;cases hw:dM w with
 |false=>
  rw[hw]at ap1;clear apl hpre hw;rw[Bool.false_and,if_neg (by decide)];have glvi2_c66:=vw;have glvi2_c50:=vH;have glvi2_c117:=tL;(refine wlk ?_;intros);all_goals((with_reducible apply cO (by first|exact .inl rfl|exact .inr rfl));(simp(disch:=(first|omega|(simp only[push_cast];first|done|omega))) only[push_cast,↓reduceIte,Nat.reduceEqDiff,Nat.reduceBEq,Nat.reduceAdd,Nat.reduceSub,Int.reduceToNat, *]<;>with_reducible exact rfl))
  all_goals exact nil_le _ _
 |true=>
  cases hp:bE pats with
  |false=>
   rw[hw]at ap1;rw[hp]at ap2;clear apl hpre hw hp;rw[Bool.and_false,if_neg (by decide)];have glvi2_c66:=vw;have glvi2_c50:=vH;have glvi2_c117:=tL;(refine wlk ?_;intros);all_goals((with_reducible apply cO (by first|exact .inl rfl|exact .inr rfl));(simp(disch:=(first|omega|(simp only[push_cast];first|done|omega))) only[push_cast,↓reduceIte,Nat.reduceEqDiff,Nat.reduceBEq,Nat.reduceAdd,Nat.reduceSub,Int.reduceToNat, *]<;>with_reducible exact rfl))
   all_goals exact nil_le _ _
  |true=>
   have apl:=apl (by rw[hw,hp];rfl);rw[hw]at ap1;rw[hp]at ap2;clear hpre hw hp;rw[Bool.and_true,if_pos rfl];have glvi2_c66:=vw;have glvi2_c50:=vH;have glvi2_c117:=tL;(refine wlk ?_;intros);all_goals((with_reducible apply cO (by first|exact .inl rfl|exact .inr rfl));(simp(disch:=(first|omega|(simp only[push_cast];first|done|omega))) only[push_cast,↓reduceIte,Nat.reduceEqDiff,Nat.reduceBEq,Nat.reduceAdd,Nat.reduceSub,Int.reduceToNat, *]<;>with_reducible exact rfl))
   all_goals exact PV.le_refl _
def aqC:Ctx:={fn:=aY [(74,gJ),(61,gQ),(115,φPl),(116,φPv),(48,φIn)],io:=aY []}
theorem amA:ak Tryz.prog aqC:=okΓ (fC Tryz.func74 fV (fC Tryz.func61 dP (fC Tryz.func115 ah7 (fC Tryz.func116 aiG (fC Tryz.func48 iq aj))))) aj
def aaN:=ah (Γ:=aqC) (f:=74) (φ:=gJ) rfl
def abx:=ah (Γ:=aqC) (f:=61) (φ:=gQ) rfl
def vO:=ah (Γ:=aqC) (f:=115) (φ:=φPl) rfl
def vX:=ah (Γ:=aqC) (f:=116) (φ:=φPv) rfl
def aaC:=ah (Γ:=aqC) (f:=48) (φ:=φIn) rfl
theorem agA:Sound Tryz.prog 102 φLv:=by
 refine au mixed amA Tryz.func102 rfl 90 rfl [.tmp 4] rfl (by kernel_rfl) fun ps r hr=>?_;obtain⟨w,pats,rfl,hpre,rfl⟩:=iF hr;refine⟨by simp,?_⟩;simp only[dIs,dUs,dSs,dx,dA,dz,dF,aS,dD,aT,aU,aR,aV];have ap1:=iJ (s:=w) (by omega);have ap2:=iG hpre.2;unfold o7 ql;cases hw:dM w with
 |false=>rw[hw]at ap1;clear hpre hw;rw[Bool.false_and,if_neg (by decide)];have glvs_c74:=aaN;have glvs_c61:=abx;have glvs_c115:=vO;have glvs_c116:=vX;have glvs_c48:=aaC;exact wlkF
 |true=>
 cases hp:bE pats with
 |false=>rw[hw]at ap1;rw[hp]at ap2;clear hpre hw hp;rw[Bool.and_false,if_neg (by decide)];have glvs_c74:=aaN;have glvs_c61:=abx;have glvs_c115:=vO;have glvs_c116:=vX;have glvs_c48:=aaC;exact wlkF
 |true=>
 rw[hw]at ap1;rw[hp]at ap2;rw[Bool.and_true,if_pos rfl];obtain⟨-,hw1,hw2⟩:=aW hw;have hpl:=acE hp;have hpa:=fun k hk=>ahY hp (k:=k) hk;have hds:=yt w;have hlo:=aah w pats;have hd0:aoS w=(⟨#[46]⟩++w)++⟨#[46]⟩:=rfl;have h46:(⟨#[46]⟩:ByteArray).size=1:=rfl;have api:=bL;unfold iL;clear hw hp hpre;have glvs_c74:=aaN;have glvs_c61:=abx;have glvs_c115:=vO;have glvs_c116:=vX;have glvs_c48:=aaC;(refine wlk ?_;intros);rw[←hd0];clear hd0 h46;generalize hdd:aoS w=d at*;refine aG (α:=Nat) mixed (fun k=>[(0,.val (.string w)),(1,.lst false 1 (pats.map fun s=> .val (.string s))),(5,.row 0 1 0 (w.size+1)),(6,.val (.string d)),(7,iv k)])
  (fun k=>[(0,3,1,(lvP w pats k).map pvN)]) (fun _=>1)
  (fun k=>k≤pats.length) (fun k=>pats.length-k) (by kernel_rfl) 0 (Nat.zero_le _) ?_ ?_ rfl ?_
 ·exact agr
 ·simp(disch:=(first|omega|(simp only[push_cast];first|done|omega))) only[push_cast,↓reduceIte,Nat.reduceEqDiff,Nat.reduceBEq,Nat.reduceAdd,Nat.reduceSub,Int.reduceToNat,lvP,List.map_replicate, *]
 intro k hk;by_cases h0:k<pats.length
 ·have hpk:=hpa k h0
  have hap1:=anS hpk;have hap2:=anx hpk;obtain⟨g1,g2,g3⟩:=mQ (pats[k]?.getD .empty);have hps:=(lG hpk).2;have hnx:lvP w pats (k+1)=lvA d w.size (dG (pats[k]?.getD .empty)) (eG (pats[k]?.getD .empty)) (lvP w pats k) (w.size+3-(dG (pats[k]?.getD .empty)).size):=by rw[lvP,hdd]
  have ho:=hlo k;replace hnx:=Lib.hid hnx;clear hpa hlo hpk;generalize hp9:pats[k]?.getD ByteArray.empty=p at*;generalize dG p=lt at*;generalize eG p=lv at*;generalize lvP w pats k=o at*;have hA:=fun a=>(ho.lvA (d:=d) (lt:=lt) (lv:=lv) g3 a);(refine wlk ?_;intros);refine aG (α:=Nat) mixed (fun a=>[(0,.val (.string w)),(1,.lst false 1 (pats.map fun s=> .val (.string s))),(5,.row 0 1 0 (w.size+1)),(6,.val (.string d)),(7,iv k),(8,.val (.string lt)),(9,.lst true 1 (lv.map pvN)),(10,iv a)])
   (fun a=>[(0,3,1,(lvA d w.size lt lv o a).map pvN)]) (fun _=>1)
   (fun a=>a≤w.size+3-lt.size) (fun a=>w.size+3-lt.size-a) (by kernel_rfl) 0 (Nat.zero_le _) ?_ ?_ rfl ?_
  ·exact agr
  ·simp(disch:=(first|omega|(simp only[push_cast];first|done|omega))) only[push_cast,↓reduceIte,Nat.reduceEqDiff,Nat.reduceBEq,Nat.reduceAdd,Nat.reduceSub,Int.reduceToNat,lvA, *]
  intro a ha;by_cases ha0:a<w.size+3-lt.size
  ·obtain⟨oa1,oa2⟩:=hA a
   have hJ:=fun j=>((hA a).lvJ (a:=a) (lv:=lv) g3 j);clear hA ho hap1 hap2;by_cases hm:d.extract a (a+lt.size)=lt
   ·have hn:=aiF (sz:=w.size) (lv:=lv) (o:=o) hm
    replace hn:=Lib.hid hn;replace hm:=Lib.hid hm;generalize lvA d w.size lt lv o a=oa at*;have hm:=hm.out;(refine wlk ?_;intros);clear hm;refine aG (α:=Nat) mixed (fun j=>[(0,.val (.string w)),(1,.lst false 1 (pats.map fun s=> .val (.string s))),(5,.row 0 1 0 (w.size+1)),(6,.val (.string d)),(7,iv k),(8,.val (.string lt)),(9,.lst true 1 (lv.map pvN)),(10,iv a),(11,iv j)])
     (fun j=>[(0,3,1,(lvJ w.size a lv oa j).map pvN)]) (fun _=>1)
     (fun j=>j≤lv.length) (fun j=>lv.length-j) (by kernel_rfl) 0 (Nat.zero_le _) ?_ ?_ rfl ?_
    ·exact agr
    ·simp(disch:=(first|omega|(simp only[push_cast];first|done|omega))) only[push_cast,↓reduceIte,Nat.reduceEqDiff,Nat.reduceBEq,Nat.reduceAdd,Nat.reduceSub,Int.reduceToNat,lvJ, *]
    intro j hj;by_cases hj0:j<lv.length
    ·obtain⟨oj1,oj2⟩:=hJ j
     clear hJ;have hs:lvJ w.size a lv oa (j+1)=aas w.size a j lv (lvJ w.size a lv oa j):=rfl;have hg3:=g3 j;by_cases hin:1≤a+j∧a+j≤w.size+1
     ·rw[adi hin.1 hin.2]at hs
      replace hs:=Lib.hid hs;have api1:inB ((a:Int)+j-1) 0 w.size=true:=av.2 ⟨by omega,by omega⟩;have hti:((a:Int)+j-1).toNat=a+j-1:=by omega
      generalize lvJ w.size a lv oa j=oj at*;(refine wlk ?_;intros);refine⟨j+1,by omega,by dsimp only;omega,?_,?_,rfl⟩
      ·exact agr
      ·dsimp only
       rw[hs.out];exact agr
     ·rw[zl hin]at hs
      replace hs:=Lib.hid hs;have api1:inB ((a:Int)+j-1) 0 w.size=false:=Bool.eq_false_iff.2 fun q=>by have:=av.1 q;omega
      generalize lvJ w.size a lv oa j=oj at*;(refine wlk ?_;intros);refine⟨j+1,by omega,by dsimp only;omega,?_,?_,rfl⟩
      ·exact agr
      ·dsimp only
       rw[hs.out];exact agr
    ·obtain rfl:j=lv.length:=by omega
     clear hJ;(refine wlk ?_;intros);refine⟨a+1,by omega,by dsimp only;omega,?_,?_,rfl⟩
     ·exact agr
     ·dsimp only
      rw[hn.out];exact agr
   ·have hn:=adH (sz:=w.size) (lv:=lv) (o:=o) hm
    replace hn:=Lib.hid hn;generalize lvA d w.size lt lv o a=oa at*;(refine wlk ?_;intros);refine⟨a+1,by omega,by dsimp only;omega,?_,?_,rfl⟩
    ·exact agr
    ·dsimp only
     rw[hn.out];exact agr
  ·have hae:a=w.size+3-lt.size:=by omega
   clear hA ho hap1 hap2;rw[←hae]at hnx;generalize lvA d w.size lt lv o a=oa at*;clear hae;(refine wlk ?_;intros);refine⟨k+1,by omega,by dsimp only;omega,?_,?_,rfl⟩
   ·exact agr
   ·dsimp only
    rw[hnx.out];exact agr
 ·obtain rfl:k=pats.length:=by omega
  obtain⟨o1,o2⟩:=hlo pats.length;clear hlo hpa;generalize lvP w pats pats.length=o at*;exact wlkF
def oU (w:ByteArray) (pats:LS):List Int:=if ql w pats=true then jQ w pats else []
def φPc:Fun:=F2 dS dSs fun w pats=>if ai8 w pats then some (.lst true 1 ((oU w pats).map fun n=> .val (.int .i64 n)))else none
theorem ahl {w:ByteArray} {pats:LS} (h:ai8 w pats):φPc [.val (.string w),.lst false 1 (pats.map fun s=> .val (.string s))]=some (.lst true 1 ((oU w pats).map fun n=> .val (.int .i64 n))):=(jZ (A:=dS) (B:=dSs) w pats).trans (if_pos h)
abbrev LI:=List Int
theorem oh {T sz x:Nat} {es:List PV}:ku (lo (nO T sz es x)) (nO T sz es x):=by
 cases es with
 |nil=>trivial
 |cons e es=>show ku (lo [_]) [_];simp only[push_cast]
theorem alB {sz:Nat} {lv:List Int} {k:Nat} (h:¬(2≤k∧k+3≤sz∧lv[k]?.getD 0 % 2=1)):plB sz lv k=false:=decide_eq_false h
theorem ag5 {sz:Nat} {lv:List Int} {k:Nat} (h:2≤k∧k+3≤sz∧lv[k]?.getD 0 % 2=1):plB sz lv k=true:=decide_eq_true h
def awC:Ctx:={fn:=aY [(103,φLv),(43,φIn)],io:=aY []}
theorem aqk:ak Tryz.prog awC:=okΓ (fC Tryz.func103 ahJ (fC Tryz.func43 pO aj)) aj
def adf:=ah (Γ:=awC) (f:=103) (φ:=φLv) rfl
def agp:=ah (Γ:=awC) (f:=43) (φ:=φIn) rfl
theorem aib:Sound Tryz.prog 87 φPc:=by
 refine gP mixed aqk Tryz.func87 rfl 33 rfl [.tmp 4] rfl (by kernel_rfl) fun ps r hr=>?_;obtain⟨w,pats,rfl,hpre,rfl⟩:=iF hr;refine⟨by simp,?_⟩;simp only[dIs,dUs,dSs,dx,dA,dz,dF,aS,dD,aT,aU,aR,aV];have apl:=agJ hpre;have api:=bL;unfold o7 at apl;unfold oU;cases hB:ql w pats with
 |false=>
  rw[hB,if_neg (by decide)]at apl;rw[if_neg (by decide)];clear hB hpre;have gpci_c103:=adf;have gpci_c43:=agp;(refine wlk ?_;intros);refine aG (α:=Unit) mixed (fun _=>[(5,.val (.slice none 0 0)),(10,.lst true 1 []),(11,iv 0),(12,iv 0)]) (fun _=>[]) (fun _=>0) (fun _=>True) (fun _=>0) (by kernel_rfl) () trivial ?_ ?_ rfl ?_
  ·exact agr
  ·exact agr
  rintro⟨⟩-;(refine wlk ?_;intros);all_goals((with_reducible apply cO (by first|exact .inl rfl|exact .inr rfl));(simp(disch:=(first|omega|(simp only[push_cast];first|done|omega))) only[push_cast,↓reduceIte,Nat.reduceEqDiff,Nat.reduceBEq,Nat.reduceAdd,Nat.reduceSub,Int.reduceToNat, *]<;>with_reducible exact rfl))
  all_goals exact nil_le _ _
 |true=>
  rw[hB,if_pos rfl]at apl;rw[if_pos rfl];obtain⟨-,hw1,hw2⟩:=aW (j4.1 hB).1;obtain⟨l1,l2⟩:=aah w pats pats.length;unfold jQ;have he:iL w pats=lvP w pats pats.length:=rfl;rw[he]at apl⊢;generalize lvP w pats pats.length=lv at*;clear hB hpre he;have hP0:plK w.size lv 0=[]:=rfl;have hPl:=afX w.size lv;have gpci_c103:=adf;have gpci_c43:=agp;(refine wlk ?_;intros);refine aG (α:=Nat×LI×Nat×Nat) mixed (fun z=>[(0,.val (.string w)),(5,nP 1 (z.2.1.map pvN) z.2.2.1),(10,.lst true 1 (lv.map pvN)),(11,iv lv.length),(12,iv z.1)])
   (fun z=>nO 3 1 (z.2.1.map pvN) z.2.2.1) (fun z=>z.2.2.2)
   (fun z=>z.1≤lv.length∧z.2.1=plK w.size lv z.1∧(0<z.2.1.length→z.2.2.1<z.2.2.2)) (fun z=>lv.length-z.1) (by kernel_rfl) (0,[],0,0) ⟨Nat.zero_le _,rfl,by simp⟩ ?_ ?_ rfl ?_
  ·exact agr
  ·exact agr
  rintro⟨k,out,x,y⟩ ⟨hk,hI,hxy⟩;dsimp only at hk hI hxy;have hol:out.length≤22:=by rw[hI];have:=hPl k;omega
  clear hPl hP0;by_cases h0:k<lv.length
  ·have hlk:=l2 k
   by_cases hc:2≤k∧k+3≤w.size∧lv[k]?.getD 0 % 2=1
   ·have hI2:out++[(k:Int)]=plK w.size lv (k+1):=by rw[aaG (ag5 hc),←hI]
    replace hI2:=Lib.hid hI2;obtain⟨c1,c2,c3⟩:=hc;have api1:inB (k:Int) 2 ((w.size:Int)-3)=true:=av.2 ⟨by omega,by omega⟩;clear hI l2;by_cases hz:out.length=0
    ·obtain rfl:out=[]:=List.eq_nil_of_length_eq_zero hz
     (refine wlk ?_;intros);refine⟨(k+1,[]++[(k:Int)],y+1,y+2),⟨by dsimp only;omega,hI2.out,fun _=>by dsimp only;omega⟩,by dsimp only;omega,?_,?_,rfl⟩
     ·exact agr
     ·exact agr
    ·have hxy:=hxy (by omega)
     have hap:0<(out.map pvN).length:=by rw[List.length_map];omega
     clear hz;have hap3:0<((out++[(k:Int)]).map pvN).length:=by simp
     simp only[aB hap,aF hap,List.length_map];(refine wlk ?_;intros);refine⟨(k+1,out++[(k:Int)],y+1,y+2),⟨by dsimp only;omega,hI2.out,fun _=>by dsimp only;omega⟩,by dsimp only;omega,?_,?_,rfl⟩
     ·simp(disch:=(first|omega|(simp only[push_cast];first|done|omega))) only[push_cast,↓reduceIte,Nat.reduceEqDiff,Nat.reduceBEq,Nat.reduceAdd,Nat.reduceSub,Int.reduceToNat,aB hap3,List.length_append, *]
     ·simp(disch:=(first|omega|(simp only[push_cast];first|done|omega))) only[push_cast,↓reduceIte,Nat.reduceEqDiff,Nat.reduceBEq,Nat.reduceAdd,Nat.reduceSub,Int.reduceToNat,aF hap3, *]
   ·have hI2:out=plK w.size lv (k+1):=by rw[uT (alB hc),←hI]
    replace hI2:=Lib.hid hI2;clear hI l2;by_cases c3:lv[k]?.getD 0 % 2=1
    ·have api1:inB (k:Int) 2 ((w.size:Int)-3)=false:=Bool.eq_false_iff.2 fun q=>by have:=av.1 q;omega
     clear hc;(refine wlk ?_;intros);refine⟨(k+1,out,x,y),⟨by dsimp only;omega,hI2.out,hxy⟩,by dsimp only;omega,?_,oh,rfl⟩
     ·exact agr
    ·clear hc
     (refine wlk ?_;intros);refine⟨(k+1,out,x,y),⟨by dsimp only;omega,hI2.out,hxy⟩,by dsimp only;omega,?_,oh,rfl⟩
     ·exact agr
  ·obtain rfl:k=lv.length:=by omega
   rw[←l1,←hI];clear hI l2;by_cases hz:out.length=0
   ·obtain rfl:out=[]:=List.eq_nil_of_length_eq_zero hz
    (refine wlk ?_;intros);all_goals((with_reducible apply cO (by first|exact .inl rfl|exact .inr rfl));(simp(disch:=(first|omega|(simp only[push_cast];first|done|omega))) only[push_cast,↓reduceIte,Nat.reduceEqDiff,Nat.reduceBEq,Nat.reduceAdd,Nat.reduceSub,Int.reduceToNat, *]<;>with_reducible exact rfl))
    all_goals exact nil_le _ _
   ·have hxy:=hxy (by omega)
    have hap:0<(out.map pvN).length:=by rw[List.length_map];omega
    clear hz;simp only[aB hap,aF hap,List.length_map];(refine wlk ?_;intros);all_goals((with_reducible apply cO (by first|exact .inl rfl|exact .inr rfl));(simp(disch:=(first|omega|(simp only[push_cast];first|done|omega))) only[push_cast,↓reduceIte,Nat.reduceEqDiff,Nat.reduceBEq,Nat.reduceAdd,Nat.reduceSub,Int.reduceToNat, *]<;>with_reducible exact rfl))
    all_goals exact PV.le_refl _
def axe:Ctx:={fn:=aY [(102,φLv)],io:=aY []}
theorem aoz:ak Tryz.prog axe:=okΓ (fC Tryz.func102 agA aj) aj
def acU:=ah (Γ:=axe) (f:=102) (φ:=φLv) rfl
theorem afq:Sound Tryz.prog 84 φPc:=by
 refine au mixed aoz Tryz.func84 rfl 30 rfl [.tmp 4] rfl (by kernel_rfl) fun ps r hr=>?_;obtain⟨w,pats,rfl,hpre,rfl⟩:=iF hr;refine⟨by simp,?_⟩;simp only[dIs,dUs,dSs,dx,dA,dz,dF,aS,dD,aT,aU,aR,aV];have apl:=agJ hpre;unfold o7 at apl;unfold oU;cases hB:ql w pats with
 |false=>
  rw[hB,if_neg (by decide)]at apl;rw[if_neg (by decide)];clear hB hpre;have gpcs_c102:=acU;(refine wlk ?_;intros);refine aG (α:=Unit) mixed (fun _=>[(5,.row 0 1 0 0),(6,.lst true 1 []),(7,iv 2)]) (fun _=>[(0,3,1,[])]) (fun _=>1) (fun _=>True) (fun _=>0) (by kernel_rfl) () trivial ?_ ?_ rfl ?_
  ·exact agr
  ·exact agr
  rintro⟨⟩-;exact wlkF
 |true=>
  rw[hB,if_pos rfl]at apl;rw[if_pos rfl];obtain⟨-,hw1,hw2⟩:=aW (j4.1 hB).1;obtain⟨l1,l2⟩:=aah w pats pats.length;unfold jQ;have he:iL w pats=lvP w pats pats.length:=rfl;rw[he]at apl⊢;generalize lvP w pats pats.length=lv at*;clear hB hpre he;have hP0:=@apx w.size lv;have hPl:=afX w.size lv;have hPh:∀k,w.size<k+3→k≤w.size+1→plK w.size lv (w.size+1)=plK w.size lv k:=fun k h1 h2=>by
   have:=acn (lv:=lv) h1 (w.size+1-k)
   rwa[show k+(w.size+1-k)=w.size+1 by omega]at this
  have hPs:w.size<5→plK w.size lv (w.size+1)=plK w.size lv 2:=fun h=>by rw[ajr h,hP0]
  replace hP0:=Lib.hid hP0;have gpcs_c102:=acU;(refine wlk ?_;intros);refine aG (α:=Nat×LI×Nat×Nat) mixed (fun z=>[(5,.row z.2.2.1 1 0 z.2.1.length),(6,.lst true 1 (lv.map pvN)),(7,iv z.1)])
   (fun z=>[(z.2.2.1,3,1,z.2.1.map pvN)]) (fun z=>z.2.2.2)
   (fun z=>2≤z.1∧(2<z.1→z.1+2≤w.size)∧z.2.1=plK w.size lv z.1∧z.2.2.1<z.2.2.2) (fun z=>lv.length-z.1) (by kernel_rfl) (2,[],0,1) ⟨by simp,by simp,hP0.out.symm,by simp⟩ ?_ ?_ rfl ?_
  ·exact agi
  ·exact agr
  rintro⟨k,out,x,y⟩ ⟨hk,hk2,hI,hxy⟩;dsimp only at hk hk2 hI hxy;have hol:out.length≤22:=by
   rw[hI];by_cases h2:2<k
   ·have:=hPl k;have:=hk2 h2;omega
   ·have:=hPl k;omega
  clear hPl hP0;by_cases h0:k+3<lv.length
  ·have hlk:=l2 k
   by_cases c3:lv[k]?.getD 0 % 2=1
   ·have hI2:out++[(k:Int)]=plK w.size lv (k+1):=by rw[aaG (ag5 ⟨hk,by omega,c3⟩),←hI]
    replace hI2:=Lib.hid hI2;clear hI l2 hPh hPs;(refine wlk ?_;intros);refine⟨(k+1,out++[(k:Int)],y+1,y+2),⟨by dsimp only;omega,fun _=>by dsimp only;omega,hI2.out,by dsimp only;omega⟩,by dsimp only;omega,?_,?_,rfl⟩
    ·exact agr
    ·exact agr
   ·have hI2:out=plK w.size lv (k+1):=by rw[uT (alB fun q=>c3 q.2.2),←hI]
    replace hI2:=Lib.hid hI2;clear hI l2 hPh hPs;(refine wlk ?_;intros);refine⟨(k+1,out,x,y),⟨by dsimp only;omega,fun _=>by dsimp only;omega,hI2.out,hxy⟩,by dsimp only;omega,?_,?_,rfl⟩
    ·exact agr
    ·exact agr
  ·have hfin:plK w.size lv (w.size+1)=out:=by
    rw[hI];by_cases h5:w.size<5
    ·by_cases h2:2<k
     ·have:=hk2 h2
      omega
     ·obtain rfl:k=2:=by omega
      exact hPs h5
    ·refine hPh k (by omega) ?_
     by_cases h2:2<k
     ·have:=hk2 h2;omega
     ·omega
   rw[hfin];clear hI l2 hPh hPs hfin;exact wlkF
def bW (w:ByteArray) (pats:LS):LS:=if ql w pats=true then zk w pats else []
def φPr:Fun:=F2 dS dSs fun w pats=>if ai8 w pats then some (.lst true 1 ((bW w pats).map fun s=> .val (.string s)))else none
theorem aap {w:ByteArray} {pats:LS} (h:ai8 w pats):φPr [.val (.string w),.lst false 1 (pats.map fun s=> .val (.string s))]=some (.lst true 1 ((bW w pats).map fun s=> .val (.string s))):=(jZ (A:=dS) (B:=dSs) w pats).trans (if_pos h)
def au2:Ctx:={fn:=aY [(66,gJ),(50,gQ),(87,φPc)],io:=aY []}
theorem anM:ak Tryz.prog au2:=okΓ (fC Tryz.func66 gu (fC Tryz.func50 dO (fC Tryz.func87 aib aj))) aj
def abe:=ah (Γ:=au2) (f:=66) (φ:=gJ) rfl
def aaU:=ah (Γ:=au2) (f:=50) (φ:=gQ) rfl
def abr:=ah (Γ:=au2) (f:=87) (φ:=φPc) rfl
theorem agT:Sound Tryz.prog 68 φPr:=by
 refine gP mixed anM Tryz.func68 rfl 40 rfl [.tmp 4] rfl (by kernel_rfl) fun ps r hr=>?_;obtain⟨w,pats,rfl,hpre,rfl⟩:=iF hr;refine⟨by simp,?_⟩;simp only[dIs,dUs,dSs,dx,dA,dz,dF,aS,dD,aT,aU,aR,aV];have ap1:=iJ (s:=w) (by omega);have ap2:=iG hpre.2;have apc:=ahl hpre;unfold oU at apc;unfold bW;cases hw:dM w with
 |false=>
  have hB:ql w pats=false:=by unfold ql;rw[hw];rfl
  rw[hw]at ap1;rw[hB,if_neg (by decide)];clear apc hpre hw hB;have gpri_c66:=abe;have gpri_c50:=aaU;have gpri_c87:=abr;(refine wlk ?_;intros);all_goals((with_reducible apply cO (by first|exact .inl rfl|exact .inr rfl));(simp(disch:=(first|omega|(simp only[push_cast];first|done|omega))) only[push_cast,↓reduceIte,Nat.reduceEqDiff,Nat.reduceBEq,Nat.reduceAdd,Nat.reduceSub,Int.reduceToNat, *]<;>with_reducible exact rfl))
  all_goals exact nil_le _ _
 |true=>
 cases hp:bE pats with
 |false=>
  have hB:ql w pats=false:=by unfold ql;rw[hw,hp];rfl
  rw[hw]at ap1;rw[hp]at ap2;rw[hB,if_neg (by decide)];clear apc hpre hw hp hB;have gpri_c66:=abe;have gpri_c50:=aaU;have gpri_c87:=abr;(refine wlk ?_;intros);all_goals((with_reducible apply cO (by first|exact .inl rfl|exact .inr rfl));(simp(disch:=(first|omega|(simp only[push_cast];first|done|omega))) only[push_cast,↓reduceIte,Nat.reduceEqDiff,Nat.reduceBEq,Nat.reduceAdd,Nat.reduceSub,Int.reduceToNat, *]<;>with_reducible exact rfl))
  all_goals exact nil_le _ _
 |true=>
  have hB:ql w pats=true:=by unfold ql;rw[hw,hp];rfl
  have hok:=nE (pats:=pats) hw;obtain⟨-,hw1,hw2⟩:=aW hw;rw[hw]at ap1;rw[hp]at ap2;rw[hB,if_pos rfl]at apc;rw[hB,if_pos rfl];unfold zk;have hfr:=sI hok hw1;generalize jQ w pats=pl at*;obtain⟨hl,hat⟩:=hok;unfold ptR;have hpl:=xK w pl;clear hB hw hp hpre;have gpri_c66:=abe;have gpri_c50:=aaU;have gpri_c87:=abr;(refine wlk ?_;intros);refine aG (α:=Nat×Nat×Nat) mixed (fun z=>[(0,.val (.string w)),(5,nP 1 ((ptF w pl z.1).map pvS) z.2.1),(6,iv (frK pl z.1)),(19,.lst true 1 (pl.map pvN)),(20,iv pl.length),(21,iv z.1)])
   (fun z=>nO 9 1 ((ptF w pl z.1).map pvS) z.2.1) (fun z=>z.2.2)
   (fun z=>z.1≤pl.length∧(0<z.1→z.2.1<z.2.2)) (fun z=>pl.length-z.1) (by kernel_rfl) (0,0,0) ⟨Nat.zero_le _,by simp⟩ ?_ ?_ rfl ?_
  ·simp(disch:=(first|omega|(simp only[push_cast];first|done|omega))) only[push_cast,↓reduceIte,Nat.reduceEqDiff,Nat.reduceBEq,Nat.reduceAdd,Nat.reduceSub,Int.reduceToNat,ptF,frK,List.map_nil, *]
  ·simp(disch:=(first|omega|(simp only[push_cast];first|done|omega))) only[push_cast,↓reduceIte,Nat.reduceEqDiff,Nat.reduceBEq,Nat.reduceAdd,Nat.reduceSub,Int.reduceToNat,ptF,List.map_nil, *]
  rintro⟨k,x,y⟩ ⟨hk,hxy⟩;dsimp only at hk hxy;have hlk:=hpl k;have hfk:=hfr k hk;by_cases h0:k<pl.length
  ·obtain⟨a1,a2⟩:=hat k h0
   have hn:ptF w pl (k+1)=ptF w pl k++[w.extract (frK pl k).toNat (pl[k]?.getD 0).toNat]:=rfl;have hf:=xu pl k;replace hn:=Lib.hid hn;replace hf:=Lib.hid hf;generalize ptF w pl k=out at*;generalize frK pl k=fr at*;clear hat hpl hfr;by_cases hz:out.length=0
   ·obtain rfl:out=[]:=List.eq_nil_of_length_eq_zero hz
    (refine wlk ?_;intros);refine⟨(k+1,y+1,y+2),⟨by dsimp only;omega,fun _=>by dsimp only;omega⟩,by dsimp only;omega,?_,?_,rfl⟩
    ·dsimp only
     rw[hn.out,hf.out];exact agr
    ·dsimp only
     rw[hn.out];exact agr
   ·have hxy:=hxy (by omega)
    have hap:0<(out.map pvS).length:=by rw[List.length_map];omega
    clear hz;have hap3:0<((out++[w.extract fr.toNat (pl[k]?.getD 0).toNat]).map pvS).length:=by simp
    simp only[aB hap,aF hap,List.length_map];(refine wlk ?_;intros);refine⟨(k+1,y+1,y+2),⟨by dsimp only;omega,fun _=>by dsimp only;omega⟩,by dsimp only;omega,?_,?_,rfl⟩
    ·dsimp only
     rw[hn.out,hf.out];simp(disch:=(first|omega|(simp only[push_cast];first|done|omega))) only[push_cast,↓reduceIte,Nat.reduceEqDiff,Nat.reduceBEq,Nat.reduceAdd,Nat.reduceSub,Int.reduceToNat,aB hap3,List.length_append, *]
    ·dsimp only
     rw[hn.out];simp(disch:=(first|omega|(simp only[push_cast];first|done|omega))) only[push_cast,↓reduceIte,Nat.reduceEqDiff,Nat.reduceBEq,Nat.reduceAdd,Nat.reduceSub,Int.reduceToNat,aF hap3, *]
  ·obtain rfl:k=pl.length:=by omega
   generalize ptF w pl pl.length=out at*;generalize frK pl pl.length=fr at*;clear hat hpl hfr;by_cases hz:out.length=0
   ·obtain rfl:out=[]:=List.eq_nil_of_length_eq_zero hz
    (refine wlk ?_;intros);all_goals((with_reducible apply cO (by first|exact .inl rfl|exact .inr rfl));(simp(disch:=(first|omega|(simp only[push_cast];first|done|omega))) only[push_cast,↓reduceIte,Nat.reduceEqDiff,Nat.reduceBEq,Nat.reduceAdd,Nat.reduceSub,Int.reduceToNat, *]<;>with_reducible exact rfl))
    all_goals exact PV.le_refl _
   ·have hxy:=hxy (by omega)
    have hap:0<(out.map pvS).length:=by rw[List.length_map];omega
    clear hz;simp only[aB hap,aF hap,List.length_map];(refine wlk ?_;intros);all_goals((with_reducible apply cO (by first|exact .inl rfl|exact .inr rfl));(simp(disch:=(first|omega|(simp only[push_cast];first|done|omega))) only[push_cast,↓reduceIte,Nat.reduceEqDiff,Nat.reduceBEq,Nat.reduceAdd,Nat.reduceSub,Int.reduceToNat, *]<;>with_reducible exact rfl))
    all_goals exact PV.le_refl _
def auV:Ctx:={fn:=aY [(74,gJ),(61,gQ),(84,φPc)],io:=aY []}
theorem aqt:ak Tryz.prog auV:=okΓ (fC Tryz.func74 fV (fC Tryz.func61 dP (fC Tryz.func84 afq aj))) aj
def aav:=ah (Γ:=auV) (f:=74) (φ:=gJ) rfl
def abT:=ah (Γ:=auV) (f:=61) (φ:=gQ) rfl
def abP:=ah (Γ:=auV) (f:=84) (φ:=φPc) rfl
theorem yT:Sound Tryz.prog 64 φPr:=by
 refine au mixed aqt Tryz.func64 rfl 48 rfl [.tmp 4] rfl (by kernel_rfl) fun ps r hr=>?_;obtain⟨w,pats,rfl,hpre,rfl⟩:=iF hr;refine⟨by simp,?_⟩;simp only[dIs,dUs,dSs,dx,dA,dz,dF,aS,dD,aT,aU,aR,aV];have ap1:=iJ (s:=w) (by omega);have ap2:=iG hpre.2;have apc:=ahl hpre;unfold oU at apc;unfold bW;cases hw:dM w with
 |false=>
  have hB:ql w pats=false:=by unfold ql;rw[hw];rfl
  rw[hw]at ap1;rw[hB,if_neg (by decide)];clear apc hpre hw hB;have gprs_c74:=aav;have gprs_c61:=abT;have gprs_c84:=abP;exact wlkF
 |true=>
 cases hp:bE pats with
 |false=>
  have hB:ql w pats=false:=by unfold ql;rw[hw,hp];rfl
  rw[hw]at ap1;rw[hp]at ap2;rw[hB,if_neg (by decide)];clear apc hpre hw hp hB;have gprs_c74:=aav;have gprs_c61:=abT;have gprs_c84:=abP;exact wlkF
 |true=>
  have hB:ql w pats=true:=by unfold ql;rw[hw,hp];rfl
  have hok:=nE (pats:=pats) hw;obtain⟨-,hw1,hw2⟩:=aW hw;rw[hw]at ap1;rw[hp]at ap2;rw[hB,if_pos rfl]at apc;rw[hB,if_pos rfl];unfold zk;have hfr:=sI hok hw1;generalize jQ w pats=pl at*;obtain⟨hl,hat⟩:=hok;unfold ptR;have hpl:=xK w pl;clear hB hw hp hpre;have gprs_c74:=aav;have gprs_c61:=abT;have gprs_c84:=abP;(refine wlk ?_;intros);refine aG (α:=Nat×Nat×Nat) mixed (fun z=>[(0,.val (.string w)),(5,.row z.2.1 1 0 (ptF w pl z.1).length),(6,.lst true 1 (pl.map pvN)),(7,iv (frK pl z.1)),(8,iv z.1)])
   (fun z=>[(z.2.1,9,1,(ptF w pl z.1).map pvS)]) (fun z=>z.2.2)
   (fun z=>z.1≤pl.length∧z.2.1<z.2.2) (fun z=>pl.length-z.1) (by kernel_rfl) (0,0,1) ⟨Nat.zero_le _,by simp⟩ ?_ ?_ rfl ?_
  ·simp(disch:=(first|omega|(simp only[push_cast];first|done|omega))) only[push_cast,↓reduceIte,Nat.reduceEqDiff,Nat.reduceBEq,Nat.reduceAdd,Nat.reduceSub,Int.reduceToNat,ptF,frK,List.length_nil, *]
  ·simp(disch:=(first|omega|(simp only[push_cast];first|done|omega))) only[push_cast,↓reduceIte,Nat.reduceEqDiff,Nat.reduceBEq,Nat.reduceAdd,Nat.reduceSub,Int.reduceToNat,ptF,List.map_nil, *]
  rintro⟨k,x,y⟩ ⟨hk,hxy⟩;dsimp only at hk hxy;have hlk:=hpl k;have hfk:=hfr k hk;by_cases h0:k<pl.length
  ·obtain⟨a1,a2⟩:=hat k h0
   have hn:ptF w pl (k+1)=ptF w pl k++[w.extract (frK pl k).toNat (pl[k]?.getD 0).toNat]:=rfl;have hf:=xu pl k;replace hn:=Lib.hid hn;replace hf:=Lib.hid hf;generalize ptF w pl k=out at*;generalize frK pl k=fr at*;clear hat hpl hfr;(refine wlk ?_;intros);refine⟨(k+1,y+1,y+2),⟨by dsimp only;omega,by dsimp only;omega⟩,by dsimp only;omega,?_,?_,rfl⟩
   ·dsimp only
    rw[hn.out,hf.out];exact agr
   ·dsimp only
    rw[hn.out];exact agr
  ·obtain rfl:k=pl.length:=by omega
   generalize ptF w pl pl.length=out at*;generalize frK pl pl.length=fr at*;clear hat hpl hfr;exact wlkF
end
end Go.Proofs.YtmmafcjjlbgnkaaGreat
