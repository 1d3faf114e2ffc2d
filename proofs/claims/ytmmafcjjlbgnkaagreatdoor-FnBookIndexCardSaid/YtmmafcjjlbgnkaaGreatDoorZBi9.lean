/- What the proof rests on, part 9: contracts of functions. No condition beyond what each states. -/
import Derived.Test.YtmmafcjjlbgnkaaGreatDoorZBi8
namespace Go.Proofs.YtmmafcjjlbgnkaaGreatDoor
open Go.RowKit
open Nat renaming reduceEqDiff→Rq,reduceBEq→Rb,reduceAdd→Ra,reduceSub→Rs
open Int renaming reduceToNat→Rt
set_option linter.all false
set_option maxHeartbeats 32000000
noncomputable section
abbrev pvS (s:ByteArray):PV:=.val (.string s)
def φSg:Fun:=F1 dS fun s=>if dn s=true then some (.lst true 1 ((signs s).map fun s=> .val (.string s)))else none
theorem axQ {s:ByteArray} (h:dn s=true):φSg [.val (.string s)]=some (.lst true 1 ((signs s).map fun s=> .val (.string s))):=(fM (A:=dS) s).trans (if_pos h)
def af6 (s:ByteArray):LS:=if dn s=true then signs s else []
def asc:Fun:=F1 dS fun s=>if s.size≤1048576 then some (.lst true 1 ((af6 s).map fun s=> .val (.string s)))else none
theorem ari {s:ByteArray} (h:s.size≤1048576):asc [.val (.string s)]=some (.lst true 1 ((af6 s).map fun s=> .val (.string s))):=(fM (A:=dS) s).trans (if_pos h)
def GSg:Ctx:={fn:=aT [(212,aaI)],io:=aT []}
theorem aBe:ak Tryz.prog GSg:=okΓ (fC Tryz.func212 ac5 aj) aj
def awU:=ah (Γ:=GSg) (f:=212) (φ:=aaI) rfl
theorem ak0:Sound Tryz.prog 172 φSg:=by
 refine au mixed aBe Tryz.func172 rfl 38 rfl [.tmp 2] rfl (by kernel_rfl) fun ps r hr=>?_;obtain⟨s,rfl,hpre,rfl⟩:=jy hr;refine⟨by simp,?_⟩;simp only[dIs,dUs,dSs,dw,dx,dh,dA,aS,dz,aQ,aR,aO,aP];obtain⟨-,hs1,hs2⟩:=aH hpre;have hsg1:=(rF hpre).2.1;have apj:=fun i=>aiR (ji s i) (ji s (i+1));have hI0:[]++sgF s s.size 0=signs s:=rfl;replace hI0:=Lib.hid hI0;generalize signs s=R at*;clear hpre;have gsg_c212:=awU;(refine wlk ?_;intros);refine aD (α:=Nat×Nat×LS×Nat×Nat) mixed (fun z=>[(0,.val (.string s)),(3,nP 1 (z.2.2.1.map pvS) z.2.2.2.1),(4,iv z.2.1)])
  (fun z=>nO 9 1 (z.2.2.1.map pvS) z.2.2.2.1) (fun z=>z.2.2.2.2)
  (fun z=>z.2.2.1++sgF s z.1 z.2.1=R∧s.size≤z.2.1+z.1∧z.2.1≤s.size∧z.2.2.1.length≤z.2.1∧(0<z.2.2.1.length→z.2.2.2.1<z.2.2.2.2)) (fun z=>z.1) (by kernel_rfl) (s.size,0,[],0,0) ⟨hI0.out,by simp,by simp,by simp,by simp⟩ ?_ ?_ rfl ?_
 ·exact agr
 ·exact agr
 rintro⟨f,i,out,x,y⟩ ⟨hI,hf,hi,ho,hxy⟩;dsimp only at hI hf hi ho hxy;clear hI0;by_cases h0:i<s.size
 ·cases f with
  |zero=>omega
  |succ f=>
  rw[vo h0]at hI;have hI2:(out++[s.extract i (i+sgN s i)])++sgF s f (i+sgN s i)=R:=by rw[List.append_assoc];exact hI
  clear hI;replace apj:=apj i;by_cases hj:i+1<s.size∧sS (at8 s i) (at8 s (i+1))=true
  ·have hn:sgN s i=2:=if_pos hj
   rw[hn]at hI2;replace hI2:=Lib.hid hI2;obtain⟨hj1,hj2⟩:=hj;rw[hj2]at apj;have e3:((i:Int)+2).toNat=i+2:=by omega
   clear hn;by_cases hz:out.length=0
   ·obtain rfl:out=[]:=List.eq_nil_of_length_eq_zero hz
    (refine wlk ?_;intros);refine⟨(f,i+2,[]++[s.extract i (i+2)],y+1,y+2),⟨hI2.out,by dsimp only;omega,by dsimp only;omega,by simp,fun _=>by dsimp only;omega⟩,by dsimp only;omega,?_,?_,rfl⟩
    ·exact agi
    ·exact agr
   ·have hxy:=hxy (by omega)
    have hap:0<(out.map pvS).length:=by rw[List.length_map];omega
    clear hz;have hap3:0<((out++[s.extract i (i+2)]).map pvS).length:=by simp
    simp only[ay hap,aB hap,List.length_map];(refine wlk ?_;intros);refine⟨(f,i+2,out++[s.extract i (i+2)],y+1,y+2),⟨hI2.out,by dsimp only;omega,by dsimp only;omega,by simp;omega,fun _=>by dsimp only;omega⟩,by dsimp only;omega,?_,?_,rfl⟩
    ·simp(disch:=(first|omega|(simp only[push_cast];first|done|omega))) only[push_cast,↓reduceIte,Rq,Rb,Ra,Rs,Rt,ay hap3,List.length_append, *]
     try exact congrArg (fun z=>PV.val (Value.int IntKind.i64 z)) (by omega)
    ·simp(disch:=(first|omega|(simp only[push_cast];first|done|omega))) only[push_cast,↓reduceIte,Rq,Rb,Ra,Rs,Rt,aB hap3, *]
  ·have hn:sgN s i=1:=if_neg hj
   rw[hn]at hI2;replace hI2:=Lib.hid hI2;clear hn;have hj3:i+1<s.size→sS (at8 s i) (at8 s (i+1))=false:=fun h=>by
    cases hq:sS (at8 s i) (at8 s (i+1))with
    |false=>rfl
    |true=>exact absurd ⟨h,hq⟩ hj
   clear hj;by_cases hz:out.length=0
   ·obtain rfl:out=[]:=List.eq_nil_of_length_eq_zero hz
    by_cases h1:i+1<s.size
    ·rw[hj3 h1]at apj
     clear hj3;(refine wlk ?_;intros);refine⟨(f,i+1,[]++[s.extract i (i+1)],y+1,y+2),⟨hI2.out,by dsimp only;omega,by dsimp only;omega,by simp,fun _=>by dsimp only;omega⟩,by dsimp only;omega,?_,?_,rfl⟩
     ·exact agr
     ·exact agr
    ·clear hj3
     (refine wlk ?_;intros);refine⟨(f,i+1,[]++[s.extract i (i+1)],y+1,y+2),⟨hI2.out,by dsimp only;omega,by dsimp only;omega,by simp,fun _=>by dsimp only;omega⟩,by dsimp only;omega,?_,?_,rfl⟩
     ·exact agr
     ·exact agr
   ·have hxy:=hxy (by omega)
    have hap:0<(out.map pvS).length:=by rw[List.length_map];omega
    clear hz;have hap3:0<((out++[s.extract i (i+1)]).map pvS).length:=by simp
    simp only[ay hap,aB hap,List.length_map];by_cases h1:i+1<s.size
    ·rw[hj3 h1]at apj
     clear hj3;(refine wlk ?_;intros);refine⟨(f,i+1,out++[s.extract i (i+1)],y+1,y+2),⟨hI2.out,by dsimp only;omega,by dsimp only;omega,by simp;omega,fun _=>by dsimp only;omega⟩,by dsimp only;omega,?_,?_,rfl⟩
     ·simp(disch:=(first|omega|(simp only[push_cast];first|done|omega))) only[push_cast,↓reduceIte,Rq,Rb,Ra,Rs,Rt,ay hap3,List.length_append, *]
      try exact congrArg (fun z=>PV.val (Value.int IntKind.i64 z)) (by omega)
     ·simp(disch:=(first|omega|(simp only[push_cast];first|done|omega))) only[push_cast,↓reduceIte,Rq,Rb,Ra,Rs,Rt,aB hap3, *]
    ·clear hj3
     (refine wlk ?_;intros);refine⟨(f,i+1,out++[s.extract i (i+1)],y+1,y+2),⟨hI2.out,by dsimp only;omega,by dsimp only;omega,by simp;omega,fun _=>by dsimp only;omega⟩,by dsimp only;omega,?_,?_,rfl⟩
     ·simp(disch:=(first|omega|(simp only[push_cast];first|done|omega))) only[push_cast,↓reduceIte,Rq,Rb,Ra,Rs,Rt,ay hap3,List.length_append, *]
      try exact congrArg (fun z=>PV.val (Value.int IntKind.i64 z)) (by omega)
     ·simp(disch:=(first|omega|(simp only[push_cast];first|done|omega))) only[push_cast,↓reduceIte,Rq,Rb,Ra,Rs,Rt,aB hap3, *]
 ·rw[afr (by omega),List.append_nil]at hI
  subst hI;have hxy:=hxy (by omega);have hap:0<(out.map pvS).length:=by rw[List.length_map];omega
  simp only[ay hap,aB hap,List.length_map];clear apj;exact wlkF
def aFJ:Ctx:={fn:=aT [(238,abF),(68,fQ)],io:=aT []}
theorem axf:ak Tryz.prog aFJ:=okΓ (fC Tryz.func238 ace (fC Tryz.func68 fH aj)) aj
def agF:=ah (Γ:=aFJ) (f:=238) (φ:=abF) rfl
def alZ:=ah (Γ:=aFJ) (f:=68) (φ:=fQ) rfl
theorem aoJ:Sound Tryz.prog 218 asc:=by
 refine au mixed axf Tryz.func218 rfl 50 rfl [.tmp 2] rfl (by kernel_rfl) fun ps r hr=>?_;obtain⟨s,rfl,hpre,rfl⟩:=jy hr;refine⟨by simp,?_⟩;simp only[dIs,dUs,dSs,dw,dx,dh,dA,aS,dz,aQ,aR,aO,aP];have apw:=iA (s:=s) (by omega);unfold af6;cases hw:dn s with
 |false=>
  rw[hw]at apw;rw[if_neg (by decide)];clear hw;have gsgs_c238:=agF;have gsgs_c68:=alZ;(refine wlk ?_;intros);refine aD (α:=Unit) mixed (fun z=>[(0,.val (.string s)),(3,.row 0 1 0 0),(4,iv 0)]) (fun z=>[(0,9,1,[])]) (fun z=>1) (fun _=>True) (fun _=>0) (by kernel_rfl) () trivial ?_ ?_ rfl ?_
  ·exact agr
  ·exact agr
  rintro⟨⟩-;exact wlkF
 |true=>
  rw[hw]at apw;rw[if_pos rfl];obtain⟨-,hs1,hs2⟩:=aH hw;have apj:=fun i=>aiX (at8 s i) (at8 s (i+1));have hI0:[]++sgF s s.size 0=signs s:=rfl;replace hI0:=Lib.hid hI0;generalize signs s=R at*;clear hpre hw;have gsgs_c238:=agF;have gsgs_c68:=alZ;(refine wlk ?_;intros);refine aD (α:=Nat×Nat×LS×Nat×Nat) mixed (fun z=>[(0,.val (.string s)),(3,.row z.2.2.2.1 1 0 z.2.2.1.length),(4,iv z.2.1)])
   (fun z=>[(z.2.2.2.1,9,1,z.2.2.1.map pvS)]) (fun z=>z.2.2.2.2)
   (fun z=>z.2.2.1++sgF s z.1 z.2.1=R∧s.size≤z.2.1+z.1∧z.2.1≤s.size∧z.2.2.1.length≤z.2.1∧z.2.2.2.1<z.2.2.2.2) (fun z=>z.1) (by kernel_rfl) (s.size,0,[],0,1) ⟨hI0.out,by simp,by simp,by simp,by simp⟩ ?_ ?_ rfl ?_
  ·exact agr
  ·exact agr
  rintro⟨f,i,out,x,y⟩ ⟨hI,hf,hi,ho,hxy⟩;dsimp only at hI hf hi ho hxy;clear hI0;by_cases h0:i<s.size
  ·cases f with
   |zero=>omega
   |succ f=>
   rw[vo h0]at hI;have hI2:(out++[s.extract i (i+sgN s i)])++sgF s f (i+sgN s i)=R:=by rw[List.append_assoc];exact hI
   clear hI;replace apj:=apj i;by_cases hj:i+1<s.size∧sS (at8 s i) (at8 s (i+1))=true
   ·have hn:sgN s i=2:=if_pos hj
    rw[hn]at hI2;replace hI2:=Lib.hid hI2;obtain⟨hj1,hj2⟩:=hj;rw[hj2]at apj;have e3:((i:Int)+2).toNat=i+2:=by omega
    clear hn;(refine wlk ?_;intros);refine⟨(f,i+2,out++[s.extract i (i+2)],y+1,y+2),⟨hI2.out,by dsimp only;omega,by dsimp only;omega,by simp;omega,by dsimp only;omega⟩,by dsimp only;omega,?_,?_,rfl⟩
    ·exact agi
    ·exact agr
   ·have hn:sgN s i=1:=if_neg hj
    rw[hn]at hI2;replace hI2:=Lib.hid hI2;clear hn;have hj3:i+1<s.size→sS (at8 s i) (at8 s (i+1))=false:=fun h=>by
     cases hq:sS (at8 s i) (at8 s (i+1))with
     |false=>rfl
     |true=>exact absurd ⟨h,hq⟩ hj
    clear hj;by_cases h1:i+1<s.size
    ·rw[hj3 h1]at apj
     clear hj3;(refine wlk ?_;intros);refine⟨(f,i+1,out++[s.extract i (i+1)],y+1,y+2),⟨hI2.out,by dsimp only;omega,by dsimp only;omega,by simp;omega,by dsimp only;omega⟩,by dsimp only;omega,?_,?_,rfl⟩
     ·exact agr
     ·exact agr
    ·clear hj3
     (refine wlk ?_;intros);refine⟨(f,i+1,out++[s.extract i (i+1)],y+1,y+2),⟨hI2.out,by dsimp only;omega,by dsimp only;omega,by simp;omega,by dsimp only;omega⟩,by dsimp only;omega,?_,?_,rfl⟩
     ·exact agr
     ·exact agr
  ·rw[afr (by omega),List.append_nil]at hI
   subst hI;clear apj;exact wlkF
def φWw:Fun:=F1 dS fun s=>if s.size≤1048576 then some (iv (qb s))else none
theorem aee {s:ByteArray} (h:s.size≤1048576):φWw [.val (.string s)]=some (.val (.int .i64 (qb s))):=(fM (A:=dS) s).trans (if_pos h)
def aCx:Ctx:={fn:=aT [(81,fQ),(172,φSg),(173,abC),(174,aay)],io:=aT []}
theorem awE:ak Tryz.prog aCx:=okΓ (fC Tryz.func81 fE (fC Tryz.func172 ak0 (fC Tryz.func173 adW (fC Tryz.func174 aeI aj)))) aj
def alW:=ah (Γ:=aCx) (f:=81) (φ:=fQ) rfl
def agf:=ah (Γ:=aCx) (f:=172) (φ:=φSg) rfl
def ahr:=ah (Γ:=aCx) (f:=173) (φ:=abC) rfl
def af2:=ah (Γ:=aCx) (f:=174) (φ:=aay) rfl
theorem anA:Sound Tryz.prog 121 φWw:=by
 refine au mixed awE Tryz.func121 rfl 58 rfl [.tmp 2] rfl (by kernel_rfl) fun ps r hr=>?_;obtain⟨s,rfl,hpre,rfl⟩:=jy hr;refine⟨by simp,?_⟩;simp only[dIs,dUs,dSs,dw,dx,dh,dA,aS,dz,aQ,aR,aO,aP];have apw:=iA (s:=s) (by omega);unfold qb;cases hw:dn s with
 |false=>rw[hw]at apw;rw[if_neg (by decide)];clear hw;have gwwi_c81:=alW;have gwwi_c172:=agf;have gwwi_c173:=ahr;have gwwi_c174:=af2;exact wlkF
 |true=>
  rw[hw]at apw;rw[if_pos rfl];have aps:=axQ hw;have hat:=fun k hk=>aaQ hw (k:=k) hk;have hlen:=(rF hw).2;have hrg:=aa0 hat;generalize signs s=g at*;clear hw hpre;have gwwi_c81:=alW;have gwwi_c172:=agf;have gwwi_c173:=ahr;have gwwi_c174:=af2;(refine wlk ?_;intros);refine aD (α:=Nat) mixed (fun k=>[(3,iv (wdK g k)),(4,.lst true 1 (g.map pvS)),(13,.lst true 1 (g.map pvS)),(14,iv g.length),(15,iv k)]) (fun _=>[]) (fun _=>0)
   (fun k=>k≤g.length) (fun k=>g.length-k) (by kernel_rfl) 0 (Nat.zero_le _) ?_ ?_ rfl ?_
  ·simp only[push_cast,↓reduceIte,Rq,Rb,Ra,Rs,Rt,wdK]
  ·exact agr
  intro k hk;have hrk:=hrg k hk;by_cases hkl:k<g.length
  ·have hsg:=hat k hkl
   have hnx:=fun h=>hat (k+1) h;have hfl:=ah4 hsg;have hsn:wdK g (k+1)=wdK g k+sgW (g[k]?.getD .empty) (g[k]?.getD .empty).size-((g[k]?.getD .empty).size-1)-aaJ g k:=rfl;have hne:aaJ g k=if k+1<g.length then rA (at8 (g[k]?.getD .empty) ((g[k]?.getD .empty).size-1)) (at8 (g[k+1]?.getD .empty) 0)else 0:=rfl;replace hsn:=Lib.hid hsn;replace hne:=Lib.hid hne;clear hat hrg;generalize hx9:g[k]?.getD ByteArray.empty=x at*;obtain⟨hx1,hx2,-⟩:=hsg;generalize hw9:wdK g k=w9 at*;(refine wlk ?_;intros);refine aD (α:=Nat) mixed (fun j=>[(3,iv (w9+sgW x j)),(4,.lst true 1 (g.map pvS)),(13,.lst true 1 (g.map pvS)),(14,iv g.length),(15,iv k),(5,iv k),(6,.val (.string x)),(21,iv x.size),(22,iv j)]) (fun _=>[]) (fun _=>0)
    (fun j=>j≤x.size) (fun j=>x.size-j) (by kernel_rfl) 0 (Nat.zero_le _) ?_ ?_ rfl ?_
   ·simp(disch:=(first|omega|(simp only[push_cast];first|done|omega))) only[push_cast,↓reduceIte,Rq,Rb,Ra,Rs,Rt,sgW,Int.add_zero, *]
   ·exact agr
   intro j hj;have hfj:=hfl j hj;have apl:=ajW (ji x j);have hlw:=aaU (at8 x j);have hsj:sgW x (j+1)=sgW x j+adT (at8 x j):=rfl;replace hsj:=Lib.hid hsj;by_cases hjl:j<x.size
   ·clear hfl hnx
    generalize adT (at8 x j)=lw at*;(refine wlk ?_;intros);refine⟨j+1,by omega,by dsimp only;omega,?_,?_,rfl⟩
    ·dsimp only
     rw[hsj.out,←Int.add_assoc];exact agr
    ·exact agr
   ·obtain rfl:j=x.size:=by omega
    clear apl hlw hsj hfl;by_cases h1:k+1<g.length
    ·have hn1:=hnx h1
     clear hnx;obtain⟨hy1,-,-⟩:=hn1;have apn:=aju (ji x (x.size-1)) (ji (g[k+1]?.getD .empty) 0);have hnr:=xQ (at8 x (x.size-1)) (at8 (g[k+1]?.getD .empty) 0);have hne:=hne.out;rw[if_pos h1]at hne;have hsn:=hsn.out;rw[hne]at hsn;replace hsn:=Lib.hid hsn;clear hne;generalize rA (at8 x (x.size-1)) (at8 (g[k+1]?.getD .empty) 0)=nr at*;generalize sgW x x.size=sw at*;(refine wlk ?_;intros);refine⟨k+1,by omega,by dsimp only;omega,?_,?_,rfl⟩
     ·dsimp only
      rw[hsn.out];exact agr
     ·exact agr
    ·have hne:=hne.out
     rw[if_neg h1]at hne;have hsn:=hsn.out;rw[hne,Int.sub_zero]at hsn;replace hsn:=Lib.hid hsn;clear hne hnx;generalize sgW x x.size=sw at*;(refine wlk ?_;intros);refine⟨k+1,by omega,by dsimp only;omega,?_,?_,rfl⟩
     ·dsimp only
      rw[hsn.out];exact agr
     ·exact agr
  ·obtain rfl:k=g.length:=by omega
   clear hat hrg;generalize wdK g g.length=w9 at*;exact wlkF
def aEa:Ctx:={fn:=aT [(218,asc),(219,ahh),(220,ahB)],io:=aT []}
theorem auM:ak Tryz.prog aEa:=okΓ (fC Tryz.func218 aoJ (fC Tryz.func219 ae6 (fC Tryz.func220 ad9 aj))) aj
def ahx:=ah (Γ:=aEa) (f:=218) (φ:=asc) rfl
def afQ:=ah (Γ:=aEa) (f:=219) (φ:=ahh) rfl
def ahg:=ah (Γ:=aEa) (f:=220) (φ:=ahB) rfl
theorem anw:Sound Tryz.prog 180 φWw:=by
 refine au mixed auM Tryz.func180 rfl 70 rfl [.tmp 2] rfl (by kernel_rfl) fun ps r hr=>?_;obtain⟨s,rfl,hpre,rfl⟩:=jy hr;refine⟨by simp,?_⟩;simp only[dIs,dUs,dSs,dw,dx,dh,dA,aS,dz,aQ,aR,aO,aP];have aps:=ari (s:=s) hpre;unfold qb;unfold af6 at aps;cases hw:dn s with
 |false=>rw[hw,if_neg (by decide)]at aps;rw[if_neg (by decide)];clear hw;have gwws_c218:=ahx;have gwws_c219:=afQ;have gwws_c220:=ahg;exact wlkF
 |true=>
  rw[hw,if_pos rfl]at aps;rw[if_pos rfl];have hat:=fun k hk=>aaQ hw (k:=k) hk;have hlen:=(rF hw).2;have hrg:=aa0 hat;generalize signs s=g at*;clear hw hpre;have gwws_c218:=ahx;have gwws_c219:=afQ;have gwws_c220:=ahg;(refine wlk ?_;intros);refine aD (α:=Nat) mixed (fun k=>[(3,.lst true 1 (g.map pvS)),(4,iv (wdK g k)),(5,iv k)]) (fun _=>[]) (fun _=>0)
   (fun k=>k≤g.length) (fun k=>g.length-k) (by kernel_rfl) 0 (Nat.zero_le _) ?_ ?_ rfl ?_
  ·simp only[push_cast,↓reduceIte,Rq,Rb,Ra,Rs,Rt,wdK]
  ·exact agr
  intro k hk;have hrk:=hrg k hk;by_cases hkl:k<g.length
  ·have hsg:=hat k hkl
   have hnx:=fun h=>hat (k+1) h;have hfl:=ah4 hsg;have hsn:wdK g (k+1)=wdK g k+sgW (g[k]?.getD .empty) (g[k]?.getD .empty).size-((g[k]?.getD .empty).size-1)-aaJ g k:=rfl;have hne:aaJ g k=if k+1<g.length then rA (at8 (g[k]?.getD .empty) ((g[k]?.getD .empty).size-1)) (at8 (g[k+1]?.getD .empty) 0)else 0:=rfl;replace hsn:=Lib.hid hsn;replace hne:=Lib.hid hne;clear hat hrg;generalize hx9:g[k]?.getD ByteArray.empty=x at*;obtain⟨hx1,hx2,-⟩:=hsg;generalize hw9:wdK g k=w9 at*;(refine wlk ?_;intros);refine aD (α:=Nat) mixed (fun j=>[(3,.lst true 1 (g.map pvS)),(4,iv (w9+sgW x j)),(5,iv k),(6,iv j)]) (fun _=>[]) (fun _=>0)
    (fun j=>j≤x.size) (fun j=>x.size-j) (by kernel_rfl) 0 (Nat.zero_le _) ?_ ?_ rfl ?_
   ·simp(disch:=(first|omega|(simp only[push_cast];first|done|omega))) only[push_cast,↓reduceIte,Rq,Rb,Ra,Rs,Rt,sgW,Int.add_zero, *]
   ·exact agr
   intro j hj;have hfj:=hfl j hj;have apl:=alv (at8 x j);have hlw:=aaU (at8 x j);have hsj:sgW x (j+1)=sgW x j+adT (at8 x j):=rfl;replace hsj:=Lib.hid hsj;by_cases hjl:j<x.size
   ·clear hfl hnx
    generalize adT (at8 x j)=lw at*;(refine wlk ?_;intros);refine⟨j+1,by omega,by dsimp only;omega,?_,?_,rfl⟩
    ·dsimp only
     rw[hsj.out,←Int.add_assoc];exact agr
    ·exact agr
   ·obtain rfl:j=x.size:=by omega
    clear apl hlw hsj hfl;by_cases h1:k+1<g.length
    ·have hn1:=hnx h1
     clear hnx;obtain⟨hy1,-,-⟩:=hn1;have apn:=aln (at8 x (x.size-1)) (at8 (g[k+1]?.getD .empty) 0);have hnr:=xQ (at8 x (x.size-1)) (at8 (g[k+1]?.getD .empty) 0);have hne:=hne.out;rw[if_pos h1]at hne;have hsn:=hsn.out;rw[hne]at hsn;replace hsn:=Lib.hid hsn;clear hne;generalize rA (at8 x (x.size-1)) (at8 (g[k+1]?.getD .empty) 0)=nr at*;generalize sgW x x.size=sw at*;(refine wlk ?_;intros);refine⟨k+1,by omega,by dsimp only;omega,?_,?_,rfl⟩
     ·dsimp only
      rw[hsn.out,show w9+sw-((x.size:Int)-1)-nr=w9+sw-x.size+1-nr by omega];exact agr
     ·exact agr
    ·have hne:=hne.out
     rw[if_neg h1]at hne;have hsn:=hsn.out;rw[hne,Int.sub_zero]at hsn;replace hsn:=Lib.hid hsn;clear hne hnx;generalize sgW x x.size=sw at*;(refine wlk ?_;intros);refine⟨k+1,by omega,by dsimp only;omega,?_,?_,rfl⟩
     ·dsimp only
      rw[hsn.out,show w9+sw-((x.size:Int)-1)=w9+sw-x.size+1 by omega];exact agr
     ·exact agr
  ·obtain rfl:k=g.length:=by omega
   clear hat hrg;generalize wdK g g.length=w9 at*;exact wlkF
abbrev pvN (n:Int):PV:=.val (.int .i64 n)
theorem nE {p:ByteArray} (h:acV p=true):1≤p.size∧p.size≤12:=by
 unfold acV at h;simp only[Bool.and_eq_true,decide_eq_true_eq]at h;obtain⟨-,h1,h2⟩:=h;refine⟨?_,h2⟩;rcases Nat.eq_zero_or_pos p.size with h0|h0
 ·rw[h0]at h1
  simp[anyS]at h1
 ·exact h0
def φPp:Fun:=F1 dS fun p=>if p.size≤12 then some (.tup [.val (.string (dY p)),.lst true 1 ((fO p).map fun n=> .val (.int .i64 n))])else none
theorem auy {p:ByteArray} (h:p.size≤12):φPp [.val (.string p)]=some (.tup [.val (.string (dY p)),.lst true 1 ((fO p).map fun n=> .val (.int .i64 n))]):=(fM (A:=dS) p).trans (if_pos h)
def GPp:Ctx:={fn:=aT [(135,ai7)],io:=aT []}
theorem aA7:ak Tryz.prog GPp:=okΓ (fC Tryz.func135 zD aj) aj
def ay3:=ah (Γ:=GPp) (f:=135) (φ:=ai7) rfl
theorem aqP {o:List Int} {v x:Int}:(o++[v]).set o.length x=o++[x]:=by simp
theorem ak2:Sound Tryz.prog 239 φPp:=by
 refine au mixed aA7 Tryz.func239 rfl 40 rfl [.tmp 2,.tmp 3] rfl (by kernel_rfl) fun ps r hr=>?_;obtain⟨p,rfl,hpre,rfl⟩:=jy hr;refine⟨by simp,?_⟩;simp only[dIs,dUs,dSs,dw,dx,dh,dA,aS,dz,aQ,aR,aO,aP];have hrg:=qM p;unfold dY fO;have gpp_c135:=ay3;(refine wlk ?_;intros);refine aD (α:=Nat×Nat×Nat) mixed (fun z=>[(0,.val (.string p)),(4,.val (.string (jo p z.1).1)),(5,.row z.2.1 1 0 ((jo p z.1).2.1.length+1)),(8,.val (.string p)),(9,iv p.size),(10,iv z.1)])
  (fun z=>[(z.2.1,3,1,((jo p z.1).2.1++[(jo p z.1).2.2]).map pvN)]) (fun z=>z.2.2)
  (fun z=>z.1≤p.size∧z.2.1<z.2.2) (fun z=>p.size-z.1) (by kernel_rfl) (0,0,1) ⟨by simp,by simp⟩ ?_ ?_ rfl ?_
 ·simp(disch:=(first|omega|(simp only[push_cast];first|done|omega))) only[push_cast,↓reduceIte,Rq,Rb,Ra,Rs,Rt,jo,List.length_nil,Nat.zero_add, *]
 ·simp(disch:=(first|omega|(simp only[push_cast];first|done|omega))) only[push_cast,↓reduceIte,Rq,Rb,Ra,Rs,Rt,jo,List.nil_append,List.map_cons,List.map_nil, *]
 rintro⟨k,x,y⟩ ⟨hk,hxy⟩;dsimp only at hk hxy;obtain⟨r1,r2,r3,-⟩:=hrg k hk;by_cases h0:k<p.size
 ·have apd:=agq (at8 p k)
  have hdd:aeM (at8 p k)=inB (at8 p k) 48 57:=rfl;have hb8:=ji p k;cases hd:inB (at8 p k) 48 57 with
  |true=>
   have hst:=vV (hdd.trans hd);have hin:=av.1 hd;have w1:IntKind.u8.wrap (at8 p k-48)=at8 p k-48:=by rw[IntKind.wrap_u8];omega
   have w3:=dV (n:=at8 p k-48) (by omega) (by omega);have hsl:=@aqP (jo p k).2.1 (jo p k).2.2 (at8 p k-48);rw[hd]at apd;replace hst:=Lib.hid hst;clear hrg hdd hd;generalize(jo p k).2.1=o at*;generalize(jo p k).2.2=v at*;generalize(jo p k).1=lt at*;(refine wlk ?_;intros);refine⟨(k+1,x,y),⟨by dsimp only;omega,hxy⟩,by dsimp only;omega,?_,?_,rfl⟩
   ·dsimp only
    rw[hst.out];exact agr
   ·dsimp only
    rw[hst.out];exact agr
  |false=>
   have hxz:(p.extract k (k+1)).size=1:=by rw[ByteArray.size_extract];omega
   have hst:=vg (hdd.trans hd);rw[hd]at apd;replace hst:=Lib.hid hst;clear hrg hdd hd;generalize(jo p k).2.1=o at*;generalize(jo p k).2.2=v at*;generalize(jo p k).1=lt at*;(refine wlk ?_;intros);refine⟨(k+1,y+1,y+2),⟨by dsimp only;omega,by dsimp only;omega⟩,by dsimp only;omega,?_,?_,rfl⟩
   ·dsimp only
    rw[hst.out];exact agr
   ·dsimp only
    rw[hst.out];exact agr
 ·obtain rfl:k=p.size:=by omega
  clear hrg;exact wlkF
def φPl:Fun:=F1 dS fun p=>if acV p=true then some (.val (.string (dY p)))else none
theorem axT {p:ByteArray} (h:acV p=true):φPl [.val (.string p)]=some (.val (.string (dY p))):=(fM (A:=dS) p).trans (if_pos h)
def GPl:Ctx:={fn:=aT [(69,aaF)],io:=aT []}
theorem atL:ak Tryz.prog GPl:=okΓ (fC Tryz.func69 jW aj) aj
def atG:=ah (Γ:=GPl) (f:=69) (φ:=aaF) rfl
theorem al9:Sound Tryz.prog 223 φPl:=by
 refine au mixed atL Tryz.func223 rfl 33 rfl [.tmp 2] rfl (by kernel_rfl) fun ps r hr=>?_;obtain⟨p,rfl,hpre,rfl⟩:=jy hr;refine⟨by simp,?_⟩;simp only[dIs,dUs,dSs,dw,dx,dh,dA,aS,dz,aQ,aR,aO,aP];have hsz:=nE hpre;have hrg:=qM p;have apv:=vD (s:=p) (by omega);rw[hpre]at apv;unfold dY;clear hpre;have gpl_c69:=atG;(refine wlk ?_;intros);refine aD (α:=Nat) mixed (fun k=>[(0,.val (.string p)),(3,.val (.string (jo p k).1)),(4,iv k)]) (fun _=>[]) (fun _=>0)
  (fun k=>k≤p.size) (fun k=>p.size-k) (by kernel_rfl) 0 (Nat.zero_le _) ?_ ?_ rfl ?_
 ·simp(disch:=(first|omega|(simp only[push_cast];first|done|omega))) only[push_cast,↓reduceIte,Rq,Rb,Ra,Rs,Rt,jo, *]
 ·exact agr
 intro k hk;obtain⟨r1,r2,r3,-⟩:=hrg k hk;by_cases h0:k<p.size
 ·have hb8:=ji p k
  cases hd:aeM (at8 p k)with
  |true=>
   have hst:=vV hd;have hin:=av.1 hd;have w1:IntKind.u8.wrap (at8 p k-48)=at8 p k-48:=by rw[IntKind.wrap_u8];omega
   have w3:=dV (n:=at8 p k-48) (by omega) (by omega);replace hst:=Lib.hid hst;clear hrg hd;generalize(jo p k).1=lt at*;(refine wlk ?_;intros);refine⟨k+1,by omega,by dsimp only;omega,?_,?_,rfl⟩
   ·dsimp only
    rw[hst.out];exact agr
   ·exact agr
  |false=>
   have hxz:(p.extract k (k+1)).size=1:=by rw[ByteArray.size_extract];omega
   have hst:=vg hd;have hno:at8 p k<48∨57<at8 p k:=by
    by_cases hh:48≤at8 p k∧at8 p k≤57
    ·have:aeM (at8 p k)=true:=av.2 hh
     rw[this]at hd;cases hd
    ·omega
   replace hst:=Lib.hid hst;clear hrg hd;generalize(jo p k).1=lt at*;(refine wlk6 ?_ ?_ ?_ ?_ ?_ ?_<;>intros<;>try with_reducible exact trivial);all_goals
    refine⟨k+1,by omega,by dsimp only;omega,?_,?_,rfl⟩
    ·dsimp only
     rw[hst.out];exact agr
    ·exact agr
 ·obtain rfl:k=p.size:=by omega
  clear hrg;exact wlkF
def φPv:Fun:=F1 dS fun p=>if acV p=true then some (.lst true 1 ((fO p).map fun n=> .val (.int .i64 n)))else none
theorem awl {p:ByteArray} (h:acV p=true):φPv [.val (.string p)]=some (.lst true 1 ((fO p).map fun n=> .val (.int .i64 n))):=(fM (A:=dS) p).trans (if_pos h)
theorem aj7:Sound Tryz.prog 224 φPv:=by
 refine au mixed atL Tryz.func224 rfl 44 rfl [.tmp 2] rfl (by kernel_rfl) fun ps r hr=>?_;obtain⟨p,rfl,hpre,rfl⟩:=jy hr;refine⟨by simp,?_⟩;simp only[dIs,dUs,dSs,dw,dx,dh,dA,aS,dz,aQ,aR,aO,aP];have hsz:=nE hpre;have hrg:=qM p;have apv:=vD (s:=p) (by omega);rw[hpre]at apv;unfold fO;clear hpre;have gpl_c69:=atG;(refine wlk ?_;intros);refine aD (α:=Nat×Nat×Nat) mixed (fun z=>[(0,.val (.string p)),(3,.row z.2.1 1 0 (jo p z.1).2.1.length),(4,iv (jo p z.1).2.2),(5,iv z.1)])
  (fun z=>[(z.2.1,3,1,(jo p z.1).2.1.map pvN)]) (fun z=>z.2.2)
  (fun z=>z.1≤p.size∧z.2.1<z.2.2) (fun z=>p.size-z.1) (by kernel_rfl) (0,0,1) ⟨by simp,by simp⟩ ?_ ?_ rfl ?_
 ·simp(disch:=(first|omega|(simp only[push_cast];first|done|omega))) only[push_cast,↓reduceIte,Rq,Rb,Ra,Rs,Rt,jo,List.length_nil, *]
 ·simp(disch:=(first|omega|(simp only[push_cast];first|done|omega))) only[push_cast,↓reduceIte,Rq,Rb,Ra,Rs,Rt,jo,List.map_nil, *]
 rintro⟨k,x,y⟩ ⟨hk,hxy⟩;dsimp only at hk hxy;obtain⟨r1,r2,r3,-⟩:=hrg k hk;by_cases h0:k<p.size
 ·have hb8:=ji p k
  cases hd:aeM (at8 p k)with
  |true=>
   have hst:=vV hd;have hin:=av.1 hd;have w1:IntKind.u8.wrap (at8 p k-48)=at8 p k-48:=by rw[IntKind.wrap_u8];omega
   have w3:=dV (n:=at8 p k-48) (by omega) (by omega);replace hst:=Lib.hid hst;clear hrg hd;generalize(jo p k).2.1=o at*;generalize(jo p k).2.2=v at*;generalize(jo p k).1=lt at*;(refine wlk ?_;intros);refine⟨(k+1,x,y),⟨by dsimp only;omega,hxy⟩,by dsimp only;omega,?_,?_,rfl⟩
   ·dsimp only
    rw[hst.out];exact agr
   ·dsimp only
    rw[hst.out];exact agr
  |false=>
   have hxz:(p.extract k (k+1)).size=1:=by rw[ByteArray.size_extract];omega
   have hst:=vg hd;have hno:at8 p k<48∨57<at8 p k:=by
    by_cases hh:48≤at8 p k∧at8 p k≤57
    ·have:aeM (at8 p k)=true:=av.2 hh
     rw[this]at hd;cases hd
    ·omega
   replace hst:=Lib.hid hst;clear hrg hd;generalize(jo p k).2.1=o at*;generalize(jo p k).2.2=v at*;generalize(jo p k).1=lt at*;(refine wlk6 ?_ ?_ ?_ ?_ ?_ ?_<;>intros<;>try with_reducible exact trivial);all_goals
    refine⟨(k+1,y+1,y+2),⟨by dsimp only;omega,by dsimp only;omega⟩,by dsimp only;omega,?_,?_,rfl⟩
    ·dsimp only
     rw[hst.out];exact agr
    ·dsimp only
     rw[hst.out];exact agr
 ·obtain rfl:k=p.size:=by omega
  clear hrg;exact wlkF
def vQ (w:ByteArray) (pats:LS):Bool:=dn w&&bE pats
theorem kr {w:ByteArray} {pats:LS}:vQ w pats=true↔dn w=true∧bE pats=true:=by simp[vQ]
theorem an5 {pats:LS} (h:bE pats=true) {k:Nat} (hk:k<pats.length):acV (pats[k]?.getD .empty)=true:=by unfold bE at h;rw[Bool.and_eq_true,List.all_eq_true]at h;rw[List.getElem?_eq_getElem hk,Option.getD_some];exact h.2 _ (List.getElem_mem hk)
theorem agk {pats:LS} (h:bE pats=true):pats.length≤20:=by unfold bE at h;rw[Bool.and_eq_true]at h;exact of_decide_eq_true h.1
def tJ (w:ByteArray) (pats:LS):List Int:=if vQ w pats=true then jE w pats else []
abbrev aql (w:ByteArray) (pats:LS):Prop:=w.size≤1048576∧rV pats
instance (w:ByteArray) (pats:LS):Decidable (aql w pats):=Classical.propDecidable _
def φLv:Fun:=F2 dS dSs fun w pats=>if aql w pats then some (.lst true 1 ((tJ w pats).map fun n=> .val (.int .i64 n)))else none
theorem ak6 {w:ByteArray} {pats:LS} (h:aql w pats):φLv [.val (.string w),.lst false 1 (pats.map fun s=> .val (.string s))]=some (.lst true 1 ((tJ w pats).map fun n=> .val (.int .i64 n))):=(jA (A:=dS) (B:=dSs) w pats).trans (if_pos h)
def aqs:Fun:=F2 dS dSs fun w pats=>if vQ w pats=true then some (.lst true 1 ((jE w pats).map fun n=> .val (.int .i64 n)))else none
theorem ap8 {w:ByteArray} {pats:LS} (h:vQ w pats=true):aqs [.val (.string w),.lst false 1 (pats.map fun s=> .val (.string s))]=some (.lst true 1 ((jE w pats).map fun n=> .val (.int .i64 n))):=(jA (A:=dS) (B:=dSs) w pats).trans (if_pos h)
theorem aha {sz a j:Nat} {lv o:List Int} (h:1≤a+j) (h2:a+j≤sz+1):aeV sz a j lv o=o.set (a+j-1) (if lv[j]?.getD 0>o[a+j-1]?.getD 0 then lv[j]?.getD 0 else o[a+j-1]?.getD 0):=if_pos ⟨h,h2⟩
theorem adh {sz a j:Nat} {lv o:List Int} (h:¬(1≤a+j∧a+j≤sz+1)):aeV sz a j lv o=o:=if_neg h
theorem anx {d lt:ByteArray} {sz a:Nat} {lv o:List Int} (h:d.extract a (a+lt.size)=lt):lvA d sz lt lv o (a+1)=lvJ sz a lv (lvA d sz lt lv o a) lv.length:=by rw[lvA,if_pos h]
theorem aht {d lt:ByteArray} {sz a:Nat} {lv o:List Int} (h:¬d.extract a (a+lt.size)=lt):lvA d sz lt lv o (a+1)=lvA d sz lt lv o a:=by rw[lvA,if_neg h]
def aFH:Ctx:={fn:=aT [(239,φPp),(64,φIn)],io:=aT []}
theorem au4:ak Tryz.prog aFH:=okΓ (fC Tryz.func239 ak2 (fC Tryz.func64 qR aj)) aj
def aqB:=ah (Γ:=aFH) (f:=239) (φ:=φPp) rfl
def ax4:=ah (Γ:=aFH) (f:=64) (φ:=φIn) rfl
theorem aiF:Sound Tryz.prog 233 aqs:=by
 refine au mixed au4 Tryz.func233 rfl 78 rfl [.tmp 4] rfl (by kernel_rfl) fun ps r hr=>?_;obtain⟨w,pats,rfl,hpre,rfl⟩:=iK hr;refine⟨by simp,?_⟩;simp only[dIs,dUs,dSs,dw,dx,dh,dA,aS,dz,aQ,aR,aO,aP];obtain⟨hw,hp⟩:=kr.1 hpre;obtain⟨-,hw1,hw2⟩:=aH hw;have hpl:=agk hp;have hpa:=fun k hk=>an5 hp (k:=k) hk;have hds:=adz w;have hlo:=ac7 w pats;have hd0:avG w=(⟨#[46]⟩++w)++⟨#[46]⟩:=rfl;have h46:(⟨#[46]⟩:ByteArray).size=1:=rfl;have api:=bM;unfold jE;clear hw hp hpre;have glvi_c239:=aqB;have glvi_c64:=ax4;(refine wlk ?_;intros);rw[←hd0];clear hd0 h46;generalize hdd:avG w=d at*;refine aD (α:=Nat) mixed (fun k=>[(0,.val (.string w)),(5,.val (.string d)),(6,.row 0 1 0 (w.size+1)),(22,.lst false 1 (pats.map fun s=> .val (.string s))),(23,iv pats.length),(24,iv k)])
  (fun k=>[(0,3,1,(lvP w pats k).map pvN)]) (fun _=>1)
  (fun k=>k≤pats.length) (fun k=>pats.length-k) (by kernel_rfl) 0 (Nat.zero_le _) ?_ ?_ rfl ?_
 ·exact agr
 ·simp(disch:=(first|omega|(simp only[push_cast];first|done|omega))) only[push_cast,↓reduceIte,Rq,Rb,Ra,Rs,Rt,lvP,List.map_replicate, *]
 intro k hk;by_cases h0:k<pats.length
 ·have hpk:=hpa k h0
  have happ:=auy (p:=pats[k]?.getD .empty) (nE hpk).2;obtain⟨g1,g2,g3⟩:=p8 (pats[k]?.getD .empty);have hps:=(nE hpk).2;have hnx:lvP w pats (k+1)=lvA d w.size (dY (pats[k]?.getD .empty)) (fO (pats[k]?.getD .empty)) (lvP w pats k) (w.size+3-(dY (pats[k]?.getD .empty)).size):=by rw[lvP,hdd]
  have ho:=hlo k;replace hnx:=Lib.hid hnx;clear hpa hlo hpk;generalize hp9:pats[k]?.getD ByteArray.empty=p at*;generalize dY p=lt at*;generalize fO p=lv at*;generalize lvP w pats k=o at*;have hA:=fun a=>(ho.lvA (d:=d) (lt:=lt) (lv:=lv) g3 a);(refine wlk ?_;intros);refine aD (α:=Nat) mixed (fun a=>[(0,.val (.string w)),(5,.val (.string d)),(6,.row 0 1 0 (w.size+1)),(22,.lst false 1 (pats.map fun s=> .val (.string s))),(23,iv pats.length),(24,iv k),(9,.val (.string lt)),(10,.lst true 1 (lv.map pvN)),(11,iv a)])
   (fun a=>[(0,3,1,(lvA d w.size lt lv o a).map pvN)]) (fun _=>1)
   (fun a=>a≤w.size+3-lt.size) (fun a=>w.size+3-lt.size-a) (by kernel_rfl) 0 (Nat.zero_le _) ?_ ?_ rfl ?_
  ·exact agr
  ·simp(disch:=(first|omega|(simp only[push_cast];first|done|omega))) only[push_cast,↓reduceIte,Rq,Rb,Ra,Rs,Rt,lvA, *]
  intro a ha;by_cases ha0:a<w.size+3-lt.size
  ·obtain⟨oa1,oa2⟩:=hA a
   have hJ:=fun j=>((hA a).lvJ (a:=a) (lv:=lv) g3 j);clear hA ho happ;by_cases hm:d.extract a (a+lt.size)=lt
   ·have hn:=anx (sz:=w.size) (lv:=lv) (o:=o) hm
    replace hn:=Lib.hid hn;replace hm:=Lib.hid hm;generalize lvA d w.size lt lv o a=oa at*;have hm:=hm.out;(refine wlk ?_;intros);clear hm;refine aD (α:=Nat) mixed (fun j=>[(0,.val (.string w)),(5,.val (.string d)),(6,.row 0 1 0 (w.size+1)),(22,.lst false 1 (pats.map fun s=> .val (.string s))),(23,iv pats.length),(24,iv k),(9,.val (.string lt)),(10,.lst true 1 (lv.map pvN)),(11,iv a),(51,.lst true 1 (lv.map pvN)),(52,iv lv.length),(53,iv j)])
     (fun j=>[(0,3,1,(lvJ w.size a lv oa j).map pvN)]) (fun _=>1)
     (fun j=>j≤lv.length) (fun j=>lv.length-j) (by kernel_rfl) 0 (Nat.zero_le _) ?_ ?_ rfl ?_
    ·exact agr
    ·simp(disch:=(first|omega|(simp only[push_cast];first|done|omega))) only[push_cast,↓reduceIte,Rq,Rb,Ra,Rs,Rt,lvJ, *]
    intro j hj;by_cases hj0:j<lv.length
    ·obtain⟨oj1,oj2⟩:=hJ j
     clear hJ;have hs:lvJ w.size a lv oa (j+1)=aeV w.size a j lv (lvJ w.size a lv oa j):=rfl;have hg3:=g3 j;by_cases hin:1≤a+j∧a+j≤w.size+1
     ·rw[aha hin.1 hin.2]at hs
      replace hs:=Lib.hid hs;have api1:inB ((a:Int)+j-1) 0 w.size=true:=av.2 ⟨by omega,by omega⟩;have hti:((a:Int)+j-1).toNat=a+j-1:=by omega
      generalize lvJ w.size a lv oa j=oj at*;(refine wlk ?_;intros);refine⟨j+1,by omega,by dsimp only;omega,?_,?_,rfl⟩
      ·exact agr
      ·dsimp only
       rw[hs.out];exact agr
     ·rw[adh hin]at hs
      replace hs:=Lib.hid hs;have api1:inB ((a:Int)+j-1) 0 w.size=false:=Bool.eq_false_iff.2 fun q=>by have:=av.1 q;omega
      generalize lvJ w.size a lv oa j=oj at*;(refine wlk ?_;intros);refine⟨j+1,by omega,by dsimp only;omega,?_,?_,rfl⟩
      ·exact agr
      ·dsimp only
       rw[hs.out];exact agr
    ·obtain rfl:j=lv.length:=by omega
     clear hJ;(refine wlk ?_;intros);refine⟨a+1,by omega,by dsimp only;omega,?_,?_,rfl⟩
     ·exact agr
     ·dsimp only
      rw[hn.out];exact agr
   ·have hn:=aht (sz:=w.size) (lv:=lv) (o:=o) hm
    replace hn:=Lib.hid hn;generalize lvA d w.size lt lv o a=oa at*;(refine wlk ?_;intros);refine⟨a+1,by omega,by dsimp only;omega,?_,?_,rfl⟩
    ·exact agr
    ·dsimp only
     rw[hn.out];exact agr
  ·have hae:a=w.size+3-lt.size:=by omega
   clear hA ho happ;rw[←hae]at hnx;generalize lvA d w.size lt lv o a=oa at*;clear hae;(refine wlk ?_;intros);refine⟨k+1,by omega,by dsimp only;omega,?_,?_,rfl⟩
   ·exact agr
   ·dsimp only
    rw[hnx.out];exact agr
 ·obtain rfl:k=pats.length:=by omega
  obtain⟨o1,o2⟩:=hlo pats.length;clear hlo hpa;generalize lvP w pats pats.length=o at*;exact wlkF
def apz:Ctx:={fn:=aT [(81,fQ),(71,iT),(233,aqs)],io:=aT []}
theorem aqh:ak Tryz.prog apz:=okΓ (fC Tryz.func81 fE (fC Tryz.func71 eD (fC Tryz.func233 aiF aj))) aj
def aaM:=ah (Γ:=apz) (f:=81) (φ:=fQ) rfl
def abm:=ah (Γ:=apz) (f:=71) (φ:=iT) rfl
def xw:=ah (Γ:=apz) (f:=233) (φ:=aqs) rfl
theorem ali:Sound Tryz.prog 211 φLv:=by
 refine gD mixed aqh Tryz.func211 rfl 16 rfl [.tmp 4] rfl (by kernel_rfl) fun ps r hr=>?_;obtain⟨w,pats,rfl,hpre,rfl⟩:=iK hr;refine⟨by simp,?_⟩;simp only[dIs,dUs,dSs,dw,dx,dh,dA,aS,dz,aQ,aR,aO,aP];have ap1:=iA (s:=w) (by omega);have ap2:=jB hpre.2;have apl:=fun h=>ap8 (w:=w) (pats:=pats) h;unfold tJ vQ;unfold vQ at apl;cases hw:dn w with
 |false=>
  rw[hw]at ap1;clear apl hpre hw;rw[Bool.false_and,if_neg (by decide)];have glvi2_c81:=aaM;have glvi2_c71:=abm;have glvi2_c233:=xw;(refine wlk ?_;intros);all_goals((with_reducible apply bV (by first|exact .inl rfl|exact .inr rfl));(exact sr))
  all_goals exact nil_le _ _
 |true=>
  cases hp:bE pats with
  |false=>
   rw[hw]at ap1;rw[hp]at ap2;clear apl hpre hw hp;rw[Bool.and_false,if_neg (by decide)];have glvi2_c81:=aaM;have glvi2_c71:=abm;have glvi2_c233:=xw;(refine wlk ?_;intros);all_goals((with_reducible apply bV (by first|exact .inl rfl|exact .inr rfl));(exact sr))
   all_goals exact nil_le _ _
  |true=>
   have apl:=apl (by rw[hw,hp];rfl);rw[hw]at ap1;rw[hp]at ap2;clear hpre hw hp;rw[Bool.and_true,if_pos rfl];have glvi2_c81:=aaM;have glvi2_c71:=abm;have glvi2_c233:=xw;(refine wlk ?_;intros);all_goals((with_reducible apply bV (by first|exact .inl rfl|exact .inr rfl));(exact sr))
   all_goals exact PV.le_refl _
def ay7:Ctx:={fn:=aT [(68,fQ),(33,iT),(223,φPl),(224,φPv),(34,φIn)],io:=aT []}
theorem avM:ak Tryz.prog ay7:=okΓ (fC Tryz.func68 fH (fC Tryz.func33 eB (fC Tryz.func223 al9 (fC Tryz.func224 aj7 (fC Tryz.func34 gY aj))))) aj
def aeh:=ah (Γ:=ay7) (f:=68) (φ:=fQ) rfl
def afi:=ah (Γ:=ay7) (f:=33) (φ:=iT) rfl
def aap:=ah (Γ:=ay7) (f:=223) (φ:=φPl) rfl
def abK:=ah (Γ:=ay7) (f:=224) (φ:=φPv) rfl
def afp:=ah (Γ:=ay7) (f:=34) (φ:=φIn) rfl
theorem aol:Sound Tryz.prog 186 φLv:=by
 refine au mixed avM Tryz.func186 rfl 90 rfl [.tmp 4] rfl (by kernel_rfl) fun ps r hr=>?_;obtain⟨w,pats,rfl,hpre,rfl⟩:=iK hr;refine⟨by simp,?_⟩;simp only[dIs,dUs,dSs,dw,dx,dh,dA,aS,dz,aQ,aR,aO,aP];have ap1:=iA (s:=w) (by omega);have ap2:=jB hpre.2;unfold tJ vQ;cases hw:dn w with
 |false=>rw[hw]at ap1;clear hpre hw;rw[Bool.false_and,if_neg (by decide)];have glvs_c68:=aeh;have glvs_c33:=afi;have glvs_c223:=aap;have glvs_c224:=abK;have glvs_c34:=afp;exact wlkF
 |true=>
 cases hp:bE pats with
 |false=>rw[hw]at ap1;rw[hp]at ap2;clear hpre hw hp;rw[Bool.and_false,if_neg (by decide)];have glvs_c68:=aeh;have glvs_c33:=afi;have glvs_c223:=aap;have glvs_c224:=abK;have glvs_c34:=afp;exact wlkF
 |true=>
 rw[hw]at ap1;rw[hp]at ap2;rw[Bool.and_true,if_pos rfl];obtain⟨-,hw1,hw2⟩:=aH hw;have hpl:=agk hp;have hpa:=fun k hk=>an5 hp (k:=k) hk;have hds:=adz w;have hlo:=ac7 w pats;have hd0:avG w=(⟨#[46]⟩++w)++⟨#[46]⟩:=rfl;have h46:(⟨#[46]⟩:ByteArray).size=1:=rfl;have api:=bM;unfold jE;clear hw hp hpre;have glvs_c68:=aeh;have glvs_c33:=afi;have glvs_c223:=aap;have glvs_c224:=abK;have glvs_c34:=afp;(refine wlk ?_;intros);rw[←hd0];clear hd0 h46;generalize hdd:avG w=d at*;refine aD (α:=Nat) mixed (fun k=>[(0,.val (.string w)),(1,.lst false 1 (pats.map fun s=> .val (.string s))),(5,.row 0 1 0 (w.size+1)),(6,.val (.string d)),(7,iv k)])
  (fun k=>[(0,3,1,(lvP w pats k).map pvN)]) (fun _=>1)
  (fun k=>k≤pats.length) (fun k=>pats.length-k) (by kernel_rfl) 0 (Nat.zero_le _) ?_ ?_ rfl ?_
 ·exact agr
 ·simp(disch:=(first|omega|(simp only[push_cast];first|done|omega))) only[push_cast,↓reduceIte,Rq,Rb,Ra,Rs,Rt,lvP,List.map_replicate, *]
 intro k hk;by_cases h0:k<pats.length
 ·have hpk:=hpa k h0
  have hap1:=axT hpk;have hap2:=awl hpk;obtain⟨g1,g2,g3⟩:=p8 (pats[k]?.getD .empty);have hps:=(nE hpk).2;have hnx:lvP w pats (k+1)=lvA d w.size (dY (pats[k]?.getD .empty)) (fO (pats[k]?.getD .empty)) (lvP w pats k) (w.size+3-(dY (pats[k]?.getD .empty)).size):=by rw[lvP,hdd]
  have ho:=hlo k;replace hnx:=Lib.hid hnx;clear hpa hlo hpk;generalize hp9:pats[k]?.getD ByteArray.empty=p at*;generalize dY p=lt at*;generalize fO p=lv at*;generalize lvP w pats k=o at*;have hA:=fun a=>(ho.lvA (d:=d) (lt:=lt) (lv:=lv) g3 a);(refine wlk ?_;intros);refine aD (α:=Nat) mixed (fun a=>[(0,.val (.string w)),(1,.lst false 1 (pats.map fun s=> .val (.string s))),(5,.row 0 1 0 (w.size+1)),(6,.val (.string d)),(7,iv k),(8,.val (.string lt)),(9,.lst true 1 (lv.map pvN)),(10,iv a)])
   (fun a=>[(0,3,1,(lvA d w.size lt lv o a).map pvN)]) (fun _=>1)
   (fun a=>a≤w.size+3-lt.size) (fun a=>w.size+3-lt.size-a) (by kernel_rfl) 0 (Nat.zero_le _) ?_ ?_ rfl ?_
  ·exact agr
  ·simp(disch:=(first|omega|(simp only[push_cast];first|done|omega))) only[push_cast,↓reduceIte,Rq,Rb,Ra,Rs,Rt,lvA, *]
  intro a ha;by_cases ha0:a<w.size+3-lt.size
  ·obtain⟨oa1,oa2⟩:=hA a
   have hJ:=fun j=>((hA a).lvJ (a:=a) (lv:=lv) g3 j);clear hA ho hap1 hap2;by_cases hm:d.extract a (a+lt.size)=lt
   ·have hn:=anx (sz:=w.size) (lv:=lv) (o:=o) hm
    replace hn:=Lib.hid hn;replace hm:=Lib.hid hm;generalize lvA d w.size lt lv o a=oa at*;have hm:=hm.out;(refine wlk ?_;intros);clear hm;refine aD (α:=Nat) mixed (fun j=>[(0,.val (.string w)),(1,.lst false 1 (pats.map fun s=> .val (.string s))),(5,.row 0 1 0 (w.size+1)),(6,.val (.string d)),(7,iv k),(8,.val (.string lt)),(9,.lst true 1 (lv.map pvN)),(10,iv a),(11,iv j)])
     (fun j=>[(0,3,1,(lvJ w.size a lv oa j).map pvN)]) (fun _=>1)
     (fun j=>j≤lv.length) (fun j=>lv.length-j) (by kernel_rfl) 0 (Nat.zero_le _) ?_ ?_ rfl ?_
    ·exact agr
    ·simp(disch:=(first|omega|(simp only[push_cast];first|done|omega))) only[push_cast,↓reduceIte,Rq,Rb,Ra,Rs,Rt,lvJ, *]
    intro j hj;by_cases hj0:j<lv.length
    ·obtain⟨oj1,oj2⟩:=hJ j
     clear hJ;have hs:lvJ w.size a lv oa (j+1)=aeV w.size a j lv (lvJ w.size a lv oa j):=rfl;have hg3:=g3 j;by_cases hin:1≤a+j∧a+j≤w.size+1
     ·rw[aha hin.1 hin.2]at hs
      replace hs:=Lib.hid hs;have api1:inB ((a:Int)+j-1) 0 w.size=true:=av.2 ⟨by omega,by omega⟩;have hti:((a:Int)+j-1).toNat=a+j-1:=by omega
      generalize lvJ w.size a lv oa j=oj at*;(refine wlk ?_;intros);refine⟨j+1,by omega,by dsimp only;omega,?_,?_,rfl⟩
      ·exact agr
      ·dsimp only
       rw[hs.out];exact agr
     ·rw[adh hin]at hs
      replace hs:=Lib.hid hs;have api1:inB ((a:Int)+j-1) 0 w.size=false:=Bool.eq_false_iff.2 fun q=>by have:=av.1 q;omega
      generalize lvJ w.size a lv oa j=oj at*;(refine wlk ?_;intros);refine⟨j+1,by omega,by dsimp only;omega,?_,?_,rfl⟩
      ·exact agr
      ·dsimp only
       rw[hs.out];exact agr
    ·obtain rfl:j=lv.length:=by omega
     clear hJ;(refine wlk ?_;intros);refine⟨a+1,by omega,by dsimp only;omega,?_,?_,rfl⟩
     ·exact agr
     ·dsimp only
      rw[hn.out];exact agr
   ·have hn:=aht (sz:=w.size) (lv:=lv) (o:=o) hm
    replace hn:=Lib.hid hn;generalize lvA d w.size lt lv o a=oa at*;(refine wlk ?_;intros);refine⟨a+1,by omega,by dsimp only;omega,?_,?_,rfl⟩
    ·exact agr
    ·dsimp only
     rw[hn.out];exact agr
  ·have hae:a=w.size+3-lt.size:=by omega
   clear hA ho hap1 hap2;rw[←hae]at hnx;generalize lvA d w.size lt lv o a=oa at*;clear hae;(refine wlk ?_;intros);refine⟨k+1,by omega,by dsimp only;omega,?_,?_,rfl⟩
   ·exact agr
   ·dsimp only
    rw[hnx.out];exact agr
 ·obtain rfl:k=pats.length:=by omega
  obtain⟨o1,o2⟩:=hlo pats.length;clear hlo hpa;generalize lvP w pats pats.length=o at*;exact wlkF
def sP (w:ByteArray) (pats:LS):List Int:=if vQ w pats=true then mJ w pats else []
def φPc:Fun:=F2 dS dSs fun w pats=>if aql w pats then some (.lst true 1 ((sP w pats).map fun n=> .val (.int .i64 n)))else none
theorem amH {w:ByteArray} {pats:LS} (h:aql w pats):φPc [.val (.string w),.lst false 1 (pats.map fun s=> .val (.string s))]=some (.lst true 1 ((sP w pats).map fun n=> .val (.int .i64 n))):=(jA (A:=dS) (B:=dSs) w pats).trans (if_pos h)
abbrev LI:=List Int
theorem rR {T sz x:Nat} {es:List PV}:jF (lo (nO T sz es x)) (nO T sz es x):=by
 cases es with
 |nil=>trivial
 |cons e es=>show jF (lo [_]) [_];simp only[push_cast]
theorem atj {sz:Nat} {lv:List Int} {k:Nat} (h:¬(2≤k∧k+3≤sz∧lv[k]?.getD 0 % 2=1)):plB sz lv k=false:=decide_eq_false h
theorem aky {sz:Nat} {lv:List Int} {k:Nat} (h:2≤k∧k+3≤sz∧lv[k]?.getD 0 % 2=1):plB sz lv k=true:=decide_eq_true h
def aFR:Ctx:={fn:=aT [(211,φLv),(64,φIn)],io:=aT []}
theorem auB:ak Tryz.prog aFR:=okΓ (fC Tryz.func211 ali (fC Tryz.func64 qR aj)) aj
def ahA:=ah (Γ:=aFR) (f:=211) (φ:=φLv) rfl
def anc:=ah (Γ:=aFR) (f:=64) (φ:=φIn) rfl
theorem akr:Sound Tryz.prog 171 φPc:=by
 refine gD mixed auB Tryz.func171 rfl 33 rfl [.tmp 4] rfl (by kernel_rfl) fun ps r hr=>?_;obtain⟨w,pats,rfl,hpre,rfl⟩:=iK hr;refine⟨by simp,?_⟩;simp only[dIs,dUs,dSs,dw,dx,dh,dA,aS,dz,aQ,aR,aO,aP];have apl:=ak6 hpre;have api:=bM;unfold tJ at apl;unfold sP;cases hB:vQ w pats with
 |false=>
  rw[hB,if_neg (by decide)]at apl;rw[if_neg (by decide)];clear hB hpre;have gpci_c211:=ahA;have gpci_c64:=anc;(refine wlk ?_;intros);refine aD (α:=Unit) mixed (fun _=>[(5,.val (.slice none 0 0)),(10,.lst true 1 []),(11,iv 0),(12,iv 0)]) (fun _=>[]) (fun _=>0) (fun _=>True) (fun _=>0) (by kernel_rfl) () trivial ?_ ?_ rfl ?_
  ·exact agr
  ·exact agr
  rintro⟨⟩-;(refine wlk ?_;intros);all_goals((with_reducible apply bV (by first|exact .inl rfl|exact .inr rfl));(exact sr))
  all_goals exact nil_le _ _
 |true=>
  rw[hB,if_pos rfl]at apl;rw[if_pos rfl];obtain⟨-,hw1,hw2⟩:=aH (kr.1 hB).1;obtain⟨l1,l2⟩:=ac7 w pats pats.length;unfold mJ;have he:jE w pats=lvP w pats pats.length:=rfl;rw[he]at apl⊢;generalize lvP w pats pats.length=lv at*;clear hB hpre he;have hP0:plK w.size lv 0=[]:=rfl;have hPl:=akB w.size lv;have gpci_c211:=ahA;have gpci_c64:=anc;(refine wlk ?_;intros);refine aD (α:=Nat×LI×Nat×Nat) mixed (fun z=>[(0,.val (.string w)),(5,nP 1 (z.2.1.map pvN) z.2.2.1),(10,.lst true 1 (lv.map pvN)),(11,iv lv.length),(12,iv z.1)])
   (fun z=>nO 3 1 (z.2.1.map pvN) z.2.2.1) (fun z=>z.2.2.2)
   (fun z=>z.1≤lv.length∧z.2.1=plK w.size lv z.1∧(0<z.2.1.length→z.2.2.1<z.2.2.2)) (fun z=>lv.length-z.1) (by kernel_rfl) (0,[],0,0) ⟨Nat.zero_le _,rfl,by simp⟩ ?_ ?_ rfl ?_
  ·exact agr
  ·exact agr
  rintro⟨k,out,x,y⟩ ⟨hk,hI,hxy⟩;dsimp only at hk hI hxy;have hol:out.length≤22:=by rw[hI];have:=hPl k;omega
  clear hPl hP0;by_cases h0:k<lv.length
  ·have hlk:=l2 k
   by_cases hc:2≤k∧k+3≤w.size∧lv[k]?.getD 0 % 2=1
   ·have hI2:out++[(k:Int)]=plK w.size lv (k+1):=by rw[afj (aky hc),←hI]
    replace hI2:=Lib.hid hI2;obtain⟨c1,c2,c3⟩:=hc;have api1:inB (k:Int) 2 ((w.size:Int)-3)=true:=av.2 ⟨by omega,by omega⟩;clear hI l2;by_cases hz:out.length=0
    ·obtain rfl:out=[]:=List.eq_nil_of_length_eq_zero hz
     (refine wlk ?_;intros);refine⟨(k+1,[]++[(k:Int)],y+1,y+2),⟨by dsimp only;omega,hI2.out,fun _=>by dsimp only;omega⟩,by dsimp only;omega,?_,?_,rfl⟩
     ·exact agr
     ·exact agr
    ·have hxy:=hxy (by omega)
     have hap:0<(out.map pvN).length:=by rw[List.length_map];omega
     clear hz;have hap3:0<((out++[(k:Int)]).map pvN).length:=by simp
     simp only[ay hap,aB hap,List.length_map];(refine wlk ?_;intros);refine⟨(k+1,out++[(k:Int)],y+1,y+2),⟨by dsimp only;omega,hI2.out,fun _=>by dsimp only;omega⟩,by dsimp only;omega,?_,?_,rfl⟩
     ·simp(disch:=(first|omega|(simp only[push_cast];first|done|omega))) only[push_cast,↓reduceIte,Rq,Rb,Ra,Rs,Rt,ay hap3,List.length_append, *]
     ·simp(disch:=(first|omega|(simp only[push_cast];first|done|omega))) only[push_cast,↓reduceIte,Rq,Rb,Ra,Rs,Rt,aB hap3, *]
   ·have hI2:out=plK w.size lv (k+1):=by rw[zR (atj hc),←hI]
    replace hI2:=Lib.hid hI2;clear hI l2;by_cases c3:lv[k]?.getD 0 % 2=1
    ·have api1:inB (k:Int) 2 ((w.size:Int)-3)=false:=Bool.eq_false_iff.2 fun q=>by have:=av.1 q;omega
     clear hc;(refine wlk ?_;intros);refine⟨(k+1,out,x,y),⟨by dsimp only;omega,hI2.out,hxy⟩,by dsimp only;omega,?_,rR,rfl⟩
     ·exact agr
    ·clear hc
     (refine wlk ?_;intros);refine⟨(k+1,out,x,y),⟨by dsimp only;omega,hI2.out,hxy⟩,by dsimp only;omega,?_,rR,rfl⟩
     ·exact agr
  ·obtain rfl:k=lv.length:=by omega
   rw[←l1,←hI];clear hI l2;by_cases hz:out.length=0
   ·obtain rfl:out=[]:=List.eq_nil_of_length_eq_zero hz
    (refine wlk ?_;intros);all_goals((with_reducible apply bV (by first|exact .inl rfl|exact .inr rfl));(exact sr))
    all_goals exact nil_le _ _
   ·have hxy:=hxy (by omega)
    have hap:0<(out.map pvN).length:=by rw[List.length_map];omega
    clear hz;simp only[ay hap,aB hap,List.length_map];(refine wlk ?_;intros);all_goals((with_reducible apply bV (by first|exact .inl rfl|exact .inr rfl));(exact sr))
    all_goals exact PV.le_refl _
def aGy:Ctx:={fn:=aT [(186,φLv)],io:=aT []}
theorem awu:ak Tryz.prog aGy:=okΓ (fC Tryz.func186 aol aj) aj
def ahl:=ah (Γ:=aGy) (f:=186) (φ:=φLv) rfl
theorem amI:Sound Tryz.prog 134 φPc:=by
 refine au mixed awu Tryz.func134 rfl 30 rfl [.tmp 4] rfl (by kernel_rfl) fun ps r hr=>?_;obtain⟨w,pats,rfl,hpre,rfl⟩:=iK hr;refine⟨by simp,?_⟩;simp only[dIs,dUs,dSs,dw,dx,dh,dA,aS,dz,aQ,aR,aO,aP];have apl:=ak6 hpre;unfold tJ at apl;unfold sP;cases hB:vQ w pats with
 |false=>
  rw[hB,if_neg (by decide)]at apl;rw[if_neg (by decide)];clear hB hpre;have gpcs_c186:=ahl;(refine wlk ?_;intros);refine aD (α:=Unit) mixed (fun _=>[(5,.row 0 1 0 0),(6,.lst true 1 []),(7,iv 2)]) (fun _=>[(0,3,1,[])]) (fun _=>1) (fun _=>True) (fun _=>0) (by kernel_rfl) () trivial ?_ ?_ rfl ?_
  ·exact agr
  ·exact agr
  rintro⟨⟩-;exact wlkF
 |true=>
  rw[hB,if_pos rfl]at apl;rw[if_pos rfl];obtain⟨-,hw1,hw2⟩:=aH (kr.1 hB).1;obtain⟨l1,l2⟩:=ac7 w pats pats.length;unfold mJ;have he:jE w pats=lvP w pats pats.length:=rfl;rw[he]at apl⊢;generalize lvP w pats pats.length=lv at*;clear hB hpre he;have hP0:=@awP w.size lv;have hPl:=akB w.size lv;have hPh:∀k,w.size<k+3→k≤w.size+1→plK w.size lv (w.size+1)=plK w.size lv k:=fun k h1 h2=>by
   have:=afS (lv:=lv) h1 (w.size+1-k)
   rwa[show k+(w.size+1-k)=w.size+1 by omega]at this
  have hPs:w.size<5→plK w.size lv (w.size+1)=plK w.size lv 2:=fun h=>by rw[arJ h,hP0]
  replace hP0:=Lib.hid hP0;have gpcs_c186:=ahl;(refine wlk ?_;intros);refine aD (α:=Nat×LI×Nat×Nat) mixed (fun z=>[(5,.row z.2.2.1 1 0 z.2.1.length),(6,.lst true 1 (lv.map pvN)),(7,iv z.1)])
   (fun z=>[(z.2.2.1,3,1,z.2.1.map pvN)]) (fun z=>z.2.2.2)
   (fun z=>2≤z.1∧(2<z.1→z.1+2≤w.size)∧z.2.1=plK w.size lv z.1∧z.2.2.1<z.2.2.2) (fun z=>lv.length-z.1) (by kernel_rfl) (2,[],0,1) ⟨by simp,by simp,hP0.out.symm,by simp⟩ ?_ ?_ rfl ?_
  ·exact agi
  ·exact agr
  rintro⟨k,out,x,y⟩ ⟨hk,hk2,hI,hxy⟩;dsimp only at hk hk2 hI hxy;have hol:out.length≤22:=by
   rw[hI];by_cases h2:2<k
   ·have:=hPl k;have:=hk2 h2;omega
   ·have:=hPl k;omega
  clear hPl hP0;by_cases h0:k+3<lv.length
  ·have hlk:=l2 k
   by_cases c3:lv[k]?.getD 0 % 2=1
   ·have hI2:out++[(k:Int)]=plK w.size lv (k+1):=by rw[afj (aky ⟨hk,by omega,c3⟩),←hI]
    replace hI2:=Lib.hid hI2;clear hI l2 hPh hPs;(refine wlk ?_;intros);refine⟨(k+1,out++[(k:Int)],y+1,y+2),⟨by dsimp only;omega,fun _=>by dsimp only;omega,hI2.out,by dsimp only;omega⟩,by dsimp only;omega,?_,?_,rfl⟩
    ·exact agr
    ·exact agr
   ·have hI2:out=plK w.size lv (k+1):=by rw[zR (atj fun q=>c3 q.2.2),←hI]
    replace hI2:=Lib.hid hI2;clear hI l2 hPh hPs;(refine wlk ?_;intros);refine⟨(k+1,out,x,y),⟨by dsimp only;omega,fun _=>by dsimp only;omega,hI2.out,hxy⟩,by dsimp only;omega,?_,?_,rfl⟩
    ·exact agr
    ·exact agr
  ·have hfin:plK w.size lv (w.size+1)=out:=by
    rw[hI];by_cases h5:w.size<5
    ·by_cases h2:2<k
     ·have:=hk2 h2
      omega
     ·obtain rfl:k=2:=by omega
      exact hPs h5
    ·refine hPh k (by omega) ?_
     by_cases h2:2<k
     ·have:=hk2 h2;omega
     ·omega
   rw[hfin];clear hI l2 hPh hPs hfin;exact wlkF
def bW (w:ByteArray) (pats:LS):LS:=if vQ w pats=true then acz w pats else []
def φPr:Fun:=F2 dS dSs fun w pats=>if aql w pats then some (.lst true 1 ((bW w pats).map fun s=> .val (.string s)))else none
theorem afE {w:ByteArray} {pats:LS} (h:aql w pats):φPr [.val (.string w),.lst false 1 (pats.map fun s=> .val (.string s))]=some (.lst true 1 ((bW w pats).map fun s=> .val (.string s))):=(jA (A:=dS) (B:=dSs) w pats).trans (if_pos h)
def aEo:Ctx:={fn:=aT [(81,fQ),(71,iT),(171,φPc)],io:=aT []}
theorem ayL:ak Tryz.prog aEo:=okΓ (fC Tryz.func81 fE (fC Tryz.func71 eD (fC Tryz.func171 akr aj))) aj
def aen:=ah (Γ:=aEo) (f:=81) (φ:=fQ) rfl
def aeJ:=ah (Γ:=aEo) (f:=71) (φ:=iT) rfl
def aaY:=ah (Γ:=aEo) (f:=171) (φ:=φPc) rfl
theorem akZ:Sound Tryz.prog 120 φPr:=by
 refine gD mixed ayL Tryz.func120 rfl 40 rfl [.tmp 4] rfl (by kernel_rfl) fun ps r hr=>?_;obtain⟨w,pats,rfl,hpre,rfl⟩:=iK hr;refine⟨by simp,?_⟩;simp only[dIs,dUs,dSs,dw,dx,dh,dA,aS,dz,aQ,aR,aO,aP];have ap1:=iA (s:=w) (by omega);have ap2:=jB hpre.2;have apc:=amH hpre;unfold sP at apc;unfold bW;cases hw:dn w with
 |false=>
  have hB:vQ w pats=false:=by unfold vQ;rw[hw];rfl
  rw[hw]at ap1;rw[hB,if_neg (by decide)];clear apc hpre hw hB;have gpri_c81:=aen;have gpri_c71:=aeJ;have gpri_c171:=aaY;(refine wlk ?_;intros);all_goals((with_reducible apply bV (by first|exact .inl rfl|exact .inr rfl));(exact sr))
  all_goals exact nil_le _ _
 |true=>
 cases hp:bE pats with
 |false=>
  have hB:vQ w pats=false:=by unfold vQ;rw[hw,hp];rfl
  rw[hw]at ap1;rw[hp]at ap2;rw[hB,if_neg (by decide)];clear apc hpre hw hp hB;have gpri_c81:=aen;have gpri_c71:=aeJ;have gpri_c171:=aaY;(refine wlk ?_;intros);all_goals((with_reducible apply bV (by first|exact .inl rfl|exact .inr rfl));(exact sr))
  all_goals exact nil_le _ _
 |true=>
  have hB:vQ w pats=true:=by unfold vQ;rw[hw,hp];rfl
  have hok:=mX (pats:=pats) hw;obtain⟨-,hw1,hw2⟩:=aH hw;rw[hw]at ap1;rw[hp]at ap2;rw[hB,if_pos rfl]at apc;rw[hB,if_pos rfl];unfold acz;have hfr:=qw hok hw1;generalize mJ w pats=pl at*;obtain⟨hl,hat⟩:=hok;unfold ptR;have hpl:=abj w pl;clear hB hw hp hpre;have gpri_c81:=aen;have gpri_c71:=aeJ;have gpri_c171:=aaY;(refine wlk ?_;intros);refine aD (α:=Nat×Nat×Nat) mixed (fun z=>[(0,.val (.string w)),(5,nP 1 ((ptF w pl z.1).map pvS) z.2.1),(6,iv (frK pl z.1)),(19,.lst true 1 (pl.map pvN)),(20,iv pl.length),(21,iv z.1)])
   (fun z=>nO 9 1 ((ptF w pl z.1).map pvS) z.2.1) (fun z=>z.2.2)
   (fun z=>z.1≤pl.length∧(0<z.1→z.2.1<z.2.2)) (fun z=>pl.length-z.1) (by kernel_rfl) (0,0,0) ⟨Nat.zero_le _,by simp⟩ ?_ ?_ rfl ?_
  ·simp(disch:=(first|omega|(simp only[push_cast];first|done|omega))) only[push_cast,↓reduceIte,Rq,Rb,Ra,Rs,Rt,ptF,frK,List.map_nil, *]
  ·simp(disch:=(first|omega|(simp only[push_cast];first|done|omega))) only[push_cast,↓reduceIte,Rq,Rb,Ra,Rs,Rt,ptF,List.map_nil, *]
  rintro⟨k,x,y⟩ ⟨hk,hxy⟩;dsimp only at hk hxy;have hlk:=hpl k;have hfk:=hfr k hk;by_cases h0:k<pl.length
  ·obtain⟨a1,a2⟩:=hat k h0
   have hn:ptF w pl (k+1)=ptF w pl k++[w.extract (frK pl k).toNat (pl[k]?.getD 0).toNat]:=rfl;have hf:=u6 pl k;replace hn:=Lib.hid hn;replace hf:=Lib.hid hf;generalize ptF w pl k=out at*;generalize frK pl k=fr at*;clear hat hpl hfr;by_cases hz:out.length=0
   ·obtain rfl:out=[]:=List.eq_nil_of_length_eq_zero hz
    (refine wlk ?_;intros);refine⟨(k+1,y+1,y+2),⟨by dsimp only;omega,fun _=>by dsimp only;omega⟩,by dsimp only;omega,?_,?_,rfl⟩
    ·dsimp only
     rw[hn.out,hf.out];exact agr
    ·dsimp only
     rw[hn.out];exact agr
   ·have hxy:=hxy (by omega)
    have hap:0<(out.map pvS).length:=by rw[List.length_map];omega
    clear hz;have hap3:0<((out++[w.extract fr.toNat (pl[k]?.getD 0).toNat]).map pvS).length:=by simp
    simp only[ay hap,aB hap,List.length_map];(refine wlk ?_;intros);refine⟨(k+1,y+1,y+2),⟨by dsimp only;omega,fun _=>by dsimp only;omega⟩,by dsimp only;omega,?_,?_,rfl⟩
    ·dsimp only
     rw[hn.out,hf.out];simp(disch:=(first|omega|(simp only[push_cast];first|done|omega))) only[push_cast,↓reduceIte,Rq,Rb,Ra,Rs,Rt,ay hap3,List.length_append, *]
    ·dsimp only
     rw[hn.out];simp(disch:=(first|omega|(simp only[push_cast];first|done|omega))) only[push_cast,↓reduceIte,Rq,Rb,Ra,Rs,Rt,aB hap3, *]
  ·obtain rfl:k=pl.length:=by omega
   generalize ptF w pl pl.length=out at*;generalize frK pl pl.length=fr at*;clear hat hpl hfr;by_cases hz:out.length=0
   ·obtain rfl:out=[]:=List.eq_nil_of_length_eq_zero hz
    (refine wlk ?_;intros);all_goals((with_reducible apply bV (by first|exact .inl rfl|exact .inr rfl));(exact sr))
    all_goals exact PV.le_refl _
   ·have hxy:=hxy (by omega)
    have hap:0<(out.map pvS).length:=by rw[List.length_map];omega
    clear hz;simp only[ay hap,aB hap,List.length_map];(refine wlk ?_;intros);all_goals((with_reducible apply bV (by first|exact .inl rfl|exact .inr rfl));(exact sr))
    all_goals exact PV.le_refl _
def aEu:Ctx:={fn:=aT [(68,fQ),(33,iT),(134,φPc)],io:=aT []}
theorem awF:ak Tryz.prog aEu:=okΓ (fC Tryz.func68 fH (fC Tryz.func33 eB (fC Tryz.func134 amI aj))) aj
def aeg:=ah (Γ:=aEu) (f:=68) (φ:=fQ) rfl
def afI:=ah (Γ:=aEu) (f:=33) (φ:=iT) rfl
def abW:=ah (Γ:=aEu) (f:=134) (φ:=φPc) rfl
theorem adI:Sound Tryz.prog 98 φPr:=by
 refine au mixed awF Tryz.func98 rfl 48 rfl [.tmp 4] rfl (by kernel_rfl) fun ps r hr=>?_;obtain⟨w,pats,rfl,hpre,rfl⟩:=iK hr;refine⟨by simp,?_⟩;simp only[dIs,dUs,dSs,dw,dx,dh,dA,aS,dz,aQ,aR,aO,aP];have ap1:=iA (s:=w) (by omega);have ap2:=jB hpre.2;have apc:=amH hpre;unfold sP at apc;unfold bW;cases hw:dn w with
 |false=>
  have hB:vQ w pats=false:=by unfold vQ;rw[hw];rfl
  rw[hw]at ap1;rw[hB,if_neg (by decide)];clear apc hpre hw hB;have gprs_c68:=aeg;have gprs_c33:=afI;have gprs_c134:=abW;exact wlkF
 |true=>
 cases hp:bE pats with
 |false=>
  have hB:vQ w pats=false:=by unfold vQ;rw[hw,hp];rfl
  rw[hw]at ap1;rw[hp]at ap2;rw[hB,if_neg (by decide)];clear apc hpre hw hp hB;have gprs_c68:=aeg;have gprs_c33:=afI;have gprs_c134:=abW;exact wlkF
 |true=>
  have hB:vQ w pats=true:=by unfold vQ;rw[hw,hp];rfl
  have hok:=mX (pats:=pats) hw;obtain⟨-,hw1,hw2⟩:=aH hw;rw[hw]at ap1;rw[hp]at ap2;rw[hB,if_pos rfl]at apc;rw[hB,if_pos rfl];unfold acz;have hfr:=qw hok hw1;generalize mJ w pats=pl at*;obtain⟨hl,hat⟩:=hok;unfold ptR;have hpl:=abj w pl;clear hB hw hp hpre;have gprs_c68:=aeg;have gprs_c33:=afI;have gprs_c134:=abW;(refine wlk ?_;intros);refine aD (α:=Nat×Nat×Nat) mixed (fun z=>[(0,.val (.string w)),(5,.row z.2.1 1 0 (ptF w pl z.1).length),(6,.lst true 1 (pl.map pvN)),(7,iv (frK pl z.1)),(8,iv z.1)])
   (fun z=>[(z.2.1,9,1,(ptF w pl z.1).map pvS)]) (fun z=>z.2.2)
   (fun z=>z.1≤pl.length∧z.2.1<z.2.2) (fun z=>pl.length-z.1) (by kernel_rfl) (0,0,1) ⟨Nat.zero_le _,by simp⟩ ?_ ?_ rfl ?_
  ·simp(disch:=(first|omega|(simp only[push_cast];first|done|omega))) only[push_cast,↓reduceIte,Rq,Rb,Ra,Rs,Rt,ptF,frK,List.length_nil, *]
  ·simp(disch:=(first|omega|(simp only[push_cast];first|done|omega))) only[push_cast,↓reduceIte,Rq,Rb,Ra,Rs,Rt,ptF,List.map_nil, *]
  rintro⟨k,x,y⟩ ⟨hk,hxy⟩;dsimp only at hk hxy;have hlk:=hpl k;have hfk:=hfr k hk;by_cases h0:k<pl.length
  ·obtain⟨a1,a2⟩:=hat k h0
   have hn:ptF w pl (k+1)=ptF w pl k++[w.extract (frK pl k).toNat (pl[k]?.getD 0).toNat]:=rfl;have hf:=u6 pl k;replace hn:=Lib.hid hn;replace hf:=Lib.hid hf;generalize ptF w pl k=out at*;generalize frK pl k=fr at*;clear hat hpl hfr;(refine wlk ?_;intros);refine⟨(k+1,y+1,y+2),⟨by dsimp only;omega,by dsimp only;omega⟩,by dsimp only;omega,?_,?_,rfl⟩
   ·dsimp only
    rw[hn.out,hf.out];exact agr
   ·dsimp only
    rw[hn.out];exact agr
  ·obtain rfl:k=pl.length:=by omega
   generalize ptF w pl pl.length=out at*;generalize frK pl pl.length=fr at*;clear hat hpl hfr;exact wlkF
end
end Go.Proofs.YtmmafcjjlbgnkaaGreatDoor
