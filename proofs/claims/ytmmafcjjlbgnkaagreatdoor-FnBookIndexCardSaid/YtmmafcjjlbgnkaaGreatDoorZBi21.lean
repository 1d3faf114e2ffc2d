/- What the proof rests on, part 21: contracts of functions. No condition beyond what each states. -/
import Derived.Test.YtmmafcjjlbgnkaaGreatDoorZBi17
import Derived.Test.YtmmafcjjlbgnkaaGreatDoorZBi20
namespace Go.Proofs.YtmmafcjjlbgnkaaGreatDoor
open Go.RowKit
open Nat renaming reduceEqDiff→Rq,reduceBEq→Rb,reduceAdd→Ra,reduceSub→Rs
open Int renaming reduceToNat→Rt
set_option linter.all false
set_option maxHeartbeats 32000000
noncomputable section
def rn0:Rn:=(0,0)
section
variable {β:Type} {i:Nat}
theorem aDV {g:Rn→β} {l:List Rn} (h:i<l.length):Option.map g l[i]?=some (g ((l[i]?).getD rn0)):=by simp[h]
theorem aAK {l:List Rn} {a b:Int}:(l.map fun x=>PV.agg [.val (.int .i64 x.1),.val (.int .i64 x.2)]).set i (.agg [.val (.int .i64 a),.val (.int .i64 b)])=(l.set i (a,b)).map fun x=>PV.agg [.val (.int .i64 x.1),.val (.int .i64 x.2)]:=by rw[List.map_set]
end
attribute[push_cast]
 aDV aAK
abbrev pvR (x:Rn):PV:=.agg [.val (.int .i64 x.1),.val (.int .i64 x.2)]
def adR (l:List Int) (k:Nat) (R:List Rn):Prop:=R=iF (l.take k)
theorem aaz {l:List Int} (h:iX l=true) {i:Nat} (hi:i<l.length):1≤l[i]?.getD 0∧l[i]?.getD 0≤999:=((sI.1 h).1 i hi).1
theorem qZ {l:List Int} (h:iX l=true):l.length≤30:=(sI.1 h).2
theorem adR.zero (l:List Int):adR l 0 []:=rfl
theorem adR.last {l:List Int} {k:Nat} {R:List Rn} (h:adR l k R) (h0:0<k) (hk:k≤l.length):0<R.length∧∃a,R[R.length-1]?.getD rn0=(a,l[k-1]?.getD 0):=by obtain⟨R0,a,hR⟩:=nV (l.take (k-1)) (l[k-1]?.getD 0);rw[←iq (show k-1<l.length by omega),show k-1+1=k by omega]at hR;unfold adR at h;rw[h,hR];simp
theorem adR.start {l:List Int} {R:List Rn} (h:adR l 0 R) (h0:0<l.length):adR l 1 ([]++[(l[0]?.getD 0,l[0]?.getD 0)]):=by unfold adR;rw[iq h0];rfl
theorem adR.next {l:List Int} {k:Nat} {R:List Rn} (h:adR l k R) (h0:0<k) (hk:k<l.length):
 adR l (k+1) (if l[k-1]?.getD 0+1=l[k]?.getD 0 then R.set (R.length-1) ((R[R.length-1]?.getD rn0).1,l[k]?.getD 0)else R++[(l[k]?.getD 0,l[k]?.getD 0)]):=by
 obtain⟨R0,a,hR⟩:=nV (l.take (k-1)) (l[k-1]?.getD 0);rw[←iq (show k-1<l.length by omega),show k-1+1=k by omega]at hR;unfold adR at h⊢;rw[iq hk,jJ,hR,jr,h,hR];dsimp only
 split
 ·simp
 ·rfl
theorem ae8 (l:List Int):(iF l).length≤l.length:=by
 have key:∀n,∀l:List Int,l.length=n→(iF l).length≤l.length:=by
  intro n
  induction n with
  |zero=>intro l h;rw[List.eq_nil_of_length_eq_zero h];exact Nat.le_refl _
  |succ n ih=>
   intro l h;rcases List.eq_nil_or_concat l with h1|⟨l0,x,h1⟩
   ·subst h1;exact Nat.le_refl _
   ·rw[List.concat_eq_append]at h1
    subst h1;rw[List.length_append,List.length_singleton]at h⊢;have:=ih l0 (by omega);rw[jJ];unfold sQ;split
    ·rename_i r hr
     split
     ·rw[List.length_append,List.length_dropLast,List.length_singleton];omega
     ·rw[List.length_append,List.length_singleton];omega
    ·simp
 exact key _ l rfl
theorem agC {l:List Int} (h:∀x∈l,1≤x∧x≤999):∀r∈iF l,(1≤r.1∧r.1≤999)∧(1≤r.2∧r.2≤999):=by
 have key:∀n,∀l:List Int,l.length=n→(∀x∈l,1≤x∧x≤999)→∀r∈iF l,(1≤r.1∧r.1≤999)∧(1≤r.2∧r.2≤999):=by
  intro n
  induction n with
  |zero=>intro l h _ r hr;rw[List.eq_nil_of_length_eq_zero h]at hr;simp[iF]at hr
  |succ n ih=>
   intro l h hx r hr;rcases List.eq_nil_or_concat l with h1|⟨l0,x,h1⟩
   ·subst h1;simp[iF]at hr
   ·rw[List.concat_eq_append]at h1
    subst h1;rw[List.length_append,List.length_singleton]at h;have ih:=ih l0 (by omega) fun y hy=>hx y (List.mem_append.2 (.inl hy));have hxx:=hx x (by simp);rw[jJ]at hr;rcases List.eq_nil_or_concat (iF l0)with h2|⟨R,z,h2⟩
    ·rw[h2]at hr
     simp only[sQ,List.getLast?_nil,List.mem_singleton]at hr;subst hr;exact⟨hxx,hxx⟩
    ·rw[List.concat_eq_append]at h2
     rw[h2]at hr ih;rw[jr]at hr;have hz:=ih z (by simp);split at hr
     ·rcases List.mem_append.1 hr with hr|hr
      ·exact ih r (List.mem_append.2 (.inl hr))
      ·simp only[List.mem_singleton]at hr
       subst hr;exact⟨hz.1,hxx⟩
     ·rcases List.mem_append.1 hr with hr|hr
      ·exact ih r hr
      ·simp only[List.mem_singleton]at hr
       subst hr;exact⟨hxx,hxx⟩
 exact key _ l rfl h
theorem jc {n:Int} (h:0≤n) (h2:n≤9999):(jR n).size≤4:=by
 have e:(jR n).size=Lib.nDigits n.toNat:=by unfold jR Lib.itoa;rw[if_neg (by omega),←Lib.decDigits_length];rfl
 rw[e];by_cases h1:n.toNat<10
 ·rw[Lib.nDigits_small h1];omega
 ·rw[Lib.nDigits_big h1]
  by_cases h3:n.toNat/10<10
  ·rw[Lib.nDigits_small h3];omega
  ·rw[Lib.nDigits_big h3]
   by_cases h4:n.toNat/10/10<10
   ·rw[Lib.nDigits_small h4];omega
   ·rw[Lib.nDigits_big h4,Lib.nDigits_small (by omega)];omega
theorem runT_size {a b:Int} (h:(0≤a∧a≤9999)∧0≤b∧b≤9999):(runT (a,b)).size≤9:=by
 have h1:=jc h.1.1 h.1.2;have h2:=jc h.2.1 h.2.2;unfold runT;split
 ·dsimp only;omega
 ·rw[ByteArray.size_append,ByteArray.size_append]
  have:(⟨#[45]⟩:ByteArray).size=1:=rfl;dsimp only
  omega
theorem ajw {r:Rn} (h:(0≤r.1∧r.1≤9999)∧0≤r.2∧r.2≤9999):(runT r).size≤9:=runT_size h
def agA:Fun:=F2 dI dI fun a b=>if(0≤a∧a≤9999)∧0≤b∧b≤9999 then some (.val (.string (runT (a,b))))else none
theorem am5 {a b:Int} (h:(0≤a∧a≤9999)∧0≤b∧b≤9999):agA [.val (.int .i64 a),.val (.int .i64 b)]=some (.val (.string (runT (a,b)))):=(jA (A:=dI) (B:=dI) a b).trans (if_pos h)
def GRt:Ctx:={fn:=aT [(39,ag3)],io:=aT []}
theorem az5:ak Tryz.prog GRt:=okΓ (fC Tryz.func39 axK aj) aj
def atw:=ah (Γ:=GRt) (f:=39) (φ:=ag3) rfl
theorem ajz:Sound Tryz.prog 117 agA:=by
 refine au mixed az5 Tryz.func117 rfl 16 rfl [.tmp 4] rfl (by kernel_rfl) fun ps r hr=>?_;obtain⟨a,b,rfl,hpre,rfl⟩:=iK hr;refine⟨by simp,?_⟩;simp only[dIs,dUs,dSs,dw,dx,dh,dA,aS,dz,aQ,aR,aO,aP];have ap1:=adF (n:=a) ⟨by omega,by omega⟩;have ap2:=adF (n:=b) ⟨by omega,by omega⟩;have h1:=jc hpre.1.1 hpre.1.2;have h2:=jc hpre.2.1 hpre.2.2;have hone:(⟨#[45]⟩:ByteArray).size=1:=rfl;unfold runT;by_cases hab:a=b
 ·rw[if_pos hab]
  have grt_c39:=atw;exact wlkF
 ·rw[if_neg hab]
  have grt_c39:=atw;exact wlkF
def ahs:Fun:=F1 dIs fun l=>if iX l=true then some (.lst true 2 ((iF l).map pvR))else none
theorem alF {l:List Int} (h:iX l=true):ahs [.lst false 1 (l.map fun n=> .val (.int .i64 n))]=some (.lst true 2 ((iF l).map pvR)):=(fM (A:=dIs) l).trans (if_pos h)
theorem alY:Sound Tryz.prog 116 ahs:=by
 refine gD mixed iL Tryz.func116 rfl 41 rfl [.tmp 2] rfl (by kernel_rfl) fun ps r hr=>?_;obtain⟨l,rfl,hpre,rfl⟩:=jy hr;refine⟨by simp,?_⟩;simp only[dIs,dUs,dSs,dw,dx,dh,dA,aS,dz,aQ,aR,aO,aP];have hlen:=qZ hpre;have hat:=fun i hi=>aaz hpre (i:=i) hi;clear hpre;(refine wlk ?_;intros);refine aD (α:=Nat×List Rn×Nat×Nat) mixed (fun s=>[(3,nP 2 (s.2.1.map pvR) s.2.2.1),(7,.lst false 1 (l.map fun n=> .val (.int .i64 n))),(8,iv l.length),(9,iv s.1)])
  (fun s=>nO 136 2 (s.2.1.map pvR) s.2.2.1) (fun s=>s.2.2.2)
  (fun s=>s.1≤l.length∧adR l s.1 s.2.1∧(0<s.2.1.length→s.2.2.1<s.2.2.2)) (fun s=>l.length-s.1) (by kernel_rfl) (0,[],0,0) ⟨Nat.zero_le _,adR.zero l,by simp⟩ ?_ ?_ rfl ?_
 ·exact agr
 ·exact agr
 rintro⟨k,R,x,y⟩ ⟨hk,hI,hxy⟩;dsimp only at hk hI hxy;have hRl:R.length≤30:=by have:=ae8 (l.take k);rw[←show R=iF (l.take k)from hI,List.length_take]at this;omega
 by_cases h0:k<l.length
 ·have hak:=hat k h0
  have hak1:=hat (k-1);clear hat;by_cases hk0:k=0
  ·subst hk0
   have hst:=Lib.hid (hI.start h0);have hR0:R=[]:=hI;subst hR0;clear hI hak1;(refine wlk ?_;intros);refine⟨(1,[]++[(l[0]?.getD 0,l[0]?.getD 0)],y+1,y+2),⟨by dsimp only;omega,hst.out,fun _=>by dsimp only;omega⟩,by dsimp only;omega,?_,?_,rfl⟩
   ·exact agr
   ·exact agr
  ·have hnx:=hI.next (by omega) h0
   obtain⟨hp,a,hla⟩:=hI.last (by omega) hk;rw[hla]at hnx;have hxy:=hxy hp;have hak1:=hak1 (by omega);have hap:0<(R.map pvR).length:=by rw[List.length_map];exact hp
   have hap2:0<((R.set (R.length-1) (a,l[k]?.getD 0)).map pvR).length:=by rw[List.length_map,List.length_set];exact hp
   have hap3:0<((R++[(l[k]?.getD 0,l[k]?.getD 0)]).map pvR).length:=by simp
   replace hI:=Lib.hid hI;by_cases hc:l[k-1]?.getD 0+1=l[k]?.getD 0
   ·rw[if_pos hc]at hnx
    replace hnx:=Lib.hid hnx;simp only[ay hap,aB hap,List.length_map];(refine wlk ?_;intros);refine⟨(k+1,R.set (R.length-1) (a,l[k]?.getD 0),x,y),⟨by dsimp only;omega,hnx.out,fun _=>hxy⟩,by dsimp only;omega,?_,?_,rfl⟩
    ·simp(disch:=(first|omega|(simp only[push_cast];first|done|omega))) only[push_cast,↓reduceIte,Rq,Rb,Ra,Rs,Rt,ay hap2,List.length_set,List.length_map, *]
    ·simp(disch:=(first|omega|(simp only[push_cast];first|done|omega))) only[push_cast,↓reduceIte,Rq,Rb,Ra,Rs,Rt,aB hap2, *]
   ·rw[if_neg hc]at hnx
    replace hnx:=Lib.hid hnx;simp only[ay hap,aB hap,List.length_map];(refine wlk ?_;intros);refine⟨(k+1,R++[(l[k]?.getD 0,l[k]?.getD 0)],y+1,y+2),⟨by dsimp only;omega,hnx.out,fun _=>by dsimp only;omega⟩,by dsimp only;omega,?_,?_,rfl⟩
    ·simp(disch:=(first|omega|(simp only[push_cast];first|done|omega))) only[push_cast,↓reduceIte,Rq,Rb,Ra,Rs,Rt,ay hap3,List.length_append, *]
    ·simp(disch:=(first|omega|(simp only[push_cast];first|done|omega))) only[push_cast,↓reduceIte,Rq,Rb,Ra,Rs,Rt,aB hap3,List.map_append,List.map_cons,List.map_nil, *]
 ·obtain rfl:k=l.length:=by omega
  have hR:iF l=R:=by unfold adR at hI;rw[hI,List.take_of_length_le (Nat.le_refl _)]
  rw[hR];clear hI hR hat;by_cases hR0:R.length=0
  ·obtain rfl:R=[]:=List.eq_nil_of_length_eq_zero hR0
   (refine wlk ?_;intros);all_goals((with_reducible apply bV (by first|exact .inl rfl|exact .inr rfl));(exact sr))
   all_goals exact nil_le _ _
  ·have hap:0<(R.map pvR).length:=by rw[List.length_map];omega
   have hxy:=hxy (by omega);simp only[ay hap,aB hap,List.length_map];(refine wlk ?_;intros);all_goals((with_reducible apply bV (by first|exact .inl rfl|exact .inr rfl));(exact sr))
   all_goals exact PV.le_refl _
theorem um {l:List Int} (h:∀x∈l,1≤x∧x≤999):(mW l).size≤11*l.length:=by
 have h1:=ae8 l;unfold mW;rw[aac,List.length_map];have h2:yY ((iF l).map runT)≤9*((iF l).map runT).length:=by
  have:=alB (l:=(iF l).map runT) (c:=9) fun i=>by
   by_cases hi:i<((iF l).map runT).length
   ·rw[List.getElem?_eq_getElem hi,Option.getD_some,List.getElem_map]
    have hr:=agC h _ (List.getElem_mem (l:=iF l) (n:=i) (by simpa using hi));exact ajw ⟨⟨by omega,by omega⟩,by omega,by omega⟩
   ·rw[List.getElem?_eq_none (by omega)]
    decide
  omega
 rw[List.length_map]at h2;have h3:csB.size=2:=rfl;rw[h3];omega
theorem wB {l:List Int} (h:iX l=true):∀x∈l,1≤x∧x≤999:=fun x hx=>by
 obtain⟨i,hi,rfl⟩:=List.getElem_of_mem hx;have:=aaz h hi
 rwa[List.getElem?_eq_getElem hi,Option.getD_some]at this
def φPt:Fun:=F1 dIs fun l=>if l.length≤1099511627776 then some (.val (.string (lK l)))else none
theorem aeu {l:List Int} (h:l.length≤1099511627776):φPt [.lst false 1 (l.map fun n=> .val (.int .i64 n))]=some (.val (.string (lK l))):=(fM (A:=dIs) l).trans (if_pos h)
def aa4:Fun:=axr 1 ahP
theorem aie {l:List ByteArray} {sep:ByteArray} (h:l.length≤1048576) (h2:(mg l sep).size≤140737488355328):aa4 [.lst false 1 (l.map fun s=> .val (.string s)),.val (.string sep)]=some (.val (.string (mg l sep))):=acE h h2
theorem afq:aa4 [.val (.slice none 0 0),.val (.string csB)]=some (.val (.string ⟨#[]⟩)):=acE (l:=[]) (by simp) (by rw[show mg [] csB=⟨#[]⟩from rfl];simp[ByteArray.size])
def aDl:Ctx:={fn:=aT [(115,l9),(116,ahs),(117,agA),(76,aa4)],io:=aT []}
theorem avV:ak Tryz.prog aDl:=okΓ (fC Tryz.func115 aav (fC Tryz.func116 alY (fC Tryz.func117 ajz (fC Tryz.func76 (axN.nil 1) aj)))) aj
def afL:=ah (Γ:=aDl) (f:=115) (φ:=l9) rfl
def ags:=ah (Γ:=aDl) (f:=116) (φ:=ahs) rfl
def agQ:=ah (Γ:=aDl) (f:=117) (φ:=agA) rfl
def anP:=ah (Γ:=aDl) (f:=76) (φ:=aa4) rfl
theorem ada:Sound Tryz.prog 86 φPt:=by
 refine au mixed avV Tryz.func86 rfl 27 rfl [.tmp 2] rfl (by kernel_rfl) fun ps r hr=>?_;obtain⟨l,rfl,hpre,rfl⟩:=jy hr;refine⟨by simp,?_⟩;simp only[dIs,dUs,dSs,dw,dx,dh,dA,aS,dz,aQ,aR,aO,aP];have ap1:=wN hpre;unfold lK;cases hB:iX l with
 |false=>rw[hB]at ap1;rw[if_neg (by decide)];clear hB;have gpgx_c115:=afL;have gpgx_c116:=ags;have gpgx_c117:=agQ;have gpgx_c76:=anP;exact wlkF
 |true=>
  have ap2:=alF hB;have hlen:=qZ hB;have hmem:=wB hB;have hsz:=um hmem;have hrl:=ae8 l;have hrn:∀i,i<(iF l).length→(0≤((iF l)[i]?.getD rn0).1∧((iF l)[i]?.getD rn0).1≤9999)∧0≤((iF l)[i]?.getD rn0).2∧((iF l)[i]?.getD rn0).2≤9999:=fun i hi=>by rw[List.getElem?_eq_getElem hi,Option.getD_some];have:=agC hmem _ (List.getElem_mem hi);omega
  rw[hB]at ap1;rw[if_pos rfl];unfold mW at hsz⊢;generalize iF l=R at*;have hcs:csB=⟨#[44,32]⟩:=rfl;rw[hcs]at hsz⊢;have apn:=afq;rw[hcs]at apn;have apj:=aie (l:=R.map runT) (sep:=⟨#[44,32]⟩) (by rw[List.length_map];omega) (by omega);have hJ0:R.length=0→mg (R.map runT) ⟨#[44,32]⟩=⟨#[]⟩:=fun h=>by rw[List.eq_nil_of_length_eq_zero h];rfl
  replace hJ0:=Lib.hid hJ0;generalize mg (R.map runT) ⟨#[44,32]⟩=J at*;clear hB hmem hcs;have gpgx_c115:=afL;have gpgx_c116:=ags;have gpgx_c117:=agQ;have gpgx_c76:=anP;(refine wlk ?_;intros);refine aD (α:=Nat×Nat×Nat) mixed (fun s=>[(3,nP 1 (((R.take s.1).map runT).map fun s=> .val (.string s)) s.2.1),(10,.lst true 2 (R.map pvR)),(11,iv R.length),(12,iv s.1)])
   (fun s=>nO 9 1 (((R.take s.1).map runT).map fun s=> .val (.string s)) s.2.1) (fun s=>s.2.2)
   (fun s=>s.1≤R.length∧(0<s.1→s.2.1<s.2.2)) (fun s=>R.length-s.1) (by kernel_rfl) (0,0,0) ⟨Nat.zero_le _,by simp⟩ ?_ ?_ rfl ?_
  ·exact agr
  ·exact agr
  rintro⟨k,x,y⟩ ⟨hk,hxy⟩;dsimp only at hk hxy;by_cases hkl:k<R.length
  ·have hr:=hrn k hkl
   have ap3:=am5 hr;have htk:(R.take (k+1)).map runT=(R.take k).map runT++[runT (R[k]?.getD rn0)]:=by rw[List.take_succ_eq_append_getElem hkl,List.map_append,List.getElem?_eq_getElem hkl];rfl
   have hts:=runT_size hr;have hp2:0<(((R.take (k+1)).map runT).map fun s=>PV.val (.string s)).length:=by rw[htk];simp
   have hln:((R.take k).map runT).length=k:=by rw[List.length_map,List.length_take];omega
   clear hrn;generalize hre:(R[k]?.getD rn0)=r at*;obtain⟨a,b⟩:=r;dsimp only at hr ap3;replace htk:=Lib.hid htk;have hln2:(((R.take (k+1)).map runT).map fun s=>PV.val (.string s)).length=k+1:=by rw[List.length_map,List.length_map,List.length_take];omega
   replace hln2:=Lib.hid hln2;have hes:=Lib.hid (show(((R.take (k+1)).map runT).map fun s=>PV.val (.string s))=(((R.take k).map runT).map fun s=>PV.val (.string s))++[PV.val (.string (runT (a,b)))]from by rw[htk.out,List.map_append];rfl);by_cases hk0:k=0
   ·subst hk0
    simp only[List.take_zero,List.map_nil,dM,cO];(refine wlk ?_;intros);refine⟨(1,y+2,y+3),⟨by dsimp only;omega,fun _=>by dsimp only;omega⟩,by dsimp only;omega,?_,?_,rfl⟩
    ·simp(disch:=(first|omega|(simp only[push_cast];first|done|omega))) only[push_cast,↓reduceIte,Rq,Rb,Ra,Rs,Rt,ay hp2,hln2.out, *]
    ·simp(disch:=(first|omega|(simp only[push_cast];first|done|omega))) only[push_cast,↓reduceIte,Rq,Rb,Ra,Rs,Rt,aB hp2,htk.out,List.take_zero,List.map_nil,List.map_cons,List.nil_append, *]
   ·have hxy:=hxy (by omega)
    have hap:0<(((R.take k).map runT).map fun s=>PV.val (.string s)).length:=by rw[List.length_map,hln];omega
    have hln3:(((R.take k).map runT).map fun s=>PV.val (.string s)).length=k:=by rw[List.length_map,hln]
    simp only[ay hap,aB hap,hln3];(refine wlk ?_;intros);refine⟨(k+1,y+2,y+3),⟨by dsimp only;omega,fun _=>by dsimp only;omega⟩,by dsimp only;omega,?_,?_,rfl⟩
    ·simp(disch:=(first|omega|(simp only[push_cast];first|done|omega))) only[push_cast,↓reduceIte,Rq,Rb,Ra,Rs,Rt,ay hp2,hln2.out, *]
    ·clear hre hln hln3
     simp(disch:=(first|omega|(simp only[push_cast];first|done|omega))) only[push_cast,↓reduceIte,Rq,Rb,Ra,Rs,Rt,aB hp2,hes.out, *]
  ·obtain rfl:k=R.length:=by omega
   rw[List.take_of_length_le (Nat.le_refl _)];by_cases hR0:R.length=0
   ·have hJ:=hJ0.out hR0
    subst hJ;obtain rfl:R=[]:=List.eq_nil_of_length_eq_zero hR0;simp only[List.map_nil,dM,cO];exact wlkF
   ·have hxy:=hxy (by omega)
    have hap:0<((R.map runT).map fun s=>PV.val (.string s)).length:=by rw[List.length_map,List.length_map];omega
    simp only[ay hap,aB hap];rw[List.length_map];exact wlkF
theorem af4 {l:List Int} {k:Nat}:∀e,k≤e→(∀j,k≤j→j<e→l[j+1]?.getD 0=l[j]?.getD 0+1)→l[e]?.getD 0=l[k]?.getD 0+(e-k:Nat)
 |0,h,_=>by
  obtain rfl:k=0:=by omega
  simp
 |e+1,h,hc=>by
  by_cases hk:k=e+1
  ·subst hk;simp
  ·rw[hc e (by omega) (by omega),af4 e (by omega) fun j h1 h2=>hc j h1 (by omega)]
   omega
theorem asD (a:Int):runT (a,a)=jR a:=if_pos rfl
theorem apE {a b:Int} (h:¬a=b):runT (a,b)=(jR a++⟨#[45]⟩)++jR b:=if_neg h
theorem af5 (a b c:ByteArray):a++(b++c)=(a++b)++c:=zY (by simp[ByteArray.data_append])
theorem asl {l:List Int} (h:∀x∈l,1≤x∧x≤999) (k:Nat):(mW (l.take k)).size≤11*l.length:=by have:=um (l:=l.take k) fun x hx=>h x (List.mem_of_mem_take hx);rw[List.length_take]at this;omega
def aEv:Ctx:={fn:=aT [(118,l9),(119,aqG)],io:=aT []}
theorem avm:ak Tryz.prog aEv:=okΓ (fC Tryz.func118 abH (fC Tryz.func119 az8 aj)) aj
def agl:=ah (Γ:=aEv) (f:=118) (φ:=l9) rfl
def afM:=ah (Γ:=aEv) (f:=119) (φ:=aqG) rfl
theorem anJ:Sound Tryz.prog 88 φPt:=by
 refine au mixed avm Tryz.func88 rfl 60 rfl [.tmp 2] rfl (by kernel_rfl) fun ps r hr=>?_;obtain⟨l,rfl,hpre,rfl⟩:=jy hr;refine⟨by simp,?_⟩;simp only[dIs,dUs,dSs,dw,dx,dh,dA,aS,dz,aQ,aR,aO,aP];have ap1:=wN hpre;unfold lK;cases hB:iX l with
 |false=>
  rw[hB]at ap1;rw[if_neg (by decide)];clear hB;have gspt_c118:=agl;have gspt_c119:=afM;(refine wlk ?_;intros);refine aD (α:=Unit) mixed (fun s=>[(0,.lst false 1 (l.map fun n=> .val (.int .i64 n))),(3,.val (.string ⟨#[]⟩)),(4,iv 0)]) (fun _=>[]) (fun _=>0)
   (fun _=>True) (fun _=>0) (by kernel_rfl) () trivial ?_ trivial rfl ?_
  ·exact agr
  rintro- -;exact wlkF
 |true=>
  have hlen:=qZ hB;have hmem:=wB hB;have hat:=fun i hi=>aaz hB (i:=i) hi;have hszk:=asl hmem;rw[hB]at ap1;rw[if_pos rfl];clear hB;have hrun:=fun(k e:Nat)=>aow (l:=l) (k:=k) (e:=e);have hpos:=fun(k:Nat) (h1:0<k) (h2:k≤l.length)=>aov (l:=l) (k:=k) h1 h2 fun j hj=>by have:=hat j hj;omega
  have htr:mW l=mW (l.take l.length):=by rw[List.take_of_length_le (Nat.le_refl _)]
  have ht0:mW []=⟨#[]⟩:=rfl;rw[htr];replace hrun:=Lib.hid hrun;replace hpos:=Lib.hid hpos;clear htr hmem;have gspt_c118:=agl;have gspt_c119:=afM;(refine wlk ?_;intros);refine aD (α:=Nat) mixed (fun k=>[(0,.lst false 1 (l.map fun n=> .val (.int .i64 n))),(3,.val (.string (mW (l.take k)))),(4,iv k)]) (fun _=>[]) (fun _=>0)
   (fun k=>k≤l.length∧(0<k→k<l.length→¬l[k-1]?.getD 0+1=l[k]?.getD 0)) (fun k=>l.length-k) (by kernel_rfl) 0 ⟨Nat.zero_le _,fun h=>by omega⟩ ?_ trivial rfl ?_
  ·simp(disch:=(first|omega|(simp only[push_cast];first|done|omega))) only[push_cast,↓reduceIte,Rq,Rb,Ra,Rs,Rt,ht0, *]
  clear ht0;rintro k ⟨hk,hb⟩;have hsk:=hszk k;replace hb:=Lib.hid hb;have hout0:k=0→mW (l.take k)=⟨#[]⟩:=fun h=>by subst h;rfl
  have houtp:0<k→¬mW (l.take k)=⟨#[]⟩:=fun h e=>by have:=hpos.out k h hk;rw[e]at this;simp[ByteArray.size]at this
  have hrk:=hrun.out k;replace hrk:=Lib.hid hrk;by_cases hkl:k<l.length
  ·have hak:=hat k hkl
   generalize mW (l.take k)=out at*;replace hout0:=Lib.hid hout0;replace houtp:=Lib.hid houtp;(refine wlk ?_;intros);refine aD (α:=Nat) mixed (fun e=>[(0,.lst false 1 (l.map fun n=> .val (.int .i64 n))),(3,.val (.string out)),(4,iv k),(5,iv e)]) (fun _=>[]) (fun _=>0)
    (fun e=>k≤e∧e<l.length∧∀j,k≤j→j<e→l[j+1]?.getD 0=l[j]?.getD 0+1) (fun e=>l.length-e) (by kernel_rfl) k ⟨Nat.le_refl _,hkl,fun j h1 h2=>by omega⟩ ?_ trivial rfl ?_
   ·exact agr
   rintro e ⟨he1,he2,hc⟩;have hae:=hat e he2;have hae1:=hat (e+1);clear hat;replace hc:=Lib.hid hc;by_cases hst:e+1<l.length∧l[e+1]?.getD 0=l[e]?.getD 0+1
   ·obtain⟨hst1,hst2⟩:=hst
    have hae1:=hae1 hst1;have hc2:=Lib.hid (show∀j,k≤j→j<e+1→l[j+1]?.getD 0=l[j]?.getD 0+1 from fun j h1 h2=>by
     by_cases hj:j<e
     ·exact hc.out j h1 hj
     ·obtain rfl:j=e:=by omega
      exact hst2)
    have hst3:decide (l[e+1]?.getD 0=l[e]?.getD 0+1)=true:=decide_eq_true hst2;clear hst2;(refine wlk ?_;intros);refine⟨e+1,⟨by omega,hst1,hc2.out⟩,by dsimp only;omega,?_,trivial,rfl⟩;exact agr
   ·have hex:=hrk.out e hkl (fun h=>hb.out h hkl) he1 he2 hc.out
    have hsz2:=hszk (e+1);have hup:=af4 e he1 hc.out;have hbn:=Lib.hid (show 0<e+1→e+1<l.length→¬l[e+1-1]?.getD 0+1=l[e+1]?.getD 0 from fun _ h1 h2=>hst ⟨h1,by rw[←h2];rfl⟩);have ap2:=agp (n:=l[k]?.getD 0) (by omega) (by omega);have ap3:=agp (n:=l[e]?.getD 0) (by omega) (by omega);have hz1:=jc (n:=l[k]?.getD 0) (by omega) (by omega);have hz2:=jc (n:=l[e]?.getD 0) (by omega) (by omega);have hstop:e+1<l.length→¬l[e+1]?.getD 0=l[e]?.getD 0+1:=fun h1 h2=>hst ⟨h1,h2⟩;have hae2:e+1<l.length→(1≤l[e+1]?.getD 0∧l[e+1]?.getD 0≤999):=hae1;clear hst hae1 hc hszk;have hcs:csB=⟨#[44,32]⟩:=rfl;have hcz:(⟨#[44,32]⟩:ByteArray).size=2:=rfl;have hone:(⟨#[45]⟩:ByteArray).size=1:=rfl;rw[hcs]at hex;clear hcs;by_cases hke:e=k
    ·subst hke
     rw[asD]at hex;clear hup;by_cases hk0:e=0
     ·have h0:=hout0.out hk0
      subst h0;rw[if_pos hk0]at hex;clear hk0;replace hex:=Lib.hid hex;by_cases hle:e+1<l.length
      ·have hs:=hstop hle
       have ha2:=hae2 hle;clear hstop hae2;(refine wlk ?_;intros);refine⟨e+1,⟨by omega,hbn.out⟩,by dsimp only;omega,?_,trivial,rfl⟩;simp(disch:=(first|omega|(simp only[push_cast];first|done|omega))) only[push_cast,↓reduceIte,Rq,Rb,Ra,Rs,Rt,hex.out, *]
      ·clear hstop hae2
       (refine wlk ?_;intros);refine⟨e+1,⟨by omega,hbn.out⟩,by dsimp only;omega,?_,trivial,rfl⟩;simp(disch:=(first|omega|(simp only[push_cast];first|done|omega))) only[push_cast,↓reduceIte,Rq,Rb,Ra,Rs,Rt,hex.out, *]
     ·have h0:=houtp.out (by omega)
      rw[if_neg hk0]at hex;replace hex:=Lib.hid hex;by_cases hle:e+1<l.length
      ·have hs:=hstop hle
       have ha2:=hae2 hle;clear hstop hae2;(refine wlk ?_;intros);refine⟨e+1,⟨by omega,hbn.out⟩,by dsimp only;omega,?_,trivial,rfl⟩;simp(disch:=(first|omega|(simp only[push_cast];first|done|omega))) only[push_cast,↓reduceIte,Rq,Rb,Ra,Rs,Rt,hex.out, *]
      ·clear hstop hae2
       (refine wlk ?_;intros);refine⟨e+1,⟨by omega,hbn.out⟩,by dsimp only;omega,?_,trivial,rfl⟩;simp(disch:=(first|omega|(simp only[push_cast];first|done|omega))) only[push_cast,↓reduceIte,Rq,Rb,Ra,Rs,Rt,hex.out, *]
    ·rw[apE (by omega),af5,af5]at hex
     have hkz:k<e:=by omega
     replace hup:=Lib.hid hup;by_cases hk0:k=0
     ·have h0:=hout0.out hk0
      subst h0;rw[if_pos hk0]at hex;clear hk0;replace hex:=Lib.hid hex;by_cases hle:e+1<l.length
      ·have hs:=hstop hle
       have ha2:=hae2 hle;clear hstop hae2;(refine wlk ?_;intros);refine⟨e+1,⟨by omega,hbn.out⟩,by dsimp only;omega,?_,trivial,rfl⟩;simp(disch:=(first|omega|(simp only[push_cast];first|done|omega))) only[push_cast,↓reduceIte,Rq,Rb,Ra,Rs,Rt,hex.out, *]
      ·clear hstop hae2
       (refine wlk ?_;intros);refine⟨e+1,⟨by omega,hbn.out⟩,by dsimp only;omega,?_,trivial,rfl⟩;simp(disch:=(first|omega|(simp only[push_cast];first|done|omega))) only[push_cast,↓reduceIte,Rq,Rb,Ra,Rs,Rt,hex.out, *]
     ·have h0:=houtp.out (by omega)
      rw[if_neg hk0]at hex;replace hex:=Lib.hid hex;by_cases hle:e+1<l.length
      ·have hs:=hstop hle
       have ha2:=hae2 hle;clear hstop hae2;(refine wlk ?_;intros);refine⟨e+1,⟨by omega,hbn.out⟩,by dsimp only;omega,?_,trivial,rfl⟩;simp(disch:=(first|omega|(simp only[push_cast];first|done|omega))) only[push_cast,↓reduceIte,Rq,Rb,Ra,Rs,Rt,hex.out, *]
      ·clear hstop hae2
       (refine wlk ?_;intros);refine⟨e+1,⟨by omega,hbn.out⟩,by dsimp only;omega,?_,trivial,rfl⟩;simp(disch:=(first|omega|(simp only[push_cast];first|done|omega))) only[push_cast,↓reduceIte,Rq,Rb,Ra,Rs,Rt,hex.out, *]
  ·obtain rfl:k=l.length:=by omega
   exact wlkF
def aoK (x:ByteArray):LS→LS
 |[]=>[x]
 |y::r=>if ltB x y=true then x::y::r else if ltB y x=true then y::aoK x r else y::r
theorem abd {x z:ByteArray}:∀{r:LS},z∈aoK x r↔z=x∨z∈r
 |[]=>by simp[aoK]
 |y::r=>by
  unfold aoK;split
  ·simp
  ·split
   ·rw[List.mem_cons,abd (r:=r),List.mem_cons]
    constructor
    ·rintro(h|h|h)
     ·exact .inr (.inl h)
     ·exact .inl h
     ·exact .inr (.inr h)
    ·rintro(h|h|h)
     ·exact .inr (.inl h)
     ·exact .inl h
     ·exact .inr (.inr h)
   ·rename_i h1 h2
    have:x=y:=by
     rcases ad2 x y with h|h|h
     ·exact absurd h h1
     ·exact h
     ·exact absurd h h2
    subst this;simp
abbrev Asc (l:LS):Prop:=l.Pairwise fun a b=>ltB a b=true
theorem agc {x:ByteArray}:∀{r:LS},Asc r→Asc (aoK x r)
 |[],_=>List.pairwise_singleton _ _
 |y::r,h=>by
  obtain⟨h1,h2⟩:=List.pairwise_cons.1 h;unfold aoK;split
  ·rename_i hx
   refine List.pairwise_cons.2 ⟨fun z hz=>?_,h⟩;rcases List.mem_cons.1 hz with rfl|hz
   ·exact hx
   ·exact rQ hx (h1 z hz)
  ·split
   ·rename_i hx hy
    refine List.pairwise_cons.2 ⟨fun z hz=>?_,agc h2⟩;rcases abd.1 hz with rfl|hz
    ·exact hy
    ·exact h1 z hz
   ·exact h
def aI (l:List W2):LS:=l.foldr (fun x r=>aoK x.1 r) []
theorem jM {l:List W2} {z:ByteArray}:z∈aI l↔∃x∈l,x.1=z:=by
 unfold aI
 induction l with
 |nil=>simp
 |cons y l ih=>
  rw[List.foldr_cons,abd,ih];simp only[List.mem_cons];constructor
  ·rintro(h|⟨x,h1,h2⟩)
   ·exact⟨y,.inl rfl,h.symm⟩
   ·exact⟨x,.inr h1,h2⟩
  ·rintro⟨x,h1|h1,h2⟩
   ·exact .inl (by rw[←h2,h1])
   ·exact .inr ⟨x,h1,h2⟩
theorem tF (l:List W2):Asc (aI l):=by
 unfold aI
 induction l with
 |nil=>exact List.Pairwise.nil
 |cons y l ih=>exact agc ih
theorem aCp {l l':LS} (h:Asc l) (h':Asc l') (hm:∀x,x∈l↔x∈l'):l=l':=
 uf (R:=fun a b:ByteArray=>ltB a b=true) (fun a q=>by rw[tu]at q;cases q) (fun _ _ _=>rQ) h h' hm
theorem ahC (x:ByteArray):∀r:LS,(aoK x r).length≤r.length+1
 |[]=>Nat.le_refl _
 |y::r=>by
  unfold aoK;split
  ·simp
  ·split
   ·have:=ahC x r
    simp only[List.length_cons];omega
   ·simp
theorem oG (l:List W2):(aI l).length≤l.length:=by
 unfold aI
 induction l with
 |nil=>exact Nat.le_refl _
 |cons y l ih=>have:=ahC y.1 (l.foldr (fun x r=>aoK x.1 r) []);rw[List.foldr_cons,List.length_cons];omega
def aqH (l:List W2) (w:ByteArray) (p:Int):Bool:=l.any fun x=>decide (x.1=w∧x.2=p)
def iC (l:List W2) (w:ByteArray) (n:Nat):List Int:=((List.range n).filter fun k:Nat=>aqH l w ((k:Int)+1)).map fun k:Nat=>(k:Int)+1
def ig (l:List W2) (w:ByteArray):List Int:=iC l w 999
theorem zB {l:List W2} {w:ByteArray} {n:Nat} (h:aqH l w ((n:Int)+1)=true):iC l w (n+1)=iC l w n++[(n:Int)+1]:=by simp[iC,List.range_succ,List.filter_append,h]
theorem adP {l:List W2} {w:ByteArray} {n:Nat} (h:aqH l w ((n:Int)+1)=false):iC l w (n+1)=iC l w n:=by simp[iC,List.range_succ,List.filter_append,h]
theorem oF {l:List W2} {w:ByteArray} {n:Nat} {p:Int}:p∈iC l w n↔(1≤p∧p≤n)∧∃x∈l,x.1=w∧x.2=p:=by
 unfold iC aqH;simp only[List.mem_map,List.mem_filter,List.mem_range,List.any_eq_true,decide_eq_true_eq];constructor
 ·rintro⟨k,⟨h1,x,h2,h3,h4⟩,rfl⟩
  exact⟨by omega,x,h2,h3,h4⟩
 ·rintro⟨h1,x,h2,h3,h4⟩
  exact⟨p.toNat-1,⟨by omega,x,h2,h3,by omega⟩,by omega⟩
theorem lq (l:List W2) (w:ByteArray):∀n,(iC l w n).Pairwise (· < ·)
 |0=>List.Pairwise.nil
 |n+1=>by
  cases h:aqH l w ((n:Int)+1)with
  |true=>rw[zB h,List.pairwise_append];refine⟨lq l w n,List.pairwise_singleton _ _,fun a ha b hb=>?_⟩;rw[List.mem_singleton.1 hb];have:=(oF.1 ha).1;omega
  |false=>rw[adP h];exact lq l w n
theorem ayx {l l':List Int} (h:l.Pairwise (· < ·)) (h':l'.Pairwise (· < ·)) (hm:∀x,x∈l↔x∈l'):l=l':=
 uf (R:=fun a b:Int=>a<b) (fun a=>Int.lt_irrefl a) (fun _ _ _=>Int.lt_trans) h h' hm
theorem acB:∀{l m:List Int},l.Nodup→(∀x∈l,x∈m)→l.length≤m.length
 |[],m,_,_=>Nat.zero_le _
 |x::l,m,h,hm=>by
  obtain⟨a,b,rfl⟩:=List.append_of_mem (hm x (by simp));obtain⟨h1,h2⟩:=List.nodup_cons.1 h;have:=acB (m:=a++b) h2 fun y hy=>by
   have h3:=hm y (by simp[hy]);rcases List.mem_append.1 h3 with h4|h4
   ·exact List.mem_append.2 (.inl h4)
   ·rcases List.mem_cons.1 h4 with h5|h5
    ·subst h5;exact absurd hy h1
    ·exact List.mem_append.2 (.inr h5)
  simp only[List.length_append,List.length_cons]at this⊢;omega
theorem ayt:∀{l:List Int} {m:List Int},l.Pairwise (· < ·)→(∀x∈l,x∈m)→l.length≤m.length:=by
 intro l m h hm;have hn:l.Nodup:=h.imp fun{a b} h e=>by omega
 exact acB hn hm
theorem lM {l:List W2} {w:ByteArray} {n:Nat}:(iC l w n).length≤l.length:=by
 have:=ayt (m:=l.map (·.2)) (lq l w n) fun x hx=>by obtain⟨-,y,h1,-,h2⟩:=oF.1 hx;exact List.mem_map.2 ⟨y,h1,h2⟩
 simpa using this
theorem nY {l:List W2} (h:l.length≤30) (w:ByteArray):iX (ig l w)=true:=by
 rw[sI];have hl:=@lM l w 999;have ha:=lq l w 999;have hm:∀p∈iC l w 999,1≤p∧p≤999:=fun p hp=>by have:=(oF.1 hp).1;omega
 unfold ig;generalize iC l w 999=P at*;refine⟨fun i hi=>⟨?_,fun h0=>?_⟩,by omega⟩
 ·rw[List.getElem?_eq_getElem hi,Option.getD_some]
  exact hm _ (List.getElem_mem hi)
 ·rw[List.getElem?_eq_getElem hi,List.getElem?_eq_getElem (show i-1<P.length by omega),Option.getD_some,Option.getD_some]
  exact List.pairwise_iff_getElem.1 ha (i-1) i (by omega) hi (by omega)
def kP (l:List W2) (w:ByteArray):ByteArray:=(w++⟨#[32]⟩)++lK (ig l w)
def uJ (l:List W2):LS:=(aI l).map (kP l)
def dX (l:List W2):LS:=if indexB l=true then uJ l else []
theorem oL {l:List W2}:indexB l=true↔l.length≤30∧∀x∈l,dn x.1=true∧1≤x.2∧x.2≤999:=by unfold indexB af8;simp only[Bool.and_eq_true,decide_eq_true_eq,Bool.not_eq_true',List.any_eq_false,Bool.or_eq_true,Bool.not_eq_true',not_or,Bool.not_eq_false,av]
structure uj (l:List W2) (last next:ByteArray) (k:Nat):Prop where
 none:next=⟨#[]⟩→∀j,j<k→ltB last (l[j]?.getD w0).1=false
 some:¬next=⟨#[]⟩→ltB last next=true∧(∃j,j<k∧(l[j]?.getD w0).1=next)∧∀j,j<k→ltB last (l[j]?.getD w0).1=true→ltB (l[j]?.getD w0).1 next=false
theorem uj.zero (l:List W2) (last:ByteArray):uj l last ⟨#[]⟩ 0:=⟨fun _ j hj=>by omega,fun h=>absurd rfl h⟩
theorem uj.keep {l:List W2} {last next:ByteArray} {k:Nat} (h:uj l last next k) (hc:ltB last (l[k]?.getD w0).1=false∨(¬next=⟨#[]⟩∧ltB (l[k]?.getD w0).1 next=false)):uj l last next (k+1):=by
 refine⟨fun e j hj=>?_,fun e=>?_⟩
 ·by_cases h1:j<k
  ·exact h.none e j h1
  ·obtain rfl:j=k:=by omega
   rcases hc with hc|hc
   ·exact hc
   ·exact absurd e hc.1
 ·obtain⟨h1,⟨i,h2,h3⟩,h4⟩:=h.some e
  refine⟨h1,⟨i,by omega,h3⟩,fun j hj hl=>?_⟩;by_cases h5:j<k
  ·exact h4 j h5 hl
  ·obtain rfl:j=k:=by omega
   rcases hc with hc|hc
   ·rw[hc]at hl;cases hl
   ·exact hc.2
theorem uj.take {l:List W2} {last next:ByteArray} {k:Nat} (h:uj l last next k) (h0:¬(l[k]?.getD w0).1=⟨#[]⟩) (h1:ltB last (l[k]?.getD w0).1=true) (h2:next=⟨#[]⟩∨ltB (l[k]?.getD w0).1 next=true):uj l last (l[k]?.getD w0).1 (k+1):=by
 refine⟨fun e=>absurd e h0,fun _=>⟨h1,⟨k,by omega,rfl⟩,fun j hj hl=>?_⟩⟩;by_cases h5:j<k
 ·rcases h2 with h2|h2
  ·have:=h.none h2 j h5
   rw[this]at hl;cases hl
  ·by_cases hn:next=⟨#[]⟩
   ·have:=h.none hn j h5
    rw[this]at hl;cases hl
   ·have h6:=(h.some hn).2.2 j h5 hl
    cases h7:ltB (l[j]?.getD w0).1 (l[k]?.getD w0).1 with
    |false=>rfl
    |true=>rw[rQ h7 h2]at h6;cases h6
 ·obtain rfl:j=k:=by omega
  exact tu _
theorem auA {a:ByteArray} (h:¬a=⟨#[]⟩):ltB ⟨#[]⟩ a=true:=by
 rcases ad2 ⟨#[]⟩ a with h1|h1|h1
 ·exact h1
 ·exact absurd h1.symm h
 ·unfold ltB at h1
  rw[show(⟨#[]⟩:ByteArray).data.toList=[]from rfl,agH]at h1;cases h1
theorem aEq {l:List W2} {j:Nat} (h:j<l.length):l[j]?.getD w0∈l:=by rw[List.getElem?_eq_getElem h,Option.getD_some];exact List.getElem_mem h
theorem uj.done {l:List W2} {k:Nat} {next:ByteArray} (hv:∀x∈l,¬x.1=⟨#[]⟩) (h:uj l (if k=0 then⟨#[]⟩else(aI l)[k-1]?.getD ⟨#[]⟩) next l.length) (hk:k≤(aI l).length):
 (next=⟨#[]⟩↔k=(aI l).length)∧(k<(aI l).length→next=(aI l)[k]?.getD ⟨#[]⟩):=by
 have ha:=tF l;have hm:∀z,z∈aI l↔∃x∈l,x.1=z:=fun z=>jM;generalize aI l=W at*;have hlast:∀i,k≤i→(hi:i<W.length)→ltB (if k=0 then⟨#[]⟩else W[k-1]?.getD ⟨#[]⟩) W[i]=true:=fun i h1 hi=>by
  split
  ·obtain⟨x,hx,he⟩:=(hm _).1 (List.getElem_mem hi)
   exact auA (by rw[←he];exact hv x hx)
  ·rw[List.getElem?_eq_getElem (show k-1<W.length by omega),Option.getD_some]
   exact List.pairwise_iff_getElem.1 ha (k-1) i (by omega) hi (by omega)
 have hfind:∀i,(hi:i<W.length)→∃j,j<l.length∧(l[j]?.getD w0).1=W[i]:=fun i hi=>by obtain⟨x,hx,he⟩:=(hm _).1 (List.getElem_mem hi);obtain⟨j,hj,rfl⟩:=List.getElem_of_mem hx;exact⟨j,hj,by rw[List.getElem?_eq_getElem hj,Option.getD_some];exact he⟩
 by_cases hn:next=⟨#[]⟩
 ·have hk2:k=W.length:=by
   rcases Nat.lt_or_ge k W.length with hlt|hge
   ·obtain⟨j,hj,he⟩:=hfind k hlt
    have h1:=h.none hn j hj;rw[he,hlast k (Nat.le_refl _) hlt]at h1;cases h1
   ·omega
  exact⟨⟨fun _=>hk2,fun _=>hn⟩,fun q=>by omega⟩
 ·obtain⟨h1,⟨j,hj,h2⟩,h3⟩:=h.some hn
  have hmem:next∈W:=(hm _).2 ⟨_,aEq hj,h2⟩
  obtain⟨i,hi,he⟩:=List.getElem_of_mem hmem;have hki:k≤i:=by
   rcases Nat.lt_or_ge i k with hlt|hge
   ·rw[if_neg (by omega),List.getElem?_eq_getElem (show k-1<W.length by omega),Option.getD_some,←he]at h1
    by_cases e:i=k-1
    ·subst e
     rw[tu]at h1;cases h1
    ·have:=List.pairwise_iff_getElem.1 ha i (k-1) hi (by omega) (by omega)
     rw[yI this]at h1;cases h1
   ·exact hge
  have hik:i=k:=by
   rcases Nat.lt_or_ge k i with hlt|hge
   ·obtain⟨j2,hj2,he2⟩:=hfind k (by omega)
    have h4:=h3 j2 hj2 (by rw[he2];exact hlast k (Nat.le_refl _) (by omega));have:=List.pairwise_iff_getElem.1 ha k i (by omega) hi hlt;rw[he2,←he,this]at h4;cases h4
   ·omega
  subst hik;refine⟨⟨fun q=>absurd q hn,fun q=>by omega⟩,fun _=>?_⟩;rw[List.getElem?_eq_getElem hi,Option.getD_some,he]
theorem akb:∀{a b x y:List UInt8},(∀c∈b,32<c.toNat)→BL a b=true→BL (a++32::x) (b++32::y)=true
 |_,[],_,_,_,h=>by rw[agH]at h;cases h
 |[],d::b,x,y,hb,_=>by rw[List.nil_append,List.cons_append,sU];exact .inl (hb d (by simp))
 |c::a,d::b,x,y,hb,h=>by
  rw[sU]at h;rw[List.cons_append,List.cons_append,sU];rcases h with h|⟨h1,h2⟩
  ·exact .inl h
  ·exact .inr ⟨h1,akb (fun c hc=>hb c (by simp[hc])) h2⟩
theorem zU (l:List W2) (w:ByteArray):(kP l w).data.toList=w.data.toList++32::(lK (ig l w)).data.toList:=by unfold kP;rw[ByteArray.data_append,Array.toList_append,ByteArray.data_append,Array.toList_append,List.append_assoc];rfl
theorem aru {s:ByteArray} {i:Nat} (h:i<s.size):at8 s i=((s.data.toList[i]'(by simpa using h)).toNat:Int):=by unfold at8;rw[getElem?_pos s i h];rfl
theorem ajF {s:ByteArray} (h:dn s=true):∀c∈s.data.toList,97≤c.toNat∧c.toNat≤122:=fun c hc=>by
 obtain⟨i,hi,rfl⟩:=List.getElem_of_mem hc;have hi2:i<s.size:=by simpa using hi
 unfold dn at h;rw[Bool.and_eq_true,List.all_eq_true]at h;have:=av.1 (h.1 i (List.mem_range.2 hi2));rw[aru hi2]at this;omega
theorem qc {l:List W2} (h:indexB l=true):∀w∈aI l,dn w=true:=fun w hw=>by obtain⟨x,hx,rfl⟩:=jM.1 hw;exact((oL.1 h).2 x hx).1
theorem awk {l:List W2} (h:indexB l=true) {k:Nat} (hk:k+1<(uJ l).length):ltB ((uJ l)[k]?.getD ⟨#[]⟩) ((uJ l)[k+1]?.getD ⟨#[]⟩)=true:=by unfold uJ at hk⊢;rw[List.length_map]at hk;rw[List.getElem?_map,List.getElem?_map,List.getElem?_eq_getElem hk,List.getElem?_eq_getElem (show k<(aI l).length by omega),Option.map_some,Option.map_some,Option.getD_some,Option.getD_some];have h1:=List.pairwise_iff_getElem.1 (tF l) k (k+1) (by omega) hk (by omega);unfold ltB at h1⊢;rw[zU,zU];exact akb (fun c hc=>by have:=ajF (qc h _ (List.getElem_mem hk)) c hc;omega) h1
theorem aqy (l:List W2):(uJ l).length≤l.length:=by unfold uJ;rw[List.length_map];exact oG l
theorem mH {P:List Int} (h:iX P=true):(lK P).size≤330:=by unfold lK;rw[if_pos h];have:=um (wB h);have:=qZ h;omega
theorem zF {l:List W2} (h:indexB l=true) {w:ByteArray} (hw:w∈aI l):(kP l w).size≤360:=by have h1:=(aH (qc h w hw)).2.2;have h2:=mH (nY (oL.1 h).1 w);unfold kP;rw[ByteArray.size_append,ByteArray.size_append,show(⟨#[32]⟩:ByteArray).size=1 from rfl];omega
def biB (p:List LS) (q:LS) (x y z:Int):Bool:=bpB p q x y z&&decide (p.flatten.length≤30)
def biV (p:List LS) (q:LS) (x y z:Int):LS:=if biB p q x y z=true then dX (idW (bpV p q x y z))else []
theorem ahz {α:Type} {l:List α}:∀{e:List Nat} {p:Nat} {r:List α},r∈lY l p e→∀x∈r,x∈l
 |[],p,r,h=>by simp[lY]at h
 |k::e,p,r,h=>by
  rw[lY]at h;rcases List.mem_cons.1 h with rfl|h
  ·exact fun x hx=>List.mem_of_mem_drop (List.mem_of_mem_take hx)
  ·exact ahz h
theorem ato {p:List LS} {q:LS} {x y z:Int} {r:LS} (h:r∈bpV p q x y z):∀s∈r,s∈blK p q x y p.length:=fun s hs=>by
 unfold bpV at h;split at h
 ·have h2:=ahz h s hs
  unfold blL at h2;split at h2
  ·exact h2
  ·simp at h2
 ·simp at h
theorem acj {p:List LS} {q:LS} {x y:Int}:∀k,∀s∈blK p q x y k,s.size≤2000
 |0,s,h=>by simp[blK]at h
 |k+1,s,h=>by
  rw[blK]at h;rcases List.mem_append.1 h with h|h
  ·exact acj k s h
  ·exact(aar _ _ _ _).2 s h
theorem am7 {l:List LS} {c:Nat} (h:∀x∈l,x.length≤c):(l.flatten).length≤l.length*c:=by
 induction l with
 |nil=>simp
 |cons x l ih=>have h1:=ih fun y hy=>h y (by simp[hy]);have h2:=h x (by simp);rw[List.flatten_cons,List.length_append,List.length_cons,Nat.succ_mul];omega
theorem qV {l:List LS} (k:Nat):((l.take k).flatten).length≤(l.flatten).length:=by
 conv=>rhs;rw[←List.take_append_drop k l,List.flatten_append,List.length_append]
 omega
theorem ayq {p:List LS} {q:LS} {x y z:Int} (h:blB p q x y z=true):rJ (blK p q x y p.length)=p.flatten:=by have:=af0 (p:=p) (q:=q) (x:=x) (y:=y) p.length (fun j hj=>aCF h hj) [];rw[List.append_nil]at this;unfold rJ;rw[this,List.take_length,show bN [] []=[]from rfl,List.append_nil,aoo]
structure BiF (p:List LS) (V:List LS):Prop where
 ok:∀r∈V,∀s∈r,jX (toL s)
 len:V.length≤30
 tot:V.flatten.length≤30
 sz:∀r∈V,∀s∈r,s.size≤2000
 all:rJ V.flatten=p.flatten
 pl:p.flatten.length≤6291456
theorem aak {p:List LS} {q:LS} {x y z:Int} (ho:ab8 p q) (hb:bpB p q x y z=true):BiF p (bpV p q x y z):=by
 obtain⟨hB,_,hF⟩:=asw hb;have hK:blL p q x y z=blK p q x y p.length:=if_pos hB;refine⟨fun r hr s hs=>am0 _ s (ato hr s hs),by rw[hF.len];exact hF.e30,by rw[hF.flat];exact hF.b30,fun r hr s hs=>acj _ s (ato hr s hs),by rw[hF.flat,hK];exact ayq hB,?_⟩;have h6:p.length≤6:=by unfold blB jg at hB;simp only[Bool.and_eq_true,decide_eq_true_eq]at hB;exact hB.1.2.1
 have:=am7 (l:=p) (c:=1048576) fun w hw=>by
  obtain⟨j,hj,rfl⟩:=List.getElem_of_mem hw;have:=(ho.2.1 j).1
  rwa[List.getElem?_eq_getElem hj,Option.getD_some]at this
 have:p.length*1048576≤6*1048576:=Nat.mul_le_mul_right _ h6;omega
section
variable {p V:List LS}
theorem BiF.wl (h:BiF p V) (k:Nat):aGb ((V.take k).flatten):=by
 have h1:=qV (l:=V) k;have h2:=h.tot;refine⟨by omega,?_⟩;have:=alB (l:=(V.take k).flatten) (c:=2000) fun i=>by
  by_cases hi:i<((V.take k).flatten).length
  ·rw[List.getElem?_eq_getElem hi,Option.getD_some]
   have hm:=List.getElem_mem hi;obtain⟨r,hr,hs⟩:=List.mem_flatten.1 hm;exact h.sz r (List.mem_of_mem_take hr) _ hs
  ·rw[List.getElem?_eq_none (by omega)]
   decide
 have:((V.take k).flatten).length*2000≤30*2000:=Nat.mul_le_mul_right _ (by omega);omega
theorem BiF.last (h:BiF p V):kX V V.length=p.flatten.length:=by unfold kX;rw[List.take_length,h.all]
theorem BiF.mono (h:BiF p V):∀{k},k≤V.length→kX V k≤p.flatten.length:=by
 have key:∀n k,n=V.length-k→k≤V.length→kX V k≤p.flatten.length:=fun n=>by
  induction n with
  |zero=>
   intro k hn hk;obtain rfl:k=V.length:=by omega
   rw[h.last];exact Nat.le_refl _
  |succ n ih=>intro k hn hk;exact Nat.le_trans (cnt_mono h.ok (by omega)) (ih (k+1) (by omega) (by omega))
 exact fun{k} hk=>key _ k rfl hk
end
def stW (W:List W2) (tx:LS):Nat→List W2
 |0=>W
 |j+1=>(stW W tx j).set j (tx[j]?.getD .empty,(W[j]?.getD w0).2)
theorem aaP (W:List W2) (tx:LS):∀j,(stW W tx j).length=W.length
 |0=>rfl
 |j+1=>by rw[stW,List.length_set,aaP W tx j]
theorem auc {W:List W2} {tx:LS}:∀{j i:Nat},j≤i→(stW W tx j)[i]?=W[i]?
 |0,i,_=>rfl
 |j+1,i,h=>by rw[stW,List.getElem?_set,if_neg (by omega)];exact auc (by omega)
theorem atZ {W:List W2} {tx:LS}:∀{j i:Nat},i<j→j≤W.length→(stW W tx j)[i]?=some (tx[i]?.getD .empty,(W[i]?.getD w0).2)
 |0,i,h,_=>by omega
 |j+1,i,h,h2=>by
  rw[stW,List.getElem?_set];by_cases e:j=i
  ·subst e
   rw[if_pos rfl,if_pos (by rw[aaP];omega)]
  ·rw[if_neg e]
   exact atZ (by omega) (by omega)
theorem avz {W:List W2} {tx:LS} (h:tx.length=W.length):stW W tx W.length=tx.zip (W.map (·.2)):=by
 apply List.ext_getElem?;intro i;by_cases hi:i<W.length
 ·have e1:tx[i]?=some (tx[i]'(by omega)):=List.getElem?_eq_getElem (by omega)
  have e2:W[i]?=some W[i]:=List.getElem?_eq_getElem hi;have e3:(W.map (·.2))[i]?=some W[i].2:=by rw[List.getElem?_map,e2];rfl
  have e4:(tx.zip (W.map (·.2)))[i]?=some (tx[i]'(by omega),W[i].2):=List.getElem?_zip_eq_some.2 ⟨e1,e3⟩;rw[atZ hi (Nat.le_refl _),e4,e1,e2];rfl
 ·rw[List.getElem?_eq_none (by rw[aaP];omega),List.getElem?_eq_none (by rw[List.length_zip];omega)]
theorem ayg {p V:List LS} (h:BiF p V):stW (swI V V.length) p.flatten (swI V V.length).length=idW V:=by have hl:=anm h.ok (Nat.le_refl V.length);rw[avz (by rw[hl,h.last]),ael];unfold idW;rw[h.all]
theorem ag0 {p V:List LS} {q:LS} (ho:ab8 p q) (h:BiF p V):okW (idW V):=by
 have hl:(idW V).length≤6291456:=by unfold idW;rw[List.length_zip,h.all];exact Nat.le_trans (Nat.min_le_left _ _) h.pl
 refine⟨by omega,fun i=>?_⟩;by_cases hi:i<(idW V).length
 ·rw[List.getElem?_eq_getElem hi,Option.getD_some]
  have hm:(idW V)[i]∈(rJ V.flatten).zip (alk V V.length):=List.getElem_mem hi;have hm:=(List.of_mem_zip hm).1;rw[h.all]at hm;obtain⟨w,hw,hs⟩:=List.mem_flatten.1 hm;obtain⟨j,hj,rfl⟩:=List.getElem_of_mem hw;obtain⟨m,hm2,e⟩:=List.getElem_of_mem hs;have h1:=(ho.2.1 j).2 m;rw[List.getElem?_eq_getElem hj,Option.getD_some,List.getElem?_eq_getElem hm2,Option.getD_some,e]at h1;exact Nat.le_trans h1 (by decide)
 ·rw[List.getElem?_eq_none (by omega)]
  decide
theorem sZ:∀(s w:List UInt8),(bN s w).length≤s.length+1∧∀x∈bN s w,x.length≤w.length+s.length
 |[],w=>by
  unfold bN;split
  ·exact⟨by simp,fun x hx=>by simp at hx⟩
  ·exact⟨by simp,fun x hx=>by rw[List.mem_singleton]at hx;rw[hx];simp⟩
 |b::l,w=>by
  unfold bN;split
  ·obtain⟨h1,h2⟩:=sZ l []
   split
   ·exact⟨by simp;omega,fun x hx=>by have:=h2 x (by simpa using hx);simp at this⊢;omega⟩
   ·refine⟨by simp;omega,fun x hx=>?_⟩
    rcases List.mem_cons.1 (by simpa using hx:x∈w::bN l [])with rfl|hx
    ·simp
    ·have:=h2 x hx
     simp at this⊢;omega
  ·obtain⟨h1,h2⟩:=sZ l (w++[b])
   refine⟨by simp;omega,fun x hx=>?_⟩;have:=h2 x hx;simp at this⊢;omega
theorem aox (s:List UInt8):(iW s).length≤s.length+1:=by
 unfold iW;split
 ·rw[List.length_take];omega
 ·simp
theorem zx:∀(l:List (List UInt8)) (c:Nat),(∀s∈l,s.length≤c)→(dW l).length≤l.length*(c+1)
 |[],c,_=>by simp[dW]
 |s::l,c,h=>by have ih:=zx l c fun x hx=>h x (by simp[hx]);have h1:=aox s;have h2:=h s (by simp);rw[dW,List.length_append,List.length_cons,Nat.succ_mul];omega
theorem zM {c:UInt8}:∀{l:List UInt8},∀w∈jq c l,w.length≤l.length
 |[],w,h=>by simp[jq]at h;simp[h]
 |b::l,w,h=>by
  unfold jq at h;have ih:=zM (c:=c) (l:=l);split at h
  ·rcases List.mem_cons.1 h with rfl|h
   ·simp
   ·have:=ih w h
    simp;omega
  ·split at h
   ·rename_i x t e
    rw[e]at ih;rcases List.mem_cons.1 h with rfl|h
    ·have:=ih x (by simp)
     simp;omega
    ·have:=ih w (by simp[h])
     simp;omega
   ·rw[List.mem_singleton]at h
    rw[h];simp
theorem oO (s:ByteArray):(toL s).length=s.size:=Array.length_toList
theorem ai3 {s p:ByteArray} (h:p∈eU 32 s):p.size≤s.size:=by rw[←oO,←oO];refine zM (c:=32) _ ?_;rw[←zI];exact List.mem_map.2 ⟨p,h,rfl⟩
theorem anj (p:ByteArray):(ado p).size≤p.size:=by
 rw[←oO,←oO];show(Lib.trimSuffix (toL p) [45]).length≤_;unfold Lib.trimSuffix;split
 ·rw[List.length_take];omega
 ·exact Nat.le_refl _
theorem ahN {pg:Int} {ins:Bool} {W:List W2} {ts:LS}:∀m,(adV pg ins W ts m).length≤W.length+m∧(0<m→(ins=true→0<W.length)→0<(adV pg ins W ts m).length)
 |0=>⟨Nat.le_refl _,fun h=>absurd h (Nat.lt_irrefl 0)⟩
 |m+1=>by
  obtain⟨h1,h2⟩:=ahN (pg:=pg) (ins:=ins) (W:=W) (ts:=ts) m;rw[adV];unfold auW;split
  ·rename_i hc
   refine⟨by rw[List.length_set];omega,fun _ hi=>?_⟩;rw[List.length_set];obtain rfl:m=0:=hc.1;exact hi hc.2
  ·exact⟨by rw[List.length_append,List.length_singleton];omega,fun _ _=>by simp⟩
theorem azA {p V:List LS} (h:BiF p V) {k j:Nat} (hk:k<V.length) (hj:j≤(V[k]?.getD []).length):(kg ((k:Int)+1) (j4 V k) (V[k]?.getD []) j).1.length≤70000∧((kg ((k:Int)+1) (j4 V k) (V[k]?.getD []) j).2=true→0<(kg ((k:Int)+1) (j4 V k) (V[k]?.getD []) j).1.length)∧∀i:Nat,((kg ((k:Int)+1) (j4 V k) (V[k]?.getD []) j).1[i]?.getD w0).1.size≤70000:=by
 obtain⟨h1,-,-⟩:=tQ h.ok k (by omega);have hm:V[k]?.getD []∈V:=by rw[List.getElem?_eq_getElem hk,Option.getD_some];exact List.getElem_mem hk
 obtain⟨k1,-,-⟩:=vU (pg:=(k:Int)+1) (W:=(j4 V k).1) (ins:=(j4 V k).2) (r:=V[k]?.getD []) h1 (h.ok _ hm) j hj;rw[←jL,←List.map_append]at k1;have hL:(dW (((V.take k).flatten++(V[k]?.getD []).take j).map toL)).length≤30*2001:=by
  refine Nat.le_trans (zx _ 2000 fun s hs=>?_) (Nat.mul_le_mul_right _ ?_)
  ·obtain⟨x,hx,rfl⟩:=List.mem_map.1 hs
   rw[oO];rcases List.mem_append.1 hx with hx|hx
   ·obtain⟨r,hr,hs⟩:=List.mem_flatten.1 hx
    exact h.sz r (List.mem_of_mem_take hr) _ hs
   ·exact h.sz _ hm _ (List.mem_of_mem_take hx)
  ·rw[List.length_map,List.length_append,List.length_take]
   have h2:=qV (l:=V) (k+1);rw[nU hk,List.length_append]at h2;have:=h.tot;omega
 have hst:kg ((k:Int)+1) ((j4 V k).1,(j4 V k).2) (V[k]?.getD []) j=kg ((k:Int)+1) (j4 V k) (V[k]?.getD []) j:=rfl;rw[hst]at k1;generalize kg ((k:Int)+1) (j4 V k) (V[k]?.getD []) j=st at*;generalize dW (((V.take k).flatten++(V[k]?.getD []).take j).map toL)=S at*;obtain⟨g1,g2⟩:=sZ S [];rw[k1.all]at g1 g2;rw[List.length_map]at g1;refine⟨by omega,fun hi=>?_,fun i=>?_⟩
 ·unfold oq at k1
  rw[if_pos hi]at k1;have:=k1.1;rcases Nat.eq_zero_or_pos st.1.length with h0|h0
  ·rw[List.eq_nil_of_length_eq_zero h0]at this
   exact absurd rfl this
  ·exact h0
 ·by_cases hi:i<st.1.length
  ·rw[List.getElem?_eq_getElem hi,Option.getD_some,←oO]
   have:=g2 (toL st.1[i].1) (List.mem_map.2 ⟨_,List.getElem_mem hi,rfl⟩);rw[List.length_nil]at this;exact Nat.le_trans this (by omega)
  ·rw[List.getElem?_eq_none (by omega)]
   exact Nat.zero_le _
theorem atc {V:List LS}:∀k,∀n∈alk V k,1≤n∧n≤(k:Int)
 |0,n,h=>by simp[alk]at h
 |k+1,n,h=>by
  rw[alk]at h;rcases List.mem_append.1 h with h|h
  ·have:=atc k n h
   omega
  ·have:=(List.mem_replicate.1 h).2
   omega
theorem afT {p V:List LS} {q:LS} {x y z:Int} (hB:jg p q x y z=true) (h:BiF p V):indexB (idW V)=decide (p.flatten.length≤30):=by
 have hl:(idW V).length=p.flatten.length:=by unfold idW;rw[List.length_zip,h.all,ahU h.ok (Nat.le_refl _),h.last,Nat.min_self]
 have hb:(idW V).any af8=false:=List.any_eq_false.2 fun e he=>by have hm:e∈(rJ V.flatten).zip (alk V V.length):=he;obtain⟨a,n⟩:=e;obtain⟨h1,h2⟩:=List.of_mem_zip hm;rw[h.all]at h1;have h3:=atc V.length n h2;have h4:=h.len;obtain⟨w,hw,hs⟩:=List.mem_flatten.1 h1;unfold jg at hB;rw[Bool.and_eq_true]at hB;have h5:=List.all_eq_true.1 hB.1 w hw;unfold aza bF at h5;simp only[Bool.and_eq_true]at h5;have hwd:dn a=true:=List.all_eq_true.1 (by first|exact h5.1|exact h5.1.1|exact h5.1.2) a hs;unfold af8;rw[hwd,av.2 ⟨h3.1,(by omega:n≤999)⟩];decide
 unfold indexB;rw[hl,hb];simp
def φIx:Fun:=F1 dWs fun l=>if okW l then some (.lst true 1 ((dX l).map fun s=> .val (.string s)))else none
theorem awG {l:List W2} (h:okW l):φIx [.lst false 2 (l.map fun x=> .agg [.val (.string x.1),.val (.int .i64 x.2)])]=some (.lst true 1 ((dX l).map fun s=> .val (.string s))):=(fM (A:=dWs) l).trans (if_pos h)
def amW (l:List W2) (k:Nat):ByteArray:=if k=0 then⟨#[]⟩else(aI l)[k-1]?.getD ⟨#[]⟩
theorem aqd {l:List W2} {k:Nat} (h:k<(aI l).length):(uJ l).take (k+1)=(uJ l).take k++[kP l ((aI l)[k]?.getD ⟨#[]⟩)]:=by unfold uJ;rw[List.map_take.symm,List.map_take.symm,List.take_succ_eq_append_getElem h,List.map_append,List.getElem?_eq_getElem h,Option.getD_some];rfl
def atb (l:List W2) (w:ByteArray) (p:Int) (j:Nat):Bool:=aqH (l.take j) w p
theorem amv {l:List W2} {w:ByteArray} {p:Int} {j:Nat} (h:j<l.length):atb l w p (j+1)=(atb l w p j||decide ((l[j]?.getD w0).1=w∧(l[j]?.getD w0).2=p)):=by unfold atb aqH;rw[List.take_succ_eq_append_getElem h,List.any_append,List.getElem?_eq_getElem h,Option.getD_some];simp
def aF0:Ctx:={fn:=aT [(87,eX),(88,φPt)],io:=aT []}
theorem ayr:ak Tryz.prog aF0:=okΓ (fC Tryz.func87 tC (fC Tryz.func88 anJ aj)) aj
def ana:=ah (Γ:=aF0) (f:=87) (φ:=eX) rfl
def amN:=ah (Γ:=aF0) (f:=88) (φ:=φPt) rfl
set_option maxRecDepth 100000 in
theorem anz:Sound Tryz.prog 48 φIx:=by
 refine au mixed ayr Tryz.func48 rfl 93 rfl [.tmp 2] rfl (by kernel_rfl) fun ps r hr=>?_;obtain⟨l,rfl,hpre,rfl⟩:=jy hr;refine⟨by simp,?_⟩;simp only[dIs,dUs,dSs,dw,dx,dh,dA,aS,dz,aQ,aR,aO,aP];have apv:=iP hpre;have hl0:=hpre.1;unfold dX;cases hv:indexB l with
 |false=>
  rw[hv]at apv;clear hpre hv;rw[if_neg (by decide)];have gixs_c87:=ana;have gixs_c88:=amN;(refine wlk ?_;intros);refine aD (α:=Unit) mixed (fun _=>[(0,.lst false 2 (l.map fun x=> .agg [.val (.string x.1),.val (.int .i64 x.2)])),(3,.row 0 1 0 0)]) (fun _=>[(0,9,1,[])]) (fun _=>1) (fun _=>True) (fun _=>0) (by kernel_rfl) () trivial ?_ ?_ rfl ?_
  ·exact agr
  ·exact agr
  rintro _ _;exact wlkF
 |true=>
  rw[hv]at apv;rw[if_pos rfl];obtain⟨hl30,hall⟩:=oL.1 hv;have hne:∀x∈l,¬x.1=⟨#[]⟩:=fun x hx e=>by have h1:=(aH (hall x hx).1).2.1;rw[e]at h1;exact absurd h1 (by decide)
  have hwl:=oG l;have hnx:=fun next (k:Nat) hk h=>uj.done (l:=l) (k:=k) (next:=next) hne h hk
  have hsz:∀j:Nat,(l[j]?.getD w0).1.size≤20:=fun j=>by
   by_cases hj:j<l.length
   ·exact(aH (hall _ (aEq hj)).1).2.2
   ·rw[List.getElem?_eq_none (by omega)];decide
  have hne2:∀j:Nat,j<l.length→¬(l[j]?.getD w0).1=⟨#[]⟩:=fun j hj=>hne _ (aEq hj);have hlz:∀k:Nat,k<(aI l).length→(kP l ((aI l)[k]?.getD ⟨#[]⟩)).size≤360∧((aI l)[k]?.getD ⟨#[]⟩).size≤20:=fun k hk=>by rw[List.getElem?_eq_getElem hk,Option.getD_some];exact⟨zF hv (List.getElem_mem hk),(aH (qc hv _ (List.getElem_mem hk))).2.2⟩
  have hpz:∀w,(lK (ig l w)).size≤330:=fun w=>mH (nY hl30 w);have apt:=fun w=>aeu (l:=ig l w) (by have:=@lM l w 999;show(iC l w 999).length≤_;omega);have hpl:=fun w n=>@lM l w n;clear hpre hv hall hne;replace hnx:=Lib.hid hnx;replace apt:=Lib.hid apt;replace hlz:=Lib.hid hlz;replace hpz:=Lib.hid hpz;have hil:(uJ l).length=(aI l).length:=by unfold uJ;rw[List.length_map]
  have gixs_c87:=ana;have gixs_c88:=amN;(refine wlk ?_;intros);refine aD (α:=Nat×Nat×Nat) mixed (fun i=>[(0,.lst false 2 (l.map fun x=> .agg [.val (.string x.1),.val (.int .i64 x.2)])),(3,.row i.2.1 1 0 i.1),(4,.val (.string (amW l i.1)))]) (fun i=>[(i.2.1,9,1,((uJ l).take i.1).map fun s=> .val (.string s))])
   (fun i=>i.2.2) (fun i=>i.1≤(aI l).length∧i.2.1<i.2.2) (fun i=>(aI l).length+1-i.1) (by kernel_rfl) (0,0,1) ⟨Nat.zero_le _,by decide⟩ ?_ ?_ rfl ?_
  ·have h0:amW l 0=⟨#[]⟩:=rfl
   exact agi
  ·have h0:(uJ l).take 0=[]:=rfl
   exact agr
  rintro⟨k,o,nx⟩ ⟨hk,ho⟩;dsimp only at hk ho;have hlen:((uJ l).take k).length=k:=by rw[List.length_take];omega
  generalize hLS:amW l k=last at*;replace hLS:=Lib.hid hLS;(refine wlk ?_;intros);refine aD (α:=Nat×ByteArray) mixed (fun i=>[(0,.lst false 2 (l.map fun x=> .agg [.val (.string x.1),.val (.int .i64 x.2)])),(3,.row o 1 0 k),(4,.val (.string last)),(5,.val (.string i.2)),(6,iv i.1)]) (fun i=>[(o,9,1,((uJ l).take k).map fun s=> .val (.string s))])
   (fun _=>nx) (fun i=>i.1≤l.length∧uj l last i.2 i.1) (fun i=>l.length-i.1) (by kernel_rfl) (0,⟨#[]⟩) ⟨Nat.zero_le _,uj.zero l last⟩ ?_ ?_ rfl ?_
  ·exact agi
  ·exact agr
  rintro⟨j,next⟩ ⟨hj,hN⟩;dsimp only at hj hN;replace hN:=Lib.hid hN;by_cases hjl:j<l.length
  ·have hnej:=hne2 j hjl
   have hkeep:=fun h=>hN.out.keep (k:=j) h;have htake:=fun h1 h2=>hN.out.take (k:=j) hnej h1 h2;replace hkeep:=Lib.hid hkeep;replace htake:=Lib.hid htake;generalize hxx:l[j]?.getD w0=xx at*;obtain⟨x1,x2⟩:=xx;dsimp only at hnej hkeep htake;clear hne2 hsz;cases c1:ltB last x1 with
   |false=>
    have hr:=Lib.hid (hkeep.out (.inl c1));(refine wlk ?_;intros);refine⟨(j+1,next),⟨by dsimp only;omega,hr.out⟩,by dsimp only;omega,?_,?_,rfl⟩
    ·exact agi
    ·exact agr
   |true=>
    by_cases c2:next=⟨#[]⟩
    ·have hr:=Lib.hid (htake.out c1 (.inl c2))
     subst c2;(refine wlk ?_;intros);refine⟨(j+1,x1),⟨by dsimp only;omega,hr.out⟩,by dsimp only;omega,?_,?_,rfl⟩
     ·exact agi
     ·exact agr
    ·cases c3:ltB x1 next with
     |false=>
      have hr:=Lib.hid (hkeep.out (.inr ⟨c2,c3⟩));(refine wlk ?_;intros);refine⟨(j+1,next),⟨by dsimp only;omega,hr.out⟩,by dsimp only;omega,?_,?_,rfl⟩
      ·exact agi
      ·exact agr
     |true=>
      have hr:=Lib.hid (htake.out c1 (.inr c3));(refine wlk ?_;intros);refine⟨(j+1,x1),⟨by dsimp only;omega,hr.out⟩,by dsimp only;omega,?_,?_,rfl⟩
      ·exact agi
      ·exact agr
  ·obtain rfl:j=l.length:=by omega
   have hd:=hnx.out next k hk (by have h1:=hN.out;rw[←hLS.out]at h1;exact h1)
   clear hne2;by_cases hkw:k=(aI l).length
   ·have hnn:=hd.1.2 hkw
    subst hnn;have ht:(uJ l).take k=uJ l:=List.take_of_length_le (by omega);rw[ht]at*;clear hd;subst hkw;exact wlkF
   ·have hnn:=hd.2 (by omega)
    have hn0:¬next=⟨#[]⟩:=fun e=>hkw (hd.1.1 e)
    have hlk:=hlz.out k (by omega);rw[←hnn]at hlk;have htk:=aqd (l:=l) (k:=k) (by omega);rw[←hnn]at htk;have hls:amW l (k+1)=next:=by unfold amW;rw[if_neg (by omega),Nat.add_sub_cancel];exact hnn.symm
    have hlu:kP l next=(next++⟨#[32]⟩)++lK (ig l next):=rfl
    have apn:=apt.out next
    have hpn:=hpz.out next
    have hplen:=hpl next 999
    replace htk:=Lib.hid htk;replace hls:=Lib.hid hls;replace hlu:=Lib.hid hlu;clear hd hnn hlz;(refine wlk ?_;intros);refine aD (α:=Nat×Nat×Nat) mixed (fun i=>[(0,.lst false 2 (l.map fun x=> .agg [.val (.string x.1),.val (.int .i64 x.2)])),(3,.row o 1 0 k),(5,.val (.string next)),(7,.row i.2.1 1 0 (iC l next i.1).length),(8,iv ((i.1:Int)+1))]) (fun i=>[(o,9,1,((uJ l).take k).map fun s=> .val (.string s)),(i.2.1,3,1,(iC l next i.1).map fun n=> .val (.int .i64 n))])
     (fun i=>i.2.2) (fun i=>i.1≤999∧o<i.2.1∧i.2.1<i.2.2) (fun i=>999-i.1) (by kernel_rfl) (0,nx,nx+1) ⟨Nat.zero_le _,ho,by dsimp only;omega⟩ ?_ ?_ rfl ?_
    ·have h0:(iC l next 0).length=0:=rfl
     exact agi
    ·have h0:iC l next 0=[]:=rfl
     exact agr
    rintro⟨n,q,ny⟩ ⟨hn,hq,hqn⟩;dsimp only at hn hq hqn;have hoq:¬o=q:=by omega
    have hqo:¬q=o:=by omega
    have hpn2:=hpl next n
    by_cases hn9:n<999
    ·have hyes:=fun h=>zB (l:=l) (w:=next) (n:=n) h
     have hno:=fun h=>adP (l:=l) (w:=next) (n:=n) h;replace hyes:=Lib.hid hyes;replace hno:=Lib.hid hno;(refine wlk ?_;intros);refine aD (α:=Nat) mixed (fun j=>[(0,.lst false 2 (l.map fun x=> .agg [.val (.string x.1),.val (.int .i64 x.2)])),(3,.row o 1 0 k),(5,.val (.string next)),(7,.row q 1 0 (iC l next n).length),(8,iv ((n:Int)+1)),(9,bv (atb l next ((n:Int)+1) j)),(10,iv j)]) (fun i=>[(o,9,1,((uJ l).take k).map fun s=> .val (.string s)),(q,3,1,(iC l next n).map fun n=> .val (.int .i64 n))])
      (fun _=>ny) (fun j=>j≤l.length) (fun j=>l.length-j) (by kernel_rfl) 0 (Nat.zero_le _) ?_ ?_ rfl ?_
     ·have h0:atb l next ((n:Int)+1) 0=false:=rfl
      exact agi
     ·exact agr
     intro j hj;by_cases hjl:j<l.length
     ·have hfs:=amv (w:=next) (p:=(n:Int)+1) hjl
      replace hfs:=Lib.hid hfs;generalize hxx:l[j]?.getD w0=xx at*;obtain⟨x1,x2⟩:=xx;generalize atb l next ((n:Int)+1) j=F at*
      cases F with
      |true=>
       (refine wlk ?_;intros);refine⟨j+1,by dsimp only;omega,by dsimp only;omega,?_,?_,rfl⟩
       ·dsimp only
        rw[hfs.out,Bool.true_or];exact agi
       ·exact agr
      |false=>
       by_cases c1:x1=next
       ·by_cases c2:x2=(n:Int)+1
        ·have hdd:decide (x1=next∧x2=(n:Int)+1)=true:=decide_eq_true ⟨c1,c2⟩
         replace hdd:=Lib.hid hdd;(refine wlk ?_;intros);refine⟨j+1,by dsimp only;omega,by dsimp only;omega,?_,?_,rfl⟩
         ·dsimp only
          rw[hfs.out,Bool.false_or];dsimp only
          rw[hdd.out];exact agi
         ·exact agr
        ·have hdd:decide (x1=next∧x2=(n:Int)+1)=false:=decide_eq_false fun e=>c2 e.2
         replace hdd:=Lib.hid hdd;(refine wlk ?_;intros);refine⟨j+1,by dsimp only;omega,by dsimp only;omega,?_,?_,rfl⟩
         ·dsimp only
          rw[hfs.out,Bool.false_or];dsimp only
          rw[hdd.out];exact agi
         ·exact agr
       ·have hdd:decide (x1=next∧x2=(n:Int)+1)=false:=decide_eq_false fun e=>c1 e.1
        replace hdd:=Lib.hid hdd;(refine wlk ?_;intros);refine⟨j+1,by dsimp only;omega,by dsimp only;omega,?_,?_,rfl⟩
        ·dsimp only
         rw[hfs.out,Bool.false_or];dsimp only
         rw[hdd.out];exact agi
        ·exact agr
     ·obtain rfl:j=l.length:=by omega
      have hfa:atb l next ((n:Int)+1) l.length=aqH l next ((n:Int)+1):=by unfold atb;rw[List.take_length]
      rw[hfa];cases hH:aqH l next ((n:Int)+1)with
      |true=>
       have hy:=hyes.out hH;replace hy:=Lib.hid hy;clear hyes hno hH hfa;(refine wlk ?_;intros);refine⟨(n+1,ny+1,ny+2),⟨by dsimp only;omega,by dsimp only;omega,by dsimp only;omega⟩,by dsimp only;omega,?_,?_,rfl⟩
       ·dsimp only
        rw[hy.out];exact agi
       ·dsimp only
        rw[hy.out];exact agr
      |false=>
       have hy:=hno.out hH;replace hy:=Lib.hid hy;clear hyes hno hH hfa;(refine wlk ?_;intros);refine⟨(n+1,q,ny),⟨by dsimp only;omega,by dsimp only;omega,by dsimp only;omega⟩,by dsimp only;omega,?_,?_,rfl⟩
       ·dsimp only
        rw[hy.out];exact agi
       ·dsimp only
        rw[hy.out];exact agr
    ·obtain rfl:n=999:=by omega
     have hpU:iC l next 999=ig l next:=rfl
     rw[hpU]at*;clear hpU;generalize ig l next=PU at*
     have h32:(⟨#[32]⟩:ByteArray).size=1:=rfl;(refine wlk ?_;intros);refine⟨(k+1,ny+1,ny+2),⟨by dsimp only;omega,by dsimp only;omega⟩,by dsimp only;omega,?_,?_,rfl⟩
     ·dsimp only
      rw[hls.out];exact agi
     ·dsimp only
      rw[htk.out,hlu.out];exact agr
end
end Go.Proofs.YtmmafcjjlbgnkaaGreatDoor
