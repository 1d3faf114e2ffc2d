/- What the proof rests on, part 19: contracts of functions. No condition beyond what each states. -/
import Derived.Test.YtmmafcjjlbgnkaaGreatDoorZBiE18
namespace Go.Proofs.YtmmafcjjlbgnkaaGreatDoor
open Go.RowKit
open Nat renaming reduceEqDiff→Rq,reduceBEq→Rb,reduceAdd→Ra,reduceSub→Rs
open Int renaming reduceToNat→Rt
set_option linter.all false
set_option maxHeartbeats 32000000
noncomputable section
def rn0:Rn:=(0,0)
section
variable {β:Type} {i:Nat}
theorem aDB {g:Rn→β} {l:List Rn} (h:i<l.length):Option.map g l[i]?=some (g ((l[i]?).getD rn0)):=by simp[h]
theorem aB7 {l:List Rn} {a b:Int}:(l.map fun x=>PV.agg [.val (.int .i64 x.1),.val (.int .i64 x.2)]).set i (.agg [.val (.int .i64 a),.val (.int .i64 b)])=(l.set i (a,b)).map fun x=>PV.agg [.val (.int .i64 x.1),.val (.int .i64 x.2)]:=by rw[List.map_set]
end
attribute[push_cast]
 aDB aB7
abbrev pvR (x:Rn):PV:=.agg [.val (.int .i64 x.1),.val (.int .i64 x.2)]
def adX (l:List Int) (k:Nat) (R:List Rn):Prop:=R=gH (l.take k)
theorem aa3 {l:List Int} (h:iA l=true) {i:Nat} (hi:i<l.length):1≤l[i]?.getD 0∧l[i]?.getD 0≤999:=((sG.1 h).1 i hi).1
theorem qp {l:List Int} (h:iA l=true):l.length≤30:=(sG.1 h).2
theorem adX.zero (l:List Int):adX l 0 []:=rfl
theorem adX.last {l:List Int} {k:Nat} {R:List Rn} (h:adX l k R) (h0:0<k) (hk:k≤l.length):0<R.length∧∃a,R[R.length-1]?.getD rn0=(a,l[k-1]?.getD 0):=by obtain⟨R0,a,hR⟩:=nK (l.take (k-1)) (l[k-1]?.getD 0);rw[←fP (show k-1<l.length by omega),show k-1+1=k by omega]at hR;unfold adX at h;rw[h,hR];simp
theorem adX.start {l:List Int} {R:List Rn} (h:adX l 0 R) (h0:0<l.length):adX l 1 ([]++[(l[0]?.getD 0,l[0]?.getD 0)]):=by unfold adX;rw[fP h0];rfl
theorem adX.next {l:List Int} {k:Nat} {R:List Rn} (h:adX l k R) (h0:0<k) (hk:k<l.length):
 adX l (k+1) (if l[k-1]?.getD 0+1=l[k]?.getD 0 then R.set (R.length-1) ((R[R.length-1]?.getD rn0).1,l[k]?.getD 0)else R++[(l[k]?.getD 0,l[k]?.getD 0)]):=by
 obtain⟨R0,a,hR⟩:=nK (l.take (k-1)) (l[k-1]?.getD 0);rw[←fP (show k-1<l.length by omega),show k-1+1=k by omega]at hR;unfold adX at h⊢;rw[fP hk,jl,hR,iW,h,hR];dsimp only
 split
 ·simp
 ·rfl
theorem afe (l:List Int):(gH l).length≤l.length:=by
 have key:∀n,∀l:List Int,l.length=n→(gH l).length≤l.length:=by
  intro n
  induction n with
  |zero=>intro l h;rw[List.eq_nil_of_length_eq_zero h];exact Nat.le_refl _
  |succ n ih=>
   intro l h;rcases List.eq_nil_or_concat l with h1|⟨l0,x,h1⟩
   ·subst h1;exact Nat.le_refl _
   ·rw[List.concat_eq_append]at h1
    subst h1;rw[List.length_append,List.length_singleton]at h⊢;have:=ih l0 (by omega);rw[jl];unfold r9;split
    ·rename_i r hr
     split
     ·rw[List.length_append,List.length_dropLast,List.length_singleton];omega
     ·rw[List.length_append,List.length_singleton];omega
    ·simp
 exact key _ l rfl
theorem agv {l:List Int} (h:∀x∈l,1≤x∧x≤999):∀r∈gH l,(1≤r.1∧r.1≤999)∧(1≤r.2∧r.2≤999):=by
 have key:∀n,∀l:List Int,l.length=n→(∀x∈l,1≤x∧x≤999)→∀r∈gH l,(1≤r.1∧r.1≤999)∧(1≤r.2∧r.2≤999):=by
  intro n
  induction n with
  |zero=>intro l h _ r hr;rw[List.eq_nil_of_length_eq_zero h]at hr;simp[gH]at hr
  |succ n ih=>
   intro l h hx r hr;rcases List.eq_nil_or_concat l with h1|⟨l0,x,h1⟩
   ·subst h1;simp[gH]at hr
   ·rw[List.concat_eq_append]at h1
    subst h1;rw[List.length_append,List.length_singleton]at h;have ih:=ih l0 (by omega) fun y hy=>hx y (List.mem_append.2 (.inl hy));have hxx:=hx x (by simp);rw[jl]at hr;rcases List.eq_nil_or_concat (gH l0)with h2|⟨R,z,h2⟩
    ·rw[h2]at hr
     simp only[r9,List.getLast?_nil,List.mem_singleton]at hr;subst hr;exact⟨hxx,hxx⟩
    ·rw[List.concat_eq_append]at h2
     rw[h2]at hr ih;rw[iW]at hr;have hz:=ih z (by simp);split at hr
     ·rcases List.mem_append.1 hr with hr|hr
      ·exact ih r (List.mem_append.2 (.inl hr))
      ·simp only[List.mem_singleton]at hr
       subst hr;exact⟨hz.1,hxx⟩
     ·rcases List.mem_append.1 hr with hr|hr
      ·exact ih r hr
      ·simp only[List.mem_singleton]at hr
       subst hr;exact⟨hxx,hxx⟩
 exact key _ l rfl h
theorem iH {n:Int} (h:0≤n) (h2:n≤9999):(jr n).size≤4:=by
 have e:(jr n).size=Lib.nDigits n.toNat:=by unfold jr Lib.itoa;rw[if_neg (by omega),←Lib.decDigits_length];rfl
 rw[e];by_cases h1:n.toNat<10
 ·rw[Lib.nDigits_small h1];omega
 ·rw[Lib.nDigits_big h1]
  by_cases h3:n.toNat/10<10
  ·rw[Lib.nDigits_small h3];omega
  ·rw[Lib.nDigits_big h3]
   by_cases h4:n.toNat/10/10<10
   ·rw[Lib.nDigits_small h4];omega
   ·rw[Lib.nDigits_big h4,Lib.nDigits_small (by omega)];omega
theorem runT_size {a b:Int} (h:(0≤a∧a≤9999)∧0≤b∧b≤9999):(runT (a,b)).size≤9:=by
 have h1:=iH h.1.1 h.1.2;have h2:=iH h.2.1 h.2.2;unfold runT;split
 ·dsimp only;omega
 ·rw[ByteArray.size_append,ByteArray.size_append]
  have:(⟨#[45]⟩:ByteArray).size=1:=rfl;dsimp only
  omega
theorem ais {r:Rn} (h:(0≤r.1∧r.1≤9999)∧0≤r.2∧r.2≤9999):(runT r).size≤9:=runT_size h
def aia:Fun:=F2 dI dI fun a b=>if(0≤a∧a≤9999)∧0≤b∧b≤9999 then some (.val (.string (runT (a,b))))else none
theorem aoP {a b:Int} (h:(0≤a∧a≤9999)∧0≤b∧b≤9999):aia [.val (.int .i64 a),.val (.int .i64 b)]=some (.val (.string (runT (a,b)))):=(fZ (A:=dI) (B:=dI) a b).trans (if_pos h)
def GRt:Ctx:={fn:=aT [(39,agn)],io:=aT []}
theorem aAB:au Tryz.prog GRt:=okΓ (fC Tryz.func39 ayK aj) aj
def aun:=ah (Γ:=GRt) (f:=39) (φ:=agn) rfl
theorem ajR:Sound Tryz.prog 117 aia:=by
 refine ak mixed aAB Tryz.func117 rfl 16 rfl [.tmp 4] rfl (by kernel_rfl) fun ps r hr=>?_;obtain⟨a,b,rfl,hpre,rfl⟩:=gN hr;refine⟨by simp,?_⟩;simp only[dIs,dUs,dSs,bP,bS,bQ,bT,aP,bR,aQ,aO,aR,aL];have ap1:=acJ (n:=a) ⟨by omega,by omega⟩;have ap2:=acJ (n:=b) ⟨by omega,by omega⟩;have h1:=iH hpre.1.1 hpre.1.2;have h2:=iH hpre.2.1 hpre.2.2;have hone:(⟨#[45]⟩:ByteArray).size=1:=rfl;unfold runT;by_cases hab:a=b
 ·rw[if_pos hab]
  have grt_c39:=aun;exact wlkF
 ·rw[if_neg hab]
  have grt_c39:=aun;exact wlkF
def ah4:Fun:=F1 dIs fun l=>if iA l=true then some (.lst true 2 ((gH l).map pvR))else none
theorem aoj {l:List Int} (h:iA l=true):ah4 [.lst false 1 (l.map fun n=> .val (.int .i64 n))]=some (.lst true 2 ((gH l).map pvR)):=(dY (A:=dIs) l).trans (if_pos h)
theorem amM:Sound Tryz.prog 116 ah4:=by
 refine gB mixed bV Tryz.func116 rfl 41 rfl [.tmp 2] rfl (by kernel_rfl) fun ps r hr=>?_;obtain⟨l,rfl,hpre,rfl⟩:=je hr;refine⟨by simp,?_⟩;simp only[dIs,dUs,dSs,bP,bS,bQ,bT,aP,bR,aQ,aO,aR,aL];have hlen:=qp hpre;have hat:=fun i hi=>aa3 hpre (i:=i) hi;clear hpre;(refine wlk ?_;intros);refine aB (α:=Nat×List Rn×Nat×Nat) mixed (fun s=>[(3,nP 2 (s.2.1.map pvR) s.2.2.1),(7,.lst false 1 (l.map fun n=> .val (.int .i64 n))),(8,iv l.length),(9,iv s.1)])
  (fun s=>nO 136 2 (s.2.1.map pvR) s.2.2.1) (fun s=>s.2.2.2)
  (fun s=>s.1≤l.length∧adX l s.1 s.2.1∧(0<s.2.1.length→s.2.2.1<s.2.2.2)) (fun s=>l.length-s.1) (by kernel_rfl) (0,[],0,0) ⟨Nat.zero_le _,adX.zero l,by simp⟩ ?_ ?_ rfl ?_
 ·exact agr
 ·exact agr
 rintro⟨k,R,x,y⟩ ⟨hk,hI,hxy⟩;dsimp only at hk hI hxy;have hRl:R.length≤30:=by have:=afe (l.take k);rw[←show R=gH (l.take k)from hI,List.length_take]at this;omega
 by_cases h0:k<l.length
 ·have hak:=hat k h0
  have hak1:=hat (k-1);clear hat;by_cases hk0:k=0
  ·subst hk0
   have hst:=Lib.hid (hI.start h0);have hR0:R=[]:=hI;subst hR0;clear hI hak1;(refine wlk ?_;intros);refine⟨(1,[]++[(l[0]?.getD 0,l[0]?.getD 0)],y+1,y+2),⟨by dsimp only;omega,hst.out,fun _=>by dsimp only;omega⟩,by dsimp only;omega,?_,?_,rfl⟩
   ·exact agr
   ·exact agr
  ·have hnx:=hI.next (by omega) h0
   obtain⟨hp,a,hla⟩:=hI.last (by omega) hk;rw[hla]at hnx;have hxy:=hxy hp;have hak1:=hak1 (by omega);have hap:0<(R.map pvR).length:=by rw[List.length_map];exact hp
   have hap2:0<((R.set (R.length-1) (a,l[k]?.getD 0)).map pvR).length:=by rw[List.length_map,List.length_set];exact hp
   have hap3:0<((R++[(l[k]?.getD 0,l[k]?.getD 0)]).map pvR).length:=by simp
   replace hI:=Lib.hid hI;by_cases hc:l[k-1]?.getD 0+1=l[k]?.getD 0
   ·rw[if_pos hc]at hnx
    replace hnx:=Lib.hid hnx;simp only[av hap,ay hap,List.length_map];(refine wlk ?_;intros);refine⟨(k+1,R.set (R.length-1) (a,l[k]?.getD 0),x,y),⟨by dsimp only;omega,hnx.out,fun _=>hxy⟩,by dsimp only;omega,?_,?_,rfl⟩
    ·simp(disch:=(first|omega|(simp only[push_cast];first|done|omega))) only[push_cast,↓reduceIte,Rq,Rb,Ra,Rs,Rt,av hap2,List.length_set,List.length_map, *]
    ·simp(disch:=(first|omega|(simp only[push_cast];first|done|omega))) only[push_cast,↓reduceIte,Rq,Rb,Ra,Rs,Rt,ay hap2, *]
   ·rw[if_neg hc]at hnx
    replace hnx:=Lib.hid hnx;simp only[av hap,ay hap,List.length_map];(refine wlk ?_;intros);refine⟨(k+1,R++[(l[k]?.getD 0,l[k]?.getD 0)],y+1,y+2),⟨by dsimp only;omega,hnx.out,fun _=>by dsimp only;omega⟩,by dsimp only;omega,?_,?_,rfl⟩
    ·simp(disch:=(first|omega|(simp only[push_cast];first|done|omega))) only[push_cast,↓reduceIte,Rq,Rb,Ra,Rs,Rt,av hap3,List.length_append, *]
    ·simp(disch:=(first|omega|(simp only[push_cast];first|done|omega))) only[push_cast,↓reduceIte,Rq,Rb,Ra,Rs,Rt,ay hap3,List.map_append,List.map_cons,List.map_nil, *]
 ·obtain rfl:k=l.length:=by omega
  have hR:gH l=R:=by unfold adX at hI;rw[hI,List.take_of_length_le (Nat.le_refl _)]
  rw[hR];clear hI hR hat;by_cases hR0:R.length=0
  ·obtain rfl:R=[]:=List.eq_nil_of_length_eq_zero hR0
   (refine wlk ?_;intros);all_goals((with_reducible apply cO (by first|exact .inl rfl|exact .inr rfl));(exact sr))
   all_goals exact nil_le _ _
  ·have hap:0<(R.map pvR).length:=by rw[List.length_map];omega
   have hxy:=hxy (by omega);simp only[av hap,ay hap,List.length_map];(refine wlk ?_;intros);all_goals((with_reducible apply cO (by first|exact .inl rfl|exact .inr rfl));(exact sr))
   all_goals exact PV.le_refl _
theorem sQ {l:List Int} (h:∀x∈l,1≤x∧x≤999):(mK l).size≤11*l.length:=by
 have h1:=afe l;unfold mK;rw[zC,List.length_map];have h2:zi ((gH l).map runT)≤9*((gH l).map runT).length:=by
  have:=aml (l:=(gH l).map runT) (c:=9) fun i=>by
   by_cases hi:i<((gH l).map runT).length
   ·rw[List.getElem?_eq_getElem hi,Option.getD_some,List.getElem_map]
    have hr:=agv h _ (List.getElem_mem (l:=gH l) (n:=i) (by simpa using hi));exact ais ⟨⟨by omega,by omega⟩,by omega,by omega⟩
   ·rw[List.getElem?_eq_none (by omega)]
    decide
  omega
 rw[List.length_map]at h2;have h3:csB.size=2:=rfl;rw[h3];omega
theorem wN {l:List Int} (h:iA l=true):∀x∈l,1≤x∧x≤999:=fun x hx=>by
 obtain⟨i,hi,rfl⟩:=List.getElem_of_mem hx;have:=aa3 h hi
 rwa[List.getElem?_eq_getElem hi,Option.getD_some]at this
def φPt:Fun:=F1 dIs fun l=>if l.length≤1099511627776 then some (.val (.string (mh l)))else none
theorem afa {l:List Int} (h:l.length≤1099511627776):φPt [.lst false 1 (l.map fun n=> .val (.int .i64 n))]=some (.val (.string (mh l))):=(dY (A:=dIs) l).trans (if_pos h)
def abg:Fun:=ayt 1 ahg
theorem ajU {l:List ByteArray} {sep:ByteArray} (h:l.length≤1048576) (h2:(lN l sep).size≤140737488355328):abg [.lst false 1 (l.map fun s=> .val (.string s)),.val (.string sep)]=some (.val (.string (lN l sep))):=ac2 h h2
theorem afy:abg [.val (.slice none 0 0),.val (.string csB)]=some (.val (.string ⟨#[]⟩)):=ac2 (l:=[]) (by simp) (by rw[show lN [] csB=⟨#[]⟩from rfl];simp[ByteArray.size])
def aCI:Ctx:={fn:=aT [(115,lH),(116,ah4),(117,aia),(76,abg)],io:=aT []}
theorem au0:au Tryz.prog aCI:=okΓ (fC Tryz.func115 ab4 (fC Tryz.func116 amM (fC Tryz.func117 ajR (fC Tryz.func76 (avh.nil 1) aj)))) aj
def afX:=ah (Γ:=aCI) (f:=115) (φ:=lH) rfl
def agB:=ah (Γ:=aCI) (f:=116) (φ:=ah4) rfl
def agf:=ah (Γ:=aCI) (f:=117) (φ:=aia) rfl
def al3:=ah (Γ:=aCI) (f:=76) (φ:=abg) rfl
theorem acQ:Sound Tryz.prog 86 φPt:=by
 refine ak mixed au0 Tryz.func86 rfl 27 rfl [.tmp 2] rfl (by kernel_rfl) fun ps r hr=>?_;obtain⟨l,rfl,hpre,rfl⟩:=je hr;refine⟨by simp,?_⟩;simp only[dIs,dUs,dSs,bP,bS,bQ,bT,aP,bR,aQ,aO,aR,aL];have ap1:=yB hpre;unfold mh;cases hB:iA l with
 |false=>rw[hB]at ap1;rw[if_neg (by decide)];clear hB;have gpgx_c115:=afX;have gpgx_c116:=agB;have gpgx_c117:=agf;have gpgx_c76:=al3;exact wlkF
 |true=>
  have ap2:=aoj hB;have hlen:=qp hB;have hmem:=wN hB;have hsz:=sQ hmem;have hrl:=afe l;have hrn:∀i,i<(gH l).length→(0≤((gH l)[i]?.getD rn0).1∧((gH l)[i]?.getD rn0).1≤9999)∧0≤((gH l)[i]?.getD rn0).2∧((gH l)[i]?.getD rn0).2≤9999:=fun i hi=>by rw[List.getElem?_eq_getElem hi,Option.getD_some];have:=agv hmem _ (List.getElem_mem hi);omega
  rw[hB]at ap1;rw[if_pos rfl];unfold mK at hsz⊢;generalize gH l=R at*;have hcs:csB=⟨#[44,32]⟩:=rfl;rw[hcs]at hsz⊢;have apn:=afy;rw[hcs]at apn;have apj:=ajU (l:=R.map runT) (sep:=⟨#[44,32]⟩) (by rw[List.length_map];omega) (by omega);have hJ0:R.length=0→lN (R.map runT) ⟨#[44,32]⟩=⟨#[]⟩:=fun h=>by rw[List.eq_nil_of_length_eq_zero h];rfl
  replace hJ0:=Lib.hid hJ0;generalize lN (R.map runT) ⟨#[44,32]⟩=J at*;clear hB hmem hcs;have gpgx_c115:=afX;have gpgx_c116:=agB;have gpgx_c117:=agf;have gpgx_c76:=al3;(refine wlk ?_;intros);refine aB (α:=Nat×Nat×Nat) mixed (fun s=>[(3,nP 1 (((R.take s.1).map runT).map fun s=> .val (.string s)) s.2.1),(10,.lst true 2 (R.map pvR)),(11,iv R.length),(12,iv s.1)])
   (fun s=>nO 9 1 (((R.take s.1).map runT).map fun s=> .val (.string s)) s.2.1) (fun s=>s.2.2)
   (fun s=>s.1≤R.length∧(0<s.1→s.2.1<s.2.2)) (fun s=>R.length-s.1) (by kernel_rfl) (0,0,0) ⟨Nat.zero_le _,by simp⟩ ?_ ?_ rfl ?_
  ·exact agr
  ·exact agr
  rintro⟨k,x,y⟩ ⟨hk,hxy⟩;dsimp only at hk hxy;by_cases hkl:k<R.length
  ·have hr:=hrn k hkl
   have ap3:=aoP hr;have htk:(R.take (k+1)).map runT=(R.take k).map runT++[runT (R[k]?.getD rn0)]:=by rw[List.take_succ_eq_append_getElem hkl,List.map_append,List.getElem?_eq_getElem hkl];rfl
   have hts:=runT_size hr;have hp2:0<(((R.take (k+1)).map runT).map fun s=>PV.val (.string s)).length:=by rw[htk];simp
   have hln:((R.take k).map runT).length=k:=by rw[List.length_map,List.length_take];omega
   clear hrn;generalize hre:(R[k]?.getD rn0)=r at*;obtain⟨a,b⟩:=r;dsimp only at hr ap3;replace htk:=Lib.hid htk;have hln2:(((R.take (k+1)).map runT).map fun s=>PV.val (.string s)).length=k+1:=by rw[List.length_map,List.length_map,List.length_take];omega
   replace hln2:=Lib.hid hln2;have hes:=Lib.hid (show(((R.take (k+1)).map runT).map fun s=>PV.val (.string s))=(((R.take k).map runT).map fun s=>PV.val (.string s))++[PV.val (.string (runT (a,b)))]from by rw[htk.out,List.map_append];rfl);by_cases hk0:k=0
   ·subst hk0
    simp only[List.take_zero,List.map_nil,bW,bU];(refine wlk ?_;intros);refine⟨(1,y+2,y+3),⟨by dsimp only;omega,fun _=>by dsimp only;omega⟩,by dsimp only;omega,?_,?_,rfl⟩
    ·simp(disch:=(first|omega|(simp only[push_cast];first|done|omega))) only[push_cast,↓reduceIte,Rq,Rb,Ra,Rs,Rt,av hp2,hln2.out, *]
    ·simp(disch:=(first|omega|(simp only[push_cast];first|done|omega))) only[push_cast,↓reduceIte,Rq,Rb,Ra,Rs,Rt,ay hp2,htk.out,List.take_zero,List.map_nil,List.map_cons,List.nil_append, *]
   ·have hxy:=hxy (by omega)
    have hap:0<(((R.take k).map runT).map fun s=>PV.val (.string s)).length:=by rw[List.length_map,hln];omega
    have hln3:(((R.take k).map runT).map fun s=>PV.val (.string s)).length=k:=by rw[List.length_map,hln]
    simp only[av hap,ay hap,hln3];(refine wlk ?_;intros);refine⟨(k+1,y+2,y+3),⟨by dsimp only;omega,fun _=>by dsimp only;omega⟩,by dsimp only;omega,?_,?_,rfl⟩
    ·simp(disch:=(first|omega|(simp only[push_cast];first|done|omega))) only[push_cast,↓reduceIte,Rq,Rb,Ra,Rs,Rt,av hp2,hln2.out, *]
    ·clear hre hln hln3
     simp(disch:=(first|omega|(simp only[push_cast];first|done|omega))) only[push_cast,↓reduceIte,Rq,Rb,Ra,Rs,Rt,ay hp2,hes.out, *]
  ·obtain rfl:k=R.length:=by omega
   rw[List.take_of_length_le (Nat.le_refl _)];by_cases hR0:R.length=0
   ·have hJ:=hJ0.out hR0
    subst hJ;obtain rfl:R=[]:=List.eq_nil_of_length_eq_zero hR0;simp only[List.map_nil,bW,bU];exact wlkF
   ·have hxy:=hxy (by omega)
    have hap:0<((R.map runT).map fun s=>PV.val (.string s)).length:=by rw[List.length_map,List.length_map];omega
    simp only[av hap,ay hap];rw[List.length_map];exact wlkF
theorem ahP {l:List Int} {k:Nat}:∀e,k≤e→(∀j,k≤j→j<e→l[j+1]?.getD 0=l[j]?.getD 0+1)→l[e]?.getD 0=l[k]?.getD 0+(e-k:Nat)
 |0,h,_=>by
  obtain rfl:k=0:=by omega
  simp
 |e+1,h,hc=>by
  by_cases hk:k=e+1
  ·subst hk;simp
  ·rw[hc e (by omega) (by omega),ahP e (by omega) fun j h1 h2=>hc j h1 (by omega)]
   omega
theorem aqQ (a:Int):runT (a,a)=jr a:=if_pos rfl
theorem arl {a b:Int} (h:¬a=b):runT (a,b)=(jr a++⟨#[45]⟩)++jr b:=if_neg h
theorem ahh (a b c:ByteArray):a++(b++c)=(a++b)++c:=aaf (by simp[ByteArray.data_append])
theorem asj {l:List Int} (h:∀x∈l,1≤x∧x≤999) (k:Nat):(mK (l.take k)).size≤11*l.length:=by have:=sQ (l:=l.take k) fun x hx=>h x (List.mem_of_mem_take hx);rw[List.length_take]at this;omega
def aEC:Ctx:={fn:=aT [(118,lH),(119,arJ)],io:=aT []}
theorem aw4:au Tryz.prog aEC:=okΓ (fC Tryz.func118 aaz (fC Tryz.func119 aAy aj)) aj
def ah6:=ah (Γ:=aEC) (f:=118) (φ:=lH) rfl
def aik:=ah (Γ:=aEC) (f:=119) (φ:=arJ) rfl
theorem an8:Sound Tryz.prog 88 φPt:=by
 refine ak mixed aw4 Tryz.func88 rfl 60 rfl [.tmp 2] rfl (by kernel_rfl) fun ps r hr=>?_;obtain⟨l,rfl,hpre,rfl⟩:=je hr;refine⟨by simp,?_⟩;simp only[dIs,dUs,dSs,bP,bS,bQ,bT,aP,bR,aQ,aO,aR,aL];have ap1:=yB hpre;unfold mh;cases hB:iA l with
 |false=>
  rw[hB]at ap1;rw[if_neg (by decide)];clear hB;have gspt_c118:=ah6;have gspt_c119:=aik;(refine wlk ?_;intros);refine aB (α:=Unit) mixed (fun s=>[(0,.lst false 1 (l.map fun n=> .val (.int .i64 n))),(3,.val (.string ⟨#[]⟩)),(4,iv 0)]) (fun _=>[]) (fun _=>0)
   (fun _=>True) (fun _=>0) (by kernel_rfl) () trivial ?_ trivial rfl ?_
  ·exact agr
  rintro- -;exact wlkF
 |true=>
  have hlen:=qp hB;have hmem:=wN hB;have hat:=fun i hi=>aa3 hB (i:=i) hi;have hszk:=asj hmem;rw[hB]at ap1;rw[if_pos rfl];clear hB;have hrun:=fun(k e:Nat)=>amR (l:=l) (k:=k) (e:=e);have hpos:=fun(k:Nat) (h1:0<k) (h2:k≤l.length)=>amD (l:=l) (k:=k) h1 h2 fun j hj=>by have:=hat j hj;omega
  have htr:mK l=mK (l.take l.length):=by rw[List.take_of_length_le (Nat.le_refl _)]
  have ht0:mK []=⟨#[]⟩:=rfl;rw[htr];replace hrun:=Lib.hid hrun;replace hpos:=Lib.hid hpos;clear htr hmem;have gspt_c118:=ah6;have gspt_c119:=aik;(refine wlk ?_;intros);refine aB (α:=Nat) mixed (fun k=>[(0,.lst false 1 (l.map fun n=> .val (.int .i64 n))),(3,.val (.string (mK (l.take k)))),(4,iv k)]) (fun _=>[]) (fun _=>0)
   (fun k=>k≤l.length∧(0<k→k<l.length→¬l[k-1]?.getD 0+1=l[k]?.getD 0)) (fun k=>l.length-k) (by kernel_rfl) 0 ⟨Nat.zero_le _,fun h=>by omega⟩ ?_ trivial rfl ?_
  ·simp(disch:=(first|omega|(simp only[push_cast];first|done|omega))) only[push_cast,↓reduceIte,Rq,Rb,Ra,Rs,Rt,ht0, *]
  clear ht0;rintro k ⟨hk,hb⟩;have hsk:=hszk k;replace hb:=Lib.hid hb;have hout0:k=0→mK (l.take k)=⟨#[]⟩:=fun h=>by subst h;rfl
  have houtp:0<k→¬mK (l.take k)=⟨#[]⟩:=fun h e=>by have:=hpos.out k h hk;rw[e]at this;simp[ByteArray.size]at this
  have hrk:=hrun.out k;replace hrk:=Lib.hid hrk;by_cases hkl:k<l.length
  ·have hak:=hat k hkl
   generalize mK (l.take k)=out at*;replace hout0:=Lib.hid hout0;replace houtp:=Lib.hid houtp;(refine wlk ?_;intros);refine aB (α:=Nat) mixed (fun e=>[(0,.lst false 1 (l.map fun n=> .val (.int .i64 n))),(3,.val (.string out)),(4,iv k),(5,iv e)]) (fun _=>[]) (fun _=>0)
    (fun e=>k≤e∧e<l.length∧∀j,k≤j→j<e→l[j+1]?.getD 0=l[j]?.getD 0+1) (fun e=>l.length-e) (by kernel_rfl) k ⟨Nat.le_refl _,hkl,fun j h1 h2=>by omega⟩ ?_ trivial rfl ?_
   ·exact agr
   rintro e ⟨he1,he2,hc⟩;have hae:=hat e he2;have hae1:=hat (e+1);clear hat;replace hc:=Lib.hid hc;by_cases hst:e+1<l.length∧l[e+1]?.getD 0=l[e]?.getD 0+1
   ·obtain⟨hst1,hst2⟩:=hst
    have hae1:=hae1 hst1;have hc2:=Lib.hid (show∀j,k≤j→j<e+1→l[j+1]?.getD 0=l[j]?.getD 0+1 from fun j h1 h2=>by
     by_cases hj:j<e
     ·exact hc.out j h1 hj
     ·obtain rfl:j=e:=by omega
      exact hst2)
    have hst3:decide (l[e+1]?.getD 0=l[e]?.getD 0+1)=true:=decide_eq_true hst2;clear hst2;(refine wlk ?_;intros);refine⟨e+1,⟨by omega,hst1,hc2.out⟩,by dsimp only;omega,?_,trivial,rfl⟩;exact agr
   ·have hex:=hrk.out e hkl (fun h=>hb.out h hkl) he1 he2 hc.out
    have hsz2:=hszk (e+1);have hup:=ahP e he1 hc.out;have hbn:=Lib.hid (show 0<e+1→e+1<l.length→¬l[e+1-1]?.getD 0+1=l[e+1]?.getD 0 from fun _ h1 h2=>hst ⟨h1,by rw[←h2];rfl⟩);have ap2:=ahA (n:=l[k]?.getD 0) (by omega) (by omega);have ap3:=ahA (n:=l[e]?.getD 0) (by omega) (by omega);have hz1:=iH (n:=l[k]?.getD 0) (by omega) (by omega);have hz2:=iH (n:=l[e]?.getD 0) (by omega) (by omega);have hstop:e+1<l.length→¬l[e+1]?.getD 0=l[e]?.getD 0+1:=fun h1 h2=>hst ⟨h1,h2⟩;have hae2:e+1<l.length→(1≤l[e+1]?.getD 0∧l[e+1]?.getD 0≤999):=hae1;clear hst hae1 hc hszk;have hcs:csB=⟨#[44,32]⟩:=rfl;have hcz:(⟨#[44,32]⟩:ByteArray).size=2:=rfl;have hone:(⟨#[45]⟩:ByteArray).size=1:=rfl;rw[hcs]at hex;clear hcs;by_cases hke:e=k
    ·subst hke
     rw[aqQ]at hex;clear hup;by_cases hk0:e=0
     ·have h0:=hout0.out hk0
      subst h0;rw[if_pos hk0]at hex;clear hk0;replace hex:=Lib.hid hex;by_cases hle:e+1<l.length
      ·have hs:=hstop hle
       have ha2:=hae2 hle;clear hstop hae2;(refine wlk ?_;intros);refine⟨e+1,⟨by omega,hbn.out⟩,by dsimp only;omega,?_,trivial,rfl⟩;simp(disch:=(first|omega|(simp only[push_cast];first|done|omega))) only[push_cast,↓reduceIte,Rq,Rb,Ra,Rs,Rt,hex.out, *]
      ·clear hstop hae2
       (refine wlk ?_;intros);refine⟨e+1,⟨by omega,hbn.out⟩,by dsimp only;omega,?_,trivial,rfl⟩;simp(disch:=(first|omega|(simp only[push_cast];first|done|omega))) only[push_cast,↓reduceIte,Rq,Rb,Ra,Rs,Rt,hex.out, *]
     ·have h0:=houtp.out (by omega)
      rw[if_neg hk0]at hex;replace hex:=Lib.hid hex;by_cases hle:e+1<l.length
      ·have hs:=hstop hle
       have ha2:=hae2 hle;clear hstop hae2;(refine wlk ?_;intros);refine⟨e+1,⟨by omega,hbn.out⟩,by dsimp only;omega,?_,trivial,rfl⟩;simp(disch:=(first|omega|(simp only[push_cast];first|done|omega))) only[push_cast,↓reduceIte,Rq,Rb,Ra,Rs,Rt,hex.out, *]
      ·clear hstop hae2
       (refine wlk ?_;intros);refine⟨e+1,⟨by omega,hbn.out⟩,by dsimp only;omega,?_,trivial,rfl⟩;simp(disch:=(first|omega|(simp only[push_cast];first|done|omega))) only[push_cast,↓reduceIte,Rq,Rb,Ra,Rs,Rt,hex.out, *]
    ·rw[arl (by omega),ahh,ahh]at hex
     have hkz:k<e:=by omega
     replace hup:=Lib.hid hup;by_cases hk0:k=0
     ·have h0:=hout0.out hk0
      subst h0;rw[if_pos hk0]at hex;clear hk0;replace hex:=Lib.hid hex;by_cases hle:e+1<l.length
      ·have hs:=hstop hle
       have ha2:=hae2 hle;clear hstop hae2;(refine wlk ?_;intros);refine⟨e+1,⟨by omega,hbn.out⟩,by dsimp only;omega,?_,trivial,rfl⟩;simp(disch:=(first|omega|(simp only[push_cast];first|done|omega))) only[push_cast,↓reduceIte,Rq,Rb,Ra,Rs,Rt,hex.out, *]
      ·clear hstop hae2
       (refine wlk ?_;intros);refine⟨e+1,⟨by omega,hbn.out⟩,by dsimp only;omega,?_,trivial,rfl⟩;simp(disch:=(first|omega|(simp only[push_cast];first|done|omega))) only[push_cast,↓reduceIte,Rq,Rb,Ra,Rs,Rt,hex.out, *]
     ·have h0:=houtp.out (by omega)
      rw[if_neg hk0]at hex;replace hex:=Lib.hid hex;by_cases hle:e+1<l.length
      ·have hs:=hstop hle
       have ha2:=hae2 hle;clear hstop hae2;(refine wlk ?_;intros);refine⟨e+1,⟨by omega,hbn.out⟩,by dsimp only;omega,?_,trivial,rfl⟩;simp(disch:=(first|omega|(simp only[push_cast];first|done|omega))) only[push_cast,↓reduceIte,Rq,Rb,Ra,Rs,Rt,hex.out, *]
      ·clear hstop hae2
       (refine wlk ?_;intros);refine⟨e+1,⟨by omega,hbn.out⟩,by dsimp only;omega,?_,trivial,rfl⟩;simp(disch:=(first|omega|(simp only[push_cast];first|done|omega))) only[push_cast,↓reduceIte,Rq,Rb,Ra,Rs,Rt,hex.out, *]
  ·obtain rfl:k=l.length:=by omega
   exact wlkF
def aoW (x:ByteArray):LS→LS
 |[]=>[x]
 |y::r=>if ltB x y=true then x::y::r else if ltB y x=true then y::aoW x r else y::r
theorem aa1 {x z:ByteArray}:∀{r:LS},z∈aoW x r↔z=x∨z∈r
 |[]=>by simp[aoW]
 |y::r=>by
  unfold aoW;split
  ·simp
  ·split
   ·rw[List.mem_cons,aa1 (r:=r),List.mem_cons]
    constructor
    ·rintro(h|h|h)
     ·exact .inr (.inl h)
     ·exact .inl h
     ·exact .inr (.inr h)
    ·rintro(h|h|h)
     ·exact .inr (.inl h)
     ·exact .inl h
     ·exact .inr (.inr h)
   ·rename_i h1 h2
    have:x=y:=by
     rcases ae3 x y with h|h|h
     ·exact absurd h h1
     ·exact h
     ·exact absurd h h2
    subst this;simp
abbrev Asc (l:LS):Prop:=l.Pairwise fun a b=>ltB a b=true
theorem ahG {x:ByteArray}:∀{r:LS},Asc r→Asc (aoW x r)
 |[],_=>List.pairwise_singleton _ _
 |y::r,h=>by
  obtain⟨h1,h2⟩:=List.pairwise_cons.1 h;unfold aoW;split
  ·rename_i hx
   refine List.pairwise_cons.2 ⟨fun z hz=>?_,h⟩;rcases List.mem_cons.1 hz with rfl|hz
   ·exact hx
   ·exact rD hx (h1 z hz)
  ·split
   ·rename_i hx hy
    refine List.pairwise_cons.2 ⟨fun z hz=>?_,ahG h2⟩;rcases aa1.1 hz with rfl|hz
    ·exact hy
    ·exact h1 z hz
   ·exact h
def aH (l:List W2):LS:=l.foldr (fun x r=>aoW x.1 r) []
theorem jk {l:List W2} {z:ByteArray}:z∈aH l↔∃x∈l,x.1=z:=by
 unfold aH
 induction l with
 |nil=>simp
 |cons y l ih=>
  rw[List.foldr_cons,aa1,ih];simp only[List.mem_cons];constructor
  ·rintro(h|⟨x,h1,h2⟩)
   ·exact⟨y,.inl rfl,h.symm⟩
   ·exact⟨x,.inr h1,h2⟩
  ·rintro⟨x,h1|h1,h2⟩
   ·exact .inl (by rw[←h2,h1])
   ·exact .inr ⟨x,h1,h2⟩
theorem zx (l:List W2):Asc (aH l):=by
 unfold aH
 induction l with
 |nil=>exact List.Pairwise.nil
 |cons y l ih=>exact ahG ih
theorem aC5 {l l':LS} (h:Asc l) (h':Asc l') (hm:∀x,x∈l↔x∈l'):l=l':=
 rV (R:=fun a b:ByteArray=>ltB a b=true) (fun a q=>by rw[sW]at q;cases q) (fun _ _ _=>rD) h h' hm
theorem ah5 (x:ByteArray):∀r:LS,(aoW x r).length≤r.length+1
 |[]=>Nat.le_refl _
 |y::r=>by
  unfold aoW;split
  ·simp
  ·split
   ·have:=ah5 x r
    simp only[List.length_cons];omega
   ·simp
theorem nZ (l:List W2):(aH l).length≤l.length:=by
 unfold aH
 induction l with
 |nil=>exact Nat.le_refl _
 |cons y l ih=>have:=ah5 y.1 (l.foldr (fun x r=>aoW x.1 r) []);rw[List.foldr_cons,List.length_cons];omega
def arD (l:List W2) (w:ByteArray) (p:Int):Bool:=l.any fun x=>decide (x.1=w∧x.2=p)
def gu (l:List W2) (w:ByteArray) (n:Nat):List Int:=((List.range n).filter fun k:Nat=>arD l w ((k:Int)+1)).map fun k:Nat=>(k:Int)+1
def gK (l:List W2) (w:ByteArray):List Int:=gu l w 999
theorem zq {l:List W2} {w:ByteArray} {n:Nat} (h:arD l w ((n:Int)+1)=true):gu l w (n+1)=gu l w n++[(n:Int)+1]:=by simp[gu,List.range_succ,List.filter_append,h]
theorem adu {l:List W2} {w:ByteArray} {n:Nat} (h:arD l w ((n:Int)+1)=false):gu l w (n+1)=gu l w n:=by simp[gu,List.range_succ,List.filter_append,h]
theorem om {l:List W2} {w:ByteArray} {n:Nat} {p:Int}:p∈gu l w n↔(1≤p∧p≤n)∧∃x∈l,x.1=w∧x.2=p:=by
 unfold gu arD;simp only[List.mem_map,List.mem_filter,List.mem_range,List.any_eq_true,decide_eq_true_eq];constructor
 ·rintro⟨k,⟨h1,x,h2,h3,h4⟩,rfl⟩
  exact⟨by omega,x,h2,h3,h4⟩
 ·rintro⟨h1,x,h2,h3,h4⟩
  exact⟨p.toNat-1,⟨by omega,x,h2,h3,by omega⟩,by omega⟩
theorem kP (l:List W2) (w:ByteArray):∀n,(gu l w n).Pairwise (· < ·)
 |0=>List.Pairwise.nil
 |n+1=>by
  cases h:arD l w ((n:Int)+1)with
  |true=>rw[zq h,List.pairwise_append];refine⟨kP l w n,List.pairwise_singleton _ _,fun a ha b hb=>?_⟩;rw[List.mem_singleton.1 hb];have:=(om.1 ha).1;omega
  |false=>rw[adu h];exact kP l w n
theorem avs {l l':List Int} (h:l.Pairwise (· < ·)) (h':l'.Pairwise (· < ·)) (hm:∀x,x∈l↔x∈l'):l=l':=
 rV (R:=fun a b:Int=>a<b) (fun a=>Int.lt_irrefl a) (fun _ _ _=>Int.lt_trans) h h' hm
theorem acu:∀{l m:List Int},l.Nodup→(∀x∈l,x∈m)→l.length≤m.length
 |[],m,_,_=>Nat.zero_le _
 |x::l,m,h,hm=>by
  obtain⟨a,b,rfl⟩:=List.append_of_mem (hm x (by simp));obtain⟨h1,h2⟩:=List.nodup_cons.1 h;have:=acu (m:=a++b) h2 fun y hy=>by
   have h3:=hm y (by simp[hy]);rcases List.mem_append.1 h3 with h4|h4
   ·exact List.mem_append.2 (.inl h4)
   ·rcases List.mem_cons.1 h4 with h5|h5
    ·subst h5;exact absurd hy h1
    ·exact List.mem_append.2 (.inr h5)
  simp only[List.length_append,List.length_cons]at this⊢;omega
theorem ayW:∀{l:List Int} {m:List Int},l.Pairwise (· < ·)→(∀x∈l,x∈m)→l.length≤m.length:=by
 intro l m h hm;have hn:l.Nodup:=h.imp fun{a b} h e=>by omega
 exact acu hn hm
theorem kI {l:List W2} {w:ByteArray} {n:Nat}:(gu l w n).length≤l.length:=by
 have:=ayW (m:=l.map (·.2)) (kP l w n) fun x hx=>by obtain⟨-,y,h1,-,h2⟩:=om.1 hx;exact List.mem_map.2 ⟨y,h1,h2⟩
 simpa using this
theorem nu {l:List W2} (h:l.length≤30) (w:ByteArray):iA (gK l w)=true:=by
 rw[sG];have hl:=@kI l w 999;have ha:=kP l w 999;have hm:∀p∈gu l w 999,1≤p∧p≤999:=fun p hp=>by have:=(om.1 hp).1;omega
 unfold gK;generalize gu l w 999=P at*;refine⟨fun i hi=>⟨?_,fun h0=>?_⟩,by omega⟩
 ·rw[List.getElem?_eq_getElem hi,Option.getD_some]
  exact hm _ (List.getElem_mem hi)
 ·rw[List.getElem?_eq_getElem hi,List.getElem?_eq_getElem (show i-1<P.length by omega),Option.getD_some,Option.getD_some]
  exact List.pairwise_iff_getElem.1 ha (i-1) i (by omega) hi (by omega)
def lQ (l:List W2) (w:ByteArray):ByteArray:=(w++⟨#[32]⟩)++mh (gK l w)
def yT (l:List W2):LS:=(aH l).map (lQ l)
def fT (l:List W2):LS:=if indexB l=true then yT l else []
theorem nQ {l:List W2}:indexB l=true↔l.length≤30∧∀x∈l,bY x.1=true∧1≤x.2∧x.2≤999:=by unfold indexB af5;simp only[Bool.and_eq_true,decide_eq_true_eq,Bool.not_eq_true',List.any_eq_false,Bool.or_eq_true,Bool.not_eq_true',not_or,Bool.not_eq_false,aD]
structure tO (l:List W2) (last next:ByteArray) (k:Nat):Prop where
 none:next=⟨#[]⟩→∀j,j<k→ltB last (l[j]?.getD w0).1=false
 some:¬next=⟨#[]⟩→ltB last next=true∧(∃j,j<k∧(l[j]?.getD w0).1=next)∧∀j,j<k→ltB last (l[j]?.getD w0).1=true→ltB (l[j]?.getD w0).1 next=false
theorem tO.zero (l:List W2) (last:ByteArray):tO l last ⟨#[]⟩ 0:=⟨fun _ j hj=>by omega,fun h=>absurd rfl h⟩
theorem tO.keep {l:List W2} {last next:ByteArray} {k:Nat} (h:tO l last next k) (hc:ltB last (l[k]?.getD w0).1=false∨(¬next=⟨#[]⟩∧ltB (l[k]?.getD w0).1 next=false)):tO l last next (k+1):=by
 refine⟨fun e j hj=>?_,fun e=>?_⟩
 ·by_cases h1:j<k
  ·exact h.none e j h1
  ·obtain rfl:j=k:=by omega
   rcases hc with hc|hc
   ·exact hc
   ·exact absurd e hc.1
 ·obtain⟨h1,⟨i,h2,h3⟩,h4⟩:=h.some e
  refine⟨h1,⟨i,by omega,h3⟩,fun j hj hl=>?_⟩;by_cases h5:j<k
  ·exact h4 j h5 hl
  ·obtain rfl:j=k:=by omega
   rcases hc with hc|hc
   ·rw[hc]at hl;cases hl
   ·exact hc.2
theorem tO.take {l:List W2} {last next:ByteArray} {k:Nat} (h:tO l last next k) (h0:¬(l[k]?.getD w0).1=⟨#[]⟩) (h1:ltB last (l[k]?.getD w0).1=true) (h2:next=⟨#[]⟩∨ltB (l[k]?.getD w0).1 next=true):tO l last (l[k]?.getD w0).1 (k+1):=by
 refine⟨fun e=>absurd e h0,fun _=>⟨h1,⟨k,by omega,rfl⟩,fun j hj hl=>?_⟩⟩;by_cases h5:j<k
 ·rcases h2 with h2|h2
  ·have:=h.none h2 j h5
   rw[this]at hl;cases hl
  ·by_cases hn:next=⟨#[]⟩
   ·have:=h.none hn j h5
    rw[this]at hl;cases hl
   ·have h6:=(h.some hn).2.2 j h5 hl
    cases h7:ltB (l[j]?.getD w0).1 (l[k]?.getD w0).1 with
    |false=>rfl
    |true=>rw[rD h7 h2]at h6;cases h6
 ·obtain rfl:j=k:=by omega
  exact sW _
theorem ax3 {a:ByteArray} (h:¬a=⟨#[]⟩):ltB ⟨#[]⟩ a=true:=by
 rcases ae3 ⟨#[]⟩ a with h1|h1|h1
 ·exact h1
 ·exact absurd h1.symm h
 ·unfold ltB at h1
  rw[show(⟨#[]⟩:ByteArray).data.toList=[]from rfl,anc]at h1;cases h1
theorem aEr {l:List W2} {j:Nat} (h:j<l.length):l[j]?.getD w0∈l:=by rw[List.getElem?_eq_getElem h,Option.getD_some];exact List.getElem_mem h
theorem tO.done {l:List W2} {k:Nat} {next:ByteArray} (hv:∀x∈l,¬x.1=⟨#[]⟩) (h:tO l (if k=0 then⟨#[]⟩else(aH l)[k-1]?.getD ⟨#[]⟩) next l.length) (hk:k≤(aH l).length):
 (next=⟨#[]⟩↔k=(aH l).length)∧(k<(aH l).length→next=(aH l)[k]?.getD ⟨#[]⟩):=by
 have ha:=zx l;have hm:∀z,z∈aH l↔∃x∈l,x.1=z:=fun z=>jk;generalize aH l=W at*;have hlast:∀i,k≤i→(hi:i<W.length)→ltB (if k=0 then⟨#[]⟩else W[k-1]?.getD ⟨#[]⟩) W[i]=true:=fun i h1 hi=>by
  split
  ·obtain⟨x,hx,he⟩:=(hm _).1 (List.getElem_mem hi)
   exact ax3 (by rw[←he];exact hv x hx)
  ·rw[List.getElem?_eq_getElem (show k-1<W.length by omega),Option.getD_some]
   exact List.pairwise_iff_getElem.1 ha (k-1) i (by omega) hi (by omega)
 have hfind:∀i,(hi:i<W.length)→∃j,j<l.length∧(l[j]?.getD w0).1=W[i]:=fun i hi=>by obtain⟨x,hx,he⟩:=(hm _).1 (List.getElem_mem hi);obtain⟨j,hj,rfl⟩:=List.getElem_of_mem hx;exact⟨j,hj,by rw[List.getElem?_eq_getElem hj,Option.getD_some];exact he⟩
 by_cases hn:next=⟨#[]⟩
 ·have hk2:k=W.length:=by
   rcases Nat.lt_or_ge k W.length with hlt|hge
   ·obtain⟨j,hj,he⟩:=hfind k hlt
    have h1:=h.none hn j hj;rw[he,hlast k (Nat.le_refl _) hlt]at h1;cases h1
   ·omega
  exact⟨⟨fun _=>hk2,fun _=>hn⟩,fun q=>by omega⟩
 ·obtain⟨h1,⟨j,hj,h2⟩,h3⟩:=h.some hn
  have hmem:next∈W:=(hm _).2 ⟨_,aEr hj,h2⟩
  obtain⟨i,hi,he⟩:=List.getElem_of_mem hmem;have hki:k≤i:=by
   rcases Nat.lt_or_ge i k with hlt|hge
   ·rw[if_neg (by omega),List.getElem?_eq_getElem (show k-1<W.length by omega),Option.getD_some,←he]at h1
    by_cases e:i=k-1
    ·subst e
     rw[sW]at h1;cases h1
    ·have:=List.pairwise_iff_getElem.1 ha i (k-1) hi (by omega) (by omega)
     rw[xP this]at h1;cases h1
   ·exact hge
  have hik:i=k:=by
   rcases Nat.lt_or_ge k i with hlt|hge
   ·obtain⟨j2,hj2,he2⟩:=hfind k (by omega)
    have h4:=h3 j2 hj2 (by rw[he2];exact hlast k (Nat.le_refl _) (by omega));have:=List.pairwise_iff_getElem.1 ha k i (by omega) hi hlt;rw[he2,←he,this]at h4;cases h4
   ·omega
  subst hik;refine⟨⟨fun q=>absurd q hn,fun q=>by omega⟩,fun _=>?_⟩;rw[List.getElem?_eq_getElem hi,Option.getD_some,he]
theorem xS {l:List W2} (h:indexB l=true):∀w∈aH l,bY w=true:=fun w hw=>by obtain⟨x,hx,rfl⟩:=jk.1 hw;exact((nQ.1 h).2 x hx).1
theorem aqS (l:List W2):(yT l).length≤l.length:=by unfold yT;rw[List.length_map];exact nZ l
theorem lK {P:List Int} (h:iA P=true):(mh P).size≤330:=by unfold mh;rw[if_pos h];have:=sQ (wN h);have:=qp h;omega
theorem zB {l:List W2} (h:indexB l=true) {w:ByteArray} (hw:w∈aH l):(lQ l w).size≤360:=by have h1:=(aG (xS h w hw)).2.2;have h2:=lK (nu (nQ.1 h).1 w);unfold lQ;rw[ByteArray.size_append,ByteArray.size_append,show(⟨#[32]⟩:ByteArray).size=1 from rfl];omega
def biB (p:List LS) (q:LS) (x y z:Int):Bool:=bpB p q x y z&&decide (p.flatten.length≤30)
def biV (p:List LS) (q:LS) (x y z:Int):LS:=if biB p q x y z=true then fT (idW (bpV p q x y z))else []
theorem ahs {α:Type} {l:List α}:∀{e:List Nat} {p:Nat} {r:List α},r∈lF l p e→∀x∈r,x∈l
 |[],p,r,h=>by simp[lF]at h
 |k::e,p,r,h=>by
  rw[lF]at h;rcases List.mem_cons.1 h with rfl|h
  ·exact fun x hx=>List.mem_of_mem_drop (List.mem_of_mem_take hx)
  ·exact ahs h
theorem auF {p:List LS} {q:LS} {x y z:Int} {r:LS} (h:r∈bpV p q x y z):∀s∈r,s∈blK p q x y p.length:=fun s hs=>by
 unfold bpV at h;split at h
 ·have h2:=ahs h s hs
  unfold blL at h2;split at h2
  ·exact h2
  ·simp at h2
 ·simp at h
theorem adR {p:List LS} {q:LS} {x y:Int}:∀k,∀s∈blK p q x y k,s.size≤2000
 |0,s,h=>by simp[blK]at h
 |k+1,s,h=>by
  rw[blK]at h;rcases List.mem_append.1 h with h|h
  ·exact adR k s h
  ·exact(abm _ _ _ _).2 s h
theorem anI {l:List LS} {c:Nat} (h:∀x∈l,x.length≤c):(l.flatten).length≤l.length*c:=by
 induction l with
 |nil=>simp
 |cons x l ih=>have h1:=ih fun y hy=>h y (by simp[hy]);have h2:=h x (by simp);rw[List.flatten_cons,List.length_append,List.length_cons,Nat.succ_mul];omega
theorem qg {l:List LS} (k:Nat):((l.take k).flatten).length≤(l.flatten).length:=by
 conv=>rhs;rw[←List.take_append_drop k l,List.flatten_append,List.length_append]
 omega
theorem awK {p:List LS} {q:LS} {x y z:Int} (h:blB p q x y z=true):rC (blK p q x y p.length)=p.flatten:=by have:=agS (p:=p) (q:=q) (x:=x) (y:=y) p.length (fun j hj=>aDt h hj) [];rw[List.append_nil]at this;unfold rC;rw[this,List.take_length,show bH [] []=[]from rfl,List.append_nil,alc]
structure BiF (p:List LS) (V:List LS):Prop where
 ok:∀r∈V,∀s∈r,jA (toL s)
 len:V.length≤30
 tot:V.flatten.length≤30
 sz:∀r∈V,∀s∈r,s.size≤2000
 all:rC V.flatten=p.flatten
 pl:p.flatten.length≤6291456
theorem abK {p:List LS} {q:LS} {x y z:Int} (ho:aaI p q) (hb:bpB p q x y z=true):BiF p (bpV p q x y z):=by
 obtain⟨hB,_,hF⟩:=apU hb;have hK:blL p q x y z=blK p q x y p.length:=if_pos hB;refine⟨fun r hr s hs=>amN _ s (auF hr s hs),by rw[hF.len];exact hF.e30,by rw[hF.flat];exact hF.b30,fun r hr s hs=>adR _ s (auF hr s hs),by rw[hF.flat,hK];exact awK hB,?_⟩;have h6:p.length≤6:=by unfold blB iC at hB;simp only[Bool.and_eq_true,decide_eq_true_eq]at hB;exact hB.1.2.1
 have:=anI (l:=p) (c:=1048576) fun w hw=>by
  obtain⟨j,hj,rfl⟩:=List.getElem_of_mem hw;have:=(ho.2.1 j).1
  rwa[List.getElem?_eq_getElem hj,Option.getD_some]at this
 have:p.length*1048576≤6*1048576:=Nat.mul_le_mul_right _ h6;omega
section
variable {p V:List LS}
theorem BiF.wl (h:BiF p V) (k:Nat):aE3 ((V.take k).flatten):=by
 have h1:=qg (l:=V) k;have h2:=h.tot;refine⟨by omega,?_⟩;have:=aml (l:=(V.take k).flatten) (c:=2000) fun i=>by
  by_cases hi:i<((V.take k).flatten).length
  ·rw[List.getElem?_eq_getElem hi,Option.getD_some]
   have hm:=List.getElem_mem hi;obtain⟨r,hr,hs⟩:=List.mem_flatten.1 hm;exact h.sz r (List.mem_of_mem_take hr) _ hs
  ·rw[List.getElem?_eq_none (by omega)]
   decide
 have:((V.take k).flatten).length*2000≤30*2000:=Nat.mul_le_mul_right _ (by omega);omega
theorem BiF.last (h:BiF p V):ko V V.length=p.flatten.length:=by unfold ko;rw[List.take_length,h.all]
theorem BiF.mono (h:BiF p V):∀{k},k≤V.length→ko V k≤p.flatten.length:=by
 have key:∀n k,n=V.length-k→k≤V.length→ko V k≤p.flatten.length:=fun n=>by
  induction n with
  |zero=>
   intro k hn hk;obtain rfl:k=V.length:=by omega
   rw[h.last];exact Nat.le_refl _
  |succ n ih=>intro k hn hk;exact Nat.le_trans (cnt_mono h.ok (by omega)) (ih (k+1) (by omega) (by omega))
 exact fun{k} hk=>key _ k rfl hk
end
def stW (W:List W2) (tx:LS):Nat→List W2
 |0=>W
 |j+1=>(stW W tx j).set j (tx[j]?.getD .empty,(W[j]?.getD w0).2)
theorem aap (W:List W2) (tx:LS):∀j,(stW W tx j).length=W.length
 |0=>rfl
 |j+1=>by rw[stW,List.length_set,aap W tx j]
theorem auq {W:List W2} {tx:LS}:∀{j i:Nat},j≤i→(stW W tx j)[i]?=W[i]?
 |0,i,_=>rfl
 |j+1,i,h=>by rw[stW,List.getElem?_set,if_neg (by omega)];exact auq (by omega)
theorem ate {W:List W2} {tx:LS}:∀{j i:Nat},i<j→j≤W.length→(stW W tx j)[i]?=some (tx[i]?.getD .empty,(W[i]?.getD w0).2)
 |0,i,h,_=>by omega
 |j+1,i,h,h2=>by
  rw[stW,List.getElem?_set];by_cases e:j=i
  ·subst e
   rw[if_pos rfl,if_pos (by rw[aap];omega)]
  ·rw[if_neg e]
   exact ate (by omega) (by omega)
theorem ayH {W:List W2} {tx:LS} (h:tx.length=W.length):stW W tx W.length=tx.zip (W.map (·.2)):=by
 apply List.ext_getElem?;intro i;by_cases hi:i<W.length
 ·have e1:tx[i]?=some (tx[i]'(by omega)):=List.getElem?_eq_getElem (by omega)
  have e2:W[i]?=some W[i]:=List.getElem?_eq_getElem hi;have e3:(W.map (·.2))[i]?=some W[i].2:=by rw[List.getElem?_map,e2];rfl
  have e4:(tx.zip (W.map (·.2)))[i]?=some (tx[i]'(by omega),W[i].2):=List.getElem?_zip_eq_some.2 ⟨e1,e3⟩;rw[ate hi (Nat.le_refl _),e4,e1,e2];rfl
 ·rw[List.getElem?_eq_none (by rw[aap];omega),List.getElem?_eq_none (by rw[List.length_zip];omega)]
theorem ave {p V:List LS} (h:BiF p V):stW (swI V V.length) p.flatten (swI V V.length).length=idW V:=by have hl:=anH h.ok (Nat.le_refl V.length);rw[ayH (by rw[hl,h.last]),ae0];unfold idW;rw[h.all]
theorem agW {p V:List LS} {q:LS} (ho:aaI p q) (h:BiF p V):okW (idW V):=by
 have hl:(idW V).length≤6291456:=by unfold idW;rw[List.length_zip,h.all];exact Nat.le_trans (Nat.min_le_left _ _) h.pl
 refine⟨by omega,fun i=>?_⟩;by_cases hi:i<(idW V).length
 ·rw[List.getElem?_eq_getElem hi,Option.getD_some]
  have hm:(idW V)[i]∈(rC V.flatten).zip (alq V V.length):=List.getElem_mem hi;have hm:=(List.of_mem_zip hm).1;rw[h.all]at hm;obtain⟨w,hw,hs⟩:=List.mem_flatten.1 hm;obtain⟨j,hj,rfl⟩:=List.getElem_of_mem hw;obtain⟨m,hm2,e⟩:=List.getElem_of_mem hs;have h1:=(ho.2.1 j).2 m;rw[List.getElem?_eq_getElem hj,Option.getD_some,List.getElem?_eq_getElem hm2,Option.getD_some,e]at h1;exact Nat.le_trans h1 (by decide)
 ·rw[List.getElem?_eq_none (by omega)]
  decide
theorem sZ:∀(s w:List UInt8),(bH s w).length≤s.length+1∧∀x∈bH s w,x.length≤w.length+s.length
 |[],w=>by
  unfold bH;split
  ·exact⟨by simp,fun x hx=>by simp at hx⟩
  ·exact⟨by simp,fun x hx=>by rw[List.mem_singleton]at hx;rw[hx];simp⟩
 |b::l,w=>by
  unfold bH;split
  ·obtain⟨h1,h2⟩:=sZ l []
   split
   ·exact⟨by simp;omega,fun x hx=>by have:=h2 x (by simpa using hx);simp at this⊢;omega⟩
   ·refine⟨by simp;omega,fun x hx=>?_⟩
    rcases List.mem_cons.1 (by simpa using hx:x∈w::bH l [])with rfl|hx
    ·simp
    ·have:=h2 x hx
     simp at this⊢;omega
  ·obtain⟨h1,h2⟩:=sZ l (w++[b])
   refine⟨by simp;omega,fun x hx=>?_⟩;have:=h2 x hx;simp at this⊢;omega
theorem amg (s:List UInt8):(iw s).length≤s.length+1:=by
 unfold iw;split
 ·rw[List.length_take];omega
 ·simp
theorem zn:∀(l:List (List UInt8)) (c:Nat),(∀s∈l,s.length≤c)→(dz l).length≤l.length*(c+1)
 |[],c,_=>by simp[dz]
 |s::l,c,h=>by have ih:=zn l c fun x hx=>h x (by simp[hx]);have h1:=amg s;have h2:=h s (by simp);rw[dz,List.length_append,List.length_cons,Nat.succ_mul];omega
theorem aal {c:UInt8}:∀{l:List UInt8},∀w∈iX c l,w.length≤l.length
 |[],w,h=>by simp[iX]at h;simp[h]
 |b::l,w,h=>by
  unfold iX at h;have ih:=aal (c:=c) (l:=l);split at h
  ·rcases List.mem_cons.1 h with rfl|h
   ·simp
   ·have:=ih w h
    simp;omega
  ·split at h
   ·rename_i x t e
    rw[e]at ih;rcases List.mem_cons.1 h with rfl|h
    ·have:=ih x (by simp)
     simp;omega
    ·have:=ih w (by simp[h])
     simp;omega
   ·rw[List.mem_singleton]at h
    rw[h];simp
theorem oD (s:ByteArray):(toL s).length=s.size:=Array.length_toList
theorem ajK {s p:ByteArray} (h:p∈dR 32 s):p.size≤s.size:=by rw[←oD,←oD];refine aal (c:=32) _ ?_;rw[←aam];exact List.mem_map.2 ⟨p,h,rfl⟩
theorem akP (p:ByteArray):(adP p).size≤p.size:=by
 rw[←oD,←oD];show(Lib.trimSuffix (toL p) [45]).length≤_;unfold Lib.trimSuffix;split
 ·rw[List.length_take];omega
 ·exact Nat.le_refl _
theorem ahx {pg:Int} {ins:Bool} {W:List W2} {ts:LS}:∀m,(adW pg ins W ts m).length≤W.length+m∧(0<m→(ins=true→0<W.length)→0<(adW pg ins W ts m).length)
 |0=>⟨Nat.le_refl _,fun h=>absurd h (Nat.lt_irrefl 0)⟩
 |m+1=>by
  obtain⟨h1,h2⟩:=ahx (pg:=pg) (ins:=ins) (W:=W) (ts:=ts) m;rw[adW];unfold axn;split
  ·rename_i hc
   refine⟨by rw[List.length_set];omega,fun _ hi=>?_⟩;rw[List.length_set];obtain rfl:m=0:=hc.1;exact hi hc.2
  ·exact⟨by rw[List.length_append,List.length_singleton];omega,fun _ _=>by simp⟩
theorem aA9 {p V:List LS} (h:BiF p V) {k j:Nat} (hk:k<V.length) (hj:j≤(V[k]?.getD []).length):(jG ((k:Int)+1) (jI V k) (V[k]?.getD []) j).1.length≤70000∧((jG ((k:Int)+1) (jI V k) (V[k]?.getD []) j).2=true→0<(jG ((k:Int)+1) (jI V k) (V[k]?.getD []) j).1.length)∧∀i:Nat,((jG ((k:Int)+1) (jI V k) (V[k]?.getD []) j).1[i]?.getD w0).1.size≤70000:=by
 obtain⟨h1,-,-⟩:=sH h.ok k (by omega);have hm:V[k]?.getD []∈V:=by rw[List.getElem?_eq_getElem hk,Option.getD_some];exact List.getElem_mem hk
 obtain⟨k1,-,-⟩:=uX (pg:=(k:Int)+1) (W:=(jI V k).1) (ins:=(jI V k).2) (r:=V[k]?.getD []) h1 (h.ok _ hm) j hj;rw[←ji,←List.map_append]at k1;have hL:(dz (((V.take k).flatten++(V[k]?.getD []).take j).map toL)).length≤30*2001:=by
  refine Nat.le_trans (zn _ 2000 fun s hs=>?_) (Nat.mul_le_mul_right _ ?_)
  ·obtain⟨x,hx,rfl⟩:=List.mem_map.1 hs
   rw[oD];rcases List.mem_append.1 hx with hx|hx
   ·obtain⟨r,hr,hs⟩:=List.mem_flatten.1 hx
    exact h.sz r (List.mem_of_mem_take hr) _ hs
   ·exact h.sz _ hm _ (List.mem_of_mem_take hx)
  ·rw[List.length_map,List.length_append,List.length_take]
   have h2:=qg (l:=V) (k+1);rw[nE hk,List.length_append]at h2;have:=h.tot;omega
 have hst:jG ((k:Int)+1) ((jI V k).1,(jI V k).2) (V[k]?.getD []) j=jG ((k:Int)+1) (jI V k) (V[k]?.getD []) j:=rfl;rw[hst]at k1;generalize jG ((k:Int)+1) (jI V k) (V[k]?.getD []) j=st at*;generalize dz (((V.take k).flatten++(V[k]?.getD []).take j).map toL)=S at*;obtain⟨g1,g2⟩:=sZ S [];rw[k1.all]at g1 g2;rw[List.length_map]at g1;refine⟨by omega,fun hi=>?_,fun i=>?_⟩
 ·unfold mW at k1
  rw[if_pos hi]at k1;have:=k1.1;rcases Nat.eq_zero_or_pos st.1.length with h0|h0
  ·rw[List.eq_nil_of_length_eq_zero h0]at this
   exact absurd rfl this
  ·exact h0
 ·by_cases hi:i<st.1.length
  ·rw[List.getElem?_eq_getElem hi,Option.getD_some,←oD]
   have:=g2 (toL st.1[i].1) (List.mem_map.2 ⟨_,List.getElem_mem hi,rfl⟩);rw[List.length_nil]at this;exact Nat.le_trans this (by omega)
  ·rw[List.getElem?_eq_none (by omega)]
   exact Nat.zero_le _
theorem atP {V:List LS}:∀k,∀n∈alq V k,1≤n∧n≤(k:Int)
 |0,n,h=>by simp[alq]at h
 |k+1,n,h=>by
  rw[alq]at h;rcases List.mem_append.1 h with h|h
  ·have:=atP k n h
   omega
  ·have:=(List.mem_replicate.1 h).2
   omega
theorem ag3 {p V:List LS} {q:LS} {x y z:Int} (hB:iC p q x y z=true) (h:BiF p V):indexB (idW V)=decide (p.flatten.length≤30):=by
 have hl:(idW V).length=p.flatten.length:=by unfold idW;rw[List.length_zip,h.all,aij h.ok (Nat.le_refl _),h.last,Nat.min_self]
 have hb:(idW V).any af5=false:=List.any_eq_false.2 fun e he=>by have hm:e∈(rC V.flatten).zip (alq V V.length):=he;obtain⟨a,n⟩:=e;obtain⟨h1,h2⟩:=List.of_mem_zip hm;rw[h.all]at h1;have h3:=atP V.length n h2;have h4:=h.len;obtain⟨w,hw,hs⟩:=List.mem_flatten.1 h1;unfold iC at hB;rw[Bool.and_eq_true]at hB;have h5:=List.all_eq_true.1 hB.1 w hw;unfold azg bD at h5;simp only[Bool.and_eq_true]at h5;have hwd:bY a=true:=List.all_eq_true.1 (by first|exact h5.1|exact h5.1.1|exact h5.1.2) a hs;unfold af5;rw[hwd,aD.2 ⟨h3.1,(by omega:n≤999)⟩];decide
 unfold indexB;rw[hl,hb];simp
def φIx:Fun:=F1 dWs fun l=>if okW l then some (.lst true 1 ((fT l).map fun s=> .val (.string s)))else none
theorem ax1 {l:List W2} (h:okW l):φIx [.lst false 2 (l.map fun x=> .agg [.val (.string x.1),.val (.int .i64 x.2)])]=some (.lst true 1 ((fT l).map fun s=> .val (.string s))):=(dY (A:=dWs) l).trans (if_pos h)
def am5 (l:List W2) (k:Nat):ByteArray:=if k=0 then⟨#[]⟩else(aH l)[k-1]?.getD ⟨#[]⟩
theorem apM {l:List W2} {k:Nat} (h:k<(aH l).length):(yT l).take (k+1)=(yT l).take k++[lQ l ((aH l)[k]?.getD ⟨#[]⟩)]:=by unfold yT;rw[List.map_take.symm,List.map_take.symm,List.take_succ_eq_append_getElem h,List.map_append,List.getElem?_eq_getElem h,Option.getD_some];rfl
def aui (l:List W2) (w:ByteArray) (p:Int) (j:Nat):Bool:=arD (l.take j) w p
theorem aof {l:List W2} {w:ByteArray} {p:Int} {j:Nat} (h:j<l.length):aui l w p (j+1)=(aui l w p j||decide ((l[j]?.getD w0).1=w∧(l[j]?.getD w0).2=p)):=by unfold aui arD;rw[List.take_succ_eq_append_getElem h,List.any_append,List.getElem?_eq_getElem h,Option.getD_some];simp
def aFV:Ctx:={fn:=aT [(87,dV),(88,φPt)],io:=aT []}
theorem ax0:au Tryz.prog aFV:=okΓ (fC Tryz.func87 sF (fC Tryz.func88 an8 aj)) aj
def alN:=ah (Γ:=aFV) (f:=87) (φ:=dV) rfl
def amP:=ah (Γ:=aFV) (f:=88) (φ:=φPt) rfl
set_option maxRecDepth 100000 in
theorem alI:Sound Tryz.prog 48 φIx:=by
 refine ak mixed ax0 Tryz.func48 rfl 93 rfl [.tmp 2] rfl (by kernel_rfl) fun ps r hr=>?_;obtain⟨l,rfl,hpre,rfl⟩:=je hr;refine⟨by simp,?_⟩;simp only[dIs,dUs,dSs,bP,bS,bQ,bT,aP,bR,aQ,aO,aR,aL];have apv:=gU hpre;have hl0:=hpre.1;unfold fT;cases hv:indexB l with
 |false=>
  rw[hv]at apv;clear hpre hv;rw[if_neg (by decide)];have gixs_c87:=alN;have gixs_c88:=amP;(refine wlk ?_;intros);refine aB (α:=Unit) mixed (fun _=>[(0,.lst false 2 (l.map fun x=> .agg [.val (.string x.1),.val (.int .i64 x.2)])),(3,.row 0 1 0 0)]) (fun _=>[(0,9,1,[])]) (fun _=>1) (fun _=>True) (fun _=>0) (by kernel_rfl) () trivial ?_ ?_ rfl ?_
  ·exact agr
  ·exact agr
  rintro _ _;exact wlkF
 |true=>
  rw[hv]at apv;rw[if_pos rfl];obtain⟨hl30,hall⟩:=nQ.1 hv;have hne:∀x∈l,¬x.1=⟨#[]⟩:=fun x hx e=>by have h1:=(aG (hall x hx).1).2.1;rw[e]at h1;exact absurd h1 (by decide)
  have hwl:=nZ l;have hnx:=fun next (k:Nat) hk h=>tO.done (l:=l) (k:=k) (next:=next) hne h hk
  have hsz:∀j:Nat,(l[j]?.getD w0).1.size≤20:=fun j=>by
   by_cases hj:j<l.length
   ·exact(aG (hall _ (aEr hj)).1).2.2
   ·rw[List.getElem?_eq_none (by omega)];decide
  have hne2:∀j:Nat,j<l.length→¬(l[j]?.getD w0).1=⟨#[]⟩:=fun j hj=>hne _ (aEr hj);have hlz:∀k:Nat,k<(aH l).length→(lQ l ((aH l)[k]?.getD ⟨#[]⟩)).size≤360∧((aH l)[k]?.getD ⟨#[]⟩).size≤20:=fun k hk=>by rw[List.getElem?_eq_getElem hk,Option.getD_some];exact⟨zB hv (List.getElem_mem hk),(aG (xS hv _ (List.getElem_mem hk))).2.2⟩
  have hpz:∀w,(mh (gK l w)).size≤330:=fun w=>lK (nu hl30 w);have apt:=fun w=>afa (l:=gK l w) (by have:=@kI l w 999;show(gu l w 999).length≤_;omega);have hpl:=fun w n=>@kI l w n;clear hpre hv hall hne;replace hnx:=Lib.hid hnx;replace apt:=Lib.hid apt;replace hlz:=Lib.hid hlz;replace hpz:=Lib.hid hpz;have hil:(yT l).length=(aH l).length:=by unfold yT;rw[List.length_map]
  have gixs_c87:=alN;have gixs_c88:=amP;(refine wlk ?_;intros);refine aB (α:=Nat×Nat×Nat) mixed (fun i=>[(0,.lst false 2 (l.map fun x=> .agg [.val (.string x.1),.val (.int .i64 x.2)])),(3,.row i.2.1 1 0 i.1),(4,.val (.string (am5 l i.1)))]) (fun i=>[(i.2.1,9,1,((yT l).take i.1).map fun s=> .val (.string s))])
   (fun i=>i.2.2) (fun i=>i.1≤(aH l).length∧i.2.1<i.2.2) (fun i=>(aH l).length+1-i.1) (by kernel_rfl) (0,0,1) ⟨Nat.zero_le _,by decide⟩ ?_ ?_ rfl ?_
  ·have h0:am5 l 0=⟨#[]⟩:=rfl
   exact agi
  ·have h0:(yT l).take 0=[]:=rfl
   exact agr
  rintro⟨k,o,nx⟩ ⟨hk,ho⟩;dsimp only at hk ho;have hlen:((yT l).take k).length=k:=by rw[List.length_take];omega
  generalize hLS:am5 l k=last at*;replace hLS:=Lib.hid hLS;(refine wlk ?_;intros);refine aB (α:=Nat×ByteArray) mixed (fun i=>[(0,.lst false 2 (l.map fun x=> .agg [.val (.string x.1),.val (.int .i64 x.2)])),(3,.row o 1 0 k),(4,.val (.string last)),(5,.val (.string i.2)),(6,iv i.1)]) (fun i=>[(o,9,1,((yT l).take k).map fun s=> .val (.string s))])
   (fun _=>nx) (fun i=>i.1≤l.length∧tO l last i.2 i.1) (fun i=>l.length-i.1) (by kernel_rfl) (0,⟨#[]⟩) ⟨Nat.zero_le _,tO.zero l last⟩ ?_ ?_ rfl ?_
  ·exact agi
  ·exact agr
  rintro⟨j,next⟩ ⟨hj,hN⟩;dsimp only at hj hN;replace hN:=Lib.hid hN;by_cases hjl:j<l.length
  ·have hnej:=hne2 j hjl
   have hkeep:=fun h=>hN.out.keep (k:=j) h;have htake:=fun h1 h2=>hN.out.take (k:=j) hnej h1 h2;replace hkeep:=Lib.hid hkeep;replace htake:=Lib.hid htake;generalize hxx:l[j]?.getD w0=xx at*;obtain⟨x1,x2⟩:=xx;dsimp only at hnej hkeep htake;clear hne2 hsz;cases c1:ltB last x1 with
   |false=>
    have hr:=Lib.hid (hkeep.out (.inl c1));(refine wlk ?_;intros);refine⟨(j+1,next),⟨by dsimp only;omega,hr.out⟩,by dsimp only;omega,?_,?_,rfl⟩
    ·exact agi
    ·exact agr
   |true=>
    by_cases c2:next=⟨#[]⟩
    ·have hr:=Lib.hid (htake.out c1 (.inl c2))
     subst c2;(refine wlk ?_;intros);refine⟨(j+1,x1),⟨by dsimp only;omega,hr.out⟩,by dsimp only;omega,?_,?_,rfl⟩
     ·exact agi
     ·exact agr
    ·cases c3:ltB x1 next with
     |false=>
      have hr:=Lib.hid (hkeep.out (.inr ⟨c2,c3⟩));(refine wlk ?_;intros);refine⟨(j+1,next),⟨by dsimp only;omega,hr.out⟩,by dsimp only;omega,?_,?_,rfl⟩
      ·exact agi
      ·exact agr
     |true=>
      have hr:=Lib.hid (htake.out c1 (.inr c3));(refine wlk ?_;intros);refine⟨(j+1,x1),⟨by dsimp only;omega,hr.out⟩,by dsimp only;omega,?_,?_,rfl⟩
      ·exact agi
      ·exact agr
  ·obtain rfl:j=l.length:=by omega
   have hd:=hnx.out next k hk (by have h1:=hN.out;rw[←hLS.out]at h1;exact h1)
   clear hne2;by_cases hkw:k=(aH l).length
   ·have hnn:=hd.1.2 hkw
    subst hnn;have ht:(yT l).take k=yT l:=List.take_of_length_le (by omega);rw[ht]at*;clear hd;subst hkw;exact wlkF
   ·have hnn:=hd.2 (by omega)
    have hn0:¬next=⟨#[]⟩:=fun e=>hkw (hd.1.1 e)
    have hlk:=hlz.out k (by omega);rw[←hnn]at hlk;have htk:=apM (l:=l) (k:=k) (by omega);rw[←hnn]at htk;have hls:am5 l (k+1)=next:=by unfold am5;rw[if_neg (by omega),Nat.add_sub_cancel];exact hnn.symm
    have hlu:lQ l next=(next++⟨#[32]⟩)++mh (gK l next):=rfl
    have apn:=apt.out next
    have hpn:=hpz.out next
    have hplen:=hpl next 999
    replace htk:=Lib.hid htk;replace hls:=Lib.hid hls;replace hlu:=Lib.hid hlu;clear hd hnn hlz;(refine wlk ?_;intros);refine aB (α:=Nat×Nat×Nat) mixed (fun i=>[(0,.lst false 2 (l.map fun x=> .agg [.val (.string x.1),.val (.int .i64 x.2)])),(3,.row o 1 0 k),(5,.val (.string next)),(7,.row i.2.1 1 0 (gu l next i.1).length),(8,iv ((i.1:Int)+1))]) (fun i=>[(o,9,1,((yT l).take k).map fun s=> .val (.string s)),(i.2.1,3,1,(gu l next i.1).map fun n=> .val (.int .i64 n))])
     (fun i=>i.2.2) (fun i=>i.1≤999∧o<i.2.1∧i.2.1<i.2.2) (fun i=>999-i.1) (by kernel_rfl) (0,nx,nx+1) ⟨Nat.zero_le _,ho,by dsimp only;omega⟩ ?_ ?_ rfl ?_
    ·have h0:(gu l next 0).length=0:=rfl
     exact agi
    ·have h0:gu l next 0=[]:=rfl
     exact agr
    rintro⟨n,q,ny⟩ ⟨hn,hq,hqn⟩;dsimp only at hn hq hqn;have hoq:¬o=q:=by omega
    have hqo:¬q=o:=by omega
    have hpn2:=hpl next n
    by_cases hn9:n<999
    ·have hyes:=fun h=>zq (l:=l) (w:=next) (n:=n) h
     have hno:=fun h=>adu (l:=l) (w:=next) (n:=n) h;replace hyes:=Lib.hid hyes;replace hno:=Lib.hid hno;(refine wlk ?_;intros);refine aB (α:=Nat) mixed (fun j=>[(0,.lst false 2 (l.map fun x=> .agg [.val (.string x.1),.val (.int .i64 x.2)])),(3,.row o 1 0 k),(5,.val (.string next)),(7,.row q 1 0 (gu l next n).length),(8,iv ((n:Int)+1)),(9,bv (aui l next ((n:Int)+1) j)),(10,iv j)]) (fun i=>[(o,9,1,((yT l).take k).map fun s=> .val (.string s)),(q,3,1,(gu l next n).map fun n=> .val (.int .i64 n))])
      (fun _=>ny) (fun j=>j≤l.length) (fun j=>l.length-j) (by kernel_rfl) 0 (Nat.zero_le _) ?_ ?_ rfl ?_
     ·have h0:aui l next ((n:Int)+1) 0=false:=rfl
      exact agi
     ·exact agr
     intro j hj;by_cases hjl:j<l.length
     ·have hfs:=aof (w:=next) (p:=(n:Int)+1) hjl
      replace hfs:=Lib.hid hfs;generalize hxx:l[j]?.getD w0=xx at*;obtain⟨x1,x2⟩:=xx;generalize aui l next ((n:Int)+1) j=F at*
      cases F with
      |true=>
       (refine wlk ?_;intros);refine⟨j+1,by dsimp only;omega,by dsimp only;omega,?_,?_,rfl⟩
       ·dsimp only
        rw[hfs.out,Bool.true_or];exact agi
       ·exact agr
      |false=>
       by_cases c1:x1=next
       ·by_cases c2:x2=(n:Int)+1
        ·have hdd:decide (x1=next∧x2=(n:Int)+1)=true:=decide_eq_true ⟨c1,c2⟩
         replace hdd:=Lib.hid hdd;(refine wlk ?_;intros);refine⟨j+1,by dsimp only;omega,by dsimp only;omega,?_,?_,rfl⟩
         ·dsimp only
          rw[hfs.out,Bool.false_or];dsimp only
          rw[hdd.out];exact agi
         ·exact agr
        ·have hdd:decide (x1=next∧x2=(n:Int)+1)=false:=decide_eq_false fun e=>c2 e.2
         replace hdd:=Lib.hid hdd;(refine wlk ?_;intros);refine⟨j+1,by dsimp only;omega,by dsimp only;omega,?_,?_,rfl⟩
         ·dsimp only
          rw[hfs.out,Bool.false_or];dsimp only
          rw[hdd.out];exact agi
         ·exact agr
       ·have hdd:decide (x1=next∧x2=(n:Int)+1)=false:=decide_eq_false fun e=>c1 e.1
        replace hdd:=Lib.hid hdd;(refine wlk ?_;intros);refine⟨j+1,by dsimp only;omega,by dsimp only;omega,?_,?_,rfl⟩
        ·dsimp only
         rw[hfs.out,Bool.false_or];dsimp only
         rw[hdd.out];exact agi
        ·exact agr
     ·obtain rfl:j=l.length:=by omega
      have hfa:aui l next ((n:Int)+1) l.length=arD l next ((n:Int)+1):=by unfold aui;rw[List.take_length]
      rw[hfa];cases hH:arD l next ((n:Int)+1)with
      |true=>
       have hy:=hyes.out hH;replace hy:=Lib.hid hy;clear hyes hno hH hfa;(refine wlk ?_;intros);refine⟨(n+1,ny+1,ny+2),⟨by dsimp only;omega,by dsimp only;omega,by dsimp only;omega⟩,by dsimp only;omega,?_,?_,rfl⟩
       ·dsimp only
        rw[hy.out];exact agi
       ·dsimp only
        rw[hy.out];exact agr
      |false=>
       have hy:=hno.out hH;replace hy:=Lib.hid hy;clear hyes hno hH hfa;(refine wlk ?_;intros);refine⟨(n+1,q,ny),⟨by dsimp only;omega,by dsimp only;omega,by dsimp only;omega⟩,by dsimp only;omega,?_,?_,rfl⟩
       ·dsimp only
        rw[hy.out];exact agi
       ·dsimp only
        rw[hy.out];exact agr
    ·obtain rfl:n=999:=by omega
     have hpU:gu l next 999=gK l next:=rfl
     rw[hpU]at*;clear hpU;generalize gK l next=PU at*
     have h32:(⟨#[32]⟩:ByteArray).size=1:=rfl;(refine wlk ?_;intros);refine⟨(k+1,ny+1,ny+2),⟨by dsimp only;omega,by dsimp only;omega⟩,by dsimp only;omega,?_,?_,rfl⟩
     ·dsimp only
      rw[hls.out];exact agi
     ·dsimp only
      rw[htk.out,hlu.out];exact agr
def φBi:Fun:=F1 iy fun b=>if aaI b.1 b.2.1 then some (.tup [.lst true 1 ((biV b.1 b.2.1 b.2.2.1 b.2.2.2.1 b.2.2.2.2).map fun s=> .val (.string s)),bv (biB b.1 b.2.1 b.2.2.1 b.2.2.2.1 b.2.2.2.2)])else none
theorem ayy {p:List LS} {q:LS} {x y z:Int} (h:aaI p q):φBi [bkP p q x y z]=some (.tup [.lst true 1 ((biV p q x y z).map fun s=> .val (.string s)),.val (.bool (biB p q x y z))]):=
 (dY (A:=iy) (p,q,x,y,z)).trans (if_pos h)
theorem y8 {R:LS} {c j:Nat} (h:c≤j) (h2:j<R.length):(R.take (j+1)).drop c=(R.take j).drop c++[R[j]?.getD .empty]:=by rw[List.take_succ_eq_append_getElem h2,List.drop_append_of_le_length (by rw[List.length_take];omega),List.getElem?_eq_getElem h2,Option.getD_some]
def lwI (V:List LS) (k:Nat) (R:LS) (c j:Nat):List W2:=swI V k++((R.take j).drop c).map fun s=>(s,(k:Int)+1)
theorem arQ {l:LS} (h:aE3 l):aqk [.lst false 1 (l.map fun s=> .val (.string s))]=some (.lst true 1 ((rC l).map fun s=> .val (.string s))):=(dY (A:=dSs) l).trans (if_pos h)
def aEu:Ctx:={fn:=aT [(8,φBp),(47,aqk),(48,φIx)],io:=aT []}
theorem aww:au Tryz.prog aEu:=okΓ (fC Tryz.func8 akp (fC Tryz.func47 aiw (fC Tryz.func48 alI aj))) aj
def atA:=ah (Γ:=aEu) (f:=8) (φ:=φBp) rfl
def al1:=ah (Γ:=aEu) (f:=47) (φ:=aqk) rfl
def aoT:=ah (Γ:=aEu) (f:=48) (φ:=φIx) rfl
set_option maxRecDepth 20000 in
theorem amI:Sound Tryz.prog 14 φBi:=by
 refine ak mixed aww Tryz.func14 rfl 110 rfl [.tmp 2,.tmp 3] rfl (by kernel_rfl) fun ps r hr=>?_;obtain⟨⟨p,q,x,y,z⟩,rfl,hpre,rfl⟩:=je hr;refine⟨by simp,?_⟩;simp only[dIs,dUs,dSs,bP,bS,bQ,bT,aP,bR,aQ,aO,aR,aL];(try dsimp only at hpre⊢);have hp1:=hpre.1;have hpk:∀k:Nat,(p[k]?.getD []).length≤1048576:=fun k=>(hpre.2.1 k).1;have apb:=aoH (x:=x) (y:=y) (z:=z) hpre;cases hb:bpB p q x y z with
 |false=>
  have hB:biB p q x y z=false:=by unfold biB;rw[hb];rfl
  have hV:biV p q x y z=[]:=if_neg (by rw[hB];decide);rw[hb,aoG hb,List.map_nil]at apb;rw[hB,hV,List.map_nil];clear hB hV hb hpk hpre;have gbis_c8:=atA;have gbis_c47:=al1;have gbis_c48:=aoT;(refine wlk ?_;intros);refine aB (α:=Unit) mixed (fun _=>[(1,.own 0 5 0 0),(4,.lst true 1 []),(5,.val (.bool false)),(6,.row 1 2 0 0),(7,iv 0),(8,iv 0)]) (fun _=>[(0,26,5,[bkP p q x y z]),(1,71,2,[])]) (fun _=>2) (fun _=>True) (fun _=>0) (by kernel_rfl) () trivial ?_ ?_ rfl ?_
  ·exact agr
   try rfl
  ·exact agr
   try rfl
  rintro _ _;(refine wlk ?_;intros);refine aB (α:=Unit) mixed (fun _=>[(1,.own 0 5 0 0),(5,.val (.bool false)),(6,.row 1 2 0 0),(13,.row 2 1 0 0),(14,iv 0)]) (fun _=>[(0,26,5,[bkP p q x y z]),(1,71,2,[]),(2,9,1,[])]) (fun _=>3) (fun _=>True) (fun _=>0) (by kernel_rfl) () trivial ?_ ?_ rfl ?_
  ·exact agr
   try rfl
  ·exact agr
   try rfl
  rintro _ _;exact wlkS
 |true=>
  have hF:=abK hpre hb;rw[hb]at apb;have hVe:biV p q x y z=if p.flatten.length≤30 then fT (idW (bpV p q x y z))else []:=by
   unfold biV biB;rw[hb,Bool.true_and];by_cases h:p.flatten.length≤30
   ·rw[if_pos h,if_pos (decide_eq_true h)]
   ·rw[if_neg h,if_neg (by rw[decide_eq_false h];decide)]
  have hBe:biB p q x y z=decide (p.flatten.length≤30):=by unfold biB;rw[hb,Bool.true_and]
  rw[hVe,hBe];clear hVe hBe hb;generalize bpV p q x y z=V at*;have apx:=ax1 (agW hpre hF);have hdone:=ave hF;have hcm:=fun i (h:i<V.length)=>cnt_mono hF.ok h;have hcl:=fun k (h:k≤V.length)=>anH hF.ok h;have hcb:=fun k (h:k≤V.length)=>hF.mono h;have hfl:=fun k=>qg (l:=V) k;have hwl:=fun k=>arQ (hF.wl k);have hlast:=hF.last;have hV30:=hF.len;have hVt:=hF.tot;have hpl:=hF.pl;have htf:=fun k (h:k<V.length)=>nE (V:=V) h;have hpf:=fun k=>qg (l:=p) k;have hpt:=fun k (h:k<p.length)=>nE (V:=p) h;clear hF hpre;replace apx:=Lib.hid apx;replace hdone:=Lib.hid hdone;replace hcm:=Lib.hid hcm;replace hcl:=Lib.hid hcl;replace hcb:=Lib.hid hcb;replace hfl:=Lib.hid hfl;replace hwl:=Lib.hid hwl;replace hlast:=Lib.hid hlast;replace htf:=Lib.hid htf;replace hpf:=Lib.hid hpf;replace hpt:=Lib.hid hpt;replace hpk:=Lib.hid hpk;have gbis_c8:=atA;have gbis_c47:=al1;have gbis_c48:=aoT;(refine wlk ?_;intros);refine aB (α:=Nat×Nat×Nat) mixed (fun i=>[(1,.own 0 5 0 0),(4,.lst true 1 (V.map eB)),(5,.val (.bool true)),(6,.row i.2.1 2 0 (ko V i.1)),(7,iv (ko V i.1)),(8,iv i.1)]) (fun i=>[(0,26,5,[bkP p q x y z]),(i.2.1,71,2,(swI V i.1).map pvW)]) (fun i=>i.2.2) (fun i=>i.1≤V.length∧0<i.2.1∧i.2.1<i.2.2) (fun i=>V.length-i.1) (by kernel_rfl) (0,1,2) ⟨Nat.zero_le _,by decide,by decide⟩ ?_ ?_ rfl ?_
  ·have z0:ko V 0=0:=rfl
   (try dsimp only);rw[z0];exact agr;try rfl
  ·have z0:swI V 0=[]:=rfl
   (try dsimp only);rw[z0];exact agr;try rfl
  rintro⟨k,o,y'⟩ ⟨hk,ho,hoy⟩;dsimp only at hk ho hoy;clear apb;by_cases hkl:k<V.length
  ·have h1:=hcl.out k hk
   (try dsimp only);(refine wlk ?_;intros);refine aB (α:=Nat×Nat×Nat) mixed (fun i=>[(1,.own 0 5 0 0),(4,.lst true 1 (V.map eB)),(5,.val (.bool true)),(6,.row o 2 0 (ko V k)),(7,iv (ko V k)),(8,iv k),(9,.row i.2.1 1 0 ((V.take i.1).flatten).length),(10,iv i.1)]) (fun i=>[(0,26,5,[bkP p q x y z]),(o,71,2,(swI V k).map pvW),(i.2.1,9,1,((V.take i.1).flatten).map fun s=> .val (.string s))]) (fun i=>i.2.2) (fun i=>i.1≤k+1∧o<i.2.1∧i.2.1<i.2.2) (fun i=>k+1-i.1) (by kernel_rfl) (0,y',y'+1) ⟨Nat.zero_le _,hoy,Nat.lt_succ_self _⟩ ?_ ?_ rfl ?_
   ·(try dsimp only)
    rw[List.take_zero,List.flatten_nil];exact agr;try rfl
   ·(try dsimp only)
    rw[List.take_zero,List.flatten_nil];exact agr;try rfl
   rintro⟨j,a,y2⟩ ⟨hj,hoa,hay⟩;dsimp only at hj hoa hay;by_cases hjk:j≤k
   ·have h2:=hfl.out j
    have h3:=htf.out j (by omega);have h4:=hfl.out (j+1);have h5:((V.take j).flatten).length+(V[j]?.getD []).length≤30:=by rw[h3,List.length_append]at h4;omega
    have hjV:j<V.length:=by omega
    have e1:¬a=0:=by omega
    have e2:¬a=o:=by omega
    clear h4;replace h3:=Lib.hid h3;generalize(V.take j).flatten=B at*;(try dsimp only);(refine wlk ?_;intros);refine⟨(j+1,y2,y2+1),⟨by dsimp only;omega,by dsimp only;omega,by dsimp only;omega⟩,by dsimp only;omega,?_,?_,rfl⟩
    ·(try dsimp only)
     rw[h3.out,List.length_append];exact agi
    ·(try dsimp only)
     rw[h3.out];exact agr
   ·obtain rfl:j=k+1:=by omega
    have apw:=hwl.out (k+1);have hR:(rC ((V.take (k+1)).flatten)).length=ko V (k+1):=rfl;have hc1:=hcm.out k hkl;have hc2:=hcb.out (k+1) (by omega);have hfk:=hfl.out (k+1);have hsw:∀j,j=(rC ((V.take (k+1)).flatten)).length→lwI V k (rC ((V.take (k+1)).flatten)) (ko V k) j=swI V (k+1):=fun j h=>by unfold lwI;rw[List.take_of_length_le (by omega)];rfl
    have hs0:lwI V k (rC ((V.take (k+1)).flatten)) (ko V k) (ko V k)=swI V k:=by unfold lwI;rw[List.drop_eq_nil_of_le (by rw[List.length_take];omega),List.map_nil,List.append_nil]
    have hs1:∀j,ko V k≤j→j<ko V (k+1)→lwI V k (rC ((V.take (k+1)).flatten)) (ko V k) (j+1)=lwI V k (rC ((V.take (k+1)).flatten)) (ko V k) j++[((rC ((V.take (k+1)).flatten))[j]?.getD .empty,(k:Int)+1)]:=fun j h h2=>by unfold lwI;rw[y8 h (by omega),List.map_append,List.append_assoc];rfl
    have hs2:∀j,ko V k≤j→j≤ko V (k+1)→(lwI V k (rC ((V.take (k+1)).flatten)) (ko V k) j).length=j:=fun j h h2=>by unfold lwI;rw[List.length_append,h1,List.length_map,List.length_drop,List.length_take];omega
    replace hsw:=Lib.hid (hsw (ko V (k+1)) hR.symm);replace hs0:=Lib.hid hs0;replace hs1:=Lib.hid hs1;replace hs2:=Lib.hid hs2;replace hcl:=Lib.hid (show True from trivial);have hc0:ko V k≤6291456:=by omega
    generalize lwI V k (rC ((V.take (k+1)).flatten)) (ko V k)=LW at*;(try dsimp only);generalize(V.take (k+1)).flatten=B at*;(refine wlk ?_;intros);replace hwl:=Lib.hid (show True from trivial);clear apw;generalize rC B=R at*;refine aB (α:=Nat×Nat×Nat) mixed (fun i=>[(1,.own 0 5 0 0),(4,.lst true 1 (V.map eB)),(5,.val (.bool true)),(6,.row i.2.1 2 0 i.1),(8,iv k),(11,.lst true 1 (R.map fun s=> .val (.string s))),(12,iv i.1)]) (fun i=>[(0,26,5,[bkP p q x y z]),(i.2.1,71,2,(LW i.1).map pvW)]) (fun i=>i.2.2) (fun i=>(ko V k≤i.1∧i.1≤ko V (k+1))∧0<i.2.1∧i.2.1<i.2.2) (fun i=>ko V (k+1)-i.1) (by kernel_rfl) (ko V k,o,y2) ⟨⟨Nat.le_refl _,hc1⟩,ho,by dsimp only;omega⟩ ?_ ?_ rfl ?_
    ·(try dsimp only)
     exact agr;try rfl
    ·(try dsimp only)
     rw[hs0.out];exact agr;try rfl
    rintro⟨j,o2,y3⟩ ⟨⟨hj1,hj2⟩,ho2,hoy3⟩;dsimp only at hj1 hj2 ho2 hoy3;by_cases hjc:j<ko V (k+1)
    ·have h6:=hs1.out j hj1 hjc
     have h7:=hs2.out j hj1 hj2;have hjR:j<R.length:=by omega
     replace h6:=Lib.hid h6;(try dsimp only);(refine wlk ?_;intros);refine⟨(j+1,y3+1,y3+1+1),⟨⟨by dsimp only;omega,by dsimp only;omega⟩,by dsimp only;omega,by dsimp only;omega⟩,by dsimp only;omega,?_,?_,rfl⟩
     ·(try dsimp only)
      exact agi
     ·(try dsimp only)
      rw[h6.out];exact agr
    ·obtain rfl:j=ko V (k+1):=by omega
     have hR2:=hR;rw[hsw.out];clear hs1 hs2 hs0;(try dsimp only);(refine wlk ?_;intros);refine⟨(k+1,o2,y3),⟨by dsimp only;omega,by dsimp only;omega,by dsimp only;omega⟩,by dsimp only;omega,?_,?_,rfl⟩
     ·(try dsimp only)
      exact agi
     ·(try dsimp only)
      exact agr
  ·obtain rfl:k=V.length:=by omega
   have hWl:=hcl.out V.length (Nat.le_refl _);have hstl:=fun j=>aap (swI V V.length) p.flatten j;have hst0:stW (swI V V.length) p.flatten 0=swI V V.length:=rfl;have hst1:∀j,stW (swI V V.length) p.flatten (j+1)=(stW (swI V V.length) p.flatten j).set j (p.flatten[j]?.getD .empty,((stW (swI V V.length) p.flatten j)[j]?.getD w0).2):=fun j=>by rw[stW,auq (Nat.le_refl _)]
   replace hdone:=hdone.out;rw[hWl]at hdone hstl;rw[hlast.out]at hWl hdone hstl⊢;clear hcm hcb hfl hwl htf hcl;generalize stW (swI V V.length) p.flatten=SW at*;generalize swI V V.length=W at*;replace hdone:=Lib.hid hdone;replace hst0:=Lib.hid hst0;replace hst1:=Lib.hid hst1;replace hstl:=Lib.hid hstl;(try dsimp only);(refine wlk ?_;intros);refine aB (α:=Nat×Nat×Nat) mixed (fun i=>[(1,.own 0 5 0 0),(5,.val (.bool true)),(6,.row o 2 0 p.flatten.length),(13,.row i.2.1 1 0 ((p.take i.1).flatten).length),(14,iv i.1)]) (fun i=>[(0,26,5,[bkP p q x y z]),(o,71,2,W.map pvW),(i.2.1,9,1,((p.take i.1).flatten).map fun s=> .val (.string s))]) (fun i=>i.2.2) (fun i=>i.1≤p.length∧o<i.2.1∧i.2.1<i.2.2) (fun i=>p.length-i.1) (by kernel_rfl) (0,y',y'+1) ⟨Nat.zero_le _,hoy,Nat.lt_succ_self _⟩ ?_ ?_ rfl ?_
   ·(try dsimp only)
    rw[List.take_zero,List.flatten_nil];exact agr;try rfl
   ·(try dsimp only)
    rw[List.take_zero,List.flatten_nil];exact agr;try rfl
   rintro⟨j,b,y2⟩ ⟨hj,hob,hby⟩;dsimp only at hj hob hby;by_cases hjp:j<p.length
   ·have h2:=hpf.out j
    have h3:=hpt.out j hjp;have h4:=hpk.out j;have e1:¬b=0:=by omega
    have e2:¬b=o:=by omega
    replace h3:=Lib.hid h3;generalize(p.take j).flatten=B at*;(try dsimp only);(refine wlk ?_;intros);refine⟨(j+1,y2,y2+1),⟨by dsimp only;omega,by dsimp only;omega,by dsimp only;omega⟩,by dsimp only;omega,?_,?_,rfl⟩
    ·(try dsimp only)
     rw[h3.out,List.length_append];exact agi
    ·(try dsimp only)
     rw[h3.out];exact agr
   ·obtain rfl:j=p.length:=by omega
    rw[List.take_length];clear hpf hpt hpk;by_cases h30:p.flatten.length≤30
    ·have apx:=apx.out
     rw[if_pos h30,decide_eq_true h30];generalize p.flatten=TX at*;(try dsimp only);(refine wlk ?_;intros);refine aB (α:=Nat) mixed (fun i=>[(6,.row o 2 0 TX.length),(13,.row b 1 0 TX.length),(15,iv i)]) (fun i=>[(o,71,2,(SW i).map pvW),(b,9,1,TX.map fun s=> .val (.string s))]) (fun _=>y2) (fun i=>i≤TX.length) (fun i=>TX.length-i) (by kernel_rfl) 0 (Nat.zero_le _) ?_ ?_ rfl ?_
     ·exact agr
      try rfl
     ·(try dsimp only)
      rw[hst0.out];exact agr;try rfl
     rintro j hj;by_cases hjt:j<TX.length
     ·have h6:=hst1.out j
      have h7:=hstl.out j;replace h6:=Lib.hid h6;(try dsimp only);(refine wlk ?_;intros);refine⟨j+1,by omega,by dsimp only;omega,?_,?_,rfl⟩
      ·(try dsimp only)
       exact agi
      ·(try dsimp only)
       rw[h6.out];exact agr
     ·obtain rfl:j=TX.length:=by omega
      have h7:=hstl.out TX.length;rw[hdone.out]at h7⊢;(try dsimp only);exact wlkS
    ·rw[if_neg h30,decide_eq_false h30,List.map_nil]
     (try dsimp only);exact wlkS
end
end Go.Proofs.YtmmafcjjlbgnkaaGreatDoor
