/- What the proof rests on, part 17: contracts of functions. No condition beyond what each states. -/
import Derived.Test.YtmmafcjjlbgnkaaGreatDoorZBiE16
namespace Go.Proofs.YtmmafcjjlbgnkaaGreatDoor
open Go.RowKit
open Nat renaming reduceEqDiff→Rq,reduceBEq→Rb,reduceAdd→Ra,reduceSub→Rs
open Int renaming reduceToNat→Rt
set_option linter.all false
set_option maxHeartbeats 32000000
noncomputable section
abbrev fF (b:Bool):PV:=.agg [.val (.int .i64 1),.val (.bool b),.val (.int .i64 0),.val (.int .i64 0)]
def dRw:Dec Bool where
 d:=fun| .agg [.val (.int .i64 h),.val (.bool b),.val (.int .i64 n),.val (.int .i64 f)]=>if h=1∧n=0∧f=0 then some b else none|_=>none
 e:=fF
 h:=fun p a h=>by
  split at h
  ·split at h
   ·rename_i hc
    obtain⟨rfl,rfl,rfl⟩:=hc;cases h;rfl
   ·cases h
  ·cases h
 h':=fun a=>rfl
theorem ai7:dRw.e=fF:=rfl
abbrev azl:Dec (List Bool):=dL 4 dRw
def ad7:Fun:=F1 dRw fun _=>some (bv true)
theorem ahk {b:Bool}:ad7 [.agg [.val (.int .i64 1),.val (.bool b),.val (.int .i64 0),.val (.int .i64 0)]]=some (.val (.bool true)):=dY (A:=dRw) b
def ug:Fun:=F1 dI fun h=>some (bv (inB h 1 1000))
theorem wS {h:Int}:ug [.val (.int .i64 h)]=some (.val (.bool (inB h 1 1000))):=dY (A:=dI) h
def aGv:Ctx:={fn:=aT [(64,φIn)],io:=aT []}
theorem ayB:au Tryz.prog aGv:=okΓ (fC Tryz.func64 sD aj) aj
def avQ:=ah (Γ:=aGv) (f:=64) (φ:=φIn) rfl
theorem akN:Sound Tryz.prog 63 ug:=by refine ak mixed ayB Tryz.func63 rfl 5 rfl [.tmp 2] rfl (by kernel_rfl) fun ps r hr=>?_;obtain⟨h,rfl,hr⟩:=bC hr;cases hr;refine⟨by simp,?_⟩;simp only[dIs,dUs,dSs,bP,bS,bQ,bT,aP,bR,aQ,aO,aR,aL];have gish_c64:=avQ;have ap:=bI;exact wlkF
def aE7:Ctx:={fn:=aT [(64,φIn),(63,ug)],io:=aT []}
theorem au5:au Tryz.prog aE7:=okΓ (fC Tryz.func64 sD (fC Tryz.func63 akN aj)) aj
def av4:=ah (Γ:=aE7) (f:=64) (φ:=φIn) rfl
def axp:=ah (Γ:=aE7) (f:=63) (φ:=ug) rfl
theorem aiu:Sound Tryz.prog 125 ad7:=by
 refine ak mixed au5 Tryz.func125 rfl 16 rfl [.tmp 2] rfl (by kernel_rfl) fun ps r hr=>?_;obtain⟨b,rfl,hq⟩:=bC hr;clear hr;cases hq;refine⟨by simp,?_⟩;have grwi_c64:=av4;have grwi_c63:=axp;have ap:=bI;have ap2:=@wS;have h1:inB 1 1 1000=true:=by decide
 have h0:inB 0 0 1000=true:=by decide
 (try simp only[ai7]);exact wlkF
def aGS:Ctx:={fn:=aT [(34,φIn)],io:=aT []}
theorem avy:au Tryz.prog aGS:=okΓ (fC Tryz.func34 fK aj) aj
def ayg:=ah (Γ:=aGS) (f:=34) (φ:=φIn) rfl
theorem ai2:Sound Tryz.prog 99 ad7:=by
 refine ak mixed avy Tryz.func99 rfl 16 rfl [.tmp 2] rfl (by kernel_rfl) fun ps r hr=>?_;obtain⟨b,rfl,hq⟩:=bC hr;clear hr;cases hq;refine⟨by simp,?_⟩;have grws_c34:=ayg;have ap:=bI;have h1:inB 1 1 1000=true:=by decide
 have h0:inB 0 0 1000=true:=by decide
 (try simp only[ai7]);exact wlkF
def wo:Fun:=F1 azl fun l=>if l.length≤1000 then some (bv (decide (l.length≤30)))else none
theorem acA {l:List Bool} (h:l.length≤1000):wo [.lst false 4 (l.map fF)]=some (.val (.bool (decide (l.length≤30)))):=(dY (A:=azl) l).trans (if_pos h)
def aCq:Ctx:={fn:=aT [(125,ad7)],io:=aT []}
theorem asi:au Tryz.prog aCq:=okΓ (fC Tryz.func125 aiu aj) aj
def aod:=ah (Γ:=aCq) (f:=125) (φ:=ad7) rfl
theorem afF:Sound Tryz.prog 94 wo:=by
 refine ak mixed asi Tryz.func94 rfl 18 rfl [.tmp 2] rfl (by kernel_rfl) fun ps r hr=>?_;obtain⟨l,rfl,hpre,rfl⟩:=je hr;refine⟨by simp,?_⟩;simp only[dIs,dUs,dSs,bP,bS,bQ,bT,aP,bR,aQ,aO,aR,aL];(try simp only[ai7]);have hdec:decide ((l.length:Int)≤30)=decide (l.length≤30):=decide_eq_decide.2 (by omega);have grwsi_c125:=aod;have ap:=@ahk;(refine wlk ?_;intros);refine aB (α:=Nat×Nat) mixed (fun i=>[(0,.lst false 4 (l.map fF)),(5,.lst false 4 (l.map fF)),(6,iv l.length),(7,iv i.1)]) (fun i=>[]) (fun i=>i.2)
  (fun i=>i.1≤l.length) (fun i=>l.length-i.1) (by kernel_rfl) (0,0) (Nat.zero_le _) ?_ trivial rfl ?_
 ·exact agr
 rintro⟨k,y⟩ hk;dsimp only at hk;by_cases hkl:k<l.length
 ·(refine wlk ?_;intros)
  refine⟨(k+1,_),by dsimp only;omega,by dsimp only;omega,?_,trivial,rfl⟩;exact agr
 ·exact wlkF
def aC1:Ctx:={fn:=aT [(99,ad7)],io:=aT []}
theorem arf:au Tryz.prog aC1:=okΓ (fC Tryz.func99 ai2 aj) aj
def apA:=ah (Γ:=aC1) (f:=99) (φ:=ad7) rfl
theorem aez:Sound Tryz.prog 67 wo:=by
 refine ak mixed arf Tryz.func67 rfl 19 rfl [.tmp 2] rfl (by kernel_rfl) fun ps r hr=>?_;obtain⟨l,rfl,hpre,rfl⟩:=je hr;refine⟨by simp,?_⟩;simp only[dIs,dUs,dSs,bP,bS,bQ,bT,aP,bR,aQ,aO,aR,aL];(try simp only[ai7]);have hdec:decide ((l.length:Int)≤30)=decide (l.length≤30):=decide_eq_decide.2 (by omega);have grwss_c99:=apA;have ap:=@ahk;(refine wlk ?_;intros);refine aB (α:=Nat) mixed (fun i=>[(0,.lst false 4 (l.map fF)),(3,iv i)]) (fun i=>[]) (fun i=>0)
  (fun i=>i≤l.length) (fun i=>l.length-i) (by kernel_rfl) 0 (Nat.zero_le _) ?_ trivial rfl ?_
 ·exact agr
 intro k hk;by_cases hkl:k<l.length
 ·(refine wlk ?_;intros)
  refine⟨k+1,by omega,by dsimp only;omega,?_,trivial,rfl⟩;exact agr
 ·exact wlkF
def asX:Fun:=F1 azl fun l=>if l.length≤1000 then some (iv l.length)else none
theorem arn {l:List Bool} (h:l.length≤1000):asX [.lst false 4 (l.map fF)]=some (.val (.int .i64 l.length)):=(dY (A:=azl) l).trans (if_pos h)
theorem afK:Sound Tryz.prog 95 asX:=by
 refine ak mixed bV Tryz.func95 rfl 18 rfl [.tmp 2] rfl (by kernel_rfl) fun ps r hr=>?_;obtain⟨l,rfl,hpre,rfl⟩:=je hr;refine⟨by simp,?_⟩;simp only[dIs,dUs,dSs,bP,bS,bQ,bT,aP,bR,aQ,aO,aR,aL];(try simp only[ai7]);(refine wlk ?_;intros);refine aB (α:=Nat×Nat) mixed (fun i=>[(3,iv i.1),(6,.lst false 4 (l.map fF)),(7,iv l.length),(8,iv i.1)]) (fun i=>[]) (fun i=>i.2)
  (fun i=>i.1≤l.length) (fun i=>l.length-i.1) (by kernel_rfl) (0,0) (Nat.zero_le _) ?_ trivial rfl ?_
 ·exact agr
 rintro⟨k,y⟩ hk;dsimp only at hk;by_cases hkl:k<l.length
 ·(refine wlk ?_;intros)
  refine⟨(k+1,_),by dsimp only;omega,by dsimp only;omega,?_,trivial,rfl⟩;exact agr
 ·obtain rfl:k=l.length:=by omega
  exact wlkF
def aqx:Fun:=F2 azl dI fun l h=>if l.length≤1000 then some (bv (decide (l.length≤30)&&inB h 1 1000))else none
theorem aqB {l:List Bool} {h:Int} (hl:l.length≤1000):aqx [.lst false 4 (l.map fF),.val (.int .i64 h)]=some (.val (.bool (decide (l.length≤30)&&inB h 1 1000))):=(fZ (A:=azl) (B:=dI) l h).trans (if_pos hl)
def GPa:Ctx:={fn:=aT [(94,wo),(63,ug)],io:=aT []}
theorem aDR:au Tryz.prog GPa:=okΓ (fC Tryz.func94 afF (fC Tryz.func63 akN aj)) aj
def aAi:=ah (Γ:=GPa) (f:=94) (φ:=wo) rfl
def az0:=ah (Γ:=GPa) (f:=63) (φ:=ug) rfl
theorem aiL:Sound Tryz.prog 61 aqx:=by
 refine ak mixed aDR Tryz.func61 rfl 11 rfl [.tmp 4] rfl (by kernel_rfl) fun ps r hr=>?_;obtain⟨l,h,rfl,hpre,rfl⟩:=gN hr;refine⟨by simp,?_⟩;simp only[dIs,dUs,dSs,bP,bS,bQ,bT,aP,bR,aQ,aO,aR,aL];(try simp only[ai7]);have gpa_c94:=aAi;have gpa_c63:=az0;have ap:=@acA;have ap2:=@wS;cases h1:inB h 1 1000 with
 |true=>by_cases h2:l.length≤30
        ·exact wlkF
        ·exact wlkF
 |false=>by_cases h2:l.length≤30
         ·exact wlkF
         ·exact wlkF
def pcB (ks:List Bool) (h p q:Nat):Int:=if q=ks.length then 0 else((h:Int)-((q:Int)-p))*((h:Int)-((q:Int)-p))
def pcR (ks:List Bool) (h p q:Nat):Int:=if aiR ks h p q then pcB ks h p q else-1
theorem uV {ks:List Bool} {h:Nat} {E:Nat→Int} {p q:Nat}:lW ks h E p q=pcB ks h p q+E q:=rfl
theorem xW {ks:List Bool} {h p q:Nat} (hm:aiR ks h p q) (hh:h≤30):0≤pcB ks h p q∧pcB ks h p q≤900:=by
 obtain⟨h1,h2,h3,h4⟩:=hm;unfold pcB;split
 ·omega
 ·obtain⟨d,hd⟩:∃d:Nat,(h:Int)-((q:Int)-p)=d:=⟨h-(q-p),by omega⟩
  have hd2:d≤30:=by omega
  have:d*d≤30*30:=Nat.mul_le_mul hd2 hd2;rw[hd];have e:(d:Int)*d=((d*d:Nat):Int):=by simp
  omega
def aeS:Fun:=fun ps=>open Classical in if hx:∃(ks:List Bool) (h p q:Nat),ps=[.lst false 4 (ks.map fF),.val (.int .i64 h),.val (.int .i64 p),.val (.int .i64 q)]∧ks.length≤30∧h≤30∧p<q∧q≤ks.length then some (iv (pcR hx.choose hx.choose_spec.choose hx.choose_spec.choose_spec.choose hx.choose_spec.choose_spec.choose_spec.choose))else none
theorem atw {a b:List Bool} (h:a.map fF=b.map fF):a=b:=(List.map_inj_right fun x y e=>by simpa using e).1 h
theorem agl {ks:List Bool} {h p q:Nat} (h1:ks.length≤30) (h2:h≤30) (h3:p<q) (h4:q≤ks.length):aeS [.lst false 4 (ks.map fF),.val (.int .i64 h),.val (.int .i64 p),.val (.int .i64 q)]=some (.val (.int .i64 (pcR ks h p q))):=by have hx:∃(ks':List Bool) (h' p' q':Nat),[PV.lst false 4 (ks.map fF),.val (.int .i64 h),.val (.int .i64 p),.val (.int .i64 q)]=[.lst false 4 (ks'.map fF),.val (.int .i64 h'),.val (.int .i64 p'),.val (.int .i64 q')]∧ks'.length≤30∧h'≤30∧p'<q'∧q'≤ks'.length:=⟨ks,h,p,q,rfl,h1,h2,h3,h4⟩;unfold aeS;rw[dif_pos hx];have e:=hx.choose_spec.choose_spec.choose_spec.choose_spec.1;generalize hx.choose_spec.choose_spec.choose_spec.choose=q' at*;generalize hx.choose_spec.choose_spec.choose=p' at*;generalize hx.choose_spec.choose=h' at*;generalize hx.choose=ks' at*;simp only[List.cons.injEq,PV.lst.injEq,PV.val.injEq,Value.int.injEq,true_and,and_true,Int.natCast_inj]at e;obtain⟨e1,e2,e3,e4⟩:=e;rw[atw e1,e2,e3,e4]
theorem ajZ {ps:List PV} {r:PV} (h:aeS ps=some r):∃(ks:List Bool) (h p q:Nat),ps=[.lst false 4 (ks.map fF),.val (.int .i64 h),.val (.int .i64 p),.val (.int .i64 q)]∧(ks.length≤30∧h≤30∧p<q∧q≤ks.length)∧r=iv (pcR ks h p q):=by
 have h0:=h;unfold aeS at h;split at h
 ·rename_i hx
  obtain⟨ks,hh,p,q,rfl,h1,h2,h3,h4⟩:=hx;rw[agl h1 h2 h3 h4]at h0;exact⟨ks,hh,p,q,rfl,⟨h1,h2,h3,h4⟩,(Option.some.inj h0).symm⟩
 ·cases h
def GPc:Ctx:={fn:=aT [(95,asX)],io:=aT []}
theorem aDw:au Tryz.prog GPc:=okΓ (fC Tryz.func95 afK aj) aj
def ahf:=ah (Γ:=GPc) (f:=95) (φ:=asX) rfl
theorem aeg:Sound Tryz.prog 62 aeS:=by
 refine ak mixed aDw Tryz.func62 rfl 47 rfl [.tmp 8] rfl (by kernel_rfl) fun ps r hr=>?_;obtain⟨ks,h,p,q,rfl,⟨h1,h2,h3,h4⟩,rfl⟩:=ajZ hr;clear hr;refine⟨by simp,?_⟩;have hsl:((ks.drop p).take (q-p)).length=q-p:=by rw[List.length_take,List.length_drop];omega
 have aph:=arn (l:=(ks.drop p).take (q-p)) (by omega);rw[hsl]at aph;have hqp:((q-p:Nat):Int)=(q:Int)-p:=by omega
 by_cases hneg:(h:Int)-((q:Int)-p)<0
 ·have hR:pcR ks h p q=-1:=if_neg fun hm=>by have:=hm.2.2.1;omega
  rw[hR];have gpc_c95:=ahf;exact wlkF
 ·obtain⟨d,hd⟩:∃d:Nat,(h:Int)-((q:Int)-p)=d:=⟨h-(q-p),by omega⟩
  have hd2:d≤30:=by omega
  have hdd:d*d≤30*30:=Nat.mul_le_mul hd2 hd2;have hdc:(d:Int)*d=((d*d:Nat):Int):=by simp
  have w1:=dD (n:=((h:Int)-((q:Int)-p))*((h:Int)-((q:Int)-p))) (by rw[hd,hdc];omega) (by rw[hd,hdc];omega);clear hd hd2 hdd hdc;by_cases hqn:q=ks.length
  ·subst hqn
   have hR:pcR ks h p ks.length=0:=by unfold pcR;rw[if_pos ⟨h3,h4,by omega,fun e=>by omega⟩];exact if_pos rfl
   rw[hR];have gpc_c95:=ahf;exact wlkF
  ·cases hkp:ks[q-1]?.getD false with
   |true=>have hR:pcR ks h p q=-1:=if_neg fun hm=>hm.2.2.2 ⟨by omega,hkp⟩;rw[hR];have gpc_c95:=ahf;exact wlkF
   |false=>
    have hR:pcR ks h p q=((h:Int)-((q:Int)-p))*((h:Int)-((q:Int)-p)):=by unfold pcR;rw[if_pos ⟨h3,h4,by omega,fun e=>by rw[show ajc ks (q-1)=ks[q-1]?.getD false from rfl,hkp]at e;cases e.2⟩];exact if_neg hqn
    rw[hR];have gpc_c95:=ahf;exact wlkF
theorem ahV {ks:List Bool} {h:Nat} {E:Nat→Int} {p:Nat} {B:Int} (hp:p≤ks.length) (hh:h≤30) (hB:0≤B) (hE:∀q,E q≤B):∀m,m≤ks.length→-1≤(dnP ks h E p m).1∧(dnP ks h E p m).1≤900+B∧(dnP ks h E p m).2≤ks.length:=fun m hm=>by
 have hb:=vD (ks:=ks) (h:=h) (E:=E) (p:=p) m hm;by_cases c:(dnP ks h E p m).1<0
 ·rw[(hb.no c).1]
  refine⟨?_,?_,?_⟩
  ·show(-1:Int)≤-1
   omega
  ·show(-1:Int)≤900+B
   omega
  ·show 0≤ks.length
   omega
 ·obtain⟨q1,q2,q3,q4⟩:=hb.yes (by omega)
  have h1:=xW q2.1 hh;have h2:=hE (dnP ks h E p m).2;rw[uV]at q3;exact⟨by omega,by omega,q1.2⟩
theorem nJ {ks:List Bool} {h:Nat} (hh:h≤30):∀k,k≤ks.length→∀x,-1≤(tbP ks h k x).1∧(tbP ks h k x).1≤900*k∧(tbP ks h k x).2≤ks.length
 |0,_,x=>⟨by show(-1:Int)≤0;omega,by show(0:Int)≤900*0;omega,Nat.zero_le _⟩
 |k+1,hk,x=>by
  have ih:=nJ (ks:=ks) hh k (by omega);show-1≤(if x=ks.length-(k+1)then bq ks h (fun q=>(tbP ks h k q).1) (ks.length-(k+1))else tbP ks h k x).1∧(if x=ks.length-(k+1)then bq ks h (fun q=>(tbP ks h k q).1) (ks.length-(k+1))else tbP ks h k x).1≤900*((k+1:Nat):Int)∧(if x=ks.length-(k+1)then bq ks h (fun q=>(tbP ks h k q).1) (ks.length-(k+1))else tbP ks h k x).2≤ks.length;split
  ·have:=ahV (ks:=ks) (h:=h) (E:=fun q=>(tbP ks h k q).1) (p:=ks.length-(k+1)) (B:=900*k) (by omega) hh (by omega) (fun q=>(ih q).2.1) (ks.length-(ks.length-(k+1))) (by omega)
   unfold bq;refine⟨this.1,by omega,this.2.2⟩
  ·have:=ih x
   exact⟨this.1,by omega,this.2.2⟩
theorem af4 {ks:List Bool} {h k:Nat} (hk:k<ks.length):(fun x=>(tbP ks h (k+1) x).1)=ovr (fun x=>(tbP ks h k x).1) (ks.length-(k+1)) (bq ks h (fun q=>(tbP ks h k q).1) (ks.length-(k+1))).1∧(fun x=>((tbP ks h (k+1) x).2:Int))=ovr (fun x=>((tbP ks h k x).2:Int)) (ks.length-(k+1)) ((bq ks h (fun q=>(tbP ks h k q).1) (ks.length-(k+1))).2:Int):=by
 constructor<;>(funext x;show _=if x=_ then _ else _;split)
 ·rename_i e;subst e;show(if ks.length-(k+1)=ks.length-(k+1)then _ else _:Int×Nat).1=_;rw[if_pos rfl]
 ·rename_i e;show(if x=ks.length-(k+1)then _ else _:Int×Nat).1=_;rw[if_neg e]
 ·rename_i e;subst e;show((if ks.length-(k+1)=ks.length-(k+1)then _ else _:Int×Nat).2:Int)=_;rw[if_pos rfl]
 ·rename_i e;show((if x=ks.length-(k+1)then _ else _:Int×Nat).2:Int)=_;rw[if_neg e]
def yZ:Fun:=fun ps=>open Classical in if hx:∃(ks:List Bool) (h:Nat),ps=[.lst false 4 (ks.map fF),.val (.int .i64 h)]∧ks.length≤30∧1≤h∧h≤30 then some (.tup [.lst true 1 (((ku hx.choose hx.choose_spec.choose).map fun n:Nat=>(n:Int)).map fun n=> .val (.int .i64 n)),bv (ab9 hx.choose hx.choose_spec.choose)])else none
theorem vw {ks:List Bool} {h:Nat} (h1:ks.length≤30) (h2:1≤h) (h3:h≤30):yZ [.lst false 4 (ks.map fF),.val (.int .i64 h)]=some (.tup [.lst true 1 (((ku ks h).map fun n:Nat=>(n:Int)).map fun n=> .val (.int .i64 n)),.val (.bool (ab9 ks h))]):=by have hx:∃(ks':List Bool) (h':Nat),[PV.lst false 4 (ks.map fF),.val (.int .i64 h)]=[.lst false 4 (ks'.map fF),.val (.int .i64 h')]∧ks'.length≤30∧1≤h'∧h'≤30:=⟨ks,h,rfl,h1,h2,h3⟩;unfold yZ;rw[dif_pos hx];have e:=hx.choose_spec.choose_spec.1;generalize hx.choose_spec.choose=h' at*;generalize hx.choose=ks' at*;simp only[List.cons.injEq,PV.lst.injEq,PV.val.injEq,Value.int.injEq,true_and,and_true,Int.natCast_inj]at e;obtain⟨e1,e2⟩:=e;rw[atw e1,e2]
theorem zu {ps:List PV} {r:PV} (h:yZ ps=some r):∃(ks:List Bool) (h:Nat),ps=[.lst false 4 (ks.map fF),.val (.int .i64 h)]∧(ks.length≤30∧1≤h∧h≤30)∧r=.tup [.lst true 1 (((ku ks h).map fun n:Nat=>(n:Int)).map fun n=> .val (.int .i64 n)),bv (ab9 ks h)]:=by
 have h0:=h;unfold yZ at h;split at h
 ·rename_i hx
  obtain⟨ks,hh,rfl,h1,h2,h3⟩:=hx;rw[vw h1 h2 h3]at h0;exact⟨ks,hh,rfl,⟨h1,h2,h3⟩,(Option.some.inj h0).symm⟩
 ·cases h
def aF3:Ctx:={fn:=aT [(61,aqx),(62,aeS)],io:=aT []}
theorem avB:au Tryz.prog aF3:=okΓ (fC Tryz.func61 aiL (fC Tryz.func62 aeg aj)) aj
def aw5:=ah (Γ:=aF3) (f:=61) (φ:=aqx) rfl
def au1:=ah (Γ:=aF3) (f:=62) (φ:=aeS) rfl
theorem ajv:Sound Tryz.prog 26 yZ:=by
 refine gB mixed avB Tryz.func26 rfl 105 rfl [.tmp 4,.tmp 5] rfl (by kernel_rfl) fun ps r hr=>?_;obtain⟨ks,h,rfl,⟨h1,h2,h3⟩,rfl⟩:=zu hr;clear hr;refine⟨by simp,?_⟩;have apa:=aqB (l:=ks) (h:=h) (by omega);rw[decide_eq_true h1,show inB (h:Int) 1 1000=true from aD.2 ⟨by omega,by omega⟩]at apa;have gbpi_c61:=aw5;have gbpi_c62:=au1;(refine wlk ?_;intros);refine aB (α:=Nat) mixed (fun k=>[(0,.lst false 4 (ks.map fF)),(1,iv h),(6,iv ks.length),(7,.row 0 1 0 (ks.length+1)),(8,.row 1 1 0 (ks.length+1)),(9,.val (.int .i64 ((ks.length:Int)-1-k)))])
  (fun k=>[(0,3,1,aav ks.length (fun x=>(tbP ks h k x).1)),(1,3,1,aav ks.length (fun x=>((tbP ks h k x).2:Int)))]) (fun _=>2) (fun k=>k≤ks.length) (fun k=>ks.length-k) (by kernel_rfl) 0 (Nat.zero_le _) ?_ ?_ rfl ?_
 ·exact agi
 ·simp(disch:=(first|omega|(simp only[push_cast];first|done|omega))) only[push_cast,↓reduceIte,Rq,Rb,Ra,Rs,Rt,List.length_append, *]
  try exact⟨rfl,rfl⟩
 intro k hk;have hbd:=nJ (ks:=ks) h3 k hk;by_cases hkl:k<ks.length
 ·obtain⟨e1,e2⟩:=af4 (h:=h) hkl
  have hlow:=aea (ks:=ks) (h:=h) (k:=k) (x:=ks.length-(k+1)) hk (by omega);have hp:(ks.length:Int)-1-k=((ks.length-(k+1):Nat):Int):=by omega
  rw[hp];replace hp:=Lib.hid hp;have hdn:=fun m hm=>ahV (ks:=ks) (h:=h) (E:=fun q=>(tbP ks h k q).1) (p:=ks.length-(k+1)) (B:=900*k) (by omega) h3 (by omega) (fun q=>(hbd q).2.1) m hm;have hbq:bq ks h (fun q=>(tbP ks h k q).1) (ks.length-(k+1))=dnP ks h (fun q=>(tbP ks h k q).1) (ks.length-(k+1)) (ks.length-(ks.length-(k+1))):=rfl;rw[hbq]at e1 e2;clear hbq;have hN0:((tbP ks h k (ks.length-(k+1))).2:Int)=0:=by rw[hlow];rfl
  have hEb:∀x,-1≤(fun x=>(tbP ks h k x).1) x∧(fun x=>(tbP ks h k x).1) x≤27000:=fun x=>by have:=hbd x;exact⟨this.1,by dsimp only;omega⟩
  replace hN0:(fun x=>((tbP ks h k x).2:Int)) (ks.length-(k+1))=0:=hN0;have hpk:ks.length-(k+1)<ks.length:=by omega
  clear hbd hlow;generalize hEe:(fun x=>(tbP ks h k x).1)=E at*;generalize hNe:(fun x=>((tbP ks h k x).2:Int))=Nx at*;replace e1:=Lib.hid e1;replace e2:=Lib.hid e2;clear hEe hNe;generalize ks.length-(k+1)=p at*;have hov:ovr Nx p ((dnP ks h E p 0).2:Int)=Nx:=by rw[show((dnP ks h E p 0).2:Int)=Nx p from hN0.symm];exact auD
  replace hov:=Lib.hid hov;replace hN0:=Lib.hid hN0;(refine wlk ?_;intros);refine aB (α:=Nat) mixed (fun m=>[(0,.lst false 4 (ks.map fF)),(1,iv h),(6,iv ks.length),(7,.row 0 1 0 (ks.length+1)),(8,.row 1 1 0 (ks.length+1)),(9,iv p),(10,.val (.int .i64 ((ks.length:Int)-m)))])
   (fun m=>[(0,3,1,aav ks.length (ovr E p (dnP ks h E p m).1)),(1,3,1,aav ks.length (ovr Nx p ((dnP ks h E p m).2:Int)))]) (fun _=>2) (fun m=>m≤ks.length-p) (fun m=>ks.length-p-m) (by kernel_rfl) 0 (Nat.zero_le _) ?_ ?_ rfl ?_
  ·exact agi
  ·(try dsimp only)
   rw[hov.out];simp(disch:=(first|omega|(simp only[push_cast];first|done|omega))) only[push_cast,↓reduceIte,Rq,Rb,Ra,Rs,Rt,List.length_append, *];try rfl
  intro m hm;have hsb:=hdn m (by omega);by_cases hml:m<ks.length-p
  ·have hq:(ks.length:Int)-m=((ks.length-m:Nat):Int):=by omega
   have hst:dnP ks h E p (m+1)=afA ks h E p (ks.length-m) (dnP ks h E p m):=rfl;have hpq:p<ks.length-m:=by omega
   have hqn:ks.length-m≤ks.length:=by omega
   have hEq:=hEb (ks.length-m);(try dsimp only);rw[hq];replace hq:=Lib.hid hq;generalize ks.length-m=q at*;have apc:=agl (ks:=ks) (h:=h) (p:=p) (q:=q) h1 h3 hpq hqn;have hpm:=fun hm=>xW (ks:=ks) (h:=h) (p:=p) (q:=q) hm h3;generalize dnP ks h E p m=s at*;have ea:ovr E p s.1 q=E q:=atS (by omega);have eb:ovr E p s.1 p=s.1:=atW;have eo:∀v,ovr (ovr E p s.1) p v=ovr E p v:=fun v=>abx;have eo2:∀v,ovr (ovr Nx p (s.2:Int)) p v=ovr Nx p v:=fun v=>abx;unfold afA okQ at hst;rw[uV]at hst;clear hEb hN0 hov hdn e1 e2 hp;by_cases hok:aiR ks h p q
   ·have hpc:pcR ks h p q=pcB ks h p q:=if_pos hok
    obtain⟨hc0,hc1⟩:=hpm hok;rw[hpc]at apc;clear hpm hpc;by_cases hE0:E q<0
    ·have hst2:dnP ks h E p (m+1)=s:=by rw[hst];exact if_neg fun e=>by have:=e.1.2;omega
     replace hst2:=Lib.hid hst2;clear hst;generalize pcB ks h p q=c at*;(refine wlk ?_;intros);refine⟨m+1,by omega,by dsimp only;omega,?_,?_,rfl⟩
     ·have hq:=hq.out
      exact agi
     ·(try dsimp only)
      rw[hst2.out];exact agr
    ·by_cases hs0:s.1<0
     ·have hst2:dnP ks h E p (m+1)=(pcB ks h p q+E q,q):=by rw[hst];exact if_pos ⟨⟨hok,by omega⟩,.inl hs0⟩
      replace hst2:=Lib.hid hst2;clear hst;generalize pcB ks h p q=c at*;(refine wlk ?_;intros);refine⟨m+1,by omega,by dsimp only;omega,?_,?_,rfl⟩
      ·have hq:=hq.out
       exact agi
      ·(try dsimp only)
       rw[hst2.out];exact agr
     ·by_cases hlt:pcB ks h p q+E q<s.1
      ·have hst2:dnP ks h E p (m+1)=(pcB ks h p q+E q,q):=by rw[hst];exact if_pos ⟨⟨hok,by omega⟩,.inr hlt⟩
       replace hst2:=Lib.hid hst2;clear hst;generalize pcB ks h p q=c at*;(refine wlk ?_;intros);refine⟨m+1,by omega,by dsimp only;omega,?_,?_,rfl⟩
       ·have hq:=hq.out
        exact agi
       ·(try dsimp only)
        rw[hst2.out];exact agr
      ·have hst2:dnP ks h E p (m+1)=s:=by rw[hst];exact if_neg fun e=>e.2.elim hs0 hlt
       replace hst2:=Lib.hid hst2;clear hst;generalize pcB ks h p q=c at*;(refine wlk ?_;intros);refine⟨m+1,by omega,by dsimp only;omega,?_,?_,rfl⟩
       ·have hq:=hq.out
        exact agi
       ·(try dsimp only)
        rw[hst2.out];exact agr
   ·have hpc:pcR ks h p q=-1:=if_neg hok
    rw[hpc]at apc;have hst2:dnP ks h E p (m+1)=s:=by rw[hst];exact if_neg fun e=>hok e.1.1
    replace hst2:=Lib.hid hst2;clear hst hpm hpc;(refine wlk ?_;intros);refine⟨m+1,by omega,by dsimp only;omega,?_,?_,rfl⟩
    ·have hq:=hq.out
     exact agi
    ·(try dsimp only)
     rw[hst2.out];exact agr
  ·obtain rfl:m=ks.length-p:=by omega
   have hm2:(ks.length:Int)-((ks.length-p:Nat):Int)=p:=by omega
   (try dsimp only);rw[hm2];clear hm2;generalize dnP ks h E p (ks.length-p)=s at*;(refine wlk ?_;intros);refine⟨k+1,by omega,by dsimp only;omega,?_,?_,rfl⟩
   ·have hp:=hp.out
    exact agi
   ·(try dsimp only)
    rw[e1.out,e2.out];exact agr
 ·obtain rfl:k=ks.length:=by omega
  (try dsimp only);rw[show(ks.length:Int)-1-(ks.length:Int)=-1 by omega,show(fun x=>(tbP ks h ks.length x).1)=dN ks h from rfl,show(fun x=>((tbP ks h ks.length x).2:Int))=fun x=>(lC ks h x:Int)from rfl];have hb0:-1≤dN ks h 0∧dN ks h 0≤27000:=by have:=hbd 0;exact⟨this.1,by unfold dN;omega⟩
  clear hbd;cases hB:ab9 ks h with
  |false=>
   have hl0:dN ks h 0<0:=by unfold ab9 at hB;simpa using hB
   have hE0:ku ks h=[]:=by unfold ku;rw[if_neg (by rw[hB];decide)]
   rw[hE0,List.map_nil,List.map_nil];clear hB hE0;generalize dN ks h=L at*;generalize(fun x=>(lC ks h x:Int))=Nx at*;(refine wlk ?_;intros);all_goals((with_reducible apply cO (by first|exact .inl rfl|exact .inr rfl));(exact sr))
   all_goals exact qL ⟨nil_le _ _,PV.le_refl _,trivial⟩
  |true=>
   have hl0:=abQ.1 hB;have hE0:ku ks h=oJ ks h ks.length 0:=if_pos hB;have hch:=xg (zY hB);have hnm:=fun p h1 h2=>aao (ks:=ks) (h:=h) (p:=p) h1 h2;have hpe:=fun f=>ah0 (ks:=ks) (h:=h) (f:=f);have hpS:∀f p,p<ks.length→oJ ks h (f+1) p=lC ks h p::oJ ks h f (lC ks h p):=fun f p hp=>if_pos hp;have hNb:∀p,lC ks h p≤ks.length:=fun p=>by
    by_cases hp:p<ks.length
    ·exact(yj (ks:=ks) (h:=h) (E:=dN ks h) (p:=p) (by omega))|>fun hb=>by
      have e:=aeR (h:=h) hp;by_cases c:(bq ks h (dN ks h) p).1<0
      ·unfold lC
       rw[e,(hb.no c).1];exact Nat.zero_le _
      ·unfold lC
       rw[e];exact(hb.yes (by omega)).1.2
    ·have:=(nJ (ks:=ks) h3 ks.length (Nat.le_refl _) p).2.2
     exact this
   rw[hE0]at hch;rw[hE0];clear hB hE0;generalize hLL:dN ks h=L at*;generalize hNN:lC ks h=Nx at*;generalize hZ:(oJ ks h ks.length 0).map (fun n:Nat=>(n:Int))=Z at*;have hZl:Z.length≤ks.length:=by rw[←hZ,List.length_map];exact hch
   (refine wlk ?_;intros);refine aB (α:=List Int×Nat×Nat×Nat) mixed (fun i=>[(6,iv ks.length),(8,.row 1 1 0 (ks.length+1)),(12,nP 1 (i.1.map fun n=> .val (.int .i64 n)) i.2.2.1),(13,iv i.2.1)])
    (fun i=>[(1,3,1,aav ks.length (fun x=>(Nx x:Int)))]++nO 3 1 (i.1.map fun n=> .val (.int .i64 n)) i.2.2.1) (fun i=>i.2.2.2)
    (fun i=>(i.2.1≤ks.length∧0≤L i.2.1)∧(2≤i.2.2.2∧(0<i.1.length→2≤i.2.2.1∧i.2.2.1<i.2.2.2))∧∃f,ks.length-i.2.1≤f∧i.1++(oJ ks h f i.2.1).map (fun n:Nat=>(n:Int))=Z) (fun i=>ks.length-i.2.1) (by kernel_rfl) ([],0,0,2) ⟨⟨Nat.zero_le _,hl0⟩,⟨Nat.le_refl _,fun e=>absurd e (Nat.lt_irrefl 0)⟩,ks.length,by dsimp only;omega,by rw[List.nil_append];exact hZ⟩ ?_ ?_ rfl ?_
   ·(try dsimp only)
    rw[List.map_nil,bW];exact agi
   ·(try dsimp only)
    rw[List.map_nil,bU];simp(disch:=(first|omega|(simp only[push_cast];first|done|omega))) only[push_cast,↓reduceIte,Rq,Rb,Ra,Rs,Rt,List.cons_append,List.nil_append,List.append_nil, *]
   rintro⟨OUT,p,o,y⟩ ⟨⟨hp,hLp⟩,⟨hy,hoy⟩,f,hf,hout⟩;dsimp only at hp hLp hy hoy hf hout⊢;by_cases hpl:p<ks.length
   ·obtain⟨f,rfl⟩:∃g,f=g+1:=⟨f-1,by omega⟩
    obtain⟨hm1,hm2⟩:=hnm p hpl hLp;have hn1:=hm1.1;have hn2:=hm1.2.1;rw[hpS f p hpl,List.map_cons]at hout;have hout2:(OUT++[(Nx p:Int)])++(oJ ks h f (Nx p)).map (fun n:Nat=>(n:Int))=Z:=by rw[List.append_assoc];exact hout
    have hol:OUT.length+1≤ks.length:=by have:=congrArg List.length hout2;simp only[List.length_append,List.length_singleton]at this;omega
    clear hout hnm hpe hpS hm1 hLL hNN hZ hch;replace hout2:=Lib.hid hout2;replace hm2:=Lib.hid hm2;by_cases hO:OUT.length=0
    ·obtain rfl:OUT=[]:=List.eq_nil_of_length_eq_zero hO
     rw[List.map_nil,bW,bU,List.append_nil];clear hO hoy;(refine wlk ?_;intros);refine⟨([(Nx p:Int)],Nx p,y+1,y+2),⟨⟨by dsimp only;omega,hm2.out⟩,⟨by dsimp only;omega,fun _=>⟨by dsimp only;omega,by dsimp only;omega⟩⟩,f,by dsimp only;omega,hout2.out⟩,by dsimp only;omega,?_,?_,rfl⟩
     ·(try dsimp only)
      rw[av (by simp)];exact agi
     ·(try dsimp only)
      rw[ay (by simp)];simp(disch:=(first|omega|(simp only[push_cast];first|done|omega))) only[push_cast,↓reduceIte,Rq,Rb,Ra,Rs,Rt,List.cons_append,List.nil_append,List.append_nil, *]
    ·obtain⟨ho1,ho2⟩:=hoy (by omega)
     rw[av (es:=OUT.map fun n=> .val (.int .i64 n)) (by rw[List.length_map];omega),ay (es:=OUT.map fun n=> .val (.int .i64 n)) (by rw[List.length_map];omega)];simp only[List.cons_append,List.nil_append,List.length_map];(refine wlk ?_;intros);refine⟨(OUT++[(Nx p:Int)],Nx p,y+1,y+2),⟨⟨by dsimp only;omega,hm2.out⟩,⟨by dsimp only;omega,fun _=>⟨by dsimp only;omega,by dsimp only;omega⟩⟩,f,by dsimp only;omega,hout2.out⟩,by dsimp only;omega,?_,?_,rfl⟩
     ·(try dsimp only)
      rw[av (by simp)];exact agi
     ·(try dsimp only)
      rw[ay (by simp)];simp(disch:=(first|omega|(simp only[push_cast];first|done|omega))) only[push_cast,↓reduceIte,Rq,Rb,Ra,Rs,Rt,List.cons_append,List.nil_append,List.append_nil, *]
   ·obtain rfl:p=ks.length:=by omega
    rw[hpe f,List.map_nil,List.append_nil]at hout;subst hout;clear hnm hpe hpS hLL hNN hZ hch hNb;by_cases hO:OUT.length=0
    ·obtain rfl:OUT=[]:=List.eq_nil_of_length_eq_zero hO
     rw[List.map_nil,bW,bU,List.append_nil];clear hO hoy;(refine wlk ?_;intros);all_goals((with_reducible apply cO (by first|exact .inl rfl|exact .inr rfl));(exact sr))
     all_goals exact qL ⟨nil_le _ _,PV.le_refl _,trivial⟩
    ·obtain⟨ho1,ho2⟩:=hoy (by omega)
     rw[av (es:=OUT.map fun n=> .val (.int .i64 n)) (by rw[List.length_map];omega),ay (es:=OUT.map fun n=> .val (.int .i64 n)) (by rw[List.length_map];omega)];simp only[List.cons_append,List.nil_append,List.length_map];(refine wlk ?_;intros);all_goals((with_reducible apply cO (by first|exact .inl rfl|exact .inr rfl));(exact sr))
     all_goals exact PV.le_refl _
abbrev zN (c:List Nat):List Int:=c.map fun n:Nat=>(n:Int)
theorem aAJ {a b:List Nat} (h:zN a=zN b):a=b:=(List.map_inj_right fun x y e=>Int.natCast_inj.1 e).1 h
theorem int_inj {a b:List Int} (h:(a.map fun n=>PV.val (.int .i64 n))=b.map fun n=>PV.val (.int .i64 n)):a=b:=(List.map_inj_right fun x y e=>by simpa using e).1 h
theorem asC {c:List Nat} {k:Nat} (h:k<c.length):(zN c)[k]?.getD 0=((c[k]?.getD 0:Nat):Int):=by rw[List.getElem?_map,List.getElem?_eq_getElem h];rfl
def aus (c:List Nat):Prop:=(∀x∈c,1≤x)∧c.sum≤30
def aaS:Fun:=fun ps=>open Classical in if hx:∃c:List Nat,ps=[.lst false 1 ((zN c).map fun n=> .val (.int .i64 n)),.val (.int .i64 1)]∧aus c then some (.lst true 4 ((dQ hx.choose).map fF))else none
theorem vI {c:List Nat} (h:aus c):aaS [.lst false 1 ((zN c).map fun n=> .val (.int .i64 n)),.val (.int .i64 1)]=some (.lst true 4 ((dQ c).map fF)):=by have hx:∃c':List Nat,[PV.lst false 1 ((zN c).map fun n=> .val (.int .i64 n)),.val (.int .i64 1)]=[.lst false 1 ((zN c').map fun n=> .val (.int .i64 n)),.val (.int .i64 1)]∧aus c':=⟨c,rfl,h⟩;unfold aaS;rw[dif_pos hx];have e:=hx.choose_spec.1;generalize hx.choose=c' at*;simp only[List.cons.injEq,PV.lst.injEq,true_and,and_true]at e;rw[aAJ (int_inj e)]
theorem zU {ps:List PV} {r:PV} (h:aaS ps=some r):∃c:List Nat,ps=[.lst false 1 ((zN c).map fun n=> .val (.int .i64 n)),.val (.int .i64 1)]∧aus c∧r=.lst true 4 ((dQ c).map fF):=by
 have h0:=h;unfold aaS at h;split at h
 ·rename_i hx
  obtain⟨c,rfl,hc⟩:=hx;rw[vI hc]at h0;exact⟨c,rfl,hc,(Option.some.inj h0).symm⟩
 ·cases h
theorem az1 {c:List Nat} (h:aus c):c.length≤30:=by
 have:c.length≤c.sum:=by
  have h1:=h.1;clear h
  induction c with
  |nil=>simp
  |cons x c ih=>have:=ih fun y hy=>h1 y (by simp[hy]);have:=h1 x (by simp);simp only[List.length_cons,List.sum_cons];omega
 have:=h.2;omega
theorem acn {c:List Nat} (h:aus c) {k:Nat} (hk:k<c.length):1≤c[k]?.getD 0∧(dQ (c.take k)).length+c[k]?.getD 0≤30:=by have h1:=af0 hk;have h2:=wW c (k+1);rw[qb];refine⟨?_,by have:=h.2;omega⟩;rw[List.getElem?_eq_getElem hk,Option.getD_some];exact h.1 _ (List.getElem_mem hk)
def aAV:Ctx:={fn:=aT [(34,φIn)],io:=aT []}
theorem aq9:au Tryz.prog aAV:=okΓ (fC Tryz.func34 fK aj) aj
def asJ:=ah (Γ:=aAV) (f:=34) (φ:=φIn) rfl
theorem aiT:Sound Tryz.prog 31 aaS:=by
 refine gB mixed aq9 Tryz.func31 rfl 75 rfl [.tmp 4] rfl (by kernel_rfl) fun ps r hr=>?_;obtain⟨c,rfl,hc,rfl⟩:=zU hr;clear hr;refine⟨by simp,?_⟩;have hcl:=az1 hc;have hzl:(zN c).length=c.length:=by simp
 have hza:=fun k h=>asC (c:=c) (k:=k) h;have hpt:=fun k h=>acn hc (k:=k) h;have hrt:=fun k h=>sj (c:=c) (k:=k) h;have hfull:c.take c.length=c:=List.take_length;have h11:inB 1 1 1000=true:=by decide
 have ap:=bI;clear hc;generalize zN c=C at*;have grwps_c34:=asJ;(refine wlk ?_;intros);refine aB (α:=Nat×Nat×Nat) mixed (fun i=>[(0,.lst false 1 (C.map fun n=> .val (.int .i64 n))),(1,iv 1),(5,.row i.2.1 4 0 (dQ (c.take i.1)).length),(6,iv i.1)])
  (fun i=>[(i.2.1,88,4,(dQ (c.take i.1)).map fF)]) (fun i=>i.2.2) (fun i=>i.1≤c.length∧i.2.1<i.2.2) (fun i=>c.length-i.1) (by kernel_rfl) (0,0,1) ⟨Nat.zero_le _,by decide⟩ ?_ ?_ rfl ?_
 ·(simp(disch:=(first|omega|(simp only[push_cast];first|done|omega))) only[push_cast,↓reduceIte,Rq,Rb,Ra,Rs,Rt,List.length_append, *];try exact congrArg (fun z=>PV.val (Value.int IntKind.i64 z)) (by omega))
  try rfl
 ·simp(disch:=(first|omega|(simp only[push_cast];first|done|omega))) only[push_cast,↓reduceIte,Rq,Rb,Ra,Rs,Rt,List.length_append, *]
  try rfl
 rintro⟨k,o,y⟩ ⟨hk,hoy⟩;dsimp only at hk hoy⊢;by_cases hkl:k<c.length
 ·obtain⟨hn1,hn30⟩:=hpt k hkl
  have hzk:=hza k hkl;have hr1:=hrt k hkl;have hin:inB (c[k]?.getD 0:Nat) 1 30=true:=aD.2 ⟨by omega,by omega⟩;clear hpt hza hrt hfull;replace hr1:=Lib.hid hr1;generalize c[k]?.getD 0=n at*;generalize dQ (c.take k)=R at*;(refine wlk ?_;intros);refine aB (α:=Nat×Nat×Nat) mixed (fun i=>[(0,.lst false 1 (C.map fun n=> .val (.int .i64 n))),(1,iv 1),(5,.row i.2.1 4 0 (R++kpN n i.1).length),(6,iv k),(7,iv i.1)])
   (fun i=>[(i.2.1,88,4,(R++kpN n i.1).map fF)]) (fun i=>i.2.2) (fun i=>i.1≤n∧i.2.1<i.2.2) (fun i=>n-i.1) (by kernel_rfl) (0,o,_) ⟨Nat.zero_le _,hoy⟩ ?_ ?_ rfl ?_
  ·(try dsimp only)
   rw[jN,List.append_nil];exact agi;try rfl
  ·(try dsimp only)
   rw[jN,List.append_nil];exact agr;try rfl
  rintro⟨j,o2,y2⟩ ⟨hj,hoy2⟩;dsimp only at hj hoy2⊢;have hRl:(R++kpN n j).length=R.length+j:=by rw[List.length_append,ni]
  by_cases hjl:j<n
  ·have hs:(R++kpN n (j+1)).map fF=(R++kpN n j).map fF++[fF (kp n j)]:=by rw[aaZ,←List.append_assoc,List.map_append];rfl
   have hsl:(R++kpN n (j+1)).length=R.length+j+1:=by rw[List.length_append,ni];omega
   replace hs:=Lib.hid hs;replace hsl:=Lib.hid hsl;have hkt:=fun h=>aDX (n:=n) (j:=j) h;have hkf:=fun h=>aGc (n:=n) (j:=j) h;replace hkt:=Lib.hid hkt;replace hkf:=Lib.hid hkf;have hml:((R++kpN n j).map fF).length=R.length+j:=by rw[List.length_map,hRl]
   rw[hRl];generalize(R++kpN n j).map fF=Q at*;clear hr1 hRl;(refine wlk6 ?_ ?_ ?_ ?_ ?_ ?_<;>intros<;>try with_reducible exact trivial);all_goals refine⟨(j+1,y2+1,y2+2),⟨by dsimp only;omega,by dsimp only;omega⟩,by dsimp only;omega,?_,?_,rfl⟩
   all_goals first
    |(dsimp only;rw[hsl.out];(simp(disch:=(first|omega|(simp only[push_cast];first|done|omega))) only[push_cast,↓reduceIte,Rq,Rb,Ra,Rs,Rt,List.length_append, *];try exact congrArg (fun z=>PV.val (Value.int IntKind.i64 z)) (by omega));done)
    |skip
   all_goals(try dsimp only)
   all_goals rw[hs.out]
   all_goals first
    |rw[hkt.out (by omega)]
    |rw[hkf.out (by omega)]
    |rw[show kp n j=decide ((2:Int)<(n:Int)) by
      rcases Nat.lt_or_ge 2 n with q|q
      ·rw[hkt.out (by omega),decide_eq_true (by omega)]
      ·rw[hkf.out (by omega),decide_eq_false (by omega)]]
    |rw[show kp n j=decide ((1:Int)<(n:Int)) by
      rcases Nat.lt_or_ge 1 n with q|q
      ·rw[hkt.out (by omega),decide_eq_true (by omega)]
      ·rw[hkf.out (by omega),decide_eq_false (by omega)]]
   all_goals(try rw[show decide ((2:Int)<(n:Int))=true from decide_eq_true (by omega)])
   all_goals(try rw[show decide ((1:Int)<(n:Int))=true from decide_eq_true (by omega)])
   all_goals exact agr
  ·obtain rfl:j=n:=by omega
   rw[←hr1.out]at*;(refine wlk ?_;intros);refine⟨(k+1,o2,y2),⟨by dsimp only;omega,hoy2⟩,by dsimp only;omega,?_,?_,rfl⟩
   ·exact agi
   ·exact agr
 ·obtain rfl:k=c.length:=by omega
  rw[hfull];clear hpt hza hrt hfull;generalize dQ c=R at*;(refine wlk ?_;intros);all_goals((with_reducible apply cO (by first|exact .inl rfl|exact .inr rfl));(exact sr))
  all_goals exact PV.le_refl _
def avq:Ctx:={fn:=aT [(64,φIn),(63,ug)],io:=aT []}
theorem aqD:au Tryz.prog avq:=okΓ (fC Tryz.func64 sD (fC Tryz.func63 akN aj)) aj
def asE:=ah (Γ:=avq) (f:=64) (φ:=φIn) rfl
def aq8:=ah (Γ:=avq) (f:=63) (φ:=ug) rfl
theorem aju:Sound Tryz.prog 27 aaS:=by
 refine gB mixed aqD Tryz.func27 rfl 52 rfl [.tmp 4] rfl (by kernel_rfl) fun ps r hr=>?_;obtain⟨c,rfl,hc,rfl⟩:=zU hr;clear hr;refine⟨by simp,?_⟩;have hcl:=az1 hc;have hzl:(zN c).length=c.length:=by simp
 have hza:=fun k h=>asC (c:=c) (k:=k) h;have hpt:=fun k h=>acn hc (k:=k) h;have hrt:=fun k h=>sj (c:=c) (k:=k) h;have hfull:c.take c.length=c:=List.take_length;have h11:inB 1 1 1000=true:=by decide
 have ap:=bI;have ap2:=@wS;clear hc;generalize zN c=C at*;have grwpi_c64:=asE;have grwpi_c63:=aq8;(refine wlk ?_;intros);refine aB (α:=Nat×Nat×Nat) mixed (fun i=>[(1,iv 1),(5,nP 4 ((dQ (c.take i.1)).map fF) i.2.1),(12,.lst false 1 (C.map fun n=> .val (.int .i64 n))),(13,iv c.length),(14,iv i.1)])
  (fun i=>nO 88 4 ((dQ (c.take i.1)).map fF) i.2.1) (fun i=>i.2.2) (fun i=>i.1≤c.length∧(0<(dQ (c.take i.1)).length→i.2.1<i.2.2)) (fun i=>c.length-i.1) (by kernel_rfl) (0,0,0) ⟨Nat.zero_le _,fun h=>absurd h (Nat.lt_irrefl 0)⟩ ?_ ?_ rfl ?_
 ·(try dsimp only)
  rw[show(dQ (c.take 0)).map fF=[]from rfl,bW];exact agi
 ·(try dsimp only)
  rw[show(dQ (c.take 0)).map fF=[]from rfl,bU];(try trivial)
 rintro⟨k,o,y⟩ ⟨hk,hoy⟩;dsimp only at hk hoy⊢;by_cases hkl:k<c.length
 ·obtain⟨hn1,hn30⟩:=hpt k hkl
  have hzk:=hza k hkl;have hr1:=hrt k hkl;have hin:inB (c[k]?.getD 0:Nat) 1 (30-((dQ (c.take k)).length:Int))=true:=aD.2 ⟨by omega,by omega⟩;have hin0:(dQ (c.take k)).length=0→inB (c[k]?.getD 0:Nat) 1 30=true:=fun h=>aD.2 ⟨by omega,by omega⟩;clear hpt hza hrt hfull;replace hr1:=Lib.hid hr1;generalize c[k]?.getD 0=n at*;generalize dQ (c.take k)=R at*;by_cases hR0:R.length=0
  ·obtain rfl:R=[]:=List.eq_nil_of_length_eq_zero hR0
   have hin1:=hin0 rfl;have hin2:inB (n:Int) 1 (30-0)=true:=hin1;clear hin;rw[List.map_nil,bW,bU];(refine wlk ?_;intros);refine aB (α:=Nat×Nat×Nat) mixed (fun i=>[(1,iv 1),(5,nP 4 (([]++kpN n i.1).map fF) i.2.1),(7,iv n),(12,.lst false 1 (C.map fun n=> .val (.int .i64 n))),(13,iv c.length),(14,iv k),(24,iv n),(25,iv i.1)])
    (fun i=>nO 88 4 (([]++kpN n i.1).map fF) i.2.1) (fun i=>i.2.2) (fun i=>i.1≤n∧(0<([]++kpN n i.1).length→i.2.1<i.2.2)) (fun i=>n-i.1) (by kernel_rfl) (0,o,_) ⟨Nat.zero_le _,by rw[jN,List.append_nil];exact hoy⟩ ?_ ?_ rfl ?_
   ·(try dsimp only)
    rw[jN,List.append_nil];(try rw[av (es:=([]:List Bool).map fF) (by rw[List.length_map];omega)]);exact agi;try rfl
   ·(try dsimp only)
    rw[jN,List.append_nil];(try rw[ay (es:=([]:List Bool).map fF) (by rw[List.length_map];omega)]);(try simp only[List.map_nil,bU]);first
     |trivial
     |(simp(disch:=(first|omega|(simp only[push_cast];first|done|omega))) only[push_cast,↓reduceIte,Rq,Rb,Ra,Rs,Rt,List.length_append, *];done)
     |(simp(disch:=(first|omega|(simp only[push_cast];first|done|omega))) only[push_cast,↓reduceIte,Rq,Rb,Ra,Rs,Rt,List.length_append, *];rfl)
   rintro⟨j,o2,y2⟩ ⟨hj,hoy2⟩;dsimp only at hj hoy2⊢;have hRl:([]++kpN n j).length=([]:List Bool).length+j:=by rw[List.length_append,ni]
   by_cases hjl:j<n
   ·have hs:([]++kpN n (j+1)).map fF=([]++kpN n j).map fF++[fF (kp n j)]:=by rw[aaZ,←List.append_assoc,List.map_append];rfl
    have hsl:([]++kpN n (j+1)).length=([]:List Bool).length+j+1:=by rw[List.length_append,ni];omega
    replace hs:=Lib.hid hs;replace hsl:=Lib.hid hsl;have hkt:=fun h=>aDX (n:=n) (j:=j) h;have hkf:=fun h=>aGc (n:=n) (j:=j) h;replace hkt:=Lib.hid hkt;replace hkf:=Lib.hid hkf;have hml:(([]++kpN n j).map fF).length=([]:List Bool).length+j:=by rw[List.length_map,hRl]
    rw[hRl]at hoy2;generalize([]++kpN n j).map fF=Q at*;clear hr1 hRl;by_cases hQ0:Q.length=0
    ·obtain rfl:Q=[]:=List.eq_nil_of_length_eq_zero hQ0
     rw[bW,bU];clear hQ0 hml;(refine wlk6 ?_ ?_ ?_ ?_ ?_ ?_<;>intros<;>try with_reducible exact trivial);all_goals refine⟨(j+1,y2+1,y2+2),⟨by dsimp only;omega,fun _=>by dsimp only;omega⟩,by dsimp only;omega,?_,?_,rfl⟩
     all_goals(try dsimp only)
     all_goals rw[hs.out,List.nil_append]
     all_goals first
      |rw[hkt.out (by omega)]
      |rw[hkf.out (by omega)]
      |rw[show kp n j=decide ((n:Int)≥3) by
        rcases Nat.lt_or_ge 2 n with q|q
        ·rw[hkt.out (by omega),decide_eq_true (by omega)]
        ·rw[hkf.out (by omega),decide_eq_false (by omega)]]
      |rw[show kp n j=decide ((n:Int)≥2) by
        rcases Nat.lt_or_ge 1 n with q|q
        ·rw[hkt.out (by omega),decide_eq_true (by omega)]
        ·rw[hkf.out (by omega),decide_eq_false (by omega)]]
     all_goals(try rw[show decide ((n:Int)≥3)=true from decide_eq_true (by omega)])
     all_goals(try rw[show decide ((n:Int)≥2)=true from decide_eq_true (by omega)])
     all_goals(try rw[av (by simp)])
     all_goals(try rw[ay (by simp)])
     all_goals exact agi
    ·have hoy3:=hoy2 (by omega)
     rw[av (es:=Q) (by omega),ay (es:=Q) (by omega)];rw[hml];(refine wlk6 ?_ ?_ ?_ ?_ ?_ ?_<;>intros<;>try with_reducible exact trivial);all_goals refine⟨(j+1,y2+1,y2+2),⟨by dsimp only;omega,fun _=>by dsimp only;omega⟩,by dsimp only;omega,?_,?_,rfl⟩
     all_goals(try dsimp only)
     all_goals rw[hs.out]
     all_goals first
      |rw[hkt.out (by omega)]
      |rw[hkf.out (by omega)]
      |rw[show kp n j=decide ((n:Int)≥3) by
        rcases Nat.lt_or_ge 2 n with q|q
        ·rw[hkt.out (by omega),decide_eq_true (by omega)]
        ·rw[hkf.out (by omega),decide_eq_false (by omega)]]
      |rw[show kp n j=decide ((n:Int)≥2) by
        rcases Nat.lt_or_ge 1 n with q|q
        ·rw[hkt.out (by omega),decide_eq_true (by omega)]
        ·rw[hkf.out (by omega),decide_eq_false (by omega)]]
     all_goals(try rw[show decide ((n:Int)≥3)=true from decide_eq_true (by omega)])
     all_goals(try rw[show decide ((n:Int)≥2)=true from decide_eq_true (by omega)])
     all_goals(try rw[av (by simp)])
     all_goals(try rw[ay (by simp)])
     all_goals exact agi
   ·obtain rfl:j=n:=by omega
    rw[←hr1.out]at*;have hoy3:=hoy2 (by omega);rw[av (es:=(dQ (c.take (k+1))).map fF) (by rw[List.length_map];omega),ay (es:=(dQ (c.take (k+1))).map fF) (by rw[List.length_map];omega)];rw[List.length_map];clear hr1;(refine wlk ?_;intros);refine⟨(k+1,o2,y2),⟨by dsimp only;omega,hoy2⟩,by dsimp only;omega,?_,?_,rfl⟩
    ·(try dsimp only)
     rw[av (es:=(dQ (c.take (k+1))).map fF) (by rw[List.length_map];omega)];exact agi
    ·(try dsimp only)
     rw[ay (es:=(dQ (c.take (k+1))).map fF) (by rw[List.length_map];omega)];exact agr
  ·have hoy1:=hoy (by omega)
   rw[av (es:=R.map fF) (by rw[List.length_map];omega),ay (es:=R.map fF) (by rw[List.length_map];omega)];rw[List.length_map];(refine wlk ?_;intros);refine aB (α:=Nat×Nat×Nat) mixed (fun i=>[(1,iv 1),(5,nP 4 ((R++kpN n i.1).map fF) i.2.1),(7,iv n),(12,.lst false 1 (C.map fun n=> .val (.int .i64 n))),(13,iv c.length),(14,iv k),(24,iv n),(25,iv i.1)])
    (fun i=>nO 88 4 ((R++kpN n i.1).map fF) i.2.1) (fun i=>i.2.2) (fun i=>i.1≤n∧(0<(R++kpN n i.1).length→i.2.1<i.2.2)) (fun i=>n-i.1) (by kernel_rfl) (0,o,_) ⟨Nat.zero_le _,by rw[jN,List.append_nil];exact hoy⟩ ?_ ?_ rfl ?_
   ·(try dsimp only)
    rw[jN,List.append_nil];(try rw[av (es:=R.map fF) (by rw[List.length_map];omega)]);exact agi;try rfl
   ·(try dsimp only)
    rw[jN,List.append_nil];(try rw[ay (es:=R.map fF) (by rw[List.length_map];omega)]);(try simp only[List.map_nil,bU]);first
     |trivial
     |(simp(disch:=(first|omega|(simp only[push_cast];first|done|omega))) only[push_cast,↓reduceIte,Rq,Rb,Ra,Rs,Rt,List.length_append, *];done)
     |(simp(disch:=(first|omega|(simp only[push_cast];first|done|omega))) only[push_cast,↓reduceIte,Rq,Rb,Ra,Rs,Rt,List.length_append, *];rfl)
   rintro⟨j,o2,y2⟩ ⟨hj,hoy2⟩;dsimp only at hj hoy2⊢;have hRl:(R++kpN n j).length=R.length+j:=by rw[List.length_append,ni]
   by_cases hjl:j<n
   ·have hs:(R++kpN n (j+1)).map fF=(R++kpN n j).map fF++[fF (kp n j)]:=by rw[aaZ,←List.append_assoc,List.map_append];rfl
    have hsl:(R++kpN n (j+1)).length=R.length+j+1:=by rw[List.length_append,ni];omega
    replace hs:=Lib.hid hs;replace hsl:=Lib.hid hsl;have hkt:=fun h=>aDX (n:=n) (j:=j) h;have hkf:=fun h=>aGc (n:=n) (j:=j) h;replace hkt:=Lib.hid hkt;replace hkf:=Lib.hid hkf;have hml:((R++kpN n j).map fF).length=R.length+j:=by rw[List.length_map,hRl]
    rw[hRl]at hoy2;generalize(R++kpN n j).map fF=Q at*;clear hr1 hRl;by_cases hQ0:Q.length=0
    ·obtain rfl:Q=[]:=List.eq_nil_of_length_eq_zero hQ0
     rw[bW,bU];clear hQ0 hml;(refine wlk6 ?_ ?_ ?_ ?_ ?_ ?_<;>intros<;>try with_reducible exact trivial);all_goals refine⟨(j+1,y2+1,y2+2),⟨by dsimp only;omega,fun _=>by dsimp only;omega⟩,by dsimp only;omega,?_,?_,rfl⟩
     all_goals(try dsimp only)
     all_goals rw[hs.out,List.nil_append]
     all_goals first
      |rw[hkt.out (by omega)]
      |rw[hkf.out (by omega)]
      |rw[show kp n j=decide ((n:Int)≥3) by
        rcases Nat.lt_or_ge 2 n with q|q
        ·rw[hkt.out (by omega),decide_eq_true (by omega)]
        ·rw[hkf.out (by omega),decide_eq_false (by omega)]]
      |rw[show kp n j=decide ((n:Int)≥2) by
        rcases Nat.lt_or_ge 1 n with q|q
        ·rw[hkt.out (by omega),decide_eq_true (by omega)]
        ·rw[hkf.out (by omega),decide_eq_false (by omega)]]
     all_goals(try rw[show decide ((n:Int)≥3)=true from decide_eq_true (by omega)])
     all_goals(try rw[show decide ((n:Int)≥2)=true from decide_eq_true (by omega)])
     all_goals(try rw[av (by simp)])
     all_goals(try rw[ay (by simp)])
     all_goals exact agi
    ·have hoy3:=hoy2 (by omega)
     rw[av (es:=Q) (by omega),ay (es:=Q) (by omega)];rw[hml];(refine wlk6 ?_ ?_ ?_ ?_ ?_ ?_<;>intros<;>try with_reducible exact trivial);all_goals refine⟨(j+1,y2+1,y2+2),⟨by dsimp only;omega,fun _=>by dsimp only;omega⟩,by dsimp only;omega,?_,?_,rfl⟩
     all_goals(try dsimp only)
     all_goals rw[hs.out]
     all_goals first
      |rw[hkt.out (by omega)]
      |rw[hkf.out (by omega)]
      |rw[show kp n j=decide ((n:Int)≥3) by
        rcases Nat.lt_or_ge 2 n with q|q
        ·rw[hkt.out (by omega),decide_eq_true (by omega)]
        ·rw[hkf.out (by omega),decide_eq_false (by omega)]]
      |rw[show kp n j=decide ((n:Int)≥2) by
        rcases Nat.lt_or_ge 1 n with q|q
        ·rw[hkt.out (by omega),decide_eq_true (by omega)]
        ·rw[hkf.out (by omega),decide_eq_false (by omega)]]
     all_goals(try rw[show decide ((n:Int)≥3)=true from decide_eq_true (by omega)])
     all_goals(try rw[show decide ((n:Int)≥2)=true from decide_eq_true (by omega)])
     all_goals(try rw[av (by simp)])
     all_goals(try rw[ay (by simp)])
     all_goals exact agi
   ·obtain rfl:j=n:=by omega
    rw[←hr1.out]at*;have hoy3:=hoy2 (by omega);rw[av (es:=(dQ (c.take (k+1))).map fF) (by rw[List.length_map];omega),ay (es:=(dQ (c.take (k+1))).map fF) (by rw[List.length_map];omega)];rw[List.length_map];clear hr1;(refine wlk ?_;intros);refine⟨(k+1,o2,y2),⟨by dsimp only;omega,hoy2⟩,by dsimp only;omega,?_,?_,rfl⟩
    ·(try dsimp only)
     rw[av (es:=(dQ (c.take (k+1))).map fF) (by rw[List.length_map];omega)];exact agi
    ·(try dsimp only)
     rw[ay (es:=(dQ (c.take (k+1))).map fF) (by rw[List.length_map];omega)];exact agr
 ·obtain rfl:k=c.length:=by omega
  rw[hfull]at*;clear hpt hza hrt hfull;generalize dQ c=R at*;by_cases hR0:R.length=0
  ·obtain rfl:R=[]:=List.eq_nil_of_length_eq_zero hR0
   rw[List.map_nil,bW,bU];(refine wlk ?_;intros);all_goals((with_reducible apply cO (by first|exact .inl rfl|exact .inr rfl));(exact sr))
   all_goals exact nil_le _ _
  ·have hoy1:=hoy (by omega)
   rw[av (es:=R.map fF) (by rw[List.length_map];omega),ay (es:=R.map fF) (by rw[List.length_map];omega)];rw[List.length_map];(refine wlk ?_;intros);all_goals((with_reducible apply cO (by first|exact .inl rfl|exact .inr rfl));(exact sr))
   all_goals exact PV.le_refl _
structure Fgn where
 bk:Nat→Prop
 at_:World→Prop
 keep:∀w w':World,(∀i,bk i→w'.heap[i]?=w.heap[i]?)→at_ w→at_ w'
def Fgn.no:Fgn:=⟨fun _=>False,fun _=>True,fun _ _ _ _=>trivial⟩
structure HzC (io:IoS) (w00 w0:World) (B:Nat) (bk:Nat→Prop):Prop where
 ne:∀i,io.wr i∨io.im i∨io.it i→¬bk i
 lo:∀i,io.wr i∨io.it i→B≤i
 lt:∀i,io.wr i→i<w0.heap.size
 hb:∀b,bk b→b<w0.heap.size
 sz:B≤w0.heap.size
 fr:Fr (fun i=>bk i∨B≤i) w00 w0
 tk:∀t∈tks,t<B∧¬bk t
def Zt (P:Program) (N B:Nat) (w00:World) (s:AS) (σ:Fgn) (a:Act) (w:World):Prop:=
 (∃io w0 g,Rel io w0 N g s a w∧HzC io w00 w0 B σ.bk)∧σ.at_ w
section
variable {P:Program} {N B:Nat} {w00:World}
theorem HzC.l9 {io:IoS} {w0:World} {bk:Nat→Prop} (h:HzC io w00 w0 B bk) {g:Gh} {s:AS} {a:Act} {w:World} (hr:Rel io w0 N g s a w) {kk:Bool} {i:Nat} (hi:g.I kk i):i<w.heap.size∧¬bk i:=by
 refine⟨hr.lt _ _ hi,?_⟩;cases kk with
 |false=>exact h.ne i (.inr (.inl (hr.old i hi)))
 |true=>
  rcases hr.new i hi with⟨h1,_⟩|h1
  ·exact fun e=>by have:=h.hb i e;omega
  ·exact h.ne i (.inr (.inr h1))
theorem HzC.eF {io:IoS} {w0:World} {bk:Nat→Prop} (h:HzC io w00 w0 B bk) {g:Gh} {s:AS} {a:Act} {w:World} (hr:Rel io w0 N g s a w) {o:Nat} {c:Nat×Nat×List PV} (ho:s.ob o=some c):g.β o<w.heap.size∧¬bk (g.β o)∧B≤g.β o:=by
 obtain⟨h1,h2,h3,h4⟩:=hr.ob o c ho;obtain⟨arr,ha,_⟩:=h4.1;refine⟨lt_of_heap ha,?_,?_⟩
 ·rcases h2 with h2|h2
  ·exact fun e=>by have:=h.hb _ e;omega
  ·exact h.ne _ (.inl h2)
 ·rcases h2 with h2|h2
  ·have:=h.sz;omega
  ·exact h.lo _ (.inl h2)
theorem Rel.awE {io:IoS} {w0 w w':World} {bk bk':Nat→Prop} {g:Gh} {s:AS} {a:Act} (hr:Rel io w0 N g s a w) (hC:HzC io w00 w0 B bk) (hf:Fr bk' w w')
 (h1:∀i,i<w.heap.size→bk' i→bk i) (h2:∀i,bk i→bk' i) (h3:∀b,bk' b→b<w'.heap.size):∃io',Rel io' w' N g s a w'∧HzC io' w00 w' B bk':=by
 have hI:∀kk i,g.I kk i→w'.heap[i]?=w.heap[i]?:=fun kk i hi=>by obtain⟨q1,q2⟩:=hC.l9 hr hi;exact hf.block i q1 fun e=>q2 (h1 i q1 e)
 have hsz:B≤w.heap.size:=Nat.le_trans hC.sz hr.fr.size;have htk:∀t∈tks,¬bk' t:=fun t ht e=>(hC.tk t ht).2 (h1 t (by have:=(hC.tk t ht).1;omega) e);refine⟨{wr:=fun i=>∃o,(s.ob o).isSome∧i=g.β o,im:=g.I false,m:=0,β0:=fun _=>0,κ0:=fun _=>0,it:=g.I true},⟨hr.nt,hr.df,fun t=>(hr.tm t).mono (Gh.le_refl g) hI,fun o c ho=>?_,hr.inj,hr.nx,fun kk i hi=>Nat.lt_of_lt_of_le (hr.lt kk i hi) hf.size,fun i hi=> .inr hi,Fr.refl _ _,fun i hi=>hi,⟨fun o ho=>(Nat.not_lt_zero o ho).elim,fun o ho=>(Nat.not_lt_zero o ho).elim⟩,fun o ho=>False.elim ho,?_⟩,⟨fun i hi=>?_,fun i hi=>?_,fun i hi=>?_,h3,Nat.le_trans hsz hf.size,?_,fun t ht=>⟨(hC.tk t ht).1,htk t ht⟩⟩⟩
 ·obtain⟨k1,k2,k3,k4⟩:=hr.ob o c ho
  obtain⟨q1,q2,q3⟩:=hC.eF hr ho;exact⟨k1,.inr ⟨o,by simp[ho],rfl⟩,k3,k4.mono (Gh.le_refl g) k1 hI (hf.block _ q1 fun e=>q2 (h1 _ q1 e))⟩
 ·have t1:kr w (fun i=>bk' i):=hr.tab.keep hr.fr fun t ht e=>htk t ht e
  refine t1.keep hf ?_;rintro t ht ⟨o,ho,rfl⟩;obtain⟨c,hc⟩:=Option.isSome_iff_exists.1 ho;have:=(hC.eF hr hc).2.2;have:=(hC.tk _ ht).1;omega
 ·rcases hi with⟨o,ho,rfl⟩|hi|hi
  ·obtain⟨c,hc⟩:=Option.isSome_iff_exists.1 ho
   obtain⟨q1,q2,q3⟩:=hC.eF hr hc;exact fun e=>q2 (h1 _ q1 e)
  ·obtain⟨q1,q2⟩:=hC.l9 hr hi
   exact fun e=>q2 (h1 _ q1 e)
  ·obtain⟨q1,q2⟩:=hC.l9 hr hi
   exact fun e=>q2 (h1 _ q1 e)
 ·rcases hi with⟨o,ho,rfl⟩|hi
  ·obtain⟨c,hc⟩:=Option.isSome_iff_exists.1 ho
   exact(hC.eF hr hc).2.2
  ·rcases hr.new i hi with⟨q,_⟩|q
   ·exact Nat.le_trans hC.sz q
   ·exact hC.lo i (.inr q)
 ·obtain⟨o,ho,rfl⟩:=hi
  obtain⟨c,hc⟩:=Option.isSome_iff_exists.1 ho;exact Nat.lt_of_lt_of_le (hC.eF hr hc).1 hf.size
 ·have hf1:Fr (fun i=>bk' i∨B≤i) w0 w:=⟨hr.fr.os,hr.fr.tape,hr.fr.output,hr.fr.size,fun i hi hn=>hr.fr.block i hi fun q=>hn (.inr (hC.lo i (.inl q)))⟩
  refine⟨hf.os.trans (hf1.os.trans hC.fr.os),hf.tape.trans (hf1.tape.trans hC.fr.tape),hf.output.trans (hf1.output.trans hC.fr.output),Nat.le_trans hC.fr.size (Nat.le_trans hf1.size hf.size),fun i hi hn=>?_⟩;have g1:=hC.fr.block i hi fun q=>hn (q.imp (h2 i) id);have g2:=hf1.block i (Nat.lt_of_lt_of_le hi hC.fr.size) hn;have g3:=hf.block i (Nat.lt_of_lt_of_le hi (Nat.le_trans hC.fr.size hf1.size)) fun q=>hn (.inl q);exact g3.trans (g2.trans g1)
theorem Fgn.same {io:IoS} {w0:World} {σ:Fgn} {g g':Gh} {s s':AS} {a a':Act} {w w':World} (hC:HzC io w00 w0 B σ.bk) (h1:Rel io w0 N g s a w) (h2:Rel io w0 N g' s' a' w') (hM:σ.at_ w):σ.at_ w':=
 σ.keep w w' (fun i hi=>by have q:∀{g:Gh} {s:AS} {a:Act} {w:World},Rel io w0 N g s a w→w.heap[i]?=w0.heap[i]?:=fun hr=>hr.fr.block i (hC.hb i hi) fun q=>hC.ne i (.inl q) hi;rw[q h1,q h2]) hM
structure HZ (P:Program) (N B:Nat) (w00:World) (c:Code) (K:X→AS→Fgn→Prop) (s:AS) (σ:Fgn):Prop where
 go:∀a w,Zt P N B w00 s σ a w→∀Q:Exit→Act→World→Prop,(∀x s' σ' a' w',Zt P N B w00 s' σ' a' w'→K x s' σ'→Q x.uo a' w')→CWp P c Q a w
variable {c c1 c2:Code} {K:X→AS→Fgn→Prop} {s s':AS} {σ:Fgn}
theorem HZ.seq (h:HZ P N B w00 c1 (fun x s' σ'=>match x with| .normal=>HZ P N B w00 c2 K s' σ'| .exit id=>K (.exit id) s' σ'| .ret=>K .ret s' σ') s σ):HZ P N B w00 (.seq c1 c2) K s σ:=HZ.mk fun a w hs Q hQ=>by
 refine wp_seq (CWp.wp (h.go a w hs _ fun x s' σ' a' w' hs' hk=>?_));cases x with
 |normal=>exact(hk.go a' w' hs' Q hQ).wp
 |exit id=>exact hQ _ s' σ' a' w' hs' hk
 |ret=>exact hQ _ s' σ' a' w' hs' hk
theorem HZ.block {id:Nat} (h:HZ P N B w00 c (fun x s' σ'=>K (x.out id) s' σ') s σ):HZ P N B w00 (.block id c) K s σ:=HZ.mk fun a w hs Q hQ=>by
 refine wp_block (CWp.wp (h.go a w hs _ fun x s' σ' a' w' hs' hk=>?_));have:=hQ _ s' σ' a' w' hs' hk;cases x with
 |normal=>exact this
 |ret=>exact this
 |exit id'=>
  simp only[X.uo,Exit.inBlock,X.out]at this⊢;split
  ·rename_i hid;simpa [hid]using this
  ·rename_i hid;simpa [hid]using this
theorem HZ.ret (h:K .ret s σ):HZ P N B w00 .ret K s σ:=HZ.mk fun a w hs Q hQ=>wp_ret (hQ .ret s σ a w hs h)
theorem Zt.forget {a:Act} {w:World} (h:Zt P N B w00 s σ a w) (hf:s.forget s'):Zt P N B w00 s' σ a w:=by obtain⟨⟨io,w0,g,hr,hC⟩,hM⟩:=h;exact⟨⟨io,w0,g,hr.forget hf,hC⟩,hM⟩
theorem HZ.mono {K1:X→AS→Fgn→Prop} (h:HZ P N B w00 c K1 s σ) (hk:∀x s' σ',K1 x s' σ'→K x s' σ'):HZ P N B w00 c K s σ:=⟨fun a w hs Q hQ=>h.go a w hs Q fun x s' σ' a' w' hs' h1=>hQ x s' σ' a' w' hs' (hk x s' σ' h1)⟩
theorem HZ.forget (hf:s.forget s') (h:HZ P N B w00 c K s' σ):HZ P N B w00 c K s σ:=HZ.mk fun a w hs Q hQ=>h.go a w (hs.forget hf) Q hQ
theorem HZ.loop {α:Type} (S:α→AS) (I:α→Fgn→Prop) (μ:α→Nat) (i:α) (hi:I i σ) (hs:s.forget (S i))
 (h:∀i σ,I i σ→HZ P N B w00 c (fun x s' σ'=>match x with| .normal=>∃j,I j σ'∧μ j<μ i∧s'.forget (S j)| .exit id=>K (.exit id) s' σ'| .ret=>K .ret s' σ') (S i) σ):HZ P N B w00 (.loop c) K s σ:=by
 have key:∀n i σ,μ i=n→I i σ→∀a w,Zt P N B w00 (S i) σ a w→∀Q:Exit→Act→World→Prop,(∀x s' σ' a' w',Zt P N B w00 s' σ' a' w'→K x s' σ'→Q x.uo a' w')→lu P c Q a w:=by
  intro n
  induction n using Nat.strongRecOn with
  |_ n ih=>
   intro i σ hn hi a w hst Q hQ;refine lu.step (CWp.wp ((h i σ hi).go a w hst _ fun x s' σ' a' w' hst' hk=>?_));cases x with
   |normal=>obtain⟨j,hj,hlt,hf⟩:=hk;exact ih (μ j) (hn▸hlt) j σ' rfl hj a' w' (hst'.forget hf) Q hQ
   |exit id=>exact hQ _ s' σ' a' w' hst' hk
   |ret=>exact hQ _ s' σ' a' w' hst' hk
 exact HZ.mk fun a w hst Q hQ=>key _ i σ rfl hi a w (hst.forget hs) Q hQ
theorem HZ.eng {Γ:Ctx} (hm:P.follows .mixedOrders=true) (hΓ:au P Γ) (hc:codeOk Γ true N c=true) (hp:pq P Γ N c (fun x s'=>K x s' σ) s.tm s.ob s.nx):HZ P N B w00 c K s σ:=HZ.mk fun a w hs Q hQ=>by obtain⟨⟨io,w0,g,hr,hC⟩,hM⟩:=hs;obtain⟨x,s',h1,h2⟩:=adz (fun _=>hm) c _ _ hc hp;exact h1.cwp hΓ.w (fun b hb=>hC.lt b hb) g a w Q hr fun g' a' w' hr'=>hQ x s' σ a' w' ⟨⟨io,w0,g',hr',hC⟩,Fgn.same hC hr hr' hM⟩ h2
structure ZO (P:Program) (N B:Nat) (w00:World) (ops:Array Oper) (j:Nat) (l:List Oper) (K:AS→Fgn→Prop) (s:AS) (σ:Fgn):Prop where
 go:ops.toList.drop j=l→∀a w,Zt P N B w00 s σ a w→∀Q:Exit→Act→World→Prop,(∀s' σ' a' w',Zt P N B w00 s' σ' a' w'→K s' σ'→Q .normal a' w')→wpOps P ops Q (List.range' j l.length) a w
variable {ops:Array Oper} {J:AS→Fgn→Prop} {j:Nat} {o:Oper} {l l1 l2:List Oper}
theorem HZ.each {id:Nat} {os:List Oper} (h:ZO P N B w00 os.toArray 0 os (K .normal) s σ):HZ P N B w00 (.region id os.toArray false) K s σ:=HZ.mk fun a w hs Q hQ=>by refine wp_region ?_;have:=h.go (by simp) a w hs Q fun s' σ' a' w' hs' hk=>hQ .normal s' σ' a' w' hs' hk;rw[List.range_eq_range'];simpa using this
theorem ZO.nil (h:J s σ):ZO P N B w00 ops j [] J s σ:=ZO.mk fun _ a w hs Q hQ=>hQ s σ a w hs h
theorem afm {Γ:Ctx} {imm:Md} {io:IoS} {w0:World} {Q:Exit→Act→World→Prop} {s1:AS} (hΓ:fJ P Γ io.wr w0) (hio:∀b,io b→b<w0.heap.size) (hd:∀o∈ops.toList,gV N o=true):∀(l1:List Oper) (j:Nat) {g:Gh} {s:AS} {a:Act} {w:World},ops.toList.drop j=l1++l2→Rel io w0 N g s a w→
 iJ P Γ imm ops l1 s=some s1→(∀g' a' w',Rel io w0 N g' s1 a' w'→wpOps P ops Q (List.range' (j+l1.length) l2.length) a' w')→wpOps P ops Q (List.range' j (l1++l2).length) a w
 |[],j,g,s,a,w,hl,h,he,hQ=>by simp only[iJ,Option.some.injEq]at he;subst he;exact hQ g a w h
 |o::l,j,g,s,a,w,hl,h,he,hQ=>by
  have hk:ops.toList[j]?=some o:=by have:=congrArg (·[0]?) hl;simpa using this
  have hk':ops[j]?=some o:=by simpa using hk
  have hl':ops.toList.drop (j+1)=l++l2:=by rw[←List.drop_drop,hl];rfl
  simp only[iJ]at he;split at he
  ·rename_i s2 h2
   simp only[List.cons_append,List.length_cons,List.range'_succ];rw[wpOps_cons];exact adk h hΓ hio (hd o (List.mem_of_getElem? hk)) h2 hk' fun g' a' w' hr=>afm hΓ hio hd l (j+1) hl' hr he fun g2 a2 w2 hr2=>by
    have:=hQ g2 a2 w2 hr2
    rwa[List.length_cons,show j+(l.length+1)=j+1+l.length by omega]at this
  ·cases he
theorem ZO.pre {Γ:Ctx} {imm:Md} {os:List Oper} (n:Nat) (hΓ:au P Γ) (hd:os.toArray.all (gV N)=true) (h1:l.take n=l1) (h2:l.drop n=l2) {gs:List (Option Nat)} (hg:os.map (·.dst)=gs) (hp:wq P Γ imm gs l1 (fun s1=>ZO P N B w00 os.toArray (j+l1.length) l2 J s1 σ) s.tm s.ob s.nx):ZO P N B w00 os.toArray j l J s σ:=ZO.mk fun hl a w hs Q hQ=>by
 obtain⟨⟨io,w0,g,hr,hC⟩,hM⟩:=hs;have hl12:l=l1++l2:=by rw[←h1,←h2,List.take_append_drop]
 subst hg;rw[show os.map (·.dst)=os.toArray.toList.map (·.dst) by simp,←mg]at hp;obtain⟨s1,e1,e2⟩:=oO _ _ hp;rw[hl12]at hl⊢;refine afm hΓ.w (fun b hb=>hC.lt b hb) (fun o ho=>(Array.all_eq_true_iff_forall_mem.1 hd) o (by simpa using ho)) l1 j hl hr e1 fun g' a' w' hr'=>?_;refine e2.go ?_ a' w' ⟨⟨io,w0,g',hr',hC⟩,Fgn.same hC hr hr' hM⟩ Q hQ;rw[←List.drop_drop,hl];simp
theorem ZO.one (hg:o.guard=none) (h:∀a w,Zt P N B w00 s σ a w→∀(Kn:Act→World→Prop) (Q:Exit→Act→World→Prop),(∀s' σ' a' w',Zt P N B w00 s' σ' a' w'→ZO P N B w00 ops (j+1) l J s' σ'→Kn a' w')→o.wp P a w Kn Q):ZO P N B w00 ops j (o::l) J s σ:=ZO.mk fun hl a w hs Q hQ=>by
 have hk:ops.toList[j]?=some o:=by have:=congrArg (·[0]?) hl;simpa using this
 have hk':ops[j]?=some o:=by simpa using hk
 have hl':ops.toList.drop (j+1)=l:=by rw[←List.drop_drop,hl];rfl
 simp only[List.length_cons,List.range'_succ];rw[wpOps_cons];unfold wpOp;simp only[hk'];have hw:Region.wanted o (yielded ops a.tmps)=true:=by simp[Region.wanted,hg]
 rw[hw];simp only[if_true];left;exact h a w hs _ _ fun s' σ' a' w' hs' hh=>hh.go hl' a' w' hs' Q hQ
theorem Zt.put {a:Act} {w:World} (h:Zt P N B w00 s σ a w) {d:Option Nat} (hd:∀x,d=some x→x<N) {p:PV} {v:Value} (hv:∀(g:Gh) (w:World),Rep g w p v):Zt P N B w00 (s.put d p) σ (a.put d v) w:=by obtain⟨⟨io,w0,g,hr,hC⟩,hM⟩:=h;exact⟨⟨io,w0,g,hr.put hd (hv g w),hC⟩,hM⟩
theorem Zt.jE {a:Act} {w w':World} {σ':Fgn} (h:Zt P N B w00 s σ a w) (hf:Fr σ'.bk w w') (h1:∀i,i<w.heap.size→σ'.bk i→σ.bk i) (h2:∀i,σ.bk i→σ'.bk i) (h3:∀b,σ'.bk b→b<w'.heap.size) (hM:σ'.at_ w'):Zt P N B w00 s σ' a w':=by obtain⟨⟨io,w0,g,hr,hC⟩,_⟩:=h;obtain⟨io',k1,k2⟩:=hr.awE hC hf h1 h2 h3;exact⟨⟨io',w',g,k1,k2⟩,hM⟩
theorem HZ.cut {Lf:List (Nat×PV)} {O:List (Nat×Nat×Nat×List PV)} {x:Nat} (h1:agree s.tm Lf) (h2:jc s.ob O) (h3:s.nx=x) (h:HZ P N B w00 c K ⟨lk Lf,lo O,x⟩ σ):HZ P N B w00 c K s σ:=
 HZ.forget (s':=mkS Lf O x) (iR (gX h1) (fI h2) h3) h
theorem HZ.uR {α:Type} (Lf:α→List (Nat×PV)) (O:α→List (Nat×Nat×Nat×List PV)) (XX:α→Nat) (I:α→Fgn→Prop) (μ:α→Nat) (i:α) (hi:I i σ) (h1:agree s.tm (Lf i)) (h2:jc s.ob (O i)) (h3:s.nx=XX i)
 (h:∀i σ,I i σ→HZ P N B w00 c (fun x s' σ'=>match x with| .normal=>∃j,I j σ'∧μ j<μ i∧agree s'.tm (Lf j)∧jc s'.ob (O j)∧s'.nx=XX j| .exit id=>K (.exit id) s' σ'| .ret=>K .ret s' σ') ⟨lk (Lf i),lo (O i),XX i⟩ σ):HZ P N B w00 (.loop c) K s σ:=by
 refine HZ.loop (fun i=>mkS (Lf i) (O i) (XX i)) I μ i hi (iR (gX h1) (fI h2) h3) fun i σ hi=>⟨fun a w hs Q hQ=>(h i σ hi).go a w hs Q fun x s' σ' a' w' hs' hk=>hQ x s' σ' a' w' hs' ?_⟩;cases x with
 |normal=>obtain⟨j,k1,k2,k3,k4,k5⟩:=hk;exact⟨j,k1,k2,iR (gX k3) (fI k4) k5⟩
 |exit id=>exact hk
 |ret=>exact hk
theorem HZ.start {ps:List PV} (h:HZ P N B w00 c K ⟨(bX ps).tm,fun _=>none,0⟩ σ):HZ P N B w00 c K (bX ps) σ:=h
end
section
variable {P:Program} {N B:Nat} {w00:World} {c:Code}
theorem aan {fn:Func} {ps:List PV} {args:Array Value} {w:World} {Jm:Nat→Prop} (hJ:∀b,Jm b→b<w.heap.size) (hT:kr w (fun _=>False)) (hargs:bL (lG Jm) w ps args.toList) (hle:ps.length≤fn.ntmps):
 Rel ⟨fun _=>False,Jm,0,fun _=>0,fun _=>0,fun _=>False,fun _=>False⟩ w fn.ntmps (lG Jm) (bX ps) {tmps:=args++Array.replicate (fn.ntmps-args.size) undef,defers:=[]} w:=by
 have hsz:args.size=ps.length:=by simpa using hargs.get.1
 refine⟨by simp;omega,rfl,fun t=>?_,fun o c ho=>(by cases ho),fun o o' ho=>(by cases ho),rfl,fun k b hi=>hJ b hi.2,fun b hi=>(by cases hi.1),Fr.refl _ _,fun b hi=>hi.2,⟨fun o ho=>(Nat.not_lt_zero o ho).elim,fun o ho=>(Nat.not_lt_zero o ho).elim⟩,fun o ho=>False.elim ho,hT⟩;simp only[bX];cases hp:ps[t]? with
 |none=>
  have hge:ps.length≤t:=by simpa using hp
  have:(args++Array.replicate (fn.ntmps-args.size) undef).getD t undef=undef:=by simp only[Array.getD_eq_getD_getElem?];rw[Array.getElem?_append_right (by omega)];simp only[Array.getElem?_replicate];split<;>rfl
  rw[this];simp[Rep]
 |some p=>
  obtain⟨v,hv,hrep⟩:=hargs.get.2 t p hp;have hlt:t<args.size:=by have:=(List.getElem?_eq_some_iff.1 hp).1;omega
  have:(args++Array.replicate (fn.ntmps-args.size) undef).getD t undef=v:=by
   simp only[Array.getD_eq_getD_getElem?];rw[Array.getElem?_append_left hlt];have:args[t]?=some v:=by simpa using hv
   simp[this]
  rw[this];exact hrep
theorem aej {w:World} {io:Nat→Prop} (hT:kr w io):∀t∈tks,t<w.heap.size:=fun t ht=>hT.lt t ht
theorem HZ.sound {f:Nat} {fn:Func} {rs:List ResultVar} {φ:Fun} (hf:P.funcs[f]?=some fn) (hb:fn.body=some c) (hN:fn.ntmps=N) (hrs:fn.results.toList=rs)
 (h:∀ps r,φ ps=some r→ps.length≤N∧∀B w00,HZ P N B w00 c (fun x s' σ'=>(x=.normal∨x=.ret)∧(∃r',(∀(g:Gh) (w:World) (v:Value),Rep g w r' v→Rep g w r v)∧((fU P s' rs).bind fun qs=>reify true 0 s'.ob fuel (gM qs))=some r')∧∀i,σ'.bk i→B≤i) (bX ps) Fgn.no):Sound P f φ:=by
 intro w Jm ps args r hr hJ hT hargs;subst hN hrs;obtain⟨hlen,h⟩:=h ps r hr;refine calls_of_wp hf hb (CWp.wp ((h w.heap.size w).go _ _ ⟨⟨_,w,_,aan hJ hT hargs hlen,⟨fun i hi e=>e,fun i hi=>?_,fun i hi=>False.elim hi,fun b' e=>False.elim e,Nat.le_refl _,Fr.refl _ _,fun t ht=>⟨aej hT t ht,fun e=>e⟩⟩⟩,trivial⟩ _ fun x s' σ' a' w' hs' hk=>?_))
 ·rcases hi with hi|hi<;>exact False.elim hi
 ·obtain⟨hx,⟨r',hle,hres⟩,hbb⟩:=hk
  obtain⟨⟨io,w0,g,hrel,hC⟩,hM'⟩:=hs';rw[Option.bind_eq_some_iff]at hres;obtain⟨qs,hres,hreify⟩:=hres;have hbel:Below w.heap.size w w':=by have hf1:Fr (fun i=>w.heap.size≤i) w0 w':=⟨hrel.fr.os,hrel.fr.tape,hrel.fr.output,hrel.fr.size,fun i hi hn=>hrel.fr.block i hi fun q=>hn (hC.lo i (.inl q))⟩;refine⟨hf1.os.trans hC.fr.os,hf1.tape.trans hC.fr.tape,hf1.output.trans hC.fr.output,Nat.le_trans hC.fr.size hf1.size,fun i hi=>?_⟩;refine(hf1.block i (Nat.lt_of_lt_of_le hi hC.fr.size) (by omega)).trans (hC.fr.block i hi fun q=>q.elim (fun q=>?_) fun q=>by omega);have:=hbb i q;omega
  have hend:a'.defers=[]∧∃v,(results fn a'.tmps).run P w'=.ok v w'∧((∃v',Ending.returned v=.returned v'∧Below w.heap.size w w'∧∀g'':Gh,(∀b,w.heap.size≤b→b<w'.heap.size→g''.I true b)→Rep g'' w' r v')):=by
   obtain⟨v,h1,h2⟩:=gJ hrel hres;refine⟨hrel.df,v,h1,v,rfl,hbel,fun g'' hg=>hle _ _ _ ?_⟩;refine Rep.seen (fun o c ho=>(hrel.ob o c ho).2.2.2) ⟨fun hh=>(by cases hh),fun _=>⟨fun b hb=>hg b ?_ (hrel.lt true b hb),fun o ho _=>?_⟩⟩ fuel _ _ _ h2 hreify
   ·rcases hrel.new b hb with⟨q,_⟩|q
    ·exact Nat.le_trans hC.sz q
    ·exact hC.lo b (.inr q)
   ·obtain⟨c,hc⟩:=Option.isSome_iff_exists.1 ho
    obtain⟨q1,q2,q3⟩:=hC.eF hrel hc;exact hg _ q3 q1
  rcases hx with rfl|rfl<;>exact hend
theorem HZ.amj {f:Nat} {fn:Func} {rs:List ResultVar} {Ψ:yU} (hf:P.funcs[f]?=some fn) (hb:fn.body=some c) (hN:fn.ntmps=N) (hrs:fn.results.toList=rs)
 (hpure:∀ps r cs',Ψ ps=some (r,cs')→ps.mapM (reify false 0 lY fuel)=some ps∧jW id fuel r=some r∧cs'.mapM (ng id fuel)=some cs')
 (h:∀ps r cs',Ψ ps=some (r,cs')→ps.length≤N∧∀B w00,HZ P N B w00 c (fun x s' σ'=>kH P rs 0 r cs' x s'∧∀i,σ'.bk i→B≤i) (bX ps) Fgn.no):fQ P f Ψ:=by
 intro w J β κ ps cs args r cs' hr hJ hO hT hargs;subst hN hrs;replace hr:(if cs=[]then Ψ ps else none)=some (r,cs'):=hr;split at hr
 case isFalse=>cases hr
 case isTrue hcs=>
 subst hcs;obtain⟨hp1,hp2,hp3⟩:=hpure ps r cs' hr;obtain⟨hlen,h⟩:=h ps r cs' hr;have hJ':∀b,(∃k,J k b)→b<w.heap.size:=fun b ⟨k,hk⟩=>hJ k b hk;have hT':kr w (fun _=>False):=hT.io fun _ _ q=>False.elim q;have hargs':bL (lG fun b=>∃k,J k b) w ps args.toList:=by refine bL.conv (g:=dH J β κ 0) (Rep.seen (fr:=false) (n:=0) (g':=lG fun b=>∃k,J k b) (s:=⟨fun _=> .dead,lY,0⟩) (fun o c ho=>by cases ho) ⟨fun _=>⟨fun k b hb=>⟨rfl,k,hb⟩,fun o ho=>by cases ho⟩,fun e=>by cases e⟩ fuel) hargs hp1
 refine calls_of_wp hf hb (CWp.wp ((h w.heap.size w).go _ _ ⟨⟨_,w,_,aan hJ' hT' hargs' hlen,⟨fun i hi e=>e,fun i hi=>?_,fun i hi=>False.elim hi,fun b' e=>False.elim e,Nat.le_refl _,Fr.refl _ _,fun t ht=>⟨aej hT' t ht,fun e=>e⟩⟩⟩,trivial⟩ _ fun x s' σ' a' w' hs' hk=>?_))
 ·rcases hi with hi|hi<;>exact False.elim hi
 ·obtain⟨⟨hx,news,hn0,hnd,hres,hobs0⟩,hbb⟩:=hk
  obtain⟨⟨io,w0,g',hrel,hC⟩,hM'⟩:=hs';rw[Option.bind_eq_some_iff]at hres;obtain⟨qs,hres,hren⟩:=hres;simp only[List.range_zero,List.nil_append]at hren hobs0;have hocs:cs'.length=news.length:=(bg hobs0).1;have hobs:∀(i o:Nat),news[i]?=some o→∃T sz es es',s'.ob o=some (T,sz,es)∧es.mapM (dA news s'.ob fuel)=some es'∧cs'[i]?=some (T,sz,es'):=fun i o hi=>by obtain⟨c1,h1,h2⟩:=(bg hobs0).2 i o hi;unfold oW at h2;simp only[Option.bind_eq_some_iff,Option.map_eq_some_iff]at h2;obtain⟨⟨T,sz,es⟩,h3,es',h4,rfl⟩:=h2;exact⟨T,sz,es,es',h3,h4,h1⟩
  have hget:∀i,i<news.length→news[i]?=some (news.getD i 0):=fun i hi=>by simp[hi]
  have hsome:∀i,i<news.length→(s'.ob (news.getD i 0)).isSome:=fun i hi=>by obtain⟨T,sz,es,es',h1,_⟩:=hobs i _ (hget i hi);rw[h1];rfl
  have hinjO:∀i j,i<news.length→j<news.length→g'.β (news.getD i 0)=g'.β (news.getD j 0)→i=j:=fun i j hi hj he=>by have:=hrel.inj _ _ (hsome i hi) (hsome j hj) he;have e1:=hget i hi;have e2:=hget j hj;rw[this]at e1;have e1:=e1.trans e2.symm;exact(List.getElem?_inj hi hnd).1 e1
  have hinn:∀o1 o2,inn news o1=some o2→o2<news.length∧news.getD o2 0=o1:=fun o1 o2 hi=>by
   unfold inn at hi;split at hi
   ·rename_i hm
    cases hi;have hlt:=List.idxOf_lt_length_of_mem hm;exact⟨hlt,by simp[List.getD,hlt]⟩
   ·cases hi
  have hfrm:Fr (fun b=>∃o,o<([]:List aS).length∧b=β o) w w':=by have hf1:Fr (fun i=>w.heap.size≤i) w0 w':=⟨hrel.fr.os,hrel.fr.tape,hrel.fr.output,hrel.fr.size,fun i hi hn=>hrel.fr.block i hi fun q=>hn (hC.lo i (.inl q))⟩;refine⟨hf1.os.trans hC.fr.os,hf1.tape.trans hC.fr.tape,hf1.output.trans hC.fr.output,Nat.le_trans hC.fr.size hf1.size,fun i hi _=>?_⟩;refine(hf1.block i (Nat.lt_of_lt_of_le hi hC.fr.size) (by omega)).trans (hC.fr.block i hi fun q=>q.elim (fun q=>?_) fun q=>by omega);have:=hbb i q;omega
  have hend:a'.defers=[]∧∃v,(results fn a'.tmps).run P w'=.ok v w'∧(∃v' β' κ' M,Ending.returned v=.returned v'∧Fr (fun b=>∃o,o<([]:List aS).length∧b=β o) w w'∧([]:List aS).length≤cs'.length∧
   (∀o,o<([]:List aS).length→β' o=β o∧κ' o=κ o)∧(∀o,([]:List aS).length≤o→o<cs'.length→w.heap.size≤β' o)∧(∀b,M b→w.heap.size≤b∧b<w'.heap.size)∧
   uG (addN J M) w' β' κ' cs'∧Rep (dH (addN J M) β' κ' cs'.length) w' r v'):=by
   obtain⟨v,h1,h2⟩:=gJ hrel hres
   let M:Nat→Prop:=fun b=>w.heap.size≤b∧b<w'.heap.size∧∀i,i<news.length→b≠g'.β (news.getD i 0)
   let G1:Gh:=dH (fun kk b=>kk=false∨M b) (fun i=>g'.β (news.getD i 0)) (fun i=>g'.κ (news.getD i 0)) cs'.length
   let G:Gh:=dH (addN J M) (fun i=>g'.β (news.getD i 0)) (fun i=>g'.κ (news.getD i 0)) cs'.length
   have hnewb:∀b,g'.I true b→w.heap.size≤b:=fun b hb=>by
    rcases hrel.new b hb with⟨q,_⟩|q
    ·exact Nat.le_trans hC.sz q
    ·exact hC.lo b (.inr q)
   have hI:∀k b,g'.I k b→G1.I k b:=fun k b hi=>by
    cases k with
    |false=>exact .inl rfl
    |true=>refine .inr ⟨hnewb b hi,hrel.lt true b hi,fun i hil he=>?_⟩;obtain⟨T,sz,es,es',k1,_⟩:=hobs i _ (hget i hil);exact(hrel.ob _ _ k1).2.2.1 true (he▸hi)
   have hom:∀o o',inn news o=some o'→G1.β o'=g'.β o∧G1.κ o'=g'.κ o∧G1.D o':=fun o o' ho=>by obtain⟨k1,k2⟩:=hinn o o' ho;exact⟨by simp only[G1,dH,k2],by simp only[G1,dH,k2],⟨by simp only[G1,dH];omega,fun q=>q⟩⟩
   have hfz:∀o,(s'.ob o).isSome→inn news o=none→G1.I true (g'.β o):=fun o ho hn=>by
    obtain⟨c,hc⟩:=Option.isSome_iff_exists.1 ho;have hno:o∉news:=fun hm=>by simp[inn,hm]at hn
    obtain⟨q1,q2,q3⟩:=hC.eF hrel hc;refine .inr ⟨q3,q1,fun i hi he=>hno ?_⟩;rw[hrel.inj o _ (by rw[hc];rfl) (hsome i hi) he];exact List.mem_of_getElem? (hget i hi)
   have hobA:∀o c,s'.ob o=some c→pX g' w' o c:=fun o c ho=>(hrel.ob o c ho).2.2.2;have hI2:∀b,G1.I true b→G.I true b:=fun b hb=>by
    rcases hb with hb|hb
    ·cases hb
    ·exact .inr ⟨rfl,hb⟩
   refine⟨hrel.df,v,h1,v,fun i=>g'.β (news.getD i 0),fun i=>g'.κ (news.getD i 0),M,rfl,hfrm,Nat.zero_le _,fun o ho=>(Nat.not_lt_zero o ho).elim,fun o h3 h4=>?_,fun b hb=>⟨hb.1,hb.2.1⟩,⟨fun o ho=>?_,fun o o' ho ho' he=>hinjO o o' (by omega) (by omega) he,fun o c hc=>?_⟩,
    Rep.jW (g:=G1) (g':=G) hI2 (fun o ho=>⟨rfl,rfl,ho⟩) fuel _ _ _ (Rep.hand (g:=g') (g':=G1) hI hom hobA hfz fuel _ _ _ h2 hren) hp2⟩
   ·obtain⟨T,sz,es,es',k1,_⟩:=hobs o _ (hget o (by omega))
    exact(hC.eF hrel k1).2.2
   ·obtain⟨T,sz,es,es',k1,_⟩:=hobs o _ (hget o (by omega))
    obtain⟨_,_,k3,⟨arr,k4,_⟩,_⟩:=hrel.ob _ _ k1;refine⟨lt_of_heap k4,fun k hj=>?_⟩;rcases hj with hj|⟨_,hj⟩
    ·have:=(hC.eF hrel k1).2.2
     have:=hJ _ _ hj;omega
    ·exact hj.2.2 o (by omega) rfl
   ·have ho:o<cs'.length:=(List.getElem?_eq_some_iff.1 hc).1
    obtain⟨T,sz,es,es',k1,k2,k3⟩:=hobs o _ (hget o (by omega));rw[k3]at hc;cases hc;obtain⟨_,_,_,⟨arr,m1,m2⟩,m3,m4⟩:=hrel.ob _ _ k1;have hl:=(bg k2).1;have hes:es'.mapM (jW id fuel)=some es':=by obtain⟨c2,e1,e2⟩:=(bg hp3).2 o _ k3;unfold ng at e2;simp only[Option.map_eq_some_iff]at e2;obtain⟨es2,e3,rfl⟩:=e2;rw[k3]at e1;cases e1;exact e3
    exact⟨⟨arr,m1,m2⟩,by rw[hl];exact m3,bB.conv (g:=G1) (g':=G) (Rep.jW (g:=G1) (g':=G) hI2 (fun o ho=>⟨rfl,rfl,ho⟩) fuel) (bB.conv (g:=g') (g':=G1) (Rep.hand (g:=g') (g':=G1) hI hom hobA hfz fuel) m4 k2) hes⟩
  rcases hx with rfl|rfl<;>exact hend
end
end
end Go.Proofs.YtmmafcjjlbgnkaaGreatDoor
