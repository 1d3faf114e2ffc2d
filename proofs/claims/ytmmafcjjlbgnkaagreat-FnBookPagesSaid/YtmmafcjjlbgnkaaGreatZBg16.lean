/- What the proof rests on, part 16: contracts of functions. No condition beyond what each states. -/
import Derived.Test.YtmmafcjjlbgnkaaGreatZBg15
namespace Go.Proofs.YtmmafcjjlbgnkaaGreat
open Go.RowKit
set_option linter.all false
set_option maxHeartbeats 32000000
noncomputable section
abbrev eY (b:Bool):PV:=.agg [.val (.int .i64 1),.val (.bool b),.val (.int .i64 0),.val (.int .i64 0)]
def dRw:Dec Bool where
 d:=fun| .agg [.val (.int .i64 h),.val (.bool b),.val (.int .i64 n),.val (.int .i64 f)]=>if h=1∧n=0∧f=0 then some b else none|_=>none
 e:=eY
 h:=fun p a h=>by
  split at h
  ·split at h
   ·rename_i hc
    obtain⟨rfl,rfl,rfl⟩:=hc;cases h;rfl
   ·cases h
  ·cases h
 h':=fun a=>rfl
theorem aee:dRw.e=eY:=rfl
abbrev aqv:Dec (List Bool):=dL 4 dRw
def abf:Fun:=F1 dRw fun _=>some (bv true)
theorem acd {b:Bool}:abf [.agg [.val (.int .i64 1),.val (.bool b),.val (.int .i64 0),.val (.int .i64 0)]]=some (.val (.bool true)):=iA (A:=dRw) b
def pW:Fun:=F1 dI fun h=>some (bv (inB h 1 1000))
theorem rG {h:Int}:pW [.val (.int .i64 h)]=some (.val (.bool (inB h 1 1000))):=iA (A:=dI) h
def aw6:Ctx:={fn:=aY [(43,φIn)],io:=aY []}
theorem anJ:ak Tryz.prog aw6:=okΓ (fC Tryz.func43 pO aj) aj
def aol:=ah (Γ:=aw6) (f:=43) (φ:=φIn) rfl
theorem afM:Sound Tryz.prog 42 pW:=by refine au mixed anJ Tryz.func42 rfl 5 rfl [.tmp 2] rfl (by kernel_rfl) fun ps r hr=>?_;obtain⟨h,rfl,hr⟩:=bR hr;cases hr;refine⟨by simp,?_⟩;simp only[dIs,dUs,dSs,dx,dA,dz,dF,aS,dD,aT,aU,aR,aV];have gish_c43:=aol;have ap:=bL;exact wlkF
def awz:Ctx:={fn:=aY [(43,φIn),(42,pW)],io:=aY []}
theorem amg:ak Tryz.prog awz:=okΓ (fC Tryz.func43 pO (fC Tryz.func42 afM aj)) aj
def am7:=ah (Γ:=awz) (f:=43) (φ:=φIn) rfl
def aoL:=ah (Γ:=awz) (f:=42) (φ:=pW) rfl
theorem adU:Sound Tryz.prog 73 abf:=by
 refine au mixed amg Tryz.func73 rfl 16 rfl [.tmp 2] rfl (by kernel_rfl) fun ps r hr=>?_;obtain⟨b,rfl,hq⟩:=bR hr;clear hr;cases hq;refine⟨by simp,?_⟩;have grwi_c43:=am7;have grwi_c42:=aoL;have ap:=bL;have ap2:=@rG;have h1:inB 1 1 1000=true:=by decide
 have h0:inB 0 0 1000=true:=by decide
 (try simp only[aee]);exact wlkF
def axn:Ctx:={fn:=aY [(48,φIn)],io:=aY []}
theorem amh:ak Tryz.prog axn:=okΓ (fC Tryz.func48 iq aj) aj
def anL:=ah (Γ:=axn) (f:=48) (φ:=φIn) rfl
theorem aeH:Sound Tryz.prog 65 abf:=by
 refine au mixed amh Tryz.func65 rfl 16 rfl [.tmp 2] rfl (by kernel_rfl) fun ps r hr=>?_;obtain⟨b,rfl,hq⟩:=bR hr;clear hr;cases hq;refine⟨by simp,?_⟩;have grws_c48:=anL;have ap:=bL;have h1:inB 1 1 1000=true:=by decide
 have h0:inB 0 0 1000=true:=by decide
 (try simp only[aee]);exact wlkF
def tJ:Fun:=F1 aqv fun l=>if l.length≤1000 then some (bv (decide (l.length≤30)))else none
theorem yY {l:List Bool} (h:l.length≤1000):tJ [.lst false 4 (l.map eY)]=some (.val (.bool (decide (l.length≤30)))):=(iA (A:=aqv) l).trans (if_pos h)
def aso:Ctx:={fn:=aY [(73,abf)],io:=aY []}
theorem ai9:ak Tryz.prog aso:=okΓ (fC Tryz.func73 adU aj) aj
def ajB:=ah (Γ:=aso) (f:=73) (φ:=abf) rfl
theorem abM:Sound Tryz.prog 58 tJ:=by
 refine au mixed ai9 Tryz.func58 rfl 18 rfl [.tmp 2] rfl (by kernel_rfl) fun ps r hr=>?_;obtain⟨l,rfl,hpre,rfl⟩:=kQ hr;refine⟨by simp,?_⟩;simp only[dIs,dUs,dSs,dx,dA,dz,dF,aS,dD,aT,aU,aR,aV];(try simp only[aee]);have hdec:decide ((l.length:Int)≤30)=decide (l.length≤30):=decide_eq_decide.2 (by omega);have grwsi_c73:=ajB;have ap:=@acd;(refine wlk ?_;intros);refine aG (α:=Nat×Nat) mixed (fun i=>[(0,.lst false 4 (l.map eY)),(5,.lst false 4 (l.map eY)),(6,iv l.length),(7,iv i.1)]) (fun i=>[]) (fun i=>i.2)
  (fun i=>i.1≤l.length) (fun i=>l.length-i.1) (by kernel_rfl) (0,0) (Nat.zero_le _) ?_ trivial rfl ?_
 ·exact agr
 rintro⟨k,y⟩ hk;dsimp only at hk;by_cases hkl:k<l.length
 ·(refine wlk ?_;intros)
  refine⟨(k+1,_),by dsimp only;omega,by dsimp only;omega,?_,trivial,rfl⟩;exact agr
 ·exact wlkF
def atj:Ctx:={fn:=aY [(65,abf)],io:=aY []}
theorem aky:ak Tryz.prog atj:=okΓ (fC Tryz.func65 aeH aj) aj
def akF:=ah (Γ:=atj) (f:=65) (φ:=abf) rfl
theorem aaT:Sound Tryz.prog 47 tJ:=by
 refine au mixed aky Tryz.func47 rfl 19 rfl [.tmp 2] rfl (by kernel_rfl) fun ps r hr=>?_;obtain⟨l,rfl,hpre,rfl⟩:=kQ hr;refine⟨by simp,?_⟩;simp only[dIs,dUs,dSs,dx,dA,dz,dF,aS,dD,aT,aU,aR,aV];(try simp only[aee]);have hdec:decide ((l.length:Int)≤30)=decide (l.length≤30):=decide_eq_decide.2 (by omega);have grwss_c65:=akF;have ap:=@acd;(refine wlk ?_;intros);refine aG (α:=Nat) mixed (fun i=>[(0,.lst false 4 (l.map eY)),(3,iv i)]) (fun i=>[]) (fun i=>0)
  (fun i=>i≤l.length) (fun i=>l.length-i) (by kernel_rfl) 0 (Nat.zero_le _) ?_ trivial rfl ?_
 ·exact agr
 intro k hk;by_cases hkl:k<l.length
 ·(refine wlk ?_;intros)
  refine⟨k+1,by omega,by dsimp only;omega,?_,trivial,rfl⟩;exact agr
 ·exact wlkF
def aji:Fun:=F1 aqv fun l=>if l.length≤1000 then some (iv l.length)else none
theorem ajU {l:List Bool} (h:l.length≤1000):aji [.lst false 4 (l.map eY)]=some (.val (.int .i64 l.length)):=(iA (A:=aqv) l).trans (if_pos h)
theorem abq:Sound Tryz.prog 59 aji:=by
 refine au mixed gV Tryz.func59 rfl 18 rfl [.tmp 2] rfl (by kernel_rfl) fun ps r hr=>?_;obtain⟨l,rfl,hpre,rfl⟩:=kQ hr;refine⟨by simp,?_⟩;simp only[dIs,dUs,dSs,dx,dA,dz,dF,aS,dD,aT,aU,aR,aV];(try simp only[aee]);(refine wlk ?_;intros);refine aG (α:=Nat×Nat) mixed (fun i=>[(3,iv i.1),(6,.lst false 4 (l.map eY)),(7,iv l.length),(8,iv i.1)]) (fun i=>[]) (fun i=>i.2)
  (fun i=>i.1≤l.length) (fun i=>l.length-i.1) (by kernel_rfl) (0,0) (Nat.zero_le _) ?_ trivial rfl ?_
 ·exact agr
 rintro⟨k,y⟩ hk;dsimp only at hk;by_cases hkl:k<l.length
 ·(refine wlk ?_;intros)
  refine⟨(k+1,_),by dsimp only;omega,by dsimp only;omega,?_,trivial,rfl⟩;exact agr
 ·obtain rfl:k=l.length:=by omega
  exact wlkF
def ajL:Fun:=F2 aqv dI fun l h=>if l.length≤1000 then some (bv (decide (l.length≤30)&&inB h 1 1000))else none
theorem akP {l:List Bool} {h:Int} (hl:l.length≤1000):ajL [.lst false 4 (l.map eY),.val (.int .i64 h)]=some (.val (.bool (decide (l.length≤30)&&inB h 1 1000))):=(jZ (A:=aqv) (B:=dI) l h).trans (if_pos hl)
def GPa:Ctx:={fn:=aY [(58,tJ),(42,pW)],io:=aY []}
theorem asf:ak Tryz.prog GPa:=okΓ (fC Tryz.func58 abM (fC Tryz.func42 afM aj)) aj
def aud:=ah (Γ:=GPa) (f:=58) (φ:=tJ) rfl
def aq5:=ah (Γ:=GPa) (f:=42) (φ:=pW) rfl
theorem aeE:Sound Tryz.prog 40 ajL:=by
 refine au mixed asf Tryz.func40 rfl 11 rfl [.tmp 4] rfl (by kernel_rfl) fun ps r hr=>?_;obtain⟨l,h,rfl,hpre,rfl⟩:=iF hr;refine⟨by simp,?_⟩;simp only[dIs,dUs,dSs,dx,dA,dz,dF,aS,dD,aT,aU,aR,aV];(try simp only[aee]);have gpa_c58:=aud;have gpa_c42:=aq5;have ap:=@yY;have ap2:=@rG;cases h1:inB h 1 1000 with
 |true=>by_cases h2:l.length≤30
        ·exact wlkF
        ·exact wlkF
 |false=>by_cases h2:l.length≤30
         ·exact wlkF
         ·exact wlkF
def pcB (ks:List Bool) (h p q:Nat):Int:=if q=ks.length then 0 else((h:Int)-((q:Int)-p))*((h:Int)-((q:Int)-p))
def pcR (ks:List Bool) (h p q:Nat):Int:=if aer ks h p q then pcB ks h p q else-1
theorem qE {ks:List Bool} {h:Nat} {E:Nat→Int} {p q:Nat}:jY ks h E p q=pcB ks h p q+E q:=rfl
theorem r9 {ks:List Bool} {h p q:Nat} (hm:aer ks h p q) (hh:h≤30):0≤pcB ks h p q∧pcB ks h p q≤900:=by
 obtain⟨h1,h2,h3,h4⟩:=hm;unfold pcB;split
 ·omega
 ·obtain⟨d,hd⟩:∃d:Nat,(h:Int)-((q:Int)-p)=d:=⟨h-(q-p),by omega⟩
  have hd2:d≤30:=by omega
  have:d*d≤30*30:=Nat.mul_le_mul hd2 hd2;rw[hd];have e:(d:Int)*d=((d*d:Nat):Int):=by simp
  omega
def aaZ:Fun:=fun ps=>open Classical in if hx:∃(ks:List Bool) (h p q:Nat),ps=[.lst false 4 (ks.map eY),.val (.int .i64 h),.val (.int .i64 p),.val (.int .i64 q)]∧ks.length≤30∧h≤30∧p<q∧q≤ks.length then some (iv (pcR hx.choose hx.choose_spec.choose hx.choose_spec.choose_spec.choose hx.choose_spec.choose_spec.choose_spec.choose))else none
theorem alS {a b:List Bool} (h:a.map eY=b.map eY):a=b:=(List.map_inj_right fun x y e=>by simpa using e).1 h
theorem adu {ks:List Bool} {h p q:Nat} (h1:ks.length≤30) (h2:h≤30) (h3:p<q) (h4:q≤ks.length):aaZ [.lst false 4 (ks.map eY),.val (.int .i64 h),.val (.int .i64 p),.val (.int .i64 q)]=some (.val (.int .i64 (pcR ks h p q))):=by have hx:∃(ks':List Bool) (h' p' q':Nat),[PV.lst false 4 (ks.map eY),.val (.int .i64 h),.val (.int .i64 p),.val (.int .i64 q)]=[.lst false 4 (ks'.map eY),.val (.int .i64 h'),.val (.int .i64 p'),.val (.int .i64 q')]∧ks'.length≤30∧h'≤30∧p'<q'∧q'≤ks'.length:=⟨ks,h,p,q,rfl,h1,h2,h3,h4⟩;unfold aaZ;rw[dif_pos hx];have e:=hx.choose_spec.choose_spec.choose_spec.choose_spec.1;generalize hx.choose_spec.choose_spec.choose_spec.choose=q' at*;generalize hx.choose_spec.choose_spec.choose=p' at*;generalize hx.choose_spec.choose=h' at*;generalize hx.choose=ks' at*;simp only[List.cons.injEq,PV.lst.injEq,PV.val.injEq,Value.int.injEq,true_and,and_true,Int.natCast_inj]at e;obtain⟨e1,e2,e3,e4⟩:=e;rw[alS e1,e2,e3,e4]
theorem ae1 {ps:List PV} {r:PV} (h:aaZ ps=some r):∃(ks:List Bool) (h p q:Nat),ps=[.lst false 4 (ks.map eY),.val (.int .i64 h),.val (.int .i64 p),.val (.int .i64 q)]∧(ks.length≤30∧h≤30∧p<q∧q≤ks.length)∧r=iv (pcR ks h p q):=by
 have h0:=h;unfold aaZ at h;split at h
 ·rename_i hx
  obtain⟨ks,hh,p,q,rfl,h1,h2,h3,h4⟩:=hx;rw[adu h1 h2 h3 h4]at h0;exact⟨ks,hh,p,q,rfl,⟨h1,h2,h3,h4⟩,(Option.some.inj h0).symm⟩
 ·cases h
def GPc:Ctx:={fn:=aY [(59,aji)],io:=aY []}
theorem atz:ak Tryz.prog GPc:=okΓ (fC Tryz.func59 abq aj) aj
def ab8:=ah (Γ:=GPc) (f:=59) (φ:=aji) rfl
theorem abR:Sound Tryz.prog 41 aaZ:=by
 refine au mixed atz Tryz.func41 rfl 47 rfl [.tmp 8] rfl (by kernel_rfl) fun ps r hr=>?_;obtain⟨ks,h,p,q,rfl,⟨h1,h2,h3,h4⟩,rfl⟩:=ae1 hr;clear hr;refine⟨by simp,?_⟩;have hsl:((ks.drop p).take (q-p)).length=q-p:=by rw[List.length_take,List.length_drop];omega
 have aph:=ajU (l:=(ks.drop p).take (q-p)) (by omega);rw[hsl]at aph;have hqp:((q-p:Nat):Int)=(q:Int)-p:=by omega
 by_cases hneg:(h:Int)-((q:Int)-p)<0
 ·have hR:pcR ks h p q=-1:=if_neg fun hm=>by have:=hm.2.2.1;omega
  rw[hR];have gpc_c59:=ab8;exact wlkF
 ·obtain⟨d,hd⟩:∃d:Nat,(h:Int)-((q:Int)-p)=d:=⟨h-(q-p),by omega⟩
  have hd2:d≤30:=by omega
  have hdd:d*d≤30*30:=Nat.mul_le_mul hd2 hd2;have hdc:(d:Int)*d=((d*d:Nat):Int):=by simp
  have w1:=dw (n:=((h:Int)-((q:Int)-p))*((h:Int)-((q:Int)-p))) (by rw[hd,hdc];omega) (by rw[hd,hdc];omega);clear hd hd2 hdd hdc;by_cases hqn:q=ks.length
  ·subst hqn
   have hR:pcR ks h p ks.length=0:=by unfold pcR;rw[if_pos ⟨h3,h4,by omega,fun e=>by omega⟩];exact if_pos rfl
   rw[hR];have gpc_c59:=ab8;exact wlkF
  ·cases hkp:ks[q-1]?.getD false with
   |true=>have hR:pcR ks h p q=-1:=if_neg fun hm=>hm.2.2.2 ⟨by omega,hkp⟩;rw[hR];have gpc_c59:=ab8;exact wlkF
   |false=>
    have hR:pcR ks h p q=((h:Int)-((q:Int)-p))*((h:Int)-((q:Int)-p)):=by unfold pcR;rw[if_pos ⟨h3,h4,by omega,fun e=>by rw[show aff ks (q-1)=ks[q-1]?.getD false from rfl,hkp]at e;cases e.2⟩];exact if_neg hqn
    rw[hR];have gpc_c59:=ab8;exact wlkF
theorem acz {ks:List Bool} {h:Nat} {E:Nat→Int} {p:Nat} {B:Int} (hp:p≤ks.length) (hh:h≤30) (hB:0≤B) (hE:∀q,E q≤B):∀m,m≤ks.length→-1≤(dnP ks h E p m).1∧(dnP ks h E p m).1≤900+B∧(dnP ks h E p m).2≤ks.length:=fun m hm=>by
 have hb:=qI (ks:=ks) (h:=h) (E:=E) (p:=p) m hm;by_cases c:(dnP ks h E p m).1<0
 ·rw[(hb.no c).1]
  refine⟨?_,?_,?_⟩
  ·show(-1:Int)≤-1
   omega
  ·show(-1:Int)≤900+B
   omega
  ·show 0≤ks.length
   omega
 ·obtain⟨q1,q2,q3,q4⟩:=hb.yes (by omega)
  have h1:=r9 q2.1 hh;have h2:=hE (dnP ks h E p m).2;rw[qE]at q3;exact⟨by omega,by omega,q1.2⟩
theorem lF {ks:List Bool} {h:Nat} (hh:h≤30):∀k,k≤ks.length→∀x,-1≤(tbP ks h k x).1∧(tbP ks h k x).1≤900*k∧(tbP ks h k x).2≤ks.length
 |0,_,x=>⟨by show(-1:Int)≤0;omega,by show(0:Int)≤900*0;omega,Nat.zero_le _⟩
 |k+1,hk,x=>by
  have ih:=lF (ks:=ks) hh k (by omega);show-1≤(if x=ks.length-(k+1)then bq ks h (fun q=>(tbP ks h k q).1) (ks.length-(k+1))else tbP ks h k x).1∧(if x=ks.length-(k+1)then bq ks h (fun q=>(tbP ks h k q).1) (ks.length-(k+1))else tbP ks h k x).1≤900*((k+1:Nat):Int)∧(if x=ks.length-(k+1)then bq ks h (fun q=>(tbP ks h k q).1) (ks.length-(k+1))else tbP ks h k x).2≤ks.length;split
  ·have:=acz (ks:=ks) (h:=h) (E:=fun q=>(tbP ks h k q).1) (p:=ks.length-(k+1)) (B:=900*k) (by omega) hh (by omega) (fun q=>(ih q).2.1) (ks.length-(ks.length-(k+1))) (by omega)
   unfold bq;refine⟨this.1,by omega,this.2.2⟩
  ·have:=ih x
   exact⟨this.1,by omega,this.2.2⟩
theorem ach {ks:List Bool} {h k:Nat} (hk:k<ks.length):(fun x=>(tbP ks h (k+1) x).1)=ovr (fun x=>(tbP ks h k x).1) (ks.length-(k+1)) (bq ks h (fun q=>(tbP ks h k q).1) (ks.length-(k+1))).1∧(fun x=>((tbP ks h (k+1) x).2:Int))=ovr (fun x=>((tbP ks h k x).2:Int)) (ks.length-(k+1)) ((bq ks h (fun q=>(tbP ks h k q).1) (ks.length-(k+1))).2:Int):=by
 constructor<;>(funext x;show _=if x=_ then _ else _;split)
 ·rename_i e;subst e;show(if ks.length-(k+1)=ks.length-(k+1)then _ else _:Int×Nat).1=_;rw[if_pos rfl]
 ·rename_i e;show(if x=ks.length-(k+1)then _ else _:Int×Nat).1=_;rw[if_neg e]
 ·rename_i e;subst e;show((if ks.length-(k+1)=ks.length-(k+1)then _ else _:Int×Nat).2:Int)=_;rw[if_pos rfl]
 ·rename_i e;show((if x=ks.length-(k+1)then _ else _:Int×Nat).2:Int)=_;rw[if_neg e]
def uq:Fun:=fun ps=>open Classical in if hx:∃(ks:List Bool) (h:Nat),ps=[.lst false 4 (ks.map eY),.val (.int .i64 h)]∧ks.length≤30∧1≤h∧h≤30 then some (.tup [.lst true 1 (((jv hx.choose hx.choose_spec.choose).map fun n:Nat=>(n:Int)).map fun n=> .val (.int .i64 n)),bv (xY hx.choose hx.choose_spec.choose)])else none
theorem qH {ks:List Bool} {h:Nat} (h1:ks.length≤30) (h2:1≤h) (h3:h≤30):uq [.lst false 4 (ks.map eY),.val (.int .i64 h)]=some (.tup [.lst true 1 (((jv ks h).map fun n:Nat=>(n:Int)).map fun n=> .val (.int .i64 n)),.val (.bool (xY ks h))]):=by have hx:∃(ks':List Bool) (h':Nat),[PV.lst false 4 (ks.map eY),.val (.int .i64 h)]=[.lst false 4 (ks'.map eY),.val (.int .i64 h')]∧ks'.length≤30∧1≤h'∧h'≤30:=⟨ks,h,rfl,h1,h2,h3⟩;unfold uq;rw[dif_pos hx];have e:=hx.choose_spec.choose_spec.1;generalize hx.choose_spec.choose=h' at*;generalize hx.choose=ks' at*;simp only[List.cons.injEq,PV.lst.injEq,PV.val.injEq,Value.int.injEq,true_and,and_true,Int.natCast_inj]at e;obtain⟨e1,e2⟩:=e;rw[alS e1,e2]
theorem uY {ps:List PV} {r:PV} (h:uq ps=some r):∃(ks:List Bool) (h:Nat),ps=[.lst false 4 (ks.map eY),.val (.int .i64 h)]∧(ks.length≤30∧1≤h∧h≤30)∧r=.tup [.lst true 1 (((jv ks h).map fun n:Nat=>(n:Int)).map fun n=> .val (.int .i64 n)),bv (xY ks h)]:=by
 have h0:=h;unfold uq at h;split at h
 ·rename_i hx
  obtain⟨ks,hh,rfl,h1,h2,h3⟩:=hx;rw[qH h1 h2 h3]at h0;exact⟨ks,hh,rfl,⟨h1,h2,h3⟩,(Option.some.inj h0).symm⟩
 ·cases h
def avN:Ctx:={fn:=aY [(40,ajL),(41,aaZ)],io:=aY []}
theorem aoC:ak Tryz.prog avN:=okΓ (fC Tryz.func40 aeE (fC Tryz.func41 abR aj)) aj
def aoE:=ah (Γ:=avN) (f:=40) (φ:=ajL) rfl
def amo:=ah (Γ:=avN) (f:=41) (φ:=aaZ) rfl
theorem afj:Sound Tryz.prog 20 uq:=by
 refine gP mixed aoC Tryz.func20 rfl 105 rfl [.tmp 4,.tmp 5] rfl (by kernel_rfl) fun ps r hr=>?_;obtain⟨ks,h,rfl,⟨h1,h2,h3⟩,rfl⟩:=uY hr;clear hr;refine⟨by simp,?_⟩;have apa:=akP (l:=ks) (h:=h) (by omega);rw[decide_eq_true h1,show inB (h:Int) 1 1000=true from av.2 ⟨by omega,by omega⟩]at apa;have gbpi_c40:=aoE;have gbpi_c41:=amo;(refine wlk ?_;intros);refine aG (α:=Nat) mixed (fun k=>[(0,.lst false 4 (ks.map eY)),(1,iv h),(6,iv ks.length),(7,.row 0 1 0 (ks.length+1)),(8,.row 1 1 0 (ks.length+1)),(9,.val (.int .i64 ((ks.length:Int)-1-k)))])
  (fun k=>[(0,3,1,vL ks.length (fun x=>(tbP ks h k x).1)),(1,3,1,vL ks.length (fun x=>((tbP ks h k x).2:Int)))]) (fun _=>2) (fun k=>k≤ks.length) (fun k=>ks.length-k) (by kernel_rfl) 0 (Nat.zero_le _) ?_ ?_ rfl ?_
 ·exact agi
 ·simp(disch:=(first|omega|(simp only[push_cast];first|done|omega))) only[push_cast,↓reduceIte,Nat.reduceEqDiff,Nat.reduceBEq,Nat.reduceAdd,Nat.reduceSub,Int.reduceToNat,List.length_append, *]
  try exact⟨rfl,rfl⟩
 intro k hk;have hbd:=lF (ks:=ks) h3 k hk;by_cases hkl:k<ks.length
 ·obtain⟨e1,e2⟩:=ach (h:=h) hkl
  have hlow:=abU (ks:=ks) (h:=h) (k:=k) (x:=ks.length-(k+1)) hk (by omega);have hp:(ks.length:Int)-1-k=((ks.length-(k+1):Nat):Int):=by omega
  rw[hp];replace hp:=Lib.hid hp;have hdn:=fun m hm=>acz (ks:=ks) (h:=h) (E:=fun q=>(tbP ks h k q).1) (p:=ks.length-(k+1)) (B:=900*k) (by omega) h3 (by omega) (fun q=>(hbd q).2.1) m hm;have hbq:bq ks h (fun q=>(tbP ks h k q).1) (ks.length-(k+1))=dnP ks h (fun q=>(tbP ks h k q).1) (ks.length-(k+1)) (ks.length-(ks.length-(k+1))):=rfl;rw[hbq]at e1 e2;clear hbq;have hN0:((tbP ks h k (ks.length-(k+1))).2:Int)=0:=by rw[hlow];rfl
  have hEb:∀x,-1≤(fun x=>(tbP ks h k x).1) x∧(fun x=>(tbP ks h k x).1) x≤27000:=fun x=>by have:=hbd x;exact⟨this.1,by dsimp only;omega⟩
  replace hN0:(fun x=>((tbP ks h k x).2:Int)) (ks.length-(k+1))=0:=hN0;have hpk:ks.length-(k+1)<ks.length:=by omega
  clear hbd hlow;generalize hEe:(fun x=>(tbP ks h k x).1)=E at*;generalize hNe:(fun x=>((tbP ks h k x).2:Int))=Nx at*;replace e1:=Lib.hid e1;replace e2:=Lib.hid e2;clear hEe hNe;generalize ks.length-(k+1)=p at*;have hov:ovr Nx p ((dnP ks h E p 0).2:Int)=Nx:=by rw[show((dnP ks h E p 0).2:Int)=Nx p from hN0.symm];exact ale
  replace hov:=Lib.hid hov;replace hN0:=Lib.hid hN0;(refine wlk ?_;intros);refine aG (α:=Nat) mixed (fun m=>[(0,.lst false 4 (ks.map eY)),(1,iv h),(6,iv ks.length),(7,.row 0 1 0 (ks.length+1)),(8,.row 1 1 0 (ks.length+1)),(9,iv p),(10,.val (.int .i64 ((ks.length:Int)-m)))])
   (fun m=>[(0,3,1,vL ks.length (ovr E p (dnP ks h E p m).1)),(1,3,1,vL ks.length (ovr Nx p ((dnP ks h E p m).2:Int)))]) (fun _=>2) (fun m=>m≤ks.length-p) (fun m=>ks.length-p-m) (by kernel_rfl) 0 (Nat.zero_le _) ?_ ?_ rfl ?_
  ·exact agi
  ·(try dsimp only)
   rw[hov.out];simp(disch:=(first|omega|(simp only[push_cast];first|done|omega))) only[push_cast,↓reduceIte,Nat.reduceEqDiff,Nat.reduceBEq,Nat.reduceAdd,Nat.reduceSub,Int.reduceToNat,List.length_append, *];try rfl
  intro m hm;have hsb:=hdn m (by omega);by_cases hml:m<ks.length-p
  ·have hq:(ks.length:Int)-m=((ks.length-m:Nat):Int):=by omega
   have hst:dnP ks h E p (m+1)=abK ks h E p (ks.length-m) (dnP ks h E p m):=rfl;have hpq:p<ks.length-m:=by omega
   have hqn:ks.length-m≤ks.length:=by omega
   have hEq:=hEb (ks.length-m);(try dsimp only);rw[hq];replace hq:=Lib.hid hq;generalize ks.length-m=q at*;have apc:=adu (ks:=ks) (h:=h) (p:=p) (q:=q) h1 h3 hpq hqn;have hpm:=fun hm=>r9 (ks:=ks) (h:=h) (p:=p) (q:=q) hm h3;generalize dnP ks h E p m=s at*;have ea:ovr E p s.1 q=E q:=alX (by omega);have eb:ovr E p s.1 p=s.1:=alg;have eo:∀v,ovr (ovr E p s.1) p v=ovr E p v:=fun v=>vC;have eo2:∀v,ovr (ovr Nx p (s.2:Int)) p v=ovr Nx p v:=fun v=>vC;unfold abK okQ at hst;rw[qE]at hst;clear hEb hN0 hov hdn e1 e2 hp;by_cases hok:aer ks h p q
   ·have hpc:pcR ks h p q=pcB ks h p q:=if_pos hok
    obtain⟨hc0,hc1⟩:=hpm hok;rw[hpc]at apc;clear hpm hpc;by_cases hE0:E q<0
    ·have hst2:dnP ks h E p (m+1)=s:=by rw[hst];exact if_neg fun e=>by have:=e.1.2;omega
     replace hst2:=Lib.hid hst2;clear hst;generalize pcB ks h p q=c at*;(refine wlk ?_;intros);refine⟨m+1,by omega,by dsimp only;omega,?_,?_,rfl⟩
     ·have hq:=hq.out
      exact agi
     ·(try dsimp only)
      rw[hst2.out];exact agr
    ·by_cases hs0:s.1<0
     ·have hst2:dnP ks h E p (m+1)=(pcB ks h p q+E q,q):=by rw[hst];exact if_pos ⟨⟨hok,by omega⟩,.inl hs0⟩
      replace hst2:=Lib.hid hst2;clear hst;generalize pcB ks h p q=c at*;(refine wlk ?_;intros);refine⟨m+1,by omega,by dsimp only;omega,?_,?_,rfl⟩
      ·have hq:=hq.out
       exact agi
      ·(try dsimp only)
       rw[hst2.out];exact agr
     ·by_cases hlt:pcB ks h p q+E q<s.1
      ·have hst2:dnP ks h E p (m+1)=(pcB ks h p q+E q,q):=by rw[hst];exact if_pos ⟨⟨hok,by omega⟩,.inr hlt⟩
       replace hst2:=Lib.hid hst2;clear hst;generalize pcB ks h p q=c at*;(refine wlk ?_;intros);refine⟨m+1,by omega,by dsimp only;omega,?_,?_,rfl⟩
       ·have hq:=hq.out
        exact agi
       ·(try dsimp only)
        rw[hst2.out];exact agr
      ·have hst2:dnP ks h E p (m+1)=s:=by rw[hst];exact if_neg fun e=>e.2.elim hs0 hlt
       replace hst2:=Lib.hid hst2;clear hst;generalize pcB ks h p q=c at*;(refine wlk ?_;intros);refine⟨m+1,by omega,by dsimp only;omega,?_,?_,rfl⟩
       ·have hq:=hq.out
        exact agi
       ·(try dsimp only)
        rw[hst2.out];exact agr
   ·have hpc:pcR ks h p q=-1:=if_neg hok
    rw[hpc]at apc;have hst2:dnP ks h E p (m+1)=s:=by rw[hst];exact if_neg fun e=>hok e.1.1
    replace hst2:=Lib.hid hst2;clear hst hpm hpc;(refine wlk ?_;intros);refine⟨m+1,by omega,by dsimp only;omega,?_,?_,rfl⟩
    ·have hq:=hq.out
     exact agi
    ·(try dsimp only)
     rw[hst2.out];exact agr
  ·obtain rfl:m=ks.length-p:=by omega
   have hm2:(ks.length:Int)-((ks.length-p:Nat):Int)=p:=by omega
   (try dsimp only);rw[hm2];clear hm2;generalize dnP ks h E p (ks.length-p)=s at*;(refine wlk ?_;intros);refine⟨k+1,by omega,by dsimp only;omega,?_,?_,rfl⟩
   ·have hp:=hp.out
    exact agi
   ·(try dsimp only)
    rw[e1.out,e2.out];exact agr
 ·obtain rfl:k=ks.length:=by omega
  (try dsimp only);rw[show(ks.length:Int)-1-(ks.length:Int)=-1 by omega,show(fun x=>(tbP ks h ks.length x).1)=dW ks h from rfl,show(fun x=>((tbP ks h ks.length x).2:Int))=fun x=>(jJ ks h x:Int)from rfl];have hb0:-1≤dW ks h 0∧dW ks h 0≤27000:=by have:=hbd 0;exact⟨this.1,by unfold dW;omega⟩
  clear hbd;cases hB:xY ks h with
  |false=>
   have hl0:dW ks h 0<0:=by unfold xY at hB;simpa using hB
   have hE0:jv ks h=[]:=by unfold jv;rw[if_neg (by rw[hB];decide)]
   rw[hE0,List.map_nil,List.map_nil];clear hB hE0;generalize dW ks h=L at*;generalize(fun x=>(jJ ks h x:Int))=Nx at*;(refine wlk ?_;intros);all_goals((with_reducible apply cO (by first|exact .inl rfl|exact .inr rfl));(simp(disch:=(first|omega|(simp only[push_cast];first|done|omega))) only[push_cast,↓reduceIte,Nat.reduceEqDiff,Nat.reduceBEq,Nat.reduceAdd,Nat.reduceSub,Int.reduceToNat, *]<;>with_reducible exact rfl))
   all_goals exact nL ⟨nil_le _ _,PV.le_refl _,trivial⟩
  |true=>
   have hl0:=wW.1 hB;have hE0:jv ks h=l8 ks h ks.length 0:=if_pos hB;have hch:=sj (uP hB);have hnm:=fun p h1 h2=>wY (ks:=ks) (h:=h) (p:=p) h1 h2;have hpe:=fun f=>acy (ks:=ks) (h:=h) (f:=f);have hpS:∀f p,p<ks.length→l8 ks h (f+1) p=jJ ks h p::l8 ks h f (jJ ks h p):=fun f p hp=>if_pos hp;have hNb:∀p,jJ ks h p≤ks.length:=fun p=>by
    by_cases hp:p<ks.length
    ·exact(sK (ks:=ks) (h:=h) (E:=dW ks h) (p:=p) (by omega))|>fun hb=>by
      have e:=abt (h:=h) hp;by_cases c:(bq ks h (dW ks h) p).1<0
      ·unfold jJ
       rw[e,(hb.no c).1];exact Nat.zero_le _
      ·unfold jJ
       rw[e];exact(hb.yes (by omega)).1.2
    ·have:=(lF (ks:=ks) h3 ks.length (Nat.le_refl _) p).2.2
     exact this
   rw[hE0]at hch;rw[hE0];clear hB hE0;generalize hLL:dW ks h=L at*;generalize hNN:jJ ks h=Nx at*;generalize hZ:(l8 ks h ks.length 0).map (fun n:Nat=>(n:Int))=Z at*;have hZl:Z.length≤ks.length:=by rw[←hZ,List.length_map];exact hch
   (refine wlk ?_;intros);refine aG (α:=List Int×Nat×Nat×Nat) mixed (fun i=>[(6,iv ks.length),(8,.row 1 1 0 (ks.length+1)),(12,nP 1 (i.1.map fun n=> .val (.int .i64 n)) i.2.2.1),(13,iv i.2.1)])
    (fun i=>[(1,3,1,vL ks.length (fun x=>(Nx x:Int)))]++nO 3 1 (i.1.map fun n=> .val (.int .i64 n)) i.2.2.1) (fun i=>i.2.2.2)
    (fun i=>(i.2.1≤ks.length∧0≤L i.2.1)∧(2≤i.2.2.2∧(0<i.1.length→2≤i.2.2.1∧i.2.2.1<i.2.2.2))∧∃f,ks.length-i.2.1≤f∧i.1++(l8 ks h f i.2.1).map (fun n:Nat=>(n:Int))=Z) (fun i=>ks.length-i.2.1) (by kernel_rfl) ([],0,0,2) ⟨⟨Nat.zero_le _,hl0⟩,⟨Nat.le_refl _,fun e=>absurd e (Nat.lt_irrefl 0)⟩,ks.length,by dsimp only;omega,by rw[List.nil_append];exact hZ⟩ ?_ ?_ rfl ?_
   ·(try dsimp only)
    rw[List.map_nil,eZ];exact agi
   ·(try dsimp only)
    rw[List.map_nil,eF];simp(disch:=(first|omega|(simp only[push_cast];first|done|omega))) only[push_cast,↓reduceIte,Nat.reduceEqDiff,Nat.reduceBEq,Nat.reduceAdd,Nat.reduceSub,Int.reduceToNat,List.cons_append,List.nil_append,List.append_nil, *]
   rintro⟨OUT,p,o,y⟩ ⟨⟨hp,hLp⟩,⟨hy,hoy⟩,f,hf,hout⟩;dsimp only at hp hLp hy hoy hf hout⊢;by_cases hpl:p<ks.length
   ·obtain⟨f,rfl⟩:∃g,f=g+1:=⟨f-1,by omega⟩
    obtain⟨hm1,hm2⟩:=hnm p hpl hLp;have hn1:=hm1.1;have hn2:=hm1.2.1;rw[hpS f p hpl,List.map_cons]at hout;have hout2:(OUT++[(Nx p:Int)])++(l8 ks h f (Nx p)).map (fun n:Nat=>(n:Int))=Z:=by rw[List.append_assoc];exact hout
    have hol:OUT.length+1≤ks.length:=by have:=congrArg List.length hout2;simp only[List.length_append,List.length_singleton]at this;omega
    clear hout hnm hpe hpS hm1 hLL hNN hZ hch;replace hout2:=Lib.hid hout2;replace hm2:=Lib.hid hm2;by_cases hO:OUT.length=0
    ·obtain rfl:OUT=[]:=List.eq_nil_of_length_eq_zero hO
     rw[List.map_nil,eZ,eF,List.append_nil];clear hO hoy;(refine wlk ?_;intros);refine⟨([(Nx p:Int)],Nx p,y+1,y+2),⟨⟨by dsimp only;omega,hm2.out⟩,⟨by dsimp only;omega,fun _=>⟨by dsimp only;omega,by dsimp only;omega⟩⟩,f,by dsimp only;omega,hout2.out⟩,by dsimp only;omega,?_,?_,rfl⟩
     ·(try dsimp only)
      rw[aB (by simp)];exact agi
     ·(try dsimp only)
      rw[aF (by simp)];simp(disch:=(first|omega|(simp only[push_cast];first|done|omega))) only[push_cast,↓reduceIte,Nat.reduceEqDiff,Nat.reduceBEq,Nat.reduceAdd,Nat.reduceSub,Int.reduceToNat,List.cons_append,List.nil_append,List.append_nil, *]
    ·obtain⟨ho1,ho2⟩:=hoy (by omega)
     rw[aB (es:=OUT.map fun n=> .val (.int .i64 n)) (by rw[List.length_map];omega),aF (es:=OUT.map fun n=> .val (.int .i64 n)) (by rw[List.length_map];omega)];simp only[List.cons_append,List.nil_append,List.length_map];(refine wlk ?_;intros);refine⟨(OUT++[(Nx p:Int)],Nx p,y+1,y+2),⟨⟨by dsimp only;omega,hm2.out⟩,⟨by dsimp only;omega,fun _=>⟨by dsimp only;omega,by dsimp only;omega⟩⟩,f,by dsimp only;omega,hout2.out⟩,by dsimp only;omega,?_,?_,rfl⟩
     ·(try dsimp only)
      rw[aB (by simp)];exact agi
     ·(try dsimp only)
      rw[aF (by simp)];simp(disch:=(first|omega|(simp only[push_cast];first|done|omega))) only[push_cast,↓reduceIte,Nat.reduceEqDiff,Nat.reduceBEq,Nat.reduceAdd,Nat.reduceSub,Int.reduceToNat,List.cons_append,List.nil_append,List.append_nil, *]
   ·obtain rfl:p=ks.length:=by omega
    rw[hpe f,List.map_nil,List.append_nil]at hout;subst hout;clear hnm hpe hpS hLL hNN hZ hch hNb;by_cases hO:OUT.length=0
    ·obtain rfl:OUT=[]:=List.eq_nil_of_length_eq_zero hO
     rw[List.map_nil,eZ,eF,List.append_nil];clear hO hoy;(refine wlk ?_;intros);all_goals((with_reducible apply cO (by first|exact .inl rfl|exact .inr rfl));(simp(disch:=(first|omega|(simp only[push_cast];first|done|omega))) only[push_cast,↓reduceIte,Nat.reduceEqDiff,Nat.reduceBEq,Nat.reduceAdd,Nat.reduceSub,Int.reduceToNat, *]<;>with_reducible exact rfl))
     all_goals exact nL ⟨nil_le _ _,PV.le_refl _,trivial⟩
    ·obtain⟨ho1,ho2⟩:=hoy (by omega)
     rw[aB (es:=OUT.map fun n=> .val (.int .i64 n)) (by rw[List.length_map];omega),aF (es:=OUT.map fun n=> .val (.int .i64 n)) (by rw[List.length_map];omega)];simp only[List.cons_append,List.nil_append,List.length_map];(refine wlk ?_;intros);all_goals((with_reducible apply cO (by first|exact .inl rfl|exact .inr rfl));(simp(disch:=(first|omega|(simp only[push_cast];first|done|omega))) only[push_cast,↓reduceIte,Nat.reduceEqDiff,Nat.reduceBEq,Nat.reduceAdd,Nat.reduceSub,Int.reduceToNat, *]<;>with_reducible exact rfl))
     all_goals exact PV.le_refl _
abbrev zN (c:List Nat):List Int:=c.map fun n:Nat=>(n:Int)
theorem ash {a b:List Nat} (h:zN a=zN b):a=b:=(List.map_inj_right fun x y e=>Int.natCast_inj.1 e).1 h
theorem int_inj {a b:List Int} (h:(a.map fun n=>PV.val (.int .i64 n))=b.map fun n=>PV.val (.int .i64 n)):a=b:=(List.map_inj_right fun x y e=>by simpa using e).1 h
theorem abI {c:List Nat} {k:Nat} (h:k<c.length):(zN c)[k]?.getD 0=((c[k]?.getD 0:Nat):Int):=by rw[List.getElem?_map,List.getElem?_eq_getElem h];rfl
def alu (c:List Nat):Prop:=(∀x∈c,1≤x)∧c.sum≤30
def wI:Fun:=fun ps=>open Classical in if hx:∃c:List Nat,ps=[.lst false 1 ((zN c).map fun n=> .val (.int .i64 n)),.val (.int .i64 1)]∧alu c then some (.lst true 4 ((dQ hx.choose).map eY))else none
theorem qj {c:List Nat} (h:alu c):wI [.lst false 1 ((zN c).map fun n=> .val (.int .i64 n)),.val (.int .i64 1)]=some (.lst true 4 ((dQ c).map eY)):=by have hx:∃c':List Nat,[PV.lst false 1 ((zN c).map fun n=> .val (.int .i64 n)),.val (.int .i64 1)]=[.lst false 1 ((zN c').map fun n=> .val (.int .i64 n)),.val (.int .i64 1)]∧alu c':=⟨c,rfl,h⟩;unfold wI;rw[dif_pos hx];have e:=hx.choose_spec.1;generalize hx.choose=c' at*;simp only[List.cons.injEq,PV.lst.injEq,true_and,and_true]at e;rw[ash (int_inj e)]
theorem vg {ps:List PV} {r:PV} (h:wI ps=some r):∃c:List Nat,ps=[.lst false 1 ((zN c).map fun n=> .val (.int .i64 n)),.val (.int .i64 1)]∧alu c∧r=.lst true 4 ((dQ c).map eY):=by
 have h0:=h;unfold wI at h;split at h
 ·rename_i hx
  obtain⟨c,rfl,hc⟩:=hx;rw[qj hc]at h0;exact⟨c,rfl,hc,(Option.some.inj h0).symm⟩
 ·cases h
theorem aru {c:List Nat} (h:alu c):c.length≤30:=by
 have:c.length≤c.sum:=by
  have h1:=h.1;clear h
  induction c with
  |nil=>simp
  |cons x c ih=>have:=ih fun y hy=>h1 y (by simp[hy]);have:=h1 x (by simp);simp only[List.length_cons,List.sum_cons];omega
 have:=h.2;omega
theorem yK {c:List Nat} (h:alu c) {k:Nat} (hk:k<c.length):1≤c[k]?.getD 0∧(dQ (c.take k)).length+c[k]?.getD 0≤30:=by have h1:=wF hk;have h2:=tF c (k+1);rw[nT];refine⟨?_,by have:=h.2;omega⟩;rw[List.getElem?_eq_getElem hk,Option.getD_some];exact h.1 _ (List.getElem_mem hk)
def aui:Ctx:={fn:=aY [(48,φIn)],io:=aY []}
theorem aku:ak Tryz.prog aui:=okΓ (fC Tryz.func48 iq aj) aj
def aiU:=ah (Γ:=aui) (f:=48) (φ:=φIn) rfl
theorem afd:Sound Tryz.prog 25 wI:=by
 refine gP mixed aku Tryz.func25 rfl 75 rfl [.tmp 4] rfl (by kernel_rfl) fun ps r hr=>?_;obtain⟨c,rfl,hc,rfl⟩:=vg hr;clear hr;refine⟨by simp,?_⟩;have hcl:=aru hc;have hzl:(zN c).length=c.length:=by simp
 have hza:=fun k h=>abI (c:=c) (k:=k) h;have hpt:=fun k h=>yK hc (k:=k) h;have hrt:=fun k h=>oJ (c:=c) (k:=k) h;have hfull:c.take c.length=c:=List.take_length;have h11:inB 1 1 1000=true:=by decide
 have ap:=bL;clear hc;generalize zN c=C at*;have grwps_c48:=aiU;(refine wlk ?_;intros);refine aG (α:=Nat×Nat×Nat) mixed (fun i=>[(0,.lst false 1 (C.map fun n=> .val (.int .i64 n))),(1,iv 1),(5,.row i.2.1 4 0 (dQ (c.take i.1)).length),(6,iv i.1)])
  (fun i=>[(i.2.1,70,4,(dQ (c.take i.1)).map eY)]) (fun i=>i.2.2) (fun i=>i.1≤c.length∧i.2.1<i.2.2) (fun i=>c.length-i.1) (by kernel_rfl) (0,0,1) ⟨Nat.zero_le _,by decide⟩ ?_ ?_ rfl ?_
 ·(simp(disch:=(first|omega|(simp only[push_cast];first|done|omega))) only[push_cast,↓reduceIte,Nat.reduceEqDiff,Nat.reduceBEq,Nat.reduceAdd,Nat.reduceSub,Int.reduceToNat,List.length_append, *];try exact congrArg (fun z=>PV.val (Value.int IntKind.i64 z)) (by omega))
  try rfl
 ·simp(disch:=(first|omega|(simp only[push_cast];first|done|omega))) only[push_cast,↓reduceIte,Nat.reduceEqDiff,Nat.reduceBEq,Nat.reduceAdd,Nat.reduceSub,Int.reduceToNat,List.length_append, *]
  try rfl
 rintro⟨k,o,y⟩ ⟨hk,hoy⟩;dsimp only at hk hoy⊢;by_cases hkl:k<c.length
 ·obtain⟨hn1,hn30⟩:=hpt k hkl
  have hzk:=hza k hkl;have hr1:=hrt k hkl;have hin:inB (c[k]?.getD 0:Nat) 1 30=true:=av.2 ⟨by omega,by omega⟩;clear hpt hza hrt hfull;replace hr1:=Lib.hid hr1;generalize c[k]?.getD 0=n at*;generalize dQ (c.take k)=R at*;(refine wlk ?_;intros);refine aG (α:=Nat×Nat×Nat) mixed (fun i=>[(0,.lst false 1 (C.map fun n=> .val (.int .i64 n))),(1,iv 1),(5,.row i.2.1 4 0 (R++kpN n i.1).length),(6,iv k),(7,iv i.1)])
   (fun i=>[(i.2.1,70,4,(R++kpN n i.1).map eY)]) (fun i=>i.2.2) (fun i=>i.1≤n∧i.2.1<i.2.2) (fun i=>n-i.1) (by kernel_rfl) (0,o,_) ⟨Nat.zero_le _,hoy⟩ ?_ ?_ rfl ?_
  ·(try dsimp only)
   rw[jl,List.append_nil];exact agi;try rfl
  ·(try dsimp only)
   rw[jl,List.append_nil];exact agr;try rfl
  rintro⟨j,o2,y2⟩ ⟨hj,hoy2⟩;dsimp only at hj hoy2⊢;have hRl:(R++kpN n j).length=R.length+j:=by rw[List.length_append,kX]
  by_cases hjl:j<n
  ·have hs:(R++kpN n (j+1)).map eY=(R++kpN n j).map eY++[eY (kp n j)]:=by rw[xV,←List.append_assoc,List.map_append];rfl
   have hsl:(R++kpN n (j+1)).length=R.length+j+1:=by rw[List.length_append,kX];omega
   replace hs:=Lib.hid hs;replace hsl:=Lib.hid hsl;have hkt:=fun h=>att (n:=n) (j:=j) h;have hkf:=fun h=>avS (n:=n) (j:=j) h;replace hkt:=Lib.hid hkt;replace hkf:=Lib.hid hkf;have hml:((R++kpN n j).map eY).length=R.length+j:=by rw[List.length_map,hRl]
   rw[hRl];generalize(R++kpN n j).map eY=Q at*;clear hr1 hRl;(refine wlk6 ?_ ?_ ?_ ?_ ?_ ?_<;>intros<;>try with_reducible exact trivial);all_goals refine⟨(j+1,y2+1,y2+2),⟨by dsimp only;omega,by dsimp only;omega⟩,by dsimp only;omega,?_,?_,rfl⟩
   all_goals first
    |(dsimp only;rw[hsl.out];(simp(disch:=(first|omega|(simp only[push_cast];first|done|omega))) only[push_cast,↓reduceIte,Nat.reduceEqDiff,Nat.reduceBEq,Nat.reduceAdd,Nat.reduceSub,Int.reduceToNat,List.length_append, *];try exact congrArg (fun z=>PV.val (Value.int IntKind.i64 z)) (by omega));done)
    |skip
   all_goals(try dsimp only)
   all_goals rw[hs.out]
   all_goals first
    |rw[hkt.out (by omega)]
    |rw[hkf.out (by omega)]
    |rw[show kp n j=decide ((2:Int)<(n:Int)) by
      rcases Nat.lt_or_ge 2 n with q|q
      ·rw[hkt.out (by omega),decide_eq_true (by omega)]
      ·rw[hkf.out (by omega),decide_eq_false (by omega)]]
    |rw[show kp n j=decide ((1:Int)<(n:Int)) by
      rcases Nat.lt_or_ge 1 n with q|q
      ·rw[hkt.out (by omega),decide_eq_true (by omega)]
      ·rw[hkf.out (by omega),decide_eq_false (by omega)]]
   all_goals(try rw[show decide ((2:Int)<(n:Int))=true from decide_eq_true (by omega)])
   all_goals(try rw[show decide ((1:Int)<(n:Int))=true from decide_eq_true (by omega)])
   all_goals exact agr
  ·obtain rfl:j=n:=by omega
   rw[←hr1.out]at*;(refine wlk ?_;intros);refine⟨(k+1,o2,y2),⟨by dsimp only;omega,hoy2⟩,by dsimp only;omega,?_,?_,rfl⟩
   ·exact agi
   ·exact agr
 ·obtain rfl:k=c.length:=by omega
  rw[hfull];clear hpt hza hrt hfull;generalize dQ c=R at*;(refine wlk ?_;intros);all_goals((with_reducible apply cO (by first|exact .inl rfl|exact .inr rfl));(simp(disch:=(first|omega|(simp only[push_cast];first|done|omega))) only[push_cast,↓reduceIte,Nat.reduceEqDiff,Nat.reduceBEq,Nat.reduceAdd,Nat.reduceSub,Int.reduceToNat, *]<;>with_reducible exact rfl))
  all_goals exact PV.le_refl _
def aoQ:Ctx:={fn:=aY [(43,φIn),(42,pW)],io:=aY []}
theorem ajf:ak Tryz.prog aoQ:=okΓ (fC Tryz.func43 pO (fC Tryz.func42 afM aj)) aj
def aj5:=ah (Γ:=aoQ) (f:=43) (φ:=φIn) rfl
def akh:=ah (Γ:=aoQ) (f:=42) (φ:=pW) rfl
theorem aeo:Sound Tryz.prog 21 wI:=by
 refine gP mixed ajf Tryz.func21 rfl 52 rfl [.tmp 4] rfl (by kernel_rfl) fun ps r hr=>?_;obtain⟨c,rfl,hc,rfl⟩:=vg hr;clear hr;refine⟨by simp,?_⟩;have hcl:=aru hc;have hzl:(zN c).length=c.length:=by simp
 have hza:=fun k h=>abI (c:=c) (k:=k) h;have hpt:=fun k h=>yK hc (k:=k) h;have hrt:=fun k h=>oJ (c:=c) (k:=k) h;have hfull:c.take c.length=c:=List.take_length;have h11:inB 1 1 1000=true:=by decide
 have ap:=bL;have ap2:=@rG;clear hc;generalize zN c=C at*;have grwpi_c43:=aj5;have grwpi_c42:=akh;(refine wlk ?_;intros);refine aG (α:=Nat×Nat×Nat) mixed (fun i=>[(1,iv 1),(5,nP 4 ((dQ (c.take i.1)).map eY) i.2.1),(12,.lst false 1 (C.map fun n=> .val (.int .i64 n))),(13,iv c.length),(14,iv i.1)])
  (fun i=>nO 70 4 ((dQ (c.take i.1)).map eY) i.2.1) (fun i=>i.2.2) (fun i=>i.1≤c.length∧(0<(dQ (c.take i.1)).length→i.2.1<i.2.2)) (fun i=>c.length-i.1) (by kernel_rfl) (0,0,0) ⟨Nat.zero_le _,fun h=>absurd h (Nat.lt_irrefl 0)⟩ ?_ ?_ rfl ?_
 ·(try dsimp only)
  rw[show(dQ (c.take 0)).map eY=[]from rfl,eZ];exact agi
 ·(try dsimp only)
  rw[show(dQ (c.take 0)).map eY=[]from rfl,eF];(try trivial)
 rintro⟨k,o,y⟩ ⟨hk,hoy⟩;dsimp only at hk hoy⊢;by_cases hkl:k<c.length
 ·obtain⟨hn1,hn30⟩:=hpt k hkl
  have hzk:=hza k hkl;have hr1:=hrt k hkl;have hin:inB (c[k]?.getD 0:Nat) 1 (30-((dQ (c.take k)).length:Int))=true:=av.2 ⟨by omega,by omega⟩;have hin0:(dQ (c.take k)).length=0→inB (c[k]?.getD 0:Nat) 1 30=true:=fun h=>av.2 ⟨by omega,by omega⟩;clear hpt hza hrt hfull;replace hr1:=Lib.hid hr1;generalize c[k]?.getD 0=n at*;generalize dQ (c.take k)=R at*;by_cases hR0:R.length=0
  ·obtain rfl:R=[]:=List.eq_nil_of_length_eq_zero hR0
   have hin1:=hin0 rfl;have hin2:inB (n:Int) 1 (30-0)=true:=hin1;clear hin;rw[List.map_nil,eZ,eF];(refine wlk ?_;intros);refine aG (α:=Nat×Nat×Nat) mixed (fun i=>[(1,iv 1),(5,nP 4 (([]++kpN n i.1).map eY) i.2.1),(7,iv n),(12,.lst false 1 (C.map fun n=> .val (.int .i64 n))),(13,iv c.length),(14,iv k),(24,iv n),(25,iv i.1)])
    (fun i=>nO 70 4 (([]++kpN n i.1).map eY) i.2.1) (fun i=>i.2.2) (fun i=>i.1≤n∧(0<([]++kpN n i.1).length→i.2.1<i.2.2)) (fun i=>n-i.1) (by kernel_rfl) (0,o,_) ⟨Nat.zero_le _,by rw[jl,List.append_nil];exact hoy⟩ ?_ ?_ rfl ?_
   ·(try dsimp only)
    rw[jl,List.append_nil];(try rw[aB (es:=([]:List Bool).map eY) (by rw[List.length_map];omega)]);exact agi;try rfl
   ·(try dsimp only)
    rw[jl,List.append_nil];(try rw[aF (es:=([]:List Bool).map eY) (by rw[List.length_map];omega)]);(try simp only[List.map_nil,eF]);first
     |trivial
     |(simp(disch:=(first|omega|(simp only[push_cast];first|done|omega))) only[push_cast,↓reduceIte,Nat.reduceEqDiff,Nat.reduceBEq,Nat.reduceAdd,Nat.reduceSub,Int.reduceToNat,List.length_append, *];done)
     |(simp(disch:=(first|omega|(simp only[push_cast];first|done|omega))) only[push_cast,↓reduceIte,Nat.reduceEqDiff,Nat.reduceBEq,Nat.reduceAdd,Nat.reduceSub,Int.reduceToNat,List.length_append, *];rfl)
   rintro⟨j,o2,y2⟩ ⟨hj,hoy2⟩;dsimp only at hj hoy2⊢;have hRl:([]++kpN n j).length=([]:List Bool).length+j:=by rw[List.length_append,kX]
   by_cases hjl:j<n
   ·have hs:([]++kpN n (j+1)).map eY=([]++kpN n j).map eY++[eY (kp n j)]:=by rw[xV,←List.append_assoc,List.map_append];rfl
    have hsl:([]++kpN n (j+1)).length=([]:List Bool).length+j+1:=by rw[List.length_append,kX];omega
    replace hs:=Lib.hid hs;replace hsl:=Lib.hid hsl;have hkt:=fun h=>att (n:=n) (j:=j) h;have hkf:=fun h=>avS (n:=n) (j:=j) h;replace hkt:=Lib.hid hkt;replace hkf:=Lib.hid hkf;have hml:(([]++kpN n j).map eY).length=([]:List Bool).length+j:=by rw[List.length_map,hRl]
    rw[hRl]at hoy2;generalize([]++kpN n j).map eY=Q at*;clear hr1 hRl;by_cases hQ0:Q.length=0
    ·obtain rfl:Q=[]:=List.eq_nil_of_length_eq_zero hQ0
     rw[eZ,eF];clear hQ0 hml;(refine wlk6 ?_ ?_ ?_ ?_ ?_ ?_<;>intros<;>try with_reducible exact trivial);all_goals refine⟨(j+1,y2+1,y2+2),⟨by dsimp only;omega,fun _=>by dsimp only;omega⟩,by dsimp only;omega,?_,?_,rfl⟩
     all_goals(try dsimp only)
     all_goals rw[hs.out,List.nil_append]
     all_goals first
      |rw[hkt.out (by omega)]
      |rw[hkf.out (by omega)]
      |rw[show kp n j=decide ((n:Int)≥3) by
        rcases Nat.lt_or_ge 2 n with q|q
        ·rw[hkt.out (by omega),decide_eq_true (by omega)]
        ·rw[hkf.out (by omega),decide_eq_false (by omega)]]
      |rw[show kp n j=decide ((n:Int)≥2) by
        rcases Nat.lt_or_ge 1 n with q|q
        ·rw[hkt.out (by omega),decide_eq_true (by omega)]
        ·rw[hkf.out (by omega),decide_eq_false (by omega)]]
     all_goals(try rw[show decide ((n:Int)≥3)=true from decide_eq_true (by omega)])
     all_goals(try rw[show decide ((n:Int)≥2)=true from decide_eq_true (by omega)])
     all_goals(try rw[aB (by simp)])
     all_goals(try rw[aF (by simp)])
     all_goals exact agi
    ·have hoy3:=hoy2 (by omega)
     rw[aB (es:=Q) (by omega),aF (es:=Q) (by omega)];rw[hml];(refine wlk6 ?_ ?_ ?_ ?_ ?_ ?_<;>intros<;>try with_reducible exact trivial);all_goals refine⟨(j+1,y2+1,y2+2),⟨by dsimp only;omega,fun _=>by dsimp only;omega⟩,by dsimp only;omega,?_,?_,rfl⟩
     all_goals(try dsimp only)
     all_goals rw[hs.out]
     all_goals first
      |rw[hkt.out (by omega)]
      |rw[hkf.out (by omega)]
      |rw[show kp n j=decide ((n:Int)≥3) by
        rcases Nat.lt_or_ge 2 n with q|q
        ·rw[hkt.out (by omega),decide_eq_true (by omega)]
        ·rw[hkf.out (by omega),decide_eq_false (by omega)]]
      |rw[show kp n j=decide ((n:Int)≥2) by
        rcases Nat.lt_or_ge 1 n with q|q
        ·rw[hkt.out (by omega),decide_eq_true (by omega)]
        ·rw[hkf.out (by omega),decide_eq_false (by omega)]]
     all_goals(try rw[show decide ((n:Int)≥3)=true from decide_eq_true (by omega)])
     all_goals(try rw[show decide ((n:Int)≥2)=true from decide_eq_true (by omega)])
     all_goals(try rw[aB (by simp)])
     all_goals(try rw[aF (by simp)])
     all_goals exact agi
   ·obtain rfl:j=n:=by omega
    rw[←hr1.out]at*;have hoy3:=hoy2 (by omega);rw[aB (es:=(dQ (c.take (k+1))).map eY) (by rw[List.length_map];omega),aF (es:=(dQ (c.take (k+1))).map eY) (by rw[List.length_map];omega)];rw[List.length_map];clear hr1;(refine wlk ?_;intros);refine⟨(k+1,o2,y2),⟨by dsimp only;omega,hoy2⟩,by dsimp only;omega,?_,?_,rfl⟩
    ·(try dsimp only)
     rw[aB (es:=(dQ (c.take (k+1))).map eY) (by rw[List.length_map];omega)];exact agi
    ·(try dsimp only)
     rw[aF (es:=(dQ (c.take (k+1))).map eY) (by rw[List.length_map];omega)];exact agr
  ·have hoy1:=hoy (by omega)
   rw[aB (es:=R.map eY) (by rw[List.length_map];omega),aF (es:=R.map eY) (by rw[List.length_map];omega)];rw[List.length_map];(refine wlk ?_;intros);refine aG (α:=Nat×Nat×Nat) mixed (fun i=>[(1,iv 1),(5,nP 4 ((R++kpN n i.1).map eY) i.2.1),(7,iv n),(12,.lst false 1 (C.map fun n=> .val (.int .i64 n))),(13,iv c.length),(14,iv k),(24,iv n),(25,iv i.1)])
    (fun i=>nO 70 4 ((R++kpN n i.1).map eY) i.2.1) (fun i=>i.2.2) (fun i=>i.1≤n∧(0<(R++kpN n i.1).length→i.2.1<i.2.2)) (fun i=>n-i.1) (by kernel_rfl) (0,o,_) ⟨Nat.zero_le _,by rw[jl,List.append_nil];exact hoy⟩ ?_ ?_ rfl ?_
   ·(try dsimp only)
    rw[jl,List.append_nil];(try rw[aB (es:=R.map eY) (by rw[List.length_map];omega)]);exact agi;try rfl
   ·(try dsimp only)
    rw[jl,List.append_nil];(try rw[aF (es:=R.map eY) (by rw[List.length_map];omega)]);(try simp only[List.map_nil,eF]);first
     |trivial
     |(simp(disch:=(first|omega|(simp only[push_cast];first|done|omega))) only[push_cast,↓reduceIte,Nat.reduceEqDiff,Nat.reduceBEq,Nat.reduceAdd,Nat.reduceSub,Int.reduceToNat,List.length_append, *];done)
     |(simp(disch:=(first|omega|(simp only[push_cast];first|done|omega))) only[push_cast,↓reduceIte,Nat.reduceEqDiff,Nat.reduceBEq,Nat.reduceAdd,Nat.reduceSub,Int.reduceToNat,List.length_append, *];rfl)
   rintro⟨j,o2,y2⟩ ⟨hj,hoy2⟩;dsimp only at hj hoy2⊢;have hRl:(R++kpN n j).length=R.length+j:=by rw[List.length_append,kX]
   by_cases hjl:j<n
   ·have hs:(R++kpN n (j+1)).map eY=(R++kpN n j).map eY++[eY (kp n j)]:=by rw[xV,←List.append_assoc,List.map_append];rfl
    have hsl:(R++kpN n (j+1)).length=R.length+j+1:=by rw[List.length_append,kX];omega
    replace hs:=Lib.hid hs;replace hsl:=Lib.hid hsl;have hkt:=fun h=>att (n:=n) (j:=j) h;have hkf:=fun h=>avS (n:=n) (j:=j) h;replace hkt:=Lib.hid hkt;replace hkf:=Lib.hid hkf;have hml:((R++kpN n j).map eY).length=R.length+j:=by rw[List.length_map,hRl]
    rw[hRl]at hoy2;generalize(R++kpN n j).map eY=Q at*;clear hr1 hRl;by_cases hQ0:Q.length=0
    ·obtain rfl:Q=[]:=List.eq_nil_of_length_eq_zero hQ0
     rw[eZ,eF];clear hQ0 hml;(refine wlk6 ?_ ?_ ?_ ?_ ?_ ?_<;>intros<;>try with_reducible exact trivial);all_goals refine⟨(j+1,y2+1,y2+2),⟨by dsimp only;omega,fun _=>by dsimp only;omega⟩,by dsimp only;omega,?_,?_,rfl⟩
     all_goals(try dsimp only)
     all_goals rw[hs.out,List.nil_append]
     all_goals first
      |rw[hkt.out (by omega)]
      |rw[hkf.out (by omega)]
      |rw[show kp n j=decide ((n:Int)≥3) by
        rcases Nat.lt_or_ge 2 n with q|q
        ·rw[hkt.out (by omega),decide_eq_true (by omega)]
        ·rw[hkf.out (by omega),decide_eq_false (by omega)]]
      |rw[show kp n j=decide ((n:Int)≥2) by
        rcases Nat.lt_or_ge 1 n with q|q
        ·rw[hkt.out (by omega),decide_eq_true (by omega)]
        ·rw[hkf.out (by omega),decide_eq_false (by omega)]]
     all_goals(try rw[show decide ((n:Int)≥3)=true from decide_eq_true (by omega)])
     all_goals(try rw[show decide ((n:Int)≥2)=true from decide_eq_true (by omega)])
     all_goals(try rw[aB (by simp)])
     all_goals(try rw[aF (by simp)])
     all_goals exact agi
    ·have hoy3:=hoy2 (by omega)
     rw[aB (es:=Q) (by omega),aF (es:=Q) (by omega)];rw[hml];(refine wlk6 ?_ ?_ ?_ ?_ ?_ ?_<;>intros<;>try with_reducible exact trivial);all_goals refine⟨(j+1,y2+1,y2+2),⟨by dsimp only;omega,fun _=>by dsimp only;omega⟩,by dsimp only;omega,?_,?_,rfl⟩
     all_goals(try dsimp only)
     all_goals rw[hs.out]
     all_goals first
      |rw[hkt.out (by omega)]
      |rw[hkf.out (by omega)]
      |rw[show kp n j=decide ((n:Int)≥3) by
        rcases Nat.lt_or_ge 2 n with q|q
        ·rw[hkt.out (by omega),decide_eq_true (by omega)]
        ·rw[hkf.out (by omega),decide_eq_false (by omega)]]
      |rw[show kp n j=decide ((n:Int)≥2) by
        rcases Nat.lt_or_ge 1 n with q|q
        ·rw[hkt.out (by omega),decide_eq_true (by omega)]
        ·rw[hkf.out (by omega),decide_eq_false (by omega)]]
     all_goals(try rw[show decide ((n:Int)≥3)=true from decide_eq_true (by omega)])
     all_goals(try rw[show decide ((n:Int)≥2)=true from decide_eq_true (by omega)])
     all_goals(try rw[aB (by simp)])
     all_goals(try rw[aF (by simp)])
     all_goals exact agi
   ·obtain rfl:j=n:=by omega
    rw[←hr1.out]at*;have hoy3:=hoy2 (by omega);rw[aB (es:=(dQ (c.take (k+1))).map eY) (by rw[List.length_map];omega),aF (es:=(dQ (c.take (k+1))).map eY) (by rw[List.length_map];omega)];rw[List.length_map];clear hr1;(refine wlk ?_;intros);refine⟨(k+1,o2,y2),⟨by dsimp only;omega,hoy2⟩,by dsimp only;omega,?_,?_,rfl⟩
    ·(try dsimp only)
     rw[aB (es:=(dQ (c.take (k+1))).map eY) (by rw[List.length_map];omega)];exact agi
    ·(try dsimp only)
     rw[aF (es:=(dQ (c.take (k+1))).map eY) (by rw[List.length_map];omega)];exact agr
 ·obtain rfl:k=c.length:=by omega
  rw[hfull]at*;clear hpt hza hrt hfull;generalize dQ c=R at*;by_cases hR0:R.length=0
  ·obtain rfl:R=[]:=List.eq_nil_of_length_eq_zero hR0
   rw[List.map_nil,eZ,eF];(refine wlk ?_;intros);all_goals((with_reducible apply cO (by first|exact .inl rfl|exact .inr rfl));(simp(disch:=(first|omega|(simp only[push_cast];first|done|omega))) only[push_cast,↓reduceIte,Nat.reduceEqDiff,Nat.reduceBEq,Nat.reduceAdd,Nat.reduceSub,Int.reduceToNat, *]<;>with_reducible exact rfl))
   all_goals exact nil_le _ _
  ·have hoy1:=hoy (by omega)
   rw[aB (es:=R.map eY) (by rw[List.length_map];omega),aF (es:=R.map eY) (by rw[List.length_map];omega)];rw[List.length_map];(refine wlk ?_;intros);all_goals((with_reducible apply cO (by first|exact .inl rfl|exact .inr rfl));(simp(disch:=(first|omega|(simp only[push_cast];first|done|omega))) only[push_cast,↓reduceIte,Nat.reduceEqDiff,Nat.reduceBEq,Nat.reduceAdd,Nat.reduceSub,Int.reduceToNat, *]<;>with_reducible exact rfl))
   all_goals exact PV.le_refl _
structure Fgn where
 bk:Nat→Prop
 at_:World→Prop
 keep:∀w w':World,(∀i,bk i→w'.heap[i]?=w.heap[i]?)→at_ w→at_ w'
def Fgn.no:Fgn:=⟨fun _=>False,fun _=>True,fun _ _ _ _=>trivial⟩
structure HzC (io:IoS) (w00 w0:World) (B:Nat) (bk:Nat→Prop):Prop where
 ne:∀i,io.wr i∨io.im i∨io.it i→¬bk i
 lo:∀i,io.wr i∨io.it i→B≤i
 lt:∀i,io.wr i→i<w0.heap.size
 hb:∀b,bk b→b<w0.heap.size
 sz:B≤w0.heap.size
 fr:Fr (fun i=>bk i∨B≤i) w00 w0
 tk:∀t∈tks,t<B∧¬bk t
def Zt (P:Program) (N B:Nat) (w00:World) (s:AS) (σ:Fgn) (a:Act) (w:World):Prop:=
 (∃io w0 g,Rel io w0 N g s a w∧HzC io w00 w0 B σ.bk)∧σ.at_ w
section
variable {P:Program} {N B:Nat} {w00:World}
theorem HzC.sN {io:IoS} {w0:World} {bk:Nat→Prop} (h:HzC io w00 w0 B bk) {g:Gh} {s:AS} {a:Act} {w:World} (hr:Rel io w0 N g s a w) {kk:Bool} {i:Nat} (hi:g.I kk i):i<w.heap.size∧¬bk i:=by
 refine⟨hr.lt _ _ hi,?_⟩;cases kk with
 |false=>exact h.ne i (.inr (.inl (hr.old i hi)))
 |true=>
  rcases hr.new i hi with⟨h1,_⟩|h1
  ·exact fun e=>by have:=h.hb i e;omega
  ·exact h.ne i (.inr (.inr h1))
theorem HzC.jc {io:IoS} {w0:World} {bk:Nat→Prop} (h:HzC io w00 w0 B bk) {g:Gh} {s:AS} {a:Act} {w:World} (hr:Rel io w0 N g s a w) {o:Nat} {c:Nat×Nat×List PV} (ho:s.ob o=some c):g.β o<w.heap.size∧¬bk (g.β o)∧B≤g.β o:=by
 obtain⟨h1,h2,h3,h4⟩:=hr.ob o c ho;obtain⟨arr,ha,_⟩:=h4.1;refine⟨lt_of_heap ha,?_,?_⟩
 ·rcases h2 with h2|h2
  ·exact fun e=>by have:=h.hb _ e;omega
  ·exact h.ne _ (.inl h2)
 ·rcases h2 with h2|h2
  ·have:=h.sz;omega
  ·exact h.lo _ (.inl h2)
theorem Fgn.same {io:IoS} {w0:World} {σ:Fgn} {g g':Gh} {s s':AS} {a a':Act} {w w':World} (hC:HzC io w00 w0 B σ.bk) (h1:Rel io w0 N g s a w) (h2:Rel io w0 N g' s' a' w') (hM:σ.at_ w):σ.at_ w':=
 σ.keep w w' (fun i hi=>by have q:∀{g:Gh} {s:AS} {a:Act} {w:World},Rel io w0 N g s a w→w.heap[i]?=w0.heap[i]?:=fun hr=>hr.fr.block i (hC.hb i hi) fun q=>hC.ne i (.inl q) hi;rw[q h1,q h2]) hM
structure HZ (P:Program) (N B:Nat) (w00:World) (c:Code) (K:X→AS→Fgn→Prop) (s:AS) (σ:Fgn):Prop where
 go:∀a w,Zt P N B w00 s σ a w→∀Q:Exit→Act→World→Prop,(∀x s' σ' a' w',Zt P N B w00 s' σ' a' w'→K x s' σ'→Q x.pQ a' w')→CWp P c Q a w
variable {c c1 c2:Code} {K:X→AS→Fgn→Prop} {s s':AS} {σ:Fgn}
theorem HZ.seq (h:HZ P N B w00 c1 (fun x s' σ'=>match x with| .normal=>HZ P N B w00 c2 K s' σ'| .exit id=>K (.exit id) s' σ'| .ret=>K .ret s' σ') s σ):HZ P N B w00 (.seq c1 c2) K s σ:=HZ.mk fun a w hs Q hQ=>by
 refine wp_seq (CWp.wp (h.go a w hs _ fun x s' σ' a' w' hs' hk=>?_));cases x with
 |normal=>exact(hk.go a' w' hs' Q hQ).wp
 |exit id=>exact hQ _ s' σ' a' w' hs' hk
 |ret=>exact hQ _ s' σ' a' w' hs' hk
theorem HZ.block {id:Nat} (h:HZ P N B w00 c (fun x s' σ'=>K (x.out id) s' σ') s σ):HZ P N B w00 (.block id c) K s σ:=HZ.mk fun a w hs Q hQ=>by
 refine wp_block (CWp.wp (h.go a w hs _ fun x s' σ' a' w' hs' hk=>?_));have:=hQ _ s' σ' a' w' hs' hk;cases x with
 |normal=>exact this
 |ret=>exact this
 |exit id'=>
  simp only[X.pQ,Exit.inBlock,X.out]at this⊢;split
  ·rename_i hid;simpa [hid]using this
  ·rename_i hid;simpa [hid]using this
theorem Zt.forget {a:Act} {w:World} (h:Zt P N B w00 s σ a w) (hf:s.forget s'):Zt P N B w00 s' σ a w:=by obtain⟨⟨io,w0,g,hr,hC⟩,hM⟩:=h;exact⟨⟨io,w0,g,hr.forget hf,hC⟩,hM⟩
theorem HZ.loop {α:Type} (S:α→AS) (I:α→Fgn→Prop) (μ:α→Nat) (i:α) (hi:I i σ) (hs:s.forget (S i))
 (h:∀i σ,I i σ→HZ P N B w00 c (fun x s' σ'=>match x with| .normal=>∃j,I j σ'∧μ j<μ i∧s'.forget (S j)| .exit id=>K (.exit id) s' σ'| .ret=>K .ret s' σ') (S i) σ):HZ P N B w00 (.loop c) K s σ:=by
 have key:∀n i σ,μ i=n→I i σ→∀a w,Zt P N B w00 (S i) σ a w→∀Q:Exit→Act→World→Prop,(∀x s' σ' a' w',Zt P N B w00 s' σ' a' w'→K x s' σ'→Q x.pQ a' w')→jL P c Q a w:=by
  intro n
  induction n using Nat.strongRecOn with
  |_ n ih=>
   intro i σ hn hi a w hst Q hQ;refine jL.step (CWp.wp ((h i σ hi).go a w hst _ fun x s' σ' a' w' hst' hk=>?_));cases x with
   |normal=>obtain⟨j,hj,hlt,hf⟩:=hk;exact ih (μ j) (hn▸hlt) j σ' rfl hj a' w' (hst'.forget hf) Q hQ
   |exit id=>exact hQ _ s' σ' a' w' hst' hk
   |ret=>exact hQ _ s' σ' a' w' hst' hk
 exact HZ.mk fun a w hst Q hQ=>key _ i σ rfl hi a w (hst.forget hs) Q hQ
theorem HZ.eng {Γ:Ctx} (hm:P.follows .mixedOrders=true) (hΓ:ak P Γ) (hc:codeOk Γ true N c=true) (hp:pq P Γ N c (fun x s'=>K x s' σ) s.tm s.ob s.nx):HZ P N B w00 c K s σ:=HZ.mk fun a w hs Q hQ=>by obtain⟨⟨io,w0,g,hr,hC⟩,hM⟩:=hs;obtain⟨x,s',h1,h2⟩:=vv (fun _=>hm) c _ _ hc hp;exact h1.cwp hΓ.w (fun b hb=>hC.lt b hb) g a w Q hr fun g' a' w' hr'=>hQ x s' σ a' w' ⟨⟨io,w0,g',hr',hC⟩,Fgn.same hC hr hr' hM⟩ h2
variable {ops:Array Oper} {J:AS→Fgn→Prop} {j:Nat} {o:Oper} {l l1 l2:List Oper}
theorem HZ.aaB {α:Type} (Lf:α→List (Nat×PV)) (O:α→List (Nat×Nat×Nat×List PV)) (XX:α→Nat) (I:α→Fgn→Prop) (μ:α→Nat) (i:α) (hi:I i σ) (h1:agree s.tm (Lf i)) (h2:ku s.ob (O i)) (h3:s.nx=XX i)
 (h:∀i σ,I i σ→HZ P N B w00 c (fun x s' σ'=>match x with| .normal=>∃j,I j σ'∧μ j<μ i∧agree s'.tm (Lf j)∧ku s'.ob (O j)∧s'.nx=XX j| .exit id=>K (.exit id) s' σ'| .ret=>K .ret s' σ') ⟨lk (Lf i),lo (O i),XX i⟩ σ):HZ P N B w00 (.loop c) K s σ:=by
 refine HZ.loop (fun i=>mkS (Lf i) (O i) (XX i)) I μ i hi (ji (iE h1) (gD h2) h3) fun i σ hi=>⟨fun a w hs Q hQ=>(h i σ hi).go a w hs Q fun x s' σ' a' w' hs' hk=>hQ x s' σ' a' w' hs' ?_⟩;cases x with
 |normal=>obtain⟨j,k1,k2,k3,k4,k5⟩:=hk;exact⟨j,k1,k2,ji (iE k3) (gD k4) k5⟩
 |exit id=>exact hk
 |ret=>exact hk
theorem HZ.start {ps:List PV} (h:HZ P N B w00 c K ⟨(bZ ps).tm,fun _=>none,0⟩ σ):HZ P N B w00 c K (bZ ps) σ:=h
end
section
variable {P:Program} {N B:Nat} {w00:World} {c:Code}
theorem ajy {fn:Func} {ps:List PV} {args:Array Value} {w:World} {Jm:Nat→Prop} (hJ:∀b,Jm b→b<w.heap.size) (hT:qF w (fun _=>False)) (hargs:cu (aam Jm) w ps args.toList) (hle:ps.length≤fn.ntmps):
 Rel ⟨fun _=>False,Jm,0,fun _=>0,fun _=>0,fun _=>False,fun _=>False⟩ w fn.ntmps (aam Jm) (bZ ps) {tmps:=args++Array.replicate (fn.ntmps-args.size) undef,defers:=[]} w:=by
 have hsz:args.size=ps.length:=by simpa using hargs.get.1
 refine⟨by simp;omega,rfl,fun t=>?_,fun o c ho=>(by cases ho),fun o o' ho=>(by cases ho),rfl,fun k b hi=>hJ b hi.2,fun b hi=>(by cases hi.1),Fr.refl _ _,fun b hi=>hi.2,⟨fun o ho=>(Nat.not_lt_zero o ho).elim,fun o ho=>(Nat.not_lt_zero o ho).elim⟩,fun o ho=>False.elim ho,hT⟩;simp only[bZ];cases hp:ps[t]? with
 |none=>
  have hge:ps.length≤t:=by simpa using hp
  have:(args++Array.replicate (fn.ntmps-args.size) undef).getD t undef=undef:=by simp only[Array.getD_eq_getD_getElem?];rw[Array.getElem?_append_right (by omega)];simp only[Array.getElem?_replicate];split<;>rfl
  rw[this];simp[Rep]
 |some p=>
  obtain⟨v,hv,hrep⟩:=hargs.get.2 t p hp;have hlt:t<args.size:=by have:=(List.getElem?_eq_some_iff.1 hp).1;omega
  have:(args++Array.replicate (fn.ntmps-args.size) undef).getD t undef=v:=by
   simp only[Array.getD_eq_getD_getElem?];rw[Array.getElem?_append_left hlt];have:args[t]?=some v:=by simpa using hv
   simp[this]
  rw[this];exact hrep
theorem anl {w:World} {io:Nat→Prop} (hT:qF w io):∀t∈tks,t<w.heap.size:=fun t ht=>hT.lt t ht
theorem HZ.sound {f:Nat} {fn:Func} {rs:List ResultVar} {φ:Fun} (hf:P.funcs[f]?=some fn) (hb:fn.body=some c) (hN:fn.ntmps=N) (hrs:fn.results.toList=rs)
 (h:∀ps r,φ ps=some r→ps.length≤N∧∀B w00,HZ P N B w00 c (fun x s' σ'=>(x=.normal∨x=.ret)∧(∃r',(∀(g:Gh) (w:World) (v:Value),Rep g w r' v→Rep g w r v)∧((fF P s' rs).bind fun qs=>reify true 0 s'.ob fuel (gH qs))=some r')∧∀i,σ'.bk i→B≤i) (bZ ps) Fgn.no):Sound P f φ:=by
 intro w Jm ps args r hr hJ hT hargs;subst hN hrs;obtain⟨hlen,h⟩:=h ps r hr;refine calls_of_wp hf hb (CWp.wp ((h w.heap.size w).go _ _ ⟨⟨_,w,_,ajy hJ hT hargs hlen,⟨fun i hi e=>e,fun i hi=>?_,fun i hi=>False.elim hi,fun b' e=>False.elim e,Nat.le_refl _,Fr.refl _ _,fun t ht=>⟨anl hT t ht,fun e=>e⟩⟩⟩,trivial⟩ _ fun x s' σ' a' w' hs' hk=>?_))
 ·rcases hi with hi|hi<;>exact False.elim hi
 ·obtain⟨hx,⟨r',hle,hres⟩,hbb⟩:=hk
  obtain⟨⟨io,w0,g,hrel,hC⟩,hM'⟩:=hs';rw[Option.bind_eq_some_iff]at hres;obtain⟨qs,hres,hreify⟩:=hres;have hbel:Below w.heap.size w w':=by have hf1:Fr (fun i=>w.heap.size≤i) w0 w':=⟨hrel.fr.os,hrel.fr.tape,hrel.fr.output,hrel.fr.size,fun i hi hn=>hrel.fr.block i hi fun q=>hn (hC.lo i (.inl q))⟩;refine⟨hf1.os.trans hC.fr.os,hf1.tape.trans hC.fr.tape,hf1.output.trans hC.fr.output,Nat.le_trans hC.fr.size hf1.size,fun i hi=>?_⟩;refine(hf1.block i (Nat.lt_of_lt_of_le hi hC.fr.size) (by omega)).trans (hC.fr.block i hi fun q=>q.elim (fun q=>?_) fun q=>by omega);have:=hbb i q;omega
  have hend:a'.defers=[]∧∃v,(results fn a'.tmps).run P w'=.ok v w'∧((∃v',Ending.returned v=.returned v'∧Below w.heap.size w w'∧∀g'':Gh,(∀b,w.heap.size≤b→b<w'.heap.size→g''.I true b)→Rep g'' w' r v')):=by
   obtain⟨v,h1,h2⟩:=iR hrel hres;refine⟨hrel.df,v,h1,v,rfl,hbel,fun g'' hg=>hle _ _ _ ?_⟩;refine Rep.seen (fun o c ho=>(hrel.ob o c ho).2.2.2) ⟨fun hh=>(by cases hh),fun _=>⟨fun b hb=>hg b ?_ (hrel.lt true b hb),fun o ho _=>?_⟩⟩ fuel _ _ _ h2 hreify
   ·rcases hrel.new b hb with⟨q,_⟩|q
    ·exact Nat.le_trans hC.sz q
    ·exact hC.lo b (.inr q)
   ·obtain⟨c,hc⟩:=Option.isSome_iff_exists.1 ho
    obtain⟨q1,q2,q3⟩:=hC.jc hrel hc;exact hg _ q3 q1
  rcases hx with rfl|rfl<;>exact hend
end
section
variable {P:Program} {N B:Nat} {w00:World}
theorem Rel.anew {io:IoS} {w0 w:World} {bk bk':Nat→Prop} {g g':Gh} {s s':AS} {a:Act} (hr:Rel io w0 N g s a w) (hC:HzC io w00 w0 B bk) (hg:g.le g') (hnx:g'.nx=s'.nx)
 (htm:∀t,Rep g' w (s'.tm t) (a.tmps.getD t undef)) (hob:∀o c,s'.ob o=some c→(s.ob o).isSome∧oL g' w o c)
 (hI:∀k i,g'.I k i→(∀o,(s'.ob o).isSome→i≠g.β o)∧i<w.heap.size∧¬bk' i) (hIt:∀i,g'.I true i→B≤i) (hO:∀o,(s'.ob o).isSome→¬bk' (g.β o))
 (h2:∀i,bk i→bk' i) (hbl:∀i,bk' i→i<w.heap.size) (hbB:∀i,bk' i→bk i∨B≤i):∃io',Rel io' w N g' s' a w∧HzC io' w00 w B bk':=by
 have hsz:B≤w.heap.size:=Nat.le_trans hC.sz hr.fr.size;have hoD:∀o,(s.ob o).isSome→g.D o:=fun o ho=>by obtain⟨c,hc⟩:=Option.isSome_iff_exists.1 ho;exact(hr.ob o c hc).1
 have hs:∀o,(s'.ob o).isSome→(s.ob o).isSome:=fun o ho=>by obtain⟨c,hc⟩:=Option.isSome_iff_exists.1 ho;exact(hob o c hc).1
 have hβ:∀o,(s'.ob o).isSome→g'.β o=g.β o:=fun o ho=>hg.β o (hoD o (hs o ho));have hap:∀o,(s'.ob o).isSome→g.β o<w.heap.size∧B≤g.β o:=fun o ho=>by obtain⟨c,hc⟩:=Option.isSome_iff_exists.1 (hs o ho);have:=hC.jc hr hc;exact⟨this.1,this.2.2⟩
 have htk:∀t∈tks,¬bk' t:=fun t ht e=>by
  rcases hbB t e with e|e
  ·exact(hC.tk t ht).2 e
  ·have:=(hC.tk t ht).1
   omega
 refine⟨{wr:=fun i=>∃o,(s'.ob o).isSome∧i=g.β o,im:=g'.I false,m:=0,β0:=fun _=>0,κ0:=fun _=>0,it:=g'.I true},⟨hr.nt,hr.df,htm,fun o c ho=>?_,fun o o' ho ho' he=>?_,hnx,fun kk i hi=>(hI kk i hi).2.1,fun i hi=> .inr hi,Fr.refl _ _,fun i hi=>hi,⟨fun o ho=>(Nat.not_lt_zero o ho).elim,fun o ho=>(Nat.not_lt_zero o ho).elim⟩,fun o ho=>False.elim ho,?_⟩,⟨fun i hi=>?_,fun i hi=>?_,fun i hi=>?_,hbl,hsz,?_,fun t ht=>⟨(hC.tk t ht).1,htk t ht⟩⟩⟩
 ·have hso:(s'.ob o).isSome:=by rw[ho];rfl
  refine⟨hg.D o (hoD o (hs o hso)),.inr ⟨o,hso,hβ o hso⟩,fun k hk=>(hI k _ hk).1 o hso (hβ o hso),(hob o c ho).2⟩
 ·rw[hβ o ho,hβ o' ho']at he
  exact hr.inj o o' (hs o ho) (hs o' ho') he
 ·refine hr.tab.keep hr.fr ?_
  rintro t ht ⟨o,ho,rfl⟩;have:=(hap o ho).2;have:=(hC.tk _ ht).1;omega
 ·rcases hi with⟨o,ho,rfl⟩|hi|hi
  ·exact hO o ho
  ·exact(hI _ i hi).2.2
  ·exact(hI _ i hi).2.2
 ·rcases hi with⟨o,ho,rfl⟩|hi
  ·exact(hap o ho).2
  ·exact hIt i hi
 ·obtain⟨o,ho,rfl⟩:=hi
  exact(hap o ho).1
 ·have hf1:Fr (fun i=>bk' i∨B≤i) w0 w:=⟨hr.fr.os,hr.fr.tape,hr.fr.output,hr.fr.size,fun i hi hn=>hr.fr.block i hi fun q=>hn (.inr (hC.lo i (.inl q)))⟩
  refine⟨hf1.os.trans hC.fr.os,hf1.tape.trans hC.fr.tape,hf1.output.trans hC.fr.output,Nat.le_trans hC.fr.size hf1.size,fun i hi hn=>?_⟩;exact(hf1.block i (Nat.lt_of_lt_of_le hi hC.fr.size) hn).trans (hC.fr.block i hi fun q=>hn (q.imp (h2 i) id))
theorem HzC.axD {io:IoS} {w0:World} {bk:Nat→Prop} (h:HzC io w00 w0 B bk) {g:Gh} {s:AS} {a:Act} {w:World} (hr:Rel io w0 N g s a w) {i:Nat} (hi:g.I true i):B≤i:=by
 rcases hr.new i hi with⟨q,_⟩|q
 ·exact Nat.le_trans h.sz q
 ·exact h.lo i (.inr q)
theorem Zt.o8 {s:AS} {σ:Fgn} {a:Act} {w:World} (h:Zt P N B w00 s σ a w) {o x T sz T2 sz2 n:Nat} {es l:List PV} (ho:s.ob o=some (T,sz,es)) (hx:s.ob x=some (T2,sz2,l++[.row o sz 0 n])) (hn:n=es.length) (hne:x≠o):
 Zt P N B w00 ⟨s.tm,upd (upd s.ob o none) x (some (T2,sz2,l++[.lst true sz es])),s.nx⟩ σ a w:=by
 subst hn;obtain⟨⟨io,w0,g,hr,hC⟩,hM⟩:=h;obtain⟨k1,k2,k3,⟨arr,k4,k5⟩,k6,k7⟩:=hr.ob o _ ho;obtain⟨q1,q2,q3⟩:=hC.jc hr ho;dsimp only at k4 k6 k7
 let g':Gh:={g with I:=fun k b=>g.I k b∨(k=true∧b=g.β o)}
 have hle:g.le g':=⟨fun _ _ h=> .inl h,fun _ h=>h,fun _ _=>rfl,fun _ _=>rfl⟩;have hsub:∀o' c,upd (upd s.ob o none) x (some (T2,sz2,l++[PV.lst true sz es])) o'=some c→o'≠o∧((o'=x∧c=(T2,sz2,l++[PV.lst true sz es]))∨s.ob o'=some c):=fun o' c hc=>by
  unfold upd at hc;split at hc
  ·rename_i e
   cases hc;exact⟨e▸hne,.inl ⟨e,rfl⟩⟩
  ·split at hc
   ·cases hc
   ·rename_i e;exact⟨e,.inr hc⟩
 have hsubS:∀o',(upd (upd s.ob o none) x (some (T2,sz2,l++[PV.lst true sz es])) o').isSome→o'≠o∧(s.ob o').isSome:=fun o' hc=>by
  obtain⟨c,hc⟩:=Option.isSome_iff_exists.1 hc;obtain⟨e,e2⟩:=hsub o' c hc;refine⟨e,?_⟩;rcases e2 with⟨rfl,_⟩|e2
  ·rw[hx];rfl
  ·rw[e2];rfl
 have key:∃io',Rel io' w N g' ⟨s.tm,upd (upd s.ob o none) x (some (T2,sz2,l++[PV.lst true sz es])),s.nx⟩ a w∧HzC io' w00 w B σ.bk:=by
  refine hr.anew (s':=⟨s.tm,upd (upd s.ob o none) x (some (T2,sz2,l++[PV.lst true sz es])),s.nx⟩) (g':=g') (bk':=σ.bk) hC hle hr.nx (fun t=>(hr.tm t).mono hle fun _ _ _=>rfl) (fun o' c hc=>?_) (fun k i hi=>⟨fun o' ho' e=>?_,?_,fun e=>?_⟩) (fun i hi=>?_) (fun o' ho' e=>?_) (fun i hi=>hi) (fun i hi=>Nat.lt_of_lt_of_le (hC.hb i hi) hr.fr.size) (fun i hi=> .inl hi)
  ·refine⟨(hsubS o' (Option.isSome_iff_exists.2 ⟨c,hc⟩)).2,?_⟩
   rcases(hsub o' c hc).2 with⟨rfl,rfl⟩|e
   ·obtain⟨p1,p2,p3,p4,p5,p6⟩:=hr.ob o' _ hx
    refine⟨p4,by simpa using p5,?_⟩;refine bN.of fun i e he=>?_;dsimp only at p6 he;rcases Nat.lt_trichotomy i l.length with hi|hi|hi
    ·rw[List.getElem?_append_left hi]at he
     obtain⟨u,m1,m2,m3⟩:=p6.get (i:=i) (e:=e) (by rw[List.getElem?_append_left hi];exact he);exact⟨u,m1.mono hle (fun _ _ _=>rfl),m2,m3⟩
    ·subst hi
     obtain⟨u,m1,m2,m3⟩:=p6.get (i:=l.length) (e:=.row o sz 0 es.length) (by simp);have he:e=.lst true sz es:=by simpa using he.symm
     subst he;refine⟨u,?_,m2,m3⟩;simp only[Rep]at m1⊢;obtain⟨c,c1,c2,c3,c4,c5⟩:=m1;refine⟨_,c,c1,c2,c3,.inr ⟨g.β o,0,by simp,.inr ⟨rfl,rfl⟩,bN.mono hle (fun _ _ _=>rfl) _ _ _ _ rfl k7⟩⟩
    ·rw[List.getElem?_eq_none (by simp;omega)]at he
     cases he
   ·exact(hr.ob o' c e).2.2.2.mono hle (hr.ob o' c e).1 (fun _ _ _=>rfl) rfl
  ·obtain⟨c,hc⟩:=Option.isSome_iff_exists.1 (hsubS o' ho').2
   rcases hi with hi|⟨_,hi⟩
   ·exact(hr.ob o' c hc).2.2.1 k (e▸hi)
   ·exact(hsubS o' ho').1 (hr.inj o' o (by rw[hc];rfl) (by rw[ho];rfl) (e.symm.trans hi))
  ·rcases hi with hi|⟨_,hi⟩
   ·exact(hC.sN hr hi).1
   ·rw[hi];exact q1
  ·rcases hi with hi|⟨_,hi⟩
   ·exact(hC.sN hr hi).2 e
   ·rw[hi]at e;exact q2 e
  ·rcases hi with hi|⟨_,hi⟩
   ·exact hC.axD hr hi
   ·rw[hi];exact q3
  ·obtain⟨c,hc⟩:=Option.isSome_iff_exists.1 (hsubS o' ho').2
   exact(hC.jc hr hc).2.1 e
 obtain⟨io',h1,h2⟩:=key;exact⟨⟨io',w,g',h1,h2⟩,hM⟩
theorem HZ.o8 {c:Code} {K:X→AS→Fgn→Prop} {s:AS} {σ:Fgn} {o x T sz T2 sz2 n:Nat} {es l:List PV} (ho:s.ob o=some (T,sz,es)) (hx:s.ob x=some (T2,sz2,l++[.row o sz 0 n])) (hn:n=es.length) (hne:x≠o)
 (h:HZ P N B w00 c K ⟨s.tm,upd (upd s.ob o none) x (some (T2,sz2,l++[.lst true sz es])),s.nx⟩ σ):HZ P N B w00 c K s σ:=HZ.mk fun a w hs Q hQ=>h.go a w (hs.o8 ho hx hn hne) Q hQ
end
abbrev gy (x:LS):PV:=.lst true 1 (x.map fun s=> .val (.string s))
abbrev aty (x:LS):PV:=.lst false 1 (x.map fun s=> .val (.string s))
theorem ahO {l:List LS} {k:Nat} (h:k<l.length):(l.take (k+1)).map gy=(l.take k).map gy++[gy (l[k]?.getD [])]:=by rw[List.take_succ_eq_append_getElem h,List.map_append,List.getElem?_eq_getElem h,Option.getD_some];rfl
def φOr:Fun:=F1 (dL 1 dSs) fun l=>open Classical in if l.length≤1048576∧∀i:Nat,ow (l[i]?.getD [])then some (.lst true 1 (l.map gy))else none
theorem ams {l:List LS} (h:l.length≤1048576) (h2:∀i:Nat,ow (l[i]?.getD [])):φOr [.lst false 1 (l.map fun p=> .lst false 1 (p.map fun s=> .val (.string s)))]=some (.lst true 1 (l.map gy)):=(iA (A:=dL 1 dSs) l).trans (if_pos ⟨h,h2⟩)
theorem afl:Sound Tryz.prog 44 φOr:=by
 refine HZ.sound (N:=22) (rs:=[.tmp 2]) Tryz.func44 rfl rfl rfl fun ps r hr=>?_;obtain⟨l,rfl,hq⟩:=bR hr;clear hr;split at hq
 case isFalse=>cases hq
 case isTrue hpre=>
 cases hq;obtain⟨hlen,hall⟩:=hpre;refine⟨by simp,fun B w00=>HZ.start ?_⟩;simp only[dIs,dUs,dSs,dx,dA,dz,dF,aS,dD,aT,aU,aR,aV];show HZ _ _ _ _ _ _ ⟨(bZ [.lst false 1 (l.map aty)]).tm,fun _=>none,0⟩ _;refine HZ.seq (HZ.eng mixed gV (by kernel_rfl) ?_);(try dsimp only);(refine wlk ?_;intros);refine HZ.seq (HZ.eng mixed gV (by kernel_rfl) ?_);(try dsimp only);(refine wlk ?_;intros);refine HZ.seq (HZ.seq (HZ.eng mixed gV (by kernel_rfl) ?_));(try dsimp only);(refine wlk ?_;intros);(try dsimp only);refine HZ.block (HZ.aaB (α:=Nat×Nat×Nat) (fun i=>[(0,.lst false 1 (l.map aty)),(3,.row i.2.1 1 0 i.1),(4,iv i.1)]) (fun i=>[(i.2.1,24,1,(l.take i.1).map gy)]) (fun i=>i.2.2)
  (fun i σ=>(i.1≤l.length∧i.2.1<i.2.2)∧σ=Fgn.no) (fun i=>l.length-i.1) (0,0,1) ⟨⟨Nat.zero_le _,by decide⟩,rfl⟩ ?_ ?_ rfl ?_)
 ·(try dsimp only)
  exact agr;try rfl
 ·(try dsimp only)
  exact agr;try rfl
 rintro⟨k,o,y⟩ σ ⟨⟨hk,hoy⟩,rfl⟩;dsimp only at hk hoy;by_cases hkl:k<l.length
 ·have hok:=hall k
  have ht:=ahO hkl;have htl:((l.take k).map gy).length=k:=by rw[List.length_map,List.length_take];omega
  replace ht:=Lib.hid ht;refine HZ.seq (HZ.eng mixed gV (by kernel_rfl) ?_);(try dsimp only);(refine wlk ?_;intros);(try dsimp only);generalize(l.take k).map gy=R at*;refine HZ.seq (HZ.block (HZ.eng mixed gV (by kernel_rfl) ?_));(try dsimp only);clear hall;(refine wlk ?_;intros);(try dsimp only[X.out]);refine HZ.o8 (o:=y+1) (x:=y+3) (T:=9) (sz:=1) (T2:=24) (sz2:=1) (n:=(l[k]?.getD []).length) (es:=(l[k]?.getD []).map fun s=> .val (.string s)) (l:=R) (by(simp(disch:=(first|omega|(simp only[push_cast];first|done|omega))) only[push_cast,↓reduceIte,Nat.reduceEqDiff,Nat.reduceBEq,Nat.reduceAdd,Nat.reduceSub,Int.reduceToNat, *]<;>with_reducible exact rfl)) (by(simp(disch:=(first|omega|(simp only[push_cast];first|done|omega))) only[push_cast,↓reduceIte,Nat.reduceEqDiff,Nat.reduceBEq,Nat.reduceAdd,Nat.reduceSub,Int.reduceToNat, *]<;>with_reducible exact rfl)) (by simp) (by omega) ?_;refine HZ.eng mixed gV (by kernel_rfl) ?_;(try dsimp only);(refine wlk ?_;intros);(try dsimp only);refine⟨(k+1,y+3,y+4),⟨⟨by dsimp only;omega,by dsimp only;omega⟩,rfl⟩,by dsimp only;omega,?_,?_,rfl⟩
  ·(try dsimp only)
   exact agi
  ·(try dsimp only)
   rw[ht.out];exact agr
 ·obtain rfl:k=l.length:=by omega
  rw[List.take_length];refine HZ.seq (HZ.eng mixed gV (by kernel_rfl) ?_);(try dsimp only);clear hall;(refine wlk ?_;intros);(try simp only[X.out,↓reduceIte]);refine HZ.eng mixed gV (by kernel_rfl) ?_;(try dsimp only);(refine wlk ?_;intros);(try dsimp only);refine⟨.inr rfl,⟨_,fun g w v h=>h,by(simp(disch:=(first|omega|(simp only[push_cast];first|done|omega))) only[push_cast,↓reduceIte,Nat.reduceEqDiff,Nat.reduceBEq,Nat.reduceAdd,Nat.reduceSub,Int.reduceToNat, *]<;>with_reducible exact rfl)⟩,fun i e=>False.elim e⟩
def φOb:Fun:=F1 tq fun b=>if aeW b.1 b.2.1 then some (.agg [.lst true 1 (b.1.map gy),.lst true 1 (b.2.1.map fun s=> .val (.string s)),.val (.int .i64 b.2.2.1),.val (.int .i64 b.2.2.2.1),.val (.int .i64 b.2.2.2.2)])else none
theorem ang {p:List LS} {q:LS} {x y z:Int} (h:aeW p q):φOb [.agg [.lst false 1 (p.map fun p=> .lst false 1 (p.map fun s=> .val (.string s))),.lst false 1 (q.map fun s=> .val (.string s)),.val (.int .i64 x),.val (.int .i64 y),.val (.int .i64 z)]]=some (.agg [.lst true 1 (p.map gy),.lst true 1 (q.map fun s=> .val (.string s)),.val (.int .i64 x),.val (.int .i64 y),.val (.int .i64 z)]):=
 (iA (A:=tq) (p,q,x,y,z)).trans (if_pos h)
def GOb:Ctx:={fn:=aY [(44,φOr)],io:=aY []}
theorem auG:ak Tryz.prog GOb:=okΓ (fC Tryz.func44 afl aj) aj
def as2:=ah (Γ:=GOb) (f:=44) (φ:=φOr) rfl
theorem aeG:Sound Tryz.prog 22 φOb:=by refine au mixed auG Tryz.func22 rfl 15 rfl [.cell 2 26] rfl (by kernel_rfl) fun ps r hr=>?_;obtain⟨⟨p,q,x,y,z⟩,rfl,hpre,rfl⟩:=kQ hr;refine⟨by simp,?_⟩;simp only[dIs,dUs,dSs,dx,dA,dz,dF,aS,dD,aT,aU,aR,aV];(try dsimp only at hpre⊢);obtain⟨hlen,hall,hoq⟩:=hpre;have ap:=ams hlen hall;clear hall;have gob_c44:=as2;exact wlkF
end
end Go.Proofs.YtmmafcjjlbgnkaaGreat
