/- What the proof rests on, part 10: contracts of functions. No condition beyond what each states. -/
import Derived.Test.YtmmafcjjlbgnkaaGreatDoorZPr9
namespace Go.Proofs.YtmmafcjjlbgnkaaGreatDoor
open Go.RowKit
set_option linter.all false
set_option maxHeartbeats 32000000
noncomputable section
abbrev fV (l:List It):PV:=.lst false 7 (l.map gG)
theorem adO (l:List It) (n:Nat):nH l n=if(l[n]?.getD it0).1=2 then decide (0<n∧(l[n-1]?.getD it0).1=1)else decide ((l[n]?.getD it0).1=3∧(l[n]?.getD it0).2.2.2.2.2.1<10000):=rfl
theorem l6 (x:It):forced x=decide (x.1=3∧x.2.2.2.2.2.1=-10000):=rfl
def φBq:Fun:=F2 mQ dI fun l n=>open Classical in if aW l=true∧0≤n∧n<l.length then some (bv (nH l n.toNat))else none
theorem yh {l:List It} {n:Nat} (h:aW l=true) (h2:n<l.length):φBq [fV l,.val (.int .i64 n)]=some (.val (.bool (nH l n))):=(jm (A:=mQ) (B:=dI) l n).trans (if_pos ⟨h,by omega,by omega⟩)
theorem zx:Sound Tryz.prog 128 φBq:=by
 refine au mixed bJ Tryz.func128 rfl 36 rfl [.tmp 4] rfl (by kernel_rfl) fun ps r hr=>?_;obtain⟨l,n,rfl,hpre,rfl⟩:=iB hr;refine⟨by simp,?_⟩;simp only[dIs,dUs,dSs,dz,dF,dx,dG,aR,dD,aU,aV,aS,aT];obtain⟨hB,hn0,hn1⟩:=hpre;obtain⟨m,rfl⟩:∃m:Nat,n=m:=⟨n.toNat,by omega⟩;have hl:=bH hB;show pq _ _ _ _ _ (bY [fV l,.val (.int .i64 m)]).tm _ _;have hm:m<l.length:=by omega
 have e1:0<m→((m:Int)-1).toNat=m-1:=fun h=>by omega
 rw[Int.toNat_natCast,adO];clear hB;by_cases h0:0<m
 ·have e1:=e1 h0
  generalize hx:l[m]?.getD it0=x at*;generalize hy:l[m-1]?.getD it0=y at*;obtain⟨a,b,c,d,e,f,g⟩:=x;obtain⟨a',b',c',d',e',f',g'⟩:=y;dsimp only
  ((refine wlk6 ?_ ?_ ?_ ?_ ?_ ?_<;>intros<;>try with_reducible exact trivial)<;>(refine fnG ?_;try with_reducible exact trivial));all_goals((refine congrArg (fun z=>some (PV.val (Value.bool z))) ?_);first|(simp_all;done)|(simp_all;omega))
 ·generalize hx:l[m]?.getD it0=x at*
  obtain⟨a,b,c,d,e,f,g⟩:=x;clear e1;dsimp only
  ((refine wlk6 ?_ ?_ ?_ ?_ ?_ ?_<;>intros<;>try with_reducible exact trivial)<;>(refine fnG ?_;try with_reducible exact trivial));all_goals((refine congrArg (fun z=>some (PV.val (Value.bool z))) ?_);first|(simp_all;done)|(simp_all;omega))
def φMb:Fun:=F2 mQ dI fun l n=>open Classical in if aW l=true∧-1000≤n∧n≤1000 then some (bv (decide (0≤n∧n<l.length)&&nH l n.toNat))else none
theorem ag0 {l:List It} {n:Int} (h:aW l=true) (h2:-1000≤n∧n≤1000):φMb [fV l,.val (.int .i64 n)]=some (.val (.bool (decide (0≤n∧n<l.length)&&nH l n.toNat))):=(jm (A:=mQ) (B:=dI) l n).trans (if_pos ⟨h,h2⟩)
def GMb:Ctx:={fn:=aY [(64,φIn)],io:=aY []}
theorem avM:ak Tryz.prog GMb:=okΓ (fC Tryz.func64 oH aj) aj
def aiO:=ah (Γ:=GMb) (f:=64) (φ:=φIn) rfl
theorem aiA:Sound Tryz.prog 177 φMb:=by
 refine au mixed avM Tryz.func177 rfl 44 rfl [.tmp 4] rfl (by kernel_rfl) fun ps r hr=>?_;obtain⟨l,n,rfl,hpre,rfl⟩:=iB hr;refine⟨by simp,?_⟩;simp only[dIs,dUs,dSs,dz,dF,dx,dG,aR,dD,aU,aV,aS,aT];obtain⟨hB,hn0,hn1⟩:=hpre;have hl:=bH hB;show pq _ _ _ _ _ (bY [fV l,.val (.int .i64 n)]).tm _ _;have ap:=bK;clear hB;by_cases hr:0≤n∧n<l.length
 ·obtain⟨m,rfl⟩:∃m:Nat,n=m:=⟨n.toNat,by omega⟩
  have hm:m<l.length:=by omega
  have hin:inB (m:Int) 0 ((l.length:Int)-1)=true:=av.2 ⟨by omega,by omega⟩;have e1:0<m→((m:Int)-1).toNat=m-1:=fun h=>by omega
  rw[decide_eq_true hr,Bool.true_and,Int.toNat_natCast,adO];clear hr;by_cases h0:0<m
  ·have e1:=e1 h0
   generalize hx:l[m]?.getD it0=x at*;generalize hy:l[m-1]?.getD it0=y at*;obtain⟨a,b,c,d,e,f,g⟩:=x;obtain⟨a',b',c',d',e',f',g'⟩:=y;dsimp only
   have gmb_c64:=aiO;((refine wlk6 ?_ ?_ ?_ ?_ ?_ ?_<;>intros<;>try with_reducible exact trivial)<;>(refine fnG ?_;try with_reducible exact trivial));all_goals((refine congrArg (fun z=>some (PV.val (Value.bool z))) ?_);first|(simp_all;done)|(simp_all;omega))
  ·generalize hx:l[m]?.getD it0=x at*
   obtain⟨a,b,c,d,e,f,g⟩:=x;clear e1;dsimp only
   have gmb_c64:=aiO;((refine wlk6 ?_ ?_ ?_ ?_ ?_ ?_<;>intros<;>try with_reducible exact trivial)<;>(refine fnG ?_;try with_reducible exact trivial));all_goals((refine congrArg (fun z=>some (PV.val (Value.bool z))) ?_);first|(simp_all;done)|(simp_all;omega))
 ·have hin:inB n 0 ((l.length:Int)-1)=false:=Bool.eq_false_iff.2 fun q=>by have:=av.1 q;omega
  rw[decide_eq_false hr,Bool.false_and];clear hr;have gmb_c64:=aiO;exact wlkF
def φFc:Fun:=F1 dIt fun x=>some (bv (forced x))
theorem ahR {a b c d e f:Int} {g:Bool}:φFc [.agg [.val (.int .i64 a),.val (.int .i64 b),.val (.int .i64 c),.val (.int .i64 d),.val (.int .i64 e),.val (.int .i64 f),.val (.bool g)]]=some (.val (.bool (forced (a,b,c,d,e,f,g)))):=gu (A:=dIt) (a,b,c,d,e,f,g)
theorem aaB:Sound Tryz.prog 179 φFc:=by
 refine au mixed bJ Tryz.func179 rfl 11 rfl [.tmp 2] rfl (by kernel_rfl) fun ps r hr=>?_;obtain⟨⟨a,b,c,d,e,f,g⟩,rfl,hr⟩:=bQ hr;cases hr;refine⟨by simp,?_⟩;simp only[dIs,dUs,dSs,dz,dF,dx,dG,aR,dD,aU,aV,aS,aT];simp only[aqd,dz,dx];rw[l6];dsimp only
 ((refine wlk6 ?_ ?_ ?_ ?_ ?_ ?_<;>intros<;>try with_reducible exact trivial)<;>(refine fnG ?_;try with_reducible exact trivial));all_goals((refine congrArg (fun z=>some (PV.val (Value.bool z))) ?_);first|(simp_all;done)|(simp_all;omega))
def φSt:Fun:=F2 mQ dI fun l n=>open Classical in if aW l=true∧-1≤n∧n<l.length then some (iv (aF l (n+1).toNat))else none
theorem aaU {l:List It} {a:Nat} (h:aW l=true) (h2:a≤l.length):φSt [fV l,.val (.int .i64 ((a:Int)-1))]=some (.val (.int .i64 (aF l a))):=(jm (A:=mQ) (B:=dI) l ((a:Int)-1)).trans ((if_pos ⟨h,by omega,by omega⟩).trans (by rw[show((a:Int)-1+1).toNat=a by omega]))
theorem agv {l:List It} {a:Nat}:aF l a=if a<l.length∧¬(l[a]?.getD it0).1=1∧¬((l[a]?.getD it0).1=3∧(l[a]?.getD it0).2.2.2.2.2.1=-10000)then aF l (a+1)else a:=by
 split
 ·rename_i h
  exact atv h.1 h.2.1 (decide_eq_false h.2.2)
 ·rename_i h
  refine ajK fun q=>h ⟨q.1,q.2.1,fun r=>?_⟩;have:=q.2.2;rw[l6,decide_eq_true r]at this;cases this
def ay1:Ctx:={fn:=aY [(179,φFc)],io:=aY []}
theorem aq9:ak Tryz.prog ay1:=okΓ (fC Tryz.func179 aaB aj) aj
def alU:=ah (Γ:=ay1) (f:=179) (φ:=φFc) rfl
theorem ahG:Sound Tryz.prog 178 φSt:=by
 refine au mixed aq9 Tryz.func178 rfl 31 rfl [.tmp 4] rfl (by kernel_rfl) fun ps r hr=>?_;obtain⟨l,n,rfl,hpre,rfl⟩:=iB hr;refine⟨by simp,?_⟩;simp only[dIs,dUs,dSs,dz,dF,dx,dG,aR,dD,aU,aV,aS,aT];obtain⟨hB,hn0,hn1⟩:=hpre;obtain⟨a,rfl⟩:∃a:Nat,n=(a:Int)-1:=⟨(n+1).toNat,by omega⟩;have hl:=bH hB;have ha:a≤l.length:=by omega
 show pq _ _ _ _ _ (bY [fV l,.val (.int .i64 ((a:Int)-1))]).tm _ _;rw[show((a:Int)-1+1).toNat=a by omega];have ap:=@ahR;clear hB hn0 hn1;generalize hR:aF l a=R;replace hR:=Lib.hid hR;have gsti_c179:=alU;(refine wlk ?_;intros);refine aG (α:=Nat) mixed (fun k=>[(0,fV l),(5,iv k)]) (fun _=>[]) (fun _=>0)
  (fun k=>k≤l.length∧aF l k=R) (fun k=>l.length-k) (by kernel_rfl) a ⟨ha,hR.out⟩ ?_ ?_ rfl ?_
 ·exact agi
 ·exact agr
 rintro k ⟨hk,hI⟩;rw[agv]at hI;clear hR ha;by_cases h0:k<l.length
 ·generalize hx:l[k]?.getD it0=x at*
  obtain⟨kd,b,c,d,e,cost,g⟩:=x;dsimp only at hI;by_cases h1:kd=1
  ·rw[if_neg (by omega)]at hI
   subst hI;exact wlkF
  ·by_cases h3:kd=3∧cost=-10000
   ·rw[if_neg (by omega)]at hI
    have hf:forced (kd,b,c,d,e,cost,g)=true:=by rw[l6];exact decide_eq_true h3
    subst hI;clear h3;exact wlkF
   ·rw[if_pos ⟨h0,h1,h3⟩]at hI
    have hf:forced (kd,b,c,d,e,cost,g)=false:=by rw[l6];exact decide_eq_false h3
    replace hI:=Lib.hid hI;clear h3;(refine wlk ?_;intros);refine⟨k+1,⟨by omega,hI.out⟩,by dsimp only;omega,?_,?_,rfl⟩
    ·exact agr
    ·exact agr
 ·rw[if_neg (fun q=>h0 q.1)]at hI
  subst hI;exact wlkF
theorem zn:Sound Tryz.prog 182 φSt:=by
 refine au mixed bJ Tryz.func182 rfl 39 rfl [.tmp 4] rfl (by kernel_rfl) fun ps r hr=>?_;obtain⟨l,n,rfl,hpre,rfl⟩:=iB hr;refine⟨by simp,?_⟩;simp only[dIs,dUs,dSs,dz,dF,dx,dG,aR,dD,aU,aV,aS,aT];obtain⟨hB,hn0,hn1⟩:=hpre;obtain⟨a,rfl⟩:∃a:Nat,n=(a:Int)-1:=⟨(n+1).toNat,by omega⟩;have hl:=bH hB;have hat:=fun k hk=>(gQ hB (k:=k) hk).cost;have ha:a≤l.length:=by omega
 show pq _ _ _ _ _ (bY [fV l,.val (.int .i64 ((a:Int)-1))]).tm _ _;rw[show((a:Int)-1+1).toNat=a by omega];clear hB hn0 hn1;generalize hR:aF l a=R;replace hR:=Lib.hid hR;(refine wlk ?_;intros);refine aG (α:=Nat) mixed (fun k=>[(0,fV l),(5,iv k)]) (fun _=>[]) (fun _=>0)
  (fun k=>k≤l.length∧aF l k=R) (fun k=>l.length-k) (by kernel_rfl) a ⟨ha,hR.out⟩ ?_ ?_ rfl ?_
 ·exact agi
 ·exact agr
 rintro k ⟨hk,hI⟩;rw[agv]at hI;clear hR ha;by_cases h0:k<l.length
 ·have hc:(0≤(l[k]?.getD it0).2.2.2.2.2.1∧(l[k]?.getD it0).2.2.2.2.2.1≤10000)∨(l[k]?.getD it0).2.2.2.2.2.1=-10000:=hat k h0
  clear hat;generalize hx:l[k]?.getD it0=x at*;obtain⟨kd,b,c,d,e,cost,g⟩:=x;dsimp only at hI hc;by_cases h1:kd=1
  ·rw[if_neg (by omega)]at hI
   subst hI;clear hc;exact wlkF
  ·by_cases h3:kd=3∧cost=-10000
   ·rw[if_neg (by omega)]at hI
    subst hI;obtain⟨h3,h4⟩:=h3;subst h3;subst h4;clear hc h1;exact wlkF
   ·rw[if_pos ⟨h0,h1,h3⟩]at hI
    replace hI:=Lib.hid hI;by_cases h5:kd=3
    ·have h6:0≤cost:=by omega
     clear hc h3 h1;subst h5;(refine wlk ?_;intros);refine⟨k+1,⟨by omega,hI.out⟩,by dsimp only;omega,?_,?_,rfl⟩
     ·exact agr
     ·exact agr
    ·clear hc h3
     (refine wlk ?_;intros);refine⟨k+1,⟨by omega,hI.out⟩,by dsimp only;omega,?_,?_,rfl⟩
     ·exact agr
     ·exact agr
 ·rw[if_neg (fun q=>h0 q.1)]at hI
  subst hI;clear hat;exact wlkF
def φNf:Fun:=F3 mQ dI dI fun l n m=>open Classical in if aW l=true∧-1≤n∧n<m∧m<l.length then some (bv (qJ l (n+1).toNat m.toNat))else none
theorem aor {l:List It} {a b:Nat} (h:aW l=true) (h2:a≤b) (h3:b<l.length):φNf [fV l,.val (.int .i64 ((a:Int)-1)),.val (.int .i64 b)]=some (.val (.bool (qJ l a b))):=(xD (A:=mQ) (B:=dI) (C:=dI) l ((a:Int)-1) b).trans ((if_pos ⟨h,by omega,by omega,by omega⟩).trans (by rw[show((a:Int)-1+1).toNat=a by omega,Int.toNat_natCast]))
theorem ahb:Sound Tryz.prog 183 φNf:=by
 refine au mixed bJ Tryz.func183 rfl 29 rfl [.tmp 6] rfl (by kernel_rfl) fun ps r hr=>?_;obtain⟨l,n,m,rfl,hpre,rfl⟩:=vv hr;refine⟨by simp,?_⟩;simp only[dIs,dUs,dSs,dz,dF,dx,dG,aR,dD,aU,aV,aS,aT];obtain⟨hB,hn0,hn1,hn2⟩:=hpre;obtain⟨a,rfl⟩:∃a:Nat,n=(a:Int)-1:=⟨(n+1).toNat,by omega⟩;obtain⟨b,rfl⟩:∃b:Nat,m=b:=⟨m.toNat,by omega⟩;have hl:=bH hB;have hab:a≤b:=by omega
 have hbl:b<l.length:=by omega
 show pq _ _ _ _ _ (bY [fV l,.val (.int .i64 ((a:Int)-1)),.val (.int .i64 b)]).tm _ _;rw[show((a:Int)-1+1).toNat=a by omega,Int.toNat_natCast];clear hB hn0 hn1 hn2;(refine wlk ?_;intros);refine aG (α:=Nat) mixed (fun k=>[(0,fV l),(2,iv b),(7,iv k)]) (fun _=>[]) (fun _=>0)
  (fun k=>(a≤k∧k≤b)∧qJ l a k=true) (fun k=>b-k) (by kernel_rfl) a ⟨⟨Nat.le_refl _,hab⟩,yS (Nat.le_refl _)⟩ ?_ ?_ rfl ?_
 ·exact agi
 ·exact agr
 rintro k ⟨⟨hk1,hk2⟩,hI⟩;by_cases h0:k<b
 ·have hs:=uT (l:=l) hk1
  rw[hI,Bool.true_and]at hs;have hno:=fun h=>aco (b:=b) (l:=l) h hk1 h0;have hfr:forced (gI l k)=decide ((l[k]?.getD it0).1=3∧(l[k]?.getD it0).2.2.2.2.2.1=-10000):=rfl;rw[hfr]at hs;clear hI hfr;generalize hx:l[k]?.getD it0=x at*;obtain⟨kd,w9,c,d,e,cost,g⟩:=x;dsimp only at hs;by_cases h3:kd=3∧cost=-10000
  ·rw[decide_eq_true h3]at hs
   rw[hno hs];obtain⟨h3,h4⟩:=h3;subst h3;subst h4;clear hs hno;exact wlkF
  ·rw[decide_eq_false h3]at hs
   replace hs:=Lib.hid hs;clear hno;by_cases h5:kd=3
   ·have h6:¬cost=-10000:=fun q=>h3 ⟨h5,q⟩
    clear h3;subst h5;(refine wlk ?_;intros);refine⟨k+1,⟨⟨by omega,by omega⟩,hs.out⟩,by dsimp only;omega,?_,?_,rfl⟩
    ·exact agr
    ·exact agr
   ·clear h3
    (refine wlk ?_;intros);refine⟨k+1,⟨⟨by omega,by omega⟩,hs.out⟩,by dsimp only;omega,?_,?_,rfl⟩
    ·exact agr
    ·exact agr
 ·obtain rfl:k=b:=by omega
  rw[hI];clear hI;exact wlkF
def φLq:Fun:=F3 mQ dI dI fun l n m=>open Classical in if aW l=true∧-1≤n∧n<m∧m<l.length then some (bv (eG l (n+1).toNat m.toNat))else none
theorem ajh {l:List It} {a b:Nat} (h:aW l=true) (h2:a≤b) (h3:b<l.length):φLq [fV l,.val (.int .i64 ((a:Int)-1)),.val (.int .i64 b)]=some (.val (.bool (eG l a b))):=(xD (A:=mQ) (B:=dI) (C:=dI) l ((a:Int)-1) b).trans ((if_pos ⟨h,by omega,by omega,by omega⟩).trans (by rw[show((a:Int)-1+1).toNat=a by omega,Int.toNat_natCast]))
def GLq:Ctx:={fn:=aY [(34,φIn),(128,φBq),(182,φSt),(183,φNf)],io:=aY []}
theorem av3:ak Tryz.prog GLq:=okΓ (fC Tryz.func34 iy (fC Tryz.func128 zx (fC Tryz.func182 zn (fC Tryz.func183 ahb aj)))) aj
def amP:=ah (Γ:=GLq) (f:=34) (φ:=φIn) rfl
def aif:=ah (Γ:=GLq) (f:=128) (φ:=φBq) rfl
def aiC:=ah (Γ:=GLq) (f:=182) (φ:=φSt) rfl
def ajf:=ah (Γ:=GLq) (f:=183) (φ:=φNf) rfl
theorem agK:Sound Tryz.prog 129 φLq:=by
 refine au mixed av3 Tryz.func129 rfl 45 rfl [.tmp 6] rfl (by kernel_rfl) fun ps r hr=>?_;obtain⟨l,n,m,rfl,hpre,rfl⟩:=vv hr;refine⟨by simp,?_⟩;simp only[dIs,dUs,dSs,dz,dF,dx,dG,aR,dD,aU,aV,aS,aT];obtain⟨hB,hn0,hn1,hn2⟩:=hpre;obtain⟨a,rfl⟩:∃a:Nat,n=(a:Int)-1:=⟨(n+1).toNat,by omega⟩;obtain⟨b,rfl⟩:∃b:Nat,m=b:=⟨m.toNat,by omega⟩;have hl:=bH hB;have hab:a≤b:=by omega
 have hbl:b<l.length:=by omega
 show pq _ _ _ _ _ (bY [fV l,.val (.int .i64 ((a:Int)-1)),.val (.int .i64 b)]).tm _ _;rw[show((a:Int)-1+1).toNat=a by omega,Int.toNat_natCast];have ap1:φIn [.val (.int .i64 ((a:Int)-1)),.val (.int .i64 (-1)),.val (.int .i64 ((b:Int)-1))]=some (.val (.bool true)):=(bK _ _ _).trans (by rw[av.2 ⟨by omega,by omega⟩]);have ap2:φIn [.val (.int .i64 b),.val (.int .i64 0),.val (.int .i64 ((l.length:Int)-1))]=some (.val (.bool true)):=(bK _ _ _).trans (by rw[av.2 ⟨by omega,by omega⟩]);have ap3:=yh hB hbl;have ap5:=aaU (a:=a) hB (by omega);have ap6:=aor hB hab hbl;have hE:eG l a b=(nH l b&&((decide (a=0)||nH l (a-1))&&(decide (aF l a≤b)&&qJ l a b))):=by unfold eG;rw[decide_eq_true ⟨hab,hbl⟩,Bool.true_and]
 rw[hE];clear hE hn0 hn1 hn2;generalize nH l b=q1 at*;generalize qJ l a b=q2 at*;generalize aF l a=s9 at*;by_cases h0:a=0
 ·subst h0
  clear hB;simp only[Int.natCast_zero,Int.zero_sub]at ap1 ap5 ap6⊢;have glq_c34:=amP;have glq_c128:=aif;have glq_c182:=aiC;have glq_c183:=ajf;((refine wlk6 ?_ ?_ ?_ ?_ ?_ ?_<;>intros<;>try with_reducible exact trivial)<;>(refine fnG ?_;try with_reducible exact trivial));all_goals((refine congrArg (fun z=>some (PV.val (Value.bool z))) ?_);first|(simp_all;done)|(simp_all;omega))
 ·have ap4:=yh (n:=a-1) hB (by omega)
  rw[show((a-1:Nat):Int)=(a:Int)-1 by omega]at ap4;generalize nH l (a-1)=q3 at*;clear hB;have glq_c34:=amP;have glq_c128:=aif;have glq_c182:=aiC;have glq_c183:=ajf;((refine wlk6 ?_ ?_ ?_ ?_ ?_ ?_<;>intros<;>try with_reducible exact trivial)<;>(refine fnG ?_;try with_reducible exact trivial));all_goals((refine congrArg (fun z=>some (PV.val (Value.bool z))) ?_);first|(simp_all;done)|(simp_all;omega))
abbrev pvG (g:I4):PV:=.agg [.val (.int .i64 g.1),.val (.int .i64 g.2.1),.val (.int .i64 g.2.2.1),.val (.int .i64 g.2.2.2)]
theorem akO (a b c d a' b' c' d':Int):abG (a,b,c,d) (a',b',c',d')=(a+a',(if(if b=0 then 0 else d)=max (if b=0 then 0 else d) (if b'=0 then 0 else d')then b else 0)+(if(if b'=0 then 0 else d')=max (if b=0 then 0 else d) (if b'=0 then 0 else d')then b' else 0),c+c',max (if b=0 then 0 else d) (if b'=0 then 0 else d')):=rfl
abbrev as2 (g:I4):Prop:=(0≤g.1∧g.1≤1000000)∧(0≤g.2.1∧g.2.1≤1000000)∧(0≤g.2.2.1∧g.2.2.1≤1000000)∧(g.2.2.2=0∨g.2.2.2=1)
def alS:Fun:=F2 dI4 dI4 fun a b=>open Classical in if as2 a∧as2 b then some (pvG (abG a b))else none
theorem ade {a b:I4} (h:as2 a) (h2:as2 b):alS [pvG a,pvG b]=some (pvG (abG a b)):=(jm (A:=dI4) (B:=dI4) a b).trans (if_pos ⟨h,h2⟩)
theorem ae7:Sound Tryz.prog 222 alS:=by
 refine au mixed bJ Tryz.func222 rfl 58 rfl [.cell 4 60] rfl (by kernel_rfl) fun ps r hr=>?_;obtain⟨⟨a,b,c,d⟩,⟨a',b',c',d'⟩,rfl,hpre,rfl⟩:=iB hr;refine⟨by simp,?_⟩;simp only[dIs,dUs,dSs,dz,dF,dx,dG,aR,dD,aU,aV,aS,aT];obtain⟨⟨h1,h2,h3,h4⟩,h5,h6,h7,h8⟩:=hpre;dsimp only at h1 h2 h3 h4 h5 h6 h7 h8;rw[akO];have g00:¬((0:Int)>0):=by decide
 have g10:(1:Int)>0:=by decide
 have g01:¬((0:Int)>1):=by decide
 have g11:¬((1:Int)>1):=by decide
 have n01:¬((0:Int)=1):=by decide
 have n10:¬((1:Int)=0):=by decide
 have m00:max (0:Int) 0=0:=by decide
 have m01:max (0:Int) 1=1:=by decide
 have m10:max (1:Int) 0=1:=by decide
 have m11:max (1:Int) 1=1:=by decide
 rcases h4 with rfl|rfl<;>rcases h8 with rfl|rfl<;>
 ·by_cases hb:b=0<;>by_cases hb':b'=0<;>
  ·first|subst hb|skip
   first|subst hb'|skip
   simp only[if_true,if_false,m00,m01,m10,m11,n01,n10, *];((refine wlk6 ?_ ?_ ?_ ?_ ?_ ?_<;>intros<;>try with_reducible exact trivial)<;>(refine fnG ?_;try with_reducible exact trivial));all_goals(simp;try omega)
def kU (l:List It) (b en:Nat):List I4:=((mK l b en).map fun n:Int=>(gI l n.toNat).gl)++(if(gI l en).kd=3 then [(gI l en).gl]else [])
def oQ (l:List It) (b k:Nat):List I4:=(mK l b k).map fun n:Int=>(gI l n.toNat).gl
theorem ajQ {l:List It} {b:Nat}:oQ l b b=[]:=by unfold oQ;rw[rF (Nat.le_refl _)];rfl
theorem alJ {l:List It} {b k:Nat} (h:b≤k) (hk:¬(gI l k).kd=3):oQ l b (k+1)=oQ l b k++[(gI l k).gl]:=by unfold oQ;rw[oJ h hk,List.map_append];rfl
theorem aoy {l:List It} {b k:Nat} (h:b≤k) (hk:(gI l k).kd=3):oQ l b (k+1)=oQ l b k:=by unfold oQ;rw[xH h hk]
theorem wL (l:List It) (b k:Nat):(oQ l b k).length≤k-b:=by unfold oQ;rw[List.length_map];exact nN l b k
theorem aby {l:List It} {b k:Nat} (hB:aW l=true) (hk:k≤l.length):∀g∈oQ l b k,GOk g:=fun g hg=>by obtain⟨n,hn,rfl⟩:=List.mem_map.1 hg;have:=qK n hn;exact(gQ hB (k:=n.toNat) (by omega)).gl
theorem aaH {l:List It} {b en:Nat} (hB:aW l=true) (hk:en<l.length):(∀g∈kU l b en,GOk g)∧(kU l b en).length≤60:=by
 have hl:=bH hB;have h1:=wL l b en;unfold kU;refine⟨fun g hg=>?_,?_⟩
 ·rcases List.mem_append.1 hg with hg|hg
  ·exact aby hB (by omega) g hg
  ·split at hg
   ·rw[List.mem_singleton.1 hg]
    exact(gQ hB hk).gl
   ·simp at hg
 ·unfold oQ at h1
  rw[List.length_append];split
  ·rw[List.length_singleton];omega
  ·rw[List.length_nil];omega
theorem aiX {gs:List I4} (h:∀g∈gs,GOk g) (hl:gs.length≤60):as2 (jq gs)∧(jq gs).1≤60000∧(jq gs).2.1≤60000∧(jq gs).2.2.1≤60000:=by obtain⟨h1,h2,h3,h4⟩:=aqC gs h;exact⟨⟨⟨h1.1,by omega⟩,⟨h2.1,by omega⟩,⟨h3.1,by omega⟩,h4⟩,by omega,by omega,by omega⟩
def ak8:Fun:=F3 mQ dI dI fun l n m=>open Classical in if aW l=true∧0≤n∧n≤m∧m<l.length then some (pvG (jq (kU l n.toNat m.toNat)))else none
theorem alK {l:List It} {b en:Nat} (h:aW l=true) (h2:b≤en) (h3:en<l.length):ak8 [fV l,.val (.int .i64 b),.val (.int .i64 en)]=some (pvG (jq (kU l b en))):=(xD (A:=mQ) (B:=dI) (C:=dI) l b en).trans (if_pos ⟨h,by omega,by omega,by omega⟩)
def ayY:Ctx:={fn:=aY [(222,alS)],io:=aY []}
theorem arI:ak Tryz.prog ayY:=okΓ (fC Tryz.func222 ae7 aj) aj
def alV:=ah (Γ:=ayY) (f:=222) (φ:=alS) rfl
theorem aeI:Sound Tryz.prog 184 ak8:=by
 refine au mixed arI Tryz.func184 rfl 49 rfl [.cell 6 60] rfl (by kernel_rfl) fun ps r hr=>?_;obtain⟨l,n,m,rfl,hpre,rfl⟩:=vv hr;refine⟨by simp,?_⟩;simp only[dIs,dUs,dSs,dz,dF,dx,dG,aR,dD,aU,aV,aS,aT];obtain⟨hB,hn0,hn1,hn2⟩:=hpre;obtain⟨b,rfl⟩:∃b:Nat,n=b:=⟨n.toNat,by omega⟩;obtain⟨en,rfl⟩:∃en:Nat,m=en:=⟨m.toNat,by omega⟩;have hl:=bH hB;have hbe:b≤en:=by omega
 have hel:en<l.length:=by omega
 show pq _ _ _ _ _ (bY [fV l,.val (.int .i64 b),.val (.int .i64 en)]).tm _ _;rw[Int.toNat_natCast,Int.toNat_natCast];clear hn0 hn1 hn2;have hgs:kU l b en=oQ l b en++(if(gI l en).kd=3 then [(gI l en).gl]else []):=rfl;rw[hgs];have gsum_c222:=alV;(refine wlk ?_;intros);refine aG (α:=Nat) mixed (fun k=>[(0,fV l),(2,iv en),(6,.own 0 4 0 0),(7,.own 1 4 0 0),(8,iv k)])
  (fun k=>[(0,60,4,[pvG g40]),(1,60,4,[pvG (jq (oQ l b k))])]) (fun _=>2)
  (fun k=>b≤k∧k≤en) (fun k=>en-k) (by kernel_rfl) b ⟨Nat.le_refl _,hbe⟩ ?_ ?_ rfl ?_
 ·exact agr
 ·simp(disch:=(first|omega|(simp only[push_cast];first|done|omega))) only[push_cast,↓reduceIte,Nat.reduceEqDiff,Nat.reduceBEq,Nat.reduceAdd,Nat.reduceSub,Int.reduceToNat,ajQ,jq,List.foldl_nil,g40, *]
 rintro k ⟨hk1,hk2⟩;obtain⟨ho,-⟩:=aiX (aby (b:=b) hB (show k≤l.length by omega)) (by have:=wL l b k;omega);by_cases h0:k<en
 ·have hx1:=(gQ hB (k:=k) (by omega)).gl
  have hy:=@alJ l b k hk1;have hno:=@aoy l b k hk1;have hkx:gI l k=l[k]?.getD it0:=rfl;rw[hkx]at hy hno;generalize hx:l[k]?.getD it0=x at*;obtain⟨kd,w9,c,d,e,cost,g⟩:=x;replace hy:¬kd=3→oQ l b (k+1)=oQ l b k++[(w9,c,d,e)]:=hy;replace hno:kd=3→oQ l b (k+1)=oQ l b k:=hno;obtain⟨g1,g2,g3,g4⟩:=hx1;dsimp only at g1 g2 g3 g4;have apa:=ade ho (b:=(w9,c,d,e)) ⟨⟨g1.1,by(try dsimp only);omega⟩,⟨g2.1,by(try dsimp only);omega⟩,⟨g3.1,by(try dsimp only);omega⟩,g4⟩;by_cases h3:kd=3
  ·have hs:=hno h3
   replace hs:=Lib.hid hs;clear hno hy apa ho g1 g2 g3 g4 hgs hB hkx;generalize ht9:jq (oQ l b k)=t at*;obtain⟨t1,t2,t3,t4⟩:=t;subst h3;(refine wlk ?_;intros);refine⟨k+1,⟨by omega,by omega⟩,by dsimp only;omega,?_,?_,rfl⟩
   ·exact agr
   ·dsimp only
    rw[hs.out];simp(disch:=(first|omega|(simp only[push_cast];first|done|omega))) only[push_cast,↓reduceIte,Nat.reduceEqDiff,Nat.reduceBEq,Nat.reduceAdd,Nat.reduceSub,Int.reduceToNat, *]
  ·have hs:=hy h3
   have ht:jq (oQ l b (k+1))=abG (jq (oQ l b k)) (w9,c,d,e):=by rw[hs,nQ]
   replace ht:=Lib.hid ht;clear hno hy hs ho g1 g2 g3 g4 hgs hB hkx;generalize jq (oQ l b k)=t at*;generalize abG t (w9,c,d,e)=u at*;obtain⟨t1,t2,t3,t4⟩:=t;obtain⟨u1,u2,u3,u4⟩:=u;try dsimp only at apa
   (refine wlk ?_;intros);refine⟨k+1,⟨by omega,by omega⟩,by dsimp only;omega,?_,?_,rfl⟩
   ·exact agr
   ·dsimp only
    rw[ht.out];exact agr
 ·obtain rfl:k=en:=by omega
  have hx1:GOk (l[k]?.getD it0).gl:=(gQ hB hel).gl;have hkx:gI l k=l[k]?.getD it0:=rfl;rw[hkx];generalize hx:l[k]?.getD it0=x at*;obtain⟨kd,w9,c,d,e,cost,g⟩:=x;obtain⟨g1,g2,g3,g4⟩:=hx1;dsimp only at g1 g2 g3 g4;have apa:=ade ho (b:=(w9,c,d,e)) ⟨⟨g1.1,by(try dsimp only);omega⟩,⟨g2.1,by(try dsimp only);omega⟩,⟨g3.1,by(try dsimp only);omega⟩,g4⟩;by_cases h3:kd=3
  ·have ht:jq (oQ l b k++[(w9,c,d,e)])=abG (jq (oQ l b k)) (w9,c,d,e):=nQ _ _
   rw[if_pos (show It.kd (kd,w9,c,d,e,cost,g)=3 from h3)];have hz:It.gl (kd,w9,c,d,e,cost,g)=(w9,c,d,e):=rfl;rw[hz,ht];clear ho g1 g2 g3 g4 hgs hB hkx ht hz;generalize jq (oQ l b k)=t at*;generalize abG t (w9,c,d,e)=u at*;obtain⟨t1,t2,t3,t4⟩:=t;obtain⟨u1,u2,u3,u4⟩:=u;try dsimp only at apa
   subst h3;exact wlkF
  ·rw[if_neg (show¬It.kd (kd,w9,c,d,e,cost,g)=3 from h3),List.append_nil]
   clear ho g1 g2 g3 g4 hgs hB hkx apa;generalize jq (oQ l b k)=t at*;obtain⟨t1,t2,t3,t4⟩:=t;exact wlkF
theorem adz {need room:Int} (h:0≤need∧need≤100000) (h2:0<room∧room≤100000):(0≤100*need*need∧100*need*need≤1000000000000)∧(0≤100*need*need*need∧100*need*need*need≤100000000000000000)∧(0<room*room∧room*room≤10000000000)∧(0<room*room*room∧room*room*room≤1000000000000000)∧0≤100*need*need*need/(room*room*room):=by have a1:0≤100*need*need:=Int.mul_nonneg (by omega) h.1;have a2:100*need*need≤10000000*100000:=Int.mul_le_mul (by omega) h.2 h.1 (by omega);have a3:0≤100*need*need*need:=Int.mul_nonneg a1 h.1;have a4:100*need*need*need≤1000000000000*100000:=Int.mul_le_mul (by omega) h.2 h.1 (by omega);have b1:0<room*room:=Int.mul_pos h2.1 h2.1;have b2:room*room≤100000*100000:=Int.mul_le_mul h2.2 h2.2 (by omega) (by omega);have b3:0<room*room*room:=Int.mul_pos b1 h2.1;have b4:room*room*room≤10000000000*100000:=Int.mul_le_mul (by omega) h2.2 (by omega) (by omega);exact⟨⟨a1,by omega⟩,⟨a3,by omega⟩,⟨b1,by omega⟩,⟨b3,by omega⟩,Int.ediv_nonneg a3 (by omega)⟩
def sJ:Fun:=F2 dI dI fun need room=>open Classical in if(0≤need∧need≤100000)∧0≤room∧room≤100000 then some (iv (aa3 need room))else none
theorem om {need room:Int} (h:(0≤need∧need≤100000)∧0≤room∧room≤100000):sJ [.val (.int .i64 need),.val (.int .i64 room)]=some (.val (.int .i64 (aa3 need room))):=(jm (A:=dI) (B:=dI) need room).trans (if_pos h)
theorem ab4:Sound Tryz.prog 237 sJ:=by
 refine au mixed bJ Tryz.func237 rfl 29 rfl [.tmp 4] rfl (by kernel_rfl) fun ps r hr=>?_;obtain⟨need,room,rfl,hpre,rfl⟩:=iB hr;refine⟨by simp,?_⟩;simp only[dIs,dUs,dSs,dz,dF,dx,dG,aR,dD,aU,aV,aS,aT];obtain⟨h1,h2⟩:=hpre;unfold aa3;by_cases hn:need=0
 ·subst hn
  exact wlkF
 ·rw[if_neg hn]
  by_cases hr:room=0
  ·subst hr
   ((refine wlk6 ?_ ?_ ?_ ?_ ?_ ?_<;>intros<;>try with_reducible exact trivial)<;>(refine fnG ?_;try with_reducible exact trivial));all_goals simp
  ·obtain⟨c1,c2,c3,c4,c5⟩:=adz h1 (room:=room) ⟨by omega,by omega⟩
   have hq:Int.tdiv (100*need*need*need) (room*room*room)=100*need*need*need/(room*room*room):=Int.tdiv_eq_ediv_of_nonneg c2.1;by_cases hb:10*room<need
   ·rw[if_pos (.inr hb)]
    clear c1 c2 c3 c4 c5 hq;exact wlkF
   ·rw[if_neg (by omega)]
    have hz:¬room*room*room=0:=by omega
    have w1:=dA (n:=100*need*need) (by omega) (by omega);have w2:=dA (n:=100*need*need*need) (by omega) (by omega);have w3:=dA (n:=room*room) (by omega) (by omega);have w4:=dA (n:=room*room*room) (by omega) (by omega);have c6:100*need*need*need/(room*room*room)≤100000000000000000:=by have:=Int.ediv_le_self (room*room*room) c2.1;omega
    have w5:=dA (n:=100*need*need*need/(room*room*room)) (by omega) (by omega);((refine wlk6 ?_ ?_ ?_ ?_ ?_ ?_<;>intros<;>try with_reducible exact trivial)<;>(refine fnG ?_;try with_reducible exact trivial));all_goals((refine congrArg (fun z=>some (PV.val (Value.int IntKind.i64 z))) ?_);generalize 100*need*need*need/(room*room*room)=q at*;(try(split))<;>omega)
def ayQ:Ctx:={fn:=aY [(34,φIn)],io:=aY []}
theorem apC:ak Tryz.prog ayQ:=okΓ (fC Tryz.func34 iy aj) aj
def xM:=ah (Γ:=ayQ) (f:=34) (φ:=φIn) rfl
theorem acu:Sound Tryz.prog 185 sJ:=by
 refine au mixed apC Tryz.func185 rfl 36 rfl [.tmp 4] rfl (by kernel_rfl) fun ps r hr=>?_;obtain⟨need,room,rfl,hpre,rfl⟩:=iB hr;refine⟨by simp,?_⟩;simp only[dIs,dUs,dSs,dz,dF,dx,dG,aR,dD,aU,aV,aS,aT];obtain⟨h1,h2⟩:=hpre;have ap1:φIn [.val (.int .i64 need),.val (.int .i64 0),.val (.int .i64 100000)]=some (.val (.bool true)):=(bK _ _ _).trans (by rw[av.2 h1]);have ap2:φIn [.val (.int .i64 room),.val (.int .i64 0),.val (.int .i64 100000)]=some (.val (.bool true)):=(bK _ _ _).trans (by rw[av.2 h2]);rw[ai2 h1.1 h2.1];by_cases hn:need=0
 ·subst hn
  have gbds_c34:=xM;exact wlkF
 ·rw[if_neg hn]
  by_cases hr:room=0
  ·subst hr
   have gbds_c34:=xM;((refine wlk6 ?_ ?_ ?_ ?_ ?_ ?_<;>intros<;>try with_reducible exact trivial)<;>(refine fnG ?_;try with_reducible exact trivial));all_goals simp
  ·obtain⟨c1,c2,c3,c4,c5⟩:=adz h1 (room:=room) ⟨by omega,by omega⟩
   by_cases hb:5*room<need
   ·rw[if_pos (.inr hb)]
    clear c1 c2 c3 c4 c5;have gbds_c34:=xM;exact wlkF
   ·rw[if_neg (by omega)]
    have hz:¬room*room*room=0:=by omega
    have w1:=dA (n:=100*need*need) (by omega) (by omega);have w2:=dA (n:=100*need*need*need) (by omega) (by omega);have w3:=dA (n:=room*room) (by omega) (by omega);have w4:=dA (n:=room*room*room) (by omega) (by omega);have c6:100*need*need*need/(room*room*room)≤100000000000000000:=by have:=Int.ediv_le_self (room*room*room) c2.1;omega
    have w5:=dA (n:=100*need*need*need/(room*room*room)) (by omega) (by omega);have gbds_c34:=xM;((refine wlk6 ?_ ?_ ?_ ?_ ?_ ?_<;>intros<;>try with_reducible exact trivial)<;>(refine fnG ?_;try with_reducible exact trivial));all_goals((refine congrArg (fun z=>some (PV.val (Value.int IntKind.i64 z))) ?_);generalize 100*need*need*need/(room*room*room)=q at*;(try(split))<;>omega)
def φLk:Fun:=F2 dB dI fun s bad=>open Classical in if 0≤bad∧bad≤10000 then some (iv (gH s bad))else none
theorem wJ {s:Bool} {bad:Int} (h:0≤bad∧bad≤10000):φLk [.val (.bool s),.val (.int .i64 bad)]=some (.val (.int .i64 (gH s bad))):=(jm (A:=dB) (B:=dI) s bad).trans (if_pos h)
def ayS:Ctx:={fn:=aY [(72,oL)],io:=aY []}
theorem aqS:ak Tryz.prog ayS:=okΓ (fC Tryz.func72 nX aj) aj
def anP:=ah (Γ:=ayS) (f:=72) (φ:=oL) rfl
theorem ahc:Sound Tryz.prog 216 φLk:=by
 refine au mixed aqS Tryz.func216 rfl 18 rfl [.tmp 4] rfl (by kernel_rfl) fun ps r hr=>?_;obtain⟨s,bad,rfl,hpre,rfl⟩:=iB hr;refine⟨by simp,?_⟩;simp only[dIs,dUs,dSs,dz,dF,dx,dG,aR,dD,aU,aV,aS,aT];have ap:oL [.val (.int .i64 bad)]=some (.val (.bool true)):=(mD bad).trans (by rw[av.2 hpre]);unfold gH;have glki_c72:=anP;cases s<;>
 ·((refine wlk6 ?_ ?_ ?_ ?_ ?_ ?_<;>intros<;>try with_reducible exact trivial)<;>(refine fnG ?_;try with_reducible exact trivial))
  all_goals((refine congrArg (fun z=>some (PV.val (Value.int IntKind.i64 z))) ?_);(repeat' split)<;>first|rfl|omega|(simp_all;done))
def ayN:Ctx:={fn:=aY [(34,φIn)],io:=aY []}
theorem aqy:ak Tryz.prog ayN:=okΓ (fC Tryz.func34 iy aj) aj
def apS:=ah (Γ:=ayN) (f:=34) (φ:=φIn) rfl
theorem aiI:Sound Tryz.prog 131 φLk:=by
 refine au mixed aqy Tryz.func131 rfl 14 rfl [.tmp 4] rfl (by kernel_rfl) fun ps r hr=>?_;obtain⟨s,bad,rfl,hpre,rfl⟩:=iB hr;refine⟨by simp,?_⟩;simp only[dIs,dUs,dSs,dz,dF,dx,dG,aR,dD,aU,aV,aS,aT];have ap:φIn [.val (.int .i64 bad),.val (.int .i64 0),.val (.int .i64 10000)]=some (.val (.bool true)):=(bK _ _ _).trans (by rw[av.2 hpre]);unfold gH;have glks_c34:=apS;cases s<;>
 ·((refine wlk6 ?_ ?_ ?_ ?_ ?_ ?_<;>intros<;>try with_reducible exact trivial)<;>(refine fnG ?_;try with_reducible exact trivial))
  all_goals((refine congrArg (fun z=>some (PV.val (Value.int IntKind.i64 z))) ?_);(repeat' split)<;>first|rfl|omega|(simp_all;done))
abbrev agB (c:Int):Prop:=(0≤c∧c≤10000)∨c=-10000
def φCo:Fun:=F2 dI dI fun bad c=>open Classical in if(0≤bad∧bad≤10000)∧agB c then some (iv (lT bad c))else none
theorem abp {bad c:Int} (h:0≤bad∧bad≤10000) (h2:agB c):φCo [.val (.int .i64 bad),.val (.int .i64 c)]=some (.val (.int .i64 (lT bad c))):=(jm (A:=dI) (B:=dI) bad c).trans (if_pos ⟨h,h2⟩)
theorem ac6 {bad:Int} (h:0≤bad∧bad≤10010):0≤bad*bad∧bad*bad≤100200100:=by have h3:0≤bad*bad:=Int.mul_nonneg (by omega) (by omega);have h4:bad*bad≤10010*10010:=Int.mul_le_mul (by omega) (by omega) (by omega) (by omega);omega
def axR:Ctx:={fn:=aY [(72,oL),(235,tu)],io:=aY []}
theorem arl:ak Tryz.prog axR:=okΓ (fC Tryz.func72 nX (fC Tryz.func235 aal aj)) aj
def anM:=ah (Γ:=axR) (f:=72) (φ:=oL) rfl
def amA:=ah (Γ:=axR) (f:=235) (φ:=tu) rfl
theorem agJ:Sound Tryz.prog 217 φCo:=by
 refine au mixed arl Tryz.func217 rfl 27 rfl [.tmp 4] rfl (by kernel_rfl) fun ps r hr=>?_;obtain⟨bad,c,rfl,hpre,rfl⟩:=iB hr;refine⟨by simp,?_⟩;simp only[dIs,dUs,dSs,dz,dF,dx,dG,aR,dD,aU,aV,aS,aT];obtain⟨h1,h2⟩:=hpre;have ap:oL [.val (.int .i64 bad)]=some (.val (.bool true)):=(mD bad).trans (by rw[av.2 h1]);have ap2:tu [.val (.int .i64 c)]=some (.val (.bool true)):=(aai c).trans (by
  have:wP c=true:=by
   unfold wP;rcases h2 with h2|h2
   ·rw[av.2 h2];rfl
   ·rw[decide_eq_true h2,Bool.or_true]
  rw[this])
 have s1:=ac6 (bad:=10+bad) ⟨by omega,by omega⟩;have w1:=dA (n:=(10+bad)*(10+bad)) (by omega) (by omega);unfold lT;have gcoi_c72:=anM;have gcoi_c235:=amA;by_cases hc:c=-10000
 ·subst hc
  rw[if_pos rfl];clear h2;((refine wlk6 ?_ ?_ ?_ ?_ ?_ ?_<;>intros<;>try with_reducible exact trivial)<;>(refine fnG ?_;try with_reducible exact trivial));all_goals((refine congrArg (fun z=>some (PV.val (Value.int IntKind.i64 z))) ?_);omega)
 ·have s2:=ac6 (bad:=c) ⟨by omega,by omega⟩
  have w2:=dA (n:=c*c) (by omega) (by omega);rw[if_neg hc];have w3:=dA (n:=(10+bad)*(10+bad)+c*c) (by omega) (by omega);clear h2;exact wlkF
def ayT:Ctx:={fn:=aY [(34,φIn)],io:=aY []}
theorem apW:ak Tryz.prog ayT:=okΓ (fC Tryz.func34 iy aj) aj
def apy:=ah (Γ:=ayT) (f:=34) (φ:=φIn) rfl
theorem ajl:Sound Tryz.prog 132 φCo:=by
 refine au mixed apW Tryz.func132 rfl 31 rfl [.tmp 4] rfl (by kernel_rfl) fun ps r hr=>?_;obtain⟨bad,c,rfl,hpre,rfl⟩:=iB hr;refine⟨by simp,?_⟩;simp only[dIs,dUs,dSs,dz,dF,dx,dG,aR,dD,aU,aV,aS,aT];obtain⟨h1,h2⟩:=hpre;have ap:φIn [.val (.int .i64 bad),.val (.int .i64 0),.val (.int .i64 10000)]=some (.val (.bool true)):=(bK _ _ _).trans (by rw[av.2 h1]);have s1:=ac6 (bad:=10+bad) ⟨by omega,by omega⟩;have w1:=dA (n:=(10+bad)*(10+bad)) (by omega) (by omega);unfold lT;have gcos_c34:=apy;by_cases hc:c=-10000
 ·have ap2:φIn [.val (.int .i64 c),.val (.int .i64 0),.val (.int .i64 10000)]=some (.val (.bool false)):=(bK _ _ _).trans (by rw[show inB c 0 10000=false from Bool.eq_false_iff.2 fun q=>by have:=av.1 q;omega])
  subst hc;rw[if_pos rfl];clear h2;((refine wlk6 ?_ ?_ ?_ ?_ ?_ ?_<;>intros<;>try with_reducible exact trivial)<;>(refine fnG ?_;try with_reducible exact trivial));all_goals((refine congrArg (fun z=>some (PV.val (Value.int IntKind.i64 z))) ?_);omega)
 ·have h3:0≤c∧c≤10000:=by omega
  have ap2:φIn [.val (.int .i64 c),.val (.int .i64 0),.val (.int .i64 10000)]=some (.val (.bool true)):=(bK _ _ _).trans (by rw[av.2 h3]);have s2:=ac6 (bad:=c) ⟨by omega,by omega⟩;have w2:=dA (n:=c*c) (by omega) (by omega);rw[if_neg hc];have w3:=dA (n:=(10+bad)*(10+bad)+c*c) (by omega) (by omega);clear h2;by_cases h0:c=0
  ·subst h0
   clear s2 w2 w3;((refine wlk6 ?_ ?_ ?_ ?_ ?_ ?_<;>intros<;>try with_reducible exact trivial)<;>(refine fnG ?_;try with_reducible exact trivial));all_goals((refine congrArg (fun z=>some (PV.val (Value.int IntKind.i64 z))) ?_);omega)
  ·exact wlkF
abbrev aon (l:List It) (n m:Int):Prop:=aW l=true∧-1≤n∧n<m∧m<l.length
section
variable {α β γ δ ε:Type} {A:Dec α} {B:Dec β} {C:Dec γ} {D:Dec δ} {E:Dec ε}
def F5 (A:Dec α) (B:Dec β) (C:Dec γ) (D:Dec δ) (E:Dec ε) (F:α→β→γ→δ→ε→Option PV):Fun:=fun ps=>match ps with
 |[p,q,r,s,t]=>(A.d p).bind fun a=>(B.d q).bind fun b=>(C.d r).bind fun c=>(D.d s).bind fun d=>(E.d t).bind fun e=>F a b c d e
 |_=>none
theorem agf {F:α→β→γ→δ→ε→Option PV} {ps:List PV} {r:PV} (h:F5 A B C D E F ps=some r):∃a b c d e,ps=[A.e a,B.e b,C.e c,D.e d,E.e e]∧F a b c d e=some r:=by
 unfold F5 at h;split at h
 ·simp only[Option.bind_eq_some_iff]at h
  obtain⟨a,h1,b,h2,c,h3,d,h4,e,h5,h6⟩:=h;exact⟨a,b,c,d,e,by rw[A.h _ _ h1,B.h _ _ h2,C.h _ _ h3,D.h _ _ h4,E.h _ _ h5],h6⟩
 ·cases h
theorem asZ {F:α→β→γ→δ→ε→Option PV} (a:α) (b:β) (c:γ) (d:δ) (e:ε):F5 A B C D E F [A.e a,B.e b,C.e c,D.e d,E.e e]=F a b c d e:=by simp[F5,A.h',B.h',C.h',D.h',E.h']
end
def φBd:Fun:=F4 mQ dI dI dI fun l n m wd=>open Classical in if aon l n m∧(0≤wd∧wd≤1000)∧aF l (n+1).toNat≤m.toNat then some (.tup [iv (iM l wd (n+1).toNat m.toNat).1,bv (iM l wd (n+1).toNat m.toNat).2])else none
theorem abJ {l:List It} {a en:Nat} {wd:Int} (h:aW l=true) (h2:a≤en) (h3:en<l.length) (h4:0≤wd∧wd≤1000) (h5:aF l a≤en):φBd [fV l,.val (.int .i64 ((a:Int)-1)),.val (.int .i64 en),.val (.int .i64 wd)]=some (.tup [.val (.int .i64 (iM l wd a en).1),.val (.bool (iM l wd a en).2)]):=
 (awt (A:=mQ) (B:=dI) (C:=dI) (D:=dI) l ((a:Int)-1) en wd).trans (by rw[show((a:Int)-1+1).toNat=a by omega,Int.toNat_natCast];exact if_pos ⟨⟨h,by omega,by omega,by omega⟩,h4,h5⟩)
def awZ:Ctx:={fn:=aY [(182,φSt),(184,ak8),(185,sJ)],io:=aY []}
theorem arn:ak Tryz.prog awZ:=okΓ (fC Tryz.func182 zn (fC Tryz.func184 aeI (fC Tryz.func185 acu aj))) aj
def qQ:=ah (Γ:=awZ) (f:=182) (φ:=φSt) rfl
def qV:=ah (Γ:=awZ) (f:=184) (φ:=ak8) rfl
def qW:=ah (Γ:=awZ) (f:=185) (φ:=sJ) rfl
theorem aga:Sound Tryz.prog 130 φBd:=by
 refine au mixed arn Tryz.func130 rfl 45 rfl [.tmp 8,.tmp 9] rfl (by kernel_rfl) fun ps r hr=>?_;obtain⟨l,n,m,wd,rfl,hpre,rfl⟩:=atD hr;refine⟨by simp,?_⟩;simp only[dIs,dUs,dSs,dz,dF,dx,dG,aR,dD,aU,aV,aS,aT];obtain⟨⟨hB,hn0,hn1,hn2⟩,hw,hst⟩:=hpre;obtain⟨a,rfl⟩:∃a:Nat,n=(a:Int)-1:=⟨(n+1).toNat,by omega⟩;obtain⟨en,rfl⟩:∃en:Nat,m=en:=⟨m.toNat,by omega⟩;show pq _ _ _ _ _ (bY [fV l,.val (.int .i64 ((a:Int)-1)),.val (.int .i64 en),.val (.int .i64 wd)]).tm _ _;rw[show((a:Int)-1+1).toNat=a by omega,Int.toNat_natCast]at hst⊢;have ap1:=aaU (a:=a) hB (by omega);have ap2:=alK hB hst (by omega);obtain⟨g1,g2⟩:=aaH (b:=aF l a) hB (show en<l.length by omega);obtain⟨⟨o1,o2,o3,o4⟩,t1,t2,t3⟩:=aiX g1 g2;have hE:iM l wd a en=atn (jq (kU l (aF l a) en)) wd:=rfl;rw[hE];have hl:=bH hB;clear hB g1 g2 hE;generalize aF l a=s9 at*;generalize jq (kU l s9 en)=t at*;obtain⟨tw,ts,th,tod⟩:=t;dsimp only at o1 o2 o3 o4 t1 t2 t3;have hG:atn (tw,ts,th,tod) wd=if tw≤wd then(if tod=1 then(0,true)else(aa3 (wd-tw) ts,true))else if tw-wd≤th then(aa3 (tw-wd) th,false)else(-1,false):=rfl;rw[hG];by_cases h1:tw≤wd
 ·have ap3:=om (need:=wd-tw) (room:=ts) ⟨⟨by omega,by omega⟩,by omega,by omega⟩
  rw[if_pos h1];by_cases h2:tod=1
  ·rw[if_pos h2]
   subst h2;have gl7b_c182:=qQ;have gl7b_c184:=qV;have gl7b_c185:=qW;exact wlkF
  ·rw[if_neg h2]
   generalize aa3 (wd-tw) ts=bd at*;have gl7b_c182:=qQ;have gl7b_c184:=qV;have gl7b_c185:=qW;exact wlkF
 ·rw[if_neg h1]
  by_cases h2:tw-wd≤th
  ·have ap3:=om (need:=tw-wd) (room:=th) ⟨⟨by omega,by omega⟩,by omega,by omega⟩
   rw[if_pos h2];generalize aa3 (tw-wd) th=bd at*;have gl7b_c182:=qQ;have gl7b_c184:=qV;have gl7b_c185:=qW;exact wlkF
  ·rw[if_neg h2]
   have gl7b_c182:=qQ;have gl7b_c184:=qV;have gl7b_c185:=qW;exact wlkF
def φBw:Fun:=F5 mQ dI dI dI dI fun l n m be lk=>open Classical in if aon l n m∧(0≤be∧be≤3)∧0≤lk∧lk≤3 then some (iv (iZ l (n+1).toNat m.toNat be lk))else none
theorem ahn {l:List It} {a en:Nat} {be lk:Int} (h:aW l=true) (h2:a≤en) (h3:en<l.length) (h4:0≤be∧be≤3) (h5:0≤lk∧lk≤3):φBw [fV l,.val (.int .i64 ((a:Int)-1)),.val (.int .i64 en),.val (.int .i64 be),.val (.int .i64 lk)]=some (.val (.int .i64 (iZ l a en be lk))):=
 (asZ (A:=mQ) (B:=dI) (C:=dI) (D:=dI) (E:=dI) l ((a:Int)-1) en be lk).trans (by rw[show((a:Int)-1+1).toNat=a by omega,Int.toNat_natCast];exact if_pos ⟨⟨h,by omega,by omega,by omega⟩,h4,h5⟩)
theorem agC:Sound Tryz.prog 133 φBw:=by
 refine au mixed bJ Tryz.func133 rfl 45 rfl [.tmp 10] rfl (by kernel_rfl) fun ps r hr=>?_;obtain⟨l,n,m,be,lk,rfl,hq⟩:=agf hr;clear hr;split at hq
 case isFalse=>cases hq
 case isTrue hpre=>
 cases hq;refine⟨by simp,?_⟩;simp only[dIs,dUs,dSs,dz,dF,dx,dG,aR,dD,aU,aV,aS,aT];obtain⟨⟨hB,hn0,hn1,hn2⟩,hbe,hlk⟩:=hpre;obtain⟨a,rfl⟩:∃a:Nat,n=(a:Int)-1:=⟨(n+1).toNat,by omega⟩;obtain⟨en,rfl⟩:∃en:Nat,m=en:=⟨m.toNat,by omega⟩;show pq _ _ _ _ _ (bY [fV l,.val (.int .i64 ((a:Int)-1)),.val (.int .i64 en),.val (.int .i64 be),.val (.int .i64 lk)]).tm _ _;rw[show((a:Int)-1+1).toNat=a by omega,Int.toNat_natCast];have hl:=bH hB;have hE:iZ l a en be lk=(if 0<a∧(l[a-1]?.getD it0).2.2.2.2.2.2=true∧(l[en]?.getD it0).2.2.2.2.2.2=true then 3000 else 0)+(if 0<a∧(1<be-lk∨be-lk< -1)then 3000 else 0):=rfl;rw[hE];have hti:0<a→((a:Int)-1).toNat=a-1:=fun h=>by omega
 clear hB hE;by_cases h0:0<a
 ·have hti:=hti h0
  generalize hx:l[a-1]?.getD it0=x at*;generalize hy:l[en]?.getD it0=y at*;obtain⟨x1,x2,x3,x4,x5,x6,x7⟩:=x;obtain⟨y1,y2,y3,y4,y5,y6,y7⟩:=y;dsimp only
  have hd:be-lk=-3∨be-lk=-2∨be-lk=-1∨be-lk=0∨be-lk=1∨be-lk=2∨be-lk=3:=by omega
  have hd2:(if lk-be>be-lk then lk-be else be-lk)>1↔(1<be-lk∨be-lk< -1):=by split<;>omega
  clear hd;cases x7<;>cases y7<;>by_cases hz:1<be-lk∨be-lk< -1<;>
  ·have hz2:=hz
   rw[←hd2]at hz2;clear hd2;((refine wlk6 ?_ ?_ ?_ ?_ ?_ ?_<;>intros<;>try with_reducible exact trivial)<;>(refine fnG ?_;try with_reducible exact trivial));all_goals(simp[h0];try omega)
 ·obtain rfl:a=0:=by omega
  generalize hy:l[en]?.getD it0=y at*;obtain⟨y1,y2,y3,y4,y5,y6,y7⟩:=y;clear hti;rw[if_neg (fun q=>h0 q.1),if_neg (fun q=>h0 q.1)];simp only[Int.natCast_zero,Int.zero_sub];((refine wlk6 ?_ ?_ ?_ ?_ ?_ ?_<;>intros<;>try with_reducible exact trivial)<;>(refine fnG ?_;try with_reducible exact trivial));all_goals simp
def φLi:Fun:=F3 mQ dI dI fun l n m=>open Classical in if aon l n m then some (.tup [.lst true 1 ((if eG l (n+1).toNat m.toNat=true then mK l (aF l (n+1).toNat) m.toNat else []).map fun n=> .val (.int .i64 n)),bv (eG l (n+1).toNat m.toNat)])else none
theorem ajp {l:List It} {a en:Nat} (h:aW l=true) (h2:a≤en) (h3:en<l.length):φLi [fV l,.val (.int .i64 ((a:Int)-1)),.val (.int .i64 en)]=some (.tup [.lst true 1 ((if eG l a en=true then mK l (aF l a) en else []).map fun n=> .val (.int .i64 n)),.val (.bool (eG l a en))]):=
 (xD (A:=mQ) (B:=dI) (C:=dI) l ((a:Int)-1) en).trans ((if_pos ⟨h,by omega,by omega,by omega⟩).trans (by rw[show((a:Int)-1+1).toNat=a by omega,Int.toNat_natCast]))
theorem iE {b:Bool}:(PV.tup [.val (.slice none 0 0),.val (.bool b)]).le (.tup [.lst true 1 [],.val (.bool b)]):=oM ⟨nil_le _ _,PV.le_refl _,trivial⟩
def GLi:Ctx:={fn:=aY [(175,yQ),(177,φMb),(178,φSt),(179,φFc)],io:=aY []}
theorem atH:ak Tryz.prog GLi:=okΓ (fC Tryz.func175 vU (fC Tryz.func177 aiA (fC Tryz.func178 ahG (fC Tryz.func179 aaB aj)))) aj
def oZ:=ah (Γ:=GLi) (f:=175) (φ:=yQ) rfl
def oW:=ah (Γ:=GLi) (f:=177) (φ:=φMb) rfl
def qh:=ah (Γ:=GLi) (f:=178) (φ:=φSt) rfl
def qg:=ah (Γ:=GLi) (f:=179) (φ:=φFc) rfl
theorem aad:Sound Tryz.prog 124 φLi:=by
 refine gM mixed atH Tryz.func124 rfl 73 rfl [.tmp 6,.tmp 7] rfl (by kernel_rfl) fun ps r hr=>?_;obtain⟨l,n,m,rfl,hpre,rfl⟩:=vv hr;refine⟨by simp,?_⟩;simp only[dIs,dUs,dSs,dz,dF,dx,dG,aR,dD,aU,aV,aS,aT];obtain⟨hB,hn0,hn1,hn2⟩:=hpre;obtain⟨a,rfl⟩:∃a:Nat,n=(a:Int)-1:=⟨(n+1).toNat,by omega⟩;obtain⟨en,rfl⟩:∃en:Nat,m=en:=⟨m.toNat,by omega⟩;have hl:=bH hB;have hae:a≤en:=by omega
 have hel:en<l.length:=by omega
 show pq _ _ _ _ _ (bY [fV l,.val (.int .i64 ((a:Int)-1)),.val (.int .i64 en)]).tm _ _;rw[show((a:Int)-1+1).toNat=a by omega,Int.toNat_natCast];have ap1:=wV (l:=l) (by omega);rw[hB]at ap1;have ap2:=ag0 (n:=en) hB ⟨by omega,by omega⟩;rw[decide_eq_true (show(0:Int)≤en∧(en:Int)<l.length by omega),Bool.true_and,Int.toNat_natCast]at ap2;have ap3:=aaU (a:=a) hB (by omega);have hE:eG l a en=(nH l en&&((decide (a=0)||nH l (a-1))&&(decide (aF l a≤en)&&qJ l a en))):=by unfold eG;rw[decide_eq_true ⟨hae,hel⟩,Bool.true_and]
 have ap4:0<a→φMb [fV l,.val (.int .i64 ((a:Int)-1))]=some (.val (.bool (nH l (a-1)))):=fun h=>by have:=ag0 (n:=(a:Int)-1) hB ⟨by omega,by omega⟩;rw[decide_eq_true (show(0:Int)≤(a:Int)-1∧(a:Int)-1<l.length by omega),Bool.true_and,show((a:Int)-1).toNat=a-1 by omega]at this;exact this
 have apf:=@ahR;have hsr:=(@wm l a).1;rw[hE];clear hE hn0 hn1 hn2 hB;by_cases hc:nH l en=true∧(a=0∨nH l (a-1)=true)∧aF l a≤en
 ·obtain⟨c1,c2,c3⟩:=hc
  rw[c1]at ap2;have hE:(nH l en&&((decide (a=0)||nH l (a-1))&&(decide (aF l a≤en)&&qJ l a en)))=qJ l a en:=by
   rw[c1,decide_eq_true c3];rcases c2 with c2|c2
   ·rw[decide_eq_true c2];simp
   ·rw[c2];simp
  rw[hE];rcases Nat.eq_zero_or_pos a with h9|h9
  ·subst h9
   replace ap4:True:=trivial;simp only[Int.natCast_zero,Int.zero_sub]at ap3⊢;clear hE c1 c2;have hq:=fun k=>uT (l:=l) (a:=0) (b:=k);have hno:=fun k h1 h2 h3=>aco (l:=l) (a:=0) (b:=en) (k:=k) h1 h2 h3;have hz0:qJ l 0 0=true:=yS (Nat.le_refl _);have hiy:=fun k=>@oJ l (aF l 0) k;have hin:=fun k=>@xH l (aF l 0) k;have hi0:mK l (aF l 0) (aF l 0)=[]:=rF (Nat.le_refl _);have hil:=nN l (aF l 0);generalize aF l 0=s9 at*;have gli_c175:=oZ;have gli_c177:=oW;have gli_c178:=qh;have gli_c179:=qg;(refine wlk ?_;intros);refine aG (α:=Nat) mixed (fun k=>[(0,fV l),(1,iv (-1)),(2,iv en),(8,iv k)]) (fun _=>[]) (fun _=>0)
    (fun k=>(0≤k∧k≤en)∧qJ l 0 k=true) (fun k=>en-k) (by kernel_rfl) 0 ⟨⟨Nat.le_refl _,hae⟩,hz0⟩ ?_ ?_ rfl ?_
   ·exact agi
   ·exact agr
   rintro k ⟨⟨hk1,hk2⟩,hI⟩;clear hz0;by_cases h0:k<en
   ·have hfr:forced (gI l k)=forced (l[k]?.getD it0):=rfl
    have hs:=hq k hk1;rw[hI,Bool.true_and,hfr]at hs;have hno:=fun h=>hno k h hk1 h0;clear hfr hq hI hiy hin hi0 hil ap4 ap3 ap2;generalize hx:l[k]?.getD it0=x at*;obtain⟨kd,w9,c,d,e,cost,g⟩:=x;cases hf:forced (kd,w9,c,d,e,cost,g)with
    |true=>
     rw[hf]at hs;rw[hno hs];clear hs hno;(refine wlk ?_;intros);all_goals((with_reducible apply dw (by first|exact .inl rfl|exact .inr rfl));(simp(disch:=(first|omega|(simp only[push_cast];first|done|omega))) only[push_cast,↓reduceIte,Nat.reduceEqDiff,Nat.reduceBEq,Nat.reduceAdd,Nat.reduceSub,Int.reduceToNat, *]<;>with_reducible exact rfl))
     all_goals exact iE
    |false=>
     rw[hf]at hs;replace hs:=Lib.hid hs;clear hno;(refine wlk ?_;intros);refine⟨k+1,⟨⟨by omega,by omega⟩,hs.out⟩,by dsimp only;omega,?_,?_,rfl⟩
     ·exact agr
     ·exact agr
   ·obtain rfl:k=en:=by omega
    rw[hI,if_pos rfl];clear hI hq hno ap4;(refine wlk ?_;intros);refine aG (α:=Nat×LI×Nat×Nat) mixed (fun z=>[(0,fV l),(2,iv k),(9,nP 1 (z.2.1.map pvN) z.2.2.1),(10,iv z.1)])
     (fun z=>nO 3 1 (z.2.1.map pvN) z.2.2.1) (fun z=>z.2.2.2)
     (fun z=>(s9≤z.1∧z.1≤k)∧z.2.1=mK l s9 z.1∧(0<z.2.1.length→z.2.2.1<z.2.2.2)) (fun z=>k-z.1) (by kernel_rfl) (s9,[],0,0) ⟨⟨Nat.le_refl _,c3⟩,hi0.symm,by simp⟩ ?_ ?_ rfl ?_
    ·exact agr
    ·exact agr
    rintro⟨j,out,x,y⟩ ⟨⟨hj1,hj2⟩,hI,hxy⟩;dsimp only at hj1 hj2 hI hxy;have hol:out.length≤60:=by rw[hI];have:=hil j;omega
    clear hil hi0 ap3 ap2;by_cases h1:j<k
    ·have hiy:=hiy j hj1
     have hin:=hin j hj1;have hkx:(gI l j).kd=(l[j]?.getD it0).1:=rfl;rw[hkx]at hiy hin;clear hkx;generalize hx:l[j]?.getD it0=z9 at*;obtain⟨kd,w9,c,d,e,cost,g⟩:=z9;dsimp only at hiy hin;by_cases h3:kd=3
     ·have hI2:out=mK l s9 (j+1):=by rw[hin h3,←hI]
      replace hI2:=Lib.hid hI2;clear hI hiy hin;(refine wlk ?_;intros);refine⟨(j+1,out,x,y),⟨⟨by dsimp only;omega,by dsimp only;omega⟩,hI2.out,hxy⟩,by dsimp only;omega,?_,oK,rfl⟩
      ·exact agr
     ·have hI2:out++[(j:Int)]=mK l s9 (j+1):=by rw[hiy h3,←hI]
      replace hI2:=Lib.hid hI2;clear hI hiy hin;by_cases hz:out.length=0
      ·obtain rfl:out=[]:=List.eq_nil_of_length_eq_zero hz
       (refine wlk ?_;intros);refine⟨(j+1,[]++[(j:Int)],y+1,y+2),⟨⟨by dsimp only;omega,by dsimp only;omega⟩,hI2.out,fun _=>by dsimp only;omega⟩,by dsimp only;omega,?_,?_,rfl⟩
       ·exact agr
       ·exact agr
      ·have hxy:=hxy (by omega)
       have hap:0<(out.map pvN).length:=by rw[List.length_map];omega
       clear hz;have hap3:0<((out++[(j:Int)]).map pvN).length:=by simp
       simp only[aA hap,aB hap,List.length_map];(refine wlk ?_;intros);refine⟨(j+1,out++[(j:Int)],y+1,y+2),⟨⟨by dsimp only;omega,by dsimp only;omega⟩,hI2.out,fun _=>by dsimp only;omega⟩,by dsimp only;omega,?_,?_,rfl⟩
       ·simp(disch:=(first|omega|(simp only[push_cast];first|done|omega))) only[push_cast,↓reduceIte,Nat.reduceEqDiff,Nat.reduceBEq,Nat.reduceAdd,Nat.reduceSub,Int.reduceToNat,aA hap3,List.length_append, *]
       ·simp(disch:=(first|omega|(simp only[push_cast];first|done|omega))) only[push_cast,↓reduceIte,Nat.reduceEqDiff,Nat.reduceBEq,Nat.reduceAdd,Nat.reduceSub,Int.reduceToNat,aB hap3, *]
    ·obtain rfl:j=k:=by omega
     rw[←hI];clear hI hiy hin;by_cases hz:out.length=0
     ·obtain rfl:out=[]:=List.eq_nil_of_length_eq_zero hz
      (refine wlk ?_;intros);all_goals((with_reducible apply dw (by first|exact .inl rfl|exact .inr rfl));(simp(disch:=(first|omega|(simp only[push_cast];first|done|omega))) only[push_cast,↓reduceIte,Nat.reduceEqDiff,Nat.reduceBEq,Nat.reduceAdd,Nat.reduceSub,Int.reduceToNat, *]<;>with_reducible exact rfl))
      all_goals exact iE
     ·have hxy:=hxy (by omega)
      have hap:0<(out.map pvN).length:=by rw[List.length_map];omega
      clear hz;simp only[aA hap,aB hap,List.length_map];(refine wlk ?_;intros);all_goals((with_reducible apply dw (by first|exact .inl rfl|exact .inr rfl));(simp(disch:=(first|omega|(simp only[push_cast];first|done|omega))) only[push_cast,↓reduceIte,Nat.reduceEqDiff,Nat.reduceBEq,Nat.reduceAdd,Nat.reduceSub,Int.reduceToNat, *]<;>with_reducible exact rfl))
      all_goals exact PV.le_refl _
  ·replace ap4:φMb [fV l,.val (.int .i64 ((a:Int)-1))]=some (.val (.bool true)):=by
    have:=ap4 h9;rcases c2 with c2|c2
    ·omega
    ·rwa[c2]at this
   clear hE c1 c2;have hq:=fun k=>uT (l:=l) (a:=a) (b:=k);have hno:=fun k h1 h2 h3=>aco (l:=l) (a:=a) (b:=en) (k:=k) h1 h2 h3;have hz0:qJ l a a=true:=yS (Nat.le_refl _);have hiy:=fun k=>@oJ l (aF l a) k;have hin:=fun k=>@xH l (aF l a) k;have hi0:mK l (aF l a) (aF l a)=[]:=rF (Nat.le_refl _);have hil:=nN l (aF l a);generalize aF l a=s9 at*;have gli_c175:=oZ;have gli_c177:=oW;have gli_c178:=qh;have gli_c179:=qg;(refine wlk ?_;intros);refine aG (α:=Nat) mixed (fun k=>[(0,fV l),(1,iv ((a:Int)-1)),(2,iv en),(8,iv k)]) (fun _=>[]) (fun _=>0)
    (fun k=>(a≤k∧k≤en)∧qJ l a k=true) (fun k=>en-k) (by kernel_rfl) a ⟨⟨Nat.le_refl _,hae⟩,hz0⟩ ?_ ?_ rfl ?_
   ·exact agi
   ·exact agr
   rintro k ⟨⟨hk1,hk2⟩,hI⟩;clear hz0;by_cases h0:k<en
   ·have hfr:forced (gI l k)=forced (l[k]?.getD it0):=rfl
    have hs:=hq k hk1;rw[hI,Bool.true_and,hfr]at hs;have hno:=fun h=>hno k h hk1 h0;clear hfr hq hI hiy hin hi0 hil ap4 ap3 ap2;generalize hx:l[k]?.getD it0=x at*;obtain⟨kd,w9,c,d,e,cost,g⟩:=x;cases hf:forced (kd,w9,c,d,e,cost,g)with
    |true=>
     rw[hf]at hs;rw[hno hs];clear hs hno;(refine wlk ?_;intros);all_goals((with_reducible apply dw (by first|exact .inl rfl|exact .inr rfl));(simp(disch:=(first|omega|(simp only[push_cast];first|done|omega))) only[push_cast,↓reduceIte,Nat.reduceEqDiff,Nat.reduceBEq,Nat.reduceAdd,Nat.reduceSub,Int.reduceToNat, *]<;>with_reducible exact rfl))
     all_goals exact iE
    |false=>
     rw[hf]at hs;replace hs:=Lib.hid hs;clear hno;(refine wlk ?_;intros);refine⟨k+1,⟨⟨by omega,by omega⟩,hs.out⟩,by dsimp only;omega,?_,?_,rfl⟩
     ·exact agr
     ·exact agr
   ·obtain rfl:k=en:=by omega
    rw[hI,if_pos rfl];clear hI hq hno ap4;(refine wlk ?_;intros);refine aG (α:=Nat×LI×Nat×Nat) mixed (fun z=>[(0,fV l),(2,iv k),(9,nP 1 (z.2.1.map pvN) z.2.2.1),(10,iv z.1)])
     (fun z=>nO 3 1 (z.2.1.map pvN) z.2.2.1) (fun z=>z.2.2.2)
     (fun z=>(s9≤z.1∧z.1≤k)∧z.2.1=mK l s9 z.1∧(0<z.2.1.length→z.2.2.1<z.2.2.2)) (fun z=>k-z.1) (by kernel_rfl) (s9,[],0,0) ⟨⟨Nat.le_refl _,c3⟩,hi0.symm,by simp⟩ ?_ ?_ rfl ?_
    ·exact agr
    ·exact agr
    rintro⟨j,out,x,y⟩ ⟨⟨hj1,hj2⟩,hI,hxy⟩;dsimp only at hj1 hj2 hI hxy;have hol:out.length≤60:=by rw[hI];have:=hil j;omega
    clear hil hi0 ap3 ap2;by_cases h1:j<k
    ·have hiy:=hiy j hj1
     have hin:=hin j hj1;have hkx:(gI l j).kd=(l[j]?.getD it0).1:=rfl;rw[hkx]at hiy hin;clear hkx;generalize hx:l[j]?.getD it0=z9 at*;obtain⟨kd,w9,c,d,e,cost,g⟩:=z9;dsimp only at hiy hin;by_cases h3:kd=3
     ·have hI2:out=mK l s9 (j+1):=by rw[hin h3,←hI]
      replace hI2:=Lib.hid hI2;clear hI hiy hin;(refine wlk ?_;intros);refine⟨(j+1,out,x,y),⟨⟨by dsimp only;omega,by dsimp only;omega⟩,hI2.out,hxy⟩,by dsimp only;omega,?_,oK,rfl⟩
      ·exact agr
     ·have hI2:out++[(j:Int)]=mK l s9 (j+1):=by rw[hiy h3,←hI]
      replace hI2:=Lib.hid hI2;clear hI hiy hin;by_cases hz:out.length=0
      ·obtain rfl:out=[]:=List.eq_nil_of_length_eq_zero hz
       (refine wlk ?_;intros);refine⟨(j+1,[]++[(j:Int)],y+1,y+2),⟨⟨by dsimp only;omega,by dsimp only;omega⟩,hI2.out,fun _=>by dsimp only;omega⟩,by dsimp only;omega,?_,?_,rfl⟩
       ·exact agr
       ·exact agr
      ·have hxy:=hxy (by omega)
       have hap:0<(out.map pvN).length:=by rw[List.length_map];omega
       clear hz;have hap3:0<((out++[(j:Int)]).map pvN).length:=by simp
       simp only[aA hap,aB hap,List.length_map];(refine wlk ?_;intros);refine⟨(j+1,out++[(j:Int)],y+1,y+2),⟨⟨by dsimp only;omega,by dsimp only;omega⟩,hI2.out,fun _=>by dsimp only;omega⟩,by dsimp only;omega,?_,?_,rfl⟩
       ·simp(disch:=(first|omega|(simp only[push_cast];first|done|omega))) only[push_cast,↓reduceIte,Nat.reduceEqDiff,Nat.reduceBEq,Nat.reduceAdd,Nat.reduceSub,Int.reduceToNat,aA hap3,List.length_append, *]
       ·simp(disch:=(first|omega|(simp only[push_cast];first|done|omega))) only[push_cast,↓reduceIte,Nat.reduceEqDiff,Nat.reduceBEq,Nat.reduceAdd,Nat.reduceSub,Int.reduceToNat,aB hap3, *]
    ·obtain rfl:j=k:=by omega
     rw[←hI];clear hI hiy hin;by_cases hz:out.length=0
     ·obtain rfl:out=[]:=List.eq_nil_of_length_eq_zero hz
      (refine wlk ?_;intros);all_goals((with_reducible apply dw (by first|exact .inl rfl|exact .inr rfl));(simp(disch:=(first|omega|(simp only[push_cast];first|done|omega))) only[push_cast,↓reduceIte,Nat.reduceEqDiff,Nat.reduceBEq,Nat.reduceAdd,Nat.reduceSub,Int.reduceToNat, *]<;>with_reducible exact rfl))
      all_goals exact iE
     ·have hxy:=hxy (by omega)
      have hap:0<(out.map pvN).length:=by rw[List.length_map];omega
      clear hz;simp only[aA hap,aB hap,List.length_map];(refine wlk ?_;intros);all_goals((with_reducible apply dw (by first|exact .inl rfl|exact .inr rfl));(simp(disch:=(first|omega|(simp only[push_cast];first|done|omega))) only[push_cast,↓reduceIte,Nat.reduceEqDiff,Nat.reduceBEq,Nat.reduceAdd,Nat.reduceSub,Int.reduceToNat, *]<;>with_reducible exact rfl))
      all_goals exact PV.le_refl _
 ·have hE:(nH l en&&((decide (a=0)||nH l (a-1))&&(decide (aF l a≤en)&&qJ l a en)))=false:=by rw[Bool.eq_false_iff];intro q;simp only[Bool.and_eq_true,Bool.or_eq_true,decide_eq_true_eq]at q;exact hc ⟨q.1,q.2.1,q.2.2.1⟩
  rw[hE,if_neg (by decide)];clear hE;generalize aF l a=s9 at*;generalize nH l en=q1 at*;generalize nH l (a-1)=q2 at*;have hq1:q1=false∨(q1=true∧(s9≤en→0<a∧q2=false)):=by
   cases q1 with
   |false=>exact .inl rfl
   |true=>
    refine .inr ⟨rfl,fun hs=>?_⟩;rcases Nat.eq_zero_or_pos a with h|h
    ·exact absurd ⟨rfl,.inl h,hs⟩ hc
    ·refine⟨h,?_⟩
     cases q2 with
     |false=>rfl
     |true=>exact absurd ⟨rfl,.inr rfl,hs⟩ hc
  clear hc;rcases Nat.eq_zero_or_pos a with h9|h9
  ·subst h9
   clear ap4;simp only[Int.natCast_zero,Int.zero_sub]at ap3⊢;have hq2:q1=false∨(q1=true∧¬s9≤en):=hq1.imp id fun h=>⟨h.1,fun hs=>absurd (h.2 hs).1 (by omega)⟩;clear hq1;rcases hq2 with rfl|⟨rfl,hs⟩<;>
   ·have gli_c175:=oZ;have gli_c177:=oW;have gli_c178:=qh;have gli_c179:=qg
    (refine wlk ?_;intros);all_goals((with_reducible apply dw (by first|exact .inl rfl|exact .inr rfl));(simp(disch:=(first|omega|(simp only[push_cast];first|done|omega))) only[push_cast,↓reduceIte,Nat.reduceEqDiff,Nat.reduceBEq,Nat.reduceAdd,Nat.reduceSub,Int.reduceToNat, *]<;>with_reducible exact rfl))
    all_goals exact iE
  ·have ap4:=ap4 h9
   rcases hq1 with rfl|⟨rfl,hs⟩
   ·cases q2<;>
    ·have gli_c175:=oZ;have gli_c177:=oW;have gli_c178:=qh;have gli_c179:=qg
     (refine wlk ?_;intros);all_goals((with_reducible apply dw (by first|exact .inl rfl|exact .inr rfl));(simp(disch:=(first|omega|(simp only[push_cast];first|done|omega))) only[push_cast,↓reduceIte,Nat.reduceEqDiff,Nat.reduceBEq,Nat.reduceAdd,Nat.reduceSub,Int.reduceToNat, *]<;>with_reducible exact rfl))
     all_goals exact iE
   ·by_cases h8:s9≤en
    ·obtain⟨-,rfl⟩:=hs h8
     clear hs;have gli_c175:=oZ;have gli_c177:=oW;have gli_c178:=qh;have gli_c179:=qg;(refine wlk ?_;intros);all_goals((with_reducible apply dw (by first|exact .inl rfl|exact .inr rfl));(simp(disch:=(first|omega|(simp only[push_cast];first|done|omega))) only[push_cast,↓reduceIte,Nat.reduceEqDiff,Nat.reduceBEq,Nat.reduceAdd,Nat.reduceSub,Int.reduceToNat, *]<;>with_reducible exact rfl))
     all_goals exact iE
    ·clear hs
     cases q2<;>
     ·have gli_c175:=oZ;have gli_c177:=oW;have gli_c178:=qh;have gli_c179:=qg
      (refine wlk ?_;intros);all_goals((with_reducible apply dw (by first|exact .inl rfl|exact .inr rfl));(simp(disch:=(first|omega|(simp only[push_cast];first|done|omega))) only[push_cast,↓reduceIte,Nat.reduceEqDiff,Nat.reduceBEq,Nat.reduceAdd,Nat.reduceSub,Int.reduceToNat, *]<;>with_reducible exact rfl))
      all_goals exact iE
section
def aaQ {α:Type} (f:Nat→Nat→α) (i:Nat):List α:=(List.range 4).map (f i)
def tab {α:Type} (n:Nat) (f:Nat→Nat→α):List (List α):=(List.range (n+1)).map (aaQ f)
def vM {α:Type} (f:Nat→Nat→α) (i k:Nat) (v:α):Nat→Nat→α:=fun i' k'=>if i'=i∧k'=k then v else f i' k'
abbrev awX (b:Bool):PV:=.val (.bool b)
abbrev aaM (r:List Int):PV:=.agg (r.map pvN)
abbrev aj4 (r:List Bool):PV:=.agg (r.map awX)
theorem wY {α:Type} (f:Nat→Nat→α) (i:Nat):(aaQ f i).length=4:=by simp[aaQ]
theorem xg {α:Type} (n:Nat) (f:Nat→Nat→α):(tab n f).length=n+1:=by simp[tab]
theorem ajV {α β:Type} {f:Nat→Nat→α} {g:α→β} {i k:Nat} (h:k<4):Option.map g (aaQ f i)[k]?=some (g (f i k)):=by unfold aaQ;rw[List.getElem?_map,List.getElem?_range h];rfl
theorem ar6 {α β:Type} {f:Nat→Nat→α} {g:List α→β} {n i:Nat} (h:i≤n):Option.map g (tab n f)[i]?=some (g (aaQ f i)):=by unfold tab;rw[List.getElem?_map,List.getElem?_range (by omega)];rfl
theorem alF {α:Type} {f:Nat→Nat→α} {i k:Nat} {v:α}:aaQ (vM f i k v) i=(aaQ f i).set k v:=by rcases k with _|_|_|_|k<;>simp[aaQ,vM,List.range_succ]
theorem aq1 {α:Type} {f:Nat→Nat→α} {i j k:Nat} {v:α} (h:¬j=i):aaQ (vM f i k v) j=aaQ f j:=by unfold aaQ vM;refine List.map_congr_left fun x _=>?_;rw[if_neg fun q=>h q.1]
theorem ajm {α:Type} {n i k:Nat} {f:Nat→Nat→α} {v:α}:(tab n f).set i ((aaQ f i).set k v)=tab n (vM f i k v):=by
 apply List.ext_getElem?;intro j;rw[List.getElem?_set,xg];by_cases hj:j<n+1
 ·by_cases h:i=j
  ·subst h
   rw[if_pos rfl,if_pos hj];unfold tab;rw[List.getElem?_map,List.getElem?_range hj,Option.map_some,alF]
  ·rw[if_neg h]
   unfold tab;rw[List.getElem?_map,List.getElem?_map,List.getElem?_range hj,Option.map_some,Option.map_some,aq1 (fun q=>h q.symm)]
 ·rw[List.getElem?_eq_none (by rw[xg];omega),List.getElem?_eq_none (by rw[xg];omega)]
  split<;>(try split)<;>first|rfl|omega
theorem acO {α:Type} {g:α→PV} {l:List α} {k:Nat} {v:α} (h:k<l.length):gF (l.map g) k [g v]=(l.set k v).map g:=by unfold gF;rw[List.map_set,List.set_eq_take_append_cons_drop,List.length_map,if_pos h];simp
theorem akV {n i k:Nat} {f:Nat→Nat→Int} {v:Int} (h:k<4):((tab n f).map aaM).set i (.agg (gF ((aaQ f i).map pvN) k [.val (.int .i64 v)]))=(tab n (vM f i k v)).map aaM:=by rw[←ajm,List.map_set,acO (g:=pvN) (v:=v) (by rw[wY];exact h)]
theorem ajX {n i k:Nat} {f:Nat→Nat→Bool} {v:Bool} (h:k<4):((tab n f).map aj4).set i (.agg (gF ((aaQ f i).map awX) k [.val (.bool v)]))=(tab n (vM f i k v)).map aj4:=by rw[←ajm,List.map_set,acO (g:=awX) (v:=v) (by rw[wY];exact h)]
theorem iL {α:Type} {n:Nat} {f f':Nat→Nat→α} (h:∀i k,i≤n→k<4→f i k=f' i k):tab n f=tab n f':=by unfold tab aaQ;refine List.map_congr_left fun i hi=>List.map_congr_left fun k hk=>?_;have h1:=List.mem_range.1 hi;exact h i k (by omega) (List.mem_range.1 hk)
theorem as7 {n:Nat}:List.replicate (n+1) (PV.agg [.val (.int .i64 0),.val (.int .i64 0),.val (.int .i64 0),.val (.int .i64 0)])=(tab n (fun _ _=>(0:Int))).map aaM:=by unfold tab;rw[List.map_map];symm;rw[List.eq_replicate_iff];exact⟨by rw[List.length_map,List.length_range],fun b hb=>by obtain⟨x,-,rfl⟩:=List.mem_map.1 hb;rfl⟩
theorem at5 {n:Nat}:List.replicate (n+1) (PV.agg [.val (.bool false),.val (.bool false),.val (.bool false),.val (.bool false)])=(tab n (fun _ _=>false)).map aj4:=by unfold tab;rw[List.map_map];symm;rw[List.eq_replicate_iff];exact⟨by rw[List.length_map,List.length_range],fun b hb=>by obtain⟨x,-,rfl⟩:=List.mem_map.1 hb;rfl⟩
theorem auI {l:List Int}:(l.map pvN).all oI=true:=by simp[List.all_map,oI,Value.oneCell']
theorem atV {l:List Bool}:(l.map awX).all oI=true:=by simp[List.all_map,oI,Value.oneCell']
attribute[push_cast]
 auI atV wY xg ajV ar6 akV ajX as7 at5
def tbA (l:List It) (wd most:Int) (m:Nat):Nat→Nat→Option Ch:=fun i k=>if m≤i then aJ l wd most i k else none
def tbJ (l:List It) (wd most:Int) (a j:Nat):Nat→Nat→Option Ch:=fun i k=>if i=a then bC l wd most a k (aJ l wd most) j else tbA l wd most (a+1) i k
def tbK (l:List It) (wd most:Int) (a j b:Nat):Nat→Nat→Option Ch:=fun i k=>if i=a then bC l wd most a k (aJ l wd most) (if k<b then j+1 else j)else tbA l wd most (a+1) i k
def cB (x:Option Ch):Int:=match x with|some c=>c.1|none=>0
def cN (x:Option Ch):Int:=match x with|some c=>(c.2.1:Int)|none=>0
def tB (f:Nat→Nat→Option Ch):Nat→Nat→Int:=fun i k=>cB (f i k)
def tG (f:Nat→Nat→Option Ch):Nat→Nat→Bool:=fun i k=>(f i k).isSome
def tN (f:Nat→Nat→Option Ch):Nat→Nat→Int:=fun i k=>cN (f i k)
theorem bL {n:Nat} {f f':Nat→Nat→Option Ch} (h:∀i k,i≤n→k<4→f i k=f' i k):tab n (tB f)=tab n (tB f')∧tab n (tG f)=tab n (tG f')∧tab n (tN f)=tab n (tN f'):=
 ⟨iL fun i k h1 h2=>by unfold tB;rw[h i k h1 h2],iL fun i k h1 h2=>by unfold tG;rw[h i k h1 h2],iL fun i k h1 h2=>by unfold tN;rw[h i k h1 h2]⟩
variable {l:List It} {wd most:Int}
theorem acL:∀i k,i≤l.length→k<4→tbA l wd most l.length i k=if i=l.length then some (0,0,0)else none:=fun i k h _=>by
 unfold tbA;by_cases hi:i=l.length
 ·rw[if_pos (by omega),if_pos hi,hi,nR]
 ·rw[if_neg (by omega),if_neg hi]
theorem alQ {a:Nat} (ha:a<l.length) (h0:0<a) (h:nH l (a-1)=false):∀i k,i≤l.length→k<4→tbA l wd most (a+1) i k=tbA l wd most a i k:=fun i k hi _=>by
 unfold tbA;by_cases h1:a+1≤i
 ·rw[if_pos h1,if_pos (by omega)]
 ·rw[if_neg h1]
  by_cases h2:a≤i
  ·obtain rfl:i=a:=by omega
   rw[if_pos h2,wM ha h0 h]
  ·rw[if_neg h2]
theorem ads {a:Nat}:∀i k,i≤l.length→k<4→tbA l wd most (a+1) i k=tbJ l wd most a 0 i k:=fun i k hi _=>by
 unfold tbJ;split
 ·rename_i h
  subst h;unfold tbA;rw[if_neg (by omega)];rfl
 ·rfl
theorem agO {a:Nat} (ha:a<l.length):∀i k,i≤l.length→k<4→tbJ l wd most a (l.length-a) i k=tbA l wd most a i k:=fun i k hi _=>by
 unfold tbJ tbA;split
 ·rename_i h
  subst h;rw[if_pos (Nat.le_refl _),mh ha]
 ·by_cases h1:a+1≤i
  ·rw[if_pos h1,if_pos (by omega)]
  ·rw[if_neg h1,if_neg (by omega)]
theorem acZ {a j:Nat} (h:∀k:Int,bC l wd most a k (aJ l wd most) (j+1)=bC l wd most a k (aJ l wd most) j):∀i k,i≤l.length→k<4→tbJ l wd most a j i k=tbJ l wd most a (j+1) i k:=fun i k hi _=>by
 unfold tbJ;split
 ·rw[h]
 ·rfl
theorem adf {a j:Nat}:∀i k,i≤l.length→k<4→tbJ l wd most a j i k=tbK l wd most a j 0 i k:=fun i k hi _=>by
 unfold tbJ tbK;split
 ·rw[if_neg (by omega)]
 ·rfl
theorem aiS {a j:Nat}:∀i k,i≤l.length→k<4→tbK l wd most a j 4 i k=tbJ l wd most a (j+1) i k:=fun i k hi hk=>by
 unfold tbJ tbK;split
 ·first|rfl|rw[if_pos hk]
 ·rfl
theorem rC {a j b:Nat} {x:Option Ch} (hx:bC l wd most a b (aJ l wd most) (j+1)=x):∀i k,i≤l.length→k<4→vM (tbK l wd most a j b) a b x i k=tbK l wd most a j (b+1) i k:=fun i k hi hk=>by
 unfold vM tbK;by_cases h:i=a∧k=b
 ·obtain⟨rfl,rfl⟩:=h
  rw[if_pos ⟨rfl,rfl⟩,if_pos rfl,if_pos (by omega),hx]
 ·rw[if_neg h]
  split
  ·have:¬k=b:=fun q=>h ⟨by assumption,q⟩
   by_cases h1:k<b
   ·rw[if_pos h1,if_pos (by omega)]
   ·rw[if_neg h1,if_neg (by omega)]
  ·rfl
theorem adY {a j b:Nat} (hx:bC l wd most a b (aJ l wd most) (j+1)=bC l wd most a b (aJ l wd most) j):∀i k,i≤l.length→k<4→tbK l wd most a j b i k=tbK l wd most a j (b+1) i k:=fun i k hi hk=>by
 unfold tbK;split
 ·by_cases h:k=b
  ·subst h
   rw[if_neg (by omega),if_pos (by omega),hx]
  ·by_cases h1:k<b
   ·rw[if_pos h1,if_pos (by omega)]
   ·rw[if_neg h1,if_neg (by omega)]
 ·rfl
theorem adg (f:Nat→Nat→Option Ch) (i k:Nat) (x:Ch):vM (tB f) i k x.1=tB (vM f i k (some x)):=by funext i' k';unfold tB vM;split<;>rfl
theorem aen (f:Nat→Nat→Option Ch) (i k:Nat) (x:Ch):vM (tG f) i k true=tG (vM f i k (some x)):=by funext i' k';unfold tG vM;split<;>rfl
theorem ac3 (f:Nat→Nat→Option Ch) (i k:Nat) (x:Ch):vM (tN f) i k (x.2.1:Int)=tN (vM f i k (some x)):=by funext i' k';unfold tN vM;split<;>rfl
theorem mg {a j b:Nat}:tbK l wd most a j b a b=bC l wd most a b (aJ l wd most) j:=by unfold tbK;rw[if_pos rfl,if_neg (Nat.lt_irrefl _)]
theorem jE {a j i k:Nat} (h:a<i):tbJ l wd most a j i k=aJ l wd most i k:=by unfold tbJ tbA;rw[if_neg (by omega),if_pos (by omega)]
theorem adF {i k:Nat}:tbA l wd most 0 i k=aJ l wd most i k:=if_pos (Nat.zero_le _)
end
section
def txK (ws pats:LS):Nat→LS
 |0=>[]
 |k+1=>txK ws pats k++bZ (ws[k]?.getD .empty) pats
def txR (ws pats:LS):LS:=txK ws pats ws.length
theorem acr (ws pats:LS):∀k,(txK ws pats k).length≤21*k
 |0=>by simp[txK]
 |k+1=>by have:=acr ws pats k;have h2:=jG (ws[k]?.getD .empty) pats;rw[txK,List.length_append];omega
theorem adD (ws pats:LS):∀k,∀x∈txK ws pats k,dM x=true
 |0=>by simp[txK]
 |k+1=>fun x hx=>by
  rw[txK]at hx;rcases List.mem_append.1 hx with hx|hx
  ·exact adD ws pats k x hx
  ·exact mX x hx
theorem anj {ws pats:LS} {k:Nat} (h:k<(txR ws pats).length):dM ((txR ws pats)[k]?.getD .empty)=true:=by rw[List.getElem?_eq_getElem h,Option.getD_some];exact adD ws pats _ _ (List.getElem_mem h)
def nb (l:List It):Nat:=(l.filter fun x=>decide (x.kd=1)).length
theorem aag (l l':List It):nb (l++l')=nb l+nb l':=by simp[nb]
theorem auY (ps:LS):∀k,nb (wiK ps k)=k
 |0=>rfl
 |k+1=>by
  have ih:=auY ps k;rw[wiK,aag];have h1:nb [((1:Int),p9 (ps[k]?.getD .empty),(0:Int),(0:Int),(0:Int),(0:Int),false)]=1:=by simp[nb,It.kd]
  rw[h1];split
  ·rw[ih]
  ·rw[aag,ih]
   have h2:nb [((3:Int),(3:Int),(0:Int),(0:Int),(0:Int),(50:Int),true)]=0:=by decide
   rw[h2]
theorem arW (ws pats:LS):∀k,nb (piK ws pats k)=(txK ws pats k).length
 |0=>rfl
 |k+1=>by
  have ih:=arW ws pats k;rw[piK,aag,txK,List.length_append];have h1:nb (wiR (ws[k]?.getD .empty) pats)=(bZ (ws[k]?.getD .empty) pats).length:=auY _ _;rw[h1];split
  ·rw[ih]
  ·rw[aag,ih]
   have h2:nb [((2:Int),(4:Int),(3:Int),(1:Int),(0:Int),(0:Int),false)]=0:=by decide
   rw[h2,Nat.add_zero]
theorem auw (ws pats:LS):nb (piR ws pats)=(txR ws pats).length:=by
 unfold piR;rw[aag,arW];have h2:nb [((3:Int),(0:Int),(0:Int),(0:Int),(0:Int),(10000:Int),false),(2,0,1,0,1,0,false),(3,0,0,0,0,-10000,false)]=0:=by decide
 rw[h2];rfl
theorem ah3 (l:List It) (n:Nat):nbX l n≤nb l:=by unfold nbX nb;exact List.Sublist.length_le ((List.take_sublist n l).filter _)
theorem ajj {l:List It} {n:Nat} (h:n<l.length) (hk:(gI l n).kd=1):nbX l n<nb l:=by have h1:=ace h hk;have h2:=ah3 l (n+1);omega
def frB (br:List Int) (k:Nat):Nat:=if k=0 then 0 else(br[k-1]?.getD 0).toNat+1
def oP (l:List It) (tx:LS) (br:List Int):Nat→LS
 |0=>[]
 |k+1=>oP l tx br k++[lnR l tx (frB br k) (br[k]?.getD 0).toNat]
theorem oG (l:List It) (tx:LS) (br:List Int):∀k,(oP l tx br k).length=k
 |0=>rfl
 |k+1=>by rw[oP,List.length_append,oG l tx br k];rfl
theorem yj (br:List Int) (k:Nat):frB br (k+1)=(br[k]?.getD 0).toNat+1:=by unfold frB;rw[if_neg (by omega)];rfl
def asj (l:List It) (br:List Int):Prop:=br.length≤l.length∧∀k,k<br.length→0≤br[k]?.getD 0∧eG l (frB br k) (br[k]?.getD 0).toNat=true
theorem amZ {l:List It} {wd most:Int} (hl:aW l=true) (hm:most≤10000):∀(f a:Nat) (lk:Int),a≤l.length→∀k,k<(bkF l wd most f a lk).length→0≤(bkF l wd most f a lk)[k]?.getD 0∧eG l (if k=0 then a else((bkF l wd most f a lk)[k-1]?.getD 0).toNat+1) ((bkF l wd most f a lk)[k]?.getD 0).toNat=true
 |0,a,lk,_,k,hk=>by simp[bkF]at hk
 |f+1,a,lk,ha,k,hk=>by
  by_cases h:a=l.length
  ·subst h;rw[yI]at hk;simp at hk
  ·cases hr:aJ l wd most a lk with
   |none=>rw[bkF,if_neg h,hr]at hk;simp at hk
   |some r=>
    obtain⟨x,c0,hx,hL⟩:=p8 (by omega) hr;obtain⟨hq,-,-⟩:=o8 hL;have h2:=(fZ.1 hq).1;rw[nK h hr]at hk⊢;have ih:=amZ (wd:=wd) hl hm f (r.2.1+1) r.2.2 (by omega);generalize bkF l wd most f (r.2.1+1) r.2.2=t at*;cases k with
    |zero=>exact⟨by simp,by simpa using hq⟩
    |succ k=>
     rw[List.length_cons]at hk;obtain⟨i1,i2⟩:=ih k (by omega);refine⟨by simpa using i1,?_⟩;rw[if_neg (by omega),List.getElem?_cons_succ,Nat.add_sub_cancel];cases k with
     |zero=>simpa using i2
     |succ k=>rw[if_neg (by omega),Nat.add_sub_cancel]at i2;rw[List.getElem?_cons_succ];exact i2
theorem agc {l:List It} {wd most:Int} (hl:aW l=true) (hm:most≤10000):asj l (dZ l wd most):=
 ⟨abA hl hm _ _ _ (Nat.zero_le _),fun k hk=>amZ hl hm _ _ _ (Nat.zero_le _) k hk⟩
theorem asj.at_ {l:List It} {br:List Int} (h:asj l br) {k:Nat} (hk:k<br.length):0≤br[k]?.getD 0∧frB br k≤(br[k]?.getD 0).toNat∧(br[k]?.getD 0).toNat<l.length∧¬(gI l (br[k]?.getD 0).toNat).kd=1:=by obtain⟨h1,h2⟩:=h.2 k hk;obtain⟨h3,h4,-⟩:=fZ.1 h2;refine⟨h1,h3.1,h3.2,fun q=>?_⟩;unfold nH at h4;rw[if_neg (by omega),decide_eq_true_eq]at h4;omega
variable {l:List It} {tx:LS} {s:ByteArray} {n:Nat}
theorem anF (h:(gI l n).kd=1):oN l tx s n=s++tx[nbX l n]?.getD .empty:=if_pos h
theorem anm (h:(gI l n).kd=2∧0<(gI l n).wd∧¬s=⟨#[]⟩):oN l tx s n=s++⟨#[32]⟩:=by unfold oN;rw[if_neg (by omega),if_pos h]
theorem ale (h1:¬(gI l n).kd=1) (h:¬((gI l n).kd=2∧0<(gI l n).wd∧¬s=⟨#[]⟩)):oN l tx s n=s:=by unfold oN;rw[if_neg h1,if_neg h]
theorem x9 {a:Nat} (h:∀k:Nat,(tx[k]?.getD ByteArray.empty).size≤20):∀j,(lnT l tx a j).size≤20*j
 |0=>by simp[lnT,ByteArray.size]
 |j+1=>by
  have ih:=x9 (a:=a) h j;rw[lnT];unfold oN;split
  ·rw[ByteArray.size_append]
   have:=h (nbX l (a+j));omega
  ·split
   ·rw[ByteArray.size_append,show(⟨#[32]⟩:ByteArray).size=1 from rfl]
    omega
   ·omega
theorem aa7 {ws pats:LS} (k:Nat):((txR ws pats)[k]?.getD .empty).size≤20:=by
 by_cases h:k<(txR ws pats).length
 ·exact(aX (anj h)).2.2
 ·rw[List.getElem?_eq_none (by omega)]
  decide
def nG (ws pats:LS) (wd most:Int):Bool:=ql ws pats&&jI (piV ws pats) wd most
def mR (ws pats:LS) (wd most:Int):LS:=if nG ws pats wd most=true then oP (piR ws pats) (txR ws pats) (dZ (piR ws pats) wd most) (dZ (piR ws pats) wd most).length else []
end
end
end Go.Proofs.YtmmafcjjlbgnkaaGreatDoor
