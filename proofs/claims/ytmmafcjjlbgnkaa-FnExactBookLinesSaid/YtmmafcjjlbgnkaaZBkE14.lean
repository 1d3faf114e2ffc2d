/- What the proof rests on, part 14: contracts of functions. No condition beyond what each states. -/
import Derived.Test.YtmmafcjjlbgnkaaZBkE13
namespace Go.Proofs.Ytmmafcjjlbgnkaa
open Go.RowKit
set_option linter.all false
set_option maxHeartbeats 32000000
noncomputable section
def φBb:Fun:=F3 lq dI dI fun l wd most=>if acS l then some (.tup [.lst true 1 ((alz l wd most).map fun n=> .val (.int .i64 n)),bv (iQ l wd most)])else none
theorem aft {l:List It} {wd most:Int} (h:acS l):φBb [eu l,.val (.int .i64 wd),.val (.int .i64 most)]=some (.tup [.lst true 1 ((alz l wd most).map fun n=> .val (.int .i64 n)),.val (.bool (iQ l wd most))]):=(wD (A:=lq) (B:=dI) (C:=dI) l wd most).trans (if_pos h)
theorem jd {l:List It} {wd most:Int} {a j en:Nat} (he:l.length-(j+1)=en) (h:gP l wd most a en=none) (k:Int):aY l wd most a k (aH l wd most) (j+1)=aY l wd most a k (aH l wd most) j:=by rw[aY,he,gN h]
theorem qW {l:List It} {wd most:Int} {a j en:Nat} {x:Int×Int} (he:l.length-(j+1)=en) (h:gP l wd most a en=some x) (h2:aH l wd most (en+1) x.2=none) (k:Int):aY l wd most a k (aH l wd most) (j+1)=aY l wd most a k (aH l wd most) j:=by rw[aY,he,jq h h2]
theorem qO {l:List It} {wd most:Int} {a j en:Nat} {x:Int×Int} {r:Ch} (he:l.length-(j+1)=en) (h:gP l wd most a en=some x) (h2:aH l wd most (en+1) x.2=some r) (k:Int):
 aY l wd most a k (aH l wd most) (j+1)=if(aY l wd most a k (aH l wd most) j).all (fun y=>decide (x.1+gY l a en k x.2+r.1<y.1))=true then some (x.1+gY l a en k x.2+r.1,en,x.2)else aY l wd most a k (aH l wd most) j:=by
 rw[aY,he,jk h h2]
theorem yD {l:List It} {wd most:Int} {a en:Nat} (h:dx l a en=true) (h2:0≤(gJ l wd a en).1∧(gJ l wd a en).1≤most):gP l wd most a en=some (jU (gJ l wd a en).1 (gI l en).cost,eP (gJ l wd a en).2 (gJ l wd a en).1):=if_pos ⟨h,h2⟩
def g0 (n k:Nat):Nat→Nat→Bool:=fun i j=>decide (i=n∧j<k)
theorem alO (n:Nat):tab n (g0 n 0)=tab n (fun _ _=>false):=gB fun i j _ _=>by simp[g0]
theorem ame (n k:Nat):tab n (sZ (g0 n k) n k true)=tab n (g0 n (k+1)):=gB fun i j _ _=>by
 unfold sZ g0;by_cases h:i=n∧j=k
 ·rw[if_pos h,decide_eq_true (by omega)]
 ·rw[if_neg h]
  congr 1;apply propext;omega
theorem auL (l:List It) (wd most:Int):tab l.length (tB (tbA l wd most l.length))=tab l.length (fun _ _=>0)∧tab l.length (tG (tbA l wd most l.length))=tab l.length (g0 l.length 4)∧tab l.length (tN (tbA l wd most l.length))=tab l.length (fun _ _=>0):=
 ⟨gB fun i k h1 h2=>by unfold tB;rw[zF i k h1 h2];split<;>rfl,
  gB fun i k h1 h2=>by
   unfold tG;rw[zF i k h1 h2];unfold g0;split
   ·rw[decide_eq_true (by omega)];rfl
   ·rw[decide_eq_false (by omega)];rfl,
  gB fun i k h1 h2=>by unfold tN;rw[zF i k h1 h2];split<;>rfl⟩
theorem yU {l:List It} {wd most:Int} {a en:Nat} (h:dx l a en=false):gP l wd most a en=none:=if_neg fun q=>by rw[h]at q;cases q.1
theorem yG {l:List It} {wd most:Int} {a en:Nat} (h:¬(0≤(gJ l wd a en).1∧(gJ l wd a en).1≤most)):gP l wd most a en=none:=if_neg fun q=>h q.2
def GBb:Ctx:={fn:=aZ [(43,tL),(29,φIn),(44,φBq),(45,φLq),(46,φBd),(47,φLk),(48,φCo),(49,φBw)],io:=aZ []}
theorem arQ:au Try.prog GBb:=okΓ (fC Try.func43 adv (fC Try.func29 iJ (fC Try.func44 yL (fC Try.func45 aem (fC Try.func46 aey (fC Try.func47 afl (fC Try.func48 agv (fC Try.func49 agM aj)))))))) aj
def yO:=ah (Γ:=GBb) (f:=43) (φ:=tL) rfl
def wJ:=ah (Γ:=GBb) (f:=29) (φ:=φIn) rfl
def wQ:=ah (Γ:=GBb) (f:=44) (φ:=φBq) rfl
def xE:=ah (Γ:=GBb) (f:=45) (φ:=φLq) rfl
def xC:=ah (Γ:=GBb) (f:=46) (φ:=φBd) rfl
def xK:=ah (Γ:=GBb) (f:=47) (φ:=φLk) rfl
def yj:=ah (Γ:=GBb) (f:=48) (φ:=φCo) rfl
def yg:=ah (Γ:=GBb) (f:=49) (φ:=φBw) rfl
theorem agh:Sound Try.prog 31 φBb:=by
 refine ak mixed arQ Try.func31 rfl 218 rfl [.tmp 6,.tmp 7] rfl (by kernel_rfl) fun ps r hr=>?_;obtain⟨l,wd,most,rfl,hpre,rfl⟩:=uT hr;refine⟨by simp,?_⟩;simp only[dIs,dUs,dSs,bQ,bU,bP,bT,aL,bS,aQ,aO,aR,aP];have apv:=um hpre;have api:=bO;have hl0:l.length≤1000:=hpre;show pq _ _ _ _ _ (bM [eu l,.val (.int .i64 wd),.val (.int .i64 most)]).tm _ _;unfold alz;by_cases hg:aT l=true∧0<l.length∧(0≤wd∧wd≤1000)∧(0≤most∧most≤10000)
 ·obtain⟨hB,hn,hw,hm⟩:=hg
  have hl:=bB hB;have hok:iQ l wd most=(aH l wd most 0 1).isSome:=by unfold iQ;rw[hB,decide_eq_true hn,aB.2 hw,aB.2 hm];rfl
  rw[hok];clear hok hpre;rw[hB]at apv;have api1:inB wd 0 1000=true:=aB.2 hw;have api2:inB most 0 10000=true:=aB.2 hm;have gbb_c43:=yO;have gbb_c29:=wJ;have gbb_c44:=wQ;have gbb_c45:=xE;have gbb_c46:=xC;have gbb_c47:=xK;have gbb_c48:=yj;have gbb_c49:=yg;(refine wlk ?_;intros);obtain⟨t1,t2,t3⟩:=auL l wd most;refine aD (α:=Nat) mixed (fun k=>[(0,eu l),(1,iv wd),(2,iv most),(8,.row 0 1 0 0),(9,iv l.length),(10,.row 1 4 0 (l.length+1)),(11,.row 2 4 0 (l.length+1)),(12,.row 3 4 0 (l.length+1)),(13,iv k)])
   (fun k=>[(0,3,1,[]),(1,77,4,(tab l.length fun _ _=>0).map yZ),(2,70,4,(tab l.length (g0 l.length k)).map ait),(3,77,4,(tab l.length fun _ _=>0).map yZ)]) (fun _=>4)
   (fun k=>k≤4) (fun k=>4-k) (by kernel_rfl) 0 (Nat.zero_le _) ?_ ?_ rfl ?_
  ·exact agr
  ·simp(disch:=(first|omega|(simp only[push_cast];first|done|omega))) only[push_cast,↓reduceIte,Nat.reduceEqDiff,Nat.reduceBEq,Nat.reduceAdd,Nat.reduceSub,Int.reduceToNat,alO, *]
  intro k hk;by_cases hk4:k<4
  ·have hs:=ame l.length k
   clear t1 t2 t3;(refine wlk ?_;intros);refine⟨k+1,by omega,by dsimp only;omega,?_,?_,rfl⟩
   ·exact agr
   ·exact agr
  obtain rfl:k=4:=by omega
  (refine wlk ?_;intros);refine aD (α:=Nat×Int) mixed (fun z=>[(0,eu l),(1,iv wd),(2,iv most),(8,.row 0 1 0 0),(9,iv l.length),(10,.row 1 4 0 (l.length+1)),(11,.row 2 4 0 (l.length+1)),(12,.row 3 4 0 (l.length+1)),(14,iv z.2)])
   (fun z=>[(0,3,1,[]),(1,77,4,(tab l.length (tB (tbA l wd most z.1))).map yZ),(2,70,4,(tab l.length (tG (tbA l wd most z.1))).map ait),(3,77,4,(tab l.length (tN (tbA l wd most z.1))).map yZ)]) (fun _=>4)
   (fun z=>z.1≤l.length∧z.2=(z.1:Int)-2) (fun z=>z.1) (by kernel_rfl) (l.length,(l.length:Int)-2) ⟨Nat.le_refl _,rfl⟩ ?_ ?_ rfl ?_
  ·exact agr
  ·exact agr
  clear t1 t2 t3 hk hk4;rintro⟨m,v⟩ ⟨hml,hv⟩;dsimp only at hml hv;by_cases h1:1≤m
  ·obtain⟨a,rfl⟩:∃a,m=a+1:=⟨m-1,by omega⟩
   obtain rfl:v=(a:Int)-1:=by omega
   clear hv h1;have hal:a<l.length:=by omega
   have hcan:(a:Int)-1+1=a:=by omega
   by_cases hskip:0<a∧lH l (a-1)=false
   ·obtain⟨ha0,hbq⟩:=hskip
    have apq:=uQ (n:=a-1) hB (by omega);rw[hbq,show((a-1:Nat):Int)=(a:Int)-1 by omega]at apq;have hE:=Lib.hid (bC (ahl (wd:=wd) (most:=most) hal ha0 hbq));clear hbq;(refine wlk ?_;intros);refine⟨(a,(a:Int)-1-1),⟨by dsimp only;omega,by dsimp only;omega⟩,by dsimp only;omega,?_,?_,rfl⟩
    ·exact agr
    ·obtain⟨e1,e2,e3⟩:=hE.out
     exact agr
   ·have hgo:0<a→φBq [eu l,.val (.int .i64 ((a:Int)-1))]=some (.val (.bool true)):=fun ha0=>by
     have apq:=uQ (n:=a-1) hB (by omega);rw[show((a-1:Nat):Int)=(a:Int)-1 by omega]at apq;rw[apq];cases hb:lH l (a-1)with
     |true=>rfl
     |false=>exact absurd ⟨ha0,hb⟩ hskip
    clear hskip;by_cases ha0:0<a
    ·have apq:=hgo ha0
     clear hgo;(refine wlk ?_;intros);refine aD (α:=Nat×Int) mixed (fun z=>[(0,eu l),(1,iv wd),(2,iv most),(8,.row 0 1 0 0),(9,iv l.length),(10,.row 1 4 0 (l.length+1)),(11,.row 2 4 0 (l.length+1)),(12,.row 3 4 0 (l.length+1)),(14,iv ((a:Int)-1)),(15,iv z.2)])
      (fun z=>[(0,3,1,[]),(1,77,4,(tab l.length (tB (tbJ l wd most a z.1))).map yZ),(2,70,4,(tab l.length (tG (tbJ l wd most a z.1))).map ait),(3,77,4,(tab l.length (tN (tbJ l wd most a z.1))).map yZ)]) (fun _=>4)
      (fun z=>z.1+a≤l.length∧z.2=(l.length:Int)-1-z.1) (fun z=>l.length-z.1) (by kernel_rfl) (0,(l.length:Int)-1) ⟨by dsimp only;omega,by simp⟩ ?_ ?_ rfl ?_
     ·exact agr
     ·obtain⟨e1,e2,e3⟩:=bC (abO (l:=l) (wd:=wd) (most:=most) (a:=a))
      exact agr
     rintro⟨j,u⟩ ⟨hj,hu⟩;dsimp only at hj hu;by_cases h2:j+a<l.length
     ·obtain⟨en,rfl⟩:∃en:Nat,u=en:=⟨u.toNat,by omega⟩
      have he:l.length-(j+1)=en:=by omega
      have hu1:(en:Int)≤l.length-1-j:=by omega
      have hu2:(l.length:Int)-1-j≤en:=by omega
      replace he:=Lib.hid he;clear hu;have hae:a≤en:=by omega
      have hel:en<l.length:=by omega
      have apl:=agw hB hae hel;have hskip:(∀k:Int,aY l wd most a k (aH l wd most) (j+1)=aY l wd most a k (aH l wd most) j)→tab l.length (tB (tbJ l wd most a j))=tab l.length (tB (tbJ l wd most a (j+1)))∧tab l.length (tG (tbJ l wd most a j))=tab l.length (tG (tbJ l wd most a (j+1)))∧tab l.length (tN (tbJ l wd most a j))=tab l.length (tN (tbJ l wd most a (j+1))):=fun h=>bC (abH h);cases hq:dx l a en with
      |false=>
       rw[hq]at apl;have hE:=Lib.hid (hskip (jd he.out (yU hq)));clear hskip hq;(refine wlk ?_;intros);refine⟨(j+1,(en:Int)-1),⟨by dsimp only;omega,by dsimp only;omega⟩,by dsimp only;omega,?_,?_,rfl⟩
       ·exact agr
       ·obtain⟨e1,e2,e3⟩:=hE.out
        exact agr
      |true=>
      rw[hq]at apl;have hst:=(eD.1 hq).2.2.2.1;have apb:=aaP hB hae hel hw hst;by_cases hb:0≤(gJ l wd a en).1∧(gJ l wd a en).1≤most
      ·have hcst:afb (l[en]?.getD it0).2.2.2.2.2.1:=(eX hB hel).cost
       have hL:gP l wd most a en=some (jU (gJ l wd a en).1 (l[en]?.getD it0).2.2.2.2.2.1,eP (gJ l wd a en).2 (gJ l wd a en).1):=yD hq hb;clear hq hst;generalize gJ l wd a en=bd at*;obtain⟨bad,st⟩:=bd;dsimp only at hb hL apb;have apk:=vG (s:=st) (bad:=bad) ⟨hb.1,by omega⟩;have apc:=aat (bad:=bad) ⟨hb.1,by omega⟩ hcst;have hcr:=l8 (bad:=bad) ⟨hb.1,by omega⟩ hcst;have hkr:=kD st bad;obtain⟨kk,hkk⟩:∃kk:Nat,eP st bad=kk:=⟨(eP st bad).toNat,by omega⟩;rw[hkk]at hL apk hkr;clear hkk hcst;cases hr:aH l wd most (en+1) kk with
       |none=>
        have hG:tG (tbJ l wd most a j) (en+1) kk=false:=by unfold tG;rw[iO (by omega),hr];rfl
        have hE:=Lib.hid (hskip (qW he.out hL hr));clear hskip hL hr;(refine wlk ?_;intros);refine⟨(j+1,(en:Int)-1),⟨by dsimp only;omega,by dsimp only;omega⟩,by dsimp only;omega,?_,?_,rfl⟩
        ·exact agr
        ·obtain⟨e1,e2,e3⟩:=hE.out
         exact agr
       |some r=>
        have hG:tG (tbJ l wd most a j) (en+1) kk=true:=by unfold tG;rw[iO (by omega),hr];rfl
        have hBv:tB (tbJ l wd most a j) (en+1) kk=r.1:=by unfold tB;rw[iO (by omega),hr];rfl
        have hrr:=(bZ hB hm.2 (by omega) hr).1;have hlive:=fun k=>qO he.out hL hr k;clear hskip hL hr;generalize hyy:l[en]?.getD it0=yy at*;obtain⟨y1,y2,y3,y4,y5,y6,y7⟩:=yy;dsimp only at apc hcr hlive;generalize jU bad y6=co at*;obtain⟨rc,rn,rk⟩:=r;dsimp only at hBv hrr hlive;replace hlive:=Lib.hid hlive;(refine wlk ?_;intros);refine aD (α:=Nat) mixed (fun b=>[(0,eu l),(1,iv wd),(2,iv most),(8,.row 0 1 0 0),(9,iv l.length),(10,.row 1 4 0 (l.length+1)),(11,.row 2 4 0 (l.length+1)),(12,.row 3 4 0 (l.length+1)),(14,iv ((a:Int)-1)),(15,iv en),(18,iv kk),(19,iv (co+rc)),(20,iv b)])
         (fun b=>[(0,3,1,[]),(1,77,4,(tab l.length (tB (tbK l wd most a j b))).map yZ),(2,70,4,(tab l.length (tG (tbK l wd most a j b))).map ait),(3,77,4,(tab l.length (tN (tbK l wd most a j b))).map yZ)]) (fun _=>4)
         (fun b=>b≤4) (fun b=>4-b) (by kernel_rfl) 0 (Nat.zero_le _) ?_ ?_ rfl ?_
        ·exact agr
        ·obtain⟨e1,e2,e3⟩:=bC (abA (l:=l) (wd:=wd) (most:=most) (a:=a) (j:=j))
         exact agr
        clear hG hBv apc apk apb apl;intro b hb4;by_cases hb3:b<4
        ·have apw:=aex (be:=(b:Int)) (lk:=(kk:Int)) hB hae hel ⟨by omega,by omega⟩ ⟨by omega,by omega⟩
         have hbw:=jG l a en b kk;have hx:=hlive.out (b:Int);generalize gY l a en b kk=bw at*;cases hacc:aY l wd most a b (aH l wd most) j with
         |none=>
          rw[hacc]at hx;replace hx:_=some _:=hx;have hG:tG (tbK l wd most a j b) a b=false:=by unfold tG;rw[kC,hacc];rfl
          have hE:=Lib.hid (bC (o8 hx));clear hx hacc;(refine wlk ?_;intros);refine⟨b+1,by omega,by dsimp only;omega,?_,?_,rfl⟩
          ·exact agr
          ·have hE2:=hE.out
           rw[←abL,←abg,←abj]at hE2;obtain⟨e1,e2,e3⟩:=hE2;dsimp only at e1 e2 e3;rw[show co+bw+rc=co+rc+bw by omega]at e1;exact agr
         |some y=>
          rw[hacc]at hx;have hG:tG (tbK l wd most a j b) a b=true:=by unfold tG;rw[kC,hacc];rfl
          have hB2:tB (tbK l wd most a j b) a b=y.1:=by unfold tB;rw[kC,hacc];rfl
          have hyr:=(nT hB hm.2 hal hacc).1;by_cases hlt:co+rc+bw<y.1
          ·rw[if_pos (show(some y).all (fun y=>decide (co+bw+rc<y.1))=true from decide_eq_true (show co+bw+rc<y.1 by omega))]at hx
           have hE:=Lib.hid (bC (o8 hx));clear hx hacc;generalize y.1=yc at*;(refine wlk ?_;intros);refine⟨b+1,by omega,by dsimp only;omega,?_,?_,rfl⟩
           ·exact agr
           ·have hE2:=hE.out
            rw[←abL,←abg,←abj]at hE2;obtain⟨e1,e2,e3⟩:=hE2;dsimp only at e1 e2 e3;rw[show co+bw+rc=co+rc+bw by omega]at e1;exact agr
          ·rw[if_neg (show¬(some y).all (fun y=>decide (co+bw+rc<y.1))=true from fun q=>hlt (by have:=of_decide_eq_true (show decide (co+bw+rc<y.1)=true from q);omega))]at hx
           have hE:=Lib.hid (bC (abV (hx.trans hacc.symm)));clear hx hacc;generalize y.1=yc at*;(refine wlk ?_;intros);refine⟨b+1,by omega,by dsimp only;omega,?_,?_,rfl⟩
           ·exact agr
           ·obtain⟨e1,e2,e3⟩:=hE.out
            exact agr
        ·obtain rfl:b=4:=by omega
         have hE:=Lib.hid (bC (afd (l:=l) (wd:=wd) (most:=most) (a:=a) (j:=j)));clear hlive;(refine wlk ?_;intros);refine⟨(j+1,(en:Int)-1),⟨by dsimp only;omega,by dsimp only;omega⟩,by dsimp only;omega,?_,?_,rfl⟩
         ·exact agr
         ·obtain⟨e1,e2,e3⟩:=hE.out
          exact agr
      ·have hE:=Lib.hid (hskip (jd he.out (yG hb)))
       clear hskip hq;generalize gJ l wd a en=bd at*;obtain⟨bad,st⟩:=bd;dsimp only at hb apb;by_cases hb0:bad<0
       ·clear hb
        (refine wlk ?_;intros);refine⟨(j+1,(en:Int)-1),⟨by dsimp only;omega,by dsimp only;omega⟩,by dsimp only;omega,?_,?_,rfl⟩
        ·exact agr
        ·obtain⟨e1,e2,e3⟩:=hE.out
         exact agr
       ·have hb1:most<bad:=by omega
        clear hb;(refine wlk ?_;intros);refine⟨(j+1,(en:Int)-1),⟨by dsimp only;omega,by dsimp only;omega⟩,by dsimp only;omega,?_,?_,rfl⟩
        ·exact agr
        ·obtain⟨e1,e2,e3⟩:=hE.out
         exact agr
     ·obtain rfl:j=l.length-a:=by omega
      have hE:=Lib.hid (bC (afe (wd:=wd) (most:=most) hal));(refine wlk ?_;intros);refine⟨(a,(a:Int)-1-1),⟨by dsimp only;omega,by dsimp only;omega⟩,by dsimp only;omega,?_,?_,rfl⟩
      ·exact agr
      ·obtain⟨e1,e2,e3⟩:=hE.out
       exact agr
    ·clear hgo
     (refine wlk ?_;intros);refine aD (α:=Nat×Int) mixed (fun z=>[(0,eu l),(1,iv wd),(2,iv most),(8,.row 0 1 0 0),(9,iv l.length),(10,.row 1 4 0 (l.length+1)),(11,.row 2 4 0 (l.length+1)),(12,.row 3 4 0 (l.length+1)),(14,iv ((a:Int)-1)),(15,iv z.2)])
      (fun z=>[(0,3,1,[]),(1,77,4,(tab l.length (tB (tbJ l wd most a z.1))).map yZ),(2,70,4,(tab l.length (tG (tbJ l wd most a z.1))).map ait),(3,77,4,(tab l.length (tN (tbJ l wd most a z.1))).map yZ)]) (fun _=>4)
      (fun z=>z.1+a≤l.length∧z.2=(l.length:Int)-1-z.1) (fun z=>l.length-z.1) (by kernel_rfl) (0,(l.length:Int)-1) ⟨by dsimp only;omega,by simp⟩ ?_ ?_ rfl ?_
     ·exact agr
     ·obtain⟨e1,e2,e3⟩:=bC (abO (l:=l) (wd:=wd) (most:=most) (a:=a))
      exact agr
     rintro⟨j,u⟩ ⟨hj,hu⟩;dsimp only at hj hu;by_cases h2:j+a<l.length
     ·obtain⟨en,rfl⟩:∃en:Nat,u=en:=⟨u.toNat,by omega⟩
      have he:l.length-(j+1)=en:=by omega
      have hu1:(en:Int)≤l.length-1-j:=by omega
      have hu2:(l.length:Int)-1-j≤en:=by omega
      replace he:=Lib.hid he;clear hu;have hae:a≤en:=by omega
      have hel:en<l.length:=by omega
      have apl:=agw hB hae hel;have hskip:(∀k:Int,aY l wd most a k (aH l wd most) (j+1)=aY l wd most a k (aH l wd most) j)→tab l.length (tB (tbJ l wd most a j))=tab l.length (tB (tbJ l wd most a (j+1)))∧tab l.length (tG (tbJ l wd most a j))=tab l.length (tG (tbJ l wd most a (j+1)))∧tab l.length (tN (tbJ l wd most a j))=tab l.length (tN (tbJ l wd most a (j+1))):=fun h=>bC (abH h);cases hq:dx l a en with
      |false=>
       rw[hq]at apl;have hE:=Lib.hid (hskip (jd he.out (yU hq)));clear hskip hq;(refine wlk ?_;intros);refine⟨(j+1,(en:Int)-1),⟨by dsimp only;omega,by dsimp only;omega⟩,by dsimp only;omega,?_,?_,rfl⟩
       ·exact agr
       ·obtain⟨e1,e2,e3⟩:=hE.out
        exact agr
      |true=>
      rw[hq]at apl;have hst:=(eD.1 hq).2.2.2.1;have apb:=aaP hB hae hel hw hst;by_cases hb:0≤(gJ l wd a en).1∧(gJ l wd a en).1≤most
      ·have hcst:afb (l[en]?.getD it0).2.2.2.2.2.1:=(eX hB hel).cost
       have hL:gP l wd most a en=some (jU (gJ l wd a en).1 (l[en]?.getD it0).2.2.2.2.2.1,eP (gJ l wd a en).2 (gJ l wd a en).1):=yD hq hb;clear hq hst;generalize gJ l wd a en=bd at*;obtain⟨bad,st⟩:=bd;dsimp only at hb hL apb;have apk:=vG (s:=st) (bad:=bad) ⟨hb.1,by omega⟩;have apc:=aat (bad:=bad) ⟨hb.1,by omega⟩ hcst;have hcr:=l8 (bad:=bad) ⟨hb.1,by omega⟩ hcst;have hkr:=kD st bad;obtain⟨kk,hkk⟩:∃kk:Nat,eP st bad=kk:=⟨(eP st bad).toNat,by omega⟩;rw[hkk]at hL apk hkr;clear hkk hcst;cases hr:aH l wd most (en+1) kk with
       |none=>
        have hG:tG (tbJ l wd most a j) (en+1) kk=false:=by unfold tG;rw[iO (by omega),hr];rfl
        have hE:=Lib.hid (hskip (qW he.out hL hr));clear hskip hL hr;(refine wlk ?_;intros);refine⟨(j+1,(en:Int)-1),⟨by dsimp only;omega,by dsimp only;omega⟩,by dsimp only;omega,?_,?_,rfl⟩
        ·exact agr
        ·obtain⟨e1,e2,e3⟩:=hE.out
         exact agr
       |some r=>
        have hG:tG (tbJ l wd most a j) (en+1) kk=true:=by unfold tG;rw[iO (by omega),hr];rfl
        have hBv:tB (tbJ l wd most a j) (en+1) kk=r.1:=by unfold tB;rw[iO (by omega),hr];rfl
        have hrr:=(bZ hB hm.2 (by omega) hr).1;have hlive:=fun k=>qO he.out hL hr k;clear hskip hL hr;generalize hyy:l[en]?.getD it0=yy at*;obtain⟨y1,y2,y3,y4,y5,y6,y7⟩:=yy;dsimp only at apc hcr hlive;generalize jU bad y6=co at*;obtain⟨rc,rn,rk⟩:=r;dsimp only at hBv hrr hlive;replace hlive:=Lib.hid hlive;(refine wlk ?_;intros);refine aD (α:=Nat) mixed (fun b=>[(0,eu l),(1,iv wd),(2,iv most),(8,.row 0 1 0 0),(9,iv l.length),(10,.row 1 4 0 (l.length+1)),(11,.row 2 4 0 (l.length+1)),(12,.row 3 4 0 (l.length+1)),(14,iv ((a:Int)-1)),(15,iv en),(18,iv kk),(19,iv (co+rc)),(20,iv b)])
         (fun b=>[(0,3,1,[]),(1,77,4,(tab l.length (tB (tbK l wd most a j b))).map yZ),(2,70,4,(tab l.length (tG (tbK l wd most a j b))).map ait),(3,77,4,(tab l.length (tN (tbK l wd most a j b))).map yZ)]) (fun _=>4)
         (fun b=>b≤4) (fun b=>4-b) (by kernel_rfl) 0 (Nat.zero_le _) ?_ ?_ rfl ?_
        ·exact agr
        ·obtain⟨e1,e2,e3⟩:=bC (abA (l:=l) (wd:=wd) (most:=most) (a:=a) (j:=j))
         exact agr
        clear hG hBv apc apk apb apl;intro b hb4;by_cases hb3:b<4
        ·have apw:=aex (be:=(b:Int)) (lk:=(kk:Int)) hB hae hel ⟨by omega,by omega⟩ ⟨by omega,by omega⟩
         have hbw:=jG l a en b kk;have hx:=hlive.out (b:Int);generalize gY l a en b kk=bw at*;cases hacc:aY l wd most a b (aH l wd most) j with
         |none=>
          rw[hacc]at hx;replace hx:_=some _:=hx;have hG:tG (tbK l wd most a j b) a b=false:=by unfold tG;rw[kC,hacc];rfl
          have hE:=Lib.hid (bC (o8 hx));clear hx hacc;(refine wlk ?_;intros);refine⟨b+1,by omega,by dsimp only;omega,?_,?_,rfl⟩
          ·exact agr
          ·have hE2:=hE.out
           rw[←abL,←abg,←abj]at hE2;obtain⟨e1,e2,e3⟩:=hE2;dsimp only at e1 e2 e3;rw[show co+bw+rc=co+rc+bw by omega]at e1;exact agr
         |some y=>
          rw[hacc]at hx;have hG:tG (tbK l wd most a j b) a b=true:=by unfold tG;rw[kC,hacc];rfl
          have hB2:tB (tbK l wd most a j b) a b=y.1:=by unfold tB;rw[kC,hacc];rfl
          have hyr:=(nT hB hm.2 hal hacc).1;by_cases hlt:co+rc+bw<y.1
          ·rw[if_pos (show(some y).all (fun y=>decide (co+bw+rc<y.1))=true from decide_eq_true (show co+bw+rc<y.1 by omega))]at hx
           have hE:=Lib.hid (bC (o8 hx));clear hx hacc;generalize y.1=yc at*;(refine wlk ?_;intros);refine⟨b+1,by omega,by dsimp only;omega,?_,?_,rfl⟩
           ·exact agr
           ·have hE2:=hE.out
            rw[←abL,←abg,←abj]at hE2;obtain⟨e1,e2,e3⟩:=hE2;dsimp only at e1 e2 e3;rw[show co+bw+rc=co+rc+bw by omega]at e1;exact agr
          ·rw[if_neg (show¬(some y).all (fun y=>decide (co+bw+rc<y.1))=true from fun q=>hlt (by have:=of_decide_eq_true (show decide (co+bw+rc<y.1)=true from q);omega))]at hx
           have hE:=Lib.hid (bC (abV (hx.trans hacc.symm)));clear hx hacc;generalize y.1=yc at*;(refine wlk ?_;intros);refine⟨b+1,by omega,by dsimp only;omega,?_,?_,rfl⟩
           ·exact agr
           ·obtain⟨e1,e2,e3⟩:=hE.out
            exact agr
        ·obtain rfl:b=4:=by omega
         have hE:=Lib.hid (bC (afd (l:=l) (wd:=wd) (most:=most) (a:=a) (j:=j)));clear hlive;(refine wlk ?_;intros);refine⟨(j+1,(en:Int)-1),⟨by dsimp only;omega,by dsimp only;omega⟩,by dsimp only;omega,?_,?_,rfl⟩
         ·exact agr
         ·obtain⟨e1,e2,e3⟩:=hE.out
          exact agr
      ·have hE:=Lib.hid (hskip (jd he.out (yG hb)))
       clear hskip hq;generalize gJ l wd a en=bd at*;obtain⟨bad,st⟩:=bd;dsimp only at hb apb;by_cases hb0:bad<0
       ·clear hb
        (refine wlk ?_;intros);refine⟨(j+1,(en:Int)-1),⟨by dsimp only;omega,by dsimp only;omega⟩,by dsimp only;omega,?_,?_,rfl⟩
        ·exact agr
        ·obtain⟨e1,e2,e3⟩:=hE.out
         exact agr
       ·have hb1:most<bad:=by omega
        clear hb;(refine wlk ?_;intros);refine⟨(j+1,(en:Int)-1),⟨by dsimp only;omega,by dsimp only;omega⟩,by dsimp only;omega,?_,?_,rfl⟩
        ·exact agr
        ·obtain⟨e1,e2,e3⟩:=hE.out
         exact agr
     ·obtain rfl:j=l.length-a:=by omega
      have hE:=Lib.hid (bC (afe (wd:=wd) (most:=most) hal));(refine wlk ?_;intros);refine⟨(a,(a:Int)-1-1),⟨by dsimp only;omega,by dsimp only;omega⟩,by dsimp only;omega,?_,?_,rfl⟩
      ·exact agr
      ·obtain⟨e1,e2,e3⟩:=hE.out
       exact agr
  ·obtain rfl:m=0:=by omega
   have hG:tG (tbA l wd most 0) 0 1=(aH l wd most 0 1).isSome:=by unfold tG;rw[abt];rfl
   have hbl:(dh l wd most).length≤l.length:=zw hB hm.2 _ _ _ (Nat.zero_le _);have hb0:dh l wd most=[]++bkF l wd most (l.length+1) 0 ((1:Nat):Int):=rfl;cases hs:aH l wd most 0 1 with
   |none=>rw[hs]at hG;simp only[Option.isSome_none]at hG⊢;rw[if_neg (by decide)];clear hb0 hbl;exact wlkF
   |some r0=>
    rw[hs]at hG;simp only[Option.isSome_some]at hG⊢;rw[show(if True then dh l wd most else [])=dh l wd most from if_pos trivial];generalize dh l wd most=res at*;replace hb0:=Lib.hid hb0;have hs0:(aH l wd most 0 ((1:Nat):Int)).isSome=true:=by show(aH l wd most 0 1).isSome=true;rw[hs];rfl
    replace hs0:=Lib.hid hs0;clear hs;(refine wlk ?_;intros);clear hG;refine aD (α:=Nat×Int×Nat×LI×Nat×Nat×Nat) mixed (fun z=>[(0,eu l),(1,iv wd),(2,iv most),(8,.row z.2.2.2.2.1 1 0 z.2.2.2.1.length),(9,iv l.length),(12,.row 3 4 0 (l.length+1)),(22,iv z.2.1),(23,iv z.2.2.1)])
     (fun z=>[(3,77,4,(tab l.length (tN (tbA l wd most 0))).map yZ),(z.2.2.2.2.1,3,1,z.2.2.2.1.map pvN)]) (fun z=>z.2.2.2.2.2.1)
     (fun z=>z.1≤l.length∧z.2.1=(z.1:Int)-1∧z.2.2.1<4∧(aH l wd most z.1 (z.2.2.1:Int)).isSome=true∧z.2.2.2.1.length≤z.1∧(¬z.2.2.2.2.1=3∧z.2.2.2.2.1<z.2.2.2.2.2.1∧4≤z.2.2.2.2.2.1)∧l.length+1≤z.2.2.2.2.2.2+z.1∧res=z.2.2.2.1++bkF l wd most z.2.2.2.2.2.2 z.1 (z.2.2.1:Int)) (fun z=>l.length-z.1) (by kernel_rfl)
     (0,-1,1,[],0,4,l.length+1) ⟨Nat.zero_le _,rfl,by simp,hs0.out,Nat.le_refl _,by simp,by simp,hb0.out⟩ ?_ ?_ rfl ?_
    ·exact agi
    ·exact agr
    rintro⟨a,v,kk,out,x,y,f⟩ ⟨hal,hv,hkk,hs,hol,⟨hx3,hxy,hy4⟩,hf,hres⟩;dsimp only at hal hv hkk hs hol hx3 hxy hy4 hf hres;have hx3':¬3=x:=fun q=>hx3 q.symm;subst hv;clear hs0 hb0;by_cases hlt:a<l.length
    ·obtain⟨r,hr⟩:∃r,aH l wd most a (kk:Int)=some r:=Option.isSome_iff_exists.1 hs
     obtain⟨f',rfl⟩:∃f',f=f'+1:=⟨f-1,by omega⟩;rw[nu (by omega) hr]at hres;have hN:tN (tbA l wd most 0) a kk=(r.2.1:Int):=by unfold tN;rw[abt,hr];rfl
     obtain⟨-,hb2⟩:=bZ hB hm.2 hal hr;obtain⟨⟨ha1,ha2⟩,hk0,hk3⟩:=hb2 hlt;obtain⟨x',c0,hx',hL⟩:=nW hlt hr;obtain⟨hq,hbd,hpair⟩:=nN hL;have hlk:r.2.2=eP (gJ l wd a r.2.1).2 (gJ l wd a r.2.1).1:=congrArg Prod.snd hpair;obtain⟨-,-,-,hst,-⟩:=eD.1 hq;have apb:=aaP hB ha1 ha2 hw hst;have apk:=vG (s:=(gJ l wd a r.2.1).2) (bad:=(gJ l wd a r.2.1).1) ⟨hbd.1,by omega⟩;rw[←hlk]at apk;clear hL hpair hlk hq hst hr hs hb2;obtain⟨rc,en,rk⟩:=r;dsimp only at hres hN ha1 ha2 hk0 hk3 hx' hbd apb apk;obtain⟨k2,rfl⟩:∃k2:Nat,rk=k2:=⟨rk.toNat,by omega⟩;generalize gJ l wd a en=bd at*;obtain⟨bad,st⟩:=bd;dsimp only at hbd apb apk;have hcan:(a:Int)-1+1=a:=by omega
     replace hres:=Lib.hid hres;replace hx':=Lib.hid hx';have hkk2:k2<4:=by omega
     (refine wlk ?_;intros);refine⟨(en+1,(en:Int),k2,out++[(en:Int)],y+1,y+2,f'),⟨by dsimp only;omega,by dsimp only;omega,hkk2,by dsimp only;rw[hx'.out];rfl,by simp;omega,⟨by dsimp only;omega,by dsimp only;omega,by dsimp only;omega⟩,by dsimp only;omega,by dsimp only;rw[hres.out];simp⟩,by dsimp only;omega,?_,?_,rfl⟩
     ·exact agr
     ·exact agr
    ·obtain rfl:a=l.length:=by omega
     rw[vX,List.append_nil]at hres;subst hres;clear hs;exact wlkF
 ·have hok:iQ l wd most=false:=Bool.eq_false_iff.2 fun q=>by obtain⟨q1,q2,q3,q4,-⟩:=fu.1 q;exact hg ⟨q1,q2,q3,q4⟩
  rw[hok,if_neg (by decide)];clear hok hpre;cases hB:aT l with
  |false=>rw[hB]at apv;clear hg hB;have gbb_c43:=yO;have gbb_c29:=wJ;have gbb_c44:=wQ;have gbb_c45:=xE;have gbb_c46:=xC;have gbb_c47:=xK;have gbb_c48:=yj;have gbb_c49:=yg;exact wlkF
  |true=>
  rw[hB]at apv;by_cases hw:0≤wd∧wd≤1000
  ·have api1:inB wd 0 1000=true:=aB.2 hw
   by_cases hm:0≤most∧most≤10000
   ·have api2:inB most 0 10000=true:=aB.2 hm
    have hl0:l.length<1:=by
     by_cases h:l.length<1
     ·exact h
     ·exact absurd ⟨hB,by omega,hw,hm⟩ hg
    clear hg hB;have gbb_c43:=yO;have gbb_c29:=wJ;have gbb_c44:=wQ;have gbb_c45:=xE;have gbb_c46:=xC;have gbb_c47:=xK;have gbb_c48:=yj;have gbb_c49:=yg;exact wlkF
   ·have api2:inB most 0 10000=false:=Bool.eq_false_iff.2 fun q=>hm (aB.1 q)
    clear hg hB hm;have gbb_c43:=yO;have gbb_c29:=wJ;have gbb_c44:=wQ;have gbb_c45:=xE;have gbb_c46:=xC;have gbb_c47:=xK;have gbb_c48:=yj;have gbb_c49:=yg;exact wlkF
  ·have api1:inB wd 0 1000=false:=Bool.eq_false_iff.2 fun q=>hw (aB.1 q)
   clear hg hB hw;have gbb_c43:=yO;have gbb_c29:=wJ;have gbb_c44:=wQ;have gbb_c45:=xE;have gbb_c46:=xC;have gbb_c47:=xK;have gbb_c48:=yj;have gbb_c49:=yg;exact wlkF
structure BkI (l:List It) (wd most:Int) (a:Nat) (lk:Int) (br:List Int):Prop where
 le:a≤l.length
 lk0:0≤lk∧lk≤3
 len:br.length≤a
 pos:0<a→0<br.length
 ok:(aH l wd most a lk).isSome=(aH l wd most 0 1).isSome
 go:(aH l wd most 0 1).isSome=true→dh l wd most=br++bkF l wd most (l.length+1-br.length) a lk
theorem BkI.start (l:List It) (wd most:Int):BkI l wd most 0 0 []:=⟨Nat.zero_le _,by decide,Nat.le_refl _,fun h=>by omega,by rw[qz 0 1],fun _=>by show dh l wd most=bkF l wd most (l.length+1) 0 0;unfold dh;rw[bkF,bkF,qz 1 0]⟩
theorem BkI.next {l:List It} {wd most:Int} {a:Nat} {lk:Int} {br:List Int} {r:Ch} (h:BkI l wd most a lk br) (hl:aT l=true) (hm:most≤10000) (ha:a<l.length) (hr:aH l wd most a lk=some r):BkI l wd most (r.2.1+1) r.2.2 (br++[(r.2.1:Int)]):=by obtain⟨h1,h2⟩:=bZ hl hm h.le hr;obtain⟨h3,h4⟩:=h2 ha;obtain⟨x,c0,h5,h6⟩:=nW ha hr;have hok:=h.ok;rw[hr]at hok;have h7:=h.len;refine⟨by omega,h4,by rw[List.length_append,List.length_singleton];omega,fun _=>by simp,by rw[h5,←hok];rfl,fun hs=>?_⟩;rw[h.go hs,show l.length+1-br.length=(l.length-br.length)+1 by omega,nu (by omega) hr];simp
theorem BkI.last {l:List It} {wd most:Int} {lk:Int} {br:List Int} (h:BkI l wd most l.length lk br):(aH l wd most 0 1).isSome=true∧dh l wd most=br:=by have h1:=h.ok;rw[mI]at h1;have h2:(aH l wd most 0 1).isSome=true:=h1.symm;refine⟨h2,?_⟩;rw[h.go h2,vX,List.append_nil]
theorem asN:zeroOf Try.prog 84=some (.agg #[.slice none 0 0,.int .i64 0,.int .i64 0,.map none]):=by kernel_rfl
theorem ash:dw Try.prog 84=some #[(0,1),(1,1),(2,1),(3,1)]:=by kernel_rfl
theorem atv (ps:List (Nat×PV)):fB Try.prog 84 ps=(kX (plF [(0,1),(1,1),(2,1),(3,1)]) [.val (.slice none 0 0),.val (.int .i64 0),.val (.int .i64 0),.val (.map none)] ps).map .agg:=aed asN rfl ash ps
theorem yx {ob:bg} {l:List It} {wd most:Int} {b:Nat} (h:ob 0=some (84,4,[.agg [eu l,iv wd,iv most,.val (.map (some b))]])):reify false 0 ob 8 (.own 0 4 0 0)=some (ag4 l wd most b):=by
 have h1:reify false 0 ob 6 (eu l)=some (eu l):=by(simp(disch:=(first|omega|(simp only[push_cast];first|done|omega))) only[push_cast,↓reduceIte,Nat.reduceEqDiff,Nat.reduceBEq,Nat.reduceAdd,Nat.reduceSub,Int.reduceToNat, *]<;>with_reducible exact rfl)
 have h2:reify false 0 ob 7 (.agg [eu l,iv wd,iv most,.val (.map (some b))])=some (.agg [eu l,iv wd,iv most,.val (.map (some b))]):=by show([eu l,iv wd,iv most,.val (.map (some b))].mapM (reify false 0 ob 6)).map PV.agg=_;simp only[List.mapM_cons,List.mapM_nil,h1];rfl
 show(if false=true∧0<0 then none else match ob 0 with
  |some (_,sz',es)=>if 4=sz' then(es[0]?).bind fun e=>(reify false 0 ob 7 e).map (PV.ptr false · 0)else none
  |none=>none)=_
 rw[if_neg (by decide),h];dsimp only
 rw[if_pos rfl];show(reify false 0 ob 7 (.agg [eu l,iv wd,iv most,.val (.map (some b))])).map (PV.ptr false · 0)=_;rw[h2];rfl
theorem apO (m:Option Nat):bA (.val (.map m))=some [.val (.map m)]:=rfl
attribute[push_cast]
 atv apO
def aun:Ctx:={fn:=aZ [(55,φLa)],io:=aZ []}
theorem bY:au Try.prog aun:=okΓ (fC Try.func55 ad9 aj) aj
def ag7:=ah (Γ:=aun) (f:=55) (φ:=φLa) rfl
set_option maxRecDepth 100000 in
theorem aeb:Sound Try.prog 38 φBb:=by
 refine HY.sound (k:=86) (N:=44) (rs:=[.tmp 6,.tmp 7]) Try.func38 rfl rfl rfl fun ps r hr=>?_;obtain⟨l,wd,most,rfl,hpre,rfl⟩:=uT hr;refine⟨by simp,?_⟩;simp only[dIs,dUs,dSs,bQ,bU,bP,bT,aL,bS,aQ,aO,aR,aP];intro B w00;show HY _ _ _ _ _ _ _ (bM [eu l,.val (.int .i64 wd),.val (.int .i64 most)]) _;refine HY.start ?_;have apa:=akY (wd:=wd) (most:=most) hpre;have hl0:l.length≤1000:=hpre;clear hpre;have hll:((l.map eO).length:Int)=(l.length:Int):=by simp
 unfold alz;refine HY.seq (HY.eng mixed bY (by kernel_rfl) ?_);by_cases hg:aT l=true∧0<l.length∧(0≤wd∧wd≤1000)∧(0≤most∧most≤10000)
 ·obtain⟨hB,hpos,hw,hm⟩:=hg
  have hok:iQ l wd most=(aH l wd most 0 1).isSome:=by unfold iQ;rw[hB,decide_eq_true hpos,aB.2 hw,aB.2 hm];simp
  rw[hok];rw[hB,decide_eq_true hpos,aB.2 hw,aB.2 hm]at apa;simp only[Bool.and_self]at apa;clear hok;have gbki_c55:=ag7;(refine wlk ?_;intros);refine HY.seq (HY.eng mixed bY (by kernel_rfl) ?_);dsimp only
  (refine wlk ?_;intros);refine HY.seq (HY.each (HO.pre (imm:=⟨[],[],[]⟩) 3 bY (by kernel_rfl) (by simp only[List.take_succ_cons,List.take_zero]<;>exact rfl) (by simp only[List.drop_succ_cons,List.drop_zero]<;>exact rfl) (by simp only[List.map_cons,List.map_nil]<;>exact rfl) ?_));dsimp only
  (refine wlk ?_;intros);refine HO.make rfl rfl (by decide) rfl fun b hb=>?_;dsimp only[AS.put];refine HO.pre (imm:=⟨[],[],[]⟩) 3 bY (by kernel_rfl) (by simp only[List.take_succ_cons,List.take_zero]<;>exact rfl) (by simp only[List.drop_succ_cons,List.drop_zero]<;>exact rfl) (by simp only[List.map_cons,List.map_nil]<;>exact rfl) ?_;dsimp only
  (refine wlk ?_;intros);refine HO.nil ?_;refine HY.seq (HY.eng mixed bY (by kernel_rfl) ?_);(try dsimp only);(refine wlk ?_;intros);refine HY.seq (HY.eng mixed bY (by kernel_rfl) ?_);(try dsimp only);(refine wlk ?_;intros);(try dsimp only);refine HY.seq (HY.block (HY.acC (α:=Nat×Int×List Int×Nat×Nat) (fun i=>[(0,eu l),(8,.own 0 4 0 0),(9,.own 1 3 0 0),(10,nP 1 (i.2.2.1.map pvN) i.2.2.2.1)])
   (fun i=>[(0,84,4,[.agg [eu l,iv wd,iv most,.val (.map (some b))]]),(1,86,3,[.agg [iv ((i.1:Int)-1),bv (mkA l i.1),iv i.2.1]])]++nO 3 1 (i.2.2.1.map pvN) i.2.2.2.1)
   (fun i=>i.2.2.2.2) (fun i σ=>BkI l wd most i.1 i.2.1 i.2.2.1∧(2≤i.2.2.2.2∧(i.2.2.1≠[]→2≤i.2.2.2.1∧i.2.2.2.1<i.2.2.2.2))∧∃L',σ=some (b,L')∧oW l wd most L') (fun i=>l.length-i.1) (0,0,[],0,2) ⟨BkI.start l wd most,⟨by decide,fun h=>absurd rfl h⟩,[],rfl,fun p hp=>by cases hp⟩ ?_ ?_ rfl ?_))
  ·dsimp only
   exact agi
  ·dsimp only
   rw[show((0:Nat):Int)-1=-1 from rfl,show mkA l 0=false from rfl];simp(disch:=(first|omega|(simp only[push_cast];first|done|omega))) only[push_cast,↓reduceIte,Nat.reduceEqDiff,Nat.reduceBEq,Nat.reduceAdd,Nat.reduceSub,Int.reduceToNat,List.map_nil,List.append_nil, *]
  rintro⟨a,lk,br,x,y⟩ σ ⟨hI,⟨hy,hx⟩,L',rfl,hG⟩;dsimp only at hI hy hx;have HI:=Lib.hid hI;have HG:=Lib.hid hG;have hle:=hI.le;have hlk:=hI.lk0;have hbl:=hI.len;clear hI hG;have ih:=fun(h:a≤l.length)=>ahX hB hpos hw hm (l.length-a) a lk rfl h hlk b L' HG.out;have IH:=Lib.hid (ih hle);clear ih;dsimp only
  refine HY.seq (HY.eng mixed bY (by kernel_rfl) ?_);by_cases hal:a<l.length
  ·by_cases hnil:br=[]
   ·skip
    subst hnil;simp only[List.map_nil,jH,jC,List.append_nil];(refine wlk ?_;intros);refine HY.block (HY.seq (HY.each (HO.pre (imm:=⟨[],[],[]⟩) 2 bY (by kernel_rfl) (by simp only[List.take_succ_cons,List.take_zero]<;>exact rfl) (by simp only[List.drop_succ_cons,List.drop_zero]<;>exact rfl) (by simp only[List.map_cons,List.map_nil]<;>exact rfl) ?_)));(try dsimp only);(refine wlk ?_;intros);refine HO.call (ps:=[ag4 l wd most b,.agg [iv ((a:Int)-1),bv (mkA l a),iv lk]]) (R:=fun p L'=>p=chP l a (aH l wd most a lk)∧oW l wd most L') rfl rfl ⟨_,Try.func56,rfl,rfl⟩ rfl ?_ ?_ IH.out ?_
    ·intro x e
     cases e;decide
    ·(try dsimp only)
     simp(disch:=(first|omega|(simp only[push_cast];first|done|omega))) only[push_cast,↓reduceIte,Nat.reduceEqDiff,Nat.reduceBEq,Nat.reduceAdd,Nat.reduceSub,Int.reduceToNat,yx (l:=l) (wd:=wd) (most:=most) (b:=b), *]
    rintro p L3 ⟨rfl,hL3⟩;rw[yC (show¬a=l.length by omega)];have HL3:=Lib.hid hL3;clear hL3;cases hr:aH l wd most a lk with
    |none=>
     have hno:(aH l wd most 0 1).isSome=false:=by rw[←HI.out.ok,hr];rfl
     rw[hno,if_neg (by decide)];dsimp only[aC,aN,aM,aK,AS.put];refine HO.pre (imm:=⟨[],[],[]⟩) 2 bY (by kernel_rfl) (by simp only[List.take_succ_cons,List.take_zero]<;>exact rfl) (by simp only[List.drop_succ_cons,List.drop_zero]<;>exact rfl) (by simp only[List.map_cons,List.map_nil]<;>exact rfl) ?_;(try dsimp only);(refine wlk ?_;intros);refine HO.nil ?_;refine HY.seq (HY.eng mixed bY (by kernel_rfl) ?_);(try dsimp only);(refine wlk ?_;intros);refine⟨by simp,⟨_,qV (ps:=[.val (.slice none 0 0),bv false]) ⟨nil_le _ _,PV.le_refl _,trivial⟩,?_⟩,fun b2 L2 e=>by cases e;exact hb⟩;(simp(disch:=(first|omega|(simp only[push_cast];first|done|omega))) only[push_cast,↓reduceIte,Nat.reduceEqDiff,Nat.reduceBEq,Nat.reduceAdd,Nat.reduceSub,Int.reduceToNat, *]<;>with_reducible exact rfl)
    |some r=>
     have hn:=HI.out.next hB hm.2 hal hr
     replace hn:=Lib.hid hn;have hr1:=(bZ hB hm.2 hle hr).1;have hr2:=((bZ hB hm.2 hle hr).2 hal).1;clear hr;obtain⟨r1,r2,r3⟩:=r;dsimp only at hr1 hr2;dsimp only[aC,aN,aM,aK,AS.put];refine HO.pre (imm:=⟨[],[],[]⟩) 2 bY (by kernel_rfl) (by simp only[List.take_succ_cons,List.take_zero]<;>exact rfl) (by simp only[List.drop_succ_cons,List.drop_zero]<;>exact rfl) (by simp only[List.map_cons,List.map_nil]<;>exact rfl) ?_;(try dsimp only);(refine wlk ?_;intros);refine HO.nil ?_;refine HY.seq (HY.eng mixed bY (by kernel_rfl) ?_);(try dsimp only);(refine wlk ?_;intros);refine HY.eng mixed bY (by kernel_rfl) ?_;(try dsimp only);(refine wlk ?_;intros);(try dsimp only);show∃j:Nat×Int×List Int×Nat×Nat,_;refine⟨(r2+1,r3,[(r2:Int)],y+2,y+3),⟨hn.out,⟨by dsimp only;omega,fun _=>⟨by dsimp only;omega,by dsimp only;omega⟩⟩,L3,rfl,HL3.out⟩,by dsimp only;omega,?_,?_,rfl⟩
     ·dsimp only
      rw[aF (by simp)];exact agi
     ·dsimp only
      rw[aG (by simp),show mkA l (r2+1)=(gI l r2).2.2.2.2.2.2 from rfl];simp(disch:=(first|omega|(simp only[push_cast];first|done|omega))) only[push_cast,↓reduceIte,Nat.reduceEqDiff,Nat.reduceBEq,Nat.reduceAdd,Nat.reduceSub,Int.reduceToNat,List.cons_append,List.nil_append, *]
   ·skip
    have hbp:0<(br.map pvN).length:=by rw[List.length_map];exact List.length_pos_iff.2 hnil
    obtain⟨hx2,hxy⟩:=hx hnil;rw[aF hbp,aG hbp,List.length_map];simp only[List.cons_append,List.nil_append];have hx0:¬x=0:=by omega
    have hx1:¬x=1:=by omega
    have hxy2:¬x=y:=by omega
    have hyx:¬y=x:=by omega
    (refine wlk ?_;intros);refine HY.block (HY.seq (HY.each (HO.pre (imm:=⟨[],[],[]⟩) 2 bY (by kernel_rfl) (by simp only[List.take_succ_cons,List.take_zero]<;>exact rfl) (by simp only[List.drop_succ_cons,List.drop_zero]<;>exact rfl) (by simp only[List.map_cons,List.map_nil]<;>exact rfl) ?_)));(try dsimp only);(refine wlk ?_;intros);refine HO.call (ps:=[ag4 l wd most b,.agg [iv ((a:Int)-1),bv (mkA l a),iv lk]]) (R:=fun p L'=>p=chP l a (aH l wd most a lk)∧oW l wd most L') rfl rfl ⟨_,Try.func56,rfl,rfl⟩ rfl ?_ ?_ IH.out ?_
    ·intro x e
     cases e;decide
    ·(try dsimp only)
     simp(disch:=(first|omega|(simp only[push_cast];first|done|omega))) only[push_cast,↓reduceIte,Nat.reduceEqDiff,Nat.reduceBEq,Nat.reduceAdd,Nat.reduceSub,Int.reduceToNat,yx (l:=l) (wd:=wd) (most:=most) (b:=b), *]
    rintro p L3 ⟨rfl,hL3⟩;rw[yC (show¬a=l.length by omega)];have HL3:=Lib.hid hL3;clear hL3;cases hr:aH l wd most a lk with
    |none=>
     have hno:(aH l wd most 0 1).isSome=false:=by rw[←HI.out.ok,hr];rfl
     rw[hno,if_neg (by decide)];dsimp only[aC,aN,aM,aK,AS.put];refine HO.pre (imm:=⟨[],[],[]⟩) 2 bY (by kernel_rfl) (by simp only[List.take_succ_cons,List.take_zero]<;>exact rfl) (by simp only[List.drop_succ_cons,List.drop_zero]<;>exact rfl) (by simp only[List.map_cons,List.map_nil]<;>exact rfl) ?_;(try dsimp only);(refine wlk ?_;intros);refine HO.nil ?_;refine HY.seq (HY.eng mixed bY (by kernel_rfl) ?_);(try dsimp only);(refine wlk ?_;intros);refine⟨by simp,⟨_,qV (ps:=[.val (.slice none 0 0),bv false]) ⟨nil_le _ _,PV.le_refl _,trivial⟩,?_⟩,fun b2 L2 e=>by cases e;exact hb⟩;(simp(disch:=(first|omega|(simp only[push_cast];first|done|omega))) only[push_cast,↓reduceIte,Nat.reduceEqDiff,Nat.reduceBEq,Nat.reduceAdd,Nat.reduceSub,Int.reduceToNat, *]<;>with_reducible exact rfl)
    |some r=>
     have hn:=HI.out.next hB hm.2 hal hr
     replace hn:=Lib.hid hn;have hr1:=(bZ hB hm.2 hle hr).1;have hr2:=((bZ hB hm.2 hle hr).2 hal).1;clear hr;obtain⟨r1,r2,r3⟩:=r;dsimp only at hr1 hr2;dsimp only[aC,aN,aM,aK,AS.put];refine HO.pre (imm:=⟨[],[],[]⟩) 2 bY (by kernel_rfl) (by simp only[List.take_succ_cons,List.take_zero]<;>exact rfl) (by simp only[List.drop_succ_cons,List.drop_zero]<;>exact rfl) (by simp only[List.map_cons,List.map_nil]<;>exact rfl) ?_;(try dsimp only);(refine wlk ?_;intros);refine HO.nil ?_;refine HY.seq (HY.eng mixed bY (by kernel_rfl) ?_);(try dsimp only);(refine wlk ?_;intros);refine HY.eng mixed bY (by kernel_rfl) ?_;(try dsimp only);(refine wlk ?_;intros);(try dsimp only);show∃j:Nat×Int×List Int×Nat×Nat,_;refine⟨(r2+1,r3,br++[(r2:Int)],y+2,y+3),⟨hn.out,⟨by dsimp only;omega,fun _=>⟨by dsimp only;omega,by dsimp only;omega⟩⟩,L3,rfl,HL3.out⟩,by dsimp only;omega,?_,?_,rfl⟩
     ·dsimp only
      rw[aF (by simp)];exact agi
     ·dsimp only
      rw[aG (by simp),show mkA l (r2+1)=(gI l r2).2.2.2.2.2.2 from rfl];simp(disch:=(first|omega|(simp only[push_cast];first|done|omega))) only[push_cast,↓reduceIte,Nat.reduceEqDiff,Nat.reduceBEq,Nat.reduceAdd,Nat.reduceSub,Int.reduceToNat,List.cons_append,List.nil_append, *]
  ·obtain rfl:a=l.length:=by omega
   obtain⟨hs,hbr⟩:=HI.out.last;rw[hs,if_pos rfl,hbr];have hne:br≠[]:=fun h=>by have:=HI.out.pos hpos;rw[h]at this;simp at this
   have hbp:0<(br.map pvN).length:=by rw[List.length_map];exact List.length_pos_iff.2 hne
   obtain⟨hx2,hxy⟩:=hx hne;rw[aF hbp,aG hbp,List.length_map];simp only[List.cons_append,List.nil_append];have hx0:¬x=0:=by omega
   have hx1:¬x=1:=by omega
   clear hbr hs;(refine wlk ?_;intros);refine HY.seq (HY.eng mixed bY (by kernel_rfl) ?_);(try dsimp only);(refine wlk ?_;intros);refine HY.ret ?_;refine⟨by simp,⟨_,PV.le_refl _,?_⟩,fun b2 L2 e=>by cases e;exact hb⟩;(try dsimp only);(simp(disch:=(first|omega|(simp only[push_cast];first|done|omega))) only[push_cast,↓reduceIte,Nat.reduceEqDiff,Nat.reduceBEq,Nat.reduceAdd,Nat.reduceSub,Int.reduceToNat, *]<;>with_reducible exact rfl)
 ·have hno:iQ l wd most=false:=by
   cases h:iQ l wd most with
   |false=>rfl
   |true=>obtain⟨h1,h2,h3,h4,-⟩:=fu.1 h;exact absurd ⟨h1,h2,h3,h4⟩ hg
  have hno2:(aT l&&(decide (0<l.length)&&(inB wd 0 1000&&inB most 0 10000)))=false:=by
   cases h:(aT l&&(decide (0<l.length)&&(inB wd 0 1000&&inB most 0 10000)))with
   |false=>rfl
   |true=>simp only[Bool.and_eq_true,decide_eq_true_eq,aB]at h;exact absurd h hg
  rw[hno,if_neg (by decide)];rw[hno2]at apa;clear hno hno2 hg;have gbki_c55:=ag7;(refine wlk ?_;intros);refine HY.seq (HY.eng mixed bY (by kernel_rfl) ?_);(try dsimp only);(refine wlk ?_;intros);refine⟨by simp,⟨_,qV (ps:=[.val (.slice none 0 0),bv false]) ⟨nil_le _ _,PV.le_refl _,trivial⟩,?_⟩,fun b2 L2 e=>by cases e⟩;(simp(disch:=(first|omega|(simp only[push_cast];first|done|omega))) only[push_cast,↓reduceIte,Nat.reduceEqDiff,Nat.reduceBEq,Nat.reduceAdd,Nat.reduceSub,Int.reduceToNat, *]<;>with_reducible exact rfl)
def y9 (ws pats:LS):Bool:=bD ws&&(bq pats&&decide (0<ws.length))
def aiK:Fun:=F2 dSs dSs fun ws pats=>if lU ws∧lU pats then some (.tup [.lst true 7 ((if y9 ws pats=true then piR ws pats else []).map eO),.lst true 1 ((if y9 ws pats=true then txR ws pats else []).map fun s=> .val (.string s)),bv (nX ws pats)])else none
theorem aiY {ws pats:LS} (h:lU ws∧lU pats):aiK [.lst false 1 (ws.map fun s=> .val (.string s)),.lst false 1 (pats.map fun s=> .val (.string s))]=some (.tup [.lst true 7 ((if y9 ws pats=true then piR ws pats else []).map eO),.lst true 1 ((if y9 ws pats=true then txR ws pats else []).map fun s=> .val (.string s)),.val (.bool (nX ws pats))]):=(gD (A:=dSs) (B:=dSs) ws pats).trans (if_pos h)
theorem xu {w:ByteArray} {pats:LS} (h1:cu w=true) (h2:bq pats=true):0<(bH w pats).length:=by unfold bH;rw[if_pos (jl.2 ⟨h1,h2⟩)];unfold yS;rw[agC];omega
theorem ad3 {ws pats:LS} (h1:bD ws=true) (h2:bq pats=true):∀k,k≤ws.length→0<k→0<(txK ws pats k).length
 |0,_,h=>by omega
 |k+1,hk,_=>by have:=xu (pats:=pats) (acf h1 (k:=k) (by omega)) h2;rw[txK,List.length_append];omega
theorem anf {ws pats:LS} (h1:bD ws=true) (h2:bq pats=true) {k:Nat} (hk:k≤ws.length) (h:0<k):0<(piK ws pats k).length:=by have h3:=ad3 h1 h2 k hk h;rw[←alj]at h3;exact Nat.lt_of_lt_of_le h3 (List.length_filter_le _ _)
theorem sF {l:LS} {k:Nat} (h:k<l.length):l.take (k+1)=l.take k++[l[k]?.getD .empty]:=by rw[List.take_succ_eq_append_getElem h,List.getElem?_eq_getElem h];rfl
theorem agn (ps:LS):∀{k:Nat},0<k→0<(wiK ps k).length
 |0,h=>by omega
 |k+1,_=>by rw[wiK,List.length_append,List.length_singleton];omega
def ao7:Ctx:={fn:=aZ [(33,gV),(34,eZ),(53,φPr),(54,φWw)],io:=aZ []}
theorem amv:au Try.prog ao7:=okΓ (fC Try.func33 iX (fC Try.func34 cK (fC Try.func53 agE (fC Try.func54 aga aj)))) aj
def uI:=ah (Γ:=ao7) (f:=33) (φ:=gV) rfl
def tQ:=ah (Γ:=ao7) (f:=34) (φ:=eZ) rfl
def uG:=ah (Γ:=ao7) (f:=53) (φ:=φPr) rfl
def uO:=ah (Γ:=ao7) (f:=54) (φ:=φWw) rfl
theorem ac5:Sound Try.prog 37 aiK:=by
 refine jM mixed amv Try.func37 rfl 81 rfl [.tmp 4,.tmp 5,.tmp 6] rfl (by kernel_rfl) fun ps r hr=>?_;obtain⟨ws,pats,rfl,hpre,rfl⟩:=fQ hr;refine⟨by simp,?_⟩;simp only[dIs,dUs,dSs,bQ,bU,bP,bT,aL,bS,aQ,aO,aR,aP];have ap1:=kN hpre.1;have ap2:=gu hpre.2;have hwl0:=hpre.1.1;cases hw:bD ws with
 |false=>
  have hA:y9 ws pats=false:=by unfold y9;rw[hw];rfl
  have hB:nX ws pats=false:=by unfold nX;rw[hw];rfl
  rw[hw]at ap1;rw[hB,hA];simp only[Bool.false_eq_true,if_false,List.map_nil];clear hpre hw hB hA;have gpit_c33:=uI;have gpit_c34:=tQ;have gpit_c53:=uG;have gpit_c54:=uO;(refine wlk ?_;intros);all_goals((with_reducible apply dA (by first|exact .inl rfl|exact .inr rfl));(simp(disch:=(first|omega|(simp only[push_cast];first|done|omega))) only[push_cast,↓reduceIte,Nat.reduceEqDiff,Nat.reduceBEq,Nat.reduceAdd,Nat.reduceSub,Int.reduceToNat, *]<;>with_reducible exact rfl))
  all_goals exact qV ⟨nil_le _ _,nil_le _ _,PV.le_refl _,trivial⟩
 |true=>
 cases hp:bq pats with
 |false=>
  have hA:y9 ws pats=false:=by unfold y9;rw[hw,hp];rfl
  have hB:nX ws pats=false:=by unfold nX;rw[hw,hp];rfl
  rw[hw]at ap1;rw[hp]at ap2;rw[hB,hA];simp only[Bool.false_eq_true,if_false,List.map_nil];clear hpre hw hp hB hA;have gpit_c33:=uI;have gpit_c34:=tQ;have gpit_c53:=uG;have gpit_c54:=uO;(refine wlk ?_;intros);all_goals((with_reducible apply dA (by first|exact .inl rfl|exact .inr rfl));(simp(disch:=(first|omega|(simp only[push_cast];first|done|omega))) only[push_cast,↓reduceIte,Nat.reduceEqDiff,Nat.reduceBEq,Nat.reduceAdd,Nat.reduceSub,Int.reduceToNat, *]<;>with_reducible exact rfl))
  all_goals exact qV ⟨nil_le _ _,nil_le _ _,PV.le_refl _,trivial⟩
 |true=>
 by_cases hz:ws.length=0
 ·have hA:y9 ws pats=false:=by unfold y9;rw[hw,hp,hz];rfl
  have hB:nX ws pats=false:=by unfold nX;rw[hw,hp,hz];rfl
  rw[hw]at ap1;rw[hp]at ap2;rw[hB,hA];simp only[Bool.false_eq_true,if_false,List.map_nil];clear hpre hw hp hB hA;have gpit_c33:=uI;have gpit_c34:=tQ;have gpit_c53:=uG;have gpit_c54:=uO;(refine wlk ?_;intros);all_goals((with_reducible apply dA (by first|exact .inl rfl|exact .inr rfl));(simp(disch:=(first|omega|(simp only[push_cast];first|done|omega))) only[push_cast,↓reduceIte,Nat.reduceEqDiff,Nat.reduceBEq,Nat.reduceAdd,Nat.reduceSub,Int.reduceToNat, *]<;>with_reducible exact rfl))
  all_goals exact qV ⟨nil_le _ _,nil_le _ _,PV.le_refl _,trivial⟩
 ·have hB:nX ws pats=decide ((piR ws pats).length≤60):=by unfold nX;rw[hw,hp,decide_eq_true (show 0<ws.length by omega)];rfl
  have hA:y9 ws pats=true:=by unfold y9;rw[hw,hp,decide_eq_true (show 0<ws.length by omega)];rfl
  have hwl:=qU hw;have hap:∀k,k<ws.length→φPr [.val (.string (ws[k]?.getD .empty)),.lst false 1 (pats.map fun s=> .val (.string s))]=some (.lst true 1 ((bH (ws[k]?.getD .empty) pats).map fun s=> .val (.string s))):=fun k hk=>aaM ⟨hpre.1.2 k,hpre.2⟩;have hpp:∀k:Nat,k<ws.length→0<(bH (ws[k]?.getD ByteArray.empty) pats).length:=fun k hk=>xu (acf hw hk) hp;have hpw:∀k j:Nat,j<(bH (ws[k]?.getD ByteArray.empty) pats).length→((bH (ws[k]?.getD ByteArray.empty) pats)[j]?.getD .empty).size≤1048576:=fun k j hj=>by have:=(aS (wP hj)).2.2;omega
  have hpl:∀k:Nat,(bH (ws[k]?.getD ByteArray.empty) pats).length≤21:=fun k=>iY _ _;have htp:=fun k hk h0=>ad3 hw hp k hk h0;have hip:=fun k hk h0=>anf (k:=k) hw hp hk h0;have htl:=aak ws pats;have hil:=aaw ws pats;rw[hw]at ap1;rw[hp]at ap2;rw[hB,hA];simp only[if_true];have hR:piR ws pats=piK ws pats ws.length++[(3,0,0,0,0,10000,false),(2,0,1,0,1,0,false),(3,0,0,0,0,-10000,false)]:=rfl;have hT:txR ws pats=txK ws pats ws.length:=rfl;rw[hR,hT];clear hpre hw hp hB hA hR hT;have gpit_c33:=uI;have gpit_c34:=tQ;have gpit_c53:=uG;have gpit_c54:=uO;(refine wlk ?_;intros);refine aD (α:=Nat×Nat×Nat×Nat) mixed (fun z=>[(1,.lst false 1 (pats.map pvS)),(7,nP 7 ((piK ws pats z.1).map eO) z.2.1),(8,nP 1 ((txK ws pats z.1).map pvS) z.2.2.1),(26,.lst false 1 (ws.map pvS)),(27,iv ws.length),(28,iv z.1)])
   (fun z=>nO 58 7 ((piK ws pats z.1).map eO) z.2.1++nO 9 1 ((txK ws pats z.1).map pvS) z.2.2.1) (fun z=>z.2.2.2)
   (fun z=>z.1≤ws.length∧(0<z.1→z.2.1<z.2.2.2∧z.2.2.1<z.2.2.2∧¬z.2.1=z.2.2.1)) (fun z=>ws.length-z.1) (by kernel_rfl) (0,0,0,0) ⟨Nat.zero_le _,by simp⟩ ?_ ?_ rfl ?_
  ·simp(disch:=(first|omega|(simp only[push_cast];first|done|omega))) only[push_cast,↓reduceIte,Nat.reduceEqDiff,Nat.reduceBEq,Nat.reduceAdd,Nat.reduceSub,Int.reduceToNat,piK,txK,List.map_nil, *]
  ·simp(disch:=(first|omega|(simp only[push_cast];first|done|omega))) only[push_cast,↓reduceIte,Nat.reduceEqDiff,Nat.reduceBEq,Nat.reduceAdd,Nat.reduceSub,Int.reduceToNat,piK,txK,List.map_nil,List.append_nil, *]
  rintro⟨k,x,xt,y⟩ ⟨hk,hxy⟩;dsimp only at hk hxy;by_cases h0:k<ws.length
  ·have apr:=hap k h0
   have hps:=hpw k;have hpl2:=hpl k;have hpp2:=hpp k h0;have hKI0:piK ws pats (k+1)=(if k=0 then piK ws pats k else piK ws pats k++[(2,4,3,1,0,0,false)])++wiK (bH (ws[k]?.getD .empty) pats) (bH (ws[k]?.getD .empty) pats).length:=rfl;have hKT:txK ws pats (k+1)=txK ws pats k++bH (ws[k]?.getD .empty) pats:=rfl;have hpos:=Lib.hid (And.intro (hip (k+1) (by omega) (by omega)) (htp (k+1) (by omega) (by omega)));have hlk:=hil k;have hlt:=htl k;generalize bH (ws[k]?.getD .empty) pats=ps at*;have hwk:=vS ps;by_cases hk0:k=0
   ·rw[if_pos hk0]at hKI0
    have hI0:piK ws pats k=[]:=by rw[hk0];rfl
    have hT0:txK ws pats k=[]:=by rw[hk0];rfl
    obtain⟨A,hA⟩:∃A,A=piK ws pats k:=⟨_,rfl⟩;obtain⟨T,hT⟩:∃T,T=txK ws pats k:=⟨_,rfl⟩;have hAT:(0<A.length∧0<T.length)∨(A.length=0∧T.length=0):=.inr (by rw[hA,hT,hI0,hT0];exact⟨rfl,rfl⟩);rw[←hA]at hKI0 hlk;rw[←hT]at hKT hlt;have hAe:A=[]:=hA.trans hI0;have hTe:T=[]:=hT.trans hT0;rw[hI0,hT0];replace hAe:=Lib.hid hAe;replace hTe:=Lib.hid hTe;have hKI:=Lib.hid hKI0;replace hKT:=Lib.hid hKT;replace hI0:=Lib.hid hI0;replace hk0:k<1:=by omega
    clear hKI0 hA hT hT0 hxy hap hpp hpw hpl hil htl hip htp;(refine wlk ?_;intros);refine aD (α:=Nat×Nat×Nat×Nat) mixed (fun z=>[(1,.lst false 1 (pats.map pvS)),(7,nP 7 ((A++wiK ps z.1).map eO) z.2.1),(8,nP 1 ((T++ps.take z.1).map pvS) z.2.2.1),(26,.lst false 1 (ws.map pvS)),(27,iv ws.length),(28,iv k),(42,.lst true 1 (ps.map pvS)),(43,iv ps.length),(44,iv z.1)])
     (fun z=>nO 58 7 ((A++wiK ps z.1).map eO) z.2.1++nO 9 1 ((T++ps.take z.1).map pvS) z.2.2.1) (fun z=>z.2.2.2)
     (fun z=>z.1≤ps.length∧(0<(A++wiK ps z.1).length→z.2.1<z.2.2.2∧z.2.2.1<z.2.2.2∧¬z.2.1=z.2.2.1)) (fun z=>ps.length-z.1) (by kernel_rfl) (0,x,xt,y) ⟨Nat.zero_le _,fun h=>by rw[hAe.out]at h;simp[wiK]at h⟩ ?_ ?_ rfl ?_
    ·simp(disch:=(first|omega|(simp only[push_cast];first|done|omega))) only[push_cast,↓reduceIte,Nat.reduceEqDiff,Nat.reduceBEq,Nat.reduceAdd,Nat.reduceSub,Int.reduceToNat,wiK,List.take_zero,List.append_nil,hAe.out,hTe.out,List.map_nil, *]
    ·simp(disch:=(first|omega|(simp only[push_cast];first|done|omega))) only[push_cast,↓reduceIte,Nat.reduceEqDiff,Nat.reduceBEq,Nat.reduceAdd,Nat.reduceSub,Int.reduceToNat,wiK,List.take_zero,List.append_nil,hAe.out,hTe.out,List.map_nil, *]
    clear hI0;rintro⟨j,x2,xt2,y2⟩ ⟨hj,hx2⟩;dsimp only at hj hx2;have hwj:=hwk j;by_cases hjl:j<ps.length
    ·have hn:A++wiK ps (j+1)=(if j=0 then A++wiK ps j else(A++wiK ps j)++[(3,3,0,0,0,50,true)])++[(1,nR (ps[j]?.getD .empty),0,0,0,0,false)]:=by rw[wiK];split<;>simp
     have ht:T++ps.take (j+1)=(T++ps.take j)++[ps[j]?.getD .empty]:=by rw[sF hjl,List.append_assoc]
     have h3:(0<(A++wiK ps j).length∧0<(T++ps.take j).length)∨((A++wiK ps j)=[]∧(T++ps.take j)=[]∧j<1):=by
      by_cases hj0:j=0
      ·subst hj0
       rcases hAT with h|h
       ·exact .inl ⟨by rw[List.length_append];omega,by rw[List.length_append];omega⟩
       ·exact .inr ⟨by rw[List.eq_nil_of_length_eq_zero h.1];rfl,by rw[List.eq_nil_of_length_eq_zero h.2];rfl,by omega⟩
      ·refine .inl ⟨by rw[List.length_append];have:=agn ps (k:=j) (by omega);omega,by rw[List.length_append,List.length_take];omega⟩
     have hil2:(A++wiK ps j).length≤700:=by rw[List.length_append];omega
     have htl2:(T++ps.take j).length≤400:=by rw[List.length_append,List.length_take];omega
     have apw:=aaq (hps j hjl);have hnx:0<(A++wiK ps (j+1)).length∧0<(T++ps.take (j+1)).length:=⟨by rw[hn,List.length_append,List.length_singleton];omega,by rw[ht,List.length_append,List.length_singleton];omega⟩;replace hnx:=Lib.hid hnx;replace hn:=Lib.hid hn;replace ht:=Lib.hid ht;generalize A++wiK ps j=its at*;generalize T++ps.take j=tx at*;clear hwj hwk hps;rcases h3 with⟨hi0,ht0⟩|⟨rfl,rfl,hj1⟩
     ·obtain⟨x3,x4,x5⟩:=hx2 hi0
      have hap:0<(its.map eO).length:=by rw[List.length_map];omega
      have hbp:0<(tx.map pvS).length:=by rw[List.length_map];omega
      have x6:¬xt2=x2:=fun q=>x5 q.symm;clear hx2;simp only[aF hap,aF hbp,aG hap,aG hbp,List.length_map,List.cons_append,List.nil_append];by_cases hj0:j=0
      ·have hn2:=hn.out
       rw[if_pos hj0]at hn2;replace hn2:=Lib.hid hn2;replace hj0:j<1:=by omega
       (refine wlk ?_;intros);refine⟨(j+1,y2+1,y2+3,y2+4),⟨by dsimp only;omega,fun _=>by dsimp only;omega⟩,by dsimp only;omega,?_,?_,rfl⟩
       ·have h1:=hnx.out
        have hap3:0<((A++wiK ps (j+1)).map eO).length:=by rw[List.length_map];exact h1.1
        have hbp3:0<((T++ps.take (j+1)).map pvS).length:=by rw[List.length_map];exact h1.2
        dsimp only
        rw[aF hap3,aF hbp3,hn2.out,ht.out];exact agr
       ·have h1:=hnx.out
        have hap3:0<((A++wiK ps (j+1)).map eO).length:=by rw[List.length_map];exact h1.1
        have hbp3:0<((T++ps.take (j+1)).map pvS).length:=by rw[List.length_map];exact h1.2
        dsimp only
        rw[aG hap3,aG hbp3,hn2.out,ht.out];simp(disch:=(first|omega|(simp only[push_cast];first|done|omega))) only[push_cast,↓reduceIte,Nat.reduceEqDiff,Nat.reduceBEq,Nat.reduceAdd,Nat.reduceSub,Int.reduceToNat,List.cons_append,List.nil_append, *]
      ·have hn2:=hn.out
       rw[if_neg hj0]at hn2;replace hn2:=Lib.hid hn2;(refine wlk ?_;intros);refine⟨(j+1,y2+3,y2+5,y2+6),⟨by dsimp only;omega,fun _=>by dsimp only;omega⟩,by dsimp only;omega,?_,?_,rfl⟩
       ·have h1:=hnx.out
        have hap3:0<((A++wiK ps (j+1)).map eO).length:=by rw[List.length_map];exact h1.1
        have hbp3:0<((T++ps.take (j+1)).map pvS).length:=by rw[List.length_map];exact h1.2
        dsimp only
        rw[aF hap3,aF hbp3,hn2.out,ht.out];exact agr
       ·have h1:=hnx.out
        have hap3:0<((A++wiK ps (j+1)).map eO).length:=by rw[List.length_map];exact h1.1
        have hbp3:0<((T++ps.take (j+1)).map pvS).length:=by rw[List.length_map];exact h1.2
        dsimp only
        rw[aG hap3,aG hbp3,hn2.out,ht.out];simp(disch:=(first|omega|(simp only[push_cast];first|done|omega))) only[push_cast,↓reduceIte,Nat.reduceEqDiff,Nat.reduceBEq,Nat.reduceAdd,Nat.reduceSub,Int.reduceToNat,List.cons_append,List.nil_append, *]
     ·have hn2:=hn.out
      rw[if_pos (show j=0 by omega)]at hn2;replace hn2:=Lib.hid hn2;clear hx2;(refine wlk ?_;intros);refine⟨(j+1,y2+1,y2+3,y2+4),⟨by dsimp only;omega,fun _=>by dsimp only;omega⟩,by dsimp only;omega,?_,?_,rfl⟩
      ·have h1:=hnx.out
       have hap3:0<((A++wiK ps (j+1)).map eO).length:=by rw[List.length_map];exact h1.1
       have hbp3:0<((T++ps.take (j+1)).map pvS).length:=by rw[List.length_map];exact h1.2
       dsimp only
       rw[aF hap3,aF hbp3,hn2.out,ht.out];exact agr
      ·have h1:=hnx.out
       have hap3:0<((A++wiK ps (j+1)).map eO).length:=by rw[List.length_map];exact h1.1
       have hbp3:0<((T++ps.take (j+1)).map pvS).length:=by rw[List.length_map];exact h1.2
       dsimp only
       rw[aG hap3,aG hbp3,hn2.out,ht.out];simp(disch:=(first|omega|(simp only[push_cast];first|done|omega))) only[push_cast,↓reduceIte,Nat.reduceEqDiff,Nat.reduceBEq,Nat.reduceAdd,Nat.reduceSub,Int.reduceToNat,List.cons_append,List.nil_append, *]
    ·obtain rfl:j=ps.length:=by omega
     rw[List.take_length]at*;rw[←hKI.out,←hKT.out]at*;obtain⟨hi2,ht2⟩:=hpos.out;obtain⟨x3,x4,x5⟩:=hx2 hi2;have x6:¬xt2=x2:=fun q=>x5 q.symm;have hap:0<((piK ws pats (k+1)).map eO).length:=by rw[List.length_map];omega
     have hbp:0<((txK ws pats (k+1)).map pvS).length:=by rw[List.length_map];omega
     clear hx2 hwk hps;simp only[aF hap,aF hbp,aG hap,aG hbp,List.length_map,List.cons_append,List.nil_append];(refine wlk ?_;intros);refine⟨(k+1,x2,xt2,y2),⟨by dsimp only;omega,fun _=>⟨x3,x4,x5⟩⟩,by dsimp only;omega,?_,?_,rfl⟩
     ·simp(disch:=(first|omega|(simp only[push_cast];first|done|omega))) only[push_cast,↓reduceIte,Nat.reduceEqDiff,Nat.reduceBEq,Nat.reduceAdd,Nat.reduceSub,Int.reduceToNat,aF hap,aF hbp, *]
     ·simp(disch:=(first|omega|(simp only[push_cast];first|done|omega))) only[push_cast,↓reduceIte,Nat.reduceEqDiff,Nat.reduceBEq,Nat.reduceAdd,Nat.reduceSub,Int.reduceToNat,aG hap,aG hbp,List.cons_append,List.nil_append, *]
   ·rw[if_neg hk0]at hKI0
    have hi0:=hip k hk (by omega);have ht0:=htp k hk (by omega);obtain⟨x3,x4,x5⟩:=hxy (by omega);have x6:¬xt=x:=fun q=>x5 q.symm;obtain⟨A,hA⟩:∃A,A=piK ws pats k++[(2,4,3,1,0,0,false)]:=⟨_,rfl⟩;rw[←hA]at hKI0;have hAl:A.length=(piK ws pats k).length+1:=by rw[hA];simp
    generalize piK ws pats k=P at*;generalize txK ws pats k=T at*;have hAT:(0<A.length∧0<T.length)∨(A.length=0∧T.length=0):=.inl ⟨by omega,ht0⟩;have hap1:0<(P.map eO).length:=by rw[List.length_map];omega
    have hbp1:0<(T.map pvS).length:=by rw[List.length_map];omega
    have hap2:0<((A++wiK ps 0).map eO).length:=by rw[List.length_map,List.length_append];omega
    have hbp2:0<((T++ps.take 0).map pvS).length:=by rw[List.length_map,List.length_append];omega
    simp only[aF hap1,aF hbp1,aG hap1,aG hbp1,List.length_map,List.cons_append,List.nil_append];have hlkP:P.length≤600:=by omega
    replace hlk:A.length≤43*k+1:=by omega
    have hA1:A++wiK ps 0=P++[(2,4,3,1,0,0,false)]:=by rw[hA];exact List.append_nil _
    have hT1:T++ps.take 0=T:=List.append_nil _;have hI0:=Lib.hid (And.intro hA1 hT1);have hKI:=Lib.hid hKI0;replace hKT:=Lib.hid hKT;replace hA:=Lib.hid hA;replace hAl:=Lib.hid hAl;clear hKI0 hxy hap hpp hpw hpl hil htl hip htp hA1 hT1;replace hk0:0<k:=by omega
    (refine wlk ?_;intros);refine aD (α:=Nat×Nat×Nat×Nat) mixed (fun z=>[(1,.lst false 1 (pats.map pvS)),(7,nP 7 ((A++wiK ps z.1).map eO) z.2.1),(8,nP 1 ((T++ps.take z.1).map pvS) z.2.2.1),(26,.lst false 1 (ws.map pvS)),(27,iv ws.length),(28,iv k),(42,.lst true 1 (ps.map pvS)),(43,iv ps.length),(44,iv z.1)])
     (fun z=>nO 58 7 ((A++wiK ps z.1).map eO) z.2.1++nO 9 1 ((T++ps.take z.1).map pvS) z.2.2.1) (fun z=>z.2.2.2)
     (fun z=>z.1≤ps.length∧(0<(A++wiK ps z.1).length→z.2.1<z.2.2.2∧z.2.2.1<z.2.2.2∧¬z.2.1=z.2.2.1)) (fun z=>ps.length-z.1) (by kernel_rfl) (0,y+1,xt,y+2) ⟨Nat.zero_le _,fun _=>by dsimp only;omega⟩ ?_ ?_ rfl ?_
    ·dsimp only;rw[aF hap2,aF hbp2,hI0.out.1,hI0.out.2];exact agr
    ·dsimp only;rw[aG hap2,aG hbp2,hI0.out.1,hI0.out.2];simp(disch:=(first|omega|(simp only[push_cast];first|done|omega))) only[push_cast,↓reduceIte,Nat.reduceEqDiff,Nat.reduceBEq,Nat.reduceAdd,Nat.reduceSub,Int.reduceToNat,List.cons_append,List.nil_append, *]
    clear hI0;rintro⟨j,x2,xt2,y2⟩ ⟨hj,hx2⟩;dsimp only at hj hx2;have hwj:=hwk j;by_cases hjl:j<ps.length
    ·have hn:A++wiK ps (j+1)=(if j=0 then A++wiK ps j else(A++wiK ps j)++[(3,3,0,0,0,50,true)])++[(1,nR (ps[j]?.getD .empty),0,0,0,0,false)]:=by rw[wiK];split<;>simp
     have ht:T++ps.take (j+1)=(T++ps.take j)++[ps[j]?.getD .empty]:=by rw[sF hjl,List.append_assoc]
     have h3:(0<(A++wiK ps j).length∧0<(T++ps.take j).length)∨((A++wiK ps j)=[]∧(T++ps.take j)=[]∧j<1):=by
      by_cases hj0:j=0
      ·subst hj0
       rcases hAT with h|h
       ·exact .inl ⟨by rw[List.length_append];omega,by rw[List.length_append];omega⟩
       ·exact .inr ⟨by rw[List.eq_nil_of_length_eq_zero h.1];rfl,by rw[List.eq_nil_of_length_eq_zero h.2];rfl,by omega⟩
      ·refine .inl ⟨by rw[List.length_append];have:=agn ps (k:=j) (by omega);omega,by rw[List.length_append,List.length_take];omega⟩
     have hil2:(A++wiK ps j).length≤700:=by rw[List.length_append];omega
     have htl2:(T++ps.take j).length≤400:=by rw[List.length_append,List.length_take];omega
     have apw:=aaq (hps j hjl);have hnx:0<(A++wiK ps (j+1)).length∧0<(T++ps.take (j+1)).length:=⟨by rw[hn,List.length_append,List.length_singleton];omega,by rw[ht,List.length_append,List.length_singleton];omega⟩;replace hnx:=Lib.hid hnx;replace hn:=Lib.hid hn;replace ht:=Lib.hid ht;generalize A++wiK ps j=its at*;generalize T++ps.take j=tx at*;clear hwj hwk hps;rcases h3 with⟨hi0,ht0⟩|⟨rfl,rfl,hj1⟩
     ·obtain⟨x3,x4,x5⟩:=hx2 hi0
      have hap:0<(its.map eO).length:=by rw[List.length_map];omega
      have hbp:0<(tx.map pvS).length:=by rw[List.length_map];omega
      have x6:¬xt2=x2:=fun q=>x5 q.symm;clear hx2;simp only[aF hap,aF hbp,aG hap,aG hbp,List.length_map,List.cons_append,List.nil_append];by_cases hj0:j=0
      ·have hn2:=hn.out
       rw[if_pos hj0]at hn2;replace hn2:=Lib.hid hn2;replace hj0:j<1:=by omega
       (refine wlk ?_;intros);refine⟨(j+1,y2+1,y2+3,y2+4),⟨by dsimp only;omega,fun _=>by dsimp only;omega⟩,by dsimp only;omega,?_,?_,rfl⟩
       ·have h1:=hnx.out
        have hap3:0<((A++wiK ps (j+1)).map eO).length:=by rw[List.length_map];exact h1.1
        have hbp3:0<((T++ps.take (j+1)).map pvS).length:=by rw[List.length_map];exact h1.2
        dsimp only
        rw[aF hap3,aF hbp3,hn2.out,ht.out];exact agr
       ·have h1:=hnx.out
        have hap3:0<((A++wiK ps (j+1)).map eO).length:=by rw[List.length_map];exact h1.1
        have hbp3:0<((T++ps.take (j+1)).map pvS).length:=by rw[List.length_map];exact h1.2
        dsimp only
        rw[aG hap3,aG hbp3,hn2.out,ht.out];simp(disch:=(first|omega|(simp only[push_cast];first|done|omega))) only[push_cast,↓reduceIte,Nat.reduceEqDiff,Nat.reduceBEq,Nat.reduceAdd,Nat.reduceSub,Int.reduceToNat,List.cons_append,List.nil_append, *]
      ·have hn2:=hn.out
       rw[if_neg hj0]at hn2;replace hn2:=Lib.hid hn2;(refine wlk ?_;intros);refine⟨(j+1,y2+3,y2+5,y2+6),⟨by dsimp only;omega,fun _=>by dsimp only;omega⟩,by dsimp only;omega,?_,?_,rfl⟩
       ·have h1:=hnx.out
        have hap3:0<((A++wiK ps (j+1)).map eO).length:=by rw[List.length_map];exact h1.1
        have hbp3:0<((T++ps.take (j+1)).map pvS).length:=by rw[List.length_map];exact h1.2
        dsimp only
        rw[aF hap3,aF hbp3,hn2.out,ht.out];exact agr
       ·have h1:=hnx.out
        have hap3:0<((A++wiK ps (j+1)).map eO).length:=by rw[List.length_map];exact h1.1
        have hbp3:0<((T++ps.take (j+1)).map pvS).length:=by rw[List.length_map];exact h1.2
        dsimp only
        rw[aG hap3,aG hbp3,hn2.out,ht.out];simp(disch:=(first|omega|(simp only[push_cast];first|done|omega))) only[push_cast,↓reduceIte,Nat.reduceEqDiff,Nat.reduceBEq,Nat.reduceAdd,Nat.reduceSub,Int.reduceToNat,List.cons_append,List.nil_append, *]
     ·have hn2:=hn.out
      rw[if_pos (show j=0 by omega)]at hn2;replace hn2:=Lib.hid hn2;clear hx2;(refine wlk ?_;intros);refine⟨(j+1,y2+1,y2+3,y2+4),⟨by dsimp only;omega,fun _=>by dsimp only;omega⟩,by dsimp only;omega,?_,?_,rfl⟩
      ·have h1:=hnx.out
       have hap3:0<((A++wiK ps (j+1)).map eO).length:=by rw[List.length_map];exact h1.1
       have hbp3:0<((T++ps.take (j+1)).map pvS).length:=by rw[List.length_map];exact h1.2
       dsimp only
       rw[aF hap3,aF hbp3,hn2.out,ht.out];exact agr
      ·have h1:=hnx.out
       have hap3:0<((A++wiK ps (j+1)).map eO).length:=by rw[List.length_map];exact h1.1
       have hbp3:0<((T++ps.take (j+1)).map pvS).length:=by rw[List.length_map];exact h1.2
       dsimp only
       rw[aG hap3,aG hbp3,hn2.out,ht.out];simp(disch:=(first|omega|(simp only[push_cast];first|done|omega))) only[push_cast,↓reduceIte,Nat.reduceEqDiff,Nat.reduceBEq,Nat.reduceAdd,Nat.reduceSub,Int.reduceToNat,List.cons_append,List.nil_append, *]
    ·obtain rfl:j=ps.length:=by omega
     rw[List.take_length]at*;rw[←hKI.out,←hKT.out]at*;obtain⟨hi2,ht2⟩:=hpos.out;obtain⟨x3,x4,x5⟩:=hx2 hi2;have x6:¬xt2=x2:=fun q=>x5 q.symm;have hap:0<((piK ws pats (k+1)).map eO).length:=by rw[List.length_map];omega
     have hbp:0<((txK ws pats (k+1)).map pvS).length:=by rw[List.length_map];omega
     clear hx2 hwk hps;simp only[aF hap,aF hbp,aG hap,aG hbp,List.length_map,List.cons_append,List.nil_append];(refine wlk ?_;intros);refine⟨(k+1,x2,xt2,y2),⟨by dsimp only;omega,fun _=>⟨x3,x4,x5⟩⟩,by dsimp only;omega,?_,?_,rfl⟩
     ·simp(disch:=(first|omega|(simp only[push_cast];first|done|omega))) only[push_cast,↓reduceIte,Nat.reduceEqDiff,Nat.reduceBEq,Nat.reduceAdd,Nat.reduceSub,Int.reduceToNat,aF hap,aF hbp, *]
     ·simp(disch:=(first|omega|(simp only[push_cast];first|done|omega))) only[push_cast,↓reduceIte,Nat.reduceEqDiff,Nat.reduceBEq,Nat.reduceAdd,Nat.reduceSub,Int.reduceToNat,aG hap,aG hbp,List.cons_append,List.nil_append, *]
  ·obtain rfl:k=ws.length:=by omega
   have hi0:=hip _ (Nat.le_refl _) (by omega);have ht0:=htp _ (Nat.le_refl _) (by omega);obtain⟨x3,x4,x5⟩:=hxy (by omega);have x6:¬xt=x:=fun q=>x5 q.symm;have hlk:=hil ws.length;have hlt:=htl ws.length;generalize piK ws pats ws.length=P at*;generalize txK ws pats ws.length=T at*;have hap1:0<(P.map eO).length:=by rw[List.length_map];omega
   have hbp1:0<(T.map pvS).length:=by rw[List.length_map];omega
   simp only[aF hap1,aF hbp1,aG hap1,aG hbp1,List.length_map,List.cons_append,List.nil_append];clear hap hpp hpw hpl hil htl hip htp hxy;by_cases h60:P.length+3≤60
   ·rw[decide_eq_true (by simpa using h60)]
    (refine wlk ?_;intros);all_goals((with_reducible apply dA (by first|exact .inl rfl|exact .inr rfl));(simp(disch:=(first|omega|(simp only[push_cast];first|done|omega))) only[push_cast,↓reduceIte,Nat.reduceEqDiff,Nat.reduceBEq,Nat.reduceAdd,Nat.reduceSub,Int.reduceToNat, *]<;>with_reducible exact rfl))
    all_goals(rw[show decide ((P.length:Int)+1+1+1≤60)=true from decide_eq_true (by omega)];exact PV.le_refl _)
   ·rw[decide_eq_false (by simpa using h60)]
    (refine wlk ?_;intros);all_goals((with_reducible apply dA (by first|exact .inl rfl|exact .inr rfl));(simp(disch:=(first|omega|(simp only[push_cast];first|done|omega))) only[push_cast,↓reduceIte,Nat.reduceEqDiff,Nat.reduceBEq,Nat.reduceAdd,Nat.reduceSub,Int.reduceToNat, *]<;>with_reducible exact rfl))
    all_goals(rw[show decide ((P.length:Int)+1+1+1≤60)=false from decide_eq_false (by omega)];exact PV.le_refl _)
end
end Go.Proofs.Ytmmafcjjlbgnkaa
