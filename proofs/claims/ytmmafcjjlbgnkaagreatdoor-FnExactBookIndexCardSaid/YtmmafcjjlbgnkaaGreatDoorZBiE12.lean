/- What the proof rests on, part 12: contracts of functions. No condition beyond what each states. -/
import Derived.Test.YtmmafcjjlbgnkaaGreatDoorZBiE11
namespace Go.Proofs.YtmmafcjjlbgnkaaGreatDoor
open Go.RowKit
open Nat renaming reduceEqDiff→Rq,reduceBEq→Rb,reduceAdd→Ra,reduceSub→Rs
open Int renaming reduceToNat→Rt
set_option linter.all false
set_option maxHeartbeats 32000000
noncomputable section
theorem anO (l:List It):∀(f n m:Nat),n≤m→m<stN l f n→¬(gI l m).kd=1∧forced (gI l m)=false
 |0,n,m,h1,h2=>by simp only[stN]at h2;omega
 |f+1,n,m,h1,h2=>by
  unfold stN at h2;split at h2
  ·rename_i hc
   by_cases h:m=n
   ·subst h;exact hc.2
   ·exact anO l f (n+1) m (by omega) h2
  ·omega
theorem akj (l:List It):∀(f n:Nat),l.length≤f+n→stN l f n<l.length→(gI l (stN l f n)).kd=1∨forced (gI l (stN l f n))=true
 |0,n,h1,h2=>by simp only[stN]at h2;omega
 |f+1,n,h1,h2=>by
  unfold stN at h2⊢;split at h2
  ·rename_i hc
   rw[if_pos hc];exact akj l f (n+1) (by omega) h2
  ·rename_i hc
   rw[if_neg hc];by_cases hk:(gI l n).kd=1
   ·exact .inl hk
   ·right
    cases hf:forced (gI l n)with
    |true=>rfl
    |false=>exact absurd ⟨h2,hk,hf⟩ hc
theorem ax5 {l:List It} {a b n:Nat} (h:uQ l a b=true) (h1:a≤n) (h2:n<b):forced (gI l n)=false:=by unfold uQ at h;rw[List.all_eq_true]at h;have:=h (n-a) (List.mem_range.2 (by omega));rw[show a+(n-a)=n by omega]at this;simpa using this
def tZ (l:List It) (tx:LS) (s:ByteArray) (n:Nat):ByteArray:=
 if(gI l n).kd=1 then s++(tx[nbX l n]?.getD .empty)else if 0<(gI l n).wd then s++⟨#[32]⟩else s
def liF (l:List It) (tx:LS) (is:List Int):ByteArray:=is.foldl (fun s n=>tZ l tx s n.toNat) ⟨#[]⟩
theorem abY (l:List It) (tx:LS) (is:List Int) (n:Int):liF l tx (is++[n])=tZ l tx (liF l tx is) n.toNat:=by simp[liF,List.foldl_append]
theorem abv {l:List It} {tx:LS} {is:List Int} {j:Nat} (h:j<is.length):liF l tx (is.take (j+1))=tZ l tx (liF l tx (is.take j)) (is[j]?.getD 0).toNat:=by rw[List.take_succ_eq_append_getElem h,abY,List.getElem?_eq_getElem h,Option.getD_some]
theorem aat {l:List It} {tx:LS} (h:∀k:Nat,(tx[k]?.getD ByteArray.empty).size≤20) (is:List Int):∀j,j≤is.length→(liF l tx (is.take j)).size≤20*j
 |0,_=>by simp[liF,ByteArray.size]
 |j+1,hj=>by
  have ih:=aat (l:=l) h is j (by omega);rw[abv (by omega)];unfold tZ;split
  ·rw[ByteArray.size_append]
   have:=h (nbX l (is[j]?.getD 0).toNat);omega
  ·split
   ·rw[ByteArray.size_append,show(⟨#[32]⟩:ByteArray).size=1 from rfl]
    omega
   ·omega
theorem ah2 {s:ByteArray} (h:1≤s.size):¬s=⟨#[]⟩:=fun e=>by subst e;simp[ByteArray.size]at h
theorem aEW {l:List It} {tx:LS} {a en:Nat} (hl:aW l=true) (hq:dX l a en=true) (htx:∀k,k<nb l→1≤(tx[k]?.getD .empty).size):∀i,aF l a+i≤en→liF l tx (oL l (aF l a) (aF l a+i))=lnT l tx a (aF l a+i-a)∧(0<i→1≤(lnT l tx a (aF l a+i-a)).size):=by
 obtain⟨⟨ha,hen⟩,-,-,hs,hf⟩:=fE.1 hq;have hsa:=(zw (l:=l) (a:=a)).1;have hfront:∀i,a+i≤aF l a→lnT l tx a i=⟨#[]⟩:=by
  intro i
  induction i with
  |zero=>intro _;rfl
  |succ i ih=>intro h;have h1:=anO l (l.length-a) a (a+i) (by omega) (show a+i<aF l a by omega);rw[lnT,ih (by omega),aja h1.1 (fun q=>q.2.2 rfl)]
 intro i
 induction i with
 |zero=>intro h;refine⟨?_,fun h=>by omega⟩;rw[Nat.add_zero,vX (Nat.le_refl _),hfront _ (by omega)];rfl
 |succ i ih=>
  intro h;obtain⟨e1,e2⟩:=ih (by omega);have hlt:aF l a+i<l.length:=by omega
  have hI:=gZ hl hlt;have hS:lnT l tx a (aF l a+(i+1)-a)=oP l tx (lnT l tx a (aF l a+i-a)) (aF l a+i):=by rw[show aF l a+(i+1)-a=(aF l a+i-a)+1 by omega,lnT,show a+(aF l a+i-a)=aF l a+i by omega]
  have hfirst:i=0→(gI l (aF l a+i)).kd=1:=fun h0=>by
   subst h0;rcases akj l (l.length-a) a (by omega) (show aF l a<l.length by omega)with h1|h1
   ·exact h1
   ·have h2:=ax5 hf hsa (show aF l a<en by omega)
    have h3:forced (gI l (aF l a))=true:=h1;rw[h2]at h3;cases h3
  rw[hS,←Nat.add_assoc];generalize lnT l tx a (aF l a+i-a)=s at*;by_cases k1:(gI l (aF l a+i)).kd=1
  ·rw[qF (by omega) (by omega),abY,e1,Int.toNat_natCast,adQ k1]
   unfold tZ;rw[if_pos k1];refine⟨rfl,fun _=>?_⟩;have:=htx _ (zJ hlt k1);rw[ByteArray.size_append];omega
  ·have hi0:0<i:=by
    rcases Nat.eq_zero_or_pos i with h0|h0
    ·exact absurd (hfirst h0) k1
    ·exact h0
   have hs1:=e2 hi0;by_cases k3:(gI l (aF l a+i)).kd=3
   ·rw[abO (by omega) k3,e1,aja k1 (fun q=>by have:=q.1;omega)]
    exact⟨rfl,fun _=>hs1⟩
   ·have k2:(gI l (aF l a+i)).kd=2:=by have h5:(gI l (aF l a+i)).kd=1∨(gI l (aF l a+i)).kd=2∨(gI l (aF l a+i)).kd=3:=hI.kd;omega
    rw[qF (by omega) k3,abY,e1,Int.toNat_natCast];unfold tZ;rw[if_neg k1];by_cases hw:0<(gI l (aF l a+i)).wd
    ·rw[if_pos hw,ag6 ⟨k2,hw,ah2 hs1⟩]
     refine⟨rfl,fun _=>?_⟩;rw[ByteArray.size_append];omega
    ·rw[if_neg hw,aja k1 (fun q=>hw q.2.1)]
     exact⟨rfl,fun _=>hs1⟩
theorem akl {l:List It} {tx:LS} {a en:Nat} (hl:aW l=true) (hq:dX l a en=true) (htx:∀k,k<nb l→1≤(tx[k]?.getD .empty).size):liF l tx (oL l (aF l a) en)=lnT l tx a (en-a):=by
 have hs:=(fE.1 hq).2.2.2.1;have:=(aEW hl hq htx (en-aF l a) (by omega)).1
 rwa[show aF l a+(en-aF l a)=en by omega]at this
theorem al2 {ws pats:LS} {k:Nat} (h:k<(txR ws pats).length):1≤((txR ws pats)[k]?.getD .empty).size:=(aG (agN h)).2.1
def bxL (l:List It) (tx:LS) (k:Nat):VL:=((List.range k).filter fun n:Nat=>decide ((gI l n).kd=1)).map fun n:Nat=>(Value.int .i64 (n:Int),Value.string (tx[nbX l n]?.getD .empty))
theorem aoz {l:List It} {tx:LS} {k:Nat} (h:(gI l k).kd=1):bxL l tx (k+1)=bxL l tx k++[(.int .i64 (k:Int),.string (tx[nbX l k]?.getD .empty))]:=by simp[bxL,List.range_succ,List.filter_append,h]
theorem atO {l:List It} {tx:LS} {k:Nat} (h:¬(gI l k).kd=1):bxL l tx (k+1)=bxL l tx k:=by simp[bxL,List.range_succ,List.filter_append,h]
theorem am7 {l:List It} {tx:LS}:∀{k:Nat},k≤l.length→(bxL l tx k).length=nbX l k
 |0,_=>rfl
 |k+1,h=>by
  have ih:=am7 (l:=l) (tx:=tx) (k:=k) (by omega);by_cases hk:(gI l k).kd=1
  ·rw[aoz hk,List.length_append,ih,afH (by omega) hk];rfl
  ·rw[atO hk,ih,alp (by omega) hk]
theorem axL {l:List It} {tx:LS} {k n:Nat} (h:n<k) (hk:(gI l n).kd=1):(Value.int .i64 (n:Int),Value.string (tx[nbX l n]?.getD .empty))∈bxL l tx k:=
 List.mem_map.2 ⟨n,List.mem_filter.2 ⟨List.mem_range.2 h,by simpa using hk⟩,rfl⟩
theorem amO {l:List It} {tx:LS} {k:Nat} {p:Value×Value} (h:p∈bxL l tx k):∃n:Nat,n<k∧p.1=.int .i64 (n:Int):=by obtain⟨n,h1,rfl⟩:=List.mem_map.1 h;exact⟨n,List.mem_range.1 (List.mem_filter.1 h1).1,rfl⟩
theorem aye {l:List It} {tx:LS} {k:Nat}:∀p∈bxL l tx k,p.1≠ .int .i64 (k:Int):=fun p hp e=>by obtain⟨n,h1,h2⟩:=amO hp;rw[h2]at e;simp only[Value.int.injEq,true_and]at e;omega
theorem alQ {l:List It} {tx:LS} (k:Nat):((bxL l tx k).map Prod.fst).Nodup:=by unfold bxL;rw[List.map_map];refine List.Pairwise.map _ (fun a b h=>?_) (List.Pairwise.filter _ List.nodup_range);simp only[Function.comp,ne_eq,Value.int.injEq,true_and];omega
def φBb:Fun:=F3 oQ dI dI fun l wd most=>if ai4 l then some (.tup [.lst true 1 ((axA l wd most).map fun n=> .val (.int .i64 n)),bv (kg l wd most)])else none
theorem akE {l:List It} {wd most:Int} (h:ai4 l):φBb [gy l,.val (.int .i64 wd),.val (.int .i64 most)]=some (.tup [.lst true 1 ((axA l wd most).map fun n=> .val (.int .i64 n)),.val (.bool (kg l wd most))]):=(adE (A:=oQ) (B:=dI) (C:=dI) l wd most).trans (if_pos h)
theorem lZ {l:List It} {wd most:Int} {a j en:Nat} (he:l.length-(j+1)=en) (h:jf l wd most a en=none) (k:Int):bE l wd most a k (aU l wd most) (j+1)=bE l wd most a k (aU l wd most) j:=by rw[bE,he,jd h]
theorem wC {l:List It} {wd most:Int} {a j en:Nat} {x:Int×Int} (he:l.length-(j+1)=en) (h:jf l wd most a en=some x) (h2:aU l wd most (en+1) x.2=none) (k:Int):bE l wd most a k (aU l wd most) (j+1)=bE l wd most a k (aU l wd most) j:=by rw[bE,he,lU h h2]
theorem wH {l:List It} {wd most:Int} {a j en:Nat} {x:Int×Int} {r:Ch} (he:l.length-(j+1)=en) (h:jf l wd most a en=some x) (h2:aU l wd most (en+1) x.2=some r) (k:Int):
 bE l wd most a k (aU l wd most) (j+1)=if(bE l wd most a k (aU l wd most) j).all (fun y=>decide (x.1+jD l a en k x.2+r.1<y.1))=true then some (x.1+jD l a en k x.2+r.1,en,x.2)else bE l wd most a k (aU l wd most) j:=by
 rw[bE,he,l6 h h2]
theorem acM {l:List It} {wd most:Int} {a en:Nat} (h:dX l a en=true) (h2:0≤(iY l wd a en).1∧(iY l wd a en).1≤most):jf l wd most a en=some (mU (iY l wd a en).1 (gI l en).cost,gL (iY l wd a en).2 (iY l wd a en).1):=if_pos ⟨h,h2⟩
def g0 (n k:Nat):Nat→Nat→Bool:=fun i j=>decide (i=n∧j<k)
theorem ayo (n:Nat):tab n (g0 n 0)=tab n (fun _ _=>false):=iQ fun i j _ _=>by simp[g0]
theorem awJ (n k:Nat):tab n (zZ (g0 n k) n k true)=tab n (g0 n (k+1)):=iQ fun i j _ _=>by
 unfold zZ g0;by_cases h:i=n∧j=k
 ·rw[if_pos h,decide_eq_true (by omega)]
 ·rw[if_neg h]
  congr 1;apply propext;omega
theorem aHc (l:List It) (wd most:Int):tab l.length (tB (tbA l wd most l.length))=tab l.length (fun _ _=>0)∧tab l.length (tG (tbA l wd most l.length))=tab l.length (g0 l.length 4)∧tab l.length (tN (tbA l wd most l.length))=tab l.length (fun _ _=>0):=
 ⟨iQ fun i k h1 h2=>by
   unfold tB;rw[aeQ i k h1 h2];split<;>rfl,
   iQ fun i k h1 h2=>by
    unfold tG;rw[aeQ i k h1 h2];unfold g0;split
    ·rw[decide_eq_true (by omega)];rfl
    ·rw[decide_eq_false (by omega)];rfl,
   iQ fun i k h1 h2=>by unfold tN;rw[aeQ i k h1 h2];split<;>rfl⟩
theorem adi {l:List It} {wd most:Int} {a en:Nat} (h:dX l a en=false):jf l wd most a en=none:=if_neg fun q=>by rw[h]at q;cases q.1
theorem acp {l:List It} {wd most:Int} {a en:Nat} (h:¬(0≤(iY l wd a en).1∧(iY l wd a en).1≤most)):jf l wd most a en=none:=if_neg fun q=>h q.2
def GBb:Ctx:={fn:=aT [(127,aa9),(34,φIn),(128,φBq),(129,φLq),(130,φBd),(131,φLk),(132,φCo),(133,φBw)],io:=aT []}
theorem aBM:au Tryz.prog GBb:=okΓ (fC Tryz.func127 ajw (fC Tryz.func34 fK (fC Tryz.func128 acy (fC Tryz.func129 akZ (fC Tryz.func130 alV (fC Tryz.func131 aop (fC Tryz.func132 akU (fC Tryz.func133 aoC aj)))))))) aj
def xD:=ah (Γ:=GBb) (f:=127) (φ:=aa9) rfl
def adq:=ah (Γ:=GBb) (f:=34) (φ:=φIn) rfl
def wP:=ah (Γ:=GBb) (f:=128) (φ:=φBq) rfl
def yQ:=ah (Γ:=GBb) (f:=129) (φ:=φLq) rfl
def xC:=ah (Γ:=GBb) (f:=130) (φ:=φBd) rfl
def xE:=ah (Γ:=GBb) (f:=131) (φ:=φLk) rfl
def x9:=ah (Γ:=GBb) (f:=132) (φ:=φCo) rfl
def xK:=ah (Γ:=GBb) (f:=133) (φ:=φBw) rfl
theorem ali:Sound Tryz.prog 97 φBb:=by
 refine ak mixed aBM Tryz.func97 rfl 218 rfl [.tmp 6,.tmp 7] rfl (by kernel_rfl) fun ps r hr=>?_;obtain⟨l,wd,most,rfl,hpre,rfl⟩:=aby hr;refine⟨by simp,?_⟩;simp only[dIs,dUs,dSs,bP,bS,bQ,bT,aP,bR,aQ,aO,aR,aL];have apv:=abI hpre;have api:=bI;have hl0:l.length≤1000:=hpre;show pq _ _ _ _ _ (bX [gy l,.val (.int .i64 wd),.val (.int .i64 most)]).tm _ _;unfold axA;by_cases hg:aW l=true∧0<l.length∧(0≤wd∧wd≤1000)∧(0≤most∧most≤10000)
 ·obtain⟨hB,hn,hw,hm⟩:=hg
  have hl:=bK hB;have hok:kg l wd most=(aU l wd most 0 1).isSome:=by unfold kg;rw[hB,decide_eq_true hn,aD.2 hw,aD.2 hm];rfl
  rw[hok];clear hok hpre;rw[hB]at apv;have api1:inB wd 0 1000=true:=aD.2 hw;have api2:inB most 0 10000=true:=aD.2 hm;have gbb_c127:=xD;have gbb_c34:=adq;have gbb_c128:=wP;have gbb_c129:=yQ;have gbb_c130:=xC;have gbb_c131:=xE;have gbb_c132:=x9;have gbb_c133:=xK;(refine wlk ?_;intros);obtain⟨t1,t2,t3⟩:=aHc l wd most;refine aB (α:=Nat) mixed (fun k=>[(0,gy l),(1,iv wd),(2,iv most),(8,.row 0 1 0 0),(9,iv l.length),(10,.row 1 4 0 (l.length+1)),(11,.row 2 4 0 (l.length+1)),(12,.row 3 4 0 (l.length+1)),(13,iv k)])
   (fun k=>[(0,3,1,[]),(1,158,4,(tab l.length fun _ _=>0).map adV),(2,153,4,(tab l.length (g0 l.length k)).map arH),(3,158,4,(tab l.length fun _ _=>0).map adV)]) (fun _=>4)
   (fun k=>k≤4) (fun k=>4-k) (by kernel_rfl) 0 (Nat.zero_le _) ?_ ?_ rfl ?_
  ·exact agr
  ·simp(disch:=(first|omega|(simp only[push_cast];first|done|omega))) only[push_cast,↓reduceIte,Rq,Rb,Ra,Rs,Rt,ayo, *]
  intro k hk;by_cases hk4:k<4
  ·have hs:=awJ l.length k
   clear t1 t2 t3;(refine wlk ?_;intros);refine⟨k+1,by omega,by dsimp only;omega,?_,?_,rfl⟩
   ·exact agr
   ·exact agr
  obtain rfl:k=4:=by omega
  (refine wlk ?_;intros);refine aB (α:=Nat×Int) mixed (fun z=>[(0,gy l),(1,iv wd),(2,iv most),(8,.row 0 1 0 0),(9,iv l.length),(10,.row 1 4 0 (l.length+1)),(11,.row 2 4 0 (l.length+1)),(12,.row 3 4 0 (l.length+1)),(14,iv z.2)])
   (fun z=>[(0,3,1,[]),(1,158,4,(tab l.length (tB (tbA l wd most z.1))).map adV),(2,153,4,(tab l.length (tG (tbA l wd most z.1))).map arH),(3,158,4,(tab l.length (tN (tbA l wd most z.1))).map adV)]) (fun _=>4)
   (fun z=>z.1≤l.length∧z.2=(z.1:Int)-2) (fun z=>z.1) (by kernel_rfl) (l.length,(l.length:Int)-2) ⟨Nat.le_refl _,rfl⟩ ?_ ?_ rfl ?_
  ·exact agr
  ·exact agr
  clear t1 t2 t3 hk hk4;rintro⟨m,v⟩ ⟨hml,hv⟩;dsimp only at hml hv;by_cases h1:1≤m
  ·obtain⟨a,rfl⟩:∃a,m=a+1:=⟨m-1,by omega⟩
   obtain rfl:v=(a:Int)-1:=by omega
   clear hv h1;have hal:a<l.length:=by omega
   have hcan:(a:Int)-1+1=a:=by omega
   by_cases hskip:0<a∧mZ l (a-1)=false
   ·obtain⟨ha0,hbq⟩:=hskip
    have apq:=ab2 (n:=a-1) hB (by omega);rw[hbq,show((a-1:Nat):Int)=(a:Int)-1 by omega]at apq;have hE:=Lib.hid (bM (arI (wd:=wd) (most:=most) hal ha0 hbq));clear hbq;(refine wlk ?_;intros);refine⟨(a,(a:Int)-1-1),⟨by dsimp only;omega,by dsimp only;omega⟩,by dsimp only;omega,?_,?_,rfl⟩
    ·exact agr
    ·obtain⟨e1,e2,e3⟩:=hE.out
     exact agr
   ·have hgo:0<a→φBq [gy l,.val (.int .i64 ((a:Int)-1))]=some (.val (.bool true)):=fun ha0=>by
     have apq:=ab2 (n:=a-1) hB (by omega);rw[show((a-1:Nat):Int)=(a:Int)-1 by omega]at apq;rw[apq];cases hb:mZ l (a-1)with
     |true=>rfl
     |false=>exact absurd ⟨ha0,hb⟩ hskip
    clear hskip;by_cases ha0:0<a
    ·have apq:=hgo ha0
     clear hgo;(refine wlk ?_;intros);refine aB (α:=Nat×Int) mixed (fun z=>[(0,gy l),(1,iv wd),(2,iv most),(8,.row 0 1 0 0),(9,iv l.length),(10,.row 1 4 0 (l.length+1)),(11,.row 2 4 0 (l.length+1)),(12,.row 3 4 0 (l.length+1)),(14,iv ((a:Int)-1)),(15,iv z.2)])
      (fun z=>[(0,3,1,[]),(1,158,4,(tab l.length (tB (tbJ l wd most a z.1))).map adV),(2,153,4,(tab l.length (tG (tbJ l wd most a z.1))).map arH),(3,158,4,(tab l.length (tN (tbJ l wd most a z.1))).map adV)]) (fun _=>4)
      (fun z=>z.1+a≤l.length∧z.2=(l.length:Int)-1-z.1) (fun z=>l.length-z.1) (by kernel_rfl) (0,(l.length:Int)-1) ⟨by dsimp only;omega,by simp⟩ ?_ ?_ rfl ?_
     ·exact agr
     ·obtain⟨e1,e2,e3⟩:=bM (ain (l:=l) (wd:=wd) (most:=most) (a:=a))
      exact agr
     rintro⟨j,u⟩ ⟨hj,hu⟩;dsimp only at hj hu;by_cases h2:j+a<l.length
     ·obtain⟨en,rfl⟩:∃en:Nat,u=en:=⟨u.toNat,by omega⟩
      have he:l.length-(j+1)=en:=by omega
      have hu1:(en:Int)≤l.length-1-j:=by omega
      have hu2:(l.length:Int)-1-j≤en:=by omega
      replace he:=Lib.hid he;clear hu;have hae:a≤en:=by omega
      have hel:en<l.length:=by omega
      have apl:=akq hB hae hel;have hskip:(∀k:Int,bE l wd most a k (aU l wd most) (j+1)=bE l wd most a k (aU l wd most) j)→tab l.length (tB (tbJ l wd most a j))=tab l.length (tB (tbJ l wd most a (j+1)))∧tab l.length (tG (tbJ l wd most a j))=tab l.length (tG (tbJ l wd most a (j+1)))∧tab l.length (tN (tbJ l wd most a j))=tab l.length (tN (tbJ l wd most a (j+1))):=fun h=>bM (ahI h);cases hq:dX l a en with
      |false=>
       rw[hq]at apl;have hE:=Lib.hid (hskip (lZ he.out (adi hq)));clear hskip hq;(refine wlk ?_;intros);refine⟨(j+1,(en:Int)-1),⟨by dsimp only;omega,by dsimp only;omega⟩,by dsimp only;omega,?_,?_,rfl⟩
       ·exact agr
       ·obtain⟨e1,e2,e3⟩:=hE.out
        exact agr
      |true=>
      rw[hq]at apl;have hst:=(fE.1 hq).2.2.2.1;have apb:=afQ hB hae hel hw hst;by_cases hb:0≤(iY l wd a en).1∧(iY l wd a en).1≤most
      ·have hcst:aoB (l[en]?.getD it0).2.2.2.2.2.1:=(gZ hB hel).cost
       have hL:jf l wd most a en=some (mU (iY l wd a en).1 (l[en]?.getD it0).2.2.2.2.2.1,gL (iY l wd a en).2 (iY l wd a en).1):=acM hq hb;clear hq hst;generalize iY l wd a en=bd at*;obtain⟨bad,st⟩:=bd;dsimp only at hb hL apb;have apk:=aaL (s:=st) (bad:=bad) ⟨hb.1,by omega⟩;have apc:=ad1 (bad:=bad) ⟨hb.1,by omega⟩ hcst;have hcr:=qA (bad:=bad) ⟨hb.1,by omega⟩ hcst;have hkr:=oG st bad;obtain⟨kk,hkk⟩:∃kk:Nat,gL st bad=kk:=⟨(gL st bad).toNat,by omega⟩;rw[hkk]at hL apk hkr;clear hkk hcst;cases hr:aU l wd most (en+1) kk with
       |none=>
        have hG:tG (tbJ l wd most a j) (en+1) kk=false:=by unfold tG;rw[kW (by omega),hr];rfl
        have hE:=Lib.hid (hskip (wC he.out hL hr));clear hskip hL hr;(refine wlk ?_;intros);refine⟨(j+1,(en:Int)-1),⟨by dsimp only;omega,by dsimp only;omega⟩,by dsimp only;omega,?_,?_,rfl⟩
        ·exact agr
        ·obtain⟨e1,e2,e3⟩:=hE.out
         exact agr
       |some r=>
        have hG:tG (tbJ l wd most a j) (en+1) kk=true:=by unfold tG;rw[kW (by omega),hr];rfl
        have hBv:tB (tbJ l wd most a j) (en+1) kk=r.1:=by unfold tB;rw[kW (by omega),hr];rfl
        have hrr:=(dx hB hm.2 (by omega) hr).1;have hlive:=fun k=>wH he.out hL hr k;clear hskip hL hr;generalize hyy:l[en]?.getD it0=yy at*;obtain⟨y1,y2,y3,y4,y5,y6,y7⟩:=yy;dsimp only at apc hcr hlive;generalize mU bad y6=co at*;obtain⟨rc,rn,rk⟩:=r;dsimp only at hBv hrr hlive;replace hlive:=Lib.hid hlive;(refine wlk ?_;intros);refine aB (α:=Nat) mixed (fun b=>[(0,gy l),(1,iv wd),(2,iv most),(8,.row 0 1 0 0),(9,iv l.length),(10,.row 1 4 0 (l.length+1)),(11,.row 2 4 0 (l.length+1)),(12,.row 3 4 0 (l.length+1)),(14,iv ((a:Int)-1)),(15,iv en),(18,iv kk),(19,iv (co+rc)),(20,iv b)])
         (fun b=>[(0,3,1,[]),(1,158,4,(tab l.length (tB (tbK l wd most a j b))).map adV),(2,153,4,(tab l.length (tG (tbK l wd most a j b))).map arH),(3,158,4,(tab l.length (tN (tbK l wd most a j b))).map adV)]) (fun _=>4)
         (fun b=>b≤4) (fun b=>4-b) (by kernel_rfl) 0 (Nat.zero_le _) ?_ ?_ rfl ?_
        ·exact agr
        ·obtain⟨e1,e2,e3⟩:=bM (agL (l:=l) (wd:=wd) (most:=most) (a:=a) (j:=j))
         exact agr
        clear hG hBv apc apk apb apl;intro b hb4;by_cases hb3:b<4
        ·have apw:=amU (be:=(b:Int)) (lk:=(kk:Int)) hB hae hel ⟨by omega,by omega⟩ ⟨by omega,by omega⟩
         have hbw:=nA l a en b kk;have hx:=hlive.out (b:Int);generalize jD l a en b kk=bw at*;cases hacc:bE l wd most a b (aU l wd most) j with
         |none=>
          rw[hacc]at hx;replace hx:_=some _:=hx;have hG:tG (tbK l wd most a j b) a b=false:=by unfold tG;rw[oH,hacc];rfl
          have hE:=Lib.hid (bM (uW hx));clear hx hacc;(refine wlk ?_;intros);refine⟨b+1,by omega,by dsimp only;omega,?_,?_,rfl⟩
          ·exact agr
          ·have hE2:=hE.out
           rw[←ahy,←agE,←ahK]at hE2;obtain⟨e1,e2,e3⟩:=hE2;dsimp only at e1 e2 e3;rw[show co+bw+rc=co+rc+bw by omega]at e1;exact agr
         |some y=>
          rw[hacc]at hx;have hG:tG (tbK l wd most a j b) a b=true:=by unfold tG;rw[oH,hacc];rfl
          have hB2:tB (tbK l wd most a j b) a b=y.1:=by unfold tB;rw[oH,hacc];rfl
          have hyr:=(rZ hB hm.2 hal hacc).1;by_cases hlt:co+rc+bw<y.1
          ·rw[if_pos (show(some y).all (fun y=>decide (co+bw+rc<y.1))=true from decide_eq_true (show co+bw+rc<y.1 by omega))]at hx
           have hE:=Lib.hid (bM (uW hx));clear hx hacc;generalize y.1=yc at*;(refine wlk ?_;intros);refine⟨b+1,by omega,by dsimp only;omega,?_,?_,rfl⟩
           ·exact agr
           ·have hE2:=hE.out
            rw[←ahy,←agE,←ahK]at hE2;obtain⟨e1,e2,e3⟩:=hE2;dsimp only at e1 e2 e3;rw[show co+bw+rc=co+rc+bw by omega]at e1;exact agr
          ·rw[if_neg (show¬(some y).all (fun y=>decide (co+bw+rc<y.1))=true from fun q=>hlt (by have:=of_decide_eq_true (show decide (co+bw+rc<y.1)=true from q);omega))]at hx
           have hE:=Lib.hid (bM (ag9 (hx.trans hacc.symm)));clear hx hacc;generalize y.1=yc at*;(refine wlk ?_;intros);refine⟨b+1,by omega,by dsimp only;omega,?_,?_,rfl⟩
           ·exact agr
           ·obtain⟨e1,e2,e3⟩:=hE.out
            exact agr
        ·obtain rfl:b=4:=by omega
         have hE:=Lib.hid (bM (amJ (l:=l) (wd:=wd) (most:=most) (a:=a) (j:=j)));clear hlive;(refine wlk ?_;intros);refine⟨(j+1,(en:Int)-1),⟨by dsimp only;omega,by dsimp only;omega⟩,by dsimp only;omega,?_,?_,rfl⟩
         ·exact agr
         ·obtain⟨e1,e2,e3⟩:=hE.out
          exact agr
      ·have hE:=Lib.hid (hskip (lZ he.out (acp hb)))
       clear hskip hq;generalize iY l wd a en=bd at*;obtain⟨bad,st⟩:=bd;dsimp only at hb apb;by_cases hb0:bad<0
       ·clear hb
        (refine wlk ?_;intros);refine⟨(j+1,(en:Int)-1),⟨by dsimp only;omega,by dsimp only;omega⟩,by dsimp only;omega,?_,?_,rfl⟩
        ·exact agr
        ·obtain⟨e1,e2,e3⟩:=hE.out
         exact agr
       ·have hb1:most<bad:=by omega
        clear hb;(refine wlk ?_;intros);refine⟨(j+1,(en:Int)-1),⟨by dsimp only;omega,by dsimp only;omega⟩,by dsimp only;omega,?_,?_,rfl⟩
        ·exact agr
        ·obtain⟨e1,e2,e3⟩:=hE.out
         exact agr
     ·obtain rfl:j=l.length-a:=by omega
      have hE:=Lib.hid (bM (amX (wd:=wd) (most:=most) hal));(refine wlk ?_;intros);refine⟨(a,(a:Int)-1-1),⟨by dsimp only;omega,by dsimp only;omega⟩,by dsimp only;omega,?_,?_,rfl⟩
      ·exact agr
      ·obtain⟨e1,e2,e3⟩:=hE.out
       exact agr
    ·clear hgo
     (refine wlk ?_;intros);refine aB (α:=Nat×Int) mixed (fun z=>[(0,gy l),(1,iv wd),(2,iv most),(8,.row 0 1 0 0),(9,iv l.length),(10,.row 1 4 0 (l.length+1)),(11,.row 2 4 0 (l.length+1)),(12,.row 3 4 0 (l.length+1)),(14,iv ((a:Int)-1)),(15,iv z.2)])
      (fun z=>[(0,3,1,[]),(1,158,4,(tab l.length (tB (tbJ l wd most a z.1))).map adV),(2,153,4,(tab l.length (tG (tbJ l wd most a z.1))).map arH),(3,158,4,(tab l.length (tN (tbJ l wd most a z.1))).map adV)]) (fun _=>4)
      (fun z=>z.1+a≤l.length∧z.2=(l.length:Int)-1-z.1) (fun z=>l.length-z.1) (by kernel_rfl) (0,(l.length:Int)-1) ⟨by dsimp only;omega,by simp⟩ ?_ ?_ rfl ?_
     ·exact agr
     ·obtain⟨e1,e2,e3⟩:=bM (ain (l:=l) (wd:=wd) (most:=most) (a:=a))
      exact agr
     rintro⟨j,u⟩ ⟨hj,hu⟩;dsimp only at hj hu;by_cases h2:j+a<l.length
     ·obtain⟨en,rfl⟩:∃en:Nat,u=en:=⟨u.toNat,by omega⟩
      have he:l.length-(j+1)=en:=by omega
      have hu1:(en:Int)≤l.length-1-j:=by omega
      have hu2:(l.length:Int)-1-j≤en:=by omega
      replace he:=Lib.hid he;clear hu;have hae:a≤en:=by omega
      have hel:en<l.length:=by omega
      have apl:=akq hB hae hel;have hskip:(∀k:Int,bE l wd most a k (aU l wd most) (j+1)=bE l wd most a k (aU l wd most) j)→tab l.length (tB (tbJ l wd most a j))=tab l.length (tB (tbJ l wd most a (j+1)))∧tab l.length (tG (tbJ l wd most a j))=tab l.length (tG (tbJ l wd most a (j+1)))∧tab l.length (tN (tbJ l wd most a j))=tab l.length (tN (tbJ l wd most a (j+1))):=fun h=>bM (ahI h);cases hq:dX l a en with
      |false=>
       rw[hq]at apl;have hE:=Lib.hid (hskip (lZ he.out (adi hq)));clear hskip hq;(refine wlk ?_;intros);refine⟨(j+1,(en:Int)-1),⟨by dsimp only;omega,by dsimp only;omega⟩,by dsimp only;omega,?_,?_,rfl⟩
       ·exact agr
       ·obtain⟨e1,e2,e3⟩:=hE.out
        exact agr
      |true=>
      rw[hq]at apl;have hst:=(fE.1 hq).2.2.2.1;have apb:=afQ hB hae hel hw hst;by_cases hb:0≤(iY l wd a en).1∧(iY l wd a en).1≤most
      ·have hcst:aoB (l[en]?.getD it0).2.2.2.2.2.1:=(gZ hB hel).cost
       have hL:jf l wd most a en=some (mU (iY l wd a en).1 (l[en]?.getD it0).2.2.2.2.2.1,gL (iY l wd a en).2 (iY l wd a en).1):=acM hq hb;clear hq hst;generalize iY l wd a en=bd at*;obtain⟨bad,st⟩:=bd;dsimp only at hb hL apb;have apk:=aaL (s:=st) (bad:=bad) ⟨hb.1,by omega⟩;have apc:=ad1 (bad:=bad) ⟨hb.1,by omega⟩ hcst;have hcr:=qA (bad:=bad) ⟨hb.1,by omega⟩ hcst;have hkr:=oG st bad;obtain⟨kk,hkk⟩:∃kk:Nat,gL st bad=kk:=⟨(gL st bad).toNat,by omega⟩;rw[hkk]at hL apk hkr;clear hkk hcst;cases hr:aU l wd most (en+1) kk with
       |none=>
        have hG:tG (tbJ l wd most a j) (en+1) kk=false:=by unfold tG;rw[kW (by omega),hr];rfl
        have hE:=Lib.hid (hskip (wC he.out hL hr));clear hskip hL hr;(refine wlk ?_;intros);refine⟨(j+1,(en:Int)-1),⟨by dsimp only;omega,by dsimp only;omega⟩,by dsimp only;omega,?_,?_,rfl⟩
        ·exact agr
        ·obtain⟨e1,e2,e3⟩:=hE.out
         exact agr
       |some r=>
        have hG:tG (tbJ l wd most a j) (en+1) kk=true:=by unfold tG;rw[kW (by omega),hr];rfl
        have hBv:tB (tbJ l wd most a j) (en+1) kk=r.1:=by unfold tB;rw[kW (by omega),hr];rfl
        have hrr:=(dx hB hm.2 (by omega) hr).1;have hlive:=fun k=>wH he.out hL hr k;clear hskip hL hr;generalize hyy:l[en]?.getD it0=yy at*;obtain⟨y1,y2,y3,y4,y5,y6,y7⟩:=yy;dsimp only at apc hcr hlive;generalize mU bad y6=co at*;obtain⟨rc,rn,rk⟩:=r;dsimp only at hBv hrr hlive;replace hlive:=Lib.hid hlive;(refine wlk ?_;intros);refine aB (α:=Nat) mixed (fun b=>[(0,gy l),(1,iv wd),(2,iv most),(8,.row 0 1 0 0),(9,iv l.length),(10,.row 1 4 0 (l.length+1)),(11,.row 2 4 0 (l.length+1)),(12,.row 3 4 0 (l.length+1)),(14,iv ((a:Int)-1)),(15,iv en),(18,iv kk),(19,iv (co+rc)),(20,iv b)])
         (fun b=>[(0,3,1,[]),(1,158,4,(tab l.length (tB (tbK l wd most a j b))).map adV),(2,153,4,(tab l.length (tG (tbK l wd most a j b))).map arH),(3,158,4,(tab l.length (tN (tbK l wd most a j b))).map adV)]) (fun _=>4)
         (fun b=>b≤4) (fun b=>4-b) (by kernel_rfl) 0 (Nat.zero_le _) ?_ ?_ rfl ?_
        ·exact agr
        ·obtain⟨e1,e2,e3⟩:=bM (agL (l:=l) (wd:=wd) (most:=most) (a:=a) (j:=j))
         exact agr
        clear hG hBv apc apk apb apl;intro b hb4;by_cases hb3:b<4
        ·have apw:=amU (be:=(b:Int)) (lk:=(kk:Int)) hB hae hel ⟨by omega,by omega⟩ ⟨by omega,by omega⟩
         have hbw:=nA l a en b kk;have hx:=hlive.out (b:Int);generalize jD l a en b kk=bw at*;cases hacc:bE l wd most a b (aU l wd most) j with
         |none=>
          rw[hacc]at hx;replace hx:_=some _:=hx;have hG:tG (tbK l wd most a j b) a b=false:=by unfold tG;rw[oH,hacc];rfl
          have hE:=Lib.hid (bM (uW hx));clear hx hacc;(refine wlk ?_;intros);refine⟨b+1,by omega,by dsimp only;omega,?_,?_,rfl⟩
          ·exact agr
          ·have hE2:=hE.out
           rw[←ahy,←agE,←ahK]at hE2;obtain⟨e1,e2,e3⟩:=hE2;dsimp only at e1 e2 e3;rw[show co+bw+rc=co+rc+bw by omega]at e1;exact agr
         |some y=>
          rw[hacc]at hx;have hG:tG (tbK l wd most a j b) a b=true:=by unfold tG;rw[oH,hacc];rfl
          have hB2:tB (tbK l wd most a j b) a b=y.1:=by unfold tB;rw[oH,hacc];rfl
          have hyr:=(rZ hB hm.2 hal hacc).1;by_cases hlt:co+rc+bw<y.1
          ·rw[if_pos (show(some y).all (fun y=>decide (co+bw+rc<y.1))=true from decide_eq_true (show co+bw+rc<y.1 by omega))]at hx
           have hE:=Lib.hid (bM (uW hx));clear hx hacc;generalize y.1=yc at*;(refine wlk ?_;intros);refine⟨b+1,by omega,by dsimp only;omega,?_,?_,rfl⟩
           ·exact agr
           ·have hE2:=hE.out
            rw[←ahy,←agE,←ahK]at hE2;obtain⟨e1,e2,e3⟩:=hE2;dsimp only at e1 e2 e3;rw[show co+bw+rc=co+rc+bw by omega]at e1;exact agr
          ·rw[if_neg (show¬(some y).all (fun y=>decide (co+bw+rc<y.1))=true from fun q=>hlt (by have:=of_decide_eq_true (show decide (co+bw+rc<y.1)=true from q);omega))]at hx
           have hE:=Lib.hid (bM (ag9 (hx.trans hacc.symm)));clear hx hacc;generalize y.1=yc at*;(refine wlk ?_;intros);refine⟨b+1,by omega,by dsimp only;omega,?_,?_,rfl⟩
           ·exact agr
           ·obtain⟨e1,e2,e3⟩:=hE.out
            exact agr
        ·obtain rfl:b=4:=by omega
         have hE:=Lib.hid (bM (amJ (l:=l) (wd:=wd) (most:=most) (a:=a) (j:=j)));clear hlive;(refine wlk ?_;intros);refine⟨(j+1,(en:Int)-1),⟨by dsimp only;omega,by dsimp only;omega⟩,by dsimp only;omega,?_,?_,rfl⟩
         ·exact agr
         ·obtain⟨e1,e2,e3⟩:=hE.out
          exact agr
      ·have hE:=Lib.hid (hskip (lZ he.out (acp hb)))
       clear hskip hq;generalize iY l wd a en=bd at*;obtain⟨bad,st⟩:=bd;dsimp only at hb apb;by_cases hb0:bad<0
       ·clear hb
        (refine wlk ?_;intros);refine⟨(j+1,(en:Int)-1),⟨by dsimp only;omega,by dsimp only;omega⟩,by dsimp only;omega,?_,?_,rfl⟩
        ·exact agr
        ·obtain⟨e1,e2,e3⟩:=hE.out
         exact agr
       ·have hb1:most<bad:=by omega
        clear hb;(refine wlk ?_;intros);refine⟨(j+1,(en:Int)-1),⟨by dsimp only;omega,by dsimp only;omega⟩,by dsimp only;omega,?_,?_,rfl⟩
        ·exact agr
        ·obtain⟨e1,e2,e3⟩:=hE.out
         exact agr
     ·obtain rfl:j=l.length-a:=by omega
      have hE:=Lib.hid (bM (amX (wd:=wd) (most:=most) hal));(refine wlk ?_;intros);refine⟨(a,(a:Int)-1-1),⟨by dsimp only;omega,by dsimp only;omega⟩,by dsimp only;omega,?_,?_,rfl⟩
      ·exact agr
      ·obtain⟨e1,e2,e3⟩:=hE.out
       exact agr
  ·obtain rfl:m=0:=by omega
   have hG:tG (tbA l wd most 0) 0 1=(aU l wd most 0 1).isSome:=by unfold tG;rw[agC];rfl
   have hbl:(cK l wd most).length≤l.length:=afE hB hm.2 _ _ _ (Nat.zero_le _);have hb0:cK l wd most=[]++bkF l wd most (l.length+1) 0 ((1:Nat):Int):=rfl;cases hs:aU l wd most 0 1 with
   |none=>rw[hs]at hG;simp only[Option.isSome_none]at hG⊢;rw[if_neg (by decide)];clear hb0 hbl;exact wlkF
   |some r0=>
    rw[hs]at hG;simp only[Option.isSome_some]at hG⊢;rw[show(if True then cK l wd most else [])=cK l wd most from if_pos trivial];generalize cK l wd most=res at*;replace hb0:=Lib.hid hb0;have hs0:(aU l wd most 0 ((1:Nat):Int)).isSome=true:=by show(aU l wd most 0 1).isSome=true;rw[hs];rfl
    replace hs0:=Lib.hid hs0;clear hs;(refine wlk ?_;intros);clear hG;refine aB (α:=Nat×Int×Nat×LI×Nat×Nat×Nat) mixed (fun z=>[(0,gy l),(1,iv wd),(2,iv most),(8,.row z.2.2.2.2.1 1 0 z.2.2.2.1.length),(9,iv l.length),(12,.row 3 4 0 (l.length+1)),(22,iv z.2.1),(23,iv z.2.2.1)])
     (fun z=>[(3,158,4,(tab l.length (tN (tbA l wd most 0))).map adV),(z.2.2.2.2.1,3,1,z.2.2.2.1.map pvN)]) (fun z=>z.2.2.2.2.2.1)
     (fun z=>z.1≤l.length∧z.2.1=(z.1:Int)-1∧z.2.2.1<4∧(aU l wd most z.1 (z.2.2.1:Int)).isSome=true∧z.2.2.2.1.length≤z.1∧(¬z.2.2.2.2.1=3∧z.2.2.2.2.1<z.2.2.2.2.2.1∧4≤z.2.2.2.2.2.1)∧l.length+1≤z.2.2.2.2.2.2+z.1∧res=z.2.2.2.1++bkF l wd most z.2.2.2.2.2.2 z.1 (z.2.2.1:Int)) (fun z=>l.length-z.1) (by kernel_rfl)
     (0,-1,1,[],0,4,l.length+1) ⟨Nat.zero_le _,rfl,by simp,hs0.out,Nat.le_refl _,by simp,by simp,hb0.out⟩ ?_ ?_ rfl ?_
    ·exact agi
    ·exact agr
    rintro⟨a,v,kk,out,x,y,f⟩ ⟨hal,hv,hkk,hs,hol,⟨hx3,hxy,hy4⟩,hf,hres⟩;dsimp only at hal hv hkk hs hol hx3 hxy hy4 hf hres;have hx3':¬3=x:=fun q=>hx3 q.symm;subst hv;clear hs0 hb0;by_cases hlt:a<l.length
    ·obtain⟨r,hr⟩:∃r,aU l wd most a (kk:Int)=some r:=Option.isSome_iff_exists.1 hs
     obtain⟨f',rfl⟩:∃f',f=f'+1:=⟨f-1,by omega⟩;rw[nU (by omega) hr]at hres;have hN:tN (tbA l wd most 0) a kk=(r.2.1:Int):=by unfold tN;rw[agC,hr];rfl
     obtain⟨-,hb2⟩:=dx hB hm.2 hal hr;obtain⟨⟨ha1,ha2⟩,hk0,hk3⟩:=hb2 hlt;obtain⟨x',c0,hx',hL⟩:=ou hlt hr;obtain⟨hq,hbd,hpair⟩:=sN hL;have hlk:r.2.2=gL (iY l wd a r.2.1).2 (iY l wd a r.2.1).1:=congrArg Prod.snd hpair;obtain⟨-,-,-,hst,-⟩:=fE.1 hq;have apb:=afQ hB ha1 ha2 hw hst;have apk:=aaL (s:=(iY l wd a r.2.1).2) (bad:=(iY l wd a r.2.1).1) ⟨hbd.1,by omega⟩;rw[←hlk]at apk;clear hL hpair hlk hq hst hr hs hb2;obtain⟨rc,en,rk⟩:=r;dsimp only at hres hN ha1 ha2 hk0 hk3 hx' hbd apb apk;obtain⟨k2,rfl⟩:∃k2:Nat,rk=k2:=⟨rk.toNat,by omega⟩;generalize iY l wd a en=bd at*;obtain⟨bad,st⟩:=bd;dsimp only at hbd apb apk;have hcan:(a:Int)-1+1=a:=by omega
     replace hres:=Lib.hid hres;replace hx':=Lib.hid hx';have hkk2:k2<4:=by omega
     (refine wlk ?_;intros);refine⟨(en+1,(en:Int),k2,out++[(en:Int)],y+1,y+2,f'),⟨by dsimp only;omega,by dsimp only;omega,hkk2,by dsimp only;rw[hx'.out];rfl,by simp;omega,⟨by dsimp only;omega,by dsimp only;omega,by dsimp only;omega⟩,by dsimp only;omega,by dsimp only;rw[hres.out];simp⟩,by dsimp only;omega,?_,?_,rfl⟩
     ·exact agr
     ·exact agr
    ·obtain rfl:a=l.length:=by omega
     rw[yS,List.append_nil]at hres;subst hres;clear hs;exact wlkF
 ·have hok:kg l wd most=false:=Bool.eq_false_iff.2 fun q=>by obtain⟨q1,q2,q3,q4,-⟩:=eH.1 q;exact hg ⟨q1,q2,q3,q4⟩
  rw[hok,if_neg (by decide)];clear hok hpre;cases hB:aW l with
  |false=>rw[hB]at apv;clear hg hB;have gbb_c127:=xD;have gbb_c34:=adq;have gbb_c128:=wP;have gbb_c129:=yQ;have gbb_c130:=xC;have gbb_c131:=xE;have gbb_c132:=x9;have gbb_c133:=xK;exact wlkF
  |true=>
  rw[hB]at apv;by_cases hw:0≤wd∧wd≤1000
  ·have api1:inB wd 0 1000=true:=aD.2 hw
   by_cases hm:0≤most∧most≤10000
   ·have api2:inB most 0 10000=true:=aD.2 hm
    have hl0:l.length<1:=by
     by_cases h:l.length<1
     ·exact h
     ·exact absurd ⟨hB,by omega,hw,hm⟩ hg
    clear hg hB;have gbb_c127:=xD;have gbb_c34:=adq;have gbb_c128:=wP;have gbb_c129:=yQ;have gbb_c130:=xC;have gbb_c131:=xE;have gbb_c132:=x9;have gbb_c133:=xK;exact wlkF
   ·have api2:inB most 0 10000=false:=Bool.eq_false_iff.2 fun q=>hm (aD.1 q)
    clear hg hB hm;have gbb_c127:=xD;have gbb_c34:=adq;have gbb_c128:=wP;have gbb_c129:=yQ;have gbb_c130:=xC;have gbb_c131:=xE;have gbb_c132:=x9;have gbb_c133:=xK;exact wlkF
  ·have api1:inB wd 0 1000=false:=Bool.eq_false_iff.2 fun q=>hw (aD.1 q)
   clear hg hB hw;have gbb_c127:=xD;have gbb_c34:=adq;have gbb_c128:=wP;have gbb_c129:=yQ;have gbb_c130:=xC;have gbb_c131:=xE;have gbb_c132:=x9;have gbb_c133:=xK;exact wlkF
def aB8:yU:=G4 dSs dSs dI dI fun ws pats wd most=>if oM ws∧oM pats then some (.tup [.row 0 1 0 (mF ws pats wd most).length,bv (mD ws pats wd most)],[(9,1,(mF ws pats wd most).map fun s=> .val (.string s))])else none
theorem aBE {l l':LS}:(l.map fun s=>PV.val (.string s))++(l'.map fun s=>PV.val (.string s))=(l++l').map fun s=>PV.val (.string s):=List.map_append.symm
attribute[push_cast]
 aBE
def aEi:Ctx:={fn:=aT [(96,φPi),(97,φBb),(98,φPr)],io:=aT []}
theorem ay9:au Tryz.prog aEi:=okΓ (fC Tryz.func96 anJ (fC Tryz.func97 ali (fC Tryz.func98 adC aj))) aj
def aeu:=ah (Γ:=aEi) (f:=96) (φ:=φPi) rfl
def ae5:=ah (Γ:=aEi) (f:=97) (φ:=φBb) rfl
def afR:=ah (Γ:=aEi) (f:=98) (φ:=φPr) rfl
theorem ard:fQ Tryz.prog 66 aB8:=by
 refine qw mixed ay9 Tryz.func66 rfl 127 rfl [.tmp 8,.tmp 9] rfl (by kernel_rfl) fun ps r cs' hr=>?_;obtain⟨ws,pats,wd,most,rfl,hq⟩:=aef hr;clear hr;split at hq
 case isFalse=>cases hq
 case isTrue hpre=>
 cases hq;refine⟨by simp,?_⟩;simp only[dIs,dUs,dSs,bP,bS,bQ,bT,aP,bR,aQ,aO,aR,aL];have api:=awD hpre;unfold mF mD;cases hp:tK ws pats with
 |false=>rw[hp]at api;simp only[Bool.false_and];rw[if_neg (by decide)];generalize piV ws pats=l at*;clear hp;have hl:l=[]∨True:=.inr trivial;clear hl;have gpgl_c96:=aeu;have gpgl_c97:=ae5;have gpgl_c98:=afR;(refine wlk ?_;intros);all_goals((with_reducible apply pE (0) (by first|exact .inl rfl|exact .inr rfl));(focus(exact sr));(focus(exact sr)))
 |true=>
 have hB:=atD hp;have hV:piV ws pats=piR ws pats:=if_pos hp;rw[hp]at api;simp only[Bool.true_and];have hl:=bK hB;have apb:=akE (l:=piV ws pats) (wd:=wd) (most:=most) (show(piV ws pats).length≤1000 by omega);have hnb:=aq0 ws pats;rw[←hV]at hnb⊢;have hwl:=xG (qD.1 hp).1;have hap:∀k,k<ws.length→φPr [.val (.string (ws[k]?.getD .empty)),.lst false 1 (pats.map fun s=> .val (.string s))]=some (.lst true 1 ((bO (ws[k]?.getD .empty) pats).map fun s=> .val (.string s))):=fun k hk=>aex ⟨hpre.1.2 k,hpre.2⟩;have htl:=ae7 ws pats;have htz:∀k:Nat,((txR ws pats)[k]?.getD ByteArray.empty).size≤20:=afw;have hpl:∀k:Nat,(bO (ws[k]?.getD ByteArray.empty) pats).length≤21:=fun k=>kD _ _;have hob:kg (piV ws pats) wd most=true→atz (piV ws pats) (cK (piV ws pats) wd most):=fun h=>ac9 hB (eH.1 h).2.2.2.1.2;have hrr:kg (piV ws pats) wd most=true→axA (piV ws pats) wd most=cK (piV ws pats) wd most:=fun h=>if_pos h;clear hp hB hV;generalize piV ws pats=l at*;cases hb:kg l wd most with
 |false=>rw[hb]at apb;rw[if_neg (by decide)];clear hob hrr hnb hap htl htz hpl hpre hb;have gpgl_c96:=aeu;have gpgl_c97:=ae5;have gpgl_c98:=afR;(refine wlk ?_;intros);all_goals((with_reducible apply pE (0) (by first|exact .inl rfl|exact .inr rfl));(focus(exact sr));(focus(exact sr)))
 |true=>
  have hbr:=hob hb;rw[hb,hrr hb]at apb;rw[if_pos rfl];clear hob hrr hb hpre;generalize cK l wd most=br at*;obtain⟨hbl,-⟩:=id hbr;have hbat:=fun k hk=>hbr.at_ (k:=k) hk;clear hbr;have htR:txR ws pats=txK ws pats ws.length:=rfl;have gpgl_c96:=aeu;have gpgl_c97:=ae5;have gpgl_c98:=afR;(refine wlk ?_;intros);refine aB (α:=Nat×Nat×Nat) mixed (fun z=>[(0,.lst false 1 (ws.map pvS)),(1,.lst false 1 (pats.map pvS)),(10,.row 0 1 0 0),(11,.lst true 7 (l.map gG)),(13,.lst true 1 (br.map pvN)),(15,.row z.2.1 1 0 (txK ws pats z.1).length),(16,iv z.1)])
   (fun z=>[(0,9,1,[]),(z.2.1,9,1,(txK ws pats z.1).map pvS)]) (fun z=>z.2.2)
   (fun z=>z.1≤ws.length∧0<z.2.1∧z.2.1<z.2.2) (fun z=>ws.length-z.1) (by kernel_rfl) (0,1,2) ⟨Nat.zero_le _,by simp,by simp⟩ ?_ ?_ rfl ?_
  ·simp(disch:=(first|omega|(simp only[push_cast];first|done|omega))) only[push_cast,↓reduceIte,Rq,Rb,Ra,Rs,Rt,txK,List.length_nil, *]
  ·simp(disch:=(first|omega|(simp only[push_cast];first|done|omega))) only[push_cast,↓reduceIte,Rq,Rb,Ra,Rs,Rt,txK,List.map_nil, *]
  rintro⟨k,x,y⟩ ⟨hk,hx0,hxy⟩;dsimp only at hk hx0 hxy;have hlk:=htl k;by_cases h0:k<ws.length
  ·have apk:=hap k h0
   have hlp:=hpl k;have hn:txK ws pats (k+1)=txK ws pats k++bO (ws[k]?.getD .empty) pats:=rfl;replace hn:=Lib.hid hn;generalize txK ws pats k=out at*;generalize bO (ws[k]?.getD .empty) pats=ps at*;clear htl hap hpl htR hnb htz hbat;(refine wlk ?_;intros);refine⟨(k+1,y,y+1),⟨by dsimp only;omega,by dsimp only;omega,by dsimp only;omega⟩,by dsimp only;omega,?_,?_,rfl⟩
   ·dsimp only
    rw[hn.out];exact agr
   ·dsimp only
    rw[hn.out];exact agr
  ·obtain rfl:k=ws.length:=by omega
   rw[←htR];rw[←htR]at hlk;have hts:=fun a=>abo (l:=l) (tx:=txR ws pats) (a:=a) htz;have htz2:∀k:Nat,((txR ws pats)[k]?.getD ByteArray.empty).size≤20:=htz;have htxl:(txR ws pats).length≤252:=by omega
   generalize txR ws pats=tx at*;clear htl hap hpl htR htz;have hlnk:=qR l tx br;(refine wlk ?_;intros);refine aB (α:=Nat×Nat×Nat×Int) mixed (fun z=>[(10,.row z.2.1 1 0 z.1),(11,.lst true 7 (l.map gG)),(13,.lst true 1 (br.map pvN)),(15,.row x 1 0 tx.length),(17,iv (nbX l (frB br z.1))),(18,iv z.2.2.2),(19,iv z.1)])
    (fun z=>[(x,9,1,tx.map pvS),(z.2.1,9,1,(mE l tx br z.1).map pvS)]) (fun z=>z.2.2.1)
    (fun z=>z.1≤br.length∧(¬z.2.1=x∧x<z.2.2.1∧z.2.1<z.2.2.1)∧z.2.2.2=(frB br z.1:Int)-1) (fun z=>br.length-z.1) (by kernel_rfl) (0,0,y,-1) ⟨Nat.zero_le _,⟨by dsimp only;omega,hxy,by dsimp only;omega⟩,rfl⟩ ?_ ?_ rfl ?_
   ·simp(disch:=(first|omega|(simp only[push_cast];first|done|omega))) only[push_cast,↓reduceIte,Rq,Rb,Ra,Rs,Rt,frB,nbX,List.take_zero,List.filter_nil,List.length_nil, *]
   ·simp(disch:=(first|omega|(simp only[push_cast];first|done|omega))) only[push_cast,↓reduceIte,Rq,Rb,Ra,Rs,Rt,mE,List.map_nil, *]
   rintro⟨k,o,y2,v⟩ ⟨hkb,⟨hox,hxy2,hoy⟩,hv⟩;dsimp only at hkb hox hxy2 hoy hv;subst hv;have hxo:¬x=o:=fun q=>hox q.symm;clear hk h0 hlk;have hlk:=hlnk k;by_cases hk:k<br.length
   ·obtain⟨b1,b2,b3,b4⟩:=hbat k hk
    have hn:mE l tx br (k+1)=mE l tx br k++[lnR l tx (frB br k) (br[k]?.getD 0).toNat]:=rfl;have hfs:=vL br k;replace hn:=Lib.hid hn;replace hfs:=Lib.hid hfs;generalize mE l tx br k=out at*;generalize frB br k=a at*;obtain⟨en,hen⟩:∃en:Nat,br[k]?.getD 0=en:=⟨(br[k]?.getD 0).toNat,by omega⟩;rw[hen,Int.toNat_natCast]at hn hfs b2 b3 b4;rw[hen]at b1;have hmk:lnR l tx a en=if(l[en]?.getD it0).2.2.2.2.2.2=true then lnT l tx a (en-a)++⟨#[45]⟩else lnT l tx a (en-a):=rfl;replace b4:¬(l[en]?.getD it0).1=1:=b4;have hbox:nbX l (en+1)=nbX l en:=alp b3 b4;replace hmk:=Lib.hid hmk;replace hbox:=Lib.hid hbox;clear hbat hlnk;have h45:(⟨#[45]⟩:ByteArray).size=1:=rfl;have h32:(⟨#[32]⟩:ByteArray).size=1:=rfl;(refine wlk ?_;intros);refine aB (α:=Nat) mixed (fun j=>[(10,.row o 1 0 k),(11,.lst true 7 (l.map gG)),(13,.lst true 1 (br.map pvN)),(15,.row x 1 0 tx.length),(17,iv (nbX l (a+j))),(18,iv ((a:Int)-1)),(19,iv k),(20,.val (.string (lnT l tx a j))),(21,iv ((a+j:Nat):Int))])
     (fun _=>[(x,9,1,tx.map pvS),(o,9,1,out.map pvS)]) (fun _=>y2)
     (fun j=>a+j≤en) (fun j=>en-j) (by kernel_rfl) 0 (by omega) ?_ ?_ rfl ?_
    ·have hl0:lnT l tx a 0=⟨#[]⟩:=rfl
     have hcan:(a:Int)-1+1=a:=by omega
     exact agr
    ·exact agr
    intro j hj;have hsz:=hts a j;by_cases hje:a+j<en
    ·have hal:a+j<l.length:=by omega
     have hS:lnT l tx a (j+1)=oP l tx (lnT l tx a j) (a+j):=rfl;have hbx1:=fun q=>afH (l:=l) (n:=a+j) hal q;have hbx2:=fun q=>alp (l:=l) (n:=a+j) hal q;have hlt1:=fun q=>zJ (l:=l) (n:=a+j) hal q;have hq1:=fun q=>adQ (l:=l) (tx:=tx) (s:=lnT l tx a j) (n:=a+j) q;have hq2:=fun q=>ag6 (l:=l) (tx:=tx) (s:=lnT l tx a j) (n:=a+j) q;have hq3:=fun q r=>aja (l:=l) (tx:=tx) (s:=lnT l tx a j) (n:=a+j) q r;rw[hnb]at hlt1;rw[←hS]at hq1 hq2 hq3;have hnx:=anA l (a+j);rw[hnb]at hnx;clear hS hmk hn hfs hbox;generalize hs9:lnT l tx a j=s at*;generalize hs8:lnT l tx a (j+1)=s2 at*;replace hs9:=Lib.hid hs9;replace hs8:=Lib.hid hs8;generalize hnb2:nbX l (a+j+1)=nn2 at*;replace hnb2:=Lib.hid hnb2;generalize nbX l (a+j)=nn at*;clear hnb b4;change∀q:(l[a+j]?.getD it0).1=1,_ at hbx1 hlt1 hq1;change∀q:¬(l[a+j]?.getD it0).1=1,_ at hbx2 hq3;change∀q:(l[a+j]?.getD it0).1=2∧0<(l[a+j]?.getD it0).2.1∧¬s=⟨#[]⟩,_ at hq2;have hq3':¬(l[a+j]?.getD it0).1=1→¬((l[a+j]?.getD it0).1=2∧0<(l[a+j]?.getD it0).2.1∧¬s=⟨#[]⟩)→s2=s:=hq3;clear hq3;generalize hyy:l[a+j]?.getD it0=yy at*;obtain⟨y1,y2',y3,y4,y5,y6,y7⟩:=yy;dsimp only at hbx1 hbx2 hlt1 hq1 hq2 hq3';have hfin:∀nn':Nat,∀s':ByteArray,nn2=nn'→s2=s'→nbX l (a+(j+1))=nn'∧lnT l tx a (j+1)=s':=fun nn' s' h1 h2=>⟨by rw[←h1];exact hnb2.out,by rw[←h2];exact hs8.out⟩;by_cases k1:y1=1
     ·have hf:=Lib.hid (hfin _ _ (hbx1 k1) (hq1 k1))
      have hn9:=hlt1 k1;have ht9:=htz2 nn;clear hbx1 hbx2 hlt1 hq1 hq2 hq3' hfin;subst k1;(refine wlk ?_;intros);refine⟨j+1,by dsimp only;omega,by dsimp only;omega,?_,?_,rfl⟩
      ·dsimp only
       rw[hf.out.1,hf.out.2];exact agi
      ·exact agr
     ·by_cases k2:y1=2∧0<y2'∧¬s=⟨#[]⟩
      ·have hf:=Lib.hid (hfin _ _ (hbx2 k1) (hq2 k2))
       clear hbx1 hbx2 hlt1 hq1 hq2 hq3' hfin;obtain⟨rfl,k2,k3⟩:=k2;(refine wlk ?_;intros);refine⟨j+1,by dsimp only;omega,by dsimp only;omega,?_,?_,rfl⟩
       ·dsimp only
        rw[hf.out.1,hf.out.2];exact agi
       ·exact agr
      ·have hf:=Lib.hid (hfin _ _ (hbx2 k1) (hq3' k1 k2))
       clear hbx1 hbx2 hlt1 hq1 hq2 hq3' hfin;by_cases k3:y1=2
       ·by_cases k4:0<y2'
        ·have k5:s=⟨#[]⟩:=Classical.byContradiction fun q=>k2 ⟨k3,k4,q⟩
         clear k2;subst k3 k5;(refine wlk ?_;intros);refine⟨j+1,by dsimp only;omega,by dsimp only;omega,?_,?_,rfl⟩
         ·dsimp only
          rw[hf.out.1,hf.out.2];exact agi
         ·exact agr
        ·clear k2
         subst k3;(refine wlk ?_;intros);refine⟨j+1,by dsimp only;omega,by dsimp only;omega,?_,?_,rfl⟩
         ·dsimp only
          rw[hf.out.1,hf.out.2];exact agi
         ·exact agr
       ·clear k2
        (refine wlk ?_;intros);refine⟨j+1,by dsimp only;omega,by dsimp only;omega,?_,?_,rfl⟩
        ·dsimp only
         rw[hf.out.1,hf.out.2];exact agi
        ·exact agr
    ·have hje2:j=en-a:=by omega
     have hae:a+j=en:=by omega
     rw[hae];rw[←hje2]at hmk;generalize lnT l tx a j=s at*;clear hje2;have hcl:(((en:Int)-1)+1)=en:=by omega
     have hfe:frB br (k+1)=en+1:=hfs.out;have hnx:nbX l (frB br (k+1))=nbX l en:=by rw[hfe];exact hbox.out
     replace hfe:=Lib.hid hfe;replace hnx:=Lib.hid hnx;clear hae b4 hfs hbox hcl hnb;generalize hyy:l[en]?.getD it0=yy at*;obtain⟨y1,y2',y3,y4,y5,y6,y7⟩:=yy;have hmk2:=hmk.out;clear hmk;dsimp only at hmk2;cases y7 with
     |true=>
      rw[if_pos rfl]at hmk2;rw[hmk2]at hn;clear hmk2;(refine wlk ?_;intros);refine⟨(k+1,y2+1,y2+2,(en:Int)),⟨by dsimp only;omega,⟨by dsimp only;omega,by dsimp only;omega,by dsimp only;omega⟩,by dsimp only;rw[hfe.out];omega⟩,by dsimp only;omega,?_,?_,rfl⟩
      ·dsimp only
       rw[hnx.out];exact agi
      ·dsimp only
       rw[hn.out];exact agr
     |false=>
      rw[if_neg (by decide)]at hmk2;rw[hmk2]at hn;clear hmk2;(refine wlk ?_;intros);refine⟨(k+1,y2+1,y2+2,(en:Int)),⟨by dsimp only;omega,⟨by dsimp only;omega,by dsimp only;omega,by dsimp only;omega⟩,by dsimp only;rw[hfe.out];omega⟩,by dsimp only;omega,?_,?_,rfl⟩
      ·dsimp only
       rw[hnx.out];exact agi
      ·dsimp only
       rw[hn.out];exact agr
   ·obtain rfl:k=br.length:=by omega
    generalize mE l tx br br.length=out at*;(refine wlk ?_;intros);all_goals((with_reducible apply pE (o) (by first|exact .inl rfl|exact .inr rfl));(focus(exact sr));(focus(exact sr)))
def aqH:Fun:=aeM aB8
theorem ajN:Sound Tryz.prog 66 aqH:=ard.pure
theorem apG {ws pats:LS} {wd most:Int} (h:oM ws∧oM pats):aqH [.lst false 1 (ws.map fun s=> .val (.string s)),.lst false 1 (pats.map fun s=> .val (.string s)),.val (.int .i64 wd),.val (.int .i64 most)]=some (.tup [.lst true 1 ((mF ws pats wd most).map fun s=> .val (.string s)),.val (.bool (mD ws pats wd most))]):=by refine qx (r:=.tup [.row 0 1 0 (mF ws pats wd most).length,.val (.bool (mD ws pats wd most))]) (cs0:=[(9,1,(mF ws pats wd most).map fun s=> .val (.string s))]) ((awV (A:=dSs) (B:=dSs) (C:=dI) (D:=dI) ws pats wd most).trans (if_pos h)) ?_;rw[aoq];(exact sr)
theorem adB {zs:List Int} {k:Nat} (h:k<zs.length) (hb:xI zs k=false):iA zs=false:=by unfold iA;rw[adO h hb];rfl
theorem zL {zs:List Int} (h:j4 zs zs.length=true):iA zs=decide ((zs.length:Int)≤30):=by unfold iA;rw[h,Bool.true_and];exact decide_eq_decide.2 (by omega)
theorem sG {zs:List Int}:iA zs=true↔(∀i,i<zs.length→(1≤zs[i]?.getD 0∧zs[i]?.getD 0≤999)∧(0<i→zs[i-1]?.getD 0<zs[i]?.getD 0))∧zs.length≤30:=by
 unfold iA j4;simp only[Bool.and_eq_true,List.all_eq_true,List.mem_range,decide_eq_true_eq];refine and_congr_left fun _=>forall_congr' fun i=>imp_congr_right fun _=>?_;simp only[xI,Bool.and_eq_true,aD,Bool.or_eq_true,beq_iff_eq,decide_eq_true_eq];refine and_congr_right fun _=>?_;constructor
 ·rintro(h|h) h0
  ·omega
  ·exact h
 ·intro h
  by_cases h0:i=0
  ·exact .inl h0
  ·exact .inr (h (by omega))
def lH:Fun:=F1 dIs fun zs=>if zs.length≤1099511627776 then some (bv (iA zs))else none
theorem yB {zs:List Int} (h:zs.length≤1099511627776):lH [.lst false 1 (zs.map fun n=> .val (.int .i64 n))]=some (.val (.bool (iA zs))):=
 (dY (A:=dIs) zs).trans (if_pos h)
def aGz:Ctx:={fn:=aT [(82,aae)],io:=aT []}
theorem axk:au Tryz.prog aGz:=okΓ (fC Tryz.func82 adv aj) aj
def avY:=ah (Γ:=aGz) (f:=82) (φ:=aae) rfl
theorem ab4:Sound Tryz.prog 115 lH:=by
 refine ak mixed axk Tryz.func115 rfl 32 rfl [.tmp 2] rfl (by kernel_rfl) fun ps r hr=>?_;obtain⟨zs,rfl,hpre,rfl⟩:=je hr;refine⟨by simp,?_⟩;simp only[dIs,dUs,dSs,bP,bS,bQ,bT,aP,bR,aQ,aO,aR,aL];have gpvi_c82:=avY;have ap:=acG;(refine wlkX6 ?_ ?_ ?_ ?_ ?_ ?_<;>intros<;>try with_reducible exact trivial);refine aB (α:=Nat) mixed (fun k=>[(0,.lst false 1 (zs.map fun n=> .val (.int .i64 n))),(5,.lst false 1 (zs.map fun n=> .val (.int .i64 n))),(6,iv zs.length),(7,iv k)]) (fun _=>[]) (fun _=>0)
  (fun k=>k≤zs.length∧j4 zs k=true) (fun k=>zs.length-k) (by kernel_rfl) 0 ⟨Nat.zero_le _,rfl⟩ ?_ trivial rfl ?_
 ·simp only[push_cast,↓reduceIte,Rq,Rb,Ra,Rs,Rt]
 ·intro k ⟨hk,hok⟩
  have hpg:xI zs k=(inB (zs[k]?.getD 0) 1 999&&(k==0||decide (zs[k-1]?.getD 0<zs[k]?.getD 0))):=rfl;(refine wlkX6 ?_ ?_ ?_ ?_ ?_ ?_<;>intros<;>try with_reducible exact trivial);all_goals try(refine fnG ?_;try with_reducible exact trivial)
  all_goals try(rw[adB (k:=k) (by omega) (by rw[hpg];simp_all;try omega)];done)
  all_goals try(rw[zL (by rwa[show zs.length=k by omega])];done)
  all_goals
   refine⟨k+1,⟨by omega,by rw[uj,hok,hpg];simp_all;try omega⟩,by dsimp only;omega,by simp only[push_cast,↓reduceIte,Rq,Rb,Ra,Rs,Rt],trivial,rfl⟩
def aGE:Ctx:={fn:=aT [(34,φIn)],io:=aT []}
theorem awS:au Tryz.prog aGE:=okΓ (fC Tryz.func34 fK aj) aj
def aya:=ah (Γ:=aGE) (f:=34) (φ:=φIn) rfl
theorem aaz:Sound Tryz.prog 118 lH:=by
 refine ak mixed awS Tryz.func118 rfl 35 rfl [.tmp 2] rfl (by kernel_rfl) fun ps r hr=>?_;obtain⟨zs,rfl,hpre,rfl⟩:=je hr;refine⟨by simp,?_⟩;simp only[dIs,dUs,dSs,bP,bS,bQ,bT,aP,bR,aQ,aO,aR,aL];have gpvs_c34:=aya;have ap:=bI;(refine wlkX6 ?_ ?_ ?_ ?_ ?_ ?_<;>intros<;>try with_reducible exact trivial);refine aB (α:=Nat) mixed (fun k=>[(0,.lst false 1 (zs.map fun n=> .val (.int .i64 n))),(3,iv k)]) (fun _=>[]) (fun _=>0)
  (fun k=>k≤zs.length∧j4 zs k=true) (fun k=>zs.length-k) (by kernel_rfl) 0 ⟨Nat.zero_le _,rfl⟩ ?_ trivial rfl ?_
 ·simp only[push_cast,↓reduceIte,Rq,Rb,Ra,Rs,Rt]
 ·intro k ⟨hk,hok⟩
  have hpg:xI zs k=(inB (zs[k]?.getD 0) 1 999&&(k==0||decide (zs[k-1]?.getD 0<zs[k]?.getD 0))):=rfl;(refine wlkX6 ?_ ?_ ?_ ?_ ?_ ?_<;>intros<;>try with_reducible exact trivial);all_goals try(refine fnG ?_;try with_reducible exact trivial)
  all_goals try(rw[adB (k:=k) (by omega) (by rw[hpg];simp_all;try omega)];done)
  all_goals try(rw[zL (by rwa[show zs.length=k by omega])];done)
  all_goals
   refine⟨k+1,⟨by omega,by rw[uj,hok,hpg];simp_all;try omega⟩,by dsimp only;omega,by simp only[push_cast,↓reduceIte,Rq,Rb,Ra,Rs,Rt],trivial,rfl⟩
attribute[push_cast]
 List.length_append
def pK:List PV→List Nat
 |[]=>[]
 | .own o _ _ _::l=>o::pK l
 | .row o _ _ _::l=>o::pK l
 |_::l=>pK l
def aaW:PV→List Nat
 | .own o _ _ _=>[o]
 | .row o _ _ _=>[o]
 | .agg cs=>pK cs
 |_=>[]
def adG:List PV→List Nat
 |[]=>[]
 |p::ps=>aaW p++adG ps
theorem agt:∀cs:List PV,(cs.flatMap fun c=>match c with| .own o _ _ _=>[o]| .row o _ _ _=>[o]|_=>[])=pK cs
 |[]=>rfl
 |c::cs=>by rw[List.flatMap_cons,agt cs];cases c<;>rfl
theorem aht:∀ps:List PV,ps.flatMap refsOf=adG ps
 |[]=>rfl
 |p::ps=>by
  rw[List.flatMap_cons,aht ps];show _=aaW p++adG ps;congr 1;cases p with
  |agg cs=>exact agt cs
  |_=>rfl
section
variable {Φ:jh} {ob:bG} {nx:Nat}
def asR (Φ:jh) (ob:bG) (nx a b:Nat) (qs:List PV):Option aS→Option aS→Option (PV×bG×Nat)
 |some c,some d=>(c.2.2.mapM (fq (inn [a,b]) fuel)).bind fun es=>(d.2.2.mapM (fq (inn [a,b]) fuel)).bind fun fs=>ioR [a,b] ob nx (Φ qs [(c.1,c.2.1,es),(d.1,d.2.1,fs)])
 |_,_=>none
def ioX (Φ:jh) (ob:bG) (nx:Nat) (ps:List PV):List Nat→Option (PV×bG×Nat)
 |[]=>(ps.mapM (fq (inn []) fuel)).bind fun qs=>ioR [] ob nx (Φ qs [])
 |[o]=>(ps.mapM (fq (inn [o]) fuel)).bind fun qs=>amH Φ ob nx o qs (ob o)
 |[a,b]=>(ps.mapM (fq (inn [a,b]) fuel)).bind fun qs=>asR Φ ob nx a b qs (ob a) (ob b)
 |_=>akf Φ ob nx ps
theorem aAS (ps:List PV):akf Φ ob nx ps=ioX Φ ob nx ps (dedup (adG ps)):=by
 generalize hos:dedup (adG ps)=os;rw[←aht]at hos
 match os with
 |[]=>
  show _=(ps.mapM (fq (inn []) fuel)).bind _;cases h2:ps.mapM (fq (inn []) fuel)with
  |some qs=>rw[xB ps [] hos,h2,mapM_nil'];rfl
  |none=>rw[xB ps [] hos,h2,mapM_nil'];rfl
 |[o]=>
  show _=(ps.mapM (fq (inn [o]) fuel)).bind _;cases h2:ps.mapM (fq (inn [o]) fuel)with
  |some qs=>rw[aqg hos h2];rfl
  |none=>rw[xB ps [o] hos,h2];cases [o].mapM ob<;>rfl
 |[a,b]=>
  show _=(ps.mapM (fq (inn [a,b]) fuel)).bind _;rw[xB ps [a,b] hos];simp only[mapM_cons',mapM_nil',agq];cases ps.mapM (fq (inn [a,b]) fuel)with
  |none=>cases ob a<;>cases ob b<;>rfl
  |some qs=>
   simp only[Option.bind_some];cases ob a with
   |none=>rfl
   |some c=>
    cases ob b with
    |none=>rfl
    |some d=>
     obtain⟨T,sz,es0⟩:=c;obtain⟨T2,sz2,fs0⟩:=d;simp only[Option.bind_some,Option.map_some,asR,mapM_cons',mapM_nil',agq];cases es0.mapM (fq (inn [a,b]) fuel)with
     |none=>rfl
     |some es=>simp only[Option.bind_some,Option.map_some];cases fs0.mapM (fq (inn [a,b]) fuel)<;>rfl
 |_::_::_::_=>rfl
theorem aw1 {ps:List PV}:ioX Φ ob nx ps []=(ps.mapM (fq (inn []) fuel)).bind fun qs=>ioR [] ob nx (Φ qs []):=rfl
theorem auM {ps:List PV} {o:Nat}:ioX Φ ob nx ps [o]=(ps.mapM (fq (inn [o]) fuel)).bind fun qs=>amH Φ ob nx o qs (ob o):=rfl
theorem auQ {ps:List PV} {a b:Nat}:ioX Φ ob nx ps [a,b]=(ps.mapM (fq (inn [a,b]) fuel)).bind fun qs=>asR Φ ob nx a b qs (ob a) (ob b):=rfl
theorem aiY {a b T T2 sz sz2:Nat} {es es2 qs:List PV}:asR Φ ob nx a b qs (some (T,sz,es)) (some (T2,sz2,es2))=(es.mapM (fq (inn [a,b]) fuel)).bind fun es=>(es2.mapM (fq (inn [a,b]) fuel)).bind fun fs=>ioR [a,b] ob nx (Φ qs [(T,sz,es),(T2,sz2,fs)]):=rfl
theorem aFR {a b:Nat}:inn [a,b] a=some 0:=by simp[inn]
theorem aFy {a b:Nat} (h:¬a=b):inn [a,b] b=some 1:=by
 have h2:(a==b)=false:=by simpa using h
 simp[inn,List.idxOf_cons,h2]
theorem arT {a b nx:Nat}:uL [a,b] nx 0=some a:=rfl
theorem asT {a b nx:Nat}:uL [a,b] nx 1=some b:=rfl
theorem aD7:dedup []=[]:=rfl
theorem aAg {o:Nat}:dedup [o]=[o]:=rfl
theorem azy:adG []=[]:=rfl
theorem axR {p:PV} {ps:List PV}:adG (p::ps)=aaW p++adG ps:=rfl
theorem azn {v:Value}:aaW (.val v)=[]:=rfl
theorem aB9 {k:Bool} {sz:Nat} {es:List PV}:aaW (.lst k sz es)=[]:=rfl
theorem aDZ {k:Bool} {e:PV} {o:Nat}:aaW (.ptr k e o)=[]:=rfl
theorem aAT {o a b c:Nat}:aaW (.own o a b c)=[o]:=rfl
theorem aCS {o a b c:Nat}:aaW (.row o a b c)=[o]:=rfl
theorem aCU {cs:List PV}:aaW (.agg cs)=pK cs:=rfl
theorem aDe:pK []=[]:=rfl
theorem aD9 {v:Value} {l:List PV}:pK (.val v::l)=pK l:=rfl
theorem aAl {k:Bool} {sz:Nat} {es l:List PV}:pK (.lst k sz es::l)=pK l:=rfl
theorem azr {o a b c:Nat} {l:List PV}:pK (.own o a b c::l)=o::pK l:=rfl
theorem azI {o a b c:Nat} {l:List PV}:pK (.row o a b c::l)=o::pK l:=rfl
end
attribute[push_cast low]
 aAS
attribute[push_cast]
 aw1 auM auQ aiY aFR aFy arT asT aD7 aAg azy axR azn aB9 aDZ aAT aCS aCU aDe aD9 aAl azr azI
theorem acf {l:List It} {tx:LS} {br:List Int} (h:∀k:Nat,(tx[k]?.getD ByteArray.empty).size≤20) (hl:l.length≤60) (hb:atz l br):∀k,k≤br.length→∀s∈mE l tx br k,s.size≤2000
 |0,_=>by simp[mE]
 |k+1,hk=>fun s hs=>by
  rw[mE]at hs;rcases List.mem_append.1 hs with hs|hs
  ·exact acf h hl hb k (by omega) s hs
  ·rw[List.mem_singleton.1 hs]
   obtain⟨b1,b2,b3,-⟩:=hb.at_ (k:=k) (by omega);have:=abo (l:=l) (tx:=tx) (a:=frB br k) h ((br[k]?.getD 0).toNat-frB br k);unfold lnR;split
   ·rw[ByteArray.size_append,show(⟨#[45]⟩:ByteArray).size=1 from rfl]
    omega
   ·omega
theorem abm (ws pats:LS) (wd most:Int):(mF ws pats wd most).length≤60∧∀s∈mF ws pats wd most,s.size≤2000:=by
 unfold mF;split
 ·rename_i h
  unfold mD at h;rw[Bool.and_eq_true]at h;obtain⟨h1,h2⟩:=h;have hV:piV ws pats=piR ws pats:=if_pos h1;rw[hV]at h2;obtain⟨hB,-,-,hm,-⟩:=eH.1 h2;have hb:=ac9 (wd:=wd) hB hm.2;have hl:=bK hB;rw[qR];exact⟨by have:=hb.1;omega,acf afw hl hb _ (Nat.le_refl _)⟩
 ·simp
def aqv (s:ByteArray):Prop:=∀b∈s.data.toList,¬b=45
theorem aho {a b:ByteArray} (h:aqv a) (h2:aqv b):aqv (a++b):=fun x hx=>by
 rw[ByteArray.data_append,Array.toList_append]at hx;rcases List.mem_append.1 hx with hx|hx
 ·exact h x hx
 ·exact h2 x hx
theorem amL {s:ByteArray} (h:bY s=true):aqv s:=fun b hb e=>by
 obtain⟨i,hi,rfl⟩:=List.getElem_of_mem hb;have hi2:i<s.size:=by simpa using hi
 unfold bY at h;rw[Bool.and_eq_true,List.all_eq_true]at h;have h1:=aD.1 (h.1 i (List.mem_range.2 hi2));have h2:at8 s i=(s.data.toList[i].toNat:Int):=by unfold at8;rw[getElem?_pos s i hi2];rfl
 rw[h2,e]at h1;exact absurd h1.1 (by decide)
theorem amV (ws pats:LS) (k:Nat):aqv ((txR ws pats)[k]?.getD .empty):=by
 by_cases h:k<(txR ws pats).length
 ·exact amL (agN h)
 ·rw[List.getElem?_eq_none (by omega)]
  intro b hb;simp at hb
theorem ags {l:List It} {tx:LS} {a:Nat} (h:∀k:Nat,aqv (tx[k]?.getD .empty)):∀j,aqv (lnT l tx a j)
 |0=>fun b hb=>by simp[lnT]at hb
 |j+1=>by
  have ih:=ags (l:=l) (a:=a) h j;rw[lnT];unfold oP;split
  ·exact aho ih (h _)
  ·split
   ·refine aho ih fun b hb=>?_
    rw[List.mem_singleton.1 hb];decide
   ·exact ih
def adZ (ws pats:LS):Bool:=bD ws&&(bA pats&&decide (0<ws.length))
def apz:Fun:=F2 dSs dSs fun ws pats=>if oM ws∧oM pats then some (.tup [.lst true 7 ((if adZ ws pats=true then piR ws pats else []).map gG),.lst true 1 ((if adZ ws pats=true then txR ws pats else []).map fun s=> .val (.string s)),bv (tK ws pats)])else none
theorem arV {ws pats:LS} (h:oM ws∧oM pats):apz [.lst false 1 (ws.map fun s=> .val (.string s)),.lst false 1 (pats.map fun s=> .val (.string s))]=some (.tup [.lst true 7 ((if adZ ws pats=true then piR ws pats else []).map gG),.lst true 1 ((if adZ ws pats=true then txR ws pats else []).map fun s=> .val (.string s)),.val (.bool (tK ws pats))]):=(fZ (A:=dSs) (B:=dSs) ws pats).trans (if_pos h)
theorem yw {w:ByteArray} {pats:LS} (h1:bY w=true) (h2:bA pats=true):0<(bO w pats).length:=by unfold bO;rw[if_pos (jS.2 ⟨h1,h2⟩)];unfold acv;rw[al9];omega
theorem aky {ws pats:LS} (h1:bD ws=true) (h2:bA pats=true):∀k,k≤ws.length→0<k→0<(txK ws pats k).length
 |0,_,h=>by omega
 |k+1,hk,_=>by have:=yw (pats:=pats) (nY h1 (k:=k) (by omega)) h2;rw[txK,List.length_append];omega
theorem ayF {ws pats:LS} (h1:bD ws=true) (h2:bA pats=true) {k:Nat} (hk:k≤ws.length) (h:0<k):0<(piK ws pats k).length:=by have h3:=aky h1 h2 k hk h;rw[←aqs]at h3;exact Nat.lt_of_lt_of_le h3 (List.length_filter_le _ _)
end
end Go.Proofs.YtmmafcjjlbgnkaaGreatDoor
