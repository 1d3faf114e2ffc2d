/- What the proof rests on, part 12: contracts of functions. No condition beyond what each states. -/
import Derived.Test.YtmmafcjjlbgnkaaGreatDoorZBi11
namespace Go.Proofs.YtmmafcjjlbgnkaaGreatDoor
open Go.RowKit
open Nat renaming reduceEqDiff→Rq,reduceBEq→Rb,reduceAdd→Ra,reduceSub→Rs
open Int renaming reduceToNat→Rt
set_option linter.all false
set_option maxHeartbeats 32000000
noncomputable section
theorem ake (l:List It):∀(f n m:Nat),n≤m→m<stN l f n→¬(gI l m).kd=1∧forced (gI l m)=false
 |0,n,m,h1,h2=>by simp only[stN]at h2;omega
 |f+1,n,m,h1,h2=>by
  unfold stN at h2;split at h2
  ·rename_i hc
   by_cases h:m=n
   ·subst h;exact hc.2
   ·exact ake l f (n+1) m (by omega) h2
  ·omega
theorem anT (l:List It):∀(f n:Nat),l.length≤f+n→stN l f n<l.length→(gI l (stN l f n)).kd=1∨forced (gI l (stN l f n))=true
 |0,n,h1,h2=>by simp only[stN]at h2;omega
 |f+1,n,h1,h2=>by
  unfold stN at h2⊢;split at h2
  ·rename_i hc
   rw[if_pos hc];exact anT l f (n+1) (by omega) h2
  ·rename_i hc
   rw[if_neg hc];by_cases hk:(gI l n).kd=1
   ·exact .inl hk
   ·right
    cases hf:forced (gI l n)with
    |true=>rfl
    |false=>exact absurd ⟨h2,hk,hf⟩ hc
theorem ayF {l:List It} {a b n:Nat} (h:uU l a b=true) (h1:a≤n) (h2:n<b):forced (gI l n)=false:=by unfold uU at h;rw[List.all_eq_true]at h;have:=h (n-a) (List.mem_range.2 (by omega));rw[show a+(n-a)=n by omega]at this;simpa using this
def uH (l:List It) (tx:LS) (s:ByteArray) (n:Nat):ByteArray:=
 if(gI l n).kd=1 then s++(tx[nbX l n]?.getD .empty)else if 0<(gI l n).wd then s++⟨#[32]⟩else s
def liF (l:List It) (tx:LS) (is:List Int):ByteArray:=is.foldl (fun s n=>uH l tx s n.toNat) ⟨#[]⟩
theorem abg (l:List It) (tx:LS) (is:List Int) (n:Int):liF l tx (is++[n])=uH l tx (liF l tx is) n.toNat:=by simp[liF,List.foldl_append]
theorem abu {l:List It} {tx:LS} {is:List Int} {j:Nat} (h:j<is.length):liF l tx (is.take (j+1))=uH l tx (liF l tx (is.take j)) (is[j]?.getD 0).toNat:=by rw[List.take_succ_eq_append_getElem h,abg,List.getElem?_eq_getElem h,Option.getD_some]
theorem abV {l:List It} {tx:LS} (h:∀k:Nat,(tx[k]?.getD ByteArray.empty).size≤20) (is:List Int):∀j,j≤is.length→(liF l tx (is.take j)).size≤20*j
 |0,_=>by simp[liF,ByteArray.size]
 |j+1,hj=>by
  have ih:=abV (l:=l) h is j (by omega);rw[abu (by omega)];unfold uH;split
  ·rw[ByteArray.size_append]
   have:=h (nbX l (is[j]?.getD 0).toNat);omega
  ·split
   ·rw[ByteArray.size_append,show(⟨#[32]⟩:ByteArray).size=1 from rfl]
    omega
   ·omega
theorem ahm {s:ByteArray} (h:1≤s.size):¬s=⟨#[]⟩:=fun e=>by subst e;simp[ByteArray.size]at h
theorem aFi {l:List It} {tx:LS} {a en:Nat} (hl:aZ l=true) (hq:eY l a en=true) (htx:∀k,k<nb l→1≤(tx[k]?.getD .empty).size):∀i,aG l a+i≤en→liF l tx (o8 l (aG l a) (aG l a+i))=lnT l tx a (aG l a+i-a)∧(0<i→1≤(lnT l tx a (aG l a+i-a)).size):=by
 obtain⟨⟨ha,hen⟩,-,-,hs,hf⟩:=gH.1 hq;have hsa:=(zu (l:=l) (a:=a)).1;have hfront:∀i,a+i≤aG l a→lnT l tx a i=⟨#[]⟩:=by
  intro i
  induction i with
  |zero=>intro _;rfl
  |succ i ih=>intro h;have h1:=ake l (l.length-a) a (a+i) (by omega) (show a+i<aG l a by omega);rw[lnT,ih (by omega),ajI h1.1 (fun q=>q.2.2 rfl)]
 intro i
 induction i with
 |zero=>intro h;refine⟨?_,fun h=>by omega⟩;rw[Nat.add_zero,vH (Nat.le_refl _),hfront _ (by omega)];rfl
 |succ i ih=>
  intro h;obtain⟨e1,e2⟩:=ih (by omega);have hlt:aG l a+i<l.length:=by omega
  have hI:=iR hl hlt;have hS:lnT l tx a (aG l a+(i+1)-a)=o9 l tx (lnT l tx a (aG l a+i-a)) (aG l a+i):=by rw[show aG l a+(i+1)-a=(aG l a+i-a)+1 by omega,lnT,show a+(aG l a+i-a)=aG l a+i by omega]
  have hfirst:i=0→(gI l (aG l a+i)).kd=1:=fun h0=>by
   subst h0;rcases anT l (l.length-a) a (by omega) (show aG l a<l.length by omega)with h1|h1
   ·exact h1
   ·have h2:=ayF hf hsa (show aG l a<en by omega)
    have h3:forced (gI l (aG l a))=true:=h1;rw[h2]at h3;cases h3
  rw[hS,←Nat.add_assoc];generalize lnT l tx a (aG l a+i-a)=s at*;by_cases k1:(gI l (aG l a+i)).kd=1
  ·rw[rU (by omega) (by omega),abg,e1,Int.toNat_natCast,acr k1]
   unfold uH;rw[if_pos k1];refine⟨rfl,fun _=>?_⟩;have:=htx _ (aaf hlt k1);rw[ByteArray.size_append];omega
  ·have hi0:0<i:=by
    rcases Nat.eq_zero_or_pos i with h0|h0
    ·exact absurd (hfirst h0) k1
    ·exact h0
   have hs1:=e2 hi0;by_cases k3:(gI l (aG l a+i)).kd=3
   ·rw[aa8 (by omega) k3,e1,ajI k1 (fun q=>by have:=q.1;omega)]
    exact⟨rfl,fun _=>hs1⟩
   ·have k2:(gI l (aG l a+i)).kd=2:=by have h5:(gI l (aG l a+i)).kd=1∨(gI l (aG l a+i)).kd=2∨(gI l (aG l a+i)).kd=3:=hI.kd;omega
    rw[rU (by omega) k3,abg,e1,Int.toNat_natCast];unfold uH;rw[if_neg k1];by_cases hw:0<(gI l (aG l a+i)).wd
    ·rw[if_pos hw,agM ⟨k2,hw,ahm hs1⟩]
     refine⟨rfl,fun _=>?_⟩;rw[ByteArray.size_append];omega
    ·rw[if_neg hw,ajI k1 (fun q=>hw q.2.1)]
     exact⟨rfl,fun _=>hs1⟩
theorem aog {l:List It} {tx:LS} {a en:Nat} (hl:aZ l=true) (hq:eY l a en=true) (htx:∀k,k<nb l→1≤(tx[k]?.getD .empty).size):liF l tx (o8 l (aG l a) en)=lnT l tx a (en-a):=by
 have hs:=(gH.1 hq).2.2.2.1;have:=(aFi hl hq htx (en-aG l a) (by omega)).1
 rwa[show aG l a+(en-aG l a)=en by omega]at this
theorem aot {ws pats:LS} {k:Nat} (h:k<(txR ws pats).length):1≤((txR ws pats)[k]?.getD .empty).size:=(aH (ahJ h)).2.1
def bxL (l:List It) (tx:LS) (k:Nat):VL:=((List.range k).filter fun n:Nat=>decide ((gI l n).kd=1)).map fun n:Nat=>(Value.int .i64 (n:Int),Value.string (tx[nbX l n]?.getD .empty))
theorem al4 {l:List It} {tx:LS} {k:Nat} (h:(gI l k).kd=1):bxL l tx (k+1)=bxL l tx k++[(.int .i64 (k:Int),.string (tx[nbX l k]?.getD .empty))]:=by simp[bxL,List.range_succ,List.filter_append,h]
theorem as2 {l:List It} {tx:LS} {k:Nat} (h:¬(gI l k).kd=1):bxL l tx (k+1)=bxL l tx k:=by simp[bxL,List.range_succ,List.filter_append,h]
theorem alp {l:List It} {tx:LS}:∀{k:Nat},k≤l.length→(bxL l tx k).length=nbX l k
 |0,_=>rfl
 |k+1,h=>by
  have ih:=alp (l:=l) (tx:=tx) (k:=k) (by omega);by_cases hk:(gI l k).kd=1
  ·rw[al4 hk,List.length_append,ih,afl (by omega) hk];rfl
  ·rw[as2 hk,ih,aob (by omega) hk]
theorem aym {l:List It} {tx:LS} {k n:Nat} (h:n<k) (hk:(gI l n).kd=1):(Value.int .i64 (n:Int),Value.string (tx[nbX l n]?.getD .empty))∈bxL l tx k:=
 List.mem_map.2 ⟨n,List.mem_filter.2 ⟨List.mem_range.2 h,by simpa using hk⟩,rfl⟩
theorem am8 {l:List It} {tx:LS} {k:Nat} {p:Value×Value} (h:p∈bxL l tx k):∃n:Nat,n<k∧p.1=.int .i64 (n:Int):=by obtain⟨n,h1,rfl⟩:=List.mem_map.1 h;exact⟨n,List.mem_range.1 (List.mem_filter.1 h1).1,rfl⟩
theorem ayZ {l:List It} {tx:LS} {k:Nat}:∀p∈bxL l tx k,p.1≠ .int .i64 (k:Int):=fun p hp e=>by obtain⟨n,h1,h2⟩:=am8 hp;rw[h2]at e;simp only[Value.int.injEq,true_and]at e;omega
theorem akd {l:List It} {tx:LS} (k:Nat):((bxL l tx k).map Prod.fst).Nodup:=by unfold bxL;rw[List.map_map];refine List.Pairwise.map _ (fun a b h=>?_) (List.Pairwise.filter _ List.nodup_range);simp only[Function.comp,ne_eq,Value.int.injEq,true_and];omega
def φBb:Fun:=F3 pz dI dI fun l wd most=>if ajj l then some (.tup [.lst true 1 ((auQ l wd most).map fun n=> .val (.int .i64 n)),bv (kR l wd most)])else none
theorem amQ {l:List It} {wd most:Int} (h:ajj l):φBb [iw l,.val (.int .i64 wd),.val (.int .i64 most)]=some (.tup [.lst true 1 ((auQ l wd most).map fun n=> .val (.int .i64 n)),.val (.bool (kR l wd most))]):=(acf (A:=pz) (B:=dI) (C:=dI) l wd most).trans (if_pos h)
theorem mI {l:List It} {wd most:Int} {a j en:Nat} (he:l.length-(j+1)=en) (h:jG l wd most a en=none) (k:Int):bG l wd most a k (aU l wd most) (j+1)=bG l wd most a k (aU l wd most) j:=by rw[bG,he,jI h]
theorem yt {l:List It} {wd most:Int} {a j en:Nat} {x:Int×Int} (he:l.length-(j+1)=en) (h:jG l wd most a en=some x) (h2:aU l wd most (en+1) x.2=none) (k:Int):bG l wd most a k (aU l wd most) (j+1)=bG l wd most a k (aU l wd most) j:=by rw[bG,he,mF h h2]
theorem wI {l:List It} {wd most:Int} {a j en:Nat} {x:Int×Int} {r:Ch} (he:l.length-(j+1)=en) (h:jG l wd most a en=some x) (h2:aU l wd most (en+1) x.2=some r) (k:Int):
 bG l wd most a k (aU l wd most) (j+1)=if(bG l wd most a k (aU l wd most) j).all (fun y=>decide (x.1+jP l a en k x.2+r.1<y.1))=true then some (x.1+jP l a en k x.2+r.1,en,x.2)else bG l wd most a k (aU l wd most) j:=by
 rw[bG,he,mE h h2]
theorem acS {l:List It} {wd most:Int} {a en:Nat} (h:eY l a en=true) (h2:0≤(jD l wd a en).1∧(jD l wd a en).1≤most):jG l wd most a en=some (ni (jD l wd a en).1 (gI l en).cost,iH (jD l wd a en).2 (jD l wd a en).1):=if_pos ⟨h,h2⟩
def g0 (n k:Nat):Nat→Nat→Bool:=fun i j=>decide (i=n∧j<k)
theorem ayw (n:Nat):tab n (g0 n 0)=tab n (fun _ _=>false):=jv fun i j _ _=>by simp[g0]
theorem avn (n k:Nat):tab n (zZ (g0 n k) n k true)=tab n (g0 n (k+1)):=jv fun i j _ _=>by
 unfold zZ g0;by_cases h:i=n∧j=k
 ·rw[if_pos h,decide_eq_true (by omega)]
 ·rw[if_neg h]
  congr 1;apply propext;omega
theorem aG1 (l:List It) (wd most:Int):tab l.length (tB (tbA l wd most l.length))=tab l.length (fun _ _=>0)∧tab l.length (tG (tbA l wd most l.length))=tab l.length (g0 l.length 4)∧tab l.length (tN (tbA l wd most l.length))=tab l.length (fun _ _=>0):=
 ⟨jv fun i k h1 h2=>by
   unfold tB;rw[aeC i k h1 h2];split<;>rfl,
   jv fun i k h1 h2=>by
    unfold tG;rw[aeC i k h1 h2];unfold g0;split
    ·rw[decide_eq_true (by omega)];rfl
    ·rw[decide_eq_false (by omega)];rfl,
   jv fun i k h1 h2=>by unfold tN;rw[aeC i k h1 h2];split<;>rfl⟩
theorem acR {l:List It} {wd most:Int} {a en:Nat} (h:eY l a en=false):jG l wd most a en=none:=if_neg fun q=>by rw[h]at q;cases q.1
theorem ac3 {l:List It} {wd most:Int} {a en:Nat} (h:¬(0≤(jD l wd a en).1∧(jD l wd a en).1≤most)):jG l wd most a en=none:=if_neg fun q=>h q.2
def GBb:Ctx:={fn:=aT [(127,abq),(34,φIn),(128,φBq),(129,φLq),(130,φBd),(131,φLk),(132,φCo),(133,φBw)],io:=aT []}
theorem azQ:ak Tryz.prog GBb:=okΓ (fC Tryz.func127 aio (fC Tryz.func34 gY (fC Tryz.func128 acW (fC Tryz.func129 amA (fC Tryz.func130 akl (fC Tryz.func131 am6 (fC Tryz.func132 anZ (fC Tryz.func133 al8 aj)))))))) aj
def xD:=ah (Γ:=GBb) (f:=127) (φ:=abq) rfl
def adj:=ah (Γ:=GBb) (f:=34) (φ:=φIn) rfl
def xK:=ah (Γ:=GBb) (f:=128) (φ:=φBq) rfl
def xP:=ah (Γ:=GBb) (f:=129) (φ:=φLq) rfl
def yS:=ah (Γ:=GBb) (f:=130) (φ:=φBd) rfl
def wX:=ah (Γ:=GBb) (f:=131) (φ:=φLk) rfl
def yA:=ah (Γ:=GBb) (f:=132) (φ:=φCo) rfl
def wZ:=ah (Γ:=GBb) (f:=133) (φ:=φBw) rfl
theorem akk:Sound Tryz.prog 97 φBb:=by
 refine au mixed azQ Tryz.func97 rfl 218 rfl [.tmp 6,.tmp 7] rfl (by kernel_rfl) fun ps r hr=>?_;obtain⟨l,wd,most,rfl,hpre,rfl⟩:=aaX hr;refine⟨by simp,?_⟩;simp only[dIs,dUs,dSs,dw,dx,dh,dA,aS,dz,aQ,aR,aO,aP];have apv:=abt hpre;have api:=bM;have hl0:l.length≤1000:=hpre;show pq _ _ _ _ _ (dG [iw l,.val (.int .i64 wd),.val (.int .i64 most)]).tm _ _;unfold auQ;by_cases hg:aZ l=true∧0<l.length∧(0≤wd∧wd≤1000)∧(0≤most∧most≤10000)
 ·obtain⟨hB,hn,hw,hm⟩:=hg
  have hl:=bP hB;have hok:kR l wd most=(aU l wd most 0 1).isSome:=by unfold kR;rw[hB,decide_eq_true hn,av.2 hw,av.2 hm];rfl
  rw[hok];clear hok hpre;rw[hB]at apv;have api1:inB wd 0 1000=true:=av.2 hw;have api2:inB most 0 10000=true:=av.2 hm;have gbb_c127:=xD;have gbb_c34:=adj;have gbb_c128:=xK;have gbb_c129:=xP;have gbb_c130:=yS;have gbb_c131:=wX;have gbb_c132:=yA;have gbb_c133:=wZ;(refine wlk ?_;intros);obtain⟨t1,t2,t3⟩:=aG1 l wd most;refine aD (α:=Nat) mixed (fun k=>[(0,iw l),(1,iv wd),(2,iv most),(8,.row 0 1 0 0),(9,iv l.length),(10,.row 1 4 0 (l.length+1)),(11,.row 2 4 0 (l.length+1)),(12,.row 3 4 0 (l.length+1)),(13,iv k)])
   (fun k=>[(0,3,1,[]),(1,158,4,(tab l.length fun _ _=>0).map adU),(2,153,4,(tab l.length (g0 l.length k)).map arR),(3,158,4,(tab l.length fun _ _=>0).map adU)]) (fun _=>4)
   (fun k=>k≤4) (fun k=>4-k) (by kernel_rfl) 0 (Nat.zero_le _) ?_ ?_ rfl ?_
  ·exact agr
  ·simp(disch:=(first|omega|(simp only[push_cast];first|done|omega))) only[push_cast,↓reduceIte,Rq,Rb,Ra,Rs,Rt,ayw, *]
  intro k hk;by_cases hk4:k<4
  ·have hs:=avn l.length k
   clear t1 t2 t3;(refine wlk ?_;intros);refine⟨k+1,by omega,by dsimp only;omega,?_,?_,rfl⟩
   ·exact agr
   ·exact agr
  obtain rfl:k=4:=by omega
  (refine wlk ?_;intros);refine aD (α:=Nat×Int) mixed (fun z=>[(0,iw l),(1,iv wd),(2,iv most),(8,.row 0 1 0 0),(9,iv l.length),(10,.row 1 4 0 (l.length+1)),(11,.row 2 4 0 (l.length+1)),(12,.row 3 4 0 (l.length+1)),(14,iv z.2)])
   (fun z=>[(0,3,1,[]),(1,158,4,(tab l.length (tB (tbA l wd most z.1))).map adU),(2,153,4,(tab l.length (tG (tbA l wd most z.1))).map arR),(3,158,4,(tab l.length (tN (tbA l wd most z.1))).map adU)]) (fun _=>4)
   (fun z=>z.1≤l.length∧z.2=(z.1:Int)-2) (fun z=>z.1) (by kernel_rfl) (l.length,(l.length:Int)-2) ⟨Nat.le_refl _,rfl⟩ ?_ ?_ rfl ?_
  ·exact agr
  ·exact agr
  clear t1 t2 t3 hk hk4;rintro⟨m,v⟩ ⟨hml,hv⟩;dsimp only at hml hv;by_cases h1:1≤m
  ·obtain⟨a,rfl⟩:∃a,m=a+1:=⟨m-1,by omega⟩
   obtain rfl:v=(a:Int)-1:=by omega
   clear hv h1;have hal:a<l.length:=by omega
   have hcan:(a:Int)-1+1=a:=by omega
   by_cases hskip:0<a∧nW l (a-1)=false
   ·obtain⟨ha0,hbq⟩:=hskip
    have apq:=aam (n:=a-1) hB (by omega);rw[hbq,show((a-1:Nat):Int)=(a:Int)-1 by omega]at apq;have hE:=Lib.hid (bS (ape (wd:=wd) (most:=most) hal ha0 hbq));clear hbq;(refine wlk ?_;intros);refine⟨(a,(a:Int)-1-1),⟨by dsimp only;omega,by dsimp only;omega⟩,by dsimp only;omega,?_,?_,rfl⟩
    ·exact agr
    ·obtain⟨e1,e2,e3⟩:=hE.out
     exact agr
   ·have hgo:0<a→φBq [iw l,.val (.int .i64 ((a:Int)-1))]=some (.val (.bool true)):=fun ha0=>by
     have apq:=aam (n:=a-1) hB (by omega);rw[show((a-1:Nat):Int)=(a:Int)-1 by omega]at apq;rw[apq];cases hb:nW l (a-1)with
     |true=>rfl
     |false=>exact absurd ⟨ha0,hb⟩ hskip
    clear hskip;by_cases ha0:0<a
    ·have apq:=hgo ha0
     clear hgo;(refine wlk ?_;intros);refine aD (α:=Nat×Int) mixed (fun z=>[(0,iw l),(1,iv wd),(2,iv most),(8,.row 0 1 0 0),(9,iv l.length),(10,.row 1 4 0 (l.length+1)),(11,.row 2 4 0 (l.length+1)),(12,.row 3 4 0 (l.length+1)),(14,iv ((a:Int)-1)),(15,iv z.2)])
      (fun z=>[(0,3,1,[]),(1,158,4,(tab l.length (tB (tbJ l wd most a z.1))).map adU),(2,153,4,(tab l.length (tG (tbJ l wd most a z.1))).map arR),(3,158,4,(tab l.length (tN (tbJ l wd most a z.1))).map adU)]) (fun _=>4)
      (fun z=>z.1+a≤l.length∧z.2=(l.length:Int)-1-z.1) (fun z=>l.length-z.1) (by kernel_rfl) (0,(l.length:Int)-1) ⟨by dsimp only;omega,by simp⟩ ?_ ?_ rfl ?_
     ·exact agr
     ·obtain⟨e1,e2,e3⟩:=bS (agU (l:=l) (wd:=wd) (most:=most) (a:=a))
      exact agr
     rintro⟨j,u⟩ ⟨hj,hu⟩;dsimp only at hj hu;by_cases h2:j+a<l.length
     ·obtain⟨en,rfl⟩:∃en:Nat,u=en:=⟨u.toNat,by omega⟩
      have he:l.length-(j+1)=en:=by omega
      have hu1:(en:Int)≤l.length-1-j:=by omega
      have hu2:(l.length:Int)-1-j≤en:=by omega
      replace he:=Lib.hid he;clear hu;have hae:a≤en:=by omega
      have hel:en<l.length:=by omega
      have apl:=al1 hB hae hel;have hskip:(∀k:Int,bG l wd most a k (aU l wd most) (j+1)=bG l wd most a k (aU l wd most) j)→tab l.length (tB (tbJ l wd most a j))=tab l.length (tB (tbJ l wd most a (j+1)))∧tab l.length (tG (tbJ l wd most a j))=tab l.length (tG (tbJ l wd most a (j+1)))∧tab l.length (tN (tbJ l wd most a j))=tab l.length (tN (tbJ l wd most a (j+1))):=fun h=>bS (ah5 h);cases hq:eY l a en with
      |false=>
       rw[hq]at apl;have hE:=Lib.hid (hskip (mI he.out (acR hq)));clear hskip hq;(refine wlk ?_;intros);refine⟨(j+1,(en:Int)-1),⟨by dsimp only;omega,by dsimp only;omega⟩,by dsimp only;omega,?_,?_,rfl⟩
       ·exact agr
       ·obtain⟨e1,e2,e3⟩:=hE.out
        exact agr
      |true=>
      rw[hq]at apl;have hst:=(gH.1 hq).2.2.2.1;have apb:=ae5 hB hae hel hw hst;by_cases hb:0≤(jD l wd a en).1∧(jD l wd a en).1≤most
      ·have hcst:ald (l[en]?.getD it0).2.2.2.2.2.1:=(iR hB hel).cost
       have hL:jG l wd most a en=some (ni (jD l wd a en).1 (l[en]?.getD it0).2.2.2.2.2.1,iH (jD l wd a en).2 (jD l wd a en).1):=acS hq hb;clear hq hst;generalize jD l wd a en=bd at*;obtain⟨bad,st⟩:=bd;dsimp only at hb hL apb;have apk:=abL (s:=st) (bad:=bad) ⟨hb.1,by omega⟩;have apc:=aeG (bad:=bad) ⟨hb.1,by omega⟩ hcst;have hcr:=rP (bad:=bad) ⟨hb.1,by omega⟩ hcst;have hkr:=oV st bad;obtain⟨kk,hkk⟩:∃kk:Nat,iH st bad=kk:=⟨(iH st bad).toNat,by omega⟩;rw[hkk]at hL apk hkr;clear hkk hcst;cases hr:aU l wd most (en+1) kk with
       |none=>
        have hG:tG (tbJ l wd most a j) (en+1) kk=false:=by unfold tG;rw[lN (by omega),hr];rfl
        have hE:=Lib.hid (hskip (yt he.out hL hr));clear hskip hL hr;(refine wlk ?_;intros);refine⟨(j+1,(en:Int)-1),⟨by dsimp only;omega,by dsimp only;omega⟩,by dsimp only;omega,?_,?_,rfl⟩
        ·exact agr
        ·obtain⟨e1,e2,e3⟩:=hE.out
         exact agr
       |some r=>
        have hG:tG (tbJ l wd most a j) (en+1) kk=true:=by unfold tG;rw[lN (by omega),hr];rfl
        have hBv:tB (tbJ l wd most a j) (en+1) kk=r.1:=by unfold tB;rw[lN (by omega),hr];rfl
        have hrr:=(dQ hB hm.2 (by omega) hr).1;have hlive:=fun k=>wI he.out hL hr k;clear hskip hL hr;generalize hyy:l[en]?.getD it0=yy at*;obtain⟨y1,y2,y3,y4,y5,y6,y7⟩:=yy;dsimp only at apc hcr hlive;generalize ni bad y6=co at*;obtain⟨rc,rn,rk⟩:=r;dsimp only at hBv hrr hlive;replace hlive:=Lib.hid hlive;(refine wlk ?_;intros);refine aD (α:=Nat) mixed (fun b=>[(0,iw l),(1,iv wd),(2,iv most),(8,.row 0 1 0 0),(9,iv l.length),(10,.row 1 4 0 (l.length+1)),(11,.row 2 4 0 (l.length+1)),(12,.row 3 4 0 (l.length+1)),(14,iv ((a:Int)-1)),(15,iv en),(18,iv kk),(19,iv (co+rc)),(20,iv b)])
         (fun b=>[(0,3,1,[]),(1,158,4,(tab l.length (tB (tbK l wd most a j b))).map adU),(2,153,4,(tab l.length (tG (tbK l wd most a j b))).map arR),(3,158,4,(tab l.length (tN (tbK l wd most a j b))).map adU)]) (fun _=>4)
         (fun b=>b≤4) (fun b=>4-b) (by kernel_rfl) 0 (Nat.zero_le _) ?_ ?_ rfl ?_
        ·exact agr
        ·obtain⟨e1,e2,e3⟩:=bS (agG (l:=l) (wd:=wd) (most:=most) (a:=a) (j:=j))
         exact agr
        clear hG hBv apc apk apb apl;intro b hb4;by_cases hb3:b<4
        ·have apw:=akR (be:=(b:Int)) (lk:=(kk:Int)) hB hae hel ⟨by omega,by omega⟩ ⟨by omega,by omega⟩
         have hbw:=nQ l a en b kk;have hx:=hlive.out (b:Int);generalize jP l a en b kk=bw at*;cases hacc:bG l wd most a b (aU l wd most) j with
         |none=>
          rw[hacc]at hx;replace hx:_=some _:=hx;have hG:tG (tbK l wd most a j b) a b=false:=by unfold tG;rw[oP,hacc];rfl
          have hE:=Lib.hid (bS (vC hx));clear hx hacc;(refine wlk ?_;intros);refine⟨b+1,by omega,by dsimp only;omega,?_,?_,rfl⟩
          ·exact agr
          ·have hE2:=hE.out
           rw[←ahT,←af9,←agW]at hE2;obtain⟨e1,e2,e3⟩:=hE2;dsimp only at e1 e2 e3;rw[show co+bw+rc=co+rc+bw by omega]at e1;exact agr
         |some y=>
          rw[hacc]at hx;have hG:tG (tbK l wd most a j b) a b=true:=by unfold tG;rw[oP,hacc];rfl
          have hB2:tB (tbK l wd most a j b) a b=y.1:=by unfold tB;rw[oP,hacc];rfl
          have hyr:=(tO hB hm.2 hal hacc).1;by_cases hlt:co+rc+bw<y.1
          ·rw[if_pos (show(some y).all (fun y=>decide (co+bw+rc<y.1))=true from decide_eq_true (show co+bw+rc<y.1 by omega))]at hx
           have hE:=Lib.hid (bS (vC hx));clear hx hacc;generalize y.1=yc at*;(refine wlk ?_;intros);refine⟨b+1,by omega,by dsimp only;omega,?_,?_,rfl⟩
           ·exact agr
           ·have hE2:=hE.out
            rw[←ahT,←af9,←agW]at hE2;obtain⟨e1,e2,e3⟩:=hE2;dsimp only at e1 e2 e3;rw[show co+bw+rc=co+rc+bw by omega]at e1;exact agr
          ·rw[if_neg (show¬(some y).all (fun y=>decide (co+bw+rc<y.1))=true from fun q=>hlt (by have:=of_decide_eq_true (show decide (co+bw+rc<y.1)=true from q);omega))]at hx
           have hE:=Lib.hid (bS (ahO (hx.trans hacc.symm)));clear hx hacc;generalize y.1=yc at*;(refine wlk ?_;intros);refine⟨b+1,by omega,by dsimp only;omega,?_,?_,rfl⟩
           ·exact agr
           ·obtain⟨e1,e2,e3⟩:=hE.out
            exact agr
        ·obtain rfl:b=4:=by omega
         have hE:=Lib.hid (bS (ank (l:=l) (wd:=wd) (most:=most) (a:=a) (j:=j)));clear hlive;(refine wlk ?_;intros);refine⟨(j+1,(en:Int)-1),⟨by dsimp only;omega,by dsimp only;omega⟩,by dsimp only;omega,?_,?_,rfl⟩
         ·exact agr
         ·obtain⟨e1,e2,e3⟩:=hE.out
          exact agr
      ·have hE:=Lib.hid (hskip (mI he.out (ac3 hb)))
       clear hskip hq;generalize jD l wd a en=bd at*;obtain⟨bad,st⟩:=bd;dsimp only at hb apb;by_cases hb0:bad<0
       ·clear hb
        (refine wlk ?_;intros);refine⟨(j+1,(en:Int)-1),⟨by dsimp only;omega,by dsimp only;omega⟩,by dsimp only;omega,?_,?_,rfl⟩
        ·exact agr
        ·obtain⟨e1,e2,e3⟩:=hE.out
         exact agr
       ·have hb1:most<bad:=by omega
        clear hb;(refine wlk ?_;intros);refine⟨(j+1,(en:Int)-1),⟨by dsimp only;omega,by dsimp only;omega⟩,by dsimp only;omega,?_,?_,rfl⟩
        ·exact agr
        ·obtain⟨e1,e2,e3⟩:=hE.out
         exact agr
     ·obtain rfl:j=l.length-a:=by omega
      have hE:=Lib.hid (bS (akp (wd:=wd) (most:=most) hal));(refine wlk ?_;intros);refine⟨(a,(a:Int)-1-1),⟨by dsimp only;omega,by dsimp only;omega⟩,by dsimp only;omega,?_,?_,rfl⟩
      ·exact agr
      ·obtain⟨e1,e2,e3⟩:=hE.out
       exact agr
    ·clear hgo
     (refine wlk ?_;intros);refine aD (α:=Nat×Int) mixed (fun z=>[(0,iw l),(1,iv wd),(2,iv most),(8,.row 0 1 0 0),(9,iv l.length),(10,.row 1 4 0 (l.length+1)),(11,.row 2 4 0 (l.length+1)),(12,.row 3 4 0 (l.length+1)),(14,iv ((a:Int)-1)),(15,iv z.2)])
      (fun z=>[(0,3,1,[]),(1,158,4,(tab l.length (tB (tbJ l wd most a z.1))).map adU),(2,153,4,(tab l.length (tG (tbJ l wd most a z.1))).map arR),(3,158,4,(tab l.length (tN (tbJ l wd most a z.1))).map adU)]) (fun _=>4)
      (fun z=>z.1+a≤l.length∧z.2=(l.length:Int)-1-z.1) (fun z=>l.length-z.1) (by kernel_rfl) (0,(l.length:Int)-1) ⟨by dsimp only;omega,by simp⟩ ?_ ?_ rfl ?_
     ·exact agr
     ·obtain⟨e1,e2,e3⟩:=bS (agU (l:=l) (wd:=wd) (most:=most) (a:=a))
      exact agr
     rintro⟨j,u⟩ ⟨hj,hu⟩;dsimp only at hj hu;by_cases h2:j+a<l.length
     ·obtain⟨en,rfl⟩:∃en:Nat,u=en:=⟨u.toNat,by omega⟩
      have he:l.length-(j+1)=en:=by omega
      have hu1:(en:Int)≤l.length-1-j:=by omega
      have hu2:(l.length:Int)-1-j≤en:=by omega
      replace he:=Lib.hid he;clear hu;have hae:a≤en:=by omega
      have hel:en<l.length:=by omega
      have apl:=al1 hB hae hel;have hskip:(∀k:Int,bG l wd most a k (aU l wd most) (j+1)=bG l wd most a k (aU l wd most) j)→tab l.length (tB (tbJ l wd most a j))=tab l.length (tB (tbJ l wd most a (j+1)))∧tab l.length (tG (tbJ l wd most a j))=tab l.length (tG (tbJ l wd most a (j+1)))∧tab l.length (tN (tbJ l wd most a j))=tab l.length (tN (tbJ l wd most a (j+1))):=fun h=>bS (ah5 h);cases hq:eY l a en with
      |false=>
       rw[hq]at apl;have hE:=Lib.hid (hskip (mI he.out (acR hq)));clear hskip hq;(refine wlk ?_;intros);refine⟨(j+1,(en:Int)-1),⟨by dsimp only;omega,by dsimp only;omega⟩,by dsimp only;omega,?_,?_,rfl⟩
       ·exact agr
       ·obtain⟨e1,e2,e3⟩:=hE.out
        exact agr
      |true=>
      rw[hq]at apl;have hst:=(gH.1 hq).2.2.2.1;have apb:=ae5 hB hae hel hw hst;by_cases hb:0≤(jD l wd a en).1∧(jD l wd a en).1≤most
      ·have hcst:ald (l[en]?.getD it0).2.2.2.2.2.1:=(iR hB hel).cost
       have hL:jG l wd most a en=some (ni (jD l wd a en).1 (l[en]?.getD it0).2.2.2.2.2.1,iH (jD l wd a en).2 (jD l wd a en).1):=acS hq hb;clear hq hst;generalize jD l wd a en=bd at*;obtain⟨bad,st⟩:=bd;dsimp only at hb hL apb;have apk:=abL (s:=st) (bad:=bad) ⟨hb.1,by omega⟩;have apc:=aeG (bad:=bad) ⟨hb.1,by omega⟩ hcst;have hcr:=rP (bad:=bad) ⟨hb.1,by omega⟩ hcst;have hkr:=oV st bad;obtain⟨kk,hkk⟩:∃kk:Nat,iH st bad=kk:=⟨(iH st bad).toNat,by omega⟩;rw[hkk]at hL apk hkr;clear hkk hcst;cases hr:aU l wd most (en+1) kk with
       |none=>
        have hG:tG (tbJ l wd most a j) (en+1) kk=false:=by unfold tG;rw[lN (by omega),hr];rfl
        have hE:=Lib.hid (hskip (yt he.out hL hr));clear hskip hL hr;(refine wlk ?_;intros);refine⟨(j+1,(en:Int)-1),⟨by dsimp only;omega,by dsimp only;omega⟩,by dsimp only;omega,?_,?_,rfl⟩
        ·exact agr
        ·obtain⟨e1,e2,e3⟩:=hE.out
         exact agr
       |some r=>
        have hG:tG (tbJ l wd most a j) (en+1) kk=true:=by unfold tG;rw[lN (by omega),hr];rfl
        have hBv:tB (tbJ l wd most a j) (en+1) kk=r.1:=by unfold tB;rw[lN (by omega),hr];rfl
        have hrr:=(dQ hB hm.2 (by omega) hr).1;have hlive:=fun k=>wI he.out hL hr k;clear hskip hL hr;generalize hyy:l[en]?.getD it0=yy at*;obtain⟨y1,y2,y3,y4,y5,y6,y7⟩:=yy;dsimp only at apc hcr hlive;generalize ni bad y6=co at*;obtain⟨rc,rn,rk⟩:=r;dsimp only at hBv hrr hlive;replace hlive:=Lib.hid hlive;(refine wlk ?_;intros);refine aD (α:=Nat) mixed (fun b=>[(0,iw l),(1,iv wd),(2,iv most),(8,.row 0 1 0 0),(9,iv l.length),(10,.row 1 4 0 (l.length+1)),(11,.row 2 4 0 (l.length+1)),(12,.row 3 4 0 (l.length+1)),(14,iv ((a:Int)-1)),(15,iv en),(18,iv kk),(19,iv (co+rc)),(20,iv b)])
         (fun b=>[(0,3,1,[]),(1,158,4,(tab l.length (tB (tbK l wd most a j b))).map adU),(2,153,4,(tab l.length (tG (tbK l wd most a j b))).map arR),(3,158,4,(tab l.length (tN (tbK l wd most a j b))).map adU)]) (fun _=>4)
         (fun b=>b≤4) (fun b=>4-b) (by kernel_rfl) 0 (Nat.zero_le _) ?_ ?_ rfl ?_
        ·exact agr
        ·obtain⟨e1,e2,e3⟩:=bS (agG (l:=l) (wd:=wd) (most:=most) (a:=a) (j:=j))
         exact agr
        clear hG hBv apc apk apb apl;intro b hb4;by_cases hb3:b<4
        ·have apw:=akR (be:=(b:Int)) (lk:=(kk:Int)) hB hae hel ⟨by omega,by omega⟩ ⟨by omega,by omega⟩
         have hbw:=nQ l a en b kk;have hx:=hlive.out (b:Int);generalize jP l a en b kk=bw at*;cases hacc:bG l wd most a b (aU l wd most) j with
         |none=>
          rw[hacc]at hx;replace hx:_=some _:=hx;have hG:tG (tbK l wd most a j b) a b=false:=by unfold tG;rw[oP,hacc];rfl
          have hE:=Lib.hid (bS (vC hx));clear hx hacc;(refine wlk ?_;intros);refine⟨b+1,by omega,by dsimp only;omega,?_,?_,rfl⟩
          ·exact agr
          ·have hE2:=hE.out
           rw[←ahT,←af9,←agW]at hE2;obtain⟨e1,e2,e3⟩:=hE2;dsimp only at e1 e2 e3;rw[show co+bw+rc=co+rc+bw by omega]at e1;exact agr
         |some y=>
          rw[hacc]at hx;have hG:tG (tbK l wd most a j b) a b=true:=by unfold tG;rw[oP,hacc];rfl
          have hB2:tB (tbK l wd most a j b) a b=y.1:=by unfold tB;rw[oP,hacc];rfl
          have hyr:=(tO hB hm.2 hal hacc).1;by_cases hlt:co+rc+bw<y.1
          ·rw[if_pos (show(some y).all (fun y=>decide (co+bw+rc<y.1))=true from decide_eq_true (show co+bw+rc<y.1 by omega))]at hx
           have hE:=Lib.hid (bS (vC hx));clear hx hacc;generalize y.1=yc at*;(refine wlk ?_;intros);refine⟨b+1,by omega,by dsimp only;omega,?_,?_,rfl⟩
           ·exact agr
           ·have hE2:=hE.out
            rw[←ahT,←af9,←agW]at hE2;obtain⟨e1,e2,e3⟩:=hE2;dsimp only at e1 e2 e3;rw[show co+bw+rc=co+rc+bw by omega]at e1;exact agr
          ·rw[if_neg (show¬(some y).all (fun y=>decide (co+bw+rc<y.1))=true from fun q=>hlt (by have:=of_decide_eq_true (show decide (co+bw+rc<y.1)=true from q);omega))]at hx
           have hE:=Lib.hid (bS (ahO (hx.trans hacc.symm)));clear hx hacc;generalize y.1=yc at*;(refine wlk ?_;intros);refine⟨b+1,by omega,by dsimp only;omega,?_,?_,rfl⟩
           ·exact agr
           ·obtain⟨e1,e2,e3⟩:=hE.out
            exact agr
        ·obtain rfl:b=4:=by omega
         have hE:=Lib.hid (bS (ank (l:=l) (wd:=wd) (most:=most) (a:=a) (j:=j)));clear hlive;(refine wlk ?_;intros);refine⟨(j+1,(en:Int)-1),⟨by dsimp only;omega,by dsimp only;omega⟩,by dsimp only;omega,?_,?_,rfl⟩
         ·exact agr
         ·obtain⟨e1,e2,e3⟩:=hE.out
          exact agr
      ·have hE:=Lib.hid (hskip (mI he.out (ac3 hb)))
       clear hskip hq;generalize jD l wd a en=bd at*;obtain⟨bad,st⟩:=bd;dsimp only at hb apb;by_cases hb0:bad<0
       ·clear hb
        (refine wlk ?_;intros);refine⟨(j+1,(en:Int)-1),⟨by dsimp only;omega,by dsimp only;omega⟩,by dsimp only;omega,?_,?_,rfl⟩
        ·exact agr
        ·obtain⟨e1,e2,e3⟩:=hE.out
         exact agr
       ·have hb1:most<bad:=by omega
        clear hb;(refine wlk ?_;intros);refine⟨(j+1,(en:Int)-1),⟨by dsimp only;omega,by dsimp only;omega⟩,by dsimp only;omega,?_,?_,rfl⟩
        ·exact agr
        ·obtain⟨e1,e2,e3⟩:=hE.out
         exact agr
     ·obtain rfl:j=l.length-a:=by omega
      have hE:=Lib.hid (bS (akp (wd:=wd) (most:=most) hal));(refine wlk ?_;intros);refine⟨(a,(a:Int)-1-1),⟨by dsimp only;omega,by dsimp only;omega⟩,by dsimp only;omega,?_,?_,rfl⟩
      ·exact agr
      ·obtain⟨e1,e2,e3⟩:=hE.out
       exact agr
  ·obtain rfl:m=0:=by omega
   have hG:tG (tbA l wd most 0) 0 1=(aU l wd most 0 1).isSome:=by unfold tG;rw[ah3];rfl
   have hbl:(dK l wd most).length≤l.length:=aew hB hm.2 _ _ _ (Nat.zero_le _);have hb0:dK l wd most=[]++bkF l wd most (l.length+1) 0 ((1:Nat):Int):=rfl;cases hs:aU l wd most 0 1 with
   |none=>rw[hs]at hG;simp only[Option.isSome_none]at hG⊢;rw[if_neg (by decide)];clear hb0 hbl;exact wlkF
   |some r0=>
    rw[hs]at hG;simp only[Option.isSome_some]at hG⊢;rw[show(if True then dK l wd most else [])=dK l wd most from if_pos trivial];generalize dK l wd most=res at*;replace hb0:=Lib.hid hb0;have hs0:(aU l wd most 0 ((1:Nat):Int)).isSome=true:=by show(aU l wd most 0 1).isSome=true;rw[hs];rfl
    replace hs0:=Lib.hid hs0;clear hs;(refine wlk ?_;intros);clear hG;refine aD (α:=Nat×Int×Nat×LI×Nat×Nat×Nat) mixed (fun z=>[(0,iw l),(1,iv wd),(2,iv most),(8,.row z.2.2.2.2.1 1 0 z.2.2.2.1.length),(9,iv l.length),(12,.row 3 4 0 (l.length+1)),(22,iv z.2.1),(23,iv z.2.2.1)])
     (fun z=>[(3,158,4,(tab l.length (tN (tbA l wd most 0))).map adU),(z.2.2.2.2.1,3,1,z.2.2.2.1.map pvN)]) (fun z=>z.2.2.2.2.2.1)
     (fun z=>z.1≤l.length∧z.2.1=(z.1:Int)-1∧z.2.2.1<4∧(aU l wd most z.1 (z.2.2.1:Int)).isSome=true∧z.2.2.2.1.length≤z.1∧(¬z.2.2.2.2.1=3∧z.2.2.2.2.1<z.2.2.2.2.2.1∧4≤z.2.2.2.2.2.1)∧l.length+1≤z.2.2.2.2.2.2+z.1∧res=z.2.2.2.1++bkF l wd most z.2.2.2.2.2.2 z.1 (z.2.2.1:Int)) (fun z=>l.length-z.1) (by kernel_rfl)
     (0,-1,1,[],0,4,l.length+1) ⟨Nat.zero_le _,rfl,by simp,hs0.out,Nat.le_refl _,by simp,by simp,hb0.out⟩ ?_ ?_ rfl ?_
    ·exact agi
    ·exact agr
    rintro⟨a,v,kk,out,x,y,f⟩ ⟨hal,hv,hkk,hs,hol,⟨hx3,hxy,hy4⟩,hf,hres⟩;dsimp only at hal hv hkk hs hol hx3 hxy hy4 hf hres;have hx3':¬3=x:=fun q=>hx3 q.symm;subst hv;clear hs0 hb0;by_cases hlt:a<l.length
    ·obtain⟨r,hr⟩:∃r,aU l wd most a (kk:Int)=some r:=Option.isSome_iff_exists.1 hs
     obtain⟨f',rfl⟩:∃f',f=f'+1:=⟨f-1,by omega⟩;rw[oJ (by omega) hr]at hres;have hN:tN (tbA l wd most 0) a kk=(r.2.1:Int):=by unfold tN;rw[ah3,hr];rfl
     obtain⟨-,hb2⟩:=dQ hB hm.2 hal hr;obtain⟨⟨ha1,ha2⟩,hk0,hk3⟩:=hb2 hlt;obtain⟨x',c0,hx',hL⟩:=oM hlt hr;obtain⟨hq,hbd,hpair⟩:=tV hL;have hlk:r.2.2=iH (jD l wd a r.2.1).2 (jD l wd a r.2.1).1:=congrArg Prod.snd hpair;obtain⟨-,-,-,hst,-⟩:=gH.1 hq;have apb:=ae5 hB ha1 ha2 hw hst;have apk:=abL (s:=(jD l wd a r.2.1).2) (bad:=(jD l wd a r.2.1).1) ⟨hbd.1,by omega⟩;rw[←hlk]at apk;clear hL hpair hlk hq hst hr hs hb2;obtain⟨rc,en,rk⟩:=r;dsimp only at hres hN ha1 ha2 hk0 hk3 hx' hbd apb apk;obtain⟨k2,rfl⟩:∃k2:Nat,rk=k2:=⟨rk.toNat,by omega⟩;generalize jD l wd a en=bd at*;obtain⟨bad,st⟩:=bd;dsimp only at hbd apb apk;have hcan:(a:Int)-1+1=a:=by omega
     replace hres:=Lib.hid hres;replace hx':=Lib.hid hx';have hkk2:k2<4:=by omega
     (refine wlk ?_;intros);refine⟨(en+1,(en:Int),k2,out++[(en:Int)],y+1,y+2,f'),⟨by dsimp only;omega,by dsimp only;omega,hkk2,by dsimp only;rw[hx'.out];rfl,by simp;omega,⟨by dsimp only;omega,by dsimp only;omega,by dsimp only;omega⟩,by dsimp only;omega,by dsimp only;rw[hres.out];simp⟩,by dsimp only;omega,?_,?_,rfl⟩
     ·exact agr
     ·exact agr
    ·obtain rfl:a=l.length:=by omega
     rw[wG,List.append_nil]at hres;subst hres;clear hs;exact wlkF
 ·have hok:kR l wd most=false:=Bool.eq_false_iff.2 fun q=>by obtain⟨q1,q2,q3,q4,-⟩:=fF.1 q;exact hg ⟨q1,q2,q3,q4⟩
  rw[hok,if_neg (by decide)];clear hok hpre;cases hB:aZ l with
  |false=>rw[hB]at apv;clear hg hB;have gbb_c127:=xD;have gbb_c34:=adj;have gbb_c128:=xK;have gbb_c129:=xP;have gbb_c130:=yS;have gbb_c131:=wX;have gbb_c132:=yA;have gbb_c133:=wZ;exact wlkF
  |true=>
  rw[hB]at apv;by_cases hw:0≤wd∧wd≤1000
  ·have api1:inB wd 0 1000=true:=av.2 hw
   by_cases hm:0≤most∧most≤10000
   ·have api2:inB most 0 10000=true:=av.2 hm
    have hl0:l.length<1:=by
     by_cases h:l.length<1
     ·exact h
     ·exact absurd ⟨hB,by omega,hw,hm⟩ hg
    clear hg hB;have gbb_c127:=xD;have gbb_c34:=adj;have gbb_c128:=xK;have gbb_c129:=xP;have gbb_c130:=yS;have gbb_c131:=wX;have gbb_c132:=yA;have gbb_c133:=wZ;exact wlkF
   ·have api2:inB most 0 10000=false:=Bool.eq_false_iff.2 fun q=>hm (av.1 q)
    clear hg hB hm;have gbb_c127:=xD;have gbb_c34:=adj;have gbb_c128:=xK;have gbb_c129:=xP;have gbb_c130:=yS;have gbb_c131:=wX;have gbb_c132:=yA;have gbb_c133:=wZ;exact wlkF
  ·have api1:inB wd 0 1000=false:=Bool.eq_false_iff.2 fun q=>hw (av.1 q)
   clear hg hB hw;have gbb_c127:=xD;have gbb_c34:=adj;have gbb_c128:=xK;have gbb_c129:=xP;have gbb_c130:=yS;have gbb_c131:=wX;have gbb_c132:=yA;have gbb_c133:=wZ;exact wlkF
def aCG:alC:=G4 dSs dSs dI dI fun ws pats wd most=>if rV ws∧rV pats then some (.tup [.row 0 1 0 (mR ws pats wd most).length,bv (mQ ws pats wd most)],[(9,1,(mR ws pats wd most).map fun s=> .val (.string s))])else none
theorem aBM {l l':LS}:(l.map fun s=>PV.val (.string s))++(l'.map fun s=>PV.val (.string s))=(l++l').map fun s=>PV.val (.string s):=List.map_append.symm
attribute[push_cast]
 aBM
def aEh:Ctx:={fn:=aT [(96,φPi),(97,φBb),(98,φPr)],io:=aT []}
theorem awY:ak Tryz.prog aEh:=okΓ (fC Tryz.func96 anU (fC Tryz.func97 akk (fC Tryz.func98 adI aj))) aj
def afh:=ah (Γ:=aEh) (f:=96) (φ:=φPi) rfl
def aeF:=ah (Γ:=aEh) (f:=97) (φ:=φBb) rfl
def aeA:=ah (Γ:=aEh) (f:=98) (φ:=φPr) rfl
theorem arM:qP Tryz.prog 66 aCG:=by
 refine ac4 mixed awY Tryz.func66 rfl 127 rfl [.tmp 8,.tmp 9] rfl (by kernel_rfl) fun ps r cs' hr=>?_;obtain⟨ws,pats,wd,most,rfl,hq⟩:=aez hr;clear hr;split at hq
 case isFalse=>cases hq
 case isTrue hpre=>
 cases hq;refine⟨by simp,?_⟩;simp only[dIs,dUs,dSs,dw,dx,dh,dA,aS,dz,aQ,aR,aO,aP];have api:=avE hpre;unfold mR mQ;cases hp:tT ws pats with
 |false=>rw[hp]at api;simp only[Bool.false_and];rw[if_neg (by decide)];generalize piV ws pats=l at*;clear hp;have hl:l=[]∨True:=.inr trivial;clear hl;have gpgl_c96:=afh;have gpgl_c97:=aeF;have gpgl_c98:=aeA;(refine wlk ?_;intros);all_goals((with_reducible apply pY (0) (by first|exact .inl rfl|exact .inr rfl));(focus(exact sr));(focus(exact sr)))
 |true=>
 have hB:=ate hp;have hV:piV ws pats=piR ws pats:=if_pos hp;rw[hp]at api;simp only[Bool.true_and];have hl:=bP hB;have apb:=amQ (l:=piV ws pats) (wd:=wd) (most:=most) (show(piV ws pats).length≤1000 by omega);have hnb:=asK ws pats;rw[←hV]at hnb⊢;have hwl:=xW (qO.1 hp).1;have hap:∀k,k<ws.length→φPr [.val (.string (ws[k]?.getD .empty)),.lst false 1 (pats.map fun s=> .val (.string s))]=some (.lst true 1 ((bW (ws[k]?.getD .empty) pats).map fun s=> .val (.string s))):=fun k hk=>afE ⟨hpre.1.2 k,hpre.2⟩;have htl:=aeK ws pats;have htz:∀k:Nat,((txR ws pats)[k]?.getD ByteArray.empty).size≤20:=afu;have hpl:∀k:Nat,(bW (ws[k]?.getD ByteArray.empty) pats).length≤21:=fun k=>lT _ _;have hob:kR (piV ws pats) wd most=true→ath (piV ws pats) (dK (piV ws pats) wd most):=fun h=>acX hB (fF.1 h).2.2.2.1.2;have hrr:kR (piV ws pats) wd most=true→auQ (piV ws pats) wd most=dK (piV ws pats) wd most:=fun h=>if_pos h;clear hp hB hV;generalize piV ws pats=l at*;cases hb:kR l wd most with
 |false=>rw[hb]at apb;rw[if_neg (by decide)];clear hob hrr hnb hap htl htz hpl hpre hb;have gpgl_c96:=afh;have gpgl_c97:=aeF;have gpgl_c98:=aeA;(refine wlk ?_;intros);all_goals((with_reducible apply pY (0) (by first|exact .inl rfl|exact .inr rfl));(focus(exact sr));(focus(exact sr)))
 |true=>
  have hbr:=hob hb;rw[hb,hrr hb]at apb;rw[if_pos rfl];clear hob hrr hb hpre;generalize dK l wd most=br at*;obtain⟨hbl,-⟩:=id hbr;have hbat:=fun k hk=>hbr.at_ (k:=k) hk;clear hbr;have htR:txR ws pats=txK ws pats ws.length:=rfl;have gpgl_c96:=afh;have gpgl_c97:=aeF;have gpgl_c98:=aeA;(refine wlk ?_;intros);refine aD (α:=Nat×Nat×Nat) mixed (fun z=>[(0,.lst false 1 (ws.map pvS)),(1,.lst false 1 (pats.map pvS)),(10,.row 0 1 0 0),(11,.lst true 7 (l.map iG)),(13,.lst true 1 (br.map pvN)),(15,.row z.2.1 1 0 (txK ws pats z.1).length),(16,iv z.1)])
   (fun z=>[(0,9,1,[]),(z.2.1,9,1,(txK ws pats z.1).map pvS)]) (fun z=>z.2.2)
   (fun z=>z.1≤ws.length∧0<z.2.1∧z.2.1<z.2.2) (fun z=>ws.length-z.1) (by kernel_rfl) (0,1,2) ⟨Nat.zero_le _,by simp,by simp⟩ ?_ ?_ rfl ?_
  ·simp(disch:=(first|omega|(simp only[push_cast];first|done|omega))) only[push_cast,↓reduceIte,Rq,Rb,Ra,Rs,Rt,txK,List.length_nil, *]
  ·simp(disch:=(first|omega|(simp only[push_cast];first|done|omega))) only[push_cast,↓reduceIte,Rq,Rb,Ra,Rs,Rt,txK,List.map_nil, *]
  rintro⟨k,x,y⟩ ⟨hk,hx0,hxy⟩;dsimp only at hk hx0 hxy;have hlk:=htl k;by_cases h0:k<ws.length
  ·have apk:=hap k h0
   have hlp:=hpl k;have hn:txK ws pats (k+1)=txK ws pats k++bW (ws[k]?.getD .empty) pats:=rfl;replace hn:=Lib.hid hn;generalize txK ws pats k=out at*;generalize bW (ws[k]?.getD .empty) pats=ps at*;clear htl hap hpl htR hnb htz hbat;(refine wlk ?_;intros);refine⟨(k+1,y,y+1),⟨by dsimp only;omega,by dsimp only;omega,by dsimp only;omega⟩,by dsimp only;omega,?_,?_,rfl⟩
   ·dsimp only
    rw[hn.out];exact agr
   ·dsimp only
    rw[hn.out];exact agr
  ·obtain rfl:k=ws.length:=by omega
   rw[←htR];rw[←htR]at hlk;have hts:=fun a=>aa7 (l:=l) (tx:=txR ws pats) (a:=a) htz;have htz2:∀k:Nat,((txR ws pats)[k]?.getD ByteArray.empty).size≤20:=htz;have htxl:(txR ws pats).length≤252:=by omega
   generalize txR ws pats=tx at*;clear htl hap hpl htR htz;have hlnk:=qH l tx br;(refine wlk ?_;intros);refine aD (α:=Nat×Nat×Nat×Int) mixed (fun z=>[(10,.row z.2.1 1 0 z.1),(11,.lst true 7 (l.map iG)),(13,.lst true 1 (br.map pvN)),(15,.row x 1 0 tx.length),(17,iv (nbX l (frB br z.1))),(18,iv z.2.2.2),(19,iv z.1)])
    (fun z=>[(x,9,1,tx.map pvS),(z.2.1,9,1,(mP l tx br z.1).map pvS)]) (fun z=>z.2.2.1)
    (fun z=>z.1≤br.length∧(¬z.2.1=x∧x<z.2.2.1∧z.2.1<z.2.2.1)∧z.2.2.2=(frB br z.1:Int)-1) (fun z=>br.length-z.1) (by kernel_rfl) (0,0,y,-1) ⟨Nat.zero_le _,⟨by dsimp only;omega,hxy,by dsimp only;omega⟩,rfl⟩ ?_ ?_ rfl ?_
   ·simp(disch:=(first|omega|(simp only[push_cast];first|done|omega))) only[push_cast,↓reduceIte,Rq,Rb,Ra,Rs,Rt,frB,nbX,List.take_zero,List.filter_nil,List.length_nil, *]
   ·simp(disch:=(first|omega|(simp only[push_cast];first|done|omega))) only[push_cast,↓reduceIte,Rq,Rb,Ra,Rs,Rt,mP,List.map_nil, *]
   rintro⟨k,o,y2,v⟩ ⟨hkb,⟨hox,hxy2,hoy⟩,hv⟩;dsimp only at hkb hox hxy2 hoy hv;subst hv;have hxo:¬x=o:=fun q=>hox q.symm;clear hk h0 hlk;have hlk:=hlnk k;by_cases hk:k<br.length
   ·obtain⟨b1,b2,b3,b4⟩:=hbat k hk
    have hn:mP l tx br (k+1)=mP l tx br k++[lnR l tx (frB br k) (br[k]?.getD 0).toNat]:=rfl;have hfs:=vP br k;replace hn:=Lib.hid hn;replace hfs:=Lib.hid hfs;generalize mP l tx br k=out at*;generalize frB br k=a at*;obtain⟨en,hen⟩:∃en:Nat,br[k]?.getD 0=en:=⟨(br[k]?.getD 0).toNat,by omega⟩;rw[hen,Int.toNat_natCast]at hn hfs b2 b3 b4;rw[hen]at b1;have hmk:lnR l tx a en=if(l[en]?.getD it0).2.2.2.2.2.2=true then lnT l tx a (en-a)++⟨#[45]⟩else lnT l tx a (en-a):=rfl;replace b4:¬(l[en]?.getD it0).1=1:=b4;have hbox:nbX l (en+1)=nbX l en:=aob b3 b4;replace hmk:=Lib.hid hmk;replace hbox:=Lib.hid hbox;clear hbat hlnk;have h45:(⟨#[45]⟩:ByteArray).size=1:=rfl;have h32:(⟨#[32]⟩:ByteArray).size=1:=rfl;(refine wlk ?_;intros);refine aD (α:=Nat) mixed (fun j=>[(10,.row o 1 0 k),(11,.lst true 7 (l.map iG)),(13,.lst true 1 (br.map pvN)),(15,.row x 1 0 tx.length),(17,iv (nbX l (a+j))),(18,iv ((a:Int)-1)),(19,iv k),(20,.val (.string (lnT l tx a j))),(21,iv ((a+j:Nat):Int))])
     (fun _=>[(x,9,1,tx.map pvS),(o,9,1,out.map pvS)]) (fun _=>y2)
     (fun j=>a+j≤en) (fun j=>en-j) (by kernel_rfl) 0 (by omega) ?_ ?_ rfl ?_
    ·have hl0:lnT l tx a 0=⟨#[]⟩:=rfl
     have hcan:(a:Int)-1+1=a:=by omega
     exact agr
    ·exact agr
    intro j hj;have hsz:=hts a j;by_cases hje:a+j<en
    ·have hal:a+j<l.length:=by omega
     have hS:lnT l tx a (j+1)=o9 l tx (lnT l tx a j) (a+j):=rfl;have hbx1:=fun q=>afl (l:=l) (n:=a+j) hal q;have hbx2:=fun q=>aob (l:=l) (n:=a+j) hal q;have hlt1:=fun q=>aaf (l:=l) (n:=a+j) hal q;have hq1:=fun q=>acr (l:=l) (tx:=tx) (s:=lnT l tx a j) (n:=a+j) q;have hq2:=fun q=>agM (l:=l) (tx:=tx) (s:=lnT l tx a j) (n:=a+j) q;have hq3:=fun q r=>ajI (l:=l) (tx:=tx) (s:=lnT l tx a j) (n:=a+j) q r;rw[hnb]at hlt1;rw[←hS]at hq1 hq2 hq3;have hnx:=ak1 l (a+j);rw[hnb]at hnx;clear hS hmk hn hfs hbox;generalize hs9:lnT l tx a j=s at*;generalize hs8:lnT l tx a (j+1)=s2 at*;replace hs9:=Lib.hid hs9;replace hs8:=Lib.hid hs8;generalize hnb2:nbX l (a+j+1)=nn2 at*;replace hnb2:=Lib.hid hnb2;generalize nbX l (a+j)=nn at*;clear hnb b4;change∀q:(l[a+j]?.getD it0).1=1,_ at hbx1 hlt1 hq1;change∀q:¬(l[a+j]?.getD it0).1=1,_ at hbx2 hq3;change∀q:(l[a+j]?.getD it0).1=2∧0<(l[a+j]?.getD it0).2.1∧¬s=⟨#[]⟩,_ at hq2;have hq3':¬(l[a+j]?.getD it0).1=1→¬((l[a+j]?.getD it0).1=2∧0<(l[a+j]?.getD it0).2.1∧¬s=⟨#[]⟩)→s2=s:=hq3;clear hq3;generalize hyy:l[a+j]?.getD it0=yy at*;obtain⟨y1,y2',y3,y4,y5,y6,y7⟩:=yy;dsimp only at hbx1 hbx2 hlt1 hq1 hq2 hq3';have hfin:∀nn':Nat,∀s':ByteArray,nn2=nn'→s2=s'→nbX l (a+(j+1))=nn'∧lnT l tx a (j+1)=s':=fun nn' s' h1 h2=>⟨by rw[←h1];exact hnb2.out,by rw[←h2];exact hs8.out⟩;by_cases k1:y1=1
     ·have hf:=Lib.hid (hfin _ _ (hbx1 k1) (hq1 k1))
      have hn9:=hlt1 k1;have ht9:=htz2 nn;clear hbx1 hbx2 hlt1 hq1 hq2 hq3' hfin;subst k1;(refine wlk ?_;intros);refine⟨j+1,by dsimp only;omega,by dsimp only;omega,?_,?_,rfl⟩
      ·dsimp only
       rw[hf.out.1,hf.out.2];exact agi
      ·exact agr
     ·by_cases k2:y1=2∧0<y2'∧¬s=⟨#[]⟩
      ·have hf:=Lib.hid (hfin _ _ (hbx2 k1) (hq2 k2))
       clear hbx1 hbx2 hlt1 hq1 hq2 hq3' hfin;obtain⟨rfl,k2,k3⟩:=k2;(refine wlk ?_;intros);refine⟨j+1,by dsimp only;omega,by dsimp only;omega,?_,?_,rfl⟩
       ·dsimp only
        rw[hf.out.1,hf.out.2];exact agi
       ·exact agr
      ·have hf:=Lib.hid (hfin _ _ (hbx2 k1) (hq3' k1 k2))
       clear hbx1 hbx2 hlt1 hq1 hq2 hq3' hfin;by_cases k3:y1=2
       ·by_cases k4:0<y2'
        ·have k5:s=⟨#[]⟩:=Classical.byContradiction fun q=>k2 ⟨k3,k4,q⟩
         clear k2;subst k3 k5;(refine wlk ?_;intros);refine⟨j+1,by dsimp only;omega,by dsimp only;omega,?_,?_,rfl⟩
         ·dsimp only
          rw[hf.out.1,hf.out.2];exact agi
         ·exact agr
        ·clear k2
         subst k3;(refine wlk ?_;intros);refine⟨j+1,by dsimp only;omega,by dsimp only;omega,?_,?_,rfl⟩
         ·dsimp only
          rw[hf.out.1,hf.out.2];exact agi
         ·exact agr
       ·clear k2
        (refine wlk ?_;intros);refine⟨j+1,by dsimp only;omega,by dsimp only;omega,?_,?_,rfl⟩
        ·dsimp only
         rw[hf.out.1,hf.out.2];exact agi
        ·exact agr
    ·have hje2:j=en-a:=by omega
     have hae:a+j=en:=by omega
     rw[hae];rw[←hje2]at hmk;generalize lnT l tx a j=s at*;clear hje2;have hcl:(((en:Int)-1)+1)=en:=by omega
     have hfe:frB br (k+1)=en+1:=hfs.out;have hnx:nbX l (frB br (k+1))=nbX l en:=by rw[hfe];exact hbox.out
     replace hfe:=Lib.hid hfe;replace hnx:=Lib.hid hnx;clear hae b4 hfs hbox hcl hnb;generalize hyy:l[en]?.getD it0=yy at*;obtain⟨y1,y2',y3,y4,y5,y6,y7⟩:=yy;have hmk2:=hmk.out;clear hmk;dsimp only at hmk2;cases y7 with
     |true=>
      rw[if_pos rfl]at hmk2;rw[hmk2]at hn;clear hmk2;(refine wlk ?_;intros);refine⟨(k+1,y2+1,y2+2,(en:Int)),⟨by dsimp only;omega,⟨by dsimp only;omega,by dsimp only;omega,by dsimp only;omega⟩,by dsimp only;rw[hfe.out];omega⟩,by dsimp only;omega,?_,?_,rfl⟩
      ·dsimp only
       rw[hnx.out];exact agi
      ·dsimp only
       rw[hn.out];exact agr
     |false=>
      rw[if_neg (by decide)]at hmk2;rw[hmk2]at hn;clear hmk2;(refine wlk ?_;intros);refine⟨(k+1,y2+1,y2+2,(en:Int)),⟨by dsimp only;omega,⟨by dsimp only;omega,by dsimp only;omega,by dsimp only;omega⟩,by dsimp only;rw[hfe.out];omega⟩,by dsimp only;omega,?_,?_,rfl⟩
      ·dsimp only
       rw[hnx.out];exact agi
      ·dsimp only
       rw[hn.out];exact agr
   ·obtain rfl:k=br.length:=by omega
    generalize mP l tx br br.length=out at*;(refine wlk ?_;intros);all_goals((with_reducible apply pY (o) (by first|exact .inl rfl|exact .inr rfl));(focus(exact sr));(focus(exact sr)))
def ase:Fun:=ac8 aCG
theorem ajc:Sound Tryz.prog 66 ase:=arM.pure
theorem asE {ws pats:LS} {wd most:Int} (h:rV ws∧rV pats):ase [.lst false 1 (ws.map fun s=> .val (.string s)),.lst false 1 (pats.map fun s=> .val (.string s)),.val (.int .i64 wd),.val (.int .i64 most)]=some (.tup [.lst true 1 ((mR ws pats wd most).map fun s=> .val (.string s)),.val (.bool (mQ ws pats wd most))]):=by refine mq (r:=.tup [.row 0 1 0 (mR ws pats wd most).length,.val (.bool (mQ ws pats wd most))]) (cs0:=[(9,1,(mR ws pats wd most).map fun s=> .val (.string s))]) ((auu (A:=dSs) (B:=dSs) (C:=dI) (D:=dI) ws pats wd most).trans (if_pos h)) ?_;rw[acK];(exact sr)
def aah:d9:=fun ps cs=>match ps,cs with
 |[p],[]=>(dUs.d p).map fun code=>(.own 0 2 0 0,[rdC 83 (code.take 2000) 0])
 |_,_=>none
theorem amc {code:List Int}:aah [.lst false 1 (code.map fun n=> .val (.int .u8 n))] []=some (.own 0 2 0 0,[rdC 83 (code.take 2000) 0]):=by have:=dUs.h' code;simp only[dUs,dz,dx]at this;simp only[aah,dUs,this,Option.map_some]
theorem avY:bQ Tryz.prog 24 aah:=by
 refine acs mixed iL Tryz.func24 rfl 11 rfl [.tmp 2] rfl (by kernel_rfl) fun ps cs r cs' hr=>?_;unfold aah at hr;split at hr
 case h_2=>cases hr
 rename_i p;rw[Option.map_eq_some_iff]at hr;obtain⟨code,h1,h2⟩:=hr;obtain rfl:=dUs.h _ _ h1;clear h1;cases h2;refine⟨rfl,by simp,?_⟩;simp only[dIs,dUs,dSs,dw,dx,dh,dA,aS,dz,aQ,aR,aO,aP];(refine wlkX6 ?_ ?_ ?_ ?_ ?_ ?_<;>intros<;>try with_reducible exact trivial)
 ·refine pY 0 (by first|exact .inl rfl|exact .inr rfl) ?_ ?_
  ·(focus(simp(disch:=(first|omega|(simp only[push_cast];first|done|omega))) only[push_cast,↓reduceIte,Rq,Rb,Ra,Rs,Rt,aW,aX,bR,aY,aV, *]<;>with_reducible exact rfl))
  ·simp only[push_cast,↓reduceIte,Rq,Rb,Ra,Rs,Rt,rdC]
 ·have h:code.take 2000=code:=List.take_of_length_le (by simp_all;omega)
  refine pY 0 (by first|exact .inl rfl|exact .inr rfl) ?_ ?_
  ·(focus(simp(disch:=(first|omega|(simp only[push_cast];first|done|omega))) only[push_cast,↓reduceIte,Rq,Rb,Ra,Rs,Rt,aW,aX,bR,aY,aV, *]<;>with_reducible exact rfl))
  ·simp only[push_cast,↓reduceIte,Rq,Rb,Ra,Rs,Rt,rdC,h]
theorem afz:∃Φ:d9,bQ Tryz.prog 57 Φ∧ahj 83 Φ 1000000000 1 (fun v:Int=>PV.val (.int .i64 v)) (fun _=>True) (fun n v=>0≤v∧(1≤n→v<n)):=by
 refine tq mixed iL Tryz.func57 rfl 99 rfl [.tmp 4] rfl (by kernel_rfl) (by simp) _ _ _ _ _ _ fun code p n hok hp _=>?_;obtain⟨hlen,hbyte,hp0,hp1⟩:=id hok;have hb0:=hbyte p.toNat;have hb1:=hbyte (p % code.length).toNat;have hb2:=hbyte ((p*7+3) % code.length).toNat;have hm:0<code.length→0≤p % (code.length:Int)∧p % (code.length:Int)<code.length∧0≤(p*7+3) % (code.length:Int)∧(p*7+3) % (code.length:Int)<code.length∧0≤p/(code.length:Int)∧p/(code.length:Int)≤p:=fun h=>⟨Int.emod_nonneg _ (by omega),Int.emod_lt_of_pos _ (by omega),Int.emod_nonneg _ (by omega),Int.emod_lt_of_pos _ (by omega),Int.ediv_nonneg hp0 (by omega),Int.ediv_le_self _ hp0⟩
 clear hbyte
 repeat' (first|(first|(with_reducible first|apply gu|apply bI|apply dJ|apply dF|apply gG|apply nJ|apply fU|apply fV|apply mY|apply gB|apply gK|apply nK|apply gM|apply fT|apply fZ)|((with_reducible apply bf);(simp only[List.map_cons,List.map_nil]<;>exact rfl))|((with_reducible apply dD);(simp only[List.map_cons,List.map_nil]<;>exact rfl);decide+kernel)|((with_reducible apply gL);rfl)|((first|((with_reducible apply i_V);rfl;rfl;rfl)|((first|((with_reducible apply i_E);rfl)|((with_reducible apply i_S);rfl));first|rfl|(simp only[push_cast,↓reduceIte]))|((with_reducible apply nR);rfl;rfl)|((with_reducible apply nD);rfl;rfl;rfl)|(with_reducible first|apply om|apply dH));(simp(disch:=(first|omega|(simp only[push_cast];first|done|omega))) only[push_cast,↓reduceIte,Rq,Rb,Ra,Rs,Rt, *]<;>with_reducible exact rfl);all_goals try(first|(with_reducible first|refine hyT ?_|refine hyF ?_|exact hyA|exact hyB)|(intro hX;first|(cases hX;done)|((try simp only[decide_eq_true_eq,decide_eq_false_iff_not,Bool.not_eq_true',Bool.not_eq_false']at hX);(try have hXb:=av.1 hX))))))|((with_reducible apply aEJ);rfl;(simp(disch:=(first|omega|(simp only[push_cast];first|done|omega))) only[push_cast,↓reduceIte,Rq,Rb,Ra,Rs,Rt, *]<;>with_reducible exact rfl);(simp(disch:=(first|omega|(simp only[push_cast];first|done|omega))) only[push_cast,↓reduceIte,Rq,Rb,Ra,Rs,Rt, *]<;>with_reducible exact rfl);(first|omega|(simp only[push_cast];first|done|omega));(first|omega|(simp only[push_cast];first|done|omega));(first|omega|(simp only[push_cast];first|done|omega));(first|omega|(simp only[push_cast];first|done|omega));intro z hz1 hz2))
 all_goals((with_reducible apply iB (by first|exact .inl rfl|exact .inr rfl));(focus(simp(disch:=(first|omega|(simp only[push_cast];first|done|omega))) only[push_cast,↓reduceIte,Rq,Rb,Ra,Rs,Rt,aW,aX,bR,aY,aV, *]<;>with_reducible exact rfl));(focus(simp(disch:=(first|omega|(simp only[push_cast];first|done|omega))) only[push_cast,↓reduceIte,Rq,Rb,Ra,Rs,Rt,aW,aX,bR,aY,aV, *]<;>with_reducible exact rfl)))
 all_goals(first|omega|exact hok.to (by omega) (by omega)|exact⟨Int.emod_nonneg _ (by omega),fun _=>Int.emod_lt_of_pos _ (by omega)⟩)
def wM:d9:=Classical.choose afz
theorem yJ:bQ Tryz.prog 57 wM:=(Classical.choose_spec afz).1
theorem eZ:ahj 83 wM 1000000000 1 (fun v:Int=>PV.val (.int .i64 v)) (fun _=>True) (fun n v=>0≤v∧(1≤n→v<n)):=(Classical.choose_spec afz).2
def aGV:Ctx:={fn:=aT [],io:=aT [(57,wM)]}
theorem ayh:ak Tryz.prog aGV:=okΓ aj (fD Tryz.func57 yJ aj)
theorem aoj:∃Φ:d9,bQ Tryz.prog 59 Φ∧ahj 83 Φ 900000000 1 (fun v:Bool=>PV.val (.bool v)) (fun n=>0≤n∧n≤1000000) (fun n v=>n≤0→v=false):=by
 refine tq mixed ayh Tryz.func59 rfl 15 rfl [.tmp 4] rfl (by kernel_rfl) (by simp) _ _ _ _ _ _ fun code p n hok hp hn=>?_;have hp0:=hok.pos
 repeat' (first|(first|(with_reducible first|apply gu|apply bI|apply dJ|apply dF|apply gG|apply nJ|apply fU|apply fV|apply mY|apply gB|apply gK|apply nK|apply gM|apply fT|apply fZ)|((with_reducible apply bf);(simp only[List.map_cons,List.map_nil]<;>exact rfl))|((with_reducible apply dD);(simp only[List.map_cons,List.map_nil]<;>exact rfl);decide+kernel)|((with_reducible apply gL);rfl)|((first|((with_reducible apply i_V);rfl;rfl;rfl)|((first|((with_reducible apply i_E);rfl)|((with_reducible apply i_S);rfl));first|rfl|(simp only[push_cast,↓reduceIte]))|((with_reducible apply nR);rfl;rfl)|((with_reducible apply nD);rfl;rfl;rfl)|(with_reducible first|apply om|apply dH));(simp(disch:=(first|omega|(simp only[push_cast];first|done|omega))) only[push_cast,↓reduceIte,Rq,Rb,Ra,Rs,Rt, *]<;>with_reducible exact rfl);all_goals try(first|(with_reducible first|refine hyT ?_|refine hyF ?_|exact hyA|exact hyB)|(intro hX;first|(cases hX;done)|((try simp only[decide_eq_true_eq,decide_eq_false_iff_not,Bool.not_eq_true',Bool.not_eq_false']at hX);(try have hXb:=av.1 hX))))))|((with_reducible apply bY eZ (fun _ _=>rfl));rfl;(simp(disch:=(first|omega|(simp only[push_cast];first|done|omega))) only[push_cast,↓reduceIte,Rq,Rb,Ra,Rs,Rt, *]<;>with_reducible exact rfl);(simp(disch:=(first|omega|(simp only[push_cast];first|done|omega))) only[push_cast,↓reduceIte,Rq,Rb,Ra,Rs,Rt, *]<;>with_reducible exact rfl);(simp(disch:=(first|omega|(simp only[push_cast];first|done|omega))) only[push_cast,↓reduceIte,Rq,Rb,Ra,Rs,Rt, *]<;>with_reducible exact rfl);assumption;omega;(focus(first|trivial|omega));(focus(first|rfl|(simp only[push_cast,↓reduceIte])));intro v pp hv hok hpp1 hpp2))
 all_goals((with_reducible apply iB (by first|exact .inl rfl|exact .inr rfl));(focus(simp(disch:=(first|omega|(simp only[push_cast];first|done|omega))) only[push_cast,↓reduceIte,Rq,Rb,Ra,Rs,Rt,aW,aX,bR,aY,aV, *]<;>with_reducible exact rfl));(focus(simp(disch:=(first|omega|(simp only[push_cast];first|done|omega))) only[push_cast,↓reduceIte,Rq,Rb,Ra,Rs,Rt,aW,aX,bR,aY,aV, *]<;>with_reducible exact rfl)))
 all_goals(first|omega|assumption|(intro h;first|omega|rfl|(simp;omega)))
def ais:d9:=Classical.choose aoj
theorem ah0:bQ Tryz.prog 59 ais:=(Classical.choose_spec aoj).1
theorem jQ:ahj 83 ais 900000000 1 (fun v:Bool=>PV.val (.bool v)) (fun n=>0≤n∧n≤1000000) (fun n v=>n≤0→v=false):=(Classical.choose_spec aoj).2
theorem adO {zs:List Int} {k:Nat} (h:k<zs.length) (hb:wQ zs k=false):iX zs=false:=by unfold iX;rw[acw h hb];rfl
theorem zW {zs:List Int} (h:kM zs zs.length=true):iX zs=decide ((zs.length:Int)≤30):=by unfold iX;rw[h,Bool.true_and];exact decide_eq_decide.2 (by omega)
theorem sI {zs:List Int}:iX zs=true↔(∀i,i<zs.length→(1≤zs[i]?.getD 0∧zs[i]?.getD 0≤999)∧(0<i→zs[i-1]?.getD 0<zs[i]?.getD 0))∧zs.length≤30:=by
 unfold iX kM;simp only[Bool.and_eq_true,List.all_eq_true,List.mem_range,decide_eq_true_eq];refine and_congr_left fun _=>forall_congr' fun i=>imp_congr_right fun _=>?_;simp only[wQ,Bool.and_eq_true,av,Bool.or_eq_true,beq_iff_eq,decide_eq_true_eq];refine and_congr_right fun _=>?_;constructor
 ·rintro(h|h) h0
  ·omega
  ·exact h
 ·intro h
  by_cases h0:i=0
  ·exact .inl h0
  ·exact .inr (h (by omega))
def l9:Fun:=F1 dIs fun zs=>if zs.length≤1099511627776 then some (bv (iX zs))else none
theorem wN {zs:List Int} (h:zs.length≤1099511627776):l9 [.lst false 1 (zs.map fun n=> .val (.int .i64 n))]=some (.val (.bool (iX zs))):=
 (fM (A:=dIs) zs).trans (if_pos h)
def aGr:Ctx:={fn:=aT [(82,zy)],io:=aT []}
theorem axe:ak Tryz.prog aGr:=okΓ (fC Tryz.func82 ac2 aj) aj
def awH:=ah (Γ:=aGr) (f:=82) (φ:=zy) rfl
theorem aav:Sound Tryz.prog 115 l9:=by
 refine au mixed axe Tryz.func115 rfl 32 rfl [.tmp 2] rfl (by kernel_rfl) fun ps r hr=>?_;obtain⟨zs,rfl,hpre,rfl⟩:=jy hr;refine⟨by simp,?_⟩;simp only[dIs,dUs,dSs,dw,dx,dh,dA,aS,dz,aQ,aR,aO,aP];have gpvi_c82:=awH;have ap:=acH;(refine wlkX6 ?_ ?_ ?_ ?_ ?_ ?_<;>intros<;>try with_reducible exact trivial);refine aD (α:=Nat) mixed (fun k=>[(0,.lst false 1 (zs.map fun n=> .val (.int .i64 n))),(5,.lst false 1 (zs.map fun n=> .val (.int .i64 n))),(6,iv zs.length),(7,iv k)]) (fun _=>[]) (fun _=>0)
  (fun k=>k≤zs.length∧kM zs k=true) (fun k=>zs.length-k) (by kernel_rfl) 0 ⟨Nat.zero_le _,rfl⟩ ?_ trivial rfl ?_
 ·simp only[push_cast,↓reduceIte,Rq,Rb,Ra,Rs,Rt]
 ·intro k ⟨hk,hok⟩
  have hpg:wQ zs k=(inB (zs[k]?.getD 0) 1 999&&(k==0||decide (zs[k-1]?.getD 0<zs[k]?.getD 0))):=rfl;(refine wlkX6 ?_ ?_ ?_ ?_ ?_ ?_<;>intros<;>try with_reducible exact trivial);all_goals try(refine fnG ?_;try with_reducible exact trivial)
  all_goals try(rw[adO (k:=k) (by omega) (by rw[hpg];simp_all;try omega)];done)
  all_goals try(rw[zW (by rwa[show zs.length=k by omega])];done)
  all_goals
   refine⟨k+1,⟨by omega,by rw[uo,hok,hpg];simp_all;try omega⟩,by dsimp only;omega,by simp only[push_cast,↓reduceIte,Rq,Rb,Ra,Rs,Rt],trivial,rfl⟩
def aGF:Ctx:={fn:=aT [(34,φIn)],io:=aT []}
theorem avO:ak Tryz.prog aGF:=okΓ (fC Tryz.func34 gY aj) aj
def axO:=ah (Γ:=aGF) (f:=34) (φ:=φIn) rfl
theorem abH:Sound Tryz.prog 118 l9:=by
 refine au mixed avO Tryz.func118 rfl 35 rfl [.tmp 2] rfl (by kernel_rfl) fun ps r hr=>?_;obtain⟨zs,rfl,hpre,rfl⟩:=jy hr;refine⟨by simp,?_⟩;simp only[dIs,dUs,dSs,dw,dx,dh,dA,aS,dz,aQ,aR,aO,aP];have gpvs_c34:=axO;have ap:=bM;(refine wlkX6 ?_ ?_ ?_ ?_ ?_ ?_<;>intros<;>try with_reducible exact trivial);refine aD (α:=Nat) mixed (fun k=>[(0,.lst false 1 (zs.map fun n=> .val (.int .i64 n))),(3,iv k)]) (fun _=>[]) (fun _=>0)
  (fun k=>k≤zs.length∧kM zs k=true) (fun k=>zs.length-k) (by kernel_rfl) 0 ⟨Nat.zero_le _,rfl⟩ ?_ trivial rfl ?_
 ·simp only[push_cast,↓reduceIte,Rq,Rb,Ra,Rs,Rt]
 ·intro k ⟨hk,hok⟩
  have hpg:wQ zs k=(inB (zs[k]?.getD 0) 1 999&&(k==0||decide (zs[k-1]?.getD 0<zs[k]?.getD 0))):=rfl;(refine wlkX6 ?_ ?_ ?_ ?_ ?_ ?_<;>intros<;>try with_reducible exact trivial);all_goals try(refine fnG ?_;try with_reducible exact trivial)
  all_goals try(rw[adO (k:=k) (by omega) (by rw[hpg];simp_all;try omega)];done)
  all_goals try(rw[zW (by rwa[show zs.length=k by omega])];done)
  all_goals
   refine⟨k+1,⟨by omega,by rw[uo,hok,hpg];simp_all;try omega⟩,by dsimp only;omega,by simp only[push_cast,↓reduceIte,Rq,Rb,Ra,Rs,Rt],trivial,rfl⟩
def ar3 (g:I4):Bool:=inB g.1 0 1000&&inB g.2.1 0 1000&&inB g.2.2.1 0 g.1&&inB g.2.2.2 0 1
def aal:Fun:=F1 dI4 fun g=>some (bv (ar3 g))
theorem aib {a b c d:Int}:aal [.agg [.val (.int .i64 a),.val (.int .i64 b),.val (.int .i64 c),.val (.int .i64 d)]]=some (.val (.bool (ar3 (a,b,c,d)))):=fM (A:=dI4) (a,b,c,d)
def GGl:Ctx:={fn:=aT [(64,φIn)],io:=aT []}
theorem aCV:ak Tryz.prog GGl:=okΓ (fC Tryz.func64 qR aj) aj
def aBd:=ah (Γ:=GGl) (f:=64) (φ:=φIn) rfl
theorem acu:Sound Tryz.prog 35 aal:=by
 refine au mixed aCV Tryz.func35 rfl 23 rfl [.tmp 2] rfl (by kernel_rfl) fun ps r hr=>?_;obtain⟨⟨a,b,c,d⟩,rfl,hr⟩:=bK hr;cases hr;refine⟨by simp,?_⟩;simp only[dIs,dUs,dSs,dw,dx,dh,dA,aS,dz,aQ,aR,aO,aP];have ggl_c64:=aBd;have ap:=bM;(refine wlkX6 ?_ ?_ ?_ ?_ ?_ ?_<;>intros<;>try with_reducible exact trivial);all_goals(refine fnG ?_;try with_reducible exact trivial)
 all_goals simp_all [ar3]
def GAl:Ctx:={fn:=aT [(35,aal)],io:=aT []}
theorem aBA:ak Tryz.prog GAl:=okΓ (fC Tryz.func35 acu aj) aj
def aAr:=ah (Γ:=GAl) (f:=35) (φ:=aal) rfl
def agX:Fun:=F0 (some (bv true))
theorem alK:agX []=some (.val (.bool true)):=rfl
theorem aqi:Sound Tryz.prog 10 agX:=by refine au mixed aBA Tryz.func10 rfl 3 rfl [.tmp 0] rfl (by kernel_rfl) fun ps r hr=>?_;obtain⟨rfl,hr⟩:=awi hr;cases hr;refine⟨by simp,?_⟩;have gal_c35:=aAr;have ap:=@aib;have e:ar3 (4,0,0,0)=true:=rfl;(refine wlkX ?_;intros);all_goals(exact fnF)
def GRd:Ctx:={fn:=aT [],io:=aT [(57,wM),(59,ais)]}
theorem aub:ak Tryz.prog GRd:=okΓ aj (fD Tryz.func57 yJ (fD Tryz.func59 ah0 aj))
end
end Go.Proofs.YtmmafcjjlbgnkaaGreatDoor
