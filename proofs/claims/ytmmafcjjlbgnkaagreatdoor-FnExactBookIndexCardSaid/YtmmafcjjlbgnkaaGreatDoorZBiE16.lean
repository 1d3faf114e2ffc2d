/- What the proof rests on, part 16: contracts of functions. No condition beyond what each states. -/
import Derived.Test.YtmmafcjjlbgnkaaGreatDoorZBiE15
namespace Go.Proofs.YtmmafcjjlbgnkaaGreatDoor
open Go.RowKit
open Nat renaming reduceEqDiff→Rq,reduceBEq→Rb,reduceAdd→Ra,reduceSub→Rs
open Int renaming reduceToNat→Rt
set_option linter.all false
set_option maxHeartbeats 32000000
noncomputable section
abbrev aES:It:=(2,4,3,1,0,0,false)
abbrev aEw:It:=(3,3,0,0,0,50,true)
abbrev fO:List It:=[(3,0,0,0,0,10000,false),(2,0,1,0,1,0,false),(3,0,0,0,0,-10000,false)]
def itT (x:It) (tx:LS) (i:Nat):List UInt8:=if x.kd=1 then(tx[i]?.getD .empty).data.toList else if x.kd=2∧0<x.wd then [32]else []
def stL:List It→LS→Nat→List UInt8
 |[],_,_=>[]
 |x::l,tx,i=>itT x tx i++stL l tx (if x.kd=1 then i+1 else i)
theorem amo (x:It) (l:List It):nb (x::l)=(if x.kd=1 then 1 else 0)+nb l:=by
 unfold nb;by_cases h:x.kd=1
 ·rw[if_pos h,List.filter_cons_of_pos (by simpa using h),List.length_cons];omega
 ·rw[if_neg h,List.filter_cons_of_neg (by simpa using h)];omega
theorem pI:∀(l l':List It) (tx:LS) (i:Nat),stL (l++l') tx i=stL l tx i++stL l' tx (i+nb l)
 |[],l',tx,i=>rfl
 |x::l,l',tx,i=>by rw[List.cons_append,stL,stL,pI l l',List.append_assoc,amo];split<;>(congr 3;omega)
theorem qo:∀(l:List It) (tx tx':LS) (i i':Nat),(∀j,j<nb l→tx[i+j]?.getD .empty=tx'[i'+j]?.getD .empty)→stL l tx i=stL l tx' i'
 |[],_,_,_,_,_=>rfl
 |x::l,tx,tx',i,i',h=>by
  rw[amo]at h;rw[stL,stL];by_cases hk:x.kd=1
  ·rw[if_pos hk]at h
   rw[if_pos hk,if_pos hk];have h0:=h 0 (by omega);simp only[Nat.add_zero]at h0;congr 1
   ·unfold itT
    rw[if_pos hk,if_pos hk,h0]
   ·refine qo l tx tx' (i+1) (i'+1) fun j hj=>?_
    have:=h (j+1) (by omega);rw[show i+1+j=i+(j+1) by omega,show i'+1+j=i'+(j+1) by omega];exact this
  ·rw[if_neg hk]at h
   rw[if_neg hk,if_neg hk];congr 1
   ·unfold itT
    rw[if_neg hk,if_neg hk]
   ·exact qo l tx tx' i i' fun j hj=>h j (by omega)
def stI (l:List It) (tx:LS) (n:Nat):List UInt8:=stL (l.take n) tx 0
theorem ag1 {l:List It} {tx:LS} {n:Nat} (h:n<l.length):stI l tx (n+1)=stI l tx n++itT (gI l n) tx (nbX l n):=by
 unfold stI;rw[List.take_succ_eq_append_getElem h,pI];have e:gI l n=l[n]:=by unfold gI;rw[List.getElem?_eq_getElem h,Option.getD_some]
 rw[e,stL,stL,List.append_nil,Nat.zero_add];rfl
theorem aii {l:List It} {tx:LS} {a:Nat} (hk:(gI l a).kd=1) (htx:∀k,k<nb l→1≤(tx[k]?.getD .empty).size):∀j,a+j≤l.length→stI l tx (a+j)=stI l tx a++(lnT l tx a j).data.toList∧(0<j→1≤(lnT l tx a j).size)
 |0,_=>⟨by simp[lnT],fun h=>by omega⟩
 |j+1,h=>by
  obtain⟨h1,h2⟩:=aii hk htx j (by omega);rw[←Nat.add_assoc,ag1 (by omega),h1,lnT,List.append_assoc];have hsz:∀(s t:ByteArray),(s++t).data.toList=s.data.toList++t.data.toList:=fun s t=>by rw[ByteArray.data_append,Array.toList_append]
  by_cases k1:(gI l (a+j)).kd=1
  ·rw[adQ k1,hsz]
   unfold itT;rw[if_pos k1];refine⟨rfl,fun _=>?_⟩;have:=htx _ (zJ (by omega) k1);rw[ByteArray.size_append];omega
  ·have hj:0<j:=by
    rcases Nat.eq_zero_or_pos j with h0|h0
    ·subst h0;exact absurd hk k1
    ·exact h0
   have hs:=h2 hj;unfold itT;rw[if_neg k1];by_cases k2:(gI l (a+j)).kd=2∧0<(gI l (a+j)).wd
   ·rw[if_pos k2,ag6 ⟨k2.1,k2.2,ah2 hs⟩,hsz]
    refine⟨rfl,fun _=>?_⟩;rw[ByteArray.size_append];omega
   ·rw[if_neg k2,aja k1 (fun q=>k2 ⟨q.1,q.2.1⟩),List.append_nil]
    exact⟨rfl,fun _=>hs⟩
def kC:List It→Prop
 |[]=>True
 |x::l=>(x.kd=1∨((x=aES∨x=aEw)∧∃y l',l=y::l'∧y.kd=1))∧kC l
theorem kC.app:∀{l l':List It},kC l→kC l'→kC (l++l')
 |[],_,_,h=>h
 |x::l,l',h,h'=>by
  refine⟨?_,kC.app h.2 h'⟩;rcases h.1 with h1|⟨h1,y,l2,h2,h3⟩
  ·exact .inl h1
  ·exact .inr ⟨h1,y,l2++l',by rw[h2];rfl,h3⟩
theorem kC.at_:∀{l:List It} {n:Nat},kC l→n<l.length→(gI l n).kd=1∨((gI l n=aES∨gI l n=aEw)∧n+1<l.length∧(gI l (n+1)).kd=1)
 |x::l,0,h,_=>by
  rcases h.1 with h1|⟨h1,y,l2,h2,h3⟩
  ·exact .inl h1
  ·subst h2
   exact .inr ⟨h1,by simp,h3⟩
 |x::l,n+1,h,hn=>by
  have:=kC.at_ (l:=l) (n:=n) h.2 (by simpa using hn);rcases this with h1|⟨h1,h2,h3⟩
  ·exact .inl h1
  ·exact .inr ⟨h1,by simpa using h2,h3⟩
 |[],n,_,h=>by simp at h
def aEt (l:List It):Prop:=∃y l',l=y::l'∧y.kd=1
theorem ahF (ps:LS):∀k,kC (wiK ps k)∧(0<k→aEt (wiK ps k))
 |0=>⟨trivial,fun h=>by omega⟩
 |k+1=>by
  obtain⟨h1,h2⟩:=ahF ps k;rw[wiK];have hb:kC [((1:Int),pV (ps[k]?.getD .empty),(0:Int),(0:Int),(0:Int),(0:Int),false)]:=⟨.inl rfl,trivial⟩;by_cases hk:k=0
  ·subst hk
   exact⟨⟨.inl rfl,trivial⟩,fun _=>⟨_,_,rfl,rfl⟩⟩
  ·rw[if_neg hk]
   obtain⟨y,l',hy1,hy2⟩:=h2 (by omega);refine⟨?_,fun _=>?_⟩
   ·rw[List.append_assoc]
    exact kC.app h1 ⟨.inr ⟨.inr rfl,_,_,rfl,rfl⟩,hb⟩
   ·rw[hy1]
    exact⟨y,_,rfl,hy2⟩
theorem abB {ws pats:LS} (h1:bD ws=true) (h2:bA pats=true):∀k,k≤ws.length→kC (piK ws pats k)∧(0<k→aEt (piK ws pats k))
 |0,_=>⟨trivial,fun h=>by omega⟩
 |k+1,hk=>by
  obtain⟨g1,g2⟩:=abB h1 h2 k (by omega);have hp:=yw (pats:=pats) (nY h1 (k:=k) (by omega)) h2;obtain⟨w1,w2⟩:=ahF (bO (ws[k]?.getD .empty) pats) (bO (ws[k]?.getD .empty) pats).length;have w2:=w2 hp;rw[piK];by_cases h0:k=0
  ·subst h0
   exact⟨w1,fun _=>w2⟩
  ·rw[if_neg h0]
   obtain⟨y,l',hy1,hy2⟩:=g2 (by omega);refine⟨?_,fun _=>?_⟩
   ·rw[List.append_assoc]
    exact kC.app g1 ⟨.inr ⟨.inl rfl,w2⟩,w1⟩
   ·rw[hy1]
    exact⟨y,_,rfl,hy2⟩
theorem wD {l l':List It} {n:Nat} (h:n<l.length):gI (l++l') n=gI l n:=by unfold gI;rw[List.getElem?_append_left h]
theorem qy {l l':List It} {n:Nat}:gI (l++l') (l.length+n)=gI l' n:=by unfold gI;rw[List.getElem?_append_right (by omega),Nat.add_sub_cancel_left]
theorem akL {P:List It} (hg:kC P) {n:Nat} (hn:n<(P++fO).length) (hb:mZ (P++fO) n=true):n+1=(P++fO).length∨((gI (P++fO) n=aES∨gI (P++fO) n=aEw)∧n+1<(P++fO).length∧(gI (P++fO) (n+1)).kd=1):=by
 have hlen:(P++fO).length=P.length+3:=by simp
 rw[hlen]at hn⊢;by_cases h:n<P.length
 ·have h1:=hg.at_ h
  rw[wD h];rcases h1 with h1|⟨h1,h2,h3⟩
  ·unfold mZ at hb
   rw[wD h,if_neg (by omega),decide_eq_true_eq]at hb;omega
  ·rw[wD h2]
   exact .inr ⟨h1,by omega,h3⟩
 ·obtain⟨i,rfl⟩:∃i,n=P.length+i:=⟨n-P.length,by omega⟩
  have h3:i<3:=by omega
  match i,h3 with
  |0,_=>unfold mZ at hb;rw[qy,if_neg (show¬(gI fO 0).kd=2 by decide),decide_eq_true_eq]at hb;exact absurd hb.2 (by decide)
  |1,_=>unfold mZ at hb;rw[qy,if_pos (show(gI fO 1).kd=2 from rfl),decide_eq_true_eq,show P.length+1-1=P.length+0 by omega,qy]at hb;exact absurd hb.2 (by decide)
  |2,_=>exact .inl (by omega)
theorem amF (ps:LS) (s:ByteArray):aa0 (ps++[s])=aa0 ps++s.data.toList:=by simp[aa0]
theorem aua (ps:LS):∀k,k≤ps.length→stL (wiK ps k) ps 0=aa0 (ps.take k)
 |0,_=>rfl
 |k+1,h=>by
  have ih:=aua ps k (by omega);have hb:∀i,i=k→stL [((1:Int),pV (ps[k]?.getD .empty),(0:Int),(0:Int),(0:Int),(0:Int),false)] ps i=(ps[k]?.getD .empty).data.toList:=fun i e=>by subst e;rw[stL,stL,List.append_nil];exact if_pos rfl
  have ht:aa0 (ps.take (k+1))=aa0 (ps.take k)++(ps[k]?.getD .empty).data.toList:=by rw[List.take_succ_eq_append_getElem (by omega),amF,List.getElem?_eq_getElem (by omega),Option.getD_some]
  rw[wiK,pI,ht];by_cases h0:k=0
  ·rw[if_pos h0,ih,hb _ (by rw[arF];omega)]
  ·rw[if_neg h0,pI,ih,hb _ (by rw[yt,arF,show nb [((3:Int),(3:Int),(0:Int),(0:Int),(0:Int),(50:Int),true)]=0 from by decide];omega)]
   have:stL [aEw] ps (0+nb (wiK ps k))=[]:=rfl;rw[this,List.append_nil]
theorem alM {w:ByteArray} {pats:LS} (h1:bY w=true) (h2:bA pats=true):aa0 (bO w pats)=w.data.toList:=by unfold bO;rw[if_pos (jS.2 ⟨h1,h2⟩)];exact ayv (nH (pats:=pats) h1) (aG h1).2.1
theorem mI {s:ByteArray} (h:bY s=true):s.data.toList≠[]∧∀b∈s.data.toList,¬b=32:=by
 have hs:=(aG h).2.1;refine⟨fun e=>?_,fun b hb e=>?_⟩
 ·have:s.data.toList.length=s.size:=Array.length_toList
  rw[e]at this;simp at this;omega
 ·obtain⟨i,hi,rfl⟩:=List.getElem_of_mem hb
  have hi2:i<s.size:=by simpa using hi
  unfold bY at h;rw[Bool.and_eq_true,List.all_eq_true]at h;have h1:=aD.1 (h.1 i (List.mem_range.2 hi2));have h2:at8 s i=(s.data.toList[i].toNat:Int):=by unfold at8;rw[getElem?_pos s i hi2];rfl
  rw[h2,e]at h1;exact absurd h1.1 (by decide)
theorem nV:∀(w r acc:List UInt8),(∀b∈w,¬b=32)→bH (w++r) acc=bH r (acc++w)
 |[],r,acc,_=>by simp
 |b::w,r,acc,h=>by rw[List.cons_append,bH,if_neg (h b (by simp)),nV w r (acc++[b]) (fun c hc=>h c (by simp[hc]))];simp
theorem ag4 {w r:List UInt8} (h:∀b∈w,¬b=32) (h0:w≠[]):bH (w++32::r) []=w::bH r []:=by
 rw[nV w _ _ h,List.nil_append,bH,if_pos rfl];cases w with
 |nil=>exact absurd rfl h0
 |cons b w=>rfl
def jnB (ws:LS):Nat→List UInt8
 |0=>[]
 |k+1=>(if k=0 then []else jnB ws k++[32])++(ws[k]?.getD .empty).data.toList
theorem auC {ws pats:LS} (h1:bD ws=true) (h2:bA pats=true):∀k,k≤ws.length→stL (piK ws pats k) (txK ws pats k) 0=jnB ws k
 |0,_=>rfl
 |k+1,hk=>by
  have ih:=auC h1 h2 k (by omega);have hnb:=aqs ws pats k;have hfst:stL (piK ws pats k) (txK ws pats (k+1)) 0=jnB ws k:=by rw[←ih];refine qo _ _ _ _ _ fun j hj=>?_;rw[txK,Nat.zero_add,List.getElem?_append_left (by omega)]
  have hlst:∀i,i=nb (piK ws pats k)→stL (wiR (ws[k]?.getD .empty) pats) (txK ws pats (k+1)) i=(ws[k]?.getD .empty).data.toList:=fun i e=>by rw[←alM (nY h1 (k:=k) (by omega)) h2];have:=aua (bO (ws[k]?.getD .empty) pats) _ (Nat.le_refl _);rw[List.take_length]at this;rw[←this];refine qo _ _ _ _ _ fun j hj=>?_;rw[txK,e,hnb,List.getElem?_append_right (by omega),Nat.add_sub_cancel_left,Nat.zero_add]
  rw[piK,jnB,pI];by_cases h0:k=0
  ·rw[if_pos h0,if_pos h0,hfst,hlst _ (by rw[Nat.zero_add])]
   subst h0;rfl
  ·rw[if_neg h0,if_neg h0,pI,hfst,hlst _ (by rw[yt,Nat.zero_add,show nb [((2:Int),(4:Int),(3:Int),(1:Int),(0:Int),(0:Int),false)]=0 from by decide,Nat.add_zero])]
   rfl
theorem avm {ws pats:LS} (h1:bD ws=true) (h2:bA pats=true):stI (piR ws pats) (txR ws pats) (piR ws pats).length=jnB ws ws.length:=by unfold stI;rw[List.take_length];unfold piR txR;rw[pI,auC h1 h2 _ (Nat.le_refl _)];exact List.append_nil _
theorem acj {ws:LS} (h:bD ws=true):∀k,k<ws.length→∀r,bH (jnB ws (k+1)++32::r) []=(ws.take (k+1)).map (·.data.toList)++bH r []
 |0,hk,r=>by have hw:=nY h hk;rw[jnB,if_pos rfl,List.nil_append,ag4 (mI hw).2 (mI hw).1,List.take_succ_eq_append_getElem hk,List.getElem?_eq_getElem hk,Option.getD_some];rfl
 |k+1,hk,r=>by have hw:=nY h hk;rw[jnB,if_neg (by omega),List.append_assoc,List.append_assoc,List.singleton_append,acj h k (by omega),ag4 (mI hw).2 (mI hw).1,List.take_succ_eq_append_getElem hk,List.map_append,List.append_assoc,List.getElem?_eq_getElem hk,Option.getD_some];rfl
theorem ji:∀(a b:List (List UInt8)),dz (a++b)=dz a++dz b
 |[],b=>rfl
 |s::a,b=>by rw[List.cons_append,dz,dz,ji a b,List.append_assoc]
theorem af2 (t:List UInt8):iw (t++[45])=t:=by unfold iw;rw[jU,if_pos (by decide)];simp
theorem ahT {t:List UInt8} (h:∀b∈t,¬b=45):iw t=t++[32]:=by
 rcases List.eq_nil_or_concat t with h0|⟨t',z,h0⟩
 ·subst h0;rfl
 ·rw[List.concat_eq_append]at h0
  subst h0;unfold iw;rw[jU,if_neg];have:=h z (by simp);simpa using this
theorem aaB {P:List It} {tx:LS} {br:List Int} (hg:kC P) (hf:aEt P) (hb:atz (P++fO) br) (htx:∀k,k<nb (P++fO)→1≤(tx[k]?.getD .empty).size) (hno:∀k:Nat,aqv (tx[k]?.getD .empty)):∀k,k≤br.length→
 (k<br.length→(gI (P++fO) (frB br k)).kd=1∧dz ((mE (P++fO) tx br k).map (·.data.toList))=stI (P++fO) tx (frB br k))∧
 (frB br k=(P++fO).length→dz ((mE (P++fO) tx br k).map (·.data.toList))=stI (P++fO) tx (frB br k)++[32])
 |0,_=>by
  obtain⟨y,l',hy1,hy2⟩:=hf;refine⟨fun _=>⟨?_,rfl⟩,fun h=>?_⟩
  ·subst hy1;exact hy2
  ·subst hy1
   exact absurd h (by show¬0=_;simp)
 |k+1,hk=>by
  obtain⟨ih,-⟩:=aaB hg hf hb htx hno k (by omega);obtain⟨hk1,ih⟩:=ih (by omega);obtain⟨b1,b2,b3,b4⟩:=hb.at_ (k:=k) (by omega);have hq:=(fE.1 (hb.2 k (by omega)).2).2.1;have hfs:=vL br k;have hnx:k+1<br.length→frB br (k+1)<(P++fO).length:=fun h=>by obtain⟨c1,c2,c3,-⟩:=hb.at_ h;omega
  have hlk:mE (P++fO) tx br (k+1)=mE (P++fO) tx br k++[lnR (P++fO) tx (frB br k) (br[k]?.getD 0).toNat]:=rfl;generalize(br[k]?.getD 0).toNat=en at*;have hcs:=akL hg b3 hq;have hlast:en+1=(P++fO).length→gI (P++fO) en=(3,0,0,0,0,-10000,false):=fun h=>by
   have hlen:(P++fO).length=P.length+3:=by simp
   rw[show en=P.length+2 by omega,qy];rfl
  rw[hlk,hfs];rw[hfs]at hnx;generalize frB br k=a at*;have hst:=(aii hk1 htx (en-a) (by omega)).1;rw[show a+(en-a)=en by omega]at hst;have hnoL:∀b∈(lnT (P++fO) tx a (en-a)).data.toList,¬b=45:=ags hno _;have hsu:=ag1 (tx:=tx) b3;rw[List.map_append,ji,ih,hsu,hst];have hone:dz ([lnR (P++fO) tx a en].map (·.data.toList))=iw (lnR (P++fO) tx a en).data.toList:=by show iw _++[]=_;rw[List.append_nil]
  rw[hone];unfold lnR;rcases hcs with h1|⟨h1|h1,h2,h3⟩
  ·refine⟨fun h=>absurd (hnx h) (by omega),fun _=>?_⟩
   rw[hlast h1,if_neg (by decide),ahT hnoL];show _=(_++[])++_;rw[List.append_nil,List.append_assoc]
  ·refine⟨fun _=>⟨h3,?_⟩,fun h=>absurd h (by omega)⟩
   rw[h1,if_neg (by decide),ahT hnoL,←List.append_assoc];rfl
  ·refine⟨fun _=>⟨h3,?_⟩,fun h=>absurd h (by omega)⟩
   rw[h1,if_pos rfl,ByteArray.data_append,Array.toList_append];show _++iw (_++[45])=(_++_)++[];rw[af2,List.append_nil]
theorem agw {l:List It} {wd most:Int} (hl:aW l=true) (hm:most≤10000):∀(f a:Nat) (lk:Int),a<l.length→l.length-a<f→(aU l wd most a lk).isSome=true→((bkF l wd most f a lk).getLastD 0).toNat+1=l.length
 |0,a,lk,h,hf,_=>by omega
 |f+1,a,lk,h,hf,hs=>by
  obtain⟨r,hr⟩:=Option.isSome_iff_exists.1 hs;obtain⟨x,c0,hx,-⟩:=ou h hr;obtain⟨h1,h2⟩:=dx hl hm (by omega) hr;obtain⟨h3,-⟩:=h2 h;rw[nU (by omega) hr];by_cases he:r.2.1+1=l.length
  ·rw[he,yS]
   show((r.2.1:Int)).toNat+1=_;omega
  ·have ih:=agw (wd:=wd) hl hm f (r.2.1+1) r.2.2 (by omega) (by omega) (by rw[hx];rfl)
   have hp:=aaE (wd:=wd) (most:=most) (lk:=r.2.2) (f:=f-1) (a:=r.2.1+1) (l:=l) (by omega) (by rw[hx];rfl);rw[show f-1+1=f by omega]at hp;cases hb:bkF l wd most f (r.2.1+1) r.2.2 with
   |nil=>rw[hb]at hp;simp at hp
   |cons y t=>rw[hb]at ih;exact ih
theorem apy {l:List It} {wd most:Int} (h:kg l wd most=true):frB (cK l wd most) (cK l wd most).length=l.length:=by
 obtain⟨h1,h2,-,h4,h5⟩:=eH.1 h;have hp:0<(cK l wd most).length:=aaE h2 h5;have hl:=agw (wd:=wd) h1 h4.2 (l.length+1) 0 1 h2 (by omega) h5;unfold frB;rw[if_neg (by omega)];have:(cK l wd most)[(cK l wd most).length-1]?.getD 0=(cK l wd most).getLastD 0:=by rw[←List.getLast?_eq_getElem?,List.getLastD_eq_getLast?]
 rw[this];exact hl
theorem aer {ws pats:LS} {wd most:Int} (h:mD ws pats wd most=true) (r:List UInt8):bH (dz ((mF ws pats wd most).map (·.data.toList))++r) []=ws.map (·.data.toList)++bH r []:=by unfold mF;rw[if_pos h];unfold mD at h;rw[Bool.and_eq_true]at h;obtain⟨h1,h2⟩:=h;have hV:piV ws pats=piR ws pats:=if_pos h1;rw[hV]at h2;obtain⟨p1,p2,p3,-⟩:=qD.1 h1;obtain⟨g1,g2⟩:=abB p1 p2 ws.length (Nat.le_refl _);obtain⟨hB,-,-,hm,-⟩:=eH.1 h2;have hb:=ac9 (wd:=wd) hB hm.2;have hnb:=aq0 ws pats;have hls:=apy h2;have hL:=(aaB (tx:=txR ws pats) g1 (g2 p3) hb (fun k hk=>al2 (by rw[←hnb];exact hk)) (amV ws pats) _ (Nat.le_refl _)).2 hls;have e:piK ws pats ws.length++fO=piR ws pats:=rfl;rw[e]at hL;rw[hL,hls,avm p1 p2,List.append_assoc];obtain⟨n,hn⟩:∃n,ws.length=n+1:=⟨ws.length-1,by omega⟩;have hj:=acj p1 n (by omega) r;rw[←hn,List.take_length]at hj;exact hj
theorem alc (ws:LS):(ws.map (·.data.toList)).map (fun b=>(⟨b.toArray⟩:ByteArray))=ws:=by
 rw[List.map_map]
 conv=>rhs;rw[←List.map_id ws]
 exact List.map_congr_left fun s _=>rfl
theorem agS {p:List LS} {q:LS} {x y:Int}:∀k,(∀j,j<k→mD (p[j]?.getD []) q x y=true)→∀r,bH (dz ((blK p q x y k).map (·.data.toList))++r) []=((p.take k).flatten).map (·.data.toList)++bH r []
 |0,_,r=>by simp[blK,dz]
 |k+1,h,r=>by
  rw[blK,List.map_append,ji,List.append_assoc,agS k (fun j hj=>h j (by omega)),aer (h k (by omega))];by_cases hk:k<p.length
  ·rw[List.take_succ_eq_append_getElem hk,List.flatten_append,List.map_append,List.getElem?_eq_getElem hk,Option.getD_some,List.append_assoc]
   simp
  ·rw[List.getElem?_eq_none (by omega),List.take_of_length_le (show p.length≤k+1 by omega),List.take_of_length_le (show p.length≤k by omega)]
   simp
def ajL (w:List UInt8):Prop:=w≠[]∧∀b∈w,¬b=32∧¬b=45
def spW:List (List UInt8)→List UInt8
 |[]=>[]
 |[w]=>w
 |w::v::l=>w++32::spW (v::l)
theorem oC {w:List UInt8} {l:List (List UInt8)} (h:l≠[]):spW (w::l)=w++32::spW l:=by
 cases l with
 |nil=>exact absurd rfl h
 |cons v l=>rfl
theorem qW:∀{ws:List (List UInt8)} {w:List UInt8},ws≠[]→spW (ws++[w])=spW ws++32::w
 |[],w,h=>absurd rfl h
 |[v],w,_=>rfl
 |v::u::l,w,_=>by show spW (v::((u::l)++[w]))=_;rw[oC (by simp),qW (ws:=u::l) (by simp),oC (w:=v) (l:=u::l) (by simp),List.append_assoc];rfl
theorem af7 {ws:List (List UInt8)} {v w:List UInt8}:spW (ws++[v++w])=spW (ws++[v])++w:=by
 by_cases h:ws=[]
 ·subst h;rfl
 ·rw[qW h,qW h];simp
def jA (s:List UInt8):Prop:=∃ws:List (List UInt8),ws≠[]∧(∀w∈ws,ajL w)∧(s=spW ws∨s=spW ws++[45])
def tgI (x:It):Prop:=x.kd=2∧0<x.wd
theorem an1 {P:List It} (hg:kC P) {m:Nat} (hm:m+1<(P++fO).length) (ht:tgI (gI (P++fO) m)):(gI (P++fO) (m+1)).kd=1:=by
 have hlen:(P++fO).length=P.length+3:=by simp
 rcases Nat.lt_or_ge m P.length with h|h
 ·rw[wD h]at ht
  rcases hg.at_ h with h1|⟨_,h2,h3⟩
  ·have:=ht.1
   omega
  ·rw[wD h2]
   exact h3
 ·exfalso
  obtain⟨i,rfl⟩:∃i,m=P.length+i:=⟨m-P.length,by omega⟩;rw[qy]at ht;have hi:i=0∨i=1:=by omega
  rcases hi with rfl|rfl
  ·exact absurd ht.1 (by decide)
  ·exact absurd ht.2 (by decide)
theorem adM (s t:ByteArray):(s++t).data.toList=s.data.toList++t.data.toList:=by rw[ByteArray.data_append,Array.toList_append]
theorem atx {P:List It} {tx:LS} (hg:kC P) (htx:∀k,k<nb (P++fO)→ajL (tx[k]?.getD .empty).data.toList) {a:Nat} (hk:(gI (P++fO) a).kd=1):∀j,a+(j+1)≤(P++fO).length→
 ∃ws:List (List UInt8),ws≠[]∧(∀w∈ws,ajL w)∧(tgI (gI (P++fO) (a+j))→(lnT (P++fO) tx a (j+1)).data.toList=spW ws++[32])∧(¬tgI (gI (P++fO) (a+j))→(lnT (P++fO) tx a (j+1)).data.toList=spW ws)
 |0,h=>by
  have hb:=htx _ (zJ (l:=P++fO) (n:=a) (by omega) hk);refine⟨[(tx[nbX (P++fO) a]?.getD .empty).data.toList],by simp,fun w hw=>by rw[List.mem_singleton]at hw;rw[hw];exact hb,fun ht=>?_,fun _=>?_⟩
  ·have:=ht.1
   rw[Nat.add_zero]at this;omega
  ·rw[lnT,Nat.add_zero,adQ hk,adM,lnT]
   simp[spW]
 |j+1,h=>by
  obtain⟨ws,h1,h2,h3,h4⟩:=atx hg htx hk j (by omega);have hne:¬lnT (P++fO) tx a (j+1)=⟨#[]⟩:=fun e=>by
   have hw:spW ws≠[]:=by
    cases ws with
    |nil=>exact absurd rfl h1
    |cons w l=>
     have:=(h2 w (by simp)).1;cases l with
     |nil=>exact this
     |cons v l=>rw[oC (by simp)];simp
   by_cases ht:tgI (gI (P++fO) (a+j))
   ·have:=h3 ht
    rw[e]at this;simp at this
   ·have:=h4 ht
    rw[e]at this;exact hw this.symm
  rw[lnT];by_cases k1:(gI (P++fO) (a+(j+1))).kd=1
  ·have hb:=htx _ (zJ (l:=P++fO) (n:=a+(j+1)) (by omega) k1)
   have hnt:¬tgI (gI (P++fO) (a+(j+1))):=fun q=>by have:=q.1;omega
   rw[adQ k1];by_cases ht:tgI (gI (P++fO) (a+j))
   ·refine⟨ws++[(tx[nbX (P++fO) (a+(j+1))]?.getD .empty).data.toList],by simp,fun w hw=>?_,fun q=>absurd q hnt,fun _=>?_⟩
    ·rcases List.mem_append.1 hw with hw|hw
     ·exact h2 w hw
     ·rw[List.mem_singleton]at hw;rw[hw];exact hb
    ·rw[adM,h3 ht,qW h1]
     simp
   ·obtain⟨us,v,rfl⟩:∃us v,ws=us++[v]:=⟨ws.dropLast,ws.getLast h1,(List.dropLast_concat_getLast h1).symm⟩
    refine⟨us++[v++(tx[nbX (P++fO) (a+(j+1))]?.getD .empty).data.toList],by simp,fun w hw=>?_,fun q=>absurd q hnt,fun _=>?_⟩
    ·rcases List.mem_append.1 hw with hw|hw
     ·exact h2 w (List.mem_append_left _ hw)
     ·rw[List.mem_singleton]at hw
      subst hw;have hv:=h2 v (by simp);refine⟨by simp[hv.1],fun b hb2=>?_⟩;rcases List.mem_append.1 hb2 with q|q
      ·exact hv.2 b q
      ·exact hb.2 b q
    ·rw[adM,h4 ht,af7]
  ·have hpt:¬tgI (gI (P++fO) (a+j)):=fun q=>k1 (an1 hg (m:=a+j) (by omega) q)
   by_cases k2:tgI (gI (P++fO) (a+(j+1)))
   ·refine⟨ws,h1,h2,fun _=>?_,fun q=>absurd k2 q⟩
    rw[ag6 ⟨k2.1,k2.2,hne⟩,adM,h4 hpt]
   ·refine⟨ws,h1,h2,fun q=>absurd q k2,fun _=>?_⟩
    rw[aja k1 (fun q=>k2 ⟨q.1,q.2.1⟩),h4 hpt]
theorem aCF {P:List It} {tx:LS} (hg:kC P) (htx:∀k,k<nb (P++fO)→ajL (tx[k]?.getD .empty).data.toList) {a en:Nat} (hk:(gI (P++fO) a).kd=1) (hen:a≤en) (hlt:en<(P++fO).length) (hnb:¬(gI (P++fO) en).kd=1):jA (lnR (P++fO) tx a en).data.toList:=by
 have hae:a<en:=by
  rcases Nat.lt_or_ge a en with h|h
  ·exact h
  ·obtain rfl:a=en:=by omega
   exact absurd hk hnb
 obtain⟨ws,h1,h2,-,h4⟩:=atx hg htx hk (en-a-1) (by omega);rw[show en-a-1+1=en-a by omega,show a+(en-a-1)=en-1 by omega]at h4;have hnt:¬tgI (gI (P++fO) (en-1)):=fun q=>hnb (by
  have:=an1 hg (m:=en-1) (by omega) q
  rwa[show en-1+1=en by omega]at this)
 have hs:=h4 hnt;refine⟨ws,h1,h2,?_⟩;unfold lnR;split
 ·right
  rw[adM,hs]
 ·left
  exact hs
theorem atu {P:List It} {tx:LS} {br:List Int} (hg:kC P) (hf:aEt P) (hb:atz (P++fO) br) (htx:∀k,k<nb (P++fO)→ajL (tx[k]?.getD .empty).data.toList) (h1:∀k,k<nb (P++fO)→1≤(tx[k]?.getD .empty).size) (hno:∀k:Nat,aqv (tx[k]?.getD .empty)):∀k,k≤br.length→∀s∈mE (P++fO) tx br k,jA s.data.toList
 |0,_,s,hs=>by simp[mE]at hs
 |k+1,hk,s,hs=>by
  obtain⟨hk1,-⟩:=(aaB hg hf hb h1 hno k (by omega)).1 (by omega);obtain⟨b1,b2,b3,b4⟩:=hb.at_ (k:=k) (by omega);have hlk:mE (P++fO) tx br (k+1)=mE (P++fO) tx br k++[lnR (P++fO) tx (frB br k) (br[k]?.getD 0).toNat]:=rfl;rw[hlk]at hs;rcases List.mem_append.1 hs with hs|hs
  ·exact atu hg hf hb htx h1 hno k (by omega) s hs
  ·rw[List.mem_singleton]at hs
   subst hs;exact aCF hg htx hk1 b2 b3 b4
theorem axW {s:ByteArray} (h:bY s=true):ajL s.data.toList:=by
 obtain⟨h1,h2⟩:=mI h;refine⟨h1,fun b hb=>⟨h2 b hb,fun e=>?_⟩⟩;subst e;obtain⟨j,hj,e⟩:=List.getElem_of_mem hb;have hj2:j<s.size:=by rwa[show s.data.toList.length=s.size from Array.length_toList]at hj
 have:=(aG h).1 j hj2;have e2:at8 s j=45:=by have e3:s[j]?=some s[j]:=getElem?_pos s j hj2;have e4:s[j]=s.data.toList[j]:=rfl;unfold at8;rw[e3,Option.getD_some,e4,e];rfl
 omega
theorem aB6 {ws pats:LS} {wd most:Int}:∀s∈mF ws pats wd most,jA s.data.toList:=fun s hs=>by
 unfold mF at hs;split at hs
 ·rename_i h
  unfold mD at h;rw[Bool.and_eq_true]at h;obtain⟨h1,h2⟩:=h;have hV:piV ws pats=piR ws pats:=if_pos h1;rw[hV]at h2;obtain⟨p1,p2,p3,-⟩:=qD.1 h1;obtain⟨g1,g2⟩:=abB p1 p2 ws.length (Nat.le_refl _);obtain⟨hB,-,-,hm,-⟩:=eH.1 h2;have hb:=ac9 (wd:=wd) hB hm.2;have hnb:=aq0 ws pats;exact atu (tx:=txR ws pats) g1 (g2 p3) hb (fun k hk=>axW (agN (by rw[←hnb];exact hk))) (fun k hk=>al2 (by rw[←hnb];exact hk)) (amV ws pats) _ (Nat.le_refl _) s hs
 ·simp at hs
theorem amN {p:List LS} {q:LS} {x y:Int}:∀k,∀s∈blK p q x y k,jA s.data.toList
 |0,s,h=>by simp[blK]at h
 |k+1,s,h=>by
  rw[blK]at h;rcases List.mem_append.1 h with h|h
  ·exact amN k s h
  ·exact aB6 s h
theorem yx:∀{ws:List (List UInt8)} {acc r:List UInt8},ws≠[]→(∀w∈ws,ajL w)→bH (spW ws++32::r) acc=(acc++ws.headD [])::ws.tail++bH r []
 |[],acc,r,h,_=>absurd rfl h
 |[w],acc,r,_,h=>by have hw:=h w (by simp);rw[spW,nV w _ acc (fun b hb=>(hw.2 b hb).1),bH,if_pos rfl,if_neg (by simp[hw.1])];rfl
 |w::v::l,acc,r,_,h=>by have hw:=h w (by simp);have ih:=yx (ws:=v::l) (acc:=[]) (r:=r) (by simp) (fun x hx=>h x (by simp[hx]));rw[oC (by simp),List.append_assoc,nV w _ acc (fun b hb=>(hw.2 b hb).1),List.cons_append,bH,if_pos rfl,if_neg (by simp[hw.1]),ih];rfl
theorem abS:∀{ws:List (List UInt8)} {acc r:List UInt8},ws≠[]→(∀w∈ws,ajL w)→bH (spW ws++r) acc=((acc++ws.headD [])::ws.tail).dropLast++bH r (((acc++ws.headD [])::ws.tail).getLastD [])
 |[],acc,r,h,_=>absurd rfl h
 |[w],acc,r,_,h=>by have hw:=h w (by simp);rw[spW,nV w _ acc (fun b hb=>(hw.2 b hb).1)];rfl
 |w::v::l,acc,r,_,h=>by have hw:=h w (by simp);have ih:=abS (ws:=v::l) (acc:=[]) (r:=r) (by simp) (fun x hx=>h x (by simp[hx]));rw[oC (by simp),List.append_assoc,nV w _ acc (fun b hb=>(hw.2 b hb).1),List.cons_append,bH,if_pos rfl,if_neg (by simp[hw.1]),ih];simp[List.dropLast,List.getLastD]
def goL (T:List (List UInt8)) (ins:Bool) (ws:List (List UInt8)):List (List UInt8):=if ins=true then T.dropLast++(T.getLastD []++ws.headD [])::ws.tail else T++ws
def mW (S:List UInt8) (T:List (List UInt8)) (ins:Bool):Prop:=
 if ins=true then T≠[]∧T.getLastD []≠[]∧∀r,bH (S++r) []=T.dropLast++bH r (T.getLastD [])else∀r,bH (S++r) []=T++bH r []
theorem mW.all {S:List UInt8} {T:List (List UInt8)} {ins:Bool} (h:mW S T ins):bH S []=T:=by
 unfold mW at h;split at h
 ·obtain⟨h1,h2,h3⟩:=h
  have:=h3 [];rw[List.append_nil,bH,if_neg h2]at this;rw[this,List.getLastD_eq_getLast?,List.getLast?_eq_some_getLast h1,Option.getD_some,List.dropLast_concat_getLast]
 ·have:=h []
  rwa[List.append_nil,bH,if_pos rfl,List.append_nil]at this
theorem apO {ws:List (List UInt8)} (h:ws≠[]) (hw:∀w∈ws,ajL w):∃t z,spW ws=t++[z]∧¬z=45∧¬z=32:=by
 obtain⟨us,v,rfl⟩:∃us v,ws=us++[v]:=⟨ws.dropLast,ws.getLast h,(List.dropLast_concat_getLast h).symm⟩;have hv:=hw v (by simp);obtain⟨v',z,rfl⟩:∃v' z,v=v'++[z]:=⟨v.dropLast,v.getLast hv.1,(List.dropLast_concat_getLast hv.1).symm⟩;have hz:=hv.2 z (by simp);by_cases hu:us=[]
 ·subst hu
  exact⟨v',z,rfl,hz.2,hz.1⟩
 ·refine⟨spW us++32::v',z,?_,hz.2,hz.1⟩
  rw[qW hu];simp
theorem aqG {ws:List (List UInt8)} (h:ws≠[]) (hw:∀w∈ws,ajL w):iw (spW ws)=spW ws++[32]∧Lib.hasSuffix (spW ws) [45]=false:=by obtain⟨t,z,e,h1,_⟩:=apO h hw;unfold iw;rw[e,jU,decide_eq_false h1];exact⟨rfl,rfl⟩
theorem mW.line {S:List UInt8} {T:List (List UInt8)} {ins:Bool} (h:mW S T ins) {ws:List (List UInt8)} {s:List UInt8} (h1:ws≠[]) (hw:∀w∈ws,ajL w) (hs:s=spW ws∨s=spW ws++[45]):mW (S++iw s) (goL T ins ws) (Lib.hasSuffix s [45]):=by
 obtain⟨w,l,rfl⟩:∃w l,ws=w::l:=by cases ws with
  |nil=>exact absurd rfl h1
  |cons w l=>exact⟨w,l,rfl⟩
 have hw0:=(hw w (by simp)).1;rcases hs with rfl|rfl
 ·obtain⟨e1,e2⟩:=aqG h1 hw
  rw[e1,e2];unfold mW at h⊢;rw[if_neg (by decide)];intro r;rw[show S++(spW (w::l)++[32])++r=S++(spW (w::l)++32::r) by simp];cases ins with
  |false=>rw[if_neg (by decide)]at h;rw[h,yx h1 hw];simp[goL]
  |true=>rw[if_pos rfl]at h;rw[h.2.2,yx h1 hw];simp[goL]
 ·rw[af2,jU,decide_eq_true rfl]
  unfold mW at h⊢;rw[if_pos rfl];cases ins with
  |false=>
   rw[if_neg (by decide)]at h;have e:goL T false (w::l)=T++w::l:=if_neg (by decide);rw[e];have e2:(T++w::l).getLastD []=(w::l).getLastD []:=by rw[List.getLastD_eq_getLast?,List.getLastD_eq_getLast?,List.getLast?_append];simp[List.getLast?_cons]
   refine⟨by simp,?_,fun r=>?_⟩
   ·rw[e2]
    have:(w::l).getLastD []∈w::l:=by rw[List.getLastD_eq_getLast?,List.getLast?_eq_some_getLast (by simp),Option.getD_some];exact List.getLast_mem _
    exact(hw _ this).1
   ·rw[List.append_assoc,h,abS h1 hw,e2,List.dropLast_append_of_ne_nil (by simp)]
    simp
  |true=>
   rw[if_pos rfl]at h;have e:goL T true (w::l)=T.dropLast++(T.getLastD []++w)::l:=if_pos rfl;rw[e];have e2:(T.dropLast++(T.getLastD []++w)::l).getLastD []=((T.getLastD []++w)::l).getLastD []:=by rw[List.getLastD_eq_getLast?,List.getLastD_eq_getLast?,List.getLast?_append];simp[List.getLast?_cons]
   refine⟨by simp,?_,fun r=>?_⟩
   ·rw[e2]
    cases l with
    |nil=>simp[hw0]
    |cons v l=>
     have:((T.getLastD []++w)::v::l).getLastD []=(v::l).getLastD []:=by simp[List.getLastD]
     rw[this];have:(v::l).getLastD []∈v::l:=by rw[List.getLastD_eq_getLast?,List.getLast?_eq_some_getLast (by simp),Option.getD_some];exact List.getLast_mem _
     exact(hw _ (by simp at this⊢;right;exact this)).1
   ·rw[List.append_assoc,h.2.2,abS h1 hw,e2,List.dropLast_append_of_ne_nil (by simp)]
    simp
def dR (c:UInt8) (s:ByteArray):List ByteArray:=Lib.splitB ⟨#[c]⟩ 0 (Lib.countB s ⟨#[c]⟩) s
theorem vY (c:UInt8):(1:Nat)≤(⟨#[c]⟩:ByteArray).size:=by simp[ByteArray.size]
theorem wM (c:UInt8) (s:ByteArray):(dR c s).length=Lib.countB s ⟨#[c]⟩+1:=Lib.splitB_all _ (vY c) 0 _ s rfl
theorem zo (c:UInt8) (s:ByteArray):(dR c s).length≤s.size+1:=by rw[wM];have:=Lib.countB_le ⟨#[c]⟩ (vY c) s.size s (Nat.le_refl _);omega
theorem amA (c:UInt8) (s:ByteArray) (w:World) (hs:s.size<4294967281):Calls Tryz.prog 37 #[.string s,.string ⟨#[c]⟩] w fun e w'=>
 e=.returned (.slice (some ⟨w.heap.size,0,none⟩) (dR c s).length (dR c s).length)∧w'=w.alloc (.cells ((dR c s).map Value.string).toArray 9):=by
 have hle:=Lib.countB_le ⟨#[c]⟩ (vY c) s.size s (Nat.le_refl _);have hpl:=wM c s;have hI:∀(x:ByteArray) (cs:Array Value),x.size≤s.size→Calls Tryz.prog 103 #[.string x,.string ⟨#[c]⟩] (w.alloc (.cells cs 9)) fun e w'=>e=.returned (.int .i64 (Lib.indexB x ⟨#[c]⟩))∧w'=w.alloc (.cells cs 9):=fun x cs _=>(YtmmafcjjlbgnkaaGreatDoor.strings_Index_one x c _).mono fun e w' ⟨he,hw⟩=>⟨by rw[he];exact congrArg (fun z=>Ending.returned (Value.int .i64 z)) (Lib.index_one x.data.toList c).symm,hw⟩
 have hC:Calls Tryz.prog 102 #[.string s,.string ⟨#[c]⟩] w fun e w'=>e=.returned (.int .i64 (Lib.countB s ⟨#[c]⟩))∧w'=w:=
  (YtmmafcjjlbgnkaaGreatDoor.strings_Count_one s c w).mono fun e w' ⟨he,hw⟩=>⟨by rw[he];exact congrArg (fun z:Nat=>Ending.returned (Value.int .i64 z)) (Lib.count_one c s.data.toList).symm,hw⟩
 have hg:=Any.strings_genSplit_core YtmmafcjjlbgnkaaGreatDoor.awm (by kernel_rfl) s ⟨#[c]⟩ 0 (-1) (Lib.countB s ⟨#[c]⟩+1) w hs (vY c) (Nat.zero_le _) hI hC (by decide) (by decide) (by rw[if_pos (by decide)];omega);have e1:Lib.splitB ⟨#[c]⟩ 0 (Lib.countB s ⟨#[c]⟩+1-1) s=dR c s:=rfl;have e2:Lib.cellsOf (dR c s) (Lib.countB s ⟨#[c]⟩+1)=((dR c s).map Value.string).toArray:=by rw[←hpl];exact Lib.cellsOf_full _
 rw[e1,e2,←hpl]at hg;clear hI hC hle hpl e1 e2;generalize dR c s=ps at*
 go_enter Tryz.func37,Tryz.ntmps37
 go_wp2_with (go_at_call 73;refine hg.mono ?_;rintro e w' ⟨rfl,hw⟩;rw[hw])
 go_ret
 exact⟨rfl,rfl⟩
def rC (l:LS):LS:=(bH (dz (l.map (·.data.toList))) []).map fun b=>⟨b.toArray⟩
def aE3 (l:LS):Prop:=l.length≤1048576∧zi l≤1048576
def ab7 (l R:LS) (k:Nat) (rest:List UInt8) (out:LS) (word:ByteArray):Prop:=
 out.map (·.data.toList)++bH (rest++dz ((l.drop k).map (·.data.toList))) word.data.toList=R.map (·.data.toList)
theorem anq {a b:LS} (h:a.map (·.data.toList)=b.map (·.data.toList)):a=b:=by
 induction a generalizing b with
 |nil=>cases b with
  |nil=>rfl
  |cons y b=>simp at h
 |cons x a ih=>cases b with
  |nil=>simp at h
  |cons y b=>simp only[List.map_cons,List.cons.injEq]at h;rw[aaf h.1,ih h.2]
theorem awW {w s:ByteArray} {j:Nat} (h:j<s.data.toList.length):(w++s.extract j (j+1)).data.toList=w.data.toList++[s.data.toList[j]]:=by rw[ByteArray.data_append,Array.toList_append,ByteArray.data_extract,Array.toList_extract];congr 1;rw[List.extract_eq_drop_take,show j+1-j=1 by omega,List.drop_eq_getElem_cons h];rfl
theorem afx {w:ByteArray}:w.data.toList=[]↔w=⟨#[]⟩:=⟨fun h=>aaf h,fun h=>by rw[h]⟩
theorem ab7.line {l R:LS} {k:Nat} {out:LS} {word:ByteArray} (h:ab7 l R k [] out word) (hk:k<l.length):ab7 l R (k+1) ((iw (l[k]?.getD .empty).data.toList).drop 0) out word:=by unfold ab7 at h⊢;rw[List.nil_append,List.drop_eq_getElem_cons hk]at h;rw[List.drop_zero,List.getElem?_eq_getElem hk,Option.getD_some];exact h
theorem ab7.stop {l R:LS} {out:LS} {word:ByteArray} (h:ab7 l R l.length [] out word):R=if word=⟨#[]⟩then out else out++[word]:=by
 unfold ab7 at h;refine(anq ?_).symm;rw[List.drop_length]at h;by_cases hw:word=⟨#[]⟩
 ·rw[if_pos hw]
  rw[hw]at h;simpa [dz,bH]using h
 ·have hw2:¬word.data.toList=[]:=fun e=>hw (afx.1 e)
  rw[if_neg hw,List.map_append];rw[List.map_nil,List.nil_append]at h;unfold dz bH at h;rw[if_neg hw2]at h;exact h
theorem ab7.space {l R:LS} {k:Nat} {out:LS} {word:ByteArray} {r:List UInt8} (h:ab7 l R k (32::r) out word):ab7 l R k r (if word=⟨#[]⟩then out else out++[word]) ⟨#[]⟩:=by
 unfold ab7 at h⊢;rw[List.cons_append]at h;unfold bH at h;rw[if_pos rfl]at h;by_cases hw:word=⟨#[]⟩
 ·rw[if_pos hw]
  rw[if_pos (afx.2 hw),List.nil_append]at h;exact h
 ·rw[if_neg hw,List.map_append,List.append_assoc]
  rw[if_neg fun e=>hw (afx.1 e)]at h;exact h
theorem ab7.byte {l R:LS} {k:Nat} {out:LS} {word w2:ByteArray} {b:UInt8} {r:List UInt8} (h:ab7 l R k (b::r) out word) (hb:¬b=32) (hw:w2.data.toList=word.data.toList++[b]):ab7 l R k r out w2:=by unfold ab7 at h⊢;rw[List.cons_append]at h;unfold bH at h;rw[if_neg hb]at h;rw[hw];exact h
theorem akS {s:ByteArray} (h:s.size=0):s=⟨#[]⟩:=by obtain⟨⟨l⟩⟩:=s;have:l.length=0:=h;rw[List.eq_nil_of_length_eq_zero this]
def aqk:Fun:=F1 dSs fun l=>open Classical in if aE3 l then some (.lst true 1 ((rC l).map fun s=> .val (.string s)))else none
def aGL:Ctx:={fn:=aT [(34,φIn)],io:=aT []}
theorem ayA:au Tryz.prog aGL:=okΓ (fC Tryz.func34 fK aj) aj
def axO:=ah (Γ:=aGL) (f:=34) (φ:=φIn) rfl
theorem aiw:Sound Tryz.prog 47 aqk:=by
 refine ak mixed ayA Tryz.func47 rfl 86 rfl [.tmp 2] rfl (by kernel_rfl) fun ps r hr=>?_;obtain⟨l,rfl,hq⟩:=bC hr;clear hr;split at hq
 case isFalse=>cases hq
 case isTrue hpre=>
 simp only[Option.some.injEq]at hq;refine⟨by simp,?_⟩;simp only[dIs,dUs,dSs,bP,bS,bQ,bT,aP,bR,aQ,aO,aR,aL];obtain⟨hl,hs⟩:=hpre;generalize hR:rC l=R at hq;have hRM:bH (dz (l.map (·.data.toList))) []=R.map (·.data.toList):=by rw[←hR];unfold rC;rw[List.map_map];exact(List.map_id _).symm
 replace hRM:=Lib.hid hRM;replace hq:=Lib.hid hq;clear hR;have gswl_c34:=axO;(refine wlk ?_;intros);refine aB (α:=Nat×LS×ByteArray×Nat×Nat) mixed (fun s=>[(0,.lst false 1 (l.map fun s=> .val (.string s))),(3,.row s.2.2.2.1 1 0 s.2.1.length),(4,.val (.string s.2.2.1)),(5,iv s.1)])
  (fun s=>[(s.2.2.2.1,9,1,s.2.1.map fun s=> .val (.string s))]) (fun s=>s.2.2.2.2)
  (fun s=>s.1≤l.length∧ab7 l R s.1 [] s.2.1 s.2.2.1∧s.2.1.length+s.2.2.1.size≤zi (l.take s.1)∧s.2.2.2.1<s.2.2.2.2) (fun s=>l.length-s.1) (by kernel_rfl) (0,[],⟨#[]⟩,0,1) ⟨Nat.zero_le _,by simpa [ab7]using hRM.out,by simp[ByteArray.size],by simp⟩ ?_ ?_ rfl ?_
 ·exact agr
 ·exact agr
 rintro⟨k,out,word,x,y⟩ ⟨hk,hI,hsz,hxy⟩;dsimp only at hk hI hsz hxy;replace hI:=Lib.hid hI;by_cases h0:k<l.length
 ·have hst:=amk (l:=l) h0
  have hle:=uE l (k+1);generalize hs9:l[k]?.getD ByteArray.empty=s at*;have hI2:=hI.out.line h0;rw[hs9]at hI2;replace hI2:=Lib.hid hI2;(refine wlk ?_;intros);refine aB (α:=Nat×LS×ByteArray×Nat×Nat) mixed (fun z=>[(0,.lst false 1 (l.map fun s=> .val (.string s))),(3,.row z.2.2.2.1 1 0 z.2.1.length),(4,.val (.string z.2.2.1)),(5,iv k),(6,.val (.string s)),(7,iv z.1)])
   (fun z=>[(z.2.2.2.1,9,1,z.2.1.map fun s=> .val (.string s))]) (fun z=>z.2.2.2.2)
   (fun z=>z.1≤s.size∧ab7 l R (k+1) ((iw s.data.toList).drop z.1) z.2.1 z.2.2.1∧z.2.1.length+z.2.2.1.size≤zi (l.take k)+z.1∧z.2.2.2.1<z.2.2.2.2) (fun z=>s.size-z.1) (by kernel_rfl) (0,out,word,x,y) ⟨Nat.zero_le _,hI2.out,by dsimp only;omega,hxy⟩ ?_ ?_ rfl ?_
  ·exact agr
  ·exact agr
  rintro⟨j,out,word,x,y⟩ ⟨hj,hI,hsz,hxy⟩;dsimp only at hj hI hsz hxy;clear hI2;replace hI:=Lib.hid hI;by_cases hjs:j<s.size
  ·have hl9:s.data.toList.length=s.size:=Array.length_toList
   have hjl:j<s.data.toList.length:=by omega
   have hb:=aCp hjl;have hr8:=iM s j;have hes:(s.extract j (j+1)).size=1:=by rw[ByteArray.size_extract];omega
   have ht:((j:Int)+1).toNat=j+1:=by omega
   have hex:(word++s.extract j (j+1)).data.toList=word.data.toList++[s.data.toList[j]]:=awW hjl;replace hex:=Lib.hid hex;have hsa:(word++s.extract j (j+1)).size=word.size+1:=by rw[ByteArray.size_append,hes]
   clear hl9;by_cases h45:at8 s j=45∧j+1=s.size
   ·have hI9:=hI.out
    rw[ax7 hjs h45.1 h45.2]at hI9;replace hI9:=Lib.hid hI9;obtain⟨h45a,h45b⟩:=h45;have h45c:¬at8 s j=32:=by omega
    have h45d:¬j+1<s.size:=by omega
    have h45e:s.size≤j+1:=by omega
    clear hb h45b;(refine wlk ?_;intros);refine⟨(j+1,out,word,x,y),⟨by dsimp only;omega,hI9.out,by dsimp only;omega,hxy⟩,by dsimp only;omega,?_,?_,rfl⟩
    ·exact agr
    ·exact agr
   ·have hI9:=hI.out
    rw[avA hjl h45]at hI9;by_cases h32:at8 s j=32
    ·have hb32:s.data.toList[j]=32:=UInt8.toNat_inj.1 (by show _=32;omega)
     rw[hb32]at hI9;replace hI9:=hI9.space;clear hb hb32 h45 hex;by_cases hw:word=⟨#[]⟩
     ·subst hw
      rw[if_pos rfl]at hI9;replace hI9:=Lib.hid hI9;(refine wlk ?_;intros);refine⟨(j+1,out,⟨#[]⟩,x,y),⟨by dsimp only;omega,hI9.out,by dsimp only;omega,hxy⟩,by dsimp only;omega,?_,?_,rfl⟩
      ·exact agr
      ·exact agr
     ·rw[if_neg hw]at hI9
      replace hI9:=Lib.hid hI9;have hwp:0<word.size:=Nat.pos_of_ne_zero fun e=>hw (akS e);have hz0:(⟨#[]⟩:ByteArray).size=0:=rfl;(refine wlk ?_;intros);refine⟨(j+1,out++[word],⟨#[]⟩,y+1,y+2),⟨by dsimp only;omega,hI9.out,by dsimp only;rw[List.length_append,List.length_cons,List.length_nil,hz0];omega,by dsimp only;omega⟩,by dsimp only;omega,?_,?_,rfl⟩
      ·exact agr
      ·exact agr
    ·have hb32:¬s.data.toList[j]=32:=fun e=>h32 (by rw[hb,e];rfl)
     replace hI9:=hI9.byte hb32 hex.out;replace hI9:=Lib.hid hI9;clear hb hb32;by_cases h45a:at8 s j=45
     ·have h45b:j+1<s.size:=by have:¬j+1=s.size:=fun e=>h45 ⟨h45a,e⟩;omega
      clear h45 hex;(refine wlk ?_;intros);refine⟨(j+1,out,word++s.extract j (j+1),x,y),⟨by dsimp only;omega,hI9.out,by dsimp only;omega,hxy⟩,by dsimp only;omega,?_,?_,rfl⟩
      ·exact agr
      ·exact agr
     ·clear h45 hex
      (refine wlk ?_;intros);refine⟨(j+1,out,word++s.extract j (j+1),x,y),⟨by dsimp only;omega,hI9.out,by dsimp only;omega,hxy⟩,by dsimp only;omega,?_,?_,rfl⟩
      ·exact agr
      ·exact agr
  ·obtain rfl:j=s.size:=by omega
   have hI9:=hI.out;by_cases hy:0<s.size∧at8 s (s.size-1)=45
   ·rw[aow hy.1 hy.2]at hI9
    replace hI9:=Lib.hid hI9;have hsn:¬s=⟨#[]⟩:=fun e=>by rw[e]at hy;exact absurd hy.1 (by decide)
    obtain⟨hy1,hy2⟩:=hy;(refine wlk6 ?_ ?_ ?_ ?_ ?_ ?_<;>intros<;>try with_reducible exact trivial);all_goals refine⟨(k+1,out,word,x,y),⟨by dsimp only;omega,hI9.out,by dsimp only;omega,hxy⟩,by dsimp only;omega,?_,?_,rfl⟩
    all_goals exact agr
   ·have hno:s.size=0∨¬at8 s (s.size-1)=45:=by
     by_cases h1:s.size=0
     ·exact .inl h1
     ·exact .inr fun h2=>hy ⟨by omega,h2⟩
    rw[amr hno]at hI9;replace hI9:=hI9.space;have hz0:(⟨#[]⟩:ByteArray).size=0:=rfl;clear hy;by_cases hw:word=⟨#[]⟩
    ·subst hw
     rw[if_pos rfl]at hI9;replace hI9:=Lib.hid hI9;(refine wlk ?_;intros);all_goals refine⟨(k+1,out,⟨#[]⟩,x,y),⟨by dsimp only;omega,hI9.out,by dsimp only;omega,hxy⟩,by dsimp only;omega,?_,?_,rfl⟩
     all_goals exact agr
    ·rw[if_neg hw]at hI9
     replace hI9:=Lib.hid hI9;have hwp:0<word.size:=Nat.pos_of_ne_zero fun e=>hw (akS e);by_cases h0s:s.size=0
     ·have hse:s=⟨#[]⟩:=akS h0s
      subst hse;clear hno h0s;(refine wlk ?_;intros);all_goals refine⟨(k+1,out++[word],⟨#[]⟩,y+1,y+2),⟨by dsimp only;omega,hI9.out,by dsimp only;rw[List.length_append,List.length_cons,List.length_nil,hz0];omega,by dsimp only;omega⟩,by dsimp only;omega,?_,?_,rfl⟩
      all_goals exact agr
     ·have hsn:¬s=⟨#[]⟩:=fun e=>h0s (by rw[e];rfl)
      have hn45:¬at8 s (s.size-1)=45:=hno.resolve_left h0s;clear hno;(refine wlk ?_;intros);all_goals refine⟨(k+1,out++[word],⟨#[]⟩,y+1,y+2),⟨by dsimp only;omega,hI9.out,by dsimp only;rw[List.length_append,List.length_cons,List.length_nil,hz0];omega,by dsimp only;omega⟩,by dsimp only;omega,?_,?_,rfl⟩
      all_goals exact agr
 ·obtain rfl:k=l.length:=by omega
  have hle:=uE l l.length;have hR9:=hI.out.stop;have hq9:=hq.out;by_cases hw:word=⟨#[]⟩
  ·rw[if_pos hw]at hR9
   subst hR9;subst hq9;subst hw;clear hI hRM hq;exact wlkS
  ·rw[if_neg hw]at hR9
   subst hR9;subst hq9;clear hI hRM hq;exact wlkS
def adP (s:ByteArray):ByteArray:=⟨(Lib.trimSuffix s.data.toList [45]).toArray⟩
def azq (s:ByteArray):Bool:=Lib.hasSuffix s.data.toList [45]
def ado (s:ByteArray):LS:=(dR 32 s).map adP
abbrev toL (s:ByteArray):List UInt8:=s.data.toList
theorem aam (c:UInt8) (s:ByteArray):(dR c s).map toL=iX c (toL s):=by have e:=Lib.splitB_data ⟨#[c]⟩ 0 (Lib.countB s ⟨#[c]⟩) s;rw[←aib];exact e
theorem aai {c:UInt8}:∀{w:List UInt8},(∀b∈w,¬b=c)→iX c w=[w]
 |[],_=>rfl
 |b::l,h=>by rw[iX,if_neg (h b (by simp)),aai fun x hx=>h x (by simp[hx])]
theorem zQ {c:UInt8} {r:List UInt8}:∀{w:List UInt8},(∀b∈w,¬b=c)→iX c (w++c::r)=w::iX c r
 |[],_=>by rw[List.nil_append,iX,if_pos rfl]
 |b::l,h=>by rw[List.cons_append,iX,if_neg (h b (by simp)),zQ fun x hx=>h x (by simp[hx])]
theorem yA:∀{ws:List (List UInt8)},ws≠[]→(∀w∈ws,∀b∈w,¬b=32)→iX 32 (spW ws)=ws
 |[],h,_=>absurd rfl h
 |[w],_,h=>aai (h w (by simp))
 |w::v::l,_,h=>by rw[oC (by simp),zQ (h w (by simp)),yA (by simp) fun x hx=>h x (by simp[hx])]
theorem avx {w:List UInt8} (h:∀b∈w,¬b=45):Lib.trimSuffix w [45]=w:=by
 unfold Lib.trimSuffix;rcases List.eq_nil_or_concat w with rfl|⟨t,z,e⟩
 ·rfl
 ·rw[List.concat_eq_append]at e
  subst e;rw[jU,decide_eq_false (h z (by simp))];rfl
theorem ayG (w:List UInt8):Lib.trimSuffix (w++[45]) [45]=w:=by unfold Lib.trimSuffix;rw[jU];simp
theorem aBq {s:ByteArray} (h:jA (toL s)):∃ws:List (List UInt8),ws≠[]∧(∀w∈ws,ajL w)∧(toL s=spW ws∨toL s=spW ws++[45])∧(ado s).map toL=ws:=by
 obtain⟨ws,h1,h2,h3⟩:=h;refine⟨ws,h1,h2,h3,?_⟩;have e:(ado s).map toL=(iX 32 (toL s)).map fun p=>Lib.trimSuffix p [45]:=by rw[←aam];unfold ado;rw[List.map_map,List.map_map];rfl
 rw[e];have hid:∀us:List (List UInt8),(∀w∈us,ajL w)→us.map (fun p=>Lib.trimSuffix p [45])=us:=fun us h=>by
  conv=>rhs;rw[←List.map_id us]
  exact List.map_congr_left fun w hw=>avx fun b hb=>((h w hw).2 b hb).2
 rcases h3 with h3|h3
 ·rw[h3,yA h1 fun w hw b hb=>((h2 w hw).2 b hb).1]
  exact hid ws h2
 ·obtain⟨us,v,rfl⟩:∃us v,ws=us++[v]:=⟨ws.dropLast,ws.getLast h1,(List.dropLast_concat_getLast h1).symm⟩
  rw[h3,←af7,yA (by simp) fun w hw b hb=>?_]
  ·rw[List.map_append,hid us fun w hw=>h2 w (List.mem_append_left _ hw)]
   simp[ayG]
  ·rcases List.mem_append.1 hw with hw|hw
   ·exact((h2 w (List.mem_append_left _ hw)).2 b hb).1
   ·rw[List.mem_singleton]at hw
    subst hw;rcases List.mem_append.1 hb with hb|hb
    ·exact((h2 v (by simp)).2 b hb).1
    ·rw[List.mem_singleton]at hb
     subst hb;decide
def axn (pg:Int) (ins:Bool) (W:List W2) (k:Nat) (t:ByteArray):List W2:=if k=0∧ins=true then W.set (W.length-1) ((W[W.length-1]?.getD w0).1++t,(W[W.length-1]?.getD w0).2)else W++[(t,pg)]
def adW (pg:Int) (ins:Bool) (W:List W2) (ts:LS):Nat→List W2
 |0=>W
 |k+1=>axn pg ins (adW pg ins W ts k) k (ts[k]?.getD .empty)
theorem ag5 {pg:Int} {W:List W2} {ts:LS}:∀k,k≤ts.length→adW pg false W ts k=W++(ts.take k).map fun t=>(t,pg)
 |0,_=>by simp[adW]
 |k+1,h=>by rw[adW,ag5 k (by omega),axn,if_neg (by simp),List.take_succ_eq_append_getElem (by omega),List.map_append,List.getElem?_eq_getElem (by omega),Option.getD_some,List.append_assoc];rfl
theorem ama {pg:Int} {W:List W2} {t:ByteArray} {ts:LS} {x:W2}:∀k,k≤ts.length→adW pg true (W++[x]) (t::ts) (k+1)=W++[(x.1++t,x.2)]++(ts.take k).map fun t=>(t,pg)
 |0,_=>by rw[adW,adW,axn,if_pos ⟨rfl,rfl⟩];simp
 |k+1,h=>by rw[adW,ama k (by omega),axn,if_neg (by omega),List.take_succ_eq_append_getElem (by omega),List.map_append,List.getElem?_cons_succ,List.getElem?_eq_getElem (by omega),Option.getD_some,List.append_assoc];rfl
theorem alo (ts:LS) (pg:Int):(ts.map fun t=>((t,pg):W2)).map (·.2)=List.replicate ts.length pg:=by rw[List.map_map];exact List.map_const' ..
def atB (pg:Int) (st:List W2×Bool) (s:ByteArray):List W2×Bool:=(adW pg st.2 st.1 (ado s) (ado s).length,azq s)
theorem axd {pg:Int} {W:List W2} {ins:Bool} {s:ByteArray} {S:List UInt8} (h:mW S (W.map fun x=>toL x.1) ins) (hs:jA (toL s)):
 mW (S++iw (toL s)) ((atB pg (W,ins) s).1.map fun x=>toL x.1) (azq s)∧W.length≤(atB pg (W,ins) s).1.length∧(atB pg (W,ins) s).1.map (·.2)=W.map (·.2)++List.replicate ((atB pg (W,ins) s).1.length-W.length) pg:=by
 obtain⟨ws,h1,h2,h3,h4⟩:=aBq hs;have hr:=h.line h1 h2 h3;unfold atB;dsimp only
 generalize ado s=ts at*;cases ins with
 |false=>
  rw[ag5 _ (Nat.le_refl _),List.take_length];refine⟨?_,by simp,by rw[List.map_append,alo];simp⟩;have e:goL (W.map fun x=>toL x.1) false ws=(W++ts.map fun t=>(t,pg)).map fun x=>toL x.1:=by rw[goL,if_neg (by decide),←h4,List.map_append,List.map_map];rfl
  rw[←e];exact hr
 |true=>
  have hne:W≠[]:=fun e=>by subst e;unfold mW at h;rw[if_pos rfl]at h;exact h.1 rfl
  obtain⟨V,x,rfl⟩:∃V x,W=V++[x]:=⟨W.dropLast,W.getLast hne,(List.dropLast_concat_getLast hne).symm⟩;obtain⟨t,ts,rfl⟩:∃t l,ts=t::l:=by
   cases ts with
   |nil=>exact absurd h4.symm h1
   |cons t l=>exact⟨t,l,rfl⟩
  rw[List.length_cons,ama _ (Nat.le_refl _),List.take_length];refine⟨?_,by simp,?_⟩
  ·have e:goL ((V++[x]).map fun x=>toL x.1) true ws=(V++[(x.1++t,x.2)]++ts.map fun t=>(t,pg)).map fun x=>toL x.1:=by rw[goL,if_pos rfl,←h4];simp[List.getLastD_eq_getLast?,toL,ByteArray.data_append]
   rw[←e];exact hr
  ·rw[List.map_append,alo,List.length_append,List.length_map,List.length_append,List.length_append,show V.length+[(x.1++t,x.2)].length+ts.length-(V.length+[x].length)=ts.length by simp only[List.length_singleton];omega]
   simp
def jG (pg:Int) (st:List W2×Bool) (r:LS):Nat→List W2×Bool
 |0=>st
 |j+1=>atB pg (jG pg st r j) (r[j]?.getD .empty)
def jI (V:List LS):Nat→List W2×Bool
 |0=>([],false)
 |i+1=>jG ((i:Int)+1) (jI V i) (V[i]?.getD []) (V[i]?.getD []).length
theorem uX {pg:Int} {W:List W2} {ins:Bool} {r:LS} {S:List UInt8} (h:mW S (W.map fun x=>toL x.1) ins) (hr:∀s∈r,jA (toL s)):∀j,j≤r.length→
 mW (S++dz ((r.take j).map toL)) ((jG pg (W,ins) r j).1.map fun x=>toL x.1) (jG pg (W,ins) r j).2∧W.length≤(jG pg (W,ins) r j).1.length∧(jG pg (W,ins) r j).1.map (·.2)=W.map (·.2)++List.replicate ((jG pg (W,ins) r j).1.length-W.length) pg
 |0,_=>by refine⟨?_,Nat.le_refl _,by simp[jG]⟩;rw[List.take_zero,List.map_nil,dz,List.append_nil];exact h
 |j+1,hj=>by
  obtain⟨h1,h2,h3⟩:=uX (pg:=pg) h hr j (by omega);have hs:=hr r[j] (List.getElem_mem (by omega));rw[jG,List.getElem?_eq_getElem (by omega),Option.getD_some,List.take_succ_eq_append_getElem (by omega),List.map_append,ji,←List.append_assoc];have e:dz ([r[j]].map toL)=iw (toL r[j]):=by show iw _++[]=_;rw[List.append_nil]
  rw[e];generalize jG pg (W,ins) r j=st at*;obtain⟨W',i'⟩:=st;dsimp only at h1 h2 h3;obtain⟨k1,k2,k3⟩:=axd (pg:=pg) h1 hs;refine⟨k1,by omega,?_⟩;rw[k3,h3,List.append_assoc,List.replicate_append_replicate];congr 2;omega
theorem nE {V:List LS} {i:Nat} (h:i<V.length):(V.take (i+1)).flatten=(V.take i).flatten++V[i]?.getD []:=by rw[List.take_succ_eq_append_getElem h,List.flatten_append,List.getElem?_eq_getElem h,Option.getD_some];simp
def ko (V:List LS) (i:Nat):Nat:=(rC ((V.take i).flatten)).length
def alq (V:List LS):Nat→List Int
 |0=>[]
 |i+1=>alq V i++List.replicate (ko V (i+1)-ko V i) ((i:Int)+1)
theorem ao1 {l:LS}:(rC l).map toL=bH (dz (l.map toL)) []:=by
 unfold rC;rw[List.map_map]
 conv=>rhs;rw[←List.map_id (bH (dz (l.map toL)) [])]
 exact List.map_congr_left fun s _=>rfl
theorem axg {W:List W2} {l:LS} (h:W.map (fun x=>toL x.1)=l.map toL):W.map (·.1)=l:=anq (by rw[List.map_map];exact h)
theorem sH {V:List LS} (hV:∀r∈V,∀s∈r,jA (toL s)):∀i,i≤V.length→
 mW (dz (((V.take i).flatten).map toL)) ((jI V i).1.map fun x=>toL x.1) (jI V i).2∧(jI V i).1.map (·.1)=rC ((V.take i).flatten)∧(jI V i).1.map (·.2)=alq V i
 |0,_=>by refine⟨?_,by simp[jI,rC,dz,bH],rfl⟩;unfold mW;rw[if_neg (show¬(jI V 0).2=true by simp[jI])];intro r;simp[dz,jI]
 |i+1,hi=>by
  obtain⟨h1,h2,h3⟩:=sH hV i (by omega);have hr:∀s∈V[i]?.getD [],jA (toL s):=by rw[List.getElem?_eq_getElem (by omega),Option.getD_some];exact hV _ (List.getElem_mem (by omega))
  obtain⟨k1,k2,k3⟩:=uX (pg:=(i:Int)+1) (W:=(jI V i).1) (ins:=(jI V i).2) (r:=V[i]?.getD []) h1 hr _ (Nat.le_refl _);rw[List.take_length]at k1;have k4:mW (dz (((V.take (i+1)).flatten).map toL)) ((jI V (i+1)).1.map fun x=>toL x.1) (jI V (i+1)).2:=by rw[nE (by omega),List.map_append,ji];exact k1
  have k5:(jI V (i+1)).1.map (·.1)=rC ((V.take (i+1)).flatten):=axg (by rw[ao1];exact k4.all.symm);refine⟨k4,k5,?_⟩;have l1:(jI V (i+1)).1.length=ko V (i+1):=by
   have:=congrArg List.length k5
   rwa[List.length_map]at this
  have l2:(jI V i).1.length=ko V i:=by
   have:=congrArg List.length h2
   rwa[List.length_map]at this
  have k6:(jI V (i+1)).1.map (·.2)=(jI V i).1.map (·.2)++List.replicate ((jI V (i+1)).1.length-(jI V i).1.length) ((i:Int)+1):=k3;rw[k6,h3,l1,l2];rfl
theorem cnt_mono {V:List LS} (hV:∀r∈V,∀s∈r,jA (toL s)) {i:Nat} (hi:i<V.length):ko V i≤ko V (i+1):=by
 obtain⟨h1,h2,h3⟩:=sH hV i (by omega);obtain⟨g1,g2,g3⟩:=sH hV (i+1) (by omega);have hr:∀s∈V[i]?.getD [],jA (toL s):=by rw[List.getElem?_eq_getElem (by omega),Option.getD_some];exact hV _ (List.getElem_mem (by omega))
 obtain⟨k1,k2,k3⟩:=uX (pg:=(i:Int)+1) (W:=(jI V i).1) (ins:=(jI V i).2) (r:=V[i]?.getD []) h1 hr _ (Nat.le_refl _);have l1:=congrArg List.length g2;have l2:=congrArg List.length h2;rw[List.length_map]at l1 l2;unfold ko;rw[←l1,←l2];exact k2
theorem aij {V:List LS} (hV:∀r∈V,∀s∈r,jA (toL s)) {i:Nat} (hi:i≤V.length):(alq V i).length=ko V i:=by obtain⟨h1,h2,h3⟩:=sH hV i hi;have l1:=congrArg List.length h2;have l2:=congrArg List.length h3;rw[List.length_map]at l1 l2;unfold ko;omega
theorem aCD {W:List W2} {a:LS} {b:List Int} (h1:W.map (·.1)=a) (h2:W.map (·.2)=b):W=a.zip b:=by
 subst h1;subst h2
 induction W with
 |nil=>rfl
 |cons x W ih=>simp only[List.map_cons,List.zip_cons_cons,←ih]
def idW (V:List LS):List W2:=(rC V.flatten).zip (alq V V.length)
theorem ash {V:List LS} (hV:∀r∈V,∀s∈r,jA (toL s)):(jI V V.length).1=idW V:=by obtain⟨-,h2,h3⟩:=sH hV V.length (Nat.le_refl _);rw[List.take_length]at h2;exact aCD h2 h3
def swI (V:List LS):Nat→List W2
 |0=>[]
 |k+1=>swI V k++((rC ((V.take (k+1)).flatten)).drop (ko V k)).map fun s=>(s,(k:Int)+1)
theorem ae0 {V:List LS}:∀k,(swI V k).map (·.2)=alq V k
 |0=>rfl
 |k+1=>by rw[swI,List.map_append,ae0 k,alq,List.map_map];congr 1;have:((rC ((V.take (k+1)).flatten)).drop (ko V k)).map ((fun x:W2=>x.2)∘fun s=>(s,(k:Int)+1))=List.replicate ((rC ((V.take (k+1)).flatten)).drop (ko V k)).length ((k:Int)+1):=List.map_const' ..;rw[this,List.length_drop];rfl
theorem anH {V:List LS} (hV:∀r∈V,∀s∈r,jA (toL s)) {k:Nat} (hk:k≤V.length):(swI V k).length=ko V k:=by have:=congrArg List.length (ae0 (V:=V) k);rw[List.length_map,aij hV hk]at this;exact this
theorem asq {p:List LS} {q:LS} {x y z:Int} (h:(blL p q x y z).length=0):blC p q x y z=[]∧(blB p q x y z=true→p=[]):=by
 unfold blL at h;unfold blC;split at h
 ·rename_i hB
  have hp:p.length=0:=by
   rcases Nat.eq_zero_or_pos p.length with h0|h0
   ·exact h0
   ·have hall:(p.all fun w=>mD w q x y)=true:=by unfold blB at hB;rw[Bool.and_eq_true]at hB;exact hB.2
    have:=als (q:=q) (x:=x) (y:=y) (p:=p) (k:=p.length) (fun j hj=>by rw[List.getElem?_eq_getElem hj,Option.getD_some];exact List.all_eq_true.1 hall _ (List.getElem_mem hj)) h0
    omega
  rw[if_pos hB,List.eq_nil_of_length_eq_zero hp];exact⟨rfl,fun _=>rfl⟩
 ·rename_i hB
  rw[if_neg hB];exact⟨rfl,fun h=>absurd h hB⟩
theorem aDt {p:List LS} {q:LS} {x y z:Int} (h:blB p q x y z=true) {k:Nat} (hk:k<p.length):mD (p[k]?.getD []) q x y=true:=by unfold blB at h;rw[Bool.and_eq_true]at h;rw[List.getElem?_eq_getElem hk,Option.getD_some];exact List.all_eq_true.1 h.2 _ (List.getElem_mem hk)
theorem aAn (c d:aS):(fun o=>[c,d][o]?)=lo [(0,c),(1,d)]:=by
 funext o
 match o with
 |0=>rfl
 |1=>rfl
 |o+2=>simp[lo,List.lookup]
def aoQ:Fun:=aeM ΨBl
theorem anK {p:List LS} {q:LS} {x y z:Int} (h:aaI p q) (h0:0<(blL p q x y z).length):aoQ [.agg [.lst false 1 (p.map fun p=> .lst false 1 (p.map fun s=> .val (.string s))),.lst false 1 (q.map fun s=> .val (.string s)),.val (.int .i64 x),.val (.int .i64 y),.val (.int .i64 z)]]=some (.tup [.lst true 1 ((blL p q x y z).map fun s=> .val (.string s)),.lst true 1 ((blC p q x y z).map fun n=> .val (.int .i64 n)),.val (.bool (blB p q x y z))]):=by refine qx (r:=.tup [.row 0 1 0 (blL p q x y z).length,.row 1 1 0 (blC p q x y z).length,.val (.bool (blB p q x y z))]) (cs0:=[(9,1,(blL p q x y z).map fun s=> .val (.string s)),(3,1,(blC p q x y z).map fun n=> .val (.int .i64 n))]) ((yX (A:=iy) (p,q,x,y,z)).trans ((if_pos h).trans (by dsimp only;rw[if_pos h0]))) ?_;generalize blL p q x y z=A;generalize blC p q x y z=B;rw[aAn];(exact sr)
theorem ar4 {p:List LS} {q:LS} {x y z:Int} (h:aaI p q) (h0:(blL p q x y z).length=0):aoQ [.agg [.lst false 1 (p.map fun p=> .lst false 1 (p.map fun s=> .val (.string s))),.lst false 1 (q.map fun s=> .val (.string s)),.val (.int .i64 x),.val (.int .i64 y),.val (.int .i64 z)]]=some (.tup [.val (.slice none 0 0),.val (.slice none 0 0),.val (.bool (blB p q x y z))]):=
 qx (r:=.tup [.val (.slice none 0 0),.val (.slice none 0 0),.val (.bool (blB p q x y z))]) (cs0:=[]) ((yX (A:=iy) (p,q,x,y,z)).trans ((if_pos h).trans (by dsimp only;rw[if_neg (by omega)]))) rfl
theorem ant:Sound Tryz.prog 25 aoQ:=axc.pure
theorem aku {p:List LS} {q:LS} {x y z:Int} (h:p.length≤6):(blL p q x y z).length≤360∧(blC p q x y z).length≤6:=by
 unfold blL blC;split
 ·have:=aaO p q x y p.length
  rw[aa7];omega
 ·simp
def ajc (ks:List Bool) (i:Nat):Bool:=ks[i]?.getD false
def aiR (ks:List Bool) (h p q:Nat):Prop:=p<q∧q≤ks.length∧q≤p+h∧¬(q<ks.length∧ajc ks (q-1)=true)
instance (ks:List Bool) (h p q:Nat):Decidable (aiR ks h p q):=by unfold aiR;infer_instance
def okQ (ks:List Bool) (h:Nat) (E:Nat→Int) (p q:Nat):Prop:=aiR ks h p q∧0≤E q
instance (ks:List Bool) (h:Nat) (E:Nat→Int) (p q:Nat):Decidable (okQ ks h E p q):=by unfold okQ;infer_instance
def lW (ks:List Bool) (h:Nat) (E:Nat→Int) (p q:Nat):Int:=(if q=ks.length then 0 else((h:Int)-((q:Int)-p))*((h:Int)-((q:Int)-p)))+E q
theorem agz {ks:List Bool} {h:Nat} {E:Nat→Int} {p q:Nat} (ho:okQ ks h E p q):0≤lW ks h E p q:=by obtain⟨⟨h1,h2,h3,h4⟩,h5⟩:=ho;unfold lW;have:0≤((h:Int)-((q:Int)-p))*((h:Int)-((q:Int)-p)):=Int.mul_nonneg (by omega) (by omega);split<;>omega
def afA (ks:List Bool) (h:Nat) (E:Nat→Int) (p q:Nat) (s:Int×Nat):Int×Nat:=if okQ ks h E p q∧(s.1<0∨lW ks h E p q<s.1)then(lW ks h E p q,q)else s
def ab1 (ks:List Bool) (h:Nat) (E:Nat→Int) (p q:Nat) (s:Int×Nat):Int×Nat:=if okQ ks h E p q∧(s.1<0∨lW ks h E p q≤s.1)then(lW ks h E p q,q)else s
def dnP (ks:List Bool) (h:Nat) (E:Nat→Int) (p:Nat):Nat→Int×Nat
 |0=>(-1,0)
 |m+1=>afA ks h E p (ks.length-m) (dnP ks h E p m)
def upP (ks:List Bool) (h:Nat) (E:Nat→Int) (p:Nat):Nat→Int×Nat
 |0=>(-1,0)
 |m+1=>ab1 ks h E p (p+m+1) (upP ks h E p m)
structure kX (ks:List Bool) (h:Nat) (E:Nat→Int) (p:Nat) (Q:Nat→Prop) (s:Int×Nat):Prop where
 no:s.1<0→s=(-1,0)∧∀q,Q q→¬okQ ks h E p q
 yes:0≤s.1→Q s.2∧okQ ks h E p s.2∧s.1=lW ks h E p s.2∧∀q,Q q→okQ ks h E p q→lW ks h E p s.2≤lW ks h E p q∧(lW ks h E p q=lW ks h E p s.2→q≤s.2)
section
variable {ks:List Bool} {h:Nat} {E E':Nat→Int} {p:Nat} {Q Q':Nat→Prop} {s s':Int×Nat}
theorem kX.uniq (h1:kX ks h E p Q s) (h2:kX ks h E p Q s'):s=s':=by
 by_cases c1:s.1<0
 ·obtain⟨e1,n1⟩:=h1.no c1
  by_cases c2:s'.1<0
  ·rw[e1,(h2.no c2).1]
  ·obtain⟨q1,q2,_⟩:=h2.yes (by omega)
   exact absurd q2 (n1 _ q1)
 ·obtain⟨q1,q2,q3,q4⟩:=h1.yes (by omega)
  by_cases c2:s'.1<0
  ·exact absurd q2 ((h2.no c2).2 _ q1)
  ·obtain⟨r1,r2,r3,r4⟩:=h2.yes (by omega)
   have a1:=q4 _ r1 r2;have a2:=r4 _ q1 q2;have e:lW ks h E p s'.2=lW ks h E p s.2:=by omega
   have b1:=a1.2 e;have b2:=a2.2 e.symm;have e2:s.2=s'.2:=by omega
   exact Prod.ext (by rw[q3,r3,e]) e2
theorem kX.aEh (hq:∀q,Q q↔Q' q) (h1:kX ks h E p Q s):kX ks h E p Q' s:=
 ⟨fun c=>⟨(h1.no c).1,fun q hh=>(h1.no c).2 q ((hq q).2 hh)⟩,fun c=>⟨(hq _).1 (h1.yes c).1,(h1.yes c).2.1,(h1.yes c).2.2.1,fun q hh=>(h1.yes c).2.2.2 q ((hq q).2 hh)⟩⟩
theorem kX.afA {q0:Nat} (h1:kX ks h E p Q s) (hlt:∀q,Q q→q0<q):kX ks h E p (fun q=>Q q∨q=q0) (afA ks h E p q0 s):=by
 unfold Proofs.YtmmafcjjlbgnkaaGreatDoor.afA;split
 ·rename_i hc
  obtain⟨hok,hc⟩:=hc;have hnn:=agz hok;refine⟨fun c=>?_,fun _=>⟨.inr rfl,hok,rfl,fun q hq hqo=>?_⟩⟩
  ·dsimp only at c;omega
  ·dsimp only
   rcases hq with hq|rfl
   ·by_cases c1:s.1<0
    ·exact absurd hqo ((h1.no c1).2 q hq)
    ·obtain⟨q1,q2,q3,q4⟩:=h1.yes (by omega)
     have:=(q4 q hq hqo).1;omega
   ·exact⟨Int.le_refl _,fun _=>Nat.le_refl _⟩
 ·rename_i hc
  refine⟨fun c=>⟨(h1.no c).1,fun q hq hqo=>?_⟩,fun c=>?_⟩
  ·rcases hq with hq|rfl
   ·exact(h1.no c).2 q hq hqo
   ·exact hc ⟨hqo,.inl c⟩
  ·obtain⟨q1,q2,q3,q4⟩:=h1.yes c
   refine⟨.inl q1,q2,q3,fun q hq hqo=>?_⟩;rcases hq with hq|rfl
   ·exact q4 q hq hqo
   ·have h5:¬lW ks h E p q<s.1:=fun e=>hc ⟨hqo,.inr e⟩
    have:=hlt _ q1;exact⟨by omega,fun _=>by omega⟩
theorem kX.ab1 {q0:Nat} (h1:kX ks h E p Q s) (hlt:∀q,Q q→q<q0):kX ks h E p (fun q=>Q q∨q=q0) (ab1 ks h E p q0 s):=by
 unfold Proofs.YtmmafcjjlbgnkaaGreatDoor.ab1;split
 ·rename_i hc
  obtain⟨hok,hc⟩:=hc;have hnn:=agz hok;refine⟨fun c=>?_,fun _=>⟨.inr rfl,hok,rfl,fun q hq hqo=>?_⟩⟩
  ·dsimp only at c;omega
  ·dsimp only
   rcases hq with hq|rfl
   ·by_cases c1:s.1<0
    ·exact absurd hqo ((h1.no c1).2 q hq)
    ·obtain⟨q1,q2,q3,q4⟩:=h1.yes (by omega)
     have:=(q4 q hq hqo).1;have:=hlt _ hq;exact⟨by omega,fun _=>by omega⟩
   ·exact⟨Int.le_refl _,fun _=>Nat.le_refl _⟩
 ·rename_i hc
  refine⟨fun c=>⟨(h1.no c).1,fun q hq hqo=>?_⟩,fun c=>?_⟩
  ·rcases hq with hq|rfl
   ·exact(h1.no c).2 q hq hqo
   ·exact hc ⟨hqo,.inl c⟩
  ·obtain⟨q1,q2,q3,q4⟩:=h1.yes c
   refine⟨.inl q1,q2,q3,fun q hq hqo=>?_⟩;rcases hq with hq|rfl
   ·exact q4 q hq hqo
   ·have h5:¬lW ks h E p q≤s.1:=fun e=>hc ⟨hqo,.inr e⟩
    exact⟨by omega,fun _=>by omega⟩
theorem kX.zero (hQ:∀q,¬Q q):kX ks h E p Q (-1,0):=⟨fun _=>⟨rfl,fun q hq=>absurd hq (hQ q)⟩,fun c=>by dsimp only at c;omega⟩
theorem vD:∀m,m≤ks.length→kX ks h E p (fun q=>ks.length-m<q∧q≤ks.length) (dnP ks h E p m)
 |0,_=>kX.zero fun q hq=>by omega
 |m+1,hm=>by refine((vD m (by omega)).afA (q0:=ks.length-m) fun q hq=>by omega).aEh fun q=>?_;omega
theorem abM:∀m,kX ks h E p (fun q=>p<q∧q≤p+m) (upP ks h E p m)
 |0=>kX.zero fun q hq=>by omega
 |m+1=>by refine((abM m).ab1 (q0:=p+m+1) fun q hq=>by omega).aEh fun q=>?_;omega
def bq (ks:List Bool) (h:Nat) (E:Nat→Int) (p:Nat):Int×Nat:=dnP ks h E p (ks.length-p)
theorem aBs (hp:p≤ks.length):upP ks h E p (ks.length-p)=bq ks h E p:=by refine(abM (ks.length-p)).uniq (((vD (ks.length-p) (by omega))).aEh fun q=>?_);omega
theorem yj (hp:p≤ks.length):kX ks h E p (fun q=>p<q∧q≤ks.length) (bq ks h E p):=
 (vD (ks.length-p) (by omega)).aEh fun q=>by omega
theorem anF:∀d m,h≤m→upP ks h E p (m+d)=upP ks h E p m
 |0,m,_=>rfl
 |d+1,m,hm=>by show ab1 ks h E p (p+(m+d)+1) (upP ks h E p (m+d))=_;rw[anF d m hm];unfold Proofs.YtmmafcjjlbgnkaaGreatDoor.ab1;rw[if_neg];rintro⟨⟨⟨_,_,h3,_⟩,_⟩,_⟩;omega
theorem azp {m:Nat} (hm:h≤m) (hmn:m≤ks.length-p) (hp:p≤ks.length):upP ks h E p m=bq ks h E p:=by rw[←aBs hp,←anF (ks.length-p-m) m hm];congr 1;omega
theorem aqo (hE:∀q,p<q→q≤ks.length→E q=E' q) (hp:p≤ks.length):bq ks h E p=bq ks h E' p:=by
 have ok:∀q,p<q→q≤ks.length→(okQ ks h E p q↔okQ ks h E' p q)∧lW ks h E p q=lW ks h E' p q:=fun q h1 h2=>by unfold okQ lW;rw[hE q h1 h2];exact⟨Iff.rfl,rfl⟩
 have hb:=yj (ks:=ks) (h:=h) (E:=E) hp;refine kX.uniq (Q:=fun q=>p<q∧q≤ks.length) ⟨fun c=>⟨(hb.no c).1,fun q hq hqo=>(hb.no c).2 q hq ((ok q hq.1 hq.2).1.2 hqo)⟩,fun c=>?_⟩ (yj hp);obtain⟨q1,q2,q3,q4⟩:=hb.yes c;refine⟨q1,(ok _ q1.1 q1.2).1.1 q2,by rw[←(ok _ q1.1 q1.2).2];exact q3,fun q hq hqo=>?_⟩;rw[←(ok _ q1.1 q1.2).2,←(ok _ hq.1 hq.2).2];exact q4 q hq ((ok q hq.1 hq.2).1.2 hqo)
end
def tbP (ks:List Bool) (h:Nat):Nat→Nat→Int×Nat
 |0=>fun _=>(0,0)
 |k+1=>fun x=>if x=ks.length-(k+1)then bq ks h (fun q=>(tbP ks h k q).1) (ks.length-(k+1))else tbP ks h k x
section
variable {ks:List Bool} {h:Nat}
theorem aea:∀{k x:Nat},k≤ks.length→x+k<ks.length→tbP ks h k x=(0,0)
 |0,x,_,_=>rfl
 |k+1,x,hk,hx=>by show(if x=ks.length-(k+1)then _ else tbP ks h k x)=_;rw[if_neg (by omega)];exact aea (by omega) (by omega)
theorem aa8 {x:Nat}:∀{d k:Nat},k+d≤ks.length→ks.length≤x+k→tbP ks h (k+d) x=tbP ks h k x
 |0,k,_,_=>rfl
 |d+1,k,hk,hx=>by show(if x=ks.length-(k+d+1)then _ else tbP ks h (k+d) x)=_;rw[if_neg (by omega)];exact aa8 (by omega) hx
def dN (ks:List Bool) (h p:Nat):Int:=(tbP ks h ks.length p).1
def lC (ks:List Bool) (h p:Nat):Nat:=(tbP ks h ks.length p).2
theorem aeR {p:Nat} (hp:p<ks.length):tbP ks h ks.length p=bq ks h (dN ks h) p:=by
 have e1:tbP ks h ks.length p=tbP ks h (ks.length-p) p:=by
  have:=aa8 (ks:=ks) (h:=h) (x:=p) (d:=p) (k:=ks.length-p) (by omega) (by omega)
  rwa[show ks.length-p+p=ks.length by omega]at this
 have e2:tbP ks h (ks.length-p) p=bq ks h (fun q=>(tbP ks h (ks.length-p-1) q).1) p:=by obtain⟨k,hk⟩:∃k,ks.length-p=k+1:=⟨ks.length-p-1,by omega⟩;rw[hk,Nat.add_sub_cancel];show(if p=ks.length-(k+1)then bq ks h _ (ks.length-(k+1))else _)=_;rw[if_pos (by omega),show ks.length-(k+1)=p by omega]
 rw[e1,e2];refine aqo (fun q h1 h2=>?_) (by omega);unfold dN;have:=aa8 (ks:=ks) (h:=h) (x:=q) (d:=p+1) (k:=ks.length-p-1) (by omega) (by omega);rw[show ks.length-p-1+(p+1)=ks.length by omega]at this;rw[this]
theorem aao {p:Nat} (hp:p<ks.length) (h0:0≤dN ks h p):aiR ks h p (lC ks h p)∧0≤dN ks h (lC ks h p):=by have hb:=yj (ks:=ks) (h:=h) (E:=dN ks h) (p:=p) (by omega);rw[←aeR hp]at hb;exact(hb.yes h0).2.1
def oJ (ks:List Bool) (h:Nat):Nat→Nat→List Nat
 |0,_=>[]
 |f+1,p=>if p<ks.length then lC ks h p::oJ ks h f (lC ks h p)else []
theorem ah0 {f:Nat}:oJ ks h f ks.length=[]:=by
 cases f with
 |zero=>rfl
 |succ f=>show(if ks.length<ks.length then _ else _)=_;rw[if_neg (by omega)]
def aAY (ks:List Bool) (h:Nat):List Nat:=oJ ks h ks.length 0
def ChP (ks:List Bool) (h:Nat):Nat→List Nat→Prop
 |p,[]=>p=ks.length
 |p,q::r=>aiR ks h p q∧ChP ks h q r
theorem alv:∀{f p:Nat},ks.length≤p+f→p≤ks.length→0≤dN ks h p→ChP ks h p (oJ ks h f p)
 |0,p,h1,h2,_=>by show p=ks.length;omega
 |f+1,p,h1,h2,h3=>by
  show ChP ks h p (if p<ks.length then _ else _);split
  ·rename_i hp
   obtain⟨k1,k2⟩:=aao hp h3;exact⟨k1,alv (by have:=k1.1;omega) k1.2.1 k2⟩
  ·show p=ks.length
   omega
theorem avG (h0:0≤dN ks h 0):ChP ks h 0 (aAY ks h):=alv (by omega) (by omega) h0
theorem xg:∀{p:Nat} {l:List Nat},ChP ks h p l→l.length+p≤ks.length
 |p,[],hc=>by have:p=ks.length:=hc;simp;omega
 |p,q::r,hc=>by have:=xg hc.2;have:=hc.1.1;simp only[List.length_cons];omega
def lF {α:Type} (l:List α):Nat→List Nat→List (List α)
 |_,[]=>[]
 |p,q::r=>(l.drop p).take (q-p)::lF l q r
theorem pJ {α:Type} {l:List α}:∀{p:Nat} {r:List Nat},(lF l p r).length=r.length
 |_,[]=>rfl
 |p,q::r=>by show(lF l q r).length+1=_;rw[pJ];rfl
theorem ahJ {α:Type} {l:List α} (hl:l.length=ks.length):∀{p:Nat} {r:List Nat},ChP ks h p r→(lF l p r).flatten=l.drop p
 |p,[],hc=>by have:p=ks.length:=hc;rw[this,←hl,List.drop_length];rfl
 |p,q::r,hc=>by show((l.drop p).take (q-p)::lF l q r).flatten=_;rw[List.flatten_cons,ahJ hl hc.2];have h1:=hc.1.1;rw[show l.drop q=(l.drop p).drop (q-p) by rw[List.drop_drop];congr 1;omega,List.take_append_drop]
theorem ahU {α:Type} {l:List α}:∀{p:Nat} {r:List Nat} {q:Nat},lF l p (r++[q])=lF l p r++[(l.drop ((r.getLast?).getD p)).take (q-(r.getLast?).getD p)]
 |p,[],q=>rfl
 |p,x::r,q=>by
  show(l.drop p).take (x-p)::lF l x (r++[q])=_;rw[ahU];have:((x::r).getLast?).getD p=(r.getLast?).getD x:=by
   cases r with
   |nil=>rfl
   |cons y r=>simp[List.getLast?_cons]
  rw[this];rfl
end
def aav (n:Nat) (f:Nat→Int):List PV:=(List.range (n+1)).map fun x=>PV.val (.int .i64 (f x))
def ovr {α:Type} (f:Nat→α) (p:Nat) (v:α):Nat→α:=fun x=>if x=p then v else f x
theorem uZ {n:Nat} {f:Nat→Int}:(aav n f).length=n+1:=by simp[aav]
theorem ar3 {n i:Nat} {f:Nat→Int} (h:i≤n):(aav n f)[i]?=some (.val (.int .i64 (f i))):=by unfold aav;rw[List.getElem?_map,List.getElem?_range (by omega)];rfl
theorem asM {n i:Nat} {f:Nat→Int} {v:Int}:(aav n f).set i (.val (.int .i64 v))=aav n (ovr f i v):=by
 apply List.ext_getElem?;intro j;rw[List.getElem?_set,uZ];by_cases hj:j<n+1
 ·unfold aav ovr
  by_cases h:i=j
  ·subst h
   rw[if_pos rfl,if_pos hj,List.getElem?_map,List.getElem?_range hj,Option.map_some,if_pos rfl]
  ·rw[if_neg h,List.getElem?_map,List.getElem?_map,List.getElem?_range hj,Option.map_some,Option.map_some,if_neg (fun e=>h e.symm)]
 ·rw[List.getElem?_eq_none (by rw[uZ];omega),List.getElem?_eq_none (by rw[uZ];omega)]
  split<;>(try split)<;>first|rfl|omega
theorem abx {α:Type} {f:Nat→α} {p:Nat} {v v':α}:ovr (ovr f p v) p v'=ovr f p v':=by funext x;unfold ovr;split<;>rfl
theorem atW {α:Type} {f:Nat→α} {p:Nat} {v:α}:ovr f p v p=v:=by simp[ovr]
theorem atS {α:Type} {f:Nat→α} {p x:Nat} {v:α} (h:¬x=p):ovr f p v x=f x:=by simp[ovr,h]
theorem auD {α:Type} {f:Nat→α} {p:Nat}:ovr f p (f p)=f:=by
 funext x;unfold ovr;split
 ·rename_i e;rw[e]
 ·rfl
theorem awr {n:Nat}:List.replicate (n+1) (PV.val (.int .i64 0))=aav n (fun _=>0):=by unfold aav;symm;rw[List.eq_replicate_iff];exact⟨by rw[List.length_map,List.length_range],fun b hb=>by obtain⟨x,-,rfl⟩:=List.mem_map.1 hb;rfl⟩
attribute[push_cast]
 uZ ar3 asM awr
def kp (n j:Nat):Bool:=(decide (j=0)&&decide (2≤n))||(decide (j+2=n)&&decide (3≤n))
theorem aDX {n j:Nat} (h:(j=0∧2≤n)∨(j+2=n∧3≤n)):kp n j=true:=by unfold kp;simpa using h
theorem aGc {n j:Nat} (h:¬((j=0∧2≤n)∨(j+2=n∧3≤n))):kp n j=false:=by
 cases e:kp n j with
 |false=>rfl
 |true=>unfold kp at e;exact absurd (by simpa using e) h
def kpN (n m:Nat):List Bool:=(List.range m).map (kp n)
def dQ (c:List Nat):List Bool:=(c.map fun n=>kpN n n).flatten
theorem aaZ (n m:Nat):kpN n (m+1)=kpN n m++[kp n m]:=by simp[kpN,List.range_succ]
theorem jN (n:Nat):kpN n 0=[]:=rfl
theorem ni (n m:Nat):(kpN n m).length=m:=by simp[kpN]
theorem qb (c:List Nat):(dQ c).length=c.sum:=by unfold dQ;rw[List.length_flatten,List.map_map];congr 1;rw[List.map_congr_left (g:=id) (fun n _=>by simp[ni]),List.map_id]
theorem sj {c:List Nat} {k:Nat} (h:k<c.length):dQ (c.take (k+1))=dQ (c.take k)++kpN (c[k]?.getD 0) (c[k]?.getD 0):=by unfold dQ;rw[List.take_succ_eq_append_getElem h,List.map_append,List.flatten_append,List.getElem?_eq_getElem h,Option.getD_some];simp
theorem af0 {c:List Nat} {k:Nat} (h:k<c.length):(c.take (k+1)).sum=(c.take k).sum+c[k]?.getD 0:=by rw[List.take_succ_eq_append_getElem h,List.sum_append,List.getElem?_eq_getElem h,Option.getD_some];simp
theorem wW (c:List Nat) (k:Nat):(c.take k).sum≤c.sum:=by
 conv=>rhs;rw[←List.take_append_drop k c,List.sum_append]
 omega
theorem af8 {c:List Nat} {k i:Nat} (h:k<c.length) (hi:i<c[k]?.getD 0):ajc (dQ c) ((c.take k).sum+i)=kp (c[k]?.getD 0) i:=by
 have e:dQ c=dQ (c.take (k+1))++dQ (c.drop (k+1)):=by unfold dQ;rw[←List.flatten_append,←List.map_append,List.take_append_drop]
 unfold ajc;rw[e,sj h,List.append_assoc,List.getElem?_append_right (by rw[qb];omega),qb,Nat.add_sub_cancel_left,List.getElem?_append_left (by rw[ni];exact hi)];unfold kpN;rw[List.getElem?_map,List.getElem?_range hi];rfl
theorem aqu {c:List Nat} {h p q:Nat} (hm:aiR (dQ c) h p q) (hq:q<(dQ c).length) {k:Nat} (hk:k<c.length) (h2:1<c[k]?.getD 0):¬q=(c.take k).sum+1∧¬q+1=(c.take k).sum+c[k]?.getD 0:=by
 have hno:=hm.2.2.2;constructor
 ·rintro rfl
  refine hno ⟨hq,?_⟩;have:=af8 hk (i:=0) (by omega);rw[Nat.add_sub_cancel];rw[Nat.add_zero]at this;rw[this];exact aDX (.inl ⟨rfl,by omega⟩)
 ·intro e
  refine hno ⟨hq,?_⟩;have h3:=af8 hk (i:=c[k]?.getD 0-2) (by omega);rw[show q-1=(c.take k).sum+(c[k]?.getD 0-2) by omega,h3];refine aDX ?_;omega
def ab9 (ks:List Bool) (h:Nat):Bool:=decide (0≤dN ks h 0)
def ku (ks:List Bool) (h:Nat):List Nat:=if ab9 ks h=true then aAY ks h else []
theorem abQ {ks:List Bool} {h:Nat}:ab9 ks h=true↔0≤dN ks h 0:=by simp[ab9]
theorem zY {ks:List Bool} {h:Nat} (hb:ab9 ks h=true):ChP ks h 0 (ku ks h):=by unfold ku;rw[if_pos hb];exact avG (abQ.1 hb)
theorem aoA {α:Type} {ks:List Bool} {h:Nat} {l:List α} (hl:l.length=ks.length):∀{p:Nat} {r:List Nat},ChP ks h p r→∀x∈lF l p r,1≤x.length∧x.length≤h
 |p,[],_,x,hx=>by cases hx
 |p,q::r,hc,x,hx=>by
  rcases List.mem_cons.1 hx with rfl|hx
  ·obtain⟨h1,h2,h3,_⟩:=hc.1
   rw[List.length_take,List.length_drop];omega
  ·exact aoA hl hc.2 x hx
theorem amS {α:Type} {ks:List Bool} {h:Nat} {l:List α} (hl:l.length=ks.length):∀{p:Nat} {r:List Nat},ChP ks h p r→∀k,k<r.length→p+(((lF l p r).take (k+1)).flatten).length=r[k]?.getD 0
 |p,[],_,k,hk=>by simp at hk
 |p,q::r,hc,k,hk=>by
  obtain⟨h1,h2,h3,_⟩:=hc.1;show p+((((l.drop p).take (q-p)::lF l q r).take (k+1)).flatten).length=_;rw[List.take_succ_cons,List.flatten_cons,List.length_append,List.length_take,List.length_drop];cases k with
  |zero=>simp;omega
  |succ k=>have:=amS hl hc.2 k (by simpa using hk);rw[List.getElem?_cons_succ,←this];omega
theorem ath:∀{ks:List Bool} {h p:Nat} {r:List Nat},ChP ks h p r→∀k,k<r.length→∃p',aiR ks h p' (r[k]?.getD 0)
 |ks,h,p,[],_,k,hk=>by simp at hk
 |ks,h,p,q::r,hc,0,_=>⟨p,hc.1⟩
 |ks,h,p,q::r,hc,k+1,hk=>by have:=ath hc.2 k (by simpa using hk);simpa using this
theorem an7:∀{ks:List Bool} {h p:Nat} {r:List Nat},ChP ks h p r→∀k,k+1<r.length→r[k]?.getD 0<ks.length
 |ks,h,p,[],_,k,hk=>by simp at hk
 |ks,h,p,[q],_,k,hk=>by simp at hk
 |ks,h,p,q::q2::r,hc,0,_=>by have h1:=hc.2.1.1;have h2:=hc.2.1.2.1;show q<_;omega
 |ks,h,p,q::q2::r,hc,k+1,hk=>by have:=an7 hc.2 k (by simpa using hk);simpa using this
end
end Go.Proofs.YtmmafcjjlbgnkaaGreatDoor
