/- What the proof rests on, part 17: contracts of functions. No condition beyond what each states. -/
import Derived.Test.YtmmafcjjlbgnkaaGreatDoorZBi16
namespace Go.Proofs.YtmmafcjjlbgnkaaGreatDoor
open Go.RowKit
open Nat renaming reduceEqDiff→Rq,reduceBEq→Rb,reduceAdd→Ra,reduceSub→Rs
open Int renaming reduceToNat→Rt
set_option linter.all false
set_option maxHeartbeats 32000000
noncomputable section
def aiQ (w:List UInt8):Prop:=w≠[]∧∀b∈w,¬b=32∧¬b=45
def spW:List (List UInt8)→List UInt8
 |[]=>[]
 |[w]=>w
 |w::v::l=>w++32::spW (v::l)
theorem oI {w:List UInt8} {l:List (List UInt8)} (h:l≠[]):spW (w::l)=w++32::spW l:=by
 cases l with
 |nil=>exact absurd rfl h
 |cons v l=>rfl
theorem rT:∀{ws:List (List UInt8)} {w:List UInt8},ws≠[]→spW (ws++[w])=spW ws++32::w
 |[],w,h=>absurd rfl h
 |[v],w,_=>rfl
 |v::u::l,w,_=>by show spW (v::((u::l)++[w]))=_;rw[oI (by simp),rT (ws:=u::l) (by simp),oI (w:=v) (l:=u::l) (by simp),List.append_assoc];rfl
theorem aho {ws:List (List UInt8)} {v w:List UInt8}:spW (ws++[v++w])=spW (ws++[v])++w:=by
 by_cases h:ws=[]
 ·subst h;rfl
 ·rw[rT h,rT h];simp
def jX (s:List UInt8):Prop:=∃ws:List (List UInt8),ws≠[]∧(∀w∈ws,aiQ w)∧(s=spW ws∨s=spW ws++[45])
def tgI (x:It):Prop:=x.kd=2∧0<x.wd
theorem aou {P:List It} (hg:lS P) {m:Nat} (hm:m+1<(P++iy).length) (ht:tgI (gI (P++iy) m)):(gI (P++iy) (m+1)).kd=1:=by
 have hlen:(P++iy).length=P.length+3:=by simp
 rcases Nat.lt_or_ge m P.length with h|h
 ·rw[wY h]at ht
  rcases hg.at_ h with h1|⟨_,h2,h3⟩
  ·have:=ht.1
   omega
  ·rw[wY h2]
   exact h3
 ·exfalso
  obtain⟨i,rfl⟩:∃i,m=P.length+i:=⟨m-P.length,by omega⟩;rw[qU]at ht;have hi:i=0∨i=1:=by omega
  rcases hi with rfl|rfl
  ·exact absurd ht.1 (by decide)
  ·exact absurd ht.2 (by decide)
theorem adG (s t:ByteArray):(s++t).data.toList=s.data.toList++t.data.toList:=by rw[ByteArray.data_append,Array.toList_append]
theorem atI {P:List It} {tx:LS} (hg:lS P) (htx:∀k,k<nb (P++iy)→aiQ (tx[k]?.getD .empty).data.toList) {a:Nat} (hk:(gI (P++iy) a).kd=1):∀j,a+(j+1)≤(P++iy).length→
 ∃ws:List (List UInt8),ws≠[]∧(∀w∈ws,aiQ w)∧(tgI (gI (P++iy) (a+j))→(lnT (P++iy) tx a (j+1)).data.toList=spW ws++[32])∧(¬tgI (gI (P++iy) (a+j))→(lnT (P++iy) tx a (j+1)).data.toList=spW ws)
 |0,h=>by
  have hb:=htx _ (aaf (l:=P++iy) (n:=a) (by omega) hk);refine⟨[(tx[nbX (P++iy) a]?.getD .empty).data.toList],by simp,fun w hw=>by rw[List.mem_singleton]at hw;rw[hw];exact hb,fun ht=>?_,fun _=>?_⟩
  ·have:=ht.1
   rw[Nat.add_zero]at this;omega
  ·rw[lnT,Nat.add_zero,acr hk,adG,lnT]
   simp[spW]
 |j+1,h=>by
  obtain⟨ws,h1,h2,h3,h4⟩:=atI hg htx hk j (by omega);have hne:¬lnT (P++iy) tx a (j+1)=⟨#[]⟩:=fun e=>by
   have hw:spW ws≠[]:=by
    cases ws with
    |nil=>exact absurd rfl h1
    |cons w l=>
     have:=(h2 w (by simp)).1;cases l with
     |nil=>exact this
     |cons v l=>rw[oI (by simp)];simp
   by_cases ht:tgI (gI (P++iy) (a+j))
   ·have:=h3 ht
    rw[e]at this;simp at this
   ·have:=h4 ht
    rw[e]at this;exact hw this.symm
  rw[lnT];by_cases k1:(gI (P++iy) (a+(j+1))).kd=1
  ·have hb:=htx _ (aaf (l:=P++iy) (n:=a+(j+1)) (by omega) k1)
   have hnt:¬tgI (gI (P++iy) (a+(j+1))):=fun q=>by have:=q.1;omega
   rw[acr k1];by_cases ht:tgI (gI (P++iy) (a+j))
   ·refine⟨ws++[(tx[nbX (P++iy) (a+(j+1))]?.getD .empty).data.toList],by simp,fun w hw=>?_,fun q=>absurd q hnt,fun _=>?_⟩
    ·rcases List.mem_append.1 hw with hw|hw
     ·exact h2 w hw
     ·rw[List.mem_singleton]at hw;rw[hw];exact hb
    ·rw[adG,h3 ht,rT h1]
     simp
   ·obtain⟨us,v,rfl⟩:∃us v,ws=us++[v]:=⟨ws.dropLast,ws.getLast h1,(List.dropLast_concat_getLast h1).symm⟩
    refine⟨us++[v++(tx[nbX (P++iy) (a+(j+1))]?.getD .empty).data.toList],by simp,fun w hw=>?_,fun q=>absurd q hnt,fun _=>?_⟩
    ·rcases List.mem_append.1 hw with hw|hw
     ·exact h2 w (List.mem_append_left _ hw)
     ·rw[List.mem_singleton]at hw
      subst hw;have hv:=h2 v (by simp);refine⟨by simp[hv.1],fun b hb2=>?_⟩;rcases List.mem_append.1 hb2 with q|q
      ·exact hv.2 b q
      ·exact hb.2 b q
    ·rw[adG,h4 ht,aho]
  ·have hpt:¬tgI (gI (P++iy) (a+j)):=fun q=>k1 (aou hg (m:=a+j) (by omega) q)
   by_cases k2:tgI (gI (P++iy) (a+(j+1)))
   ·refine⟨ws,h1,h2,fun _=>?_,fun q=>absurd k2 q⟩
    rw[agM ⟨k2.1,k2.2,hne⟩,adG,h4 hpt]
   ·refine⟨ws,h1,h2,fun q=>absurd q k2,fun _=>?_⟩
    rw[ajI k1 (fun q=>k2 ⟨q.1,q.2.1⟩),h4 hpt]
theorem aDf {P:List It} {tx:LS} (hg:lS P) (htx:∀k,k<nb (P++iy)→aiQ (tx[k]?.getD .empty).data.toList) {a en:Nat} (hk:(gI (P++iy) a).kd=1) (hen:a≤en) (hlt:en<(P++iy).length) (hnb:¬(gI (P++iy) en).kd=1):jX (lnR (P++iy) tx a en).data.toList:=by
 have hae:a<en:=by
  rcases Nat.lt_or_ge a en with h|h
  ·exact h
  ·obtain rfl:a=en:=by omega
   exact absurd hk hnb
 obtain⟨ws,h1,h2,-,h4⟩:=atI hg htx hk (en-a-1) (by omega);rw[show en-a-1+1=en-a by omega,show a+(en-a-1)=en-1 by omega]at h4;have hnt:¬tgI (gI (P++iy) (en-1)):=fun q=>hnb (by
  have:=aou hg (m:=en-1) (by omega) q
  rwa[show en-1+1=en by omega]at this)
 have hs:=h4 hnt;refine⟨ws,h1,h2,?_⟩;unfold lnR;split
 ·right
  rw[adG,hs]
 ·left
  exact hs
theorem atT {P:List It} {tx:LS} {br:List Int} (hg:lS P) (hf:aEg P) (hb:ath (P++iy) br) (htx:∀k,k<nb (P++iy)→aiQ (tx[k]?.getD .empty).data.toList) (h1:∀k,k<nb (P++iy)→1≤(tx[k]?.getD .empty).size) (hno:∀k:Nat,aqM (tx[k]?.getD .empty)):∀k,k≤br.length→∀s∈mP (P++iy) tx br k,jX s.data.toList
 |0,_,s,hs=>by simp[mP]at hs
 |k+1,hk,s,hs=>by
  obtain⟨hk1,-⟩:=(abz hg hf hb h1 hno k (by omega)).1 (by omega);obtain⟨b1,b2,b3,b4⟩:=hb.at_ (k:=k) (by omega);have hlk:mP (P++iy) tx br (k+1)=mP (P++iy) tx br k++[lnR (P++iy) tx (frB br k) (br[k]?.getD 0).toNat]:=rfl;rw[hlk]at hs;rcases List.mem_append.1 hs with hs|hs
  ·exact atT hg hf hb htx h1 hno k (by omega) s hs
  ·rw[List.mem_singleton]at hs
   subst hs;exact aDf hg htx hk1 b2 b3 b4
theorem au6 {s:ByteArray} (h:dn s=true):aiQ s.data.toList:=by
 obtain⟨h1,h2⟩:=nu h;refine⟨h1,fun b hb=>⟨h2 b hb,fun e=>?_⟩⟩;subst e;obtain⟨j,hj,e⟩:=List.getElem_of_mem hb;have hj2:j<s.size:=by rwa[show s.data.toList.length=s.size from Array.length_toList]at hj
 have:=(aH h).1 j hj2;have e2:at8 s j=45:=by have e3:s[j]?=some s[j]:=getElem?_pos s j hj2;have e4:s[j]=s.data.toList[j]:=rfl;unfold at8;rw[e3,Option.getD_some,e4,e];rfl
 omega
theorem aDM {ws pats:LS} {wd most:Int}:∀s∈mR ws pats wd most,jX s.data.toList:=fun s hs=>by
 unfold mR at hs;split at hs
 ·rename_i h
  unfold mQ at h;rw[Bool.and_eq_true]at h;obtain⟨h1,h2⟩:=h;have hV:piV ws pats=piR ws pats:=if_pos h1;rw[hV]at h2;obtain⟨p1,p2,p3,-⟩:=qO.1 h1;obtain⟨g1,g2⟩:=abv p1 p2 ws.length (Nat.le_refl _);obtain⟨hB,-,-,hm,-⟩:=fF.1 h2;have hb:=acX (wd:=wd) hB hm.2;have hnb:=asK ws pats;exact atT (tx:=txR ws pats) g1 (g2 p3) hb (fun k hk=>au6 (ahJ (by rw[←hnb];exact hk))) (fun k hk=>aot (by rw[←hnb];exact hk)) (aks ws pats) _ (Nat.le_refl _) s hs
 ·simp at hs
theorem am0 {p:List LS} {q:LS} {x y:Int}:∀k,∀s∈blK p q x y k,jX s.data.toList
 |0,s,h=>by simp[blK]at h
 |k+1,s,h=>by
  rw[blK]at h;rcases List.mem_append.1 h with h|h
  ·exact am0 k s h
  ·exact aDM s h
theorem xI:∀{ws:List (List UInt8)} {acc r:List UInt8},ws≠[]→(∀w∈ws,aiQ w)→bN (spW ws++32::r) acc=(acc++ws.headD [])::ws.tail++bN r []
 |[],acc,r,h,_=>absurd rfl h
 |[w],acc,r,_,h=>by have hw:=h w (by simp);rw[spW,oH w _ acc (fun b hb=>(hw.2 b hb).1),bN,if_pos rfl,if_neg (by simp[hw.1])];rfl
 |w::v::l,acc,r,_,h=>by have hw:=h w (by simp);have ih:=xI (ws:=v::l) (acc:=[]) (r:=r) (by simp) (fun x hx=>h x (by simp[hx]));rw[oI (by simp),List.append_assoc,oH w _ acc (fun b hb=>(hw.2 b hb).1),List.cons_append,bN,if_pos rfl,if_neg (by simp[hw.1]),ih];rfl
theorem abE:∀{ws:List (List UInt8)} {acc r:List UInt8},ws≠[]→(∀w∈ws,aiQ w)→bN (spW ws++r) acc=((acc++ws.headD [])::ws.tail).dropLast++bN r (((acc++ws.headD [])::ws.tail).getLastD [])
 |[],acc,r,h,_=>absurd rfl h
 |[w],acc,r,_,h=>by have hw:=h w (by simp);rw[spW,oH w _ acc (fun b hb=>(hw.2 b hb).1)];rfl
 |w::v::l,acc,r,_,h=>by have hw:=h w (by simp);have ih:=abE (ws:=v::l) (acc:=[]) (r:=r) (by simp) (fun x hx=>h x (by simp[hx]));rw[oI (by simp),List.append_assoc,oH w _ acc (fun b hb=>(hw.2 b hb).1),List.cons_append,bN,if_pos rfl,if_neg (by simp[hw.1]),ih];simp[List.dropLast,List.getLastD]
def goL (T:List (List UInt8)) (ins:Bool) (ws:List (List UInt8)):List (List UInt8):=if ins=true then T.dropLast++(T.getLastD []++ws.headD [])::ws.tail else T++ws
def oq (S:List UInt8) (T:List (List UInt8)) (ins:Bool):Prop:=
 if ins=true then T≠[]∧T.getLastD []≠[]∧∀r,bN (S++r) []=T.dropLast++bN r (T.getLastD [])else∀r,bN (S++r) []=T++bN r []
theorem oq.all {S:List UInt8} {T:List (List UInt8)} {ins:Bool} (h:oq S T ins):bN S []=T:=by
 unfold oq at h;split at h
 ·obtain⟨h1,h2,h3⟩:=h
  have:=h3 [];rw[List.append_nil,bN,if_neg h2]at this;rw[this,List.getLastD_eq_getLast?,List.getLast?_eq_some_getLast h1,Option.getD_some,List.dropLast_concat_getLast]
 ·have:=h []
  rwa[List.append_nil,bN,if_pos rfl,List.append_nil]at this
theorem ao2 {ws:List (List UInt8)} (h:ws≠[]) (hw:∀w∈ws,aiQ w):∃t z,spW ws=t++[z]∧¬z=45∧¬z=32:=by
 obtain⟨us,v,rfl⟩:∃us v,ws=us++[v]:=⟨ws.dropLast,ws.getLast h,(List.dropLast_concat_getLast h).symm⟩;have hv:=hw v (by simp);obtain⟨v',z,rfl⟩:∃v' z,v=v'++[z]:=⟨v.dropLast,v.getLast hv.1,(List.dropLast_concat_getLast hv.1).symm⟩;have hz:=hv.2 z (by simp);by_cases hu:us=[]
 ·subst hu
  exact⟨v',z,rfl,hz.2,hz.1⟩
 ·refine⟨spW us++32::v',z,?_,hz.2,hz.1⟩
  rw[rT hu];simp
theorem asP {ws:List (List UInt8)} (h:ws≠[]) (hw:∀w∈ws,aiQ w):iW (spW ws)=spW ws++[32]∧Lib.hasSuffix (spW ws) [45]=false:=by obtain⟨t,z,e,h1,_⟩:=ao2 h hw;unfold iW;rw[e,ku,decide_eq_false h1];exact⟨rfl,rfl⟩
theorem oq.line {S:List UInt8} {T:List (List UInt8)} {ins:Bool} (h:oq S T ins) {ws:List (List UInt8)} {s:List UInt8} (h1:ws≠[]) (hw:∀w∈ws,aiQ w) (hs:s=spW ws∨s=spW ws++[45]):oq (S++iW s) (goL T ins ws) (Lib.hasSuffix s [45]):=by
 obtain⟨w,l,rfl⟩:∃w l,ws=w::l:=by cases ws with
  |nil=>exact absurd rfl h1
  |cons w l=>exact⟨w,l,rfl⟩
 have hw0:=(hw w (by simp)).1;rcases hs with rfl|rfl
 ·obtain⟨e1,e2⟩:=asP h1 hw
  rw[e1,e2];unfold oq at h⊢;rw[if_neg (by decide)];intro r;rw[show S++(spW (w::l)++[32])++r=S++(spW (w::l)++32::r) by simp];cases ins with
  |false=>rw[if_neg (by decide)]at h;rw[h,xI h1 hw];simp[goL]
  |true=>rw[if_pos rfl]at h;rw[h.2.2,xI h1 hw];simp[goL]
 ·rw[ag1,ku,decide_eq_true rfl]
  unfold oq at h⊢;rw[if_pos rfl];cases ins with
  |false=>
   rw[if_neg (by decide)]at h;have e:goL T false (w::l)=T++w::l:=if_neg (by decide);rw[e];have e2:(T++w::l).getLastD []=(w::l).getLastD []:=by rw[List.getLastD_eq_getLast?,List.getLastD_eq_getLast?,List.getLast?_append];simp[List.getLast?_cons]
   refine⟨by simp,?_,fun r=>?_⟩
   ·rw[e2]
    have:(w::l).getLastD []∈w::l:=by rw[List.getLastD_eq_getLast?,List.getLast?_eq_some_getLast (by simp),Option.getD_some];exact List.getLast_mem _
    exact(hw _ this).1
   ·rw[List.append_assoc,h,abE h1 hw,e2,List.dropLast_append_of_ne_nil (by simp)]
    simp
  |true=>
   rw[if_pos rfl]at h;have e:goL T true (w::l)=T.dropLast++(T.getLastD []++w)::l:=if_pos rfl;rw[e];have e2:(T.dropLast++(T.getLastD []++w)::l).getLastD []=((T.getLastD []++w)::l).getLastD []:=by rw[List.getLastD_eq_getLast?,List.getLastD_eq_getLast?,List.getLast?_append];simp[List.getLast?_cons]
   refine⟨by simp,?_,fun r=>?_⟩
   ·rw[e2]
    cases l with
    |nil=>simp[hw0]
    |cons v l=>
     have:((T.getLastD []++w)::v::l).getLastD []=(v::l).getLastD []:=by simp[List.getLastD]
     rw[this];have:(v::l).getLastD []∈v::l:=by rw[List.getLastD_eq_getLast?,List.getLast?_eq_some_getLast (by simp),Option.getD_some];exact List.getLast_mem _
     exact(hw _ (by simp at this⊢;right;exact this)).1
   ·rw[List.append_assoc,h.2.2,abE h1 hw,e2,List.dropLast_append_of_ne_nil (by simp)]
    simp
def eU (c:UInt8) (s:ByteArray):List ByteArray:=Lib.splitB ⟨#[c]⟩ 0 (Lib.countB s ⟨#[c]⟩) s
theorem vE (c:UInt8):(1:Nat)≤(⟨#[c]⟩:ByteArray).size:=by simp[ByteArray.size]
theorem wD (c:UInt8) (s:ByteArray):(eU c s).length=Lib.countB s ⟨#[c]⟩+1:=Lib.splitB_all _ (vE c) 0 _ s rfl
theorem aad (c:UInt8) (s:ByteArray):(eU c s).length≤s.size+1:=by rw[wD];have:=Lib.countB_le ⟨#[c]⟩ (vE c) s.size s (Nat.le_refl _);omega
theorem akf (c:UInt8) (s:ByteArray) (w:World) (hs:s.size<4294967281):Calls Tryz.prog 37 #[.string s,.string ⟨#[c]⟩] w fun e w'=>
 e=.returned (.slice (some ⟨w.heap.size,0,none⟩) (eU c s).length (eU c s).length)∧w'=w.alloc (.cells ((eU c s).map Value.string).toArray 9):=by
 have hle:=Lib.countB_le ⟨#[c]⟩ (vE c) s.size s (Nat.le_refl _);have hpl:=wD c s;have hI:∀(x:ByteArray) (cs:Array Value),x.size≤s.size→Calls Tryz.prog 103 #[.string x,.string ⟨#[c]⟩] (w.alloc (.cells cs 9)) fun e w'=>e=.returned (.int .i64 (Lib.indexB x ⟨#[c]⟩))∧w'=w.alloc (.cells cs 9):=fun x cs _=>(YtmmafcjjlbgnkaaGreatDoor.strings_Index_one x c _).mono fun e w' ⟨he,hw⟩=>⟨by rw[he];exact congrArg (fun z=>Ending.returned (Value.int .i64 z)) (Lib.index_one x.data.toList c).symm,hw⟩
 have hC:Calls Tryz.prog 102 #[.string s,.string ⟨#[c]⟩] w fun e w'=>e=.returned (.int .i64 (Lib.countB s ⟨#[c]⟩))∧w'=w:=
  (YtmmafcjjlbgnkaaGreatDoor.strings_Count_one s c w).mono fun e w' ⟨he,hw⟩=>⟨by rw[he];exact congrArg (fun z:Nat=>Ending.returned (Value.int .i64 z)) (Lib.count_one c s.data.toList).symm,hw⟩
 have hg:=Any.strings_genSplit_core YtmmafcjjlbgnkaaGreatDoor.avr (by kernel_rfl) s ⟨#[c]⟩ 0 (-1) (Lib.countB s ⟨#[c]⟩+1) w hs (vE c) (Nat.zero_le _) hI hC (by decide) (by decide) (by rw[if_pos (by decide)];omega);have e1:Lib.splitB ⟨#[c]⟩ 0 (Lib.countB s ⟨#[c]⟩+1-1) s=eU c s:=rfl;have e2:Lib.cellsOf (eU c s) (Lib.countB s ⟨#[c]⟩+1)=((eU c s).map Value.string).toArray:=by rw[←hpl];exact Lib.cellsOf_full _
 rw[e1,e2,←hpl]at hg;clear hI hC hle hpl e1 e2;generalize eU c s=ps at*
 go_enter Tryz.func37,Tryz.ntmps37
 go_wp2_with (go_at_call 73;refine hg.mono ?_;rintro e w' ⟨rfl,hw⟩;rw[hw])
 go_ret
 exact⟨rfl,rfl⟩
def rJ (l:LS):LS:=(bN (dW (l.map (·.data.toList))) []).map fun b=>⟨b.toArray⟩
def aGb (l:LS):Prop:=l.length≤1048576∧yY l≤1048576
def ab5 (l R:LS) (k:Nat) (rest:List UInt8) (out:LS) (word:ByteArray):Prop:=
 out.map (·.data.toList)++bN (rest++dW ((l.drop k).map (·.data.toList))) word.data.toList=R.map (·.data.toList)
theorem an1 {a b:LS} (h:a.map (·.data.toList)=b.map (·.data.toList)):a=b:=by
 induction a generalizing b with
 |nil=>cases b with
  |nil=>rfl
  |cons y b=>simp at h
 |cons x a ih=>cases b with
  |nil=>simp at h
  |cons y b=>simp only[List.map_cons,List.cons.injEq]at h;rw[zY h.1,ih h.2]
theorem av7 {w s:ByteArray} {j:Nat} (h:j<s.data.toList.length):(w++s.extract j (j+1)).data.toList=w.data.toList++[s.data.toList[j]]:=by rw[ByteArray.data_append,Array.toList_append,ByteArray.data_extract,Array.toList_extract];congr 1;rw[List.extract_eq_drop_take,show j+1-j=1 by omega,List.drop_eq_getElem_cons h];rfl
theorem aeU {w:ByteArray}:w.data.toList=[]↔w=⟨#[]⟩:=⟨fun h=>zY h,fun h=>by rw[h]⟩
theorem ab5.line {l R:LS} {k:Nat} {out:LS} {word:ByteArray} (h:ab5 l R k [] out word) (hk:k<l.length):ab5 l R (k+1) ((iW (l[k]?.getD .empty).data.toList).drop 0) out word:=by unfold ab5 at h⊢;rw[List.nil_append,List.drop_eq_getElem_cons hk]at h;rw[List.drop_zero,List.getElem?_eq_getElem hk,Option.getD_some];exact h
theorem ab5.stop {l R:LS} {out:LS} {word:ByteArray} (h:ab5 l R l.length [] out word):R=if word=⟨#[]⟩then out else out++[word]:=by
 unfold ab5 at h;refine(an1 ?_).symm;rw[List.drop_length]at h;by_cases hw:word=⟨#[]⟩
 ·rw[if_pos hw]
  rw[hw]at h;simpa [dW,bN]using h
 ·have hw2:¬word.data.toList=[]:=fun e=>hw (aeU.1 e)
  rw[if_neg hw,List.map_append];rw[List.map_nil,List.nil_append]at h;unfold dW bN at h;rw[if_neg hw2]at h;exact h
theorem ab5.space {l R:LS} {k:Nat} {out:LS} {word:ByteArray} {r:List UInt8} (h:ab5 l R k (32::r) out word):ab5 l R k r (if word=⟨#[]⟩then out else out++[word]) ⟨#[]⟩:=by
 unfold ab5 at h⊢;rw[List.cons_append]at h;unfold bN at h;rw[if_pos rfl]at h;by_cases hw:word=⟨#[]⟩
 ·rw[if_pos hw]
  rw[if_pos (aeU.2 hw),List.nil_append]at h;exact h
 ·rw[if_neg hw,List.map_append,List.append_assoc]
  rw[if_neg fun e=>hw (aeU.1 e)]at h;exact h
theorem ab5.byte {l R:LS} {k:Nat} {out:LS} {word w2:ByteArray} {b:UInt8} {r:List UInt8} (h:ab5 l R k (b::r) out word) (hb:¬b=32) (hw:w2.data.toList=word.data.toList++[b]):ab5 l R k r out w2:=by unfold ab5 at h⊢;rw[List.cons_append]at h;unfold bN at h;rw[if_neg hb]at h;rw[hw];exact h
theorem akm {s:ByteArray} (h:s.size=0):s=⟨#[]⟩:=by obtain⟨⟨l⟩⟩:=s;have:l.length=0:=h;rw[List.eq_nil_of_length_eq_zero this]
def apC:Fun:=F1 dSs fun l=>open Classical in if aGb l then some (.lst true 1 ((rJ l).map fun s=> .val (.string s)))else none
def aGz:Ctx:={fn:=aT [(34,φIn)],io:=aT []}
theorem aws:ak Tryz.prog aGz:=okΓ (fC Tryz.func34 gY aj) aj
def ax7:=ah (Γ:=aGz) (f:=34) (φ:=φIn) rfl
theorem ail:Sound Tryz.prog 47 apC:=by
 refine au mixed aws Tryz.func47 rfl 86 rfl [.tmp 2] rfl (by kernel_rfl) fun ps r hr=>?_;obtain⟨l,rfl,hq⟩:=bK hr;clear hr;split at hq
 case isFalse=>cases hq
 case isTrue hpre=>
 simp only[Option.some.injEq]at hq;refine⟨by simp,?_⟩;simp only[dIs,dUs,dSs,dw,dx,dh,dA,aS,dz,aQ,aR,aO,aP];obtain⟨hl,hs⟩:=hpre;generalize hR:rJ l=R at hq;have hRM:bN (dW (l.map (·.data.toList))) []=R.map (·.data.toList):=by rw[←hR];unfold rJ;rw[List.map_map];exact(List.map_id _).symm
 replace hRM:=Lib.hid hRM;replace hq:=Lib.hid hq;clear hR;have gswl_c34:=ax7;(refine wlk ?_;intros);refine aD (α:=Nat×LS×ByteArray×Nat×Nat) mixed (fun s=>[(0,.lst false 1 (l.map fun s=> .val (.string s))),(3,.row s.2.2.2.1 1 0 s.2.1.length),(4,.val (.string s.2.2.1)),(5,iv s.1)])
  (fun s=>[(s.2.2.2.1,9,1,s.2.1.map fun s=> .val (.string s))]) (fun s=>s.2.2.2.2)
  (fun s=>s.1≤l.length∧ab5 l R s.1 [] s.2.1 s.2.2.1∧s.2.1.length+s.2.2.1.size≤yY (l.take s.1)∧s.2.2.2.1<s.2.2.2.2) (fun s=>l.length-s.1) (by kernel_rfl) (0,[],⟨#[]⟩,0,1) ⟨Nat.zero_le _,by simpa [ab5]using hRM.out,by simp[ByteArray.size],by simp⟩ ?_ ?_ rfl ?_
 ·exact agr
 ·exact agr
 rintro⟨k,out,word,x,y⟩ ⟨hk,hI,hsz,hxy⟩;dsimp only at hk hI hsz hxy;replace hI:=Lib.hid hI;by_cases h0:k<l.length
 ·have hst:=aoi (l:=l) h0
  have hle:=uD l (k+1);generalize hs9:l[k]?.getD ByteArray.empty=s at*;have hI2:=hI.out.line h0;rw[hs9]at hI2;replace hI2:=Lib.hid hI2;(refine wlk ?_;intros);refine aD (α:=Nat×LS×ByteArray×Nat×Nat) mixed (fun z=>[(0,.lst false 1 (l.map fun s=> .val (.string s))),(3,.row z.2.2.2.1 1 0 z.2.1.length),(4,.val (.string z.2.2.1)),(5,iv k),(6,.val (.string s)),(7,iv z.1)])
   (fun z=>[(z.2.2.2.1,9,1,z.2.1.map fun s=> .val (.string s))]) (fun z=>z.2.2.2.2)
   (fun z=>z.1≤s.size∧ab5 l R (k+1) ((iW s.data.toList).drop z.1) z.2.1 z.2.2.1∧z.2.1.length+z.2.2.1.size≤yY (l.take k)+z.1∧z.2.2.2.1<z.2.2.2.2) (fun z=>s.size-z.1) (by kernel_rfl) (0,out,word,x,y) ⟨Nat.zero_le _,hI2.out,by dsimp only;omega,hxy⟩ ?_ ?_ rfl ?_
  ·exact agr
  ·exact agr
  rintro⟨j,out,word,x,y⟩ ⟨hj,hI,hsz,hxy⟩;dsimp only at hj hI hsz hxy;clear hI2;replace hI:=Lib.hid hI;by_cases hjs:j<s.size
  ·have hl9:s.data.toList.length=s.size:=Array.length_toList
   have hjl:j<s.data.toList.length:=by omega
   have hb:=aAu hjl;have hr8:=ji s j;have hes:(s.extract j (j+1)).size=1:=by rw[ByteArray.size_extract];omega
   have ht:((j:Int)+1).toNat=j+1:=by omega
   have hex:(word++s.extract j (j+1)).data.toList=word.data.toList++[s.data.toList[j]]:=av7 hjl;replace hex:=Lib.hid hex;have hsa:(word++s.extract j (j+1)).size=word.size+1:=by rw[ByteArray.size_append,hes]
   clear hl9;by_cases h45:at8 s j=45∧j+1=s.size
   ·have hI9:=hI.out
    rw[avR hjs h45.1 h45.2]at hI9;replace hI9:=Lib.hid hI9;obtain⟨h45a,h45b⟩:=h45;have h45c:¬at8 s j=32:=by omega
    have h45d:¬j+1<s.size:=by omega
    have h45e:s.size≤j+1:=by omega
    clear hb h45b;(refine wlk ?_;intros);refine⟨(j+1,out,word,x,y),⟨by dsimp only;omega,hI9.out,by dsimp only;omega,hxy⟩,by dsimp only;omega,?_,?_,rfl⟩
    ·exact agr
    ·exact agr
   ·have hI9:=hI.out
    rw[avU hjl h45]at hI9;by_cases h32:at8 s j=32
    ·have hb32:s.data.toList[j]=32:=UInt8.toNat_inj.1 (by show _=32;omega)
     rw[hb32]at hI9;replace hI9:=hI9.space;clear hb hb32 h45 hex;by_cases hw:word=⟨#[]⟩
     ·subst hw
      rw[if_pos rfl]at hI9;replace hI9:=Lib.hid hI9;(refine wlk ?_;intros);refine⟨(j+1,out,⟨#[]⟩,x,y),⟨by dsimp only;omega,hI9.out,by dsimp only;omega,hxy⟩,by dsimp only;omega,?_,?_,rfl⟩
      ·exact agr
      ·exact agr
     ·rw[if_neg hw]at hI9
      replace hI9:=Lib.hid hI9;have hwp:0<word.size:=Nat.pos_of_ne_zero fun e=>hw (akm e);have hz0:(⟨#[]⟩:ByteArray).size=0:=rfl;(refine wlk ?_;intros);refine⟨(j+1,out++[word],⟨#[]⟩,y+1,y+2),⟨by dsimp only;omega,hI9.out,by dsimp only;rw[List.length_append,List.length_cons,List.length_nil,hz0];omega,by dsimp only;omega⟩,by dsimp only;omega,?_,?_,rfl⟩
      ·exact agr
      ·exact agr
    ·have hb32:¬s.data.toList[j]=32:=fun e=>h32 (by rw[hb,e];rfl)
     replace hI9:=hI9.byte hb32 hex.out;replace hI9:=Lib.hid hI9;clear hb hb32;by_cases h45a:at8 s j=45
     ·have h45b:j+1<s.size:=by have:¬j+1=s.size:=fun e=>h45 ⟨h45a,e⟩;omega
      clear h45 hex;(refine wlk ?_;intros);refine⟨(j+1,out,word++s.extract j (j+1),x,y),⟨by dsimp only;omega,hI9.out,by dsimp only;omega,hxy⟩,by dsimp only;omega,?_,?_,rfl⟩
      ·exact agr
      ·exact agr
     ·clear h45 hex
      (refine wlk ?_;intros);refine⟨(j+1,out,word++s.extract j (j+1),x,y),⟨by dsimp only;omega,hI9.out,by dsimp only;omega,hxy⟩,by dsimp only;omega,?_,?_,rfl⟩
      ·exact agr
      ·exact agr
  ·obtain rfl:j=s.size:=by omega
   have hI9:=hI.out;by_cases hy:0<s.size∧at8 s (s.size-1)=45
   ·rw[amC hy.1 hy.2]at hI9
    replace hI9:=Lib.hid hI9;have hsn:¬s=⟨#[]⟩:=fun e=>by rw[e]at hy;exact absurd hy.1 (by decide)
    obtain⟨hy1,hy2⟩:=hy;(refine wlk6 ?_ ?_ ?_ ?_ ?_ ?_<;>intros<;>try with_reducible exact trivial);all_goals refine⟨(k+1,out,word,x,y),⟨by dsimp only;omega,hI9.out,by dsimp only;omega,hxy⟩,by dsimp only;omega,?_,?_,rfl⟩
    all_goals exact agr
   ·have hno:s.size=0∨¬at8 s (s.size-1)=45:=by
     by_cases h1:s.size=0
     ·exact .inl h1
     ·exact .inr fun h2=>hy ⟨by omega,h2⟩
    rw[anE hno]at hI9;replace hI9:=hI9.space;have hz0:(⟨#[]⟩:ByteArray).size=0:=rfl;clear hy;by_cases hw:word=⟨#[]⟩
    ·subst hw
     rw[if_pos rfl]at hI9;replace hI9:=Lib.hid hI9;(refine wlk ?_;intros);all_goals refine⟨(k+1,out,⟨#[]⟩,x,y),⟨by dsimp only;omega,hI9.out,by dsimp only;omega,hxy⟩,by dsimp only;omega,?_,?_,rfl⟩
     all_goals exact agr
    ·rw[if_neg hw]at hI9
     replace hI9:=Lib.hid hI9;have hwp:0<word.size:=Nat.pos_of_ne_zero fun e=>hw (akm e);by_cases h0s:s.size=0
     ·have hse:s=⟨#[]⟩:=akm h0s
      subst hse;clear hno h0s;(refine wlk ?_;intros);all_goals refine⟨(k+1,out++[word],⟨#[]⟩,y+1,y+2),⟨by dsimp only;omega,hI9.out,by dsimp only;rw[List.length_append,List.length_cons,List.length_nil,hz0];omega,by dsimp only;omega⟩,by dsimp only;omega,?_,?_,rfl⟩
      all_goals exact agr
     ·have hsn:¬s=⟨#[]⟩:=fun e=>h0s (by rw[e];rfl)
      have hn45:¬at8 s (s.size-1)=45:=hno.resolve_left h0s;clear hno;(refine wlk ?_;intros);all_goals refine⟨(k+1,out++[word],⟨#[]⟩,y+1,y+2),⟨by dsimp only;omega,hI9.out,by dsimp only;rw[List.length_append,List.length_cons,List.length_nil,hz0];omega,by dsimp only;omega⟩,by dsimp only;omega,?_,?_,rfl⟩
      all_goals exact agr
 ·obtain rfl:k=l.length:=by omega
  have hle:=uD l l.length;have hR9:=hI.out.stop;have hq9:=hq.out;by_cases hw:word=⟨#[]⟩
  ·rw[if_pos hw]at hR9
   subst hR9;subst hq9;subst hw;clear hI hRM hq;exact wlkS
  ·rw[if_neg hw]at hR9
   subst hR9;subst hq9;clear hI hRM hq;exact wlkS
def ado (s:ByteArray):ByteArray:=⟨(Lib.trimSuffix s.data.toList [45]).toArray⟩
def aBm (s:ByteArray):Bool:=Lib.hasSuffix s.data.toList [45]
def ady (s:ByteArray):LS:=(eU 32 s).map ado
abbrev toL (s:ByteArray):List UInt8:=s.data.toList
theorem zI (c:UInt8) (s:ByteArray):(eU c s).map toL=jq c (toL s):=by have e:=Lib.splitB_data ⟨#[c]⟩ 0 (Lib.countB s ⟨#[c]⟩) s;rw[←agS];exact e
theorem z8 {c:UInt8}:∀{w:List UInt8},(∀b∈w,¬b=c)→jq c w=[w]
 |[],_=>rfl
 |b::l,h=>by rw[jq,if_neg (h b (by simp)),z8 fun x hx=>h x (by simp[hx])]
theorem zQ {c:UInt8} {r:List UInt8}:∀{w:List UInt8},(∀b∈w,¬b=c)→jq c (w++c::r)=w::jq c r
 |[],_=>by rw[List.nil_append,jq,if_pos rfl]
 |b::l,h=>by rw[List.cons_append,jq,if_neg (h b (by simp)),zQ fun x hx=>h x (by simp[hx])]
theorem xg:∀{ws:List (List UInt8)},ws≠[]→(∀w∈ws,∀b∈w,¬b=32)→jq 32 (spW ws)=ws
 |[],h,_=>absurd rfl h
 |[w],_,h=>z8 (h w (by simp))
 |w::v::l,_,h=>by rw[oI (by simp),zQ (h w (by simp)),xg (by simp) fun x hx=>h x (by simp[hx])]
theorem ay2 {w:List UInt8} (h:∀b∈w,¬b=45):Lib.trimSuffix w [45]=w:=by
 unfold Lib.trimSuffix;rcases List.eq_nil_or_concat w with rfl|⟨t,z,e⟩
 ·rfl
 ·rw[List.concat_eq_append]at e
  subst e;rw[ku,decide_eq_false (h z (by simp))];rfl
theorem axp (w:List UInt8):Lib.trimSuffix (w++[45]) [45]=w:=by unfold Lib.trimSuffix;rw[ku];simp
theorem azu {s:ByteArray} (h:jX (toL s)):∃ws:List (List UInt8),ws≠[]∧(∀w∈ws,aiQ w)∧(toL s=spW ws∨toL s=spW ws++[45])∧(ady s).map toL=ws:=by
 obtain⟨ws,h1,h2,h3⟩:=h;refine⟨ws,h1,h2,h3,?_⟩;have e:(ady s).map toL=(jq 32 (toL s)).map fun p=>Lib.trimSuffix p [45]:=by rw[←zI];unfold ady;rw[List.map_map,List.map_map];rfl
 rw[e];have hid:∀us:List (List UInt8),(∀w∈us,aiQ w)→us.map (fun p=>Lib.trimSuffix p [45])=us:=fun us h=>by
  conv=>rhs;rw[←List.map_id us]
  exact List.map_congr_left fun w hw=>ay2 fun b hb=>((h w hw).2 b hb).2
 rcases h3 with h3|h3
 ·rw[h3,xg h1 fun w hw b hb=>((h2 w hw).2 b hb).1]
  exact hid ws h2
 ·obtain⟨us,v,rfl⟩:∃us v,ws=us++[v]:=⟨ws.dropLast,ws.getLast h1,(List.dropLast_concat_getLast h1).symm⟩
  rw[h3,←aho,xg (by simp) fun w hw b hb=>?_]
  ·rw[List.map_append,hid us fun w hw=>h2 w (List.mem_append_left _ hw)]
   simp[axp]
  ·rcases List.mem_append.1 hw with hw|hw
   ·exact((h2 w (List.mem_append_left _ hw)).2 b hb).1
   ·rw[List.mem_singleton]at hw
    subst hw;rcases List.mem_append.1 hb with hb|hb
    ·exact((h2 v (by simp)).2 b hb).1
    ·rw[List.mem_singleton]at hb
     subst hb;decide
def auW (pg:Int) (ins:Bool) (W:List W2) (k:Nat) (t:ByteArray):List W2:=if k=0∧ins=true then W.set (W.length-1) ((W[W.length-1]?.getD w0).1++t,(W[W.length-1]?.getD w0).2)else W++[(t,pg)]
def adV (pg:Int) (ins:Bool) (W:List W2) (ts:LS):Nat→List W2
 |0=>W
 |k+1=>auW pg ins (adV pg ins W ts k) k (ts[k]?.getD .empty)
theorem ahQ {pg:Int} {W:List W2} {ts:LS}:∀k,k≤ts.length→adV pg false W ts k=W++(ts.take k).map fun t=>(t,pg)
 |0,_=>by simp[adV]
 |k+1,h=>by rw[adV,ahQ k (by omega),auW,if_neg (by simp),List.take_succ_eq_append_getElem (by omega),List.map_append,List.getElem?_eq_getElem (by omega),Option.getD_some,List.append_assoc];rfl
theorem ale {pg:Int} {W:List W2} {t:ByteArray} {ts:LS} {x:W2}:∀k,k≤ts.length→adV pg true (W++[x]) (t::ts) (k+1)=W++[(x.1++t,x.2)]++(ts.take k).map fun t=>(t,pg)
 |0,_=>by rw[adV,adV,auW,if_pos ⟨rfl,rfl⟩];simp
 |k+1,h=>by rw[adV,ale k (by omega),auW,if_neg (by omega),List.take_succ_eq_append_getElem (by omega),List.map_append,List.getElem?_cons_succ,List.getElem?_eq_getElem (by omega),Option.getD_some,List.append_assoc];rfl
theorem ang (ts:LS) (pg:Int):(ts.map fun t=>((t,pg):W2)).map (·.2)=List.replicate ts.length pg:=by rw[List.map_map];exact List.map_const' ..
def atA (pg:Int) (st:List W2×Bool) (s:ByteArray):List W2×Bool:=(adV pg st.2 st.1 (ady s) (ady s).length,aBm s)
theorem axF {pg:Int} {W:List W2} {ins:Bool} {s:ByteArray} {S:List UInt8} (h:oq S (W.map fun x=>toL x.1) ins) (hs:jX (toL s)):
 oq (S++iW (toL s)) ((atA pg (W,ins) s).1.map fun x=>toL x.1) (aBm s)∧W.length≤(atA pg (W,ins) s).1.length∧(atA pg (W,ins) s).1.map (·.2)=W.map (·.2)++List.replicate ((atA pg (W,ins) s).1.length-W.length) pg:=by
 obtain⟨ws,h1,h2,h3,h4⟩:=azu hs;have hr:=h.line h1 h2 h3;unfold atA;dsimp only
 generalize ady s=ts at*;cases ins with
 |false=>
  rw[ahQ _ (Nat.le_refl _),List.take_length];refine⟨?_,by simp,by rw[List.map_append,ang];simp⟩;have e:goL (W.map fun x=>toL x.1) false ws=(W++ts.map fun t=>(t,pg)).map fun x=>toL x.1:=by rw[goL,if_neg (by decide),←h4,List.map_append,List.map_map];rfl
  rw[←e];exact hr
 |true=>
  have hne:W≠[]:=fun e=>by subst e;unfold oq at h;rw[if_pos rfl]at h;exact h.1 rfl
  obtain⟨V,x,rfl⟩:∃V x,W=V++[x]:=⟨W.dropLast,W.getLast hne,(List.dropLast_concat_getLast hne).symm⟩;obtain⟨t,ts,rfl⟩:∃t l,ts=t::l:=by
   cases ts with
   |nil=>exact absurd h4.symm h1
   |cons t l=>exact⟨t,l,rfl⟩
  rw[List.length_cons,ale _ (Nat.le_refl _),List.take_length];refine⟨?_,by simp,?_⟩
  ·have e:goL ((V++[x]).map fun x=>toL x.1) true ws=(V++[(x.1++t,x.2)]++ts.map fun t=>(t,pg)).map fun x=>toL x.1:=by rw[goL,if_pos rfl,←h4];simp[List.getLastD_eq_getLast?,toL,ByteArray.data_append]
   rw[←e];exact hr
  ·rw[List.map_append,ang,List.length_append,List.length_map,List.length_append,List.length_append,show V.length+[(x.1++t,x.2)].length+ts.length-(V.length+[x].length)=ts.length by simp only[List.length_singleton];omega]
   simp
def kg (pg:Int) (st:List W2×Bool) (r:LS):Nat→List W2×Bool
 |0=>st
 |j+1=>atA pg (kg pg st r j) (r[j]?.getD .empty)
def j4 (V:List LS):Nat→List W2×Bool
 |0=>([],false)
 |i+1=>kg ((i:Int)+1) (j4 V i) (V[i]?.getD []) (V[i]?.getD []).length
theorem vU {pg:Int} {W:List W2} {ins:Bool} {r:LS} {S:List UInt8} (h:oq S (W.map fun x=>toL x.1) ins) (hr:∀s∈r,jX (toL s)):∀j,j≤r.length→
 oq (S++dW ((r.take j).map toL)) ((kg pg (W,ins) r j).1.map fun x=>toL x.1) (kg pg (W,ins) r j).2∧W.length≤(kg pg (W,ins) r j).1.length∧(kg pg (W,ins) r j).1.map (·.2)=W.map (·.2)++List.replicate ((kg pg (W,ins) r j).1.length-W.length) pg
 |0,_=>by refine⟨?_,Nat.le_refl _,by simp[kg]⟩;rw[List.take_zero,List.map_nil,dW,List.append_nil];exact h
 |j+1,hj=>by
  obtain⟨h1,h2,h3⟩:=vU (pg:=pg) h hr j (by omega);have hs:=hr r[j] (List.getElem_mem (by omega));rw[kg,List.getElem?_eq_getElem (by omega),Option.getD_some,List.take_succ_eq_append_getElem (by omega),List.map_append,jL,←List.append_assoc];have e:dW ([r[j]].map toL)=iW (toL r[j]):=by show iW _++[]=_;rw[List.append_nil]
  rw[e];generalize kg pg (W,ins) r j=st at*;obtain⟨W',i'⟩:=st;dsimp only at h1 h2 h3;obtain⟨k1,k2,k3⟩:=axF (pg:=pg) h1 hs;refine⟨k1,by omega,?_⟩;rw[k3,h3,List.append_assoc,List.replicate_append_replicate];congr 2;omega
theorem nU {V:List LS} {i:Nat} (h:i<V.length):(V.take (i+1)).flatten=(V.take i).flatten++V[i]?.getD []:=by rw[List.take_succ_eq_append_getElem h,List.flatten_append,List.getElem?_eq_getElem h,Option.getD_some];simp
def kX (V:List LS) (i:Nat):Nat:=(rJ ((V.take i).flatten)).length
def alk (V:List LS):Nat→List Int
 |0=>[]
 |i+1=>alk V i++List.replicate (kX V (i+1)-kX V i) ((i:Int)+1)
theorem apD {l:LS}:(rJ l).map toL=bN (dW (l.map toL)) []:=by
 unfold rJ;rw[List.map_map]
 conv=>rhs;rw[←List.map_id (bN (dW (l.map toL)) [])]
 exact List.map_congr_left fun s _=>rfl
theorem avq {W:List W2} {l:LS} (h:W.map (fun x=>toL x.1)=l.map toL):W.map (·.1)=l:=an1 (by rw[List.map_map];exact h)
theorem tQ {V:List LS} (hV:∀r∈V,∀s∈r,jX (toL s)):∀i,i≤V.length→
 oq (dW (((V.take i).flatten).map toL)) ((j4 V i).1.map fun x=>toL x.1) (j4 V i).2∧(j4 V i).1.map (·.1)=rJ ((V.take i).flatten)∧(j4 V i).1.map (·.2)=alk V i
 |0,_=>by refine⟨?_,by simp[j4,rJ,dW,bN],rfl⟩;unfold oq;rw[if_neg (show¬(j4 V 0).2=true by simp[j4])];intro r;simp[dW,j4]
 |i+1,hi=>by
  obtain⟨h1,h2,h3⟩:=tQ hV i (by omega);have hr:∀s∈V[i]?.getD [],jX (toL s):=by rw[List.getElem?_eq_getElem (by omega),Option.getD_some];exact hV _ (List.getElem_mem (by omega))
  obtain⟨k1,k2,k3⟩:=vU (pg:=(i:Int)+1) (W:=(j4 V i).1) (ins:=(j4 V i).2) (r:=V[i]?.getD []) h1 hr _ (Nat.le_refl _);rw[List.take_length]at k1;have k4:oq (dW (((V.take (i+1)).flatten).map toL)) ((j4 V (i+1)).1.map fun x=>toL x.1) (j4 V (i+1)).2:=by rw[nU (by omega),List.map_append,jL];exact k1
  have k5:(j4 V (i+1)).1.map (·.1)=rJ ((V.take (i+1)).flatten):=avq (by rw[apD];exact k4.all.symm);refine⟨k4,k5,?_⟩;have l1:(j4 V (i+1)).1.length=kX V (i+1):=by
   have:=congrArg List.length k5
   rwa[List.length_map]at this
  have l2:(j4 V i).1.length=kX V i:=by
   have:=congrArg List.length h2
   rwa[List.length_map]at this
  have k6:(j4 V (i+1)).1.map (·.2)=(j4 V i).1.map (·.2)++List.replicate ((j4 V (i+1)).1.length-(j4 V i).1.length) ((i:Int)+1):=k3;rw[k6,h3,l1,l2];rfl
theorem cnt_mono {V:List LS} (hV:∀r∈V,∀s∈r,jX (toL s)) {i:Nat} (hi:i<V.length):kX V i≤kX V (i+1):=by
 obtain⟨h1,h2,h3⟩:=tQ hV i (by omega);obtain⟨g1,g2,g3⟩:=tQ hV (i+1) (by omega);have hr:∀s∈V[i]?.getD [],jX (toL s):=by rw[List.getElem?_eq_getElem (by omega),Option.getD_some];exact hV _ (List.getElem_mem (by omega))
 obtain⟨k1,k2,k3⟩:=vU (pg:=(i:Int)+1) (W:=(j4 V i).1) (ins:=(j4 V i).2) (r:=V[i]?.getD []) h1 hr _ (Nat.le_refl _);have l1:=congrArg List.length g2;have l2:=congrArg List.length h2;rw[List.length_map]at l1 l2;unfold kX;rw[←l1,←l2];exact k2
theorem ahU {V:List LS} (hV:∀r∈V,∀s∈r,jX (toL s)) {i:Nat} (hi:i≤V.length):(alk V i).length=kX V i:=by obtain⟨h1,h2,h3⟩:=tQ hV i hi;have l1:=congrArg List.length h2;have l2:=congrArg List.length h3;rw[List.length_map]at l1 l2;unfold kX;omega
theorem aB6 {W:List W2} {a:LS} {b:List Int} (h1:W.map (·.1)=a) (h2:W.map (·.2)=b):W=a.zip b:=by
 subst h1;subst h2
 induction W with
 |nil=>rfl
 |cons x W ih=>simp only[List.map_cons,List.zip_cons_cons,←ih]
def idW (V:List LS):List W2:=(rJ V.flatten).zip (alk V V.length)
theorem aqL {V:List LS} (hV:∀r∈V,∀s∈r,jX (toL s)):(j4 V V.length).1=idW V:=by obtain⟨-,h2,h3⟩:=tQ hV V.length (Nat.le_refl _);rw[List.take_length]at h2;exact aB6 h2 h3
def swI (V:List LS):Nat→List W2
 |0=>[]
 |k+1=>swI V k++((rJ ((V.take (k+1)).flatten)).drop (kX V k)).map fun s=>(s,(k:Int)+1)
theorem ael {V:List LS}:∀k,(swI V k).map (·.2)=alk V k
 |0=>rfl
 |k+1=>by rw[swI,List.map_append,ael k,alk,List.map_map];congr 1;have:((rJ ((V.take (k+1)).flatten)).drop (kX V k)).map ((fun x:W2=>x.2)∘fun s=>(s,(k:Int)+1))=List.replicate ((rJ ((V.take (k+1)).flatten)).drop (kX V k)).length ((k:Int)+1):=List.map_const' ..;rw[this,List.length_drop];rfl
theorem anm {V:List LS} (hV:∀r∈V,∀s∈r,jX (toL s)) {k:Nat} (hk:k≤V.length):(swI V k).length=kX V k:=by have:=congrArg List.length (ael (V:=V) k);rw[List.length_map,ahU hV hk]at this;exact this
end
end Go.Proofs.YtmmafcjjlbgnkaaGreatDoor
