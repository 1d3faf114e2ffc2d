/- What the proof rests on, part 10: contracts of functions. No condition beyond what each states. -/
import Derived.Test.YtmmafcjjlbgnkaaGreatDoorZBiE9
namespace Go.Proofs.YtmmafcjjlbgnkaaGreatDoor
open Go.RowKit
open Nat renaming reduceEqDiff→Rq,reduceBEq→Rb,reduceAdd→Ra,reduceSub→Rs
open Int renaming reduceToNat→Rt
set_option linter.all false
set_option maxHeartbeats 32000000
noncomputable section
abbrev It:=Int×Int×Int×Int×Int×Int×Bool
def it0:It:=(0,0,0,0,0,0,false)
abbrev It.kd (x:It):Int:=x.1
abbrev It.wd (x:It):Int:=x.2.1
abbrev It.st (x:It):Int:=x.2.2.1
abbrev It.sh (x:It):Int:=x.2.2.2.1
abbrev It.od (x:It):Int:=x.2.2.2.2.1
abbrev It.cost (x:It):Int:=x.2.2.2.2.2.1
abbrev It.mark (x:It):Bool:=x.2.2.2.2.2.2
abbrev It.gl (x:It):I4:=(x.2.1,x.2.2.1,x.2.2.2.1,x.2.2.2.2.1)
def glB (g:I4):Bool:=inB g.1 0 1000&&(inB g.2.1 0 1000&&(inB g.2.2.1 0 g.1&&inB g.2.2.2 0 1))
def ahY (g:I4):Bool:=decide (g.2.1=0∧g.2.2.1=0∧g.2.2.2=0)
def aaG (c:Int):Bool:=inB c 0 10000||decide (c=-10000)
def itB (x:It):Bool:=glB x.gl&&((decide (x.kd=1)&&(ahY x.gl&&decide (x.cost=0∧x.mark=false)))||((decide (x.kd=2)&&decide (x.cost=0∧x.mark=false))||(decide (x.kd=3)&&(ahY x.gl&&aaG x.cost))))
def aW (l:List It):Bool:=decide (l.length≤60)&&l.all itB
structure aEy (x:It):Prop where
 wd:0≤x.wd∧x.wd≤1000
 st:0≤x.st∧x.st≤1000
 sh:0≤x.sh∧x.sh≤1000
 od:x.od=0∨x.od=1
 kd:x.kd=1∨x.kd=2∨x.kd=3
 cost:(0≤x.cost∧x.cost≤10000)∨x.cost=-10000
 mark:x.mark=true→x.kd=3
theorem aCc {x:It} (h:itB x=true):aEy x:=by
 obtain⟨kd,wd,st,sh,od,cost,mark⟩:=x;simp only[itB,glB,ahY,aaG,It.kd,It.gl,It.cost,It.mark,Bool.and_eq_true,Bool.or_eq_true,aD,decide_eq_true_eq]at h;obtain⟨⟨h1,h2,h3,h4⟩,h5⟩:=h;refine⟨h1,h2,⟨h3.1,show sh≤1000 by omega⟩,show od=0∨od=1 by omega,show kd=1∨kd=2∨kd=3 by omega,show(0≤cost∧cost≤10000)∨cost=-10000 by omega,fun hm=>?_⟩;rcases h5 with h5|h5|h5
 ·rw[h5.2.2.2]at hm;cases hm
 ·rw[h5.2.2]at hm;cases hm
 ·exact h5.1
theorem bK {l:List It} (h:aW l=true):l.length≤60:=by unfold aW at h;rw[Bool.and_eq_true]at h;exact of_decide_eq_true h.1
theorem gZ {l:List It} (h:aW l=true) {k:Nat} (hk:k<l.length):aEy (l[k]?.getD it0):=by unfold aW at h;rw[Bool.and_eq_true,List.all_eq_true]at h;rw[List.getElem?_eq_getElem hk,Option.getD_some];exact aCc (h.2 _ (List.getElem_mem hk))
abbrev gI (l:List It) (k:Nat):It:=l[k]?.getD it0
def forced (x:It):Bool:=decide (x.kd=3∧x.cost=-10000)
def mZ (l:List It) (n:Nat):Bool:=if(gI l n).kd=2 then decide (0<n∧(gI l (n-1)).kd=1)else decide ((gI l n).kd=3∧(gI l n).cost<10000)
def stN (l:List It):Nat→Nat→Nat
 |0,n=>n
 |f+1,n=>if n<l.length∧¬(gI l n).kd=1∧forced (gI l n)=false then stN l f (n+1)else n
def aF (l:List It) (a:Nat):Nat:=stN l (l.length-a) a
theorem aBg {l:List It} {a:Nat} (h:a<l.length) (h1:¬(gI l a).kd=1) (h2:forced (gI l a)=false):aF l a=aF l (a+1):=by unfold aF;rw[show l.length-a=(l.length-(a+1))+1 by omega,stN,if_pos ⟨h,h1,h2⟩]
theorem aqC {l:List It} {a:Nat} (h:¬(a<l.length∧¬(gI l a).kd=1∧forced (gI l a)=false)):aF l a=a:=by
 unfold aF;cases hf:l.length-a with
 |zero=>rfl
 |succ f=>rw[stN,if_neg h]
theorem aoc (l:List It):∀(f n:Nat),n≤stN l f n∧(n≤l.length→stN l f n≤l.length)
 |0,n=>⟨Nat.le_refl _,fun h=>h⟩
 |f+1,n=>by
  unfold stN;split
  ·rename_i hc
   have:=aoc l f (n+1);exact⟨by omega,fun _=>this.2 (by omega)⟩
  ·exact⟨Nat.le_refl _,fun h=>h⟩
theorem zw {l:List It} {a:Nat}:a≤aF l a∧(a≤l.length→aF l a≤l.length):=aoc l _ a
def uQ (l:List It) (a b:Nat):Bool:=(List.range (b-a)).all fun i=> !forced (gI l (a+i))
theorem aaC {l:List It} {a b:Nat} (h:b≤a):uQ l a b=true:=by unfold uQ;rw[show b-a=0 by omega];rfl
theorem xQ {l:List It} {a b:Nat} (h:a≤b):uQ l a (b+1)=(uQ l a b&& !forced (gI l b)):=by unfold uQ;rw[show b+1-a=(b-a)+1 by omega,List.range_succ,List.all_append];simp[show a+(b-a)=b by omega]
theorem aeI {l:List It} {a b k:Nat} (h:uQ l a (k+1)=false) (ha:a≤k) (hk:k<b):uQ l a b=false:=by unfold uQ at h⊢;rw[List.all_eq_false]at h⊢;obtain⟨i,hi,h1⟩:=h;have:=List.mem_range.1 hi;exact⟨i,List.mem_range.2 (by omega),h1⟩
def dX (l:List It) (a en:Nat):Bool:=decide (a≤en∧en<l.length)&&(mZ l en&&((decide (a=0)||mZ l (a-1))&&(decide (aF l a≤en)&&uQ l a en)))
theorem fE {l:List It} {a en:Nat}:dX l a en=true↔(a≤en∧en<l.length)∧mZ l en=true∧(a=0∨mZ l (a-1)=true)∧aF l a≤en∧uQ l a en=true:=by simp[dX]
def oL (l:List It) (b c:Nat):List Int:=((List.range (c-b)).filter fun i=> !decide ((gI l (b+i)).kd=3)).map fun i:Nat=>((b+i:Nat):Int)
theorem vX {l:List It} {b c:Nat} (h:c≤b):oL l b c=[]:=by unfold oL;rw[show c-b=0 by omega];rfl
theorem qF {l:List It} {b c:Nat} (h:b≤c) (hk:¬(gI l c).kd=3):oL l b (c+1)=oL l b c++[(c:Int)]:=by unfold oL;rw[show c+1-b=(c-b)+1 by omega,List.range_succ,List.filter_append,List.map_append];simp[show b+(c-b)=c by omega,hk];omega
theorem abO {l:List It} {b c:Nat} (h:b≤c) (hk:(gI l c).kd=3):oL l b (c+1)=oL l b c:=by unfold oL;rw[show c+1-b=(c-b)+1 by omega,List.range_succ,List.filter_append,List.map_append];simp[show b+(c-b)=c by omega,hk]
theorem qB (l:List It) (b c:Nat):(oL l b c).length≤c-b:=by unfold oL;rw[List.length_map];exact Nat.le_trans (List.length_filter_le _ _) (by simp)
theorem vO {l:List It} {b c:Nat}:∀x∈oL l b c,(b:Int)≤x∧x<c∧¬(gI l x.toNat).kd=3:=fun x hx=>by obtain⟨i,hi,rfl⟩:=List.mem_map.1 hx;obtain⟨h1,h2⟩:=List.mem_filter.1 hi;have h3:=List.mem_range.1 h1;refine⟨by omega,by omega,?_⟩;rw[Int.toNat_natCast];simpa using h2
def g40:I4:=(0,0,0,0)
def aeU (a b:I4):I4:=
 let oa:=if a.2.1=0 then 0 else a.2.2.2
 let ob:=if b.2.1=0 then 0 else b.2.2.2
 let o:=max oa ob
 (a.1+b.1,(if oa=o then a.2.1 else 0)+(if ob=o then b.2.1 else 0),a.2.2.1+b.2.2.1,o)
def jT (gs:List I4):I4:=gs.foldl aeU g40
theorem qC (gs:List I4) (g:I4):jT (gs++[g])=aeU (jT gs) g:=by simp[jT,List.foldl_append]
def zh (gs:List I4):Int:=if gs.any (fun g=>decide (g.2.2.2=1∧0<g.2.1))=true then 1 else 0
def mo (gs:List I4) (o:Int):I4:=gs.foldl (fun t g=>(t.1+g.1,(if g.2.2.2=o then t.2.1+g.2.1 else t.2.1),t.2.2.1+g.2.2.1,o)) (0,0,0,o)
theorem gY (gs:List I4) (g:I4) (o:Int):mo (gs++[g]) o=((mo gs o).1+g.1,(if g.2.2.2=o then(mo gs o).2.1+g.2.1 else(mo gs o).2.1),(mo gs o).2.2.1+g.2.2.1,o):=by simp[mo,List.foldl_append]
theorem amC:∀(gs:List I4) (o:Int),(mo gs o).2.2.2=o:=fun gs o=>by
 rcases List.eq_nil_or_concat gs with h|⟨l,x,h⟩
 ·subst h;rfl
 ·rw[List.concat_eq_append]at h
  subst h;rw[gY]
structure GOk (g:I4):Prop where
 wd:0≤g.1∧g.1≤1000
 st:0≤g.2.1∧g.2.1≤1000
 sh:0≤g.2.2.1∧g.2.2.1≤1000
 od:g.2.2.2=0∨g.2.2.2=1
theorem aEy.gl {x:It} (h:aEy x):GOk x.gl:=⟨h.wd,h.st,h.sh,h.od⟩
theorem acU (gs:List I4) (g:I4):zh (gs++[g])=if zh gs=1∨(g.2.2.2=1∧0<g.2.1)then 1 else 0:=by
 unfold zh;rw[List.any_append];cases h:gs.any (fun g=>decide (g.2.2.2=1∧0<g.2.1))with
 |true=>simp
 |false=>simp
theorem aor (gs:List I4):zh gs=0∨zh gs=1:=by
 unfold zh;split
 ·exact .inr rfl
 ·exact .inl rfl
theorem jg {α:Type} {p:List α→Prop} (h0:p []) (h1:∀l x,p l→p (l++[x])):∀l,p l:=fun l=>by
 have key:∀n,∀l:List α,l.length=n→p l:=by
  intro n
  induction n with
  |zero=>intro l h;rw[List.eq_nil_of_length_eq_zero h];exact h0
  |succ n ih=>
   intro l h;rcases List.eq_nil_or_concat l with h2|⟨l0,x,h2⟩
   ·subst h2;simp at h
   ·rw[List.concat_eq_append]at h2
    subst h2;rw[List.length_append,List.length_singleton]at h;exact h1 _ _ (ih l0 (by omega))
 exact key _ l rfl
theorem ay1:∀gs:List I4,(∀g∈gs,GOk g)→jT gs=mo gs (zh gs)∧(zh gs=0→∀g∈gs,g.2.2.2=1→g.2.1=0)∧(zh gs=1→0<(jT gs).2.1)∧(zh gs=0→(mo gs 1).2.1=0):=by
 refine jg ?_ ?_
 ·intro _
  refine⟨rfl,by simp,fun h=>by simp[zh]at h,fun _=>rfl⟩
 ·intro gs g ih hg
  obtain⟨i1,i2,i3,i4⟩:=ih fun x hx=>hg x (List.mem_append.2 (.inl hx));have gk:=hg g (by simp);obtain⟨w,st,sh,od⟩:=g;obtain⟨g1,g2,g3,g4⟩:=gk;dsimp only at g1 g2 g3 g4;have hod:=amC gs (zh gs);rw[qC,acU,i1];rw[i1]at i3;rcases aor gs with h|h
  ·rw[h]at i1 i2 i3 i4 hod⊢
   have i4:=i4 rfl;have i2:=i2 rfl;by_cases hc:od=1∧0<st
   ·have hc2:(0:Int)=1∨(od=1∧0<st):=.inr hc
    have hst:¬st=0:=by omega
    rw[if_pos hc2];refine⟨?_,fun q=>by simp at q,fun _=>?_,fun q=>by simp at q⟩
    ·rw[gY,i4]
     unfold aeU;rw[hod,hc.1];have e1:((mo gs 0).1=(mo gs 1).1)∧(mo gs 0).2.2.1=(mo gs 1).2.2.1:=by clear i1 i2 i3 i4 hod hg ih;refine jg (p:=fun gs=>(mo gs 0).1=(mo gs 1).1∧(mo gs 0).2.2.1=(mo gs 1).2.2.1) ⟨rfl,rfl⟩ (fun l x hx=>?_) gs;rw[gY,gY];exact⟨by dsimp only;rw[hx.1],by dsimp only;rw[hx.2]⟩
     have hm01:max (0:Int) 1=1:=by decide
     simp[e1.1,e1.2,hst,hm01]
    ·unfold aeU
     rw[hod,hc.1];simp[hst];omega
   ·have hc2:¬((0:Int)=1∨(od=1∧0<st)):=by omega
    rw[if_neg hc2];have hz:od=1→st=0:=by omega
    refine⟨?_,fun _=>?_,fun q=>by simp at q,fun _=>?_⟩
    ·rw[gY]
     unfold aeU;rw[hod];by_cases hs:st=0
     ·simp[hs]
     ·have h0:od=0:=by omega
      simp[hs,h0]
    ·intro x hx
     rcases List.mem_append.1 hx with hx|hx
     ·exact i2 x hx
     ·rw[List.mem_singleton.1 hx]
      exact hz
    ·rw[gY,i4]
     dsimp only
     split
     ·rename_i h1
      rw[hz h1];rfl
     ·rfl
  ·rw[h]at i1 i3 hod⊢
   have i3:=i3 rfl;rw[if_pos (.inl rfl)];have hne:¬(mo gs 1).2.1=0:=by omega
   refine⟨?_,fun q=>by simp at q,fun _=>?_,fun q=>by simp at q⟩
   ·rw[gY]
    unfold aeU;rw[hod,if_neg hne];by_cases hs:st=0
    ·simp[hs]
     omega
    ·rcases g4 with h0|h0
     ·simp[hs,h0]
      omega
     ·simp[hs,h0]
   ·unfold aeU
    rw[hod,if_neg hne];dsimp only
    have:max 1 (if st=0 then(0:Int)else od)=1:=by split<;>omega
    rw[this,if_pos rfl];split<;>omega
theorem ax9:∀gs:List I4,(∀g∈gs,GOk g)→(0≤(jT gs).1∧(jT gs).1≤1000*gs.length)∧(0≤(jT gs).2.1∧(jT gs).2.1≤1000*gs.length)∧(0≤(jT gs).2.2.1∧(jT gs).2.2.1≤1000*gs.length)∧((jT gs).2.2.2=0∨(jT gs).2.2.2=1):=by
 refine jg ?_ ?_
 ·intro _
  exact⟨by decide,by decide,by decide,by decide⟩
 ·intro gs g ih hg
  obtain⟨i1,i2,i3,i4⟩:=ih fun x hx=>hg x (List.mem_append.2 (.inl hx));have gk:=hg g (by simp);obtain⟨w,st,sh,od⟩:=g;obtain⟨g1,g2,g3,g4⟩:=gk;dsimp only at g1 g2 g3 g4;rw[qC,List.length_append,List.length_singleton];generalize jT gs=t at*;obtain⟨tw,ts,th,en⟩:=t;dsimp only at i1 i2 i3 i4;unfold aeU;dsimp only
  push_cast
  refine⟨by omega,?_,by omega,?_⟩
  ·(repeat' split)<;>omega
  ·(repeat' split)<;>omega
def aec (need room:Int):Int:=if need=0 then 0 else if room=0∨10*room<need then 10000 else min 10000 (100*need*need*need/(room*room*room))
theorem asg {n r:Int} (h0:0<r) (h:5*r<n):10000≤100*n*n*n/(r*r*r):=by
 have hr:0<r*r*r:=Int.mul_pos (Int.mul_pos h0 h0) h0;rw[Int.le_ediv_iff_mul_le hr];have h1:(5*r)*(5*r)≤n*n:=Int.mul_le_mul (by omega) (by omega) (by omega) (by omega);have h2:(5*r)*(5*r)*(5*r)≤n*n*n:=Int.mul_le_mul h1 (by omega) (by omega) (Int.mul_nonneg (by omega) (by omega));have e1:(5*r)*(5*r)*(5*r)=125*(r*r*r):=by rw[show 5*r*(5*r)*(5*r)=(5*5*5)*(r*r*r) by simp only[Int.mul_assoc,Int.mul_left_comm r 5]];rfl
 have e2:100*n*n*n=100*(n*n*n):=by simp only[Int.mul_assoc]
 rw[e2];omega
theorem anG {need room:Int} (hn:0≤need) (hr:0≤room):aec need room=if need=0 then 0 else if room=0∨5*room<need then 10000 else min 10000 (100*need*need*need/(room*room*room)):=by
 unfold aec;split
 ·rfl
 ·split
  ·rename_i h1
   rw[if_pos (by omega)]
  ·split
   ·have:=asg (n:=need) (r:=room) (by omega) (by omega)
    omega
   ·rfl
def gL (s:Bool) (bad:Int):Int:=if bad≤12 then 1 else if s=false then 0 else if bad<100 then 2 else 3
theorem oG (s:Bool) (bad:Int):0≤gL s bad∧gL s bad≤3:=by
 unfold gL
 repeat' split
 all_goals omega
def mU (bad cost:Int):Int:=(10+bad)*(10+bad)+(if cost=-10000 then 0 else cost*cost)
theorem qA {bad cost:Int} (h:0≤bad∧bad≤10000) (h2:(0≤cost∧cost≤10000)∨cost=-10000):0≤mU bad cost∧mU bad cost≤300000000:=by
 have h3:0≤(10+bad)*(10+bad):=Int.mul_nonneg (by omega) (by omega);have h4:(10+bad)*(10+bad)≤10010*10010:=Int.mul_le_mul (by omega) (by omega) (by omega) (by omega);unfold mU;split
 ·omega
 ·have h5:0≤cost*cost:=Int.mul_nonneg (by omega) (by omega)
  have h6:cost*cost≤10000*10000:=Int.mul_le_mul (by omega) (by omega) (by omega) (by omega);omega
def agJ (l:List It) (a en:Nat):List I4:=((oL l (aF l a) en).map fun n:Int=>(gI l n.toNat).gl)++(if(gI l en).kd=3 then [(gI l en).gl]else [])
def azZ (g:I4) (wd:Int):Int×Bool:=if g.1≤wd then(if g.2.2.2=1 then(0,true)else(aec (wd-g.1) g.2.1,true))else if g.1-wd≤g.2.2.1 then(aec (g.1-wd) g.2.2.1,false)else(-1,false)
def iY (l:List It) (wd:Int) (a en:Nat):Int×Bool:=azZ (jT (agJ l a en)) wd
def jf (l:List It) (wd most:Int) (a en:Nat):Option (Int×Int):=
 if dX l a en=true∧0≤(iY l wd a en).1∧(iY l wd a en).1≤most then some (mU (iY l wd a en).1 (gI l en).cost,gL (iY l wd a en).2 (iY l wd a en).1)else none
def jD (l:List It) (a en:Nat) (before looks:Int):Int:=
 (if 0<a∧(gI l (a-1)).mark=true∧(gI l en).mark=true then 3000 else 0)+(if 0<a∧(1<before-looks∨before-looks< -1)then 3000 else 0)
theorem nA (l:List It) (a en:Nat) (b k:Int):0≤jD l a en b k∧jD l a en b k≤6000:=by
 unfold jD
 repeat' split
 all_goals omega
abbrev Ch:=Int×Nat×Int
def iP (l:List It) (wd most:Int) (a:Nat) (lk:Int) (rest:Nat→Int→Option Ch) (acc:Option Ch) (en:Nat):Option Ch:=
 match jf l wd most a en with
 |none=>acc
 |some (c,k)=>match rest (en+1) k with
  |none=>acc
  |some r=>if acc.all (fun x=>decide (c+jD l a en lk k+r.1<x.1))=true then some (c+jD l a en lk k+r.1,en,k)else acc
def bE (l:List It) (wd most:Int) (a:Nat) (lk:Int) (rest:Nat→Int→Option Ch):Nat→Option Ch
 |0=>none
 |j+1=>iP l wd most a lk rest (bE l wd most a lk rest j) (l.length-(j+1))
def wE (l:List It) (wd most:Int):Nat→Nat→Int→Option Ch
 |0,_,_=>some (0,0,0)
 |f+1,a,lk=>if a=l.length then some (0,0,0)else bE l wd most a lk (wE l wd most f) (l.length-a)
def aU (l:List It) (wd most:Int) (a:Nat) (lk:Int):Option Ch:=wE l wd most (l.length-a) a lk
theorem mM {l:List It} {wd most:Int} {a:Nat} {lk:Int} {r r':Nat→Int→Option Ch}:∀j,(∀b k,l.length-j<b→b≤l.length→r b k=r' b k)→j≤l.length→bE l wd most a lk r j=bE l wd most a lk r' j
 |0,_,_=>rfl
 |j+1,h,hj=>by
  rw[bE,bE,mM j (fun b k h1 h2=>h b k (by omega) h2) (by omega)];unfold iP;cases jf l wd most a (l.length-(j+1))with
  |none=>rfl
  |some c=>dsimp only;rw[h _ _ (by omega) (by omega)]
theorem zH {l:List It} {wd most:Int}:∀(f f' a:Nat) (lk:Int),l.length-a≤f→l.length-a≤f'→a≤l.length→wE l wd most f a lk=wE l wd most f' a lk
 |0,f',a,lk,h,h',ha=>by
  have:a=l.length:=by omega
  subst this;cases f' with
  |zero=>rfl
  |succ f'=>rw[wE,wE,if_pos rfl]
 |f+1,0,a,lk,h,h',ha=>by
  have:a=l.length:=by omega
  subst this;rw[wE,wE,if_pos rfl]
 |f+1,f'+1,a,lk,h,h',ha=>by
  rw[wE,wE];split
  ·rfl
  ·exact mM _ (fun b k h1 h2=>zH f f' b k (by omega) (by omega) h2) (by omega)
theorem rO (l:List It) (wd most lk:Int):aU l wd most l.length lk=some (0,0,0):=by unfold aU;rw[Nat.sub_self];rfl
theorem nR {l:List It} {wd most lk:Int} {a:Nat} (h:a<l.length):aU l wd most a lk=bE l wd most a lk (aU l wd most) (l.length-a):=by
 unfold aU;obtain⟨f,hf⟩:∃f,l.length-a=f+1:=⟨l.length-a-1,by omega⟩
 conv=>lhs;rw[hf]
 rw[wE,if_neg (by omega)];exact mM _ (fun b k h1 h2=>zH _ _ _ _ (by omega) (by omega) h2) (by omega)
theorem sN {l:List It} {wd most:Int} {a en:Nat} {x:Int×Int} (h:jf l wd most a en=some x):dX l a en=true∧(0≤(iY l wd a en).1∧(iY l wd a en).1≤most)∧x=(mU (iY l wd a en).1 (gI l en).cost,gL (iY l wd a en).2 (iY l wd a en).1):=by
 unfold jf at h;split at h
 ·rename_i hc
  cases h;exact⟨hc.1,hc.2,rfl⟩
 ·cases h
theorem rH {l:List It} {wd most:Int} {a en:Nat} {x:Int×Int} (hl:aW l=true) (hm:most≤10000) (h:jf l wd most a en=some x):(a≤en∧en<l.length)∧(0≤x.1∧x.1≤300000000)∧0≤x.2∧x.2≤3:=by obtain⟨h1,h2,rfl⟩:=sN h;obtain⟨h3,-⟩:=fE.1 h1;exact⟨h3,qA ⟨h2.1,by omega⟩ (gZ hl h3.2).cost,oG _ _⟩
theorem jd {l:List It} {wd most:Int} {a:Nat} {lk:Int} {rest:Nat→Int→Option Ch} {acc:Option Ch} {en:Nat} (h:jf l wd most a en=none):iP l wd most a lk rest acc en=acc:=by unfold iP;rw[h]
theorem lU {l:List It} {wd most:Int} {a:Nat} {lk:Int} {rest:Nat→Int→Option Ch} {acc:Option Ch} {en:Nat} {c k:Int} (h:jf l wd most a en=some (c,k)) (h2:rest (en+1) k=none):iP l wd most a lk rest acc en=acc:=by
 unfold iP;rw[h];dsimp only
 rw[h2]
theorem l6 {l:List It} {wd most:Int} {a:Nat} {lk:Int} {rest:Nat→Int→Option Ch} {acc:Option Ch} {en:Nat} {c k:Int} {r:Ch} (h:jf l wd most a en=some (c,k)) (h2:rest (en+1) k=some r):
 iP l wd most a lk rest acc en=if acc.all (fun x=>decide (c+jD l a en lk k+r.1<x.1))=true then some (c+jD l a en lk k+r.1,en,k)else acc:=by
 unfold iP;rw[h];dsimp only
 rw[h2]
def aEx (l:List It) (wd most:Int) (a:Nat) (lk:Int) (rest:Nat→Int→Option Ch) (j:Nat) (x:Ch):Prop:=
 ∃c0 r,jf l wd most a x.2.1=some (c0,x.2.2)∧rest (x.2.1+1) x.2.2=some r∧x.1=c0+jD l a x.2.1 lk x.2.2+r.1∧l.length-j≤x.2.1∧x.2.1<l.length
theorem pG {l:List It} {wd most:Int} {a:Nat} {lk:Int} {rest:Nat→Int→Option Ch} {x:Ch}:∀j,0<l.length→bE l wd most a lk rest j=some x→aEx l wd most a lk rest j x
 |0,_,h=>by cases h
 |j+1,hp,h=>by
  have ih:=@pG l wd most a lk rest x j hp;have wk:aEx l wd most a lk rest j x→aEx l wd most a lk rest (j+1) x:=fun⟨c0,r,h1,h2,h3,h4,h5⟩=>⟨c0,r,h1,h2,h3,by omega,h5⟩;rw[bE]at h;cases hL:jf l wd most a (l.length-(j+1))with
  |none=>rw[jd hL]at h;exact wk (ih h)
  |some c=>
   obtain⟨c,k⟩:=c;cases hr:rest (l.length-(j+1)+1) k with
   |none=>rw[lU hL hr]at h;exact wk (ih h)
   |some r=>
    rw[l6 hL hr]at h;split at h
    ·cases h
     exact⟨c,r,hL,hr,rfl,Nat.le_refl _,by dsimp only;omega⟩
    ·exact wk (ih h)
theorem sS {l:List It} {wd most lk:Int} {a:Nat} {x:Ch} (h:a<l.length) (hx:aU l wd most a lk=some x):aEx l wd most a lk (aU l wd most) (l.length-a) x:=by rw[nR h]at hx;exact pG _ (by omega) hx
theorem xX {l:List It} {wd most:Int} (hl:aW l=true) (hm:most≤10000):∀(n a:Nat) (lk:Int) (x:Ch),l.length-a=n→a≤l.length→aU l wd most a lk=some x→0≤x.1∧x.1≤306000000*n
 |0,a,lk,x,hn,ha,h=>by
  have:a=l.length:=by omega
  subst this;rw[rO]at h;cases h;exact⟨by decide,by simp⟩
 |n+1,a,lk,x,hn,ha,h=>by
  obtain⟨c0,r,h1,h2,h3,h4,h5⟩:=sS (by omega) h;obtain⟨g1,g2,g3⟩:=rH hl hm h1;have hb:=nA l a x.2.1 lk x.2.2;have ih:=xX hl hm (l.length-(x.2.1+1)) (x.2.1+1) _ r rfl (by omega) h2;dsimp only at g2
  push_cast
  omega
theorem rZ {l:List It} {wd most:Int} (hl:aW l=true) (hm:most≤10000) {a:Nat} {lk:Int} {j:Nat} {x:Ch} (ha:a<l.length) (h:bE l wd most a lk (aU l wd most) j=some x):(0≤x.1∧x.1≤20000000000)∧x.2.1<l.length∧0≤x.2.2∧x.2.2≤3:=by obtain⟨c0,r,h1,h2,h3,h4,h5⟩:=pG j (by omega) h;obtain⟨g1,g2,g3⟩:=rH hl hm h1;have hb:=nA l a x.2.1 lk x.2.2;have ih:=xX hl hm _ _ _ r rfl (by omega) h2;have:=bK hl;dsimp only at g2 g3;exact⟨by omega,h5,g3⟩
theorem dx {l:List It} {wd most:Int} (hl:aW l=true) (hm:most≤10000) {a:Nat} {lk:Int} {x:Ch} (ha:a≤l.length) (h:aU l wd most a lk=some x):(0≤x.1∧x.1≤20000000000)∧(a<l.length→(a≤x.2.1∧x.2.1<l.length)∧0≤x.2.2∧x.2.2≤3):=by have h1:=xX hl hm _ a lk x rfl ha h;have:=bK hl;refine⟨by omega,fun h2=>?_⟩;obtain⟨c0,r,g1,g2,g3,g4,g5⟩:=sS h2 h;obtain⟨k1,k2,k3⟩:=rH hl hm g1;exact⟨k1,k3⟩
theorem abf {l:List It} {wd most:Int} {a en:Nat} (h0:0<a) (h:mZ l (a-1)=false):jf l wd most a en=none:=by
 unfold jf;rw[if_neg];rintro⟨h1,-⟩;obtain⟨-,-,h2,-⟩:=fE.1 h1;rcases h2 with h2|h2
 ·omega
 ·rw[h]at h2;cases h2
theorem oN {l:List It} {wd most:Int} {a:Nat} {lk:Int} {rest:Nat→Int→Option Ch} (h0:0<a) (h:mZ l (a-1)=false):∀j,bE l wd most a lk rest j=none
 |0=>rfl
 |j+1=>by rw[bE,jd (abf h0 h),oN h0 h j]
theorem abA {l:List It} {wd most lk:Int} {a:Nat} (ha:a<l.length) (h0:0<a) (h:mZ l (a-1)=false):aU l wd most a lk=none:=by rw[nR ha,oN h0 h]
theorem uD {l:List It} {wd most lk lk':Int} {rest:Nat→Int→Option Ch}:∀j,bE l wd most 0 lk rest j=bE l wd most 0 lk' rest j
 |0=>rfl
 |j+1=>by
  rw[bE,bE,uD (lk:=lk) (lk':=lk') j];have:∀en k,jD l 0 en lk k=jD l 0 en lk' k:=fun en k=>by simp[jD]
  unfold iP;simp only[this]
theorem xk {l:List It} {wd most:Int} (lk lk':Int):aU l wd most 0 lk=aU l wd most 0 lk':=by
 by_cases h:0<l.length
 ·rw[nR h,nR h,uD (lk:=lk) (lk':=lk')]
 ·unfold aU
  rw[show l.length-0=0 by omega];rfl
def bkF (l:List It) (wd most:Int):Nat→Nat→Int→List Int
 |0,_,_=>[]
 |f+1,a,lk=>if a=l.length then []else match aU l wd most a lk with
  |none=>[]
  |some r=>(r.2.1:Int)::bkF l wd most f (r.2.1+1) r.2.2
def cK (l:List It) (wd most:Int):List Int:=bkF l wd most (l.length+1) 0 1
def kg (l:List It) (wd most:Int):Bool:=aW l&&(decide (0<l.length)&&(inB wd 0 1000&&(inB most 0 10000&&(aU l wd most 0 1).isSome)))
def axA (l:List It) (wd most:Int):List Int:=if kg l wd most=true then cK l wd most else []
theorem eH {l:List It} {wd most:Int}:kg l wd most=true↔aW l=true∧0<l.length∧(0≤wd∧wd≤1000)∧(0≤most∧most≤10000)∧(aU l wd most 0 1).isSome=true:=by simp[kg,aD]
theorem nU {l:List It} {wd most:Int} {f a:Nat} {lk:Int} {r:Ch} (h:¬a=l.length) (hr:aU l wd most a lk=some r):bkF l wd most (f+1) a lk=(r.2.1:Int)::bkF l wd most f (r.2.1+1) r.2.2:=by rw[bkF,if_neg h,hr]
theorem yS {l:List It} {wd most:Int} {f:Nat} {lk:Int}:bkF l wd most f l.length lk=[]:=by
 cases f with
 |zero=>rfl
 |succ f=>rw[bkF,if_pos rfl]
theorem afE {l:List It} {wd most:Int} (hl:aW l=true) (hm:most≤10000):∀(f a:Nat) (lk:Int),a≤l.length→(bkF l wd most f a lk).length≤l.length-a
 |0,a,lk,_=>by simp[bkF]
 |f+1,a,lk,ha=>by
  by_cases h:a=l.length
  ·subst h;rw[yS];simp
  ·cases hr:aU l wd most a lk with
   |none=>rw[bkF,if_neg h,hr];simp
   |some r=>obtain⟨h1,h2⟩:=dx hl hm ha hr;have h2:=h2 (by omega);rw[nU h hr,List.length_cons];have:=afE (wd:=wd) hl hm f (r.2.1+1) r.2.2 (by omega);omega
theorem ou {l:List It} {wd most:Int} {a:Nat} {lk:Int} {r:Ch} (ha:a<l.length) (hr:aU l wd most a lk=some r):∃x c0,aU l wd most (r.2.1+1) r.2.2=some x∧jf l wd most a r.2.1=some (c0,r.2.2):=by obtain⟨c0,x,g1,g2,-⟩:=sS ha hr;exact⟨x,c0,g2,g1⟩
def nbX (l:List It) (n:Nat):Nat:=((l.take n).filter fun x=>decide (x.kd=1)).length
theorem afH {l:List It} {n:Nat} (h:n<l.length) (hk:(gI l n).kd=1):nbX l (n+1)=nbX l n+1:=by
 unfold nbX;rw[List.take_succ_eq_append_getElem h,List.filter_append,List.length_append];have e:gI l n=l[n]:=by unfold gI;rw[List.getElem?_eq_getElem h,Option.getD_some]
 rw[e]at hk;simp[hk]
theorem alp {l:List It} {n:Nat} (h:n<l.length) (hk:¬(gI l n).kd=1):nbX l (n+1)=nbX l n:=by
 unfold nbX;rw[List.take_succ_eq_append_getElem h,List.filter_append,List.length_append];have e:gI l n=l[n]:=by unfold gI;rw[List.getElem?_eq_getElem h,Option.getD_some]
 rw[e]at hk;simp[hk]
def oP (l:List It) (tx:LS) (s:ByteArray) (n:Nat):ByteArray:=
 if(gI l n).kd=1 then s++(tx[nbX l n]?.getD .empty)else if(gI l n).kd=2∧0<(gI l n).wd∧¬s=⟨#[]⟩then s++⟨#[32]⟩else s
instance:DecidableEq ByteArray:=inferInstance
def lnT (l:List It) (tx:LS) (a:Nat):Nat→ByteArray
 |0=>⟨#[]⟩
 |j+1=>oP l tx (lnT l tx a j) (a+j)
def lnR (l:List It) (tx:LS) (a en:Nat):ByteArray:=if(gI l en).mark=true then lnT l tx a (en-a)++⟨#[45]⟩else lnT l tx a (en-a)
def dA7 {α β γ δ ε ζ η:Type} (A:Dec α) (B:Dec β) (C:Dec γ) (D:Dec δ) (E:Dec ε) (F:Dec ζ) (G:Dec η):Dec (α×β×γ×δ×ε×ζ×η) where
 d:=fun| .agg [p,q,r,s,t,u,v]=>(A.d p).bind fun a=>(B.d q).bind fun b=>(C.d r).bind fun c=>(D.d s).bind fun d=>(E.d t).bind fun e=>(F.d u).bind fun f=>(G.d v).map fun g=>(a,b,c,d,e,f,g)|_=>none
 e:=fun x=> .agg [A.e x.1,B.e x.2.1,C.e x.2.2.1,D.e x.2.2.2.1,E.e x.2.2.2.2.1,F.e x.2.2.2.2.2.1,G.e x.2.2.2.2.2.2]
 h:=fun p a h=>by
  split at h
  ·simp only[Option.bind_eq_some_iff,Option.map_eq_some_iff]at h
   obtain⟨x,h1,y,h2,z,h3,t,h4,u,h5,v,h6,w,h7,rfl⟩:=h;rw[A.h _ _ h1,B.h _ _ h2,C.h _ _ h3,D.h _ _ h4,E.h _ _ h5,F.h _ _ h6,G.h _ _ h7]
  ·cases h
 h':=fun a=>by simp[A.h',B.h',C.h',D.h',E.h',F.h',G.h']
theorem ayX {α β γ δ ε ζ η:Type} (A:Dec α) (B:Dec β) (C:Dec γ) (D:Dec δ) (E:Dec ε) (F:Dec ζ) (G:Dec η):(dA7 A B C D E F G).e=fun x=> .agg [A.e x.1,B.e x.2.1,C.e x.2.2.1,D.e x.2.2.2.1,E.e x.2.2.2.2.1,F.e x.2.2.2.2.2.1,G.e x.2.2.2.2.2.2]:=rfl
abbrev dIt:Dec It:=dA7 dI dI dI dI dI dI dB
abbrev oQ:Dec (List It):=dL 7 dIt
abbrev gG (x:It):PV:=.agg [.val (.int .i64 x.1),.val (.int .i64 x.2.1),.val (.int .i64 x.2.2.1),.val (.int .i64 x.2.2.2.1),.val (.int .i64 x.2.2.2.2.1),.val (.int .i64 x.2.2.2.2.2.1),.val (.bool x.2.2.2.2.2.2)]
section
variable {β:Type} {n sz f i:Nat} {ob:bG} {k fr:Bool} {l:List It}
theorem aDv {g:It→β} (h:i<l.length):Option.map g l[i]?=some (g ((l[i]?).getD it0)):=by simp[h]
theorem anL:reify false n ob (f+3) (.lst k sz (l.map gG))=some (.lst false sz (l.map gG)):=pU fun _=>rfl
theorem arv {m T:Nat} (hm:m=l.length):rW fr (f+2) ob sz 0 m (some (T,sz,l.map gG))=some (.lst fr sz (l.map gG)):=tL (fun _=>rfl) hm
end
attribute[push_cast]
 aDv anL arv
abbrev ai4 (l:List It):Prop:=l.length≤1000
def afc:Fun:=F1 dI4 fun g=>some (bv (glB g))
theorem ahW {a b c d:Int}:afc [.agg [.val (.int .i64 a),.val (.int .i64 b),.val (.int .i64 c),.val (.int .i64 d)]]=some (.val (.bool (glB (a,b,c,d)))):=dY (A:=dI4) (a,b,c,d)
def aAh:Ctx:={fn:=aT [(64,φIn)],io:=aT []}
theorem ap9:au Tryz.prog aAh:=okΓ (fC Tryz.func64 sD aj) aj
def aqa:=ah (Γ:=aAh) (f:=64) (φ:=φIn) rfl
theorem ajy:Sound Tryz.prog 35 afc:=by
 refine ak mixed ap9 Tryz.func35 rfl 23 rfl [.tmp 2] rfl (by kernel_rfl) fun ps r hr=>?_;obtain⟨⟨a,b,c,d⟩,rfl,hr⟩:=bC hr;cases hr;refine⟨by simp,?_⟩;simp only[dIs,dUs,dSs,bP,bS,bQ,bT,aP,bR,aQ,aO,aR,aL];have ggl4i_c64:=aqa;have ap:=bI;(refine wlkX6 ?_ ?_ ?_ ?_ ?_ ?_<;>intros<;>try with_reducible exact trivial);all_goals(refine fnG ?_;try with_reducible exact trivial)
 all_goals simp_all [glB]
def aDf:Ctx:={fn:=aT [(34,φIn)],io:=aT []}
theorem asL:au Tryz.prog aDf:=okΓ (fC Tryz.func34 fK aj) aj
def ar7:=ah (Γ:=aDf) (f:=34) (φ:=φIn) rfl
theorem ai5:Sound Tryz.prog 221 afc:=by
 refine ak mixed asL Tryz.func221 rfl 23 rfl [.tmp 2] rfl (by kernel_rfl) fun ps r hr=>?_;obtain⟨⟨a,b,c,d⟩,rfl,hr⟩:=bC hr;cases hr;refine⟨by simp,?_⟩;simp only[dIs,dUs,dSs,bP,bS,bQ,bT,aP,bR,aQ,aO,aR,aL];have ggl4s_c34:=ar7;have ap:=bI;(refine wlkX6 ?_ ?_ ?_ ?_ ?_ ?_<;>intros<;>try with_reducible exact trivial);all_goals(refine fnG ?_;try with_reducible exact trivial)
 all_goals simp_all [glB]
def ad2:Fun:=F1 dIt fun x=>some (bv (itB x))
theorem afU {a b c d e f:Int} {g:Bool}:ad2 [.agg [.val (.int .i64 a),.val (.int .i64 b),.val (.int .i64 c),.val (.int .i64 d),.val (.int .i64 e),.val (.int .i64 f),.val (.bool g)]]=some (.val (.bool (itB (a,b,c,d,e,f,g)))):=dY (A:=dIt) (a,b,c,d,e,f,g)
def xu:Fun:=F1 dI fun c=>some (bv (aaG c))
theorem acB (c:Int):xu [.val (.int .i64 c)]=some (.val (.bool (aaG c))):=rfl
def aB3:Ctx:={fn:=aT [(72,qN)],io:=aT []}
theorem ao9:au Tryz.prog aB3:=okΓ (fC Tryz.func72 qZ aj) aj
def aqz:=ah (Γ:=aB3) (f:=72) (φ:=qN) rfl
theorem adj:Sound Tryz.prog 235 xu:=by
 refine ak mixed ao9 Tryz.func235 rfl 9 rfl [.tmp 2] rfl (by kernel_rfl) fun ps r hr=>?_;obtain⟨c,rfl,hr⟩:=bC hr;cases hr;refine⟨by simp,?_⟩;simp only[dIs,dUs,dSs,bP,bS,bQ,bT,aP,bR,aQ,aO,aR,aL];have ap:=oh;have gcost_c72:=aqz;(refine wlkX6 ?_ ?_ ?_ ?_ ?_ ?_<;>intros<;>try with_reducible exact trivial);all_goals(refine fnG ?_;try with_reducible exact trivial)
 all_goals simp_all [aaG]
def aFb:Ctx:={fn:=aT [(35,afc),(235,xu)],io:=aT []}
theorem ax4:au Tryz.prog aFb:=okΓ (fC Tryz.func35 ajy (fC Tryz.func235 adj aj)) aj
def ay0:=ah (Γ:=aFb) (f:=35) (φ:=afc) rfl
def asZ:=ah (Γ:=aFb) (f:=235) (φ:=xu) rfl
theorem ajg:Sound Tryz.prog 214 ad2:=by
 refine ak mixed ax4 Tryz.func214 rfl 63 rfl [.tmp 2] rfl (by kernel_rfl) fun ps r hr=>?_;obtain⟨⟨a,b,c,d,e,f,g⟩,rfl,hr⟩:=bC hr;cases hr;refine⟨by simp,?_⟩;simp only[dIs,dUs,dSs,bP,bS,bQ,bT,aP,bR,aQ,aO,aR,aL];simp only[ayX,bP,bQ];have ap1:=@ahW;have ap2:=acB;have hE:itB (a,b,c,d,e,f,g)=(glB (b,c,d,e)&&((decide (a=1)&&(decide (c=0∧d=0∧e=0)&&decide (f=0∧g=false)))||((decide (a=2)&&decide (f=0∧g=false))||(decide (a=3)&&(decide (c=0∧d=0∧e=0)&&aaG f))))):=rfl;rw[hE];clear hE;cases hg:glB (b,c,d,e)<;>cases hc:aaG f<;>
 ·have giti_c35:=ay0;have giti_c235:=asZ
  repeat' (first|(with_reducible first|apply rJ|apply gQ|apply jP|apply jQ|apply rP|apply ah9|apply rG|apply qP|apply ahE|apply qU|apply qV|apply ag7|apply qH|apply qj|apply rA)|((with_reducible apply eY);(simp only[List.map_cons,List.map_nil]<;>exact rfl))|((with_reducible apply jM);(simp only[List.map_cons,List.map_nil]<;>exact rfl);decide+kernel)|((with_reducible apply rE);rfl)|((first|((with_reducible apply i_V);rfl;rfl;rfl)|((first|((with_reducible apply i_E);rfl)|((with_reducible apply i_S);rfl));first|rfl|(simp only[push_cast,↓reduceIte]))|((with_reducible apply agG);rfl;rfl)|((with_reducible apply agc);rfl;rfl;rfl)|(with_reducible first|apply ahp|apply jR));(simp(disch:=(first|omega|(simp only[push_cast];first|done|omega))) only[push_cast,↓reduceIte,Rq,Rb,Ra,Rs,Rt, *]<;>with_reducible exact rfl);all_goals try(first|(with_reducible first|refine hyT ?_|refine hyF ?_|exact hyA|exact hyB)|(intro hX;first|(cases hX;done)|((try simp only[decide_eq_true_eq,decide_eq_false_iff_not,Bool.not_eq_true',Bool.not_eq_false']at hX);(try have hXb:=aD.1 hX))))))
  all_goals(refine fnG ?_;try with_reducible exact trivial)
  all_goals(first|(simp_all;done)|(simp_all;omega))
def aFa:Ctx:={fn:=aT [(221,afc),(34,φIn)],io:=aT []}
theorem avz:au Tryz.prog aFa:=okΓ (fC Tryz.func221 ai5 (fC Tryz.func34 fK aj)) aj
def aqT:=ah (Γ:=aFa) (f:=221) (φ:=afc) rfl
def awg:=ah (Γ:=aFa) (f:=34) (φ:=φIn) rfl
theorem ajq:Sound Tryz.prog 181 ad2:=by
 refine ak mixed avz Tryz.func181 rfl 62 rfl [.tmp 2] rfl (by kernel_rfl) fun ps r hr=>?_;obtain⟨⟨a,b,c,d,e,f,g⟩,rfl,hr⟩:=bC hr;cases hr;refine⟨by simp,?_⟩;simp only[dIs,dUs,dSs,bP,bS,bQ,bT,aP,bR,aQ,aO,aR,aL];simp only[ayX,bP,bQ];have ap1:=@ahW;have ap2:=bI;have hE:itB (a,b,c,d,e,f,g)=(glB (b,c,d,e)&&((decide (a=1)&&(decide (c=0∧d=0∧e=0)&&decide (f=0∧g=false)))||((decide (a=2)&&decide (f=0∧g=false))||(decide (a=3)&&(decide (c=0∧d=0∧e=0)&&(inB f 0 10000||decide (f=-10000))))))):=rfl;rw[hE];clear hE;cases hg:glB (b,c,d,e)<;>
 ·have gits_c221:=aqT;have gits_c34:=awg
  repeat' (first|(with_reducible first|apply rJ|apply gQ|apply jP|apply jQ|apply rP|apply ah9|apply rG|apply qP|apply ahE|apply qU|apply qV|apply ag7|apply qH|apply qj|apply rA)|((with_reducible apply eY);(simp only[List.map_cons,List.map_nil]<;>exact rfl))|((with_reducible apply jM);(simp only[List.map_cons,List.map_nil]<;>exact rfl);decide+kernel)|((with_reducible apply rE);rfl)|((first|((with_reducible apply i_V);rfl;rfl;rfl)|((first|((with_reducible apply i_E);rfl)|((with_reducible apply i_S);rfl));first|rfl|(simp only[push_cast,↓reduceIte]))|((with_reducible apply agG);rfl;rfl)|((with_reducible apply agc);rfl;rfl;rfl)|(with_reducible first|apply ahp|apply jR));(simp(disch:=(first|omega|(simp only[push_cast];first|done|omega))) only[push_cast,↓reduceIte,Rq,Rb,Ra,Rs,Rt, *]<;>with_reducible exact rfl);all_goals try(first|(with_reducible first|refine hyT ?_|refine hyF ?_|exact hyA|exact hyB)|(intro hX;first|(cases hX;done)|((try simp only[decide_eq_true_eq,decide_eq_false_iff_not,Bool.not_eq_true',Bool.not_eq_false']at hX);(try have hXb:=aD.1 hX))))))
  all_goals(refine fnG ?_;try with_reducible exact trivial)
  all_goals(first|(simp_all;done)|(simp_all;omega))
def aa9:Fun:=F1 oQ fun l=>if ai4 l then some (bv (aW l))else none
theorem abI {l:List It} (h:ai4 l):aa9 [.lst false 7 (l.map gG)]=some (.val (.bool (aW l))):=(dY (A:=oQ) l).trans (if_pos h)
def aAR:Ctx:={fn:=aT [(214,ad2)],io:=aT []}
theorem asU:au Tryz.prog aAR:=okΓ (fC Tryz.func214 ajg aj) aj
def ak8:=ah (Γ:=aAR) (f:=214) (φ:=ad2) rfl
theorem aak:Sound Tryz.prog 175 aa9:=by
 refine ak mixed asU Tryz.func175 rfl 18 rfl [.tmp 2] rfl (by kernel_rfl) fun ps r hr=>?_;obtain⟨l,rfl,hpre,rfl⟩:=je hr;refine⟨by simp,?_⟩;simp only[dIs,dUs,dSs,bP,bS,bQ,bT,aP,bR,aQ,aO,aR,aL];have hlen:l.length≤1000:=hpre;have ap:=@afU;clear hpre;show pq _ _ _ _ _ (bX [.lst false 7 (l.map gG)]).tm _ _;have gitsi_c214:=ak8;(refine wlk ?_;intros);refine aB (α:=Nat×Nat) mixed (fun z=>[(0,.lst false 7 (l.map gG)),(5,.lst false 7 (l.map gG)),(6,iv l.length),(7,iv z.1)]) (fun _=>[]) (fun z=>z.2)
  (fun z=>z.1≤l.length∧∀j,j<z.1→itB (l[j]?.getD it0)=true) (fun z=>l.length-z.1) (by kernel_rfl) (0,0) ⟨Nat.zero_le _,fun j hj=>by simp at hj⟩ ?_ trivial rfl ?_
 ·exact agr
 rintro⟨k,y⟩ ⟨hk,hok⟩;dsimp only at hk hok;by_cases h0:k<l.length
 ·cases hb:itB (l[k]?.getD it0)with
  |false=>
   have hE:aW l=false:=by unfold aW;rw[jX (d:=it0) h0 hb,Bool.and_false]
   rw[hE];clear hok hE;generalize hx9:l[k]?.getD it0=x at*;obtain⟨a,b,c,d,e,f,g⟩:=x;exact wlkF
  |true=>
   have hok2:∀j,j<k+1→itB (l[j]?.getD it0)=true:=fun j hj=>by
    by_cases h1:j<k
    ·exact hok j h1
    ·obtain rfl:j=k:=by omega
     exact hb
   replace hok2:=Lib.hid hok2;clear hok;generalize hx9:l[k]?.getD it0=x at*;obtain⟨a,b,c,d,e,f,g⟩:=x;(refine wlk ?_;intros);refine⟨(k+1,y+1),⟨by dsimp only;omega,hok2.out⟩,by dsimp only;omega,?_,trivial,rfl⟩;exact agr
 ·obtain rfl:k=l.length:=by omega
  have hE:aW l=decide (l.length≤60):=by unfold aW;rw[gF (d:=it0) fun j hj=>hok j hj,Bool.and_true]
  rw[hE];clear hok hE;((refine wlk6 ?_ ?_ ?_ ?_ ?_ ?_<;>intros<;>try with_reducible exact trivial)<;>(refine fnG ?_;try with_reducible exact trivial));all_goals(first|(simp;omega)|skip)
def aBr:Ctx:={fn:=aT [(181,ad2)],io:=aT []}
theorem ao7:au Tryz.prog aBr:=okΓ (fC Tryz.func181 ajq aj) aj
def aot:=ah (Γ:=aBr) (f:=181) (φ:=ad2) rfl
theorem ajw:Sound Tryz.prog 127 aa9:=by
 refine ak mixed ao7 Tryz.func127 rfl 19 rfl [.tmp 2] rfl (by kernel_rfl) fun ps r hr=>?_;obtain⟨l,rfl,hpre,rfl⟩:=je hr;refine⟨by simp,?_⟩;simp only[dIs,dUs,dSs,bP,bS,bQ,bT,aP,bR,aQ,aO,aR,aL];have hlen:l.length≤1000:=hpre;have ap:=@afU;clear hpre;show pq _ _ _ _ _ (bX [.lst false 7 (l.map gG)]).tm _ _;have gitss_c181:=aot;(refine wlk ?_;intros);refine aB (α:=Nat) mixed (fun k=>[(0,.lst false 7 (l.map gG)),(3,iv k)]) (fun _=>[]) (fun _=>0)
  (fun k=>k≤l.length∧∀j,j<k→itB (l[j]?.getD it0)=true) (fun k=>l.length-k) (by kernel_rfl) 0 ⟨Nat.zero_le _,fun j hj=>by simp at hj⟩ ?_ trivial rfl ?_
 ·exact agr
 rintro k ⟨hk,hok⟩;by_cases h0:k<l.length
 ·cases hb:itB (l[k]?.getD it0)with
  |false=>
   have hE:aW l=false:=by unfold aW;rw[jX (d:=it0) h0 hb,Bool.and_false]
   rw[hE];clear hok hE;generalize hx9:l[k]?.getD it0=x at*;obtain⟨a,b,c,d,e,f,g⟩:=x;exact wlkF
  |true=>
   have hok2:∀j,j<k+1→itB (l[j]?.getD it0)=true:=fun j hj=>by
    by_cases h1:j<k
    ·exact hok j h1
    ·obtain rfl:j=k:=by omega
     exact hb
   replace hok2:=Lib.hid hok2;clear hok;generalize hx9:l[k]?.getD it0=x at*;obtain⟨a,b,c,d,e,f,g⟩:=x;(refine wlk ?_;intros);refine⟨k+1,⟨by omega,hok2.out⟩,by dsimp only;omega,?_,trivial,rfl⟩;exact agr
 ·obtain rfl:k=l.length:=by omega
  have hE:aW l=decide (l.length≤60):=by unfold aW;rw[gF (d:=it0) fun j hj=>hok j hj,Bool.and_true]
  rw[hE];clear hok hE;((refine wlk6 ?_ ?_ ?_ ?_ ?_ ?_<;>intros<;>try with_reducible exact trivial)<;>(refine fnG ?_;try with_reducible exact trivial));all_goals(first|(simp;omega)|skip)
theorem aAs {l:List It} {a b c d e f:Int} {g:Bool}:l.map gG++[.agg [.val (.int .i64 a),.val (.int .i64 b),.val (.int .i64 c),.val (.int .i64 d),.val (.int .i64 e),.val (.int .i64 f),.val (.bool g)]]=(l++[(a,b,c,d,e,f,g)]).map gG:=by simp
theorem au3 {l:List It} {a b c d e f a2 b2 c2 d2 e2 f2 a3 b3 c3 d3 e3 f3:Int} {g g2 g3:Bool}:l.map gG++[.agg [.val (.int .i64 a),.val (.int .i64 b),.val (.int .i64 c),.val (.int .i64 d),.val (.int .i64 e),.val (.int .i64 f),.val (.bool g)],.agg [.val (.int .i64 a2),.val (.int .i64 b2),.val (.int .i64 c2),.val (.int .i64 d2),.val (.int .i64 e2),.val (.int .i64 f2),.val (.bool g2)],.agg [.val (.int .i64 a3),.val (.int .i64 b3),.val (.int .i64 c3),.val (.int .i64 d3),.val (.int .i64 e3),.val (.int .i64 f3),.val (.bool g3)]]=(l++[(a,b,c,d,e,f,g),(a2,b2,c2,d2,e2,f2,g2),(a3,b3,c3,d3,e3,f3,g3)]).map gG:=by simp
theorem ayq {l l':List It}:l.map gG++l'.map gG=(l++l').map gG:=List.map_append.symm
attribute[push_cast]
 aAs au3 ayq
def wiK (ps:LS):Nat→List It
 |0=>[]
 |k+1=>(if k=0 then wiK ps k else wiK ps k++[(3,3,0,0,0,50,true)])++[(1,pV (ps[k]?.getD .empty),0,0,0,0,false)]
def wiR (w:ByteArray) (pats:LS):List It:=wiK (bO w pats) (bO w pats).length
def piK (ws pats:LS):Nat→List It
 |0=>[]
 |k+1=>(if k=0 then piK ws pats k else piK ws pats k++[(2,4,3,1,0,0,false)])++wiR (ws[k]?.getD .empty) pats
def piR (ws pats:LS):List It:=piK ws pats ws.length++[(3,0,0,0,0,10000,false),(2,0,1,0,1,0,false),(3,0,0,0,0,-10000,false)]
def tK (ws pats:LS):Bool:=bD ws&&(bA pats&&(decide (0<ws.length)&&decide ((piR ws pats).length≤60)))
def piV (ws pats:LS):List It:=if tK ws pats=true then piR ws pats else []
theorem aaN (ps:LS):∀k,(wiK ps k).length≤2*k
 |0=>by simp[wiK]
 |k+1=>by
  have:=aaN ps k;unfold wiK;rw[List.length_append,List.length_singleton];split
  ·omega
  ·rw[List.length_append,List.length_singleton];omega
theorem kD (w:ByteArray) (pats:LS):(bO w pats).length≤21:=by
 unfold bO;split
 ·rename_i h
  have:=(nH (pats:=pats) (jS.1 h).1).1;unfold acv;rw[al9];omega
 ·simp
theorem pz {w:ByteArray} {pats:LS}:∀x∈bO w pats,bY x=true:=fun x hx=>by
 unfold bO at hx;split at hx
 ·rename_i h
  exact ark (jS.1 h).1 (nH (jS.1 h).1) x hx
 ·simp at hx
theorem adL {w:ByteArray} {pats:LS} {k:Nat} (h:k<(bO w pats).length):bY ((bO w pats)[k]?.getD .empty)=true:=by rw[List.getElem?_eq_getElem h,Option.getD_some];exact pz _ (List.getElem_mem h)
theorem alR (w:ByteArray) (pats:LS):(wiR w pats).length≤42:=by have h1:=aaN (bO w pats) (bO w pats).length;have h2:=kD w pats;unfold wiR;omega
theorem ad6 (ws pats:LS):∀k,(piK ws pats k).length≤43*k
 |0=>by simp[piK]
 |k+1=>by
  have:=ad6 ws pats k;have h2:=alR (ws[k]?.getD .empty) pats;unfold piK;rw[List.length_append];split
  ·omega
  ·rw[List.length_append,List.length_singleton];omega
theorem atf {ps:LS} (h:∀x∈ps,bY x=true):∀k,k≤ps.length→∀x∈wiK ps k,itB x=true
 |0,_=>by simp[wiK]
 |k+1,hk=>fun x hx=>by
  have ih:=atf h k (by omega);unfold wiK at hx;rcases List.mem_append.1 hx with hx|hx
  ·split at hx
   ·exact ih x hx
   ·rcases List.mem_append.1 hx with hx|hx
    ·exact ih x hx
    ·rw[List.mem_singleton.1 hx];decide
  ·rw[List.mem_singleton.1 hx]
   have h1:bY (ps[k]?.getD .empty)=true:=by rw[List.getElem?_eq_getElem (show k<ps.length by omega),Option.getD_some];exact h _ (List.getElem_mem _)
   have h2:=anM h1;generalize pV (ps[k]?.getD .empty)=n at*;simp[itB,glB,ahY,It.kd,It.gl,It.cost,It.mark,aD];omega
theorem atn (ws pats:LS):∀k,∀x∈piK ws pats k,itB x=true
 |0=>by simp[piK]
 |k+1=>fun x hx=>by
  have ih:=atn ws pats k;unfold piK at hx;rcases List.mem_append.1 hx with hx|hx
  ·split at hx
   ·exact ih x hx
   ·rcases List.mem_append.1 hx with hx|hx
    ·exact ih x hx
    ·rw[List.mem_singleton.1 hx];decide
  ·exact atf pz _ (Nat.le_refl _) x hx
theorem aCm {ws pats:LS} (h:(piR ws pats).length≤60):aW (piR ws pats)=true:=by
 unfold aW;rw[Bool.and_eq_true,List.all_eq_true];refine⟨decide_eq_true h,fun x hx=>?_⟩;unfold piR at hx;rcases List.mem_append.1 hx with hx|hx
 ·exact atn ws pats _ x hx
 ·rcases List.mem_cons.1 hx with rfl|hx
  ·decide
  ·rcases List.mem_cons.1 hx with rfl|hx
   ·decide
   ·rw[List.mem_singleton.1 hx];decide
theorem qD {ws pats:LS}:tK ws pats=true↔bD ws=true∧bA pats=true∧0<ws.length∧(piR ws pats).length≤60:=by simp[tK]
theorem atD {ws pats:LS} (h:tK ws pats=true):aW (piV ws pats)=true:=by unfold piV;rw[if_pos h];exact aCm (qD.1 h).2.2.2
def φL6:Fun:=F2 dS dSs fun w pats=>if ar2 w pats then some (.lst true 7 ((wiR w pats).map gG))else none
theorem axH {w:ByteArray} {pats:LS} (h:ar2 w pats):φL6 [.val (.string w),.lst false 1 (pats.map fun s=> .val (.string s))]=some (.lst true 7 ((wiR w pats).map gG)):=(fZ (A:=dS) (B:=dSs) w pats).trans (if_pos h)
def GL6:Ctx:={fn:=aT [(98,φPr),(180,φWw)],io:=aT []}
theorem azx:au Tryz.prog GL6:=okΓ (fC Tryz.func98 adC (fC Tryz.func180 ak1 aj)) aj
def aAf:=ah (Γ:=GL6) (f:=98) (φ:=φPr) rfl
def auH:=ah (Γ:=GL6) (f:=180) (φ:=φWw) rfl
theorem amn:Sound Tryz.prog 126 φL6:=by
 refine ak mixed azx Tryz.func126 rfl 36 rfl [.tmp 4] rfl (by kernel_rfl) fun ps r hr=>?_;obtain⟨w,pats,rfl,hpre,rfl⟩:=gN hr;refine⟨by simp,?_⟩;simp only[dIs,dUs,dSs,bP,bS,bQ,bT,aP,bR,aQ,aO,aR,aL];have apr:=aex hpre;have hps:∀k,k<(bO w pats).length→((bO w pats)[k]?.getD .empty).size≤1048576:=fun k hk=>by have:=aG (adL hk);omega
 have hpl:=kD w pats;unfold wiR;generalize bO w pats=ps at*;have hwl:=aaN ps;clear hpre;have gl6_c98:=aAf;have gl6_c180:=auH;(refine wlk ?_;intros);refine aB (α:=Nat×Nat×Nat) mixed (fun z=>[(0,.val (.string w)),(5,.row z.2.1 7 0 (wiK ps z.1).length),(6,.lst true 1 (ps.map pvS)),(7,iv z.1)])
  (fun z=>[(z.2.1,111,7,(wiK ps z.1).map gG)]) (fun z=>z.2.2)
  (fun z=>z.1≤ps.length∧z.2.1<z.2.2) (fun z=>ps.length-z.1) (by kernel_rfl) (0,0,1) ⟨Nat.zero_le _,by simp⟩ ?_ ?_ rfl ?_
 ·simp(disch:=(first|omega|(simp only[push_cast];first|done|omega))) only[push_cast,↓reduceIte,Rq,Rb,Ra,Rs,Rt,wiK,List.length_nil, *]
 ·simp(disch:=(first|omega|(simp only[push_cast];first|done|omega))) only[push_cast,↓reduceIte,Rq,Rb,Ra,Rs,Rt,wiK,List.map_nil, *]
 rintro⟨k,x,y⟩ ⟨hk,hxy⟩;dsimp only at hk hxy;have hlk:=hwl k;by_cases h0:k<ps.length
 ·have apw:=afb (hps k h0)
  have hn:wiK ps (k+1)=(if k=0 then wiK ps k else wiK ps k++[(3,3,0,0,0,50,true)])++[(1,pV (ps[k]?.getD .empty),0,0,0,0,false)]:=rfl;by_cases hz:k=0
  ·rw[if_pos hz]at hn
   replace hn:=Lib.hid hn;replace hz:k<1:=by omega
   generalize wiK ps k=out at*;clear hwl hps;(refine wlk ?_;intros);refine⟨(k+1,y+1,y+2),⟨by dsimp only;omega,by dsimp only;omega⟩,by dsimp only;omega,?_,?_,rfl⟩
   ·dsimp only
    rw[hn.out];exact agr
   ·dsimp only
    rw[hn.out];exact agr
  ·rw[if_neg hz]at hn
   replace hn:=Lib.hid hn;generalize wiK ps k=out at*;clear hwl hps;(refine wlk ?_;intros);refine⟨(k+1,y+3,y+4),⟨by dsimp only;omega,by dsimp only;omega⟩,by dsimp only;omega,?_,?_,rfl⟩
   ·dsimp only
    rw[hn.out];exact agr
   ·dsimp only
    rw[hn.out];exact agr
 ·obtain rfl:k=ps.length:=by omega
  generalize wiK ps ps.length=out at*;clear hwl hps;exact wlkF
def φPi:Fun:=F2 dSs dSs fun ws pats=>if oM ws∧oM pats then some (.tup [.lst true 7 ((piV ws pats).map gG),bv (tK ws pats)])else none
theorem awD {ws pats:LS} (h:oM ws∧oM pats):φPi [.lst false 1 (ws.map fun s=> .val (.string s)),.lst false 1 (pats.map fun s=> .val (.string s))]=some (.tup [.lst true 7 ((piV ws pats).map gG),.val (.bool (tK ws pats))]):=(fZ (A:=dSs) (B:=dSs) ws pats).trans (if_pos h)
theorem xG {ws:LS} (h:bD ws=true):ws.length≤12:=by unfold bD at h;rw[Bool.and_eq_true]at h;exact of_decide_eq_true h.1
theorem nY {ws:LS} (h:bD ws=true) {k:Nat} (hk:k<ws.length):bY (ws[k]?.getD .empty)=true:=by unfold bD at h;rw[Bool.and_eq_true,List.all_eq_true]at h;rw[List.getElem?_eq_getElem hk,Option.getD_some];exact h.2 _ (List.getElem_mem hk)
def GPi:Ctx:={fn:=aT [(32,jF),(33,gT),(126,φL6)],io:=aT []}
theorem aBz:au Tryz.prog GPi:=okΓ (fC Tryz.func32 kK (fC Tryz.func33 dM (fC Tryz.func126 amn aj))) aj
def agH:=ah (Γ:=GPi) (f:=32) (φ:=jF) rfl
def agx:=ah (Γ:=GPi) (f:=33) (φ:=gT) rfl
def abl:=ah (Γ:=GPi) (f:=126) (φ:=φL6) rfl
theorem anJ:Sound Tryz.prog 96 φPi:=by
 refine ak mixed aBz Tryz.func96 rfl 56 rfl [.tmp 4,.tmp 5] rfl (by kernel_rfl) fun ps r hr=>?_;obtain⟨ws,pats,rfl,hpre,rfl⟩:=gN hr;refine⟨by simp,?_⟩;simp only[dIs,dUs,dSs,bP,bS,bQ,bT,aP,bR,aQ,aO,aR,aL];have ap1:=oq hpre.1;have ap2:=iU hpre.2;have hwl0:=hpre.1.1;unfold piV;cases hw:bD ws with
 |false=>
  have hB:tK ws pats=false:=by unfold tK;rw[hw];rfl
  rw[hw]at ap1;rw[hB,if_neg (by decide)];clear hpre hw hB;have gpi_c32:=agH;have gpi_c33:=agx;have gpi_c126:=abl;exact wlkF
 |true=>
 cases hp:bA pats with
 |false=>
  have hB:tK ws pats=false:=by unfold tK;rw[hw,hp];rfl
  rw[hw]at ap1;rw[hp]at ap2;rw[hB,if_neg (by decide)];clear hpre hw hp hB;have gpi_c32:=agH;have gpi_c33:=agx;have gpi_c126:=abl;exact wlkF
 |true=>
 by_cases hz:ws.length=0
 ·have hB:tK ws pats=false:=by unfold tK;rw[hw,hp,hz];rfl
  rw[hw]at ap1;rw[hp]at ap2;rw[hB,if_neg (by decide)];clear hpre hw hp hB;have gpi_c32:=agH;have gpi_c33:=agx;have gpi_c126:=abl;exact wlkF
 ·have hB:tK ws pats=decide ((piR ws pats).length≤60):=by unfold tK;rw[hw,hp,decide_eq_true (show 0<ws.length by omega)];rfl
  rw[hw]at ap1;rw[hp]at ap2;have hwl:=xG hw;have hap:∀k,k<ws.length→φL6 [.val (.string (ws[k]?.getD .empty)),.lst false 1 (pats.map fun s=> .val (.string s))]=some (.lst true 7 ((wiR (ws[k]?.getD .empty) pats).map gG)):=fun k hk=>axH ⟨hpre.1.2 k,hpre.2⟩;have hkl:=ad6 ws pats;have hil:∀k:Nat,(wiR (ws[k]?.getD .empty) pats).length≤42:=fun k=>alR _ _;rw[hB];have hR:piR ws pats=piK ws pats ws.length++[(3,0,0,0,0,10000,false),(2,0,1,0,1,0,false),(3,0,0,0,0,-10000,false)]:=rfl;rw[hR];clear hpre hw hp hB hR;have gpi_c32:=agH;have gpi_c33:=agx;have gpi_c126:=abl;(refine wlk ?_;intros);refine aB (α:=Nat×Nat×Nat) mixed (fun z=>[(0,.lst false 1 (ws.map pvS)),(1,.lst false 1 (pats.map pvS)),(6,.row z.2.1 7 0 (piK ws pats z.1).length),(7,iv z.1)])
   (fun z=>[(z.2.1,111,7,(piK ws pats z.1).map gG)]) (fun z=>z.2.2)
   (fun z=>z.1≤ws.length∧z.2.1<z.2.2) (fun z=>ws.length-z.1) (by kernel_rfl) (0,0,1) ⟨Nat.zero_le _,by simp⟩ ?_ ?_ rfl ?_
  ·simp(disch:=(first|omega|(simp only[push_cast];first|done|omega))) only[push_cast,↓reduceIte,Rq,Rb,Ra,Rs,Rt,piK,List.length_nil, *]
  ·simp(disch:=(first|omega|(simp only[push_cast];first|done|omega))) only[push_cast,↓reduceIte,Rq,Rb,Ra,Rs,Rt,piK,List.map_nil, *]
  rintro⟨k,x,y⟩ ⟨hk,hxy⟩;dsimp only at hk hxy;have hlk:=hkl k;have hlw:=hil k;by_cases h0:k<ws.length
  ·have apk:=hap k h0
   have hn:piK ws pats (k+1)=(if k=0 then piK ws pats k else piK ws pats k++[(2,4,3,1,0,0,false)])++wiR (ws[k]?.getD .empty) pats:=rfl;generalize wiR (ws[k]?.getD .empty) pats=its at*;by_cases hk0:k=0
   ·rw[if_pos hk0]at hn
    replace hn:=Lib.hid hn;replace hk0:k<1:=by omega
    generalize piK ws pats k=out at*;clear hkl hil hap;(refine wlk ?_;intros);refine⟨(k+1,y,y+1),⟨by dsimp only;omega,by dsimp only;omega⟩,by dsimp only;omega,?_,?_,rfl⟩
    ·dsimp only
     rw[hn.out];exact agr
    ·dsimp only
     rw[hn.out];exact agr
   ·rw[if_neg hk0]at hn
    replace hn:=Lib.hid hn;generalize piK ws pats k=out at*;clear hkl hil hap;(refine wlk ?_;intros);refine⟨(k+1,y+2,y+3),⟨by dsimp only;omega,by dsimp only;omega⟩,by dsimp only;omega,?_,?_,rfl⟩
    ·dsimp only
     rw[hn.out];exact agr
    ·dsimp only
     rw[hn.out];exact agr
  ·obtain rfl:k=ws.length:=by omega
   generalize piK ws pats ws.length=out at*;clear hkl hil hap;by_cases h60:out.length+3≤60
   ·rw[decide_eq_true (by simpa using h60),if_pos rfl]
    exact wlkF
   ·rw[decide_eq_false (by simpa using h60),if_neg (by decide)]
    exact wlkF
abbrev gy (l:List It):PV:=.lst false 7 (l.map gG)
theorem agm (l:List It) (n:Nat):mZ l n=if(l[n]?.getD it0).1=2 then decide (0<n∧(l[n-1]?.getD it0).1=1)else decide ((l[n]?.getD it0).1=3∧(l[n]?.getD it0).2.2.2.2.2.1<10000):=rfl
theorem nT (x:It):forced x=decide (x.1=3∧x.2.2.2.2.2.1=-10000):=rfl
def φBq:Fun:=F2 oQ dI fun l n=>open Classical in if aW l=true∧0≤n∧n<l.length then some (bv (mZ l n.toNat))else none
theorem ab2 {l:List It} {n:Nat} (h:aW l=true) (h2:n<l.length):φBq [gy l,.val (.int .i64 n)]=some (.val (.bool (mZ l n))):=(fZ (A:=oQ) (B:=dI) l n).trans (if_pos ⟨h,by omega,by omega⟩)
theorem acy:Sound Tryz.prog 128 φBq:=by
 refine ak mixed bV Tryz.func128 rfl 36 rfl [.tmp 4] rfl (by kernel_rfl) fun ps r hr=>?_;obtain⟨l,n,rfl,hpre,rfl⟩:=gN hr;refine⟨by simp,?_⟩;simp only[dIs,dUs,dSs,bP,bS,bQ,bT,aP,bR,aQ,aO,aR,aL];obtain⟨hB,hn0,hn1⟩:=hpre;obtain⟨m,rfl⟩:∃m:Nat,n=m:=⟨n.toNat,by omega⟩;have hl:=bK hB;show pq _ _ _ _ _ (bX [gy l,.val (.int .i64 m)]).tm _ _;have hm:m<l.length:=by omega
 have e1:0<m→((m:Int)-1).toNat=m-1:=fun h=>by omega
 rw[Int.toNat_natCast,agm];clear hB;by_cases h0:0<m
 ·have e1:=e1 h0
  generalize hx:l[m]?.getD it0=x at*;generalize hy:l[m-1]?.getD it0=y at*;obtain⟨a,b,c,d,e,f,g⟩:=x;obtain⟨a',b',c',d',e',f',g'⟩:=y;dsimp only
  ((refine wlk6 ?_ ?_ ?_ ?_ ?_ ?_<;>intros<;>try with_reducible exact trivial)<;>(refine fnG ?_;try with_reducible exact trivial));all_goals((refine congrArg (fun z=>some (PV.val (Value.bool z))) ?_);first|(simp_all;done)|(simp_all;omega))
 ·generalize hx:l[m]?.getD it0=x at*
  obtain⟨a,b,c,d,e,f,g⟩:=x;clear e1;dsimp only
  ((refine wlk6 ?_ ?_ ?_ ?_ ?_ ?_<;>intros<;>try with_reducible exact trivial)<;>(refine fnG ?_;try with_reducible exact trivial));all_goals((refine congrArg (fun z=>some (PV.val (Value.bool z))) ?_);first|(simp_all;done)|(simp_all;omega))
def φMb:Fun:=F2 oQ dI fun l n=>open Classical in if aW l=true∧-1000≤n∧n≤1000 then some (bv (decide (0≤n∧n<l.length)&&mZ l n.toNat))else none
theorem alA {l:List It} {n:Int} (h:aW l=true) (h2:-1000≤n∧n≤1000):φMb [gy l,.val (.int .i64 n)]=some (.val (.bool (decide (0≤n∧n<l.length)&&mZ l n.toNat))):=(fZ (A:=oQ) (B:=dI) l n).trans (if_pos ⟨h,h2⟩)
def GMb:Ctx:={fn:=aT [(64,φIn)],io:=aT []}
theorem aBS:au Tryz.prog GMb:=okΓ (fC Tryz.func64 sD aj) aj
def alH:=ah (Γ:=GMb) (f:=64) (φ:=φIn) rfl
theorem akw:Sound Tryz.prog 177 φMb:=by
 refine ak mixed aBS Tryz.func177 rfl 44 rfl [.tmp 4] rfl (by kernel_rfl) fun ps r hr=>?_;obtain⟨l,n,rfl,hpre,rfl⟩:=gN hr;refine⟨by simp,?_⟩;simp only[dIs,dUs,dSs,bP,bS,bQ,bT,aP,bR,aQ,aO,aR,aL];obtain⟨hB,hn0,hn1⟩:=hpre;have hl:=bK hB;show pq _ _ _ _ _ (bX [gy l,.val (.int .i64 n)]).tm _ _;have ap:=bI;clear hB;by_cases hr:0≤n∧n<l.length
 ·obtain⟨m,rfl⟩:∃m:Nat,n=m:=⟨n.toNat,by omega⟩
  have hm:m<l.length:=by omega
  have hin:inB (m:Int) 0 ((l.length:Int)-1)=true:=aD.2 ⟨by omega,by omega⟩;have e1:0<m→((m:Int)-1).toNat=m-1:=fun h=>by omega
  rw[decide_eq_true hr,Bool.true_and,Int.toNat_natCast,agm];clear hr;by_cases h0:0<m
  ·have e1:=e1 h0
   generalize hx:l[m]?.getD it0=x at*;generalize hy:l[m-1]?.getD it0=y at*;obtain⟨a,b,c,d,e,f,g⟩:=x;obtain⟨a',b',c',d',e',f',g'⟩:=y;dsimp only
   have gmb_c64:=alH;((refine wlk6 ?_ ?_ ?_ ?_ ?_ ?_<;>intros<;>try with_reducible exact trivial)<;>(refine fnG ?_;try with_reducible exact trivial));all_goals((refine congrArg (fun z=>some (PV.val (Value.bool z))) ?_);first|(simp_all;done)|(simp_all;omega))
  ·generalize hx:l[m]?.getD it0=x at*
   obtain⟨a,b,c,d,e,f,g⟩:=x;clear e1;dsimp only
   have gmb_c64:=alH;((refine wlk6 ?_ ?_ ?_ ?_ ?_ ?_<;>intros<;>try with_reducible exact trivial)<;>(refine fnG ?_;try with_reducible exact trivial));all_goals((refine congrArg (fun z=>some (PV.val (Value.bool z))) ?_);first|(simp_all;done)|(simp_all;omega))
 ·have hin:inB n 0 ((l.length:Int)-1)=false:=Bool.eq_false_iff.2 fun q=>by have:=aD.1 q;omega
  rw[decide_eq_false hr,Bool.false_and];clear hr;have gmb_c64:=alH;exact wlkF
def φFc:Fun:=F1 dIt fun x=>some (bv (forced x))
theorem amZ {a b c d e f:Int} {g:Bool}:φFc [.agg [.val (.int .i64 a),.val (.int .i64 b),.val (.int .i64 c),.val (.int .i64 d),.val (.int .i64 e),.val (.int .i64 f),.val (.bool g)]]=some (.val (.bool (forced (a,b,c,d,e,f,g)))):=dY (A:=dIt) (a,b,c,d,e,f,g)
theorem acg:Sound Tryz.prog 179 φFc:=by
 refine ak mixed bV Tryz.func179 rfl 11 rfl [.tmp 2] rfl (by kernel_rfl) fun ps r hr=>?_;obtain⟨⟨a,b,c,d,e,f,g⟩,rfl,hr⟩:=bC hr;cases hr;refine⟨by simp,?_⟩;simp only[dIs,dUs,dSs,bP,bS,bQ,bT,aP,bR,aQ,aO,aR,aL];simp only[ayX,bP,bQ];rw[nT];dsimp only
 ((refine wlk6 ?_ ?_ ?_ ?_ ?_ ?_<;>intros<;>try with_reducible exact trivial)<;>(refine fnG ?_;try with_reducible exact trivial));all_goals((refine congrArg (fun z=>some (PV.val (Value.bool z))) ?_);first|(simp_all;done)|(simp_all;omega))
def φSt:Fun:=F2 oQ dI fun l n=>open Classical in if aW l=true∧-1≤n∧n<l.length then some (iv (aF l (n+1).toNat))else none
theorem aeD {l:List It} {a:Nat} (h:aW l=true) (h2:a≤l.length):φSt [gy l,.val (.int .i64 ((a:Int)-1))]=some (.val (.int .i64 (aF l a))):=(fZ (A:=oQ) (B:=dI) l ((a:Int)-1)).trans ((if_pos ⟨h,by omega,by omega⟩).trans (by rw[show((a:Int)-1+1).toNat=a by omega]))
theorem akB {l:List It} {a:Nat}:aF l a=if a<l.length∧¬(l[a]?.getD it0).1=1∧¬((l[a]?.getD it0).1=3∧(l[a]?.getD it0).2.2.2.2.2.1=-10000)then aF l (a+1)else a:=by
 split
 ·rename_i h
  exact aBg h.1 h.2.1 (decide_eq_false h.2.2)
 ·rename_i h
  refine aqC fun q=>h ⟨q.1,q.2.1,fun r=>?_⟩;have:=q.2.2;rw[nT,decide_eq_true r]at this;cases this
def aGV:Ctx:={fn:=aT [(179,φFc)],io:=aT []}
theorem awR:au Tryz.prog aGV:=okΓ (fC Tryz.func179 acg aj) aj
def ao0:=ah (Γ:=aGV) (f:=179) (φ:=φFc) rfl
theorem amT:Sound Tryz.prog 178 φSt:=by
 refine ak mixed awR Tryz.func178 rfl 31 rfl [.tmp 4] rfl (by kernel_rfl) fun ps r hr=>?_;obtain⟨l,n,rfl,hpre,rfl⟩:=gN hr;refine⟨by simp,?_⟩;simp only[dIs,dUs,dSs,bP,bS,bQ,bT,aP,bR,aQ,aO,aR,aL];obtain⟨hB,hn0,hn1⟩:=hpre;obtain⟨a,rfl⟩:∃a:Nat,n=(a:Int)-1:=⟨(n+1).toNat,by omega⟩;have hl:=bK hB;have ha:a≤l.length:=by omega
 show pq _ _ _ _ _ (bX [gy l,.val (.int .i64 ((a:Int)-1))]).tm _ _;rw[show((a:Int)-1+1).toNat=a by omega];have ap:=@amZ;clear hB hn0 hn1;generalize hR:aF l a=R;replace hR:=Lib.hid hR;have gsti_c179:=ao0;(refine wlk ?_;intros);refine aB (α:=Nat) mixed (fun k=>[(0,gy l),(5,iv k)]) (fun _=>[]) (fun _=>0)
  (fun k=>k≤l.length∧aF l k=R) (fun k=>l.length-k) (by kernel_rfl) a ⟨ha,hR.out⟩ ?_ ?_ rfl ?_
 ·exact agi
 ·exact agr
 rintro k ⟨hk,hI⟩;rw[akB]at hI;clear hR ha;by_cases h0:k<l.length
 ·generalize hx:l[k]?.getD it0=x at*
  obtain⟨kd,b,c,d,e,cost,g⟩:=x;dsimp only at hI;by_cases h1:kd=1
  ·rw[if_neg (by omega)]at hI
   subst hI;exact wlkF
  ·by_cases h3:kd=3∧cost=-10000
   ·rw[if_neg (by omega)]at hI
    have hf:forced (kd,b,c,d,e,cost,g)=true:=by rw[nT];exact decide_eq_true h3
    subst hI;clear h3;exact wlkF
   ·rw[if_pos ⟨h0,h1,h3⟩]at hI
    have hf:forced (kd,b,c,d,e,cost,g)=false:=by rw[nT];exact decide_eq_false h3
    replace hI:=Lib.hid hI;clear h3;(refine wlk ?_;intros);refine⟨k+1,⟨by omega,hI.out⟩,by dsimp only;omega,?_,?_,rfl⟩
    ·exact agr
    ·exact agr
 ·rw[if_neg (fun q=>h0 q.1)]at hI
  subst hI;exact wlkF
theorem adp:Sound Tryz.prog 182 φSt:=by
 refine ak mixed bV Tryz.func182 rfl 39 rfl [.tmp 4] rfl (by kernel_rfl) fun ps r hr=>?_;obtain⟨l,n,rfl,hpre,rfl⟩:=gN hr;refine⟨by simp,?_⟩;simp only[dIs,dUs,dSs,bP,bS,bQ,bT,aP,bR,aQ,aO,aR,aL];obtain⟨hB,hn0,hn1⟩:=hpre;obtain⟨a,rfl⟩:∃a:Nat,n=(a:Int)-1:=⟨(n+1).toNat,by omega⟩;have hl:=bK hB;have hat:=fun k hk=>(gZ hB (k:=k) hk).cost;have ha:a≤l.length:=by omega
 show pq _ _ _ _ _ (bX [gy l,.val (.int .i64 ((a:Int)-1))]).tm _ _;rw[show((a:Int)-1+1).toNat=a by omega];clear hB hn0 hn1;generalize hR:aF l a=R;replace hR:=Lib.hid hR;(refine wlk ?_;intros);refine aB (α:=Nat) mixed (fun k=>[(0,gy l),(5,iv k)]) (fun _=>[]) (fun _=>0)
  (fun k=>k≤l.length∧aF l k=R) (fun k=>l.length-k) (by kernel_rfl) a ⟨ha,hR.out⟩ ?_ ?_ rfl ?_
 ·exact agi
 ·exact agr
 rintro k ⟨hk,hI⟩;rw[akB]at hI;clear hR ha;by_cases h0:k<l.length
 ·have hc:(0≤(l[k]?.getD it0).2.2.2.2.2.1∧(l[k]?.getD it0).2.2.2.2.2.1≤10000)∨(l[k]?.getD it0).2.2.2.2.2.1=-10000:=hat k h0
  clear hat;generalize hx:l[k]?.getD it0=x at*;obtain⟨kd,b,c,d,e,cost,g⟩:=x;dsimp only at hI hc;by_cases h1:kd=1
  ·rw[if_neg (by omega)]at hI
   subst hI;clear hc;exact wlkF
  ·by_cases h3:kd=3∧cost=-10000
   ·rw[if_neg (by omega)]at hI
    subst hI;obtain⟨h3,h4⟩:=h3;subst h3;subst h4;clear hc h1;exact wlkF
   ·rw[if_pos ⟨h0,h1,h3⟩]at hI
    replace hI:=Lib.hid hI;by_cases h5:kd=3
    ·have h6:0≤cost:=by omega
     clear hc h3 h1;subst h5;(refine wlk ?_;intros);refine⟨k+1,⟨by omega,hI.out⟩,by dsimp only;omega,?_,?_,rfl⟩
     ·exact agr
     ·exact agr
    ·clear hc h3
     (refine wlk ?_;intros);refine⟨k+1,⟨by omega,hI.out⟩,by dsimp only;omega,?_,?_,rfl⟩
     ·exact agr
     ·exact agr
 ·rw[if_neg (fun q=>h0 q.1)]at hI
  subst hI;clear hat;exact wlkF
def φNf:Fun:=F3 oQ dI dI fun l n m=>open Classical in if aW l=true∧-1≤n∧n<m∧m<l.length then some (bv (uQ l (n+1).toNat m.toNat))else none
theorem ayx {l:List It} {a b:Nat} (h:aW l=true) (h2:a≤b) (h3:b<l.length):φNf [gy l,.val (.int .i64 ((a:Int)-1)),.val (.int .i64 b)]=some (.val (.bool (uQ l a b))):=(adE (A:=oQ) (B:=dI) (C:=dI) l ((a:Int)-1) b).trans ((if_pos ⟨h,by omega,by omega,by omega⟩).trans (by rw[show((a:Int)-1+1).toNat=a by omega,Int.toNat_natCast]))
theorem anm:Sound Tryz.prog 183 φNf:=by
 refine ak mixed bV Tryz.func183 rfl 29 rfl [.tmp 6] rfl (by kernel_rfl) fun ps r hr=>?_;obtain⟨l,n,m,rfl,hpre,rfl⟩:=aby hr;refine⟨by simp,?_⟩;simp only[dIs,dUs,dSs,bP,bS,bQ,bT,aP,bR,aQ,aO,aR,aL];obtain⟨hB,hn0,hn1,hn2⟩:=hpre;obtain⟨a,rfl⟩:∃a:Nat,n=(a:Int)-1:=⟨(n+1).toNat,by omega⟩;obtain⟨b,rfl⟩:∃b:Nat,m=b:=⟨m.toNat,by omega⟩;have hl:=bK hB;have hab:a≤b:=by omega
 have hbl:b<l.length:=by omega
 show pq _ _ _ _ _ (bX [gy l,.val (.int .i64 ((a:Int)-1)),.val (.int .i64 b)]).tm _ _;rw[show((a:Int)-1+1).toNat=a by omega,Int.toNat_natCast];clear hB hn0 hn1 hn2;(refine wlk ?_;intros);refine aB (α:=Nat) mixed (fun k=>[(0,gy l),(2,iv b),(7,iv k)]) (fun _=>[]) (fun _=>0)
  (fun k=>(a≤k∧k≤b)∧uQ l a k=true) (fun k=>b-k) (by kernel_rfl) a ⟨⟨Nat.le_refl _,hab⟩,aaC (Nat.le_refl _)⟩ ?_ ?_ rfl ?_
 ·exact agi
 ·exact agr
 rintro k ⟨⟨hk1,hk2⟩,hI⟩;by_cases h0:k<b
 ·have hs:=xQ (l:=l) hk1
  rw[hI,Bool.true_and]at hs;have hno:=fun h=>aeI (b:=b) (l:=l) h hk1 h0;have hfr:forced (gI l k)=decide ((l[k]?.getD it0).1=3∧(l[k]?.getD it0).2.2.2.2.2.1=-10000):=rfl;rw[hfr]at hs;clear hI hfr;generalize hx:l[k]?.getD it0=x at*;obtain⟨kd,w9,c,d,e,cost,g⟩:=x;dsimp only at hs;by_cases h3:kd=3∧cost=-10000
  ·rw[decide_eq_true h3]at hs
   rw[hno hs];obtain⟨h3,h4⟩:=h3;subst h3;subst h4;clear hs hno;exact wlkF
  ·rw[decide_eq_false h3]at hs
   replace hs:=Lib.hid hs;clear hno;by_cases h5:kd=3
   ·have h6:¬cost=-10000:=fun q=>h3 ⟨h5,q⟩
    clear h3;subst h5;(refine wlk ?_;intros);refine⟨k+1,⟨⟨by omega,by omega⟩,hs.out⟩,by dsimp only;omega,?_,?_,rfl⟩
    ·exact agr
    ·exact agr
   ·clear h3
    (refine wlk ?_;intros);refine⟨k+1,⟨⟨by omega,by omega⟩,hs.out⟩,by dsimp only;omega,?_,?_,rfl⟩
    ·exact agr
    ·exact agr
 ·obtain rfl:k=b:=by omega
  rw[hI];clear hI;exact wlkF
def φLq:Fun:=F3 oQ dI dI fun l n m=>open Classical in if aW l=true∧-1≤n∧n<m∧m<l.length then some (bv (dX l (n+1).toNat m.toNat))else none
theorem akq {l:List It} {a b:Nat} (h:aW l=true) (h2:a≤b) (h3:b<l.length):φLq [gy l,.val (.int .i64 ((a:Int)-1)),.val (.int .i64 b)]=some (.val (.bool (dX l a b))):=(adE (A:=oQ) (B:=dI) (C:=dI) l ((a:Int)-1) b).trans ((if_pos ⟨h,by omega,by omega,by omega⟩).trans (by rw[show((a:Int)-1+1).toNat=a by omega,Int.toNat_natCast]))
def GLq:Ctx:={fn:=aT [(34,φIn),(128,φBq),(182,φSt),(183,φNf)],io:=aT []}
theorem aDp:au Tryz.prog GLq:=okΓ (fC Tryz.func34 fK (fC Tryz.func128 acy (fC Tryz.func182 adp (fC Tryz.func183 anm aj)))) aj
def atq:=ah (Γ:=GLq) (f:=34) (φ:=φIn) rfl
def akD:=ah (Γ:=GLq) (f:=128) (φ:=φBq) rfl
def alb:=ah (Γ:=GLq) (f:=182) (φ:=φSt) rfl
def alr:=ah (Γ:=GLq) (f:=183) (φ:=φNf) rfl
theorem akZ:Sound Tryz.prog 129 φLq:=by
 refine ak mixed aDp Tryz.func129 rfl 45 rfl [.tmp 6] rfl (by kernel_rfl) fun ps r hr=>?_;obtain⟨l,n,m,rfl,hpre,rfl⟩:=aby hr;refine⟨by simp,?_⟩;simp only[dIs,dUs,dSs,bP,bS,bQ,bT,aP,bR,aQ,aO,aR,aL];obtain⟨hB,hn0,hn1,hn2⟩:=hpre;obtain⟨a,rfl⟩:∃a:Nat,n=(a:Int)-1:=⟨(n+1).toNat,by omega⟩;obtain⟨b,rfl⟩:∃b:Nat,m=b:=⟨m.toNat,by omega⟩;have hl:=bK hB;have hab:a≤b:=by omega
 have hbl:b<l.length:=by omega
 show pq _ _ _ _ _ (bX [gy l,.val (.int .i64 ((a:Int)-1)),.val (.int .i64 b)]).tm _ _;rw[show((a:Int)-1+1).toNat=a by omega,Int.toNat_natCast];have ap1:φIn [.val (.int .i64 ((a:Int)-1)),.val (.int .i64 (-1)),.val (.int .i64 ((b:Int)-1))]=some (.val (.bool true)):=(bI _ _ _).trans (by rw[aD.2 ⟨by omega,by omega⟩]);have ap2:φIn [.val (.int .i64 b),.val (.int .i64 0),.val (.int .i64 ((l.length:Int)-1))]=some (.val (.bool true)):=(bI _ _ _).trans (by rw[aD.2 ⟨by omega,by omega⟩]);have ap3:=ab2 hB hbl;have ap5:=aeD (a:=a) hB (by omega);have ap6:=ayx hB hab hbl;have hE:dX l a b=(mZ l b&&((decide (a=0)||mZ l (a-1))&&(decide (aF l a≤b)&&uQ l a b))):=by unfold dX;rw[decide_eq_true ⟨hab,hbl⟩,Bool.true_and]
 rw[hE];clear hE hn0 hn1 hn2;generalize mZ l b=q1 at*;generalize uQ l a b=q2 at*;generalize aF l a=s9 at*;by_cases h0:a=0
 ·subst h0
  clear hB;simp only[Int.natCast_zero,Int.zero_sub]at ap1 ap5 ap6⊢;have glq_c34:=atq;have glq_c128:=akD;have glq_c182:=alb;have glq_c183:=alr;((refine wlk6 ?_ ?_ ?_ ?_ ?_ ?_<;>intros<;>try with_reducible exact trivial)<;>(refine fnG ?_;try with_reducible exact trivial));all_goals((refine congrArg (fun z=>some (PV.val (Value.bool z))) ?_);first|(simp_all;done)|(simp_all;omega))
 ·have ap4:=ab2 (n:=a-1) hB (by omega)
  rw[show((a-1:Nat):Int)=(a:Int)-1 by omega]at ap4;generalize mZ l (a-1)=q3 at*;clear hB;have glq_c34:=atq;have glq_c128:=akD;have glq_c182:=alb;have glq_c183:=alr;((refine wlk6 ?_ ?_ ?_ ?_ ?_ ?_<;>intros<;>try with_reducible exact trivial)<;>(refine fnG ?_;try with_reducible exact trivial));all_goals((refine congrArg (fun z=>some (PV.val (Value.bool z))) ?_);first|(simp_all;done)|(simp_all;omega))
end
end Go.Proofs.YtmmafcjjlbgnkaaGreatDoor
