/- What the proof rests on, part 21: contracts of functions. No condition beyond what each states. -/
import Derived.Test.YtmmafcjjlbgnkaaGreatDoorZBiE20
namespace Go.Proofs.YtmmafcjjlbgnkaaGreatDoor
open Go.RowKit
open Nat renaming reduceEqDiff→Rq,reduceBEq→Rb,reduceAdd→Ra,reduceSub→Rs
open Int renaming reduceToNat→Rt
set_option linter.all false
set_option maxHeartbeats 32000000
noncomputable section
section
open Go.RowKit Go.Sort
def rT (l:List (List UInt8)):List (List UInt8):=l.mergeSort fun x y=>decide (x≤y)
def uI (l:LS):LS:=(rT (l.map (·.data.toList))).map fun b=>⟨b.toArray⟩
theorem nM (s:ByteArray):(⟨s.data.toList.toArray⟩:ByteArray)=s:=by obtain⟨⟨x⟩⟩:=s;rfl
theorem xq (l:LS):(uI l).length=l.length:=by simp[uI,rT]
theorem amh {l:LS} {x:ByteArray}:x∈uI l↔x∈l:=by
 unfold uI rT;simp only[List.mem_map,List.mem_mergeSort];constructor
 ·rintro⟨_,⟨s,hs,rfl⟩,rfl⟩
  rw[nM];exact hs
 ·intro h
  exact⟨_,⟨x,h,rfl⟩,nM x⟩
theorem aDk {a b:List UInt8} (h:a≤b) (hne:a≠b):ltB ⟨a.toArray⟩ ⟨b.toArray⟩=true:=by
 unfold ltB BL;rw[Proofs.bytesLess_eq];simp only[decide_eq_true_eq];rcases List.le_iff_lt_or_eq.1 h with h|h
 ·exact h
 ·exact absurd h hne
theorem aom {l:LS} (h:l.Nodup):(uI l).Pairwise fun a b=>ltB a b=true:=by
 have h1:=List.pairwise_mergeSort (le:=fun x y:List UInt8=>decide (x≤y)) (fun a b c h1 h2=>by simp only[decide_eq_true_eq]at*;exact List.le_trans h1 h2) (fun a b=>by simp only[Bool.or_eq_true,decide_eq_true_eq];exact List.le_total a b) (l.map (·.data.toList));have h2:(rT (l.map (·.data.toList))).Nodup:=by refine(List.mergeSort_perm _ _).nodup_iff.2 ?_;refine List.pairwise_map.2 (h.imp fun{a b} hne e=>hne ?_);rw[←nM a,←nM b,e]
 unfold uI;rw[List.pairwise_map];exact(List.Pairwise.and h1 h2).imp fun h=>aDk (by simpa using h.1) h.2
def ajM:List PV→Option LS
 |[]=>some []
 | .val (.string s)::es=>(ajM es).map (s:: ·)
 |_::_=>none
theorem acV:∀l:LS,ajM (l.map fun s=> .val (.string s))=some l
 |[]=>rfl
 |s::l=>by show(ajM (l.map _)).map (s:: ·)=_;rw[acV l];rfl
theorem aah:∀{es:List PV} {l:LS},ajM es=some l→es=l.map fun s=> .val (.string s)
 |[],l,h=>by cases h;rfl
 |e::es,l,h=>by
  unfold ajM at h;split at h
  ·rename_i e1;cases e1
  ·rename_i s es' e1
   cases e1;rw[Option.map_eq_some_iff]at h;obtain⟨l',h1,rfl⟩:=h;rw[aah h1];rfl
  ·cases h
section
variable {P:Program} {f:Nat}
def aDA (P:Program) (f:Nat):Prop:=∀(blk cap:Nat) (ss:List (List UInt8)) (w:World),Holds Proofs.encStr w blk 0 ss.toArray→blk<w.heap.size→ss.length<4611686018427387904→
 Calls P f #[.slice (some ⟨blk,0,none⟩) ss.length cap] w fun e w'=>e=.returned (.tuple #[])∧∃n os,w'=grow (putRow Proofs.encStr (Go.Sort.ahead w n) blk 0 (rT ss).toArray) os
def aDE (P:Program) (f:Nat):Prop:=∀w:World,Calls P f #[.slice none 0 0] w fun e w'=>e=.returned (.tuple #[])∧w'=w
def tV:jh
 |[.row 0 1 0 n],[(T,1,es)]=>match ajM es with
  |some l=>if n=l.length∧n≤1000000 then some (.val (.tuple #[]),[(T,1,(uI l).map fun s=> .val (.string s))])else none
  |none=>none
 |[.val (.slice none 0 0)],[]=>some (.val (.tuple #[]),[])
 |_,_=>none
theorem akX {T:Nat} {l:LS} (h:l.length≤1000000):tV [.row 0 1 0 l.length] [(T,1,l.map fun s=> .val (.string s))]=some (.val (.tuple #[]),[(T,1,(uI l).map fun s=> .val (.string s))]):=by simp only[tV,acV];rw[if_pos ⟨trivial,h⟩]
theorem aiB:tV [.val (.slice none 0 0)] []=some (.val (.tuple #[]),[]):=rfl
theorem ay2 (h1:aDA P f) (h2:aDE P f):eT P f tV:=by
 intro w J β κ ps cs args r cs' hr hJ hO hT hargs;unfold tV at hr;split at hr
 ·rename_i n T es
  split at hr
  case h_2=>cases hr
  case h_1 l hl=>
  split at hr
  case isFalse=>cases hr
  case isTrue hn=>
  obtain⟨rfl,hn⟩:=hn;cases hr;obtain rfl:=aah hl;obtain⟨⟨arr,k1,k2⟩,k3,k4⟩:=hO.at_ 0 _ rfl;dsimp only at k1 k3 k4;obtain⟨v,hv,hrep⟩:=hargs.get.2 0 _ rfl;have hlen:=hargs.get.1;simp only[Rep]at hrep;obtain⟨c,rfl,e2,e3,e4,e5⟩:=hrep;have hβ:(dH J β κ ([(T,1,l.map fun s=>PV.val (.string s))]:List aS).length).β 0=β 0:=rfl;have hκ:(dH J β κ ([(T,1,l.map fun s=>PV.val (.string s))]:List aS).length).κ 0=κ 0:=rfl;rw[hβ]at k1 k4;rw[hκ]at k2 k3 e4;have hargs2:args=#[.slice (some ⟨β 0,0,none⟩) l.length c]:=by
   obtain⟨al⟩:=args
   match al,hlen,hv with
   |[x],_,hv=>have hx:=Option.some.inj (show some x=_ from hv);rw[hx];simp[dH]
  have hlm:(l.map fun s=>PV.val (.string s)).length=l.length:=List.length_map ..;rw[hlm]at k3;have hcell:∀j,(hj:j<l.length)→arr[j]?=some (.string l[j]):=fun j hj=>by obtain⟨u,m1,m2,m3⟩:=k4.get (i:=j) (e:=.val (.string l[j])) (by simp[hj]);simp only[Rep]at m1;subst m1;have:=m2.2 0 (by rw[m3];decide);simp only[World.cell?,k1,Nat.zero_add,Nat.mul_one,Nat.add_zero]at this;simpa [Value.cells]using this
  have hH:Holds Proofs.encStr w (β 0) 0 (l.map (·.data.toList)).toArray:=fun j hj=>by
   have hj':j<l.length:=by simpa using hj
   refine⟨?_,by simp[World.frozen?,k1]⟩;simp only[World.cell?,k1,Nat.zero_add,Option.isSome_none,Bool.false_eq_true,if_false];rw[hcell j hj'];simp[getElem!_pos,hj',nM]
  have hblk:=lt_of_heap k1;have hc:=h1 (β 0) c (l.map (·.data.toList)) w hH hblk (by rw[List.length_map];omega);rw[List.length_map]at hc;rw[hargs2];refine hc.mono ?_;rintro e w' ⟨rfl,n,os,rfl⟩;have hgr:=Go.grownBy_sorted (w:=w) (g:=β 0) (n:=n) (os:=os) (rT (l.map (·.data.toList))).toArray;have hhp:=Go.heap_sorted (w:=w) (g:=β 0) (n:=n) (os:=os) (rT (l.map (·.data.toList))).toArray k1;have hsl:(rT (l.map (·.data.toList))).length=l.length:=by simp[rT]
  have htk:=Go.take_putCells arr (rT (l.map (·.data.toList))) (by omega);refine⟨.tuple #[],β,κ,fun _=>False,rfl,⟨hgr.os,hgr.tape,hgr.output,hgr.size,fun i hi hn=>hgr.block i hi fun q=>hn ⟨0,by simp,by cases q;rfl⟩⟩,Nat.le_refl _,fun o ho=>⟨rfl,rfl⟩,fun o q1 q2=>by simp at q1 q2;omega,fun b q=>False.elim q,⟨fun o ho=>?_,fun o o' ho ho' _=>by simp at ho ho';omega,fun o c' hc'=>?_⟩,by simp[Rep]⟩
  ·obtain rfl:o=0:=by simpa using ho
   refine⟨Nat.lt_of_lt_of_le hblk hgr.size,fun k q=>?_⟩;rcases q with q|⟨_,q⟩
   ·exact(hO.lt 0 (by simp)).2 k q
   ·exact q
  ·have ho:o=0:=by have:=(List.getElem?_eq_some_iff.1 hc').1;simpa using this
   subst ho;cases hc';refine⟨⟨_,hhp,by show(putCells _ _ _ arr).size=κ 0;simp only[putCells,Array.size_mapIdx];exact k2⟩,?_,?_⟩
   ·show((uI l).map _).length*1≤κ 0
    rw[List.length_map,xq];exact k3
   ·refine bB.of fun i e he=>?_
    have hi:i<(rT (l.map (·.data.toList))).length:=by have:=(List.getElem?_eq_some_iff.1 he).1;rw[List.length_map,xq]at this;omega
    have he2:e=.val (Proofs.encStr (rT (l.map (·.data.toList)))[i]):=by have he3:((uI l).map fun s=>PV.val (.string s))[i]?=some e:=he;unfold uI at he3;rw[List.map_map,List.getElem?_map,List.getElem?_eq_getElem hi]at he3;exact(Option.some.inj he3).symm
    subst he2;refine⟨Proofs.encStr (rT (l.map (·.data.toList)))[i],by simp[Rep],⟨by simp[Value.cells,Value.oneCell'],fun j hj=>?_⟩,by simp[Value.cells]⟩;have hj0:j=0:=by simp[Value.cells]at hj;exact hj
    subst hj0;have h3:=congrArg (·[i]?) htk;rw[List.getElem?_take,if_pos hi,List.getElem?_map,List.getElem?_eq_getElem hi,Array.getElem?_toList]at h3;show World.cell? _ ⟨β 0,0+i*1+0,none⟩=_;simp only[World.cell?,hhp,Nat.zero_add,Nat.mul_one,Nat.add_zero,Option.isSome_none,Bool.false_eq_true,if_false];exact h3
 ·cases hr
  obtain⟨v,hv,hrep⟩:=hargs.get.2 0 _ rfl;have hlen:=hargs.get.1;simp only[Rep]at hrep;subst hrep;have hargs2:args=#[.slice none 0 0]:=by
   obtain⟨al⟩:=args
   match al,hlen,hv with
   |[x],_,hv=>have hx:=Option.some.inj (show some x=_ from hv);rw[hx]
  rw[hargs2];refine(h2 w).mono ?_;rintro e w' ⟨rfl,rfl⟩;exact⟨.tuple #[],β,κ,fun _=>False,rfl,Fr.refl _ _,Nat.le_refl _,fun o ho=>⟨rfl,rfl⟩,fun o q1 q2=>by simp at q2,fun b q=>False.elim q,⟨fun o ho=>by simp at ho,fun o o' ho=>by simp at ho,fun o c hc=>by simp at hc⟩,by simp[Rep]⟩
 ·cases hr
end
end
structure Gr2 (l:List W2) (M:List En) (left:List Value) (W:LS):Prop where
 nd:(M.map (·.w)).Nodup
 all:∀z,(∃m∈M,m.w=z)↔∃x∈l,x.1=z
 todo:∀m∈M,Value.string m.w∈left→m.ns=numsOf l m.w
 done:∀m∈M,¬Value.string m.w∈left→m.ns=gK l m.w
 wnd:W.Nodup
 wm:∀z,z∈W↔(∃m∈M,m.w=z)∧¬Value.string z∈left
theorem Gr2.start {l:List W2} {M:List En} (h:GrI l M):Gr2 l M ((M.map En.kv).map Prod.fst) []:=by
 have hin:∀m∈M,Value.string m.w∈(M.map En.kv).map Prod.fst:=fun m hm=>by rw[List.map_map];exact List.mem_map.2 ⟨m,hm,rfl⟩
 refine⟨h.nd,fun z=>⟨?_,?_⟩,fun m hm _=>h.ns m hm,fun m hm q=>absurd (hin m hm) q,List.nodup_nil,fun z=>⟨fun q=>(List.not_mem_nil q).elim,?_⟩⟩
 ·rintro⟨m,hm,rfl⟩;exact h.of m hm
 ·rintro⟨x,hx,rfl⟩;exact h.all x hx
 ·rintro⟨⟨m,hm,rfl⟩,q⟩;exact absurd (hin m hm) q
theorem Gr2.step {l:List W2} {M1 M2:List En} {m:En} {v':Value} {left left':List Value} {W:LS} (hl:∀x∈l,1≤x.2∧x.2≤999) (h:Gr2 l (M1++m::M2) left W) (hm:Value.string m.w∈left) (hl':∀x,x∈left'↔x∈left∧x≠ .string m.w):Gr2 l (M1++⟨m.w,v',Lib.compact (eO m.ns)⟩::M2) left' (W++[m.w]):=by
 have hne:∀x,x∈M1∨x∈M2→x.w≠m.w:=fun x hx e=>by
  have hd:=h.nd;rw[List.map_append,List.map_cons,List.nodup_append,List.nodup_cons]at hd;rcases hx with hx|hx
  ·exact hd.2.2 _ (List.mem_map.2 ⟨x,hx,rfl⟩) _ (List.mem_cons_self ..) e
  ·exact hd.2.1.1 (List.mem_map.2 ⟨x,hx,e⟩)
 have hcase:∀x∈M1++(⟨m.w,v',Lib.compact (eO m.ns)⟩:En)::M2,x=⟨m.w,v',Lib.compact (eO m.ns)⟩∨(x∈M1∨x∈M2):=fun x hx=>by
  rcases List.mem_append.1 hx with hx|hx
  ·exact .inr (.inl hx)
  ·exact(List.mem_cons.1 hx).imp id .inr
 have hin:∀x,x∈M1∨x∈M2→x∈M1++m::M2:=fun x hx=>by rcases hx with hx|hx<;>simp[hx]
 have hw:∀z,(∃x∈M1++(⟨m.w,v',Lib.compact (eO m.ns)⟩:En)::M2,x.w=z)↔∃x∈M1++m::M2,x.w=z:=fun z=>by
  constructor
  ·rintro⟨x,hx,rfl⟩
   rcases hcase x hx with rfl|hx
   ·exact⟨m,by simp,rfl⟩
   ·exact⟨x,hin x hx,rfl⟩
  ·rintro⟨x,hx,rfl⟩
   rcases List.mem_append.1 hx with hx|hx
   ·exact⟨x,by simp[hx],rfl⟩
   ·rcases List.mem_cons.1 hx with rfl|hx
    ·exact⟨⟨x.w,v',Lib.compact (eO x.ns)⟩,by simp,rfl⟩
    ·exact⟨x,by simp[hx],rfl⟩
 have hleft:∀z:ByteArray,Value.string z∈left'↔Value.string z∈left∧z≠m.w:=fun z=>by rw[hl'];simp
 refine⟨?_,fun z=>(hw z).trans (h.all z),fun x hx hxl=>?_,fun x hx hxl=>?_,?_,fun z=>?_⟩
 ·have:=h.nd
  rw[List.map_append,List.map_cons]at this⊢;exact this
 ·rw[hleft]at hxl
  rcases hcase x hx with rfl|hx
  ·exact absurd rfl hxl.2
  ·exact h.todo x (hin x hx) hxl.1
 ·rw[hleft]at hxl
  rcases hcase x hx with rfl|hx
  ·show Lib.compact (eO m.ns)=gK l m.w
   rw[h.todo m (by simp) hm,acK hl]
  ·exact h.done x (hin x hx) fun q=>hxl ⟨q,hne x hx⟩
 ·rw[List.nodup_append]
  refine⟨h.wnd,by simp,fun a ha b hb=>?_⟩;rw[List.mem_singleton.1 hb];rintro rfl;exact((h.wm _).1 ha).2 hm
 ·rw[List.mem_append,h.wm,hw,hleft,List.mem_singleton]
  constructor
  ·rintro(⟨q1,q2⟩|rfl)
   ·exact⟨q1,fun q=>q2 q.1⟩
   ·exact⟨⟨m,by simp,rfl⟩,fun q=>q.2 rfl⟩
  ·rintro⟨q1,q2⟩
   by_cases e:z=m.w
   ·exact .inr e
   ·exact .inl ⟨q1,fun q=>q2 ⟨q,e⟩⟩
theorem Gr2.words {l:List W2} {M:List En} {W:LS} (h:Gr2 l M [] W):uI W=aH l:=by refine aC5 (aom h.wnd) (zx l) fun z=>?_;rw[amh,h.wm,h.all,jk];simp
theorem Gr2.find {l:List W2} {M:List En} {W:LS} (h:Gr2 l M [] W) {w:ByteArray} (hw:w∈aH l):∃m∈M,m.w=w∧m.ns=gK l w:=by obtain⟨m,hm,rfl⟩:=(h.all w).2 (jk.1 hw);exact⟨m,hm,rfl,h.done m hm (by simp)⟩
theorem Gr2.len {l:List W2} {M:List En} {left:List Value} {W:LS} (h:Gr2 l M left W):W.length≤(aH l).length:=by
 have:∀{a b:LS},a.Nodup→(∀x∈a,x∈b)→a.length≤b.length:=by
  intro a
  induction a with
  |nil=>intro b _ _;exact Nat.zero_le _
  |cons x a ih=>
   intro b ha hb;obtain⟨p,q,rfl⟩:=List.append_of_mem (hb x (by simp));obtain⟨h1,h2⟩:=List.nodup_cons.1 ha;have:=ih (b:=p++q) h2 fun y hy=>by
    have h3:=hb y (by simp[hy]);rcases List.mem_append.1 h3 with h4|h4
    ·exact List.mem_append.2 (.inl h4)
    ·rcases List.mem_cons.1 h4 with h5|h5
     ·subst h5;exact absurd hy h1
     ·exact List.mem_append.2 (.inr h5)
   simp only[List.length_append,List.length_cons]at this⊢;omega
 refine this h.wnd fun x hx=>jk.2 ((h.all x).1 ((h.wm x).1 hx).1)
theorem Gr2.nsl {l:List W2} {M:List En} {left:List Value} {W:LS} (h:Gr2 l M left W) {m:En} (hm:m∈M):m.ns.length≤l.length:=by
 by_cases q:Value.string m.w∈left
 ·rw[h.todo m hm q];exact zm _ _
 ·rw[h.done m hm q];exact kI
theorem tu:Go.Maps.Keyed Tryz.prog 9:=Go.Maps.string_keyed Tryz.underlying9
theorem ae4:Tryz.prog.underlying 99=some (.map 9 48):=Tryz.underlying99
theorem aiZ {s:ByteArray} (h:s.size≤1000):keyOf Tryz.prog 9 (.string s)=some (.string s.data.toList):=by simp[keyOf,mapKey,Tryz.underlying9];simp only[maxLen];omega
theorem af3 (w:World):(zeroValue 48).run Tryz.prog w=.ok (.slice none 0 0) w:=l7 (by kernel_rfl) w
def ΨIx:yU:=G1 dWs fun l=>if okW l then some (nP 1 ((fT l).map fun s=> .val (.string s)) 0,nC 9 1 ((fT l).map fun s=> .val (.string s)))else none
theorem apZ (es:List PV):jW id fuel (nP 1 es 0)=some (nP 1 es 0):=by cases es<;>rfl
theorem atb {T:Nat} (l:LS):(nC T 1 (l.map fun s=>PV.val (.string s))).mapM (ng id fuel)=some (nC T 1 (l.map fun s=>PV.val (.string s))):=by
 cases l with
 |nil=>rfl
 |cons x l=>
  have h:∀l:LS,(l.map fun s=>PV.val (.string s)).mapM (jW id fuel)=some (l.map fun s=>PV.val (.string s)):=fun l=>by
   induction l with
   |nil=>rfl
   |cons x l ih=>rw[List.map_cons,List.mapM_cons,ih];rfl
  show [(T,1,(x::l).map fun s=>PV.val (.string s))].mapM (ng id fuel)=_;rw[List.mapM_cons];unfold ng;rw[h];rfl
theorem apS:SortI Tryz.prog 83:=fun blk cap zs w h1 h2 h3=>YtmmafcjjlbgnkaaGreatDoor.slices_Sort_int blk 0 cap zs w h1 h2 h3
theorem asV:aDA Tryz.prog 85:=fun blk cap ss w h1 h2 h3=>YtmmafcjjlbgnkaaGreatDoor.slices_Sort_string blk 0 cap ss w h1 h2 h3
theorem apJ:aDE Tryz.prog 85:=fun w=>YtmmafcjjlbgnkaaGreatDoor.slices_Sort_string_none none 0 w
theorem aq7:aDV Tryz.prog 84:=fun blk cap zs w h1 h2 h3=>YtmmafcjjlbgnkaaGreatDoor.slices_Compact_int blk 0 cap zs w h1 h2 h3
theorem asN:eT Tryz.prog 85 tV:=ay2 asV apJ
def at7:Ctx:={fn:=aT [(45,dV)],io:=aT [(85,tV)]}
theorem aX:au Tryz.prog at7:=okΓ (fC Tryz.func45 lg aj) (fD Tryz.func85 asN aj)
def aa5:=ah (Γ:=at7) (f:=45) (φ:=dV) rfl
theorem aa4:at7.io 85=some tV:=rfl
set_option maxRecDepth 100000 in
theorem axl:fQ Tryz.prog 46 ΨIx:=by
 refine HZ.amj (N:=71) (rs:=[.tmp 2]) Tryz.func46 rfl rfl rfl (fun ps r cs' hr=>?_) (fun ps r cs' hr=>?_)
 ·obtain⟨l,rfl,hq⟩:=wh hr
  clear hr;split at hq
  case isFalse=>cases hq
  case isTrue hpre=>
  cases hq;refine⟨?_,apZ _,atb _⟩;simp only[dIs,dUs,dSs,bP,bS,bQ,bT,aP,bR,aQ,aO,aR,aL];(exact sr)
 obtain⟨l,rfl,hq⟩:=wh hr;clear hr;split at hq
 case isFalse=>cases hq
 case isTrue hpre=>
 cases hq;refine⟨by simp,fun B w00=>HZ.start ?_⟩;show HZ _ _ _ _ _ _ (bX [.lst false 2 (l.map fun x=> .agg [.val (.string x.1),.val (.int .i64 x.2)])]) _;have apv:=gU hpre;have hl0:=hpre.1;unfold fT;refine HZ.seq (HZ.eng mixed aX (by kernel_rfl) ?_);cases hv:indexB l with
 |false=>rw[hv]at apv;rw[if_neg (by decide)];clear hpre hv;have gixi_c45:=aa5;have gixi_c85:=aa4;(refine wlk ?_;intros);refine HZ.seq (HZ.eng mixed aX (by kernel_rfl) ?_);(try dsimp only);(refine wlk ?_;intros);refine⟨?_,fun i e=>e.elim⟩;rw[List.map_nil,bW,zF];((with_reducible apply iF (by first|exact .inl rfl|exact .inr rfl));(exact sr))
 |true=>
  rw[hv]at apv;rw[if_pos rfl];obtain⟨hl30,hall⟩:=nQ.1 hv;have hsz:∀j:Nat,(l[j]?.getD w0).1.size≤20:=fun j=>by
   by_cases hj:j<l.length
   ·exact(aG (hall _ (aEr hj)).1).2.2
   ·rw[List.getElem?_eq_none (by omega)];decide
  clear hpre;have gixi_c45:=aa5;have gixi_c85:=aa4;(refine wlk ?_;intros);refine HZ.seq (HZ.eng mixed aX (by kernel_rfl) ?_);(try dsimp only);(refine wlk ?_;intros);refine HZ.seq (HZ.each (ZO.aFM (k:=9) (T:=3) rfl rfl (by decide) rfl fun b hb=>?_));dsimp only[AS.put];refine ZO.pre (imm:=⟨[],[],[]⟩) 1 aX (by kernel_rfl) (by simp only[List.take_succ_cons,List.take_zero]<;>exact rfl) (by simp only[List.drop_succ_cons,List.drop_zero]<;>exact rfl) (by simp only[List.map_cons,List.map_nil]<;>exact rfl) ?_;(try dsimp only);(refine wlk ?_;intros);refine ZO.nil ?_;(try dsimp only);refine HZ.seq (HZ.seq (HZ.eng mixed aX (by kernel_rfl) ?_));(try dsimp only);(refine wlk ?_;intros);(try dsimp only);refine HZ.block (HZ.uR (α:=Nat×Nat) (fun i=>[(0,.lst false 2 (l.map fun x=> .agg [.val (.string x.1),.val (.int .i64 x.2)])),(3,.val (.map (some b))),(16,.lst false 2 (l.map fun x=> .agg [.val (.string x.1),.val (.int .i64 x.2)])),(17,iv l.length),(18,iv i.1)])
   (fun i=>[]) (fun i=>i.2) (fun i σ=>i.1≤l.length∧∃M G,σ=ixF Tryz.prog 9 3 B b G M∧GrI (l.take i.1) M∧∀j,G j→B≤j) (fun i=>l.length-i.1) (0,0) ⟨Nat.zero_le _,[],_,rfl,GrI.nil,fun j e=>e▸hb⟩ ?_ trivial rfl ?_)
  ·(try dsimp only)
   exact agr
  rintro⟨k,y⟩ σ ⟨hk,M,G,rfl,hI,hG⟩;dsimp only at hk hI;refine HZ.seq (HZ.eng mixed aX (by kernel_rfl) ?_);(try dsimp only);(refine wlk ?_;intros);(try dsimp only);by_cases hkl:k<l.length
  ·refine HZ.seq (HZ.eng mixed aX (by kernel_rfl) ?_)
   (try dsimp only);(refine wlk ?_;intros);(try dsimp only);refine HZ.seq (HZ.block (HZ.seq (HZ.eng mixed aX (by kernel_rfl) ?_)));(try dsimp only);(refine wlk ?_;intros);(try dsimp only);obtain⟨v0,ns,hF⟩:∃v0 ns,axt M (l[k]?.getD w0).1 v0 ns:=by
    rcases aoD (M:=M) (s:=(l[k]?.getD w0).1)with h|⟨M1,m,M2,rfl,h1,h2⟩
    ·exact⟨_,_,.inl ⟨rfl,rfl,h⟩⟩
    ·exact⟨_,_,.inr ⟨m,by simp,h1,rfl,rfl⟩⟩
   have hlk:=ahz (Γ:=at7) (t:=99) (b:=b) (c:=false) (k0:=.string (l[k]?.getD w0).1) (p:=.val v0);refine HZ.avN (Γ:=at7.see ⟨99,b,oU false (.string (l[k]?.getD w0).1) (.val v0)⟩) (imm:=⟨[],[24,27,30],[y]⟩) (xs:=[28,31]) (d:=32) (RA:=fun v σ'=>∃G',(∀i,G i→G' i)∧(∀i,G' i→G i∨B≤i)∧σ'=ixH Tryz.prog 9 3 B b G' M ⟨(l[k]?.getD w0).1,v,ns++[(l[k]?.getD w0).2]⟩) 10 mixed (by simp only[List.take_succ_cons,List.take_zero]<;>exact rfl) (by simp only[List.drop_succ_cons,List.drop_zero]<;>exact rfl) (by simp only[List.map_cons,List.map_nil]<;>exact rfl) rfl rfl rfl rfl (by kernel_rfl) (by kernel_rfl) (by kernel_rfl) (by kernel_rfl) (by kernel_rfl) (fun v=>by kernel_rfl) (aqn (L:=M.map En.kv) aX (fun w h=>⟨h.1.1,h.2.map⟩) (hF.ans tu ae4 (aiZ (Nat.le_trans (hsz k) (by decide))) af3)) ?_;(try dsimp only);(refine wlk ?_;intros);(try dsimp only);(with_reducible apply i_E)
   ·rfl
   ·simp[mY,touch]
   (exact sr);(refine wlk ?_;intros);have hnl:ns.length≤k:=by have:=hI.len hF;rw[List.length_take]at this;omega
   refine⟨?_,fun s a w hz e1 e2 e3 Kn Q' hK=>?_,?_⟩
   ·rintro v σ' ⟨G',h1,h2,rfl⟩
    exact aqn (L:=M.map En.kv) aX (fun w h=>⟨h.1.1.1,h.2.map⟩) (hF.ans tu ae4 (aiZ (Nat.le_trans (hsz k) (by decide))) af3)
   ·refine Zt.append (wd:=(l[k]?.getD w0).1) (x:=.tmp 28) (y:=.tmp 31) (t:=48) (v0:=v0) (ns:=ns) (p:=(l[k]?.getD w0).2) (d:=32) (by_:=8) (z:=.int .i64 0) rfl rfl rfl (by decide) (by kernel_rfl) (by kernel_rfl) (by kernel_rfl) (by kernel_rfl) rfl ?_ ?_ hF (by omega) (by decide) hz (fun v' G' a' w' hz' hG1 hG2=>hK v' _ a' w' hz' ⟨G',hG1,hG2,rfl⟩)
    ·refine(e3 28 (by decide)).symm.trans ?_
     (exact sr)
    ·rw[show look s.tm (.tmp 31)=s.tm 31 from rfl,←e3 31 (by decide),←e1]
     (exact sr)
   ·rintro v σ' ⟨G',hG1,hG2,rfl⟩ a w hz Kn Q' hK
    refine Zt.told (t:=99) rfl rfl tu ae4 (aiZ (Nat.le_trans (hsz k) (by decide))) ?_ ?_ ?_ hz (fun a' w' hz'=>hK _ _ a' w' hz' ?_)
    ·dsimp only[AS.put]
     (exact sr)
    ·dsimp only[AS.put]
     (exact sr)
    ·dsimp only[AS.put]
     (exact sr)
    dsimp only[AS.put,X.out];refine HZ.eng mixed aX (by kernel_rfl) ?_;(try dsimp only);(refine wlk ?_;intros);(try dsimp only);refine⟨(k+1,_),⟨by omega,vk M ⟨(l[k]?.getD w0).1,v,ns++[(l[k]?.getD w0).2]⟩,G',rfl,?_,fun j hj=>(hG2 j hj).elim (hG j) id⟩,by dsimp only;omega,?_,trivial,rfl⟩
    ·dsimp only
     rw[List.take_succ_eq_append_getElem hkl,show l[k]=l[k]?.getD w0 by rw[List.getElem?_eq_getElem hkl,Option.getD_some]];exact hI.step hF
    ·(try dsimp only)
     exact agr
  ·have hke:k=l.length:=by omega
   rw[hke,List.take_length]at hI;clear hsz;refine HZ.seq (HZ.eng mixed aX (by kernel_rfl) ?_);(try dsimp only);(refine wlk ?_;intros);(try dsimp only);refine HZ.seq (HZ.eng mixed aX (by kernel_rfl) ?_);(try dsimp only);(refine wlk ?_;intros);(try dsimp only);refine HZ.seq (HZ.seq (HZ.each ?_));refine ZO.pre (imm:=⟨[],[],[]⟩) 1 aX (by kernel_rfl) (by simp only[List.take_succ_cons,List.take_zero]<;>exact rfl) (by simp only[List.drop_succ_cons,List.drop_zero]<;>exact rfl) (by simp only[List.map_cons,List.map_nil]<;>exact rfl) ?_;(try dsimp only);(refine wlk ?_;intros);(try dsimp only);refine ZO.azt (t:=99) (e:=48) rfl rfl (by decide) rfl ae4 (by(exact sr)) fun r hr=>?_;dsimp only[AS.put];refine ZO.nil ?_;(try dsimp only);refine HZ.block (HZ.uR (α:=LS×Nat×Nat×Nat) (fun i=>[(3,.val (.map (some b))),(35,.val (.pointer (some ⟨r,0,none⟩))),(6,nP 1 (i.1.map fun s=> .val (.string s)) i.2.1)])
    (fun i=>nO 9 1 (i.1.map fun s=> .val (.string s)) i.2.1) (fun i=>i.2.2.1) (fun i σ=>(0<i.1.length→i.2.1<i.2.2.1)∧∃M left cur G,σ=ixI Tryz.prog 9 3 B b r G M left cur∧Gr2 l M left i.1∧left.length=i.2.2.2∧∀j,G j→B≤j) (fun i=>i.2.2.2) ([],0,y,_) ⟨fun h=>absurd h (Nat.lt_irrefl 0),M,_,none,_,rfl,Gr2.start hI,rfl,fun j e=>e.elim (hG j) fun e=>e▸hr⟩ ?_ ?_ ?_ ?_)
   ·(try dsimp only)
    rw[List.map_nil,bW];exact agr
   ·(try dsimp only)
    rw[List.map_nil,bU];trivial
   ·rfl
   rintro⟨W,ow,y2,n2⟩ σ ⟨hoy,M2,left,cur,G2,rfl,hg2,hn2,hB2⟩;dsimp only at hoy hg2 hn2;refine HZ.seq (HZ.each ?_);refine ZO.aE5 (d:=36) (x:=.tmp 35) rfl rfl (by decide) rfl (by(exact sr)) (fun h0=>?_) (fun m hm hml left' hl' hlt=>?_)
   ·dsimp only[AS.put]
    refine ZO.pre (imm:=⟨[],[],[]⟩) 1 aX (by kernel_rfl) (by simp only[List.take_succ_cons,List.take_zero]<;>exact rfl) (by simp only[List.drop_succ_cons,List.drop_zero]<;>exact rfl) (by simp only[List.map_cons,List.map_nil]<;>exact rfl) ?_;(try dsimp only);(refine wlk ?_;intros);(try dsimp only);refine ZO.nil ?_;(try dsimp only);refine HZ.seq (HZ.eng mixed aX (by kernel_rfl) ?_);(try dsimp only);(refine wlk ?_;intros);(try simp only[X.out,↓reduceIte]);subst h0;have hsw:=hg2.words;have hWl:=hg2.len;have hWu:=nZ l;have hwl:W.length=(aH l).length:=by rw[←hsw,xq]
    refine HZ.seq (HZ.mono (K1:=fun x s' σ'=>x=.normal∧σ'=ixI Tryz.prog 9 3 B b r G2 M2 [] cur∧∃ow y3,(0<(aH l).length→ow<y3)∧agree s'.tm [(3,.val (.map (some b))),(6,nP 1 ((aH l).map fun s=> .val (.string s)) ow)]∧jc s'.ob (nO 9 1 ((aH l).map fun s=> .val (.string s)) ow)∧s'.nx=y3) ?_ ?_)
    ·by_cases hW0:W.length=0
     ·have hU0:aH l=[]:=List.eq_nil_of_length_eq_zero (by omega)
      obtain rfl:W=[]:=List.eq_nil_of_length_eq_zero hW0;have aps:=aiB;rw[hU0,List.map_nil,bW,bU];refine HZ.eng mixed aX (by kernel_rfl) ?_;(try dsimp only);have gixi_c45:=aa5;have gixi_c85:=aa4;(refine wlk ?_;intros);(try dsimp only);refine⟨rfl,rfl,0,_,fun h=>absurd h (Nat.lt_irrefl 0),?_,?_,rfl⟩
      ·rw[bW]
       exact agr
      ·trivial
     ·have hoy:=hoy (by omega)
      have aps:=akX (T:=9) (l:=W) (by omega);rw[hsw]at aps;rw[av (es:=W.map fun s=> .val (.string s)) (by rw[List.length_map];omega),ay (es:=W.map fun s=> .val (.string s)) (by rw[List.length_map];omega)];replace hwl:=Lib.hid hwl;refine HZ.eng mixed aX (by kernel_rfl) ?_;(try dsimp only);have gixi_c45:=aa5;have gixi_c85:=aa4;(refine wlk ?_;intros);(try dsimp only);replace hwl:=hwl.out;refine⟨rfl,rfl,ow,_,fun _=>hoy,?_,?_,rfl⟩
      ·rw[av (es:=(aH l).map fun s=> .val (.string s)) (by rw[List.length_map];omega)]
       exact agr
      ·rw[ay (es:=(aH l).map fun s=> .val (.string s)) (by rw[List.length_map];omega)]
       exact agr
    rintro x s' σ' ⟨rfl,rfl,ow,y3,hoy3,e1,e2,e3⟩;refine HZ.cut e1 e2 e3 ?_;have hfind:=fun w hw=>hg2.find (w:=w) hw;have hkeyU:∀w∈aH l,w.size≤20:=fun w hw=>by obtain⟨x,hx,rfl⟩:=jk.1 hw;exact(aG (hall x hx).1).2.2
    have hidx:(aH l).map (lQ l)=yT l:=rfl;have hlsz:=fun w hw=>zB hv (w:=w) hw;refine HZ.seq (HZ.eng mixed aX (by kernel_rfl) ?_);(try dsimp only);(refine wlk ?_;intros);(try dsimp only);refine HZ.seq (HZ.seq (HZ.mono (K1:=fun x s' σ'=>x=.normal∧σ'=ixI Tryz.prog 9 3 B b r G2 M2 [] cur∧agree s'.tm [(3,.val (.map (some b))),(9,.val (.slice none 0 0)),(53,nP 1 ((aH l).map fun s=> .val (.string s)) ow),(54,iv (aH l).length),(55,iv (0:Nat))]∧jc s'.ob (nO 9 1 ((aH l).map fun s=> .val (.string s)) ow)∧s'.nx=y3) ?_ ?_))
    ·by_cases hU0:(aH l).length=0
     ·rw[List.eq_nil_of_length_eq_zero hU0,List.map_nil,bW,bU]
      refine HZ.eng mixed aX (by kernel_rfl) ?_;(try dsimp only);(refine wlk ?_;intros);(try dsimp only);refine⟨rfl,rfl,?_,?_,rfl⟩
      ·exact agr
       (try rfl)
      ·trivial
     ·rw[av (es:=(aH l).map fun s=> .val (.string s)) (by rw[List.length_map];omega),ay (es:=(aH l).map fun s=> .val (.string s)) (by rw[List.length_map];omega)]
      refine HZ.eng mixed aX (by kernel_rfl) ?_;(try dsimp only);(refine wlk ?_;intros);(try dsimp only);refine⟨rfl,rfl,?_,?_,rfl⟩
      ·exact agr
       (try rfl)
      ·exact agr
    rintro x s' σ' ⟨rfl,rfl,e1,e2,e3⟩;refine HZ.block (HZ.uR (α:=Nat×Nat×Nat) (fun i=>[(3,.val (.map (some b))),(9,nP 1 (((aH l).take i.1).map fun w=> .val (.string (lQ l w))) i.2.1),(53,nP 1 ((aH l).map fun s=> .val (.string s)) ow),(54,iv (aH l).length),(55,iv i.1)])
     (fun i=>nO 9 1 ((aH l).map fun s=> .val (.string s)) ow++nO 9 1 (((aH l).take i.1).map fun w=> .val (.string (lQ l w))) i.2.1) (fun i=>i.2.2) (fun i σ=>i.1≤(aH l).length∧(0<(aH l).length→ow<i.2.2)∧(0<i.1→i.2.1<i.2.2∧ow≠i.2.1)∧σ=ixI Tryz.prog 9 3 B b r G2 M2 [] cur) (fun i=>(aH l).length-i.1) (0,0,y3) ⟨Nat.zero_le _,hoy3,fun h=>absurd h (Nat.lt_irrefl 0),rfl⟩ ?_ ?_ e3 ?_)
    ·exact e1
    ·dsimp only
     rw[List.take_zero,List.map_nil,bU,List.append_nil];exact e2
    rintro⟨j,oo,y4⟩ σ ⟨hj,ho1,ho2,rfl⟩;dsimp only at hj ho1 ho2;refine HZ.seq (HZ.eng mixed aX (by kernel_rfl) ?_);(try dsimp only);(refine wlk ?_;intros);(try dsimp only);by_cases hjl:j<(aH l).length
    ·have hwm:(aH l)[j]?.getD .empty∈aH l:=by rw[List.getElem?_eq_getElem hjl,Option.getD_some];exact List.getElem_mem hjl
     have ho1:=ho1 (by omega);obtain⟨m,hm,hmw,hmn⟩:=hfind _ hwm;have hw20:=hkeyU _ hwm;have hsp:(⟨#[32]⟩:ByteArray).size=1:=rfl;have hpl:(gK l ((aH l)[j]?.getD .empty)).length≤l.length:=kI;have hpt:=lK (nu hl30 ((aH l)[j]?.getD .empty));have hline:lQ l ((aH l)[j]?.getD .empty)=((aH l)[j]?.getD .empty++⟨#[32]⟩)++mh (gK l ((aH l)[j]?.getD .empty)):=rfl;have hF:axt M2 ((aH l)[j]?.getD .empty) m.v (gK l ((aH l)[j]?.getD .empty)):=.inr ⟨m,hm,hmw,rfl,hmn⟩;have hn1:((aH l).take (j+1)).map (fun w=>PV.val (.string (lQ l w)))=((aH l).take j).map (fun w=>PV.val (.string (lQ l w)))++[.val (.string (lQ l ((aH l)[j]?.getD .empty)))]:=by rw[List.take_succ_eq_append_getElem hjl,List.map_append,List.getElem?_eq_getElem hjl,Option.getD_some];rfl
     replace hn1:=Lib.hid hn1;have hlk:=ahz (Γ:=at7) (t:=99) (b:=b) (c:=false) (k0:=.string ((aH l)[j]?.getD .empty)) (p:=.val m.v);have htl:(((aH l).take j).map fun w=>PV.val (.string (lQ l w))).length=j:=by rw[List.length_map,List.length_take];omega
     rw[av (es:=(aH l).map fun s=> .val (.string s)) (by rw[List.length_map];omega),ay (es:=(aH l).map fun s=> .val (.string s)) (by rw[List.length_map];omega)];clear hfind hkeyU hlsz;by_cases hj0:j=0
     ·have ht0:((aH l).take j).map (fun w=>PV.val (.string (lQ l w)))=[]:=by rw[hj0];rfl
      rw[ht0,bW,bU,List.append_nil];replace hn1:=hn1.out;rw[ht0,List.nil_append]at hn1;replace hn1:=Lib.hid hn1;clear htl ht0 hj0;refine HZ.seq (HZ.eng mixed aX (by kernel_rfl) ?_);(try dsimp only);(refine wlk ?_;intros);(try dsimp only);refine HZ.seq (HZ.block (HZ.seq (HZ.eng mixed aX (by kernel_rfl) ?_)));(try dsimp only);(refine wlk ?_;intros);(try dsimp only);refine HZ.each ?_;refine ZO.aGB (Γ:=at7.see ⟨99,b,oU false (.string ((aH l)[j]?.getD .empty)) (.val m.v)⟩) (imm:=⟨[],[],[]⟩) 6 (aqn (L:=M2.map En.kv) aX (fun w h=>⟨h.1.1.1,h.2.1.it.aox⟩) (hF.ans tu ae4 (aiZ (Nat.le_trans hw20 (by decide))) af3)) (by kernel_rfl) (by simp only[List.take_succ_cons,List.take_zero]<;>exact rfl) (by simp only[List.drop_succ_cons,List.drop_zero]<;>exact rfl) (by simp only[List.map_cons,List.map_nil]<;>exact rfl) ?_;(try dsimp only);(refine wlk ?_;intros);(try dsimp only);refine ZO.aBJ (φ:=φPt) (ps:=[.lst false 1 ((gK l ((aH l)[j]?.getD .empty)).map fun n=> .val (.int .i64 n))]) (u:=.string (mh (gK l ((aH l)[j]?.getD .empty)))) rfl rfl ⟨_,Tryz.func86,rfl,rfl⟩ rfl (by rintro y ⟨⟩;decide) acQ (afa (by omega)) (fun a w1 hst=>?_) ?_
      ·obtain⟨⟨io,w0,g,hr,hC⟩,hat⟩:=hst
       obtain⟨Jm,hJ,hrep⟩:=hat.2.1.rep hm;refine⟨Jm,hJ,?_⟩;have hX:=hr.look (.tmp 64);rw[show look _ (.tmp 64)=.val m.v from by(exact sr)]at hX;simp only[Rep]at hX;simp only[List.map_toArray,List.map_cons,List.map_nil];rw[hX];exact⟨_,_,rfl,hmn▸hrep,rfl⟩
      dsimp only[AS.put];refine ZO.pre (imm:=⟨[],[],[]⟩) 4 aX (by kernel_rfl) (by simp only[List.take_succ_cons,List.take_zero]<;>exact rfl) (by simp only[List.drop_succ_cons,List.drop_zero]<;>exact rfl) (by simp only[List.map_cons,List.map_nil]<;>exact rfl) ?_;(try dsimp only);(refine wlk ?_;intros);(try dsimp only);refine ZO.nil ?_;(try dsimp only[X.out]);refine HZ.eng mixed aX (by kernel_rfl) ?_;(try dsimp only);(refine wlk ?_;intros);(try dsimp only);refine⟨(j+1,y4+1,y4+2),⟨by dsimp only;omega,fun _=>by dsimp only;omega,fun _=>⟨by dsimp only;omega,by dsimp only;omega⟩,rfl⟩,by dsimp only;omega,?_,?_,rfl⟩
      ·(try dsimp only)
       rw[hn1.out,av (by simp)];exact agi
      ·(try dsimp only)
       rw[hn1.out,ay (by simp)];simp(disch:=(first|omega|(simp only[push_cast];first|done|omega))) only[push_cast,↓reduceIte,Rq,Rb,Ra,Rs,Rt,List.cons_append,List.nil_append,List.append_nil, *]
     ·obtain⟨ho2,ho3⟩:=ho2 (by omega)
      rw[av (es:=((aH l).take j).map fun w=> .val (.string (lQ l w))) (by omega),ay (es:=((aH l).take j).map fun w=> .val (.string (lQ l w))) (by omega)];rw[htl];generalize((aH l).take j).map (fun w=>PV.val (.string (lQ l w)))=OUT at*;refine HZ.seq (HZ.eng mixed aX (by kernel_rfl) ?_);(try dsimp only);(refine wlk ?_;intros);(try dsimp only);refine HZ.seq (HZ.block (HZ.seq (HZ.eng mixed aX (by kernel_rfl) ?_)));(try dsimp only);(refine wlk ?_;intros);(try dsimp only);refine HZ.each ?_;refine ZO.aGB (Γ:=at7.see ⟨99,b,oU false (.string ((aH l)[j]?.getD .empty)) (.val m.v)⟩) (imm:=⟨[],[],[]⟩) 6 (aqn (L:=M2.map En.kv) aX (fun w h=>⟨h.1.1.1,h.2.1.it.aox⟩) (hF.ans tu ae4 (aiZ (Nat.le_trans hw20 (by decide))) af3)) (by kernel_rfl) (by simp only[List.take_succ_cons,List.take_zero]<;>exact rfl) (by simp only[List.drop_succ_cons,List.drop_zero]<;>exact rfl) (by simp only[List.map_cons,List.map_nil]<;>exact rfl) ?_;(try dsimp only);(refine wlk ?_;intros);(try dsimp only);refine ZO.aBJ (φ:=φPt) (ps:=[.lst false 1 ((gK l ((aH l)[j]?.getD .empty)).map fun n=> .val (.int .i64 n))]) (u:=.string (mh (gK l ((aH l)[j]?.getD .empty)))) rfl rfl ⟨_,Tryz.func86,rfl,rfl⟩ rfl (by rintro y ⟨⟩;decide) acQ (afa (by omega)) (fun a w1 hst=>?_) ?_
      ·obtain⟨⟨io,w0,g,hr,hC⟩,hat⟩:=hst
       obtain⟨Jm,hJ,hrep⟩:=hat.2.1.rep hm;refine⟨Jm,hJ,?_⟩;have hX:=hr.look (.tmp 64);rw[show look _ (.tmp 64)=.val m.v from by(exact sr)]at hX;simp only[Rep]at hX;simp only[List.map_toArray,List.map_cons,List.map_nil];rw[hX];exact⟨_,_,rfl,hmn▸hrep,rfl⟩
      dsimp only[AS.put];refine ZO.pre (imm:=⟨[],[],[]⟩) 4 aX (by kernel_rfl) (by simp only[List.take_succ_cons,List.take_zero]<;>exact rfl) (by simp only[List.drop_succ_cons,List.drop_zero]<;>exact rfl) (by simp only[List.map_cons,List.map_nil]<;>exact rfl) ?_;(try dsimp only);(refine wlk ?_;intros);(try dsimp only);refine ZO.nil ?_;(try dsimp only[X.out]);refine HZ.eng mixed aX (by kernel_rfl) ?_;(try dsimp only);(refine wlk ?_;intros);(try dsimp only);refine⟨(j+1,y4+1,y4+2),⟨by dsimp only;omega,fun _=>by dsimp only;omega,fun _=>⟨by dsimp only;omega,by dsimp only;omega⟩,rfl⟩,by dsimp only;omega,?_,?_,rfl⟩
      ·(try dsimp only)
       rw[hn1.out,av (by simp)];exact agi
      ·(try dsimp only)
       rw[hn1.out,ay (by simp)];simp(disch:=(first|omega|(simp only[push_cast];first|done|omega))) only[push_cast,↓reduceIte,Rq,Rb,Ra,Rs,Rt,List.cons_append,List.nil_append,List.append_nil, *]
    ·obtain rfl:j=(aH l).length:=by omega
     rw[List.take_length];have hRl:((aH l).map fun w=>PV.val (.string (lQ l w)))=(yT l).map fun s=>PV.val (.string s):=by rw[←hidx,List.map_map];rfl
     rw[hRl];clear hfind hkeyU hlsz hall;by_cases hU0:(aH l).length=0
     ·have hU1:aH l=[]:=List.eq_nil_of_length_eq_zero hU0
      have hR1:yT l=[]:=by rw[←hidx,hU1];rfl
      rw[hU1,hR1];simp only[List.map_nil,bW,zF,bU,List.append_nil];clear hRl hidx hR1 hU0 hoy3 ho1 ho2;refine HZ.seq (HZ.eng mixed aX (by kernel_rfl) ?_);(try dsimp only);(refine wlk ?_;intros);(try simp only[X.out,↓reduceIte]);refine HZ.eng mixed aX (by kernel_rfl) ?_;(try dsimp only);(refine wlk ?_;intros);(try dsimp only);all_goals refine⟨?_,fun i hi=>hB2 i hi⟩
      all_goals((with_reducible apply iF (by first|exact .inl rfl|exact .inr rfl));(exact sr))
     ·obtain⟨ho2,ho3⟩:=ho2 (by omega)
      have ho1:=ho1 (by omega);have hRl2:(yT l).length=(aH l).length:=by rw[←hidx,List.length_map]
      have hRp:0<((yT l).map fun s=>PV.val (.string s)).length:=by rw[List.length_map];omega
      rw[av (es:=(aH l).map fun s=> .val (.string s)) (by rw[List.length_map];omega),ay (es:=(aH l).map fun s=> .val (.string s)) (by rw[List.length_map];omega)];simp only[av hRp,ay hRp,ahi hRp,List.cons_append,List.nil_append];clear hRl hidx hRp;generalize yT l=R at*;refine HZ.seq (HZ.eng mixed aX (by kernel_rfl) ?_);(try dsimp only);(refine wlk ?_;intros);(try simp only[X.out,↓reduceIte]);refine HZ.eng mixed aX (by kernel_rfl) ?_;(try dsimp only);(refine wlk ?_;intros);(try dsimp only);all_goals refine⟨?_,fun i hi=>hB2 i hi⟩
      all_goals((with_reducible apply pE (oo) (by first|exact .inl rfl|exact .inr rfl));(focus(exact sr));(focus(exact sr)))
   ·obtain⟨M1,M3,rfl⟩:=List.append_of_mem hm
    have hml2:=hml;have hns:m.ns.length≤l.length:=hg2.nsl (by simp);have hkey:=aiZ (s:=m.w) (by obtain⟨x,hx,hxw⟩:=(hg2.all m.w).1 ⟨m,by simp,rfl⟩;have:=(aG (hall x hx).1).2.2;rw[←hxw];omega)
    dsimp only[AS.put];refine ZO.pre (imm:=⟨[],[],[]⟩) 1 aX (by kernel_rfl) (by simp only[List.take_succ_cons,List.take_zero]<;>exact rfl) (by simp only[List.drop_succ_cons,List.drop_zero]<;>exact rfl) (by simp only[List.map_cons,List.map_nil]<;>exact rfl) ?_;(try dsimp only);(refine wlk ?_;intros);(try dsimp only);refine ZO.nil ?_;(try dsimp only);refine HZ.seq (HZ.eng mixed aX (by kernel_rfl) ?_);(try dsimp only);(refine wlk ?_;intros);(try dsimp only);refine HZ.block (HZ.seq (HZ.each ?_));refine ZO.aCA (d:=38) (x:=.tmp 35) rfl rfl (by decide) rfl (by(exact sr)) ?_;dsimp only[AS.put];refine ZO.pre (imm:=⟨[],[],[]⟩) 4 aX (by kernel_rfl) (by simp only[List.take_succ_cons,List.take_zero]<;>exact rfl) (by simp only[List.drop_succ_cons,List.drop_zero]<;>exact rfl) (by simp only[List.map_cons,List.map_nil]<;>exact rfl) ?_;(try dsimp only);(refine wlk ?_;intros);(try dsimp only);refine ZO.nil ?_;(try dsimp only);refine HZ.seq (HZ.each ?_);refine ZO.pre (imm:=⟨[],[],[]⟩) 1 aX (by kernel_rfl) (by simp only[List.take_succ_cons,List.take_zero]<;>exact rfl) (by simp only[List.drop_succ_cons,List.drop_zero]<;>exact rfl) (by simp only[List.map_cons,List.map_nil]<;>exact rfl) ?_;(try dsimp only);(refine wlk ?_;intros);(try dsimp only);refine ZO.aGb (x:=.tmp 41) rfl rfl rfl ⟨_,Tryz.func83,rfl,rfl⟩ rfl (by rintro y ⟨⟩;decide) apS (by(exact sr)) (by omega) ?_;dsimp only[AS.put];refine ZO.nil ?_;(try dsimp only);refine HZ.seq (HZ.each ?_);refine ZO.pre (imm:=⟨[],[],[]⟩) 3 aX (by kernel_rfl) (by simp only[List.take_succ_cons,List.take_zero]<;>exact rfl) (by simp only[List.drop_succ_cons,List.drop_zero]<;>exact rfl) (by simp only[List.map_cons,List.map_nil]<;>exact rfl) ?_;(try dsimp only);(refine wlk ?_;intros);(try dsimp only);refine ZO.aFS (m:=⟨m.w,m.v,eO m.ns⟩) (d:=46) (x:=.tmp 45) rfl rfl rfl ⟨_,Tryz.func84,rfl,rfl⟩ rfl rfl (by decide) aq7 (by(exact sr)) (by rw[yg];omega) fun g cap hmv=>?_;dsimp only at hmv;dsimp only[AS.put];have hcl:=zX (eO m.ns);have htk:(Lib.compact (eO m.ns)++List.replicate ((eO m.ns).length-(Lib.compact (eO m.ns)).length) 0).take (Lib.compact (eO m.ns)).length=Lib.compact (eO m.ns):=List.take_left' rfl;refine ZO.aFx (m:=⟨m.w,m.v,Lib.compact (eO m.ns)++List.replicate ((eO m.ns).length-(Lib.compact (eO m.ns)).length) 0⟩) (t:=99) (e:=48) (n:=(eO m.ns).length) (x:=.tmp 43) (y:=.tmp 44) (z:=.tmp 46) rfl rfl rfl tu ae4 hkey (by(exact sr)) (by(exact sr)) (by(exact sr)) hmv (by rw[List.length_append,List.length_replicate];omega) hcl ?_
    dsimp only
    rw[htk];refine ZO.nil ?_;(try dsimp only);have hWl:=hg2.len;have hWu:=nZ l;have hst:=fun v'=>hg2.step (v':=v') (fun x hx=>(hall x hx).2) hml hl';by_cases hW0:W.length=0
    ·obtain rfl:W=[]:=List.eq_nil_of_length_eq_zero hW0
     rw[List.map_nil,bW,bU];refine HZ.eng mixed aX (by kernel_rfl) ?_;(try dsimp only);(refine wlk ?_;intros);(try dsimp only);refine⟨([m.w],y2+1,y2+2,left'.length),⟨fun _=>by dsimp only;omega,_,left',none,G2,rfl,hst _,rfl,hB2⟩,by dsimp only;omega,?_,?_,rfl⟩
     ·(try dsimp only)
      rw[av (by simp)];exact agr
     ·(try dsimp only)
      rw[ay (by simp)];exact agr
    ·have hoy:=hoy (by omega)
     rw[av (es:=W.map fun s=> .val (.string s)) (by rw[List.length_map];omega),ay (es:=W.map fun s=> .val (.string s)) (by rw[List.length_map];omega)];refine HZ.eng mixed aX (by kernel_rfl) ?_;(try dsimp only);(refine wlk ?_;intros);(try dsimp only);refine⟨(W++[m.w],y2+1,y2+2,left'.length),⟨fun _=>by dsimp only;omega,_,left',none,G2,rfl,hst _,rfl,hB2⟩,by dsimp only;omega,?_,?_,rfl⟩
     ·(try dsimp only)
      rw[av (by simp)];exact agr
     ·(try dsimp only)
      rw[ay (by simp)];exact agr
theorem alj (l:List W2):(fT l).length≤l.length:=by
 unfold fT;split
 ·exact aqS l
 ·simp
def asr:Fun:=F2 dS dS fun s sep=>if sep=⟨#[32]⟩∧s.size≤1048576 then some (.lst true 1 ((dR 32 s).map fun s=> .val (.string s)))else none
theorem ara {s:ByteArray} (h:s.size≤1048576):asr [.val (.string s),.val (.string ⟨#[32]⟩)]=some (.lst true 1 ((dR 32 s).map fun s=> .val (.string s))):=(fZ (A:=dS) (B:=dS) s ⟨#[32]⟩).trans (if_pos ⟨rfl,h⟩)
def asl:Fun:=F2 dS dS fun s t=>if t=⟨#[45]⟩∧s.size≤1048576 then some (.val (.string (adP s)))else none
theorem aqp {s:ByteArray} (h:s.size≤1048576):asl [.val (.string s),.val (.string ⟨#[45]⟩)]=some (.val (.string (adP s))):=(fZ (A:=dS) (B:=dS) s ⟨#[45]⟩).trans (if_pos ⟨rfl,h⟩)
def apN:Fun:=F2 dS dS fun s t=>if t=⟨#[45]⟩∧s.size≤1048576 then some (.val (.bool (azq s)))else none
theorem aq4 {s:ByteArray} (h:s.size≤1048576):apN [.val (.string s),.val (.string ⟨#[45]⟩)]=some (.val (.bool (azq s))):=(fZ (A:=dS) (B:=dS) s ⟨#[45]⟩).trans (if_pos ⟨rfl,h⟩)
theorem abG {args:Array Value} {v1 v2:Value} {w:World} {g:Gh} {s t:ByteArray} (h:bL g w [.val (.string s),.val (.string t)] args.toList):args=#[.string s,.string t]:=by simp only[bL]at h;obtain⟨v1,vs1,e1,h1,v2,vs2,rfl,h2,rfl⟩:=h;simp only[Rep]at h1 h2;subst h1;subst h2;obtain⟨a⟩:=args;simp only at e1;rw[e1]
theorem alg:Sound Tryz.prog 37 asr:=by
 intro w J ps args r hr hJ hT hargs;obtain⟨s,sep,rfl,⟨rfl,hs⟩,rfl⟩:=gN hr;rw[abG (v1:=.nilIface) (v2:=.nilIface) hargs];refine(amA 32 s w (by omega)).mono ?_;rintro e w' ⟨rfl,rfl⟩;have hlen:=zo 32 s;generalize dR 32 s=L at*;refine⟨_,rfl,ae8 (Below.refl _ _),fun g' hg=>?_⟩;simp only[Rep,List.length_map];refine⟨_,_,rfl,Nat.le_refl _,by omega,.inr ⟨w.heap.size,0,rfl,hg _ (Nat.le_refl _) (by simp),bB.of fun i e he=>?_⟩⟩;rw[List.getElem?_map,Option.map_eq_some_iff]at he;obtain⟨x,hx,rfl⟩:=he;refine⟨.string x,by simp[Rep],⟨by simp[Value.cells,Value.oneCell'],fun j hj=>?_⟩,rfl⟩;have hj0:j=0:=by have:j<1:=hj;omega
 subst hj0;simp only[World.cell?,heap_alloc_new,Nat.zero_add,Nat.mul_one,Nat.add_zero];simp[Value.cells,hx]
theorem aqY:Sound Tryz.prog 43 asl:=by intro w J ps args r hr hJ hT hargs;obtain⟨s,sep,rfl,⟨rfl,hs⟩,rfl⟩:=gN hr;rw[abG (v1:=.nilIface) (v2:=.nilIface) hargs];refine(YtmmafcjjlbgnkaaGreatDoor.strings_TrimSuffix s ⟨#[45]⟩ w (by omega)).mono ?_;rintro e w' ⟨rfl,rfl⟩;exact⟨_,rfl,Below.refl _ _,fun g' hg=>by simp[Rep,adP]⟩
theorem axo:Sound Tryz.prog 44 apN:=by intro w J ps args r hr hJ hT hargs;obtain⟨s,sep,rfl,⟨rfl,hs⟩,rfl⟩:=gN hr;rw[abG (v1:=.nilIface) (v2:=.nilIface) hargs];refine(YtmmafcjjlbgnkaaGreatDoor.strings_HasSuffix s ⟨#[45]⟩ w (by omega)).mono ?_;rintro e w' ⟨rfl,rfl⟩;exact⟨_,rfl,Below.refl _ _,fun g' hg=>by simp[Rep,azq]⟩
def ari:Fun:=ayt 2 dV
theorem aqA {l:List W2} (h:okW l):ari [.lst false 2 (l.map fun x=> .agg [.val (.string x.1),.val (.int .i64 x.2)])]=some (.val (.bool (indexB l))):=gU h
theorem aoF:ari [.val (.slice none 0 0)]=some (.val (.bool true)):=gU (l:=[]) ⟨by simp,fun i=>by simp[w0]⟩
theorem vC {T sz o:Nat} {es:List PV}:jc (lo (nO T sz es o)) (nO T sz es o):=by
 cases es with
 |nil=>exact trivial
 |cons e l=>rw[axK];exact agr
theorem ah3 (W:List W2):(W.map pvW).length=W.length:=List.length_map ..
def aFe (sz:Nat) (Ψ:yU):yU:=fun ps=>Ψ (ps.map (nrm sz))
theorem fQ.nil {P:Program} {f:Nat} {Ψ:yU} (h:fQ P f Ψ) (sz:Nat):fQ P f (aFe sz Ψ):=by
 intro w J β κ ps cs args r cs' hr hJ hO hT hargs;by_cases hc:cs=[]
 ·subst hc
  exact h w J β κ (ps.map (nrm sz)) [] args r cs' hr hJ hO hT (aaR (aeJ sz ps) hargs)
 ·have hr2:(if cs=[]then aFe sz Ψ ps else none)=some (r,cs'):=hr
  rw[if_neg hc]at hr2;cases hr2
def ΨBi:yU:=G1 iy fun b=>if aaI b.1 b.2.1 then some (if 0<(biV b.1 b.2.1 b.2.2.1 b.2.2.2.1 b.2.2.2.2).length then(.tup [.row 0 1 0 (biV b.1 b.2.1 b.2.2.1 b.2.2.2.1 b.2.2.2.2).length,bv (biB b.1 b.2.1 b.2.2.1 b.2.2.2.1 b.2.2.2.2)],[(9,1,(biV b.1 b.2.1 b.2.2.1 b.2.2.2.1 b.2.2.2.2).map fun s=> .val (.string s))])else(.tup [.val (.slice none 0 0),bv (biB b.1 b.2.1 b.2.2.1 b.2.2.2.1 b.2.2.2.2)],[]))else none
def afp:yU:=aFe 2 ΨIx
theorem arL:fQ Tryz.prog 46 afp:=axl.nil 2
theorem arN {l:List W2} (h:okW l) (h0:0<(fT l).length):qQ afp [.row 0 2 0 l.length] [(71,2,l.map fun x=> .agg [.val (.string x.1),.val (.int .i64 x.2)])]=
 some (.row 1 1 0 (fT l).length,[(71,2,l.map fun x=> .agg [.val (.string x.1),.val (.int .i64 x.2)]),(9,1,(fT l).map fun s=> .val (.string s))]):=by
 have hp:0<((fT l).map fun s=>PV.val (.string s)).length:=by simpa using h0
 refine(vH (qs:=[.lst false 2 (l.map fun x=> .agg [.val (.string x.1),.val (.int .i64 x.2)])]) (by simp only[mapM_cons',mapM_nil',kU,sJ,oI,List.getElem?_cons_zero,List.getElem?_cons_succ,Bool.false_eq_true,false_and,if_false,aau,rU,Option.bind_some,Option.map_some]) ((yX (A:=dWs) l).trans ((if_pos h).trans (by rw[av hp,ahi hp,List.length_map]))) rfl (by rw[mapM_cons',mapM_nil',lq];rfl)).trans ?_
 rfl
theorem an3 {l:List W2} (h:okW l) (h0:(fT l).length=0):qQ afp [.row 0 2 0 l.length] [(71,2,l.map fun x=> .agg [.val (.string x.1),.val (.int .i64 x.2)])]=
 some (.val (.slice none 0 0),[(71,2,l.map fun x=> .agg [.val (.string x.1),.val (.int .i64 x.2)])]):=by
 refine(vH (cs1:=[]) (qs:=[.lst false 2 (l.map fun x=> .agg [.val (.string x.1),.val (.int .i64 x.2)])]) (by simp only[mapM_cons',mapM_nil',kU,sJ,oI,List.getElem?_cons_zero,List.getElem?_cons_succ,Bool.false_eq_true,false_and,if_false,aau,rU,Option.bind_some,Option.map_some]) ((yX (A:=dWs) l).trans ((if_pos h).trans (by rw[List.eq_nil_of_length_eq_zero h0,List.map_nil,bW,zF]))) rfl rfl).trans ?_
 rfl
theorem axx:qQ afp [.val (.slice none 0 0)] []=some (.val (.slice none 0 0),[]):=by
 have h0:fT []=[]:=rfl;have hw:okW []:=⟨by simp,fun i=>by simp[w0]⟩;have e:ΨIx [.lst false 2 (([]:List W2).map fun x=> .agg [.val (.string x.1),.val (.int .i64 x.2)])]=some (.val (.slice none 0 0),[]):=(yX (A:=dWs) []).trans ((if_pos hw).trans (by rw[h0,List.map_nil,bW,zF]));have hΨ:afp [.val (.slice none 0 0)]=some (.val (.slice none 0 0),[]):=e;refine(vH (cs1:=[]) (qs:=[.val (.slice none 0 0)]) (by simp only[mapM_cons',mapM_nil',kU,oI,Option.bind_some,Option.map_some]) hΨ rfl rfl).trans ?_
 rfl
def axB:Ctx:={fn:=aT [(7,φBp),(37,asr),(43,asl),(44,apN),(45,ari)],io:=aT [(46,(qQ afp))]}
theorem axh:au Tryz.prog axB:=okΓ (fC Tryz.func7 amy (fC Tryz.func37 alg (fC Tryz.func43 aqY (fC Tryz.func44 axo (fC Tryz.func45 (lg.nil 2) aj))))) (fD Tryz.func46 arL.lift aj)
def aup:=ah (Γ:=axB) (f:=7) (φ:=φBp) rfl
def ane:=ah (Γ:=axB) (f:=37) (φ:=asr) rfl
def aon:=ah (Γ:=axB) (f:=43) (φ:=asl) rfl
def akM:=ah (Γ:=axB) (f:=44) (φ:=apN) rfl
def ano:=ah (Γ:=axB) (f:=45) (φ:=ari) rfl
theorem anu:axB.io 46=some (qQ afp):=rfl
set_option maxRecDepth 20000 in
theorem xH:fQ Tryz.prog 13 ΨBi:=by
 refine qw mixed axh Tryz.func13 rfl 80 rfl [.tmp 2,.tmp 3] rfl (by kernel_rfl) fun ps r cs' hr=>?_;obtain⟨⟨p,q,x,y,z⟩,rfl,hq⟩:=wh hr;clear hr;split at hq
 case isFalse=>cases hq
 case isTrue hpre=>
 simp only[Option.some.injEq]at hq;refine⟨by simp,?_⟩;simp only[dIs,dUs,dSs,bP,bS,bQ,bT,aP,bR,aQ,aO,aR,aL];dsimp only at hpre hq⊢;have apb:=aoH (x:=x) (y:=y) (z:=z) hpre;cases hb:bpB p q x y z with
 |false=>
  have hB:biB p q x y z=false:=by unfold biB;rw[hb];rfl
  have hV:biV p q x y z=[]:=if_neg (by rw[hB];decide);rw[hb,aoG hb,List.map_nil]at apb;rw[hB,hV,List.length_nil,if_neg (Nat.lt_irrefl 0)]at hq;simp only[Prod.mk.injEq]at hq;obtain⟨rfl,rfl⟩:=hq;clear hB hV hb hpre;have gbin_c7:=aup;have gbin_c37:=ane;have gbin_c43:=aon;have gbin_c44:=akM;have gbin_c45:=ano;have gbin_c46:=anu;(refine wlk ?_;intros);all_goals((with_reducible apply iF (by first|exact .inl rfl|exact .inr rfl));(exact sr))
 |true=>
  have hF:=abK hpre hb;have hBk:iC p q x y z=true:=by unfold bpB blB at hb;simp only[Bool.and_eq_true]at hb;exact hb.1.1
  rw[hb]at apb;have hVe:biV p q x y z=if p.flatten.length≤30 then fT (idW (bpV p q x y z))else []:=by
   unfold biV biB;rw[hb,Bool.true_and];by_cases h:p.flatten.length≤30
   ·rw[if_pos h,if_pos (decide_eq_true h)]
   ·rw[if_neg h,if_neg (by rw[decide_eq_false h];decide)]
  have hBe:biB p q x y z=decide (p.flatten.length≤30):=by unfold biB;rw[hb,Bool.true_and]
  rw[hVe,hBe]at hq;replace hq:=Lib.hid hq;have hidx:=ag3 hBk hF;replace hidx:=Lib.hid hidx;have apv:=aqA (agW hpre hF);rw[ag3 hBk hF]at apv;have apx:=arN (agW hpre hF);have apx0:=an3 (agW hpre hF);clear hVe hBe hb hBk hpre;generalize bpV p q x y z=V at*;have hall:=ash hF.ok;have hat:=fun{k j:Nat} (hk:k<V.length) (hj:j≤(V[k]?.getD []).length)=>aA9 hF hk hj;have hsz:∀k j:Nat,((V[k]?.getD [])[j]?.getD ByteArray.empty).size≤2000:=fun k j=>by
   by_cases hk:k<V.length
   ·by_cases hj:j<(V[k]?.getD []).length
    ·rw[List.getElem?_eq_getElem hj,Option.getD_some]
     exact hF.sz _ (by rw[List.getElem?_eq_getElem hk,Option.getD_some];exact List.getElem_mem hk) _ (List.getElem_mem hj)
    ·rw[List.getElem?_eq_none (by omega)]
     decide
   ·rw[List.getElem?_eq_none (show V.length≤k by omega)]
    simp[ByteArray.size]
  have hV30:=hF.len;have hVt:=hF.tot;have hfl:=fun k=>qg (l:=V) k;have htf:=fun k (h:k<V.length)=>nE (V:=V) h;have hrow:∀k,k<V.length→(V[k]?.getD []).length≤30:=fun k hk=>by have h1:=hfl (k+1);rw[htf k hk,List.length_append]at h1;omega
  have hpg:∀k:Nat,jI V (k+1)=jG ((k:Int)+1) (jI V k) (V[k]?.getD []) (V[k]?.getD []).length:=fun k=>rfl;have hln:∀k j:Nat,jG ((k:Int)+1) (jI V k) (V[k]?.getD []) (j+1)=atB ((k:Int)+1) (jG ((k:Int)+1) (jI V k) (V[k]?.getD []) j) ((V[k]?.getD [])[j]?.getD ByteArray.empty):=fun k j=>rfl;have hl0:∀k:Nat,jG ((k:Int)+1) (jI V k) (V[k]?.getD []) 0=jI V k:=fun k=>rfl;clear hF hfl htf hVt;replace hall:=Lib.hid hall;replace hsz:=Lib.hid hsz;replace hrow:=Lib.hid hrow;replace hpg:=Lib.hid hpg;replace hln:=Lib.hid hln;replace hl0:=Lib.hid hl0;replace apv:=Lib.hid apv;replace apx:=Lib.hid apx;replace apx0:=Lib.hid apx0;have gbin_c7:=aup;have gbin_c37:=ane;have gbin_c43:=aon;have gbin_c44:=akM;have gbin_c45:=ano;have gbin_c46:=anu;(refine wlk ?_;intros);refine aB (α:=Nat×Nat×Nat) mixed (fun i=>[(4,.lst true 1 (V.map eB)),(6,nP 2 ((jI V i.1).1.map pvW) i.2.1),(7,.val (.bool (jI V i.1).2)),(23,.lst true 1 (V.map eB)),(24,iv V.length),(25,iv i.1)]) (fun i=>nO 71 2 ((jI V i.1).1.map pvW) i.2.1) (fun i=>i.2.2) (fun i=>i.1≤V.length∧i.2.1<i.2.2) (fun i=>V.length-i.1) (by kernel_rfl) (0,0,1) ⟨Nat.zero_le _,by decide⟩ ?_ ?_ rfl ?_
  ·have z0:jI V 0=([],false):=rfl
   (try dsimp only);rw[z0];(try dsimp only);rw[List.map_nil,bW];exact agr;try rfl
  ·have z0:jI V 0=([],false):=rfl
   (try dsimp only);rw[z0];(try dsimp only);rw[List.map_nil,bU];exact agr;try trivial
  rintro⟨k,o,y'⟩ ⟨hk,hoy⟩;dsimp only at hk hoy;clear apb;by_cases hkl:k<V.length
  ·have hrk:=hrow.out k hkl
   have hat:=fun{j:Nat} (hj:j≤(V[k]?.getD []).length)=>hat hkl hj;have hsz:=Lib.hid (hsz.out k);have hpg:=Lib.hid (hpg.out k);have hln:=Lib.hid (hln.out k);rw[←hl0.out k];(try dsimp only);generalize jG ((k:Int)+1) (jI V k) (V[k]?.getD [])=LN at*;(refine wlk ?_;intros);refine aB (α:=Nat×Nat×Nat) mixed (fun i=>[(4,.lst true 1 (V.map eB)),(6,nP 2 ((LN i.1).1.map pvW) i.2.1),(7,.val (.bool (LN i.1).2)),(8,iv k),(23,.lst true 1 (V.map eB)),(24,iv V.length),(25,iv k),(30,.lst true 1 ((V[k]?.getD []).map fun s=> .val (.string s))),(31,iv (V[k]?.getD []).length),(32,iv i.1)]) (fun i=>nO 71 2 ((LN i.1).1.map pvW) i.2.1) (fun i=>i.2.2) (fun i=>i.1≤(V[k]?.getD []).length∧i.2.1<i.2.2) (fun i=>(V[k]?.getD []).length-i.1) (by kernel_rfl) (0,o,y') ⟨Nat.zero_le _,hoy⟩ ?_ ?_ rfl ?_
   ·(try dsimp only)
    exact agr;try rfl
   ·exact vC
   rintro⟨j,o2,y2⟩ ⟨hj,hoy2⟩;dsimp only at hj hoy2;by_cases hjl:j<(V[k]?.getD []).length
   ·obtain⟨g1,g2,g3⟩:=hat hj
    have hs2:=hsz.out j;have hnx:=hln.out j;have aps:=ara (s:=(V[k]?.getD [])[j]?.getD ByteArray.empty) (by omega);have aph:=aq4 (s:=(V[k]?.getD [])[j]?.getD ByteArray.empty) (by omega);have hpm:=fun m (h:m<(dR 32 ((V[k]?.getD [])[j]?.getD ByteArray.empty)).length)=>ajK (List.getElem_mem h);have hpl:=zo 32 ((V[k]?.getD [])[j]?.getD ByteArray.empty);have hts:∀m,m<(dR 32 ((V[k]?.getD [])[j]?.getD ByteArray.empty)).length→(ado ((V[k]?.getD [])[j]?.getD ByteArray.empty))[m]?.getD .empty=adP ((dR 32 ((V[k]?.getD [])[j]?.getD ByteArray.empty))[m]?.getD ByteArray.empty):=fun m h=>by unfold ado;rw[List.getElem?_map,List.getElem?_eq_getElem h,Option.map_some,Option.getD_some,Option.getD_some]
    have htl:(ado ((V[k]?.getD [])[j]?.getD ByteArray.empty)).length=(dR 32 ((V[k]?.getD [])[j]?.getD ByteArray.empty)).length:=by unfold ado;rw[List.length_map]
    unfold atB at hnx;rw[htl]at hnx;have hp0:adW ((k:Int)+1) (LN j).2 (LN j).1 (ado ((V[k]?.getD [])[j]?.getD ByteArray.empty)) 0=(LN j).1:=rfl;have hp1:∀m:Nat,adW ((k:Int)+1) (LN j).2 (LN j).1 (ado ((V[k]?.getD [])[j]?.getD ByteArray.empty)) (m+1)=axn ((k:Int)+1) (LN j).2 (adW ((k:Int)+1) (LN j).2 (LN j).1 (ado ((V[k]?.getD [])[j]?.getD ByteArray.empty)) m) m ((ado ((V[k]?.getD [])[j]?.getD ByteArray.empty))[m]?.getD .empty):=fun m=>rfl;have hp2:=fun m=>ahx (pg:=(k:Int)+1) (ins:=(LN j).2) (W:=(LN j).1) (ts:=ado ((V[k]?.getD [])[j]?.getD ByteArray.empty)) m;replace hnx:=Lib.hid hnx;replace hp0:=Lib.hid hp0;replace hp1:=Lib.hid hp1;replace hp2:=Lib.hid hp2;replace hpm:=Lib.hid hpm;replace hts:=Lib.hid hts;clear htl hat hsz;generalize adW ((k:Int)+1) (LN j).2 (LN j).1 (ado ((V[k]?.getD [])[j]?.getD ByteArray.empty))=PW at*;generalize ado ((V[k]?.getD [])[j]?.getD ByteArray.empty)=TS at*;have hst:LN j=((LN j).1,(LN j).2):=rfl;clear hst;generalize(LN j).2=ins at*;generalize(LN j).1=W0 at*;(try dsimp only);(refine wlk ?_;intros);generalize dR 32 ((V[k]?.getD [])[j]?.getD ByteArray.empty)=P at*;generalize(V[k]?.getD [])[j]?.getD ByteArray.empty=s at*;refine aB (α:=Nat×Nat×Nat) mixed (fun i=>[(4,.lst true 1 (V.map eB)),(6,nP 2 ((PW i.1).map pvW) i.2.1),(7,.val (.bool ins)),(8,iv k),(11,.val (.string s)),(23,.lst true 1 (V.map eB)),(24,iv V.length),(25,iv k),(30,.lst true 1 ((V[k]?.getD []).map fun s=> .val (.string s))),(31,iv (V[k]?.getD []).length),(32,iv j),(38,.lst true 1 (P.map fun s=> .val (.string s))),(39,iv P.length),(40,iv i.1)]) (fun i=>nO 71 2 ((PW i.1).map pvW) i.2.1) (fun i=>i.2.2) (fun i=>i.1≤P.length∧i.2.1<i.2.2) (fun i=>P.length-i.1) (by kernel_rfl) (0,o2,y2) ⟨Nat.zero_le _,hoy2⟩ ?_ ?_ rfl ?_
    ·(try dsimp only)
     rw[hp0.out];exact agr;try rfl
    ·(try dsimp only)
     rw[hp0.out];exact vC
    rintro⟨m,o3,y3⟩ ⟨hm,hoy3⟩;dsimp only at hm hoy3;by_cases hml:m<P.length
    ·have h1:=hp1.out m
     rw[hts.out m hml]at h1;obtain⟨h2,h3⟩:=hp2.out m;have h4:=hpm.out m hml;have h5:(P[m]?.getD ByteArray.empty).size≤2000:=by rw[List.getElem?_eq_getElem hml,Option.getD_some];omega
     have h6:=akP (P[m]?.getD ByteArray.empty);have apt:=aqp (s:=P[m]?.getD ByteArray.empty) (by omega);have hml2:=ah3 (PW m);clear h4;unfold axn at h1;(try dsimp only);by_cases hc:m=0∧ins=true
     ·obtain⟨rfl,rfl⟩:=hc
      rw[if_pos ⟨rfl,rfl⟩,hp0.out]at h1;have h7:=g2 rfl;have h8:=g3 (W0.length-1);rw[hp0.out]at hml2⊢;rw[av (by omega),ay (by omega)];replace h1:=Lib.hid h1;clear h2 h3 hp1 hp2 hpm hts g3 hnx;generalize adP (P[0]?.getD ByteArray.empty)=t at*;(refine wlk ?_;intros);refine⟨(0+1,o3,y3),⟨by dsimp only;omega,by dsimp only;omega⟩,by dsimp only;omega,?_,?_,rfl⟩
      ·(try dsimp only)
       rw[h1.out,av (by rw[List.length_map,List.length_set];omega)];exact agi;try rfl
      ·(try dsimp only)
       rw[h1.out,ay (by rw[List.length_map,List.length_set];omega)];exact agr;try rfl
     ·rw[if_neg hc]at h1
      replace h1:=Lib.hid h1;have hcas:(m=0∧ins=false)∨¬m=0:=by
       by_cases h0:m=0
       ·left
        refine⟨h0,?_⟩;cases ins with
        |false=>rfl
        |true=>exact absurd ⟨h0,rfl⟩ hc
       ·exact .inr h0
      clear hc;clear hp1 hp2 hpm hts g3 hnx;generalize adP (P[m]?.getD ByteArray.empty)=t at*;by_cases hz:(PW m).length=0
      ·have hz2:PW m=[]:=List.eq_nil_of_length_eq_zero hz
       rw[hz2]at h1⊢;rw[List.map_nil,bW,bU];clear hz2 hml2 h2 h3;rcases hcas with⟨rfl,rfl⟩|hm0
       ·(refine wlk ?_;intros)
        refine⟨(0+1,y3+1,y3+1+1),⟨by dsimp only;omega,by dsimp only;omega⟩,by dsimp only;omega,?_,?_,rfl⟩
        ·(try dsimp only)
         rw[h1.out,av (by simp)];exact agi;try rfl
        ·(try dsimp only)
         rw[h1.out,ay (by simp)];exact agr;try rfl
       ·(refine wlk ?_;intros)
        refine⟨(m+1,y3+1,y3+1+1),⟨by dsimp only;omega,by dsimp only;omega⟩,by dsimp only;omega,?_,?_,rfl⟩
        ·(try dsimp only)
         rw[h1.out,av (by simp)];exact agi;try rfl
        ·(try dsimp only)
         rw[h1.out,ay (by simp)];exact agr;try rfl
      ·rw[av (by omega),ay (by omega)]
       clear h3;rcases hcas with⟨rfl,rfl⟩|hm0
       ·(refine wlk ?_;intros)
        refine⟨(0+1,y3+1,y3+1+1),⟨by dsimp only;omega,by dsimp only;omega⟩,by dsimp only;omega,?_,?_,rfl⟩
        ·(try dsimp only)
         rw[h1.out,av (by simp)];exact agi;try rfl
        ·(try dsimp only)
         rw[h1.out,ay (by simp)];exact agr;try rfl
       ·(refine wlk ?_;intros)
        refine⟨(m+1,y3+1,y3+1+1),⟨by dsimp only;omega,by dsimp only;omega⟩,by dsimp only;omega,?_,?_,rfl⟩
        ·(try dsimp only)
         rw[h1.out,av (by simp)];exact agi;try rfl
        ·(try dsimp only)
         rw[h1.out,ay (by simp)];exact agr;try rfl
    ·obtain rfl:m=P.length:=by omega
     clear hp0 hp1 hp2 hpm hts;(try dsimp only);(refine wlk ?_;intros);refine⟨(j+1,o3,y3),⟨by dsimp only;omega,by dsimp only;omega⟩,by dsimp only;omega,?_,?_,rfl⟩
     ·(try dsimp only)
      rw[hnx.out];(try dsimp only);exact agi;try rfl
     ·(try dsimp only)
      rw[hnx.out];exact vC
   ·obtain rfl:j=(V[k]?.getD []).length:=by omega
    rw[←hpg.out];clear hln hat hsz;(try dsimp only);(refine wlk ?_;intros);refine⟨(k+1,o2,y2),⟨by dsimp only;omega,by dsimp only;omega⟩,by dsimp only;omega,?_,?_,rfl⟩
    ·(try dsimp only)
     exact agi
    ·exact vC
  ·obtain rfl:k=V.length:=by omega
   rw[hall.out];clear hat hsz hrow hpg hln hl0 hall;by_cases hz:(idW V).length=0
   ·have hz2:idW V=[]:=List.eq_nil_of_length_eq_zero hz
    have hd:=hidx.out;have hir:fT []=[]:=rfl;rw[hz2]at hd⊢;have hd2:decide (p.flatten.length≤30)=true:=by rw[←hd];rfl
    have ap1:=aoF;have ap2:=axx;have hq:=hq.out;rw[hz2]at hq;rw[hd2,if_pos (of_decide_eq_true hd2),hir,List.length_nil,if_neg (Nat.lt_irrefl 0)]at hq;simp only[Prod.mk.injEq]at hq;obtain⟨rfl,rfl⟩:=hq;rw[List.map_nil,bW,bU];clear hd hd2 hz hz2 hidx;(try dsimp only);(refine wlk ?_;intros);all_goals((with_reducible apply iF (by first|exact .inl rfl|exact .inr rfl));(exact sr))
   ·have apv:=apv.out
    have hml2:=ah3 (idW V);have hq:=hq.out;rw[av (by omega),ay (by omega)];by_cases h30:p.flatten.length≤30
    ·rw[if_pos h30,decide_eq_true h30]at hq
     rw[decide_eq_true h30]at apv;by_cases hx0:0<(fT (idW V)).length
     ·have apx:=apx.out hx0
      rw[if_pos hx0]at hq;simp only[Prod.mk.injEq]at hq;obtain⟨rfl,rfl⟩:=hq;clear hidx apx0 h30;generalize fT (idW V)=X at*;generalize idW V=W at*;(try dsimp only);(refine wlk ?_;intros);all_goals((with_reducible apply pE y' (by first|exact .inl rfl|exact .inr rfl));(focus(exact sr));(focus(exact sr)))
     ·have apx:=apx0.out (by omega)
      rw[if_neg hx0]at hq;simp only[Prod.mk.injEq]at hq;obtain⟨rfl,rfl⟩:=hq;clear hidx h30 hx0;generalize idW V=W at*;(try dsimp only);(refine wlk ?_;intros);all_goals((with_reducible apply iF (by first|exact .inl rfl|exact .inr rfl));(exact sr))
    ·rw[if_neg h30,decide_eq_false h30,List.length_nil,if_neg (Nat.lt_irrefl 0)]at hq
     rw[decide_eq_false h30]at apv;simp only[Prod.mk.injEq]at hq;obtain⟨rfl,rfl⟩:=hq;clear hidx h30 apx apx0;generalize idW V=W at*;(try dsimp only);(refine wlk ?_;intros);all_goals((with_reducible apply iF (by first|exact .inl rfl|exact .inr rfl));(exact sr))
theorem aA6 {p:List LS} {q:LS} {x y z:Int} (h:biB p q x y z=false):biV p q x y z=[]:=if_neg (by rw[h];decide)
theorem auL {p:List LS} {q:LS} {x y z:Int} (ho:aaI p q):(biV p q x y z).length≤30:=by
 cases h:biB p q x y z with
 |false=>rw[aA6 h];exact Nat.zero_le _
 |true=>
  have hV:biV p q x y z=fT (idW (bpV p q x y z)):=if_pos h;unfold biB at h;rw[Bool.and_eq_true]at h;have hF:=abK ho h.1;have h2:=of_decide_eq_true h.2;have h3:=alj (idW (bpV p q x y z));have h4:(idW (bpV p q x y z)).length≤p.flatten.length:=by unfold idW;rw[List.length_zip,hF.all];exact Nat.min_le_left _ _
  rw[hV];omega
section
variable {P:Program} {N:Nat} {c:Code}
theorem HZ.calls {f:Nat} {fn:Func} {rs:List ResultVar} {ps:List PV} {args:Array Value} {w:World} {σ:Fgn} {Jm:Nat→Prop} (hf:P.funcs[f]?=some fn) (hb:fn.body=some c) (hN:fn.ntmps=N) (hrs:fn.results.toList=rs)
 (hσ:∀b,σ.bk b→b<w.heap.size) (hat:σ.at_ w) (hT:kr w σ.bk) (hJ:∀b,Jm b→b<w.heap.size) (hJσ:∀b,Jm b→¬σ.bk b) (hargs:bL (lG Jm) w ps args.toList) (hlen:ps.length≤N) (R:PV→Fgn→Prop)
 (h:HZ P N w.heap.size w c (fun x s' σ'=>(x=.normal∨x=.ret)∧(∃qs,fU P s' rs=some qs∧R (gM qs) σ')∧∀i,σ'.bk i→σ.bk i∨w.heap.size≤i) (bX ps) σ):
 Calls P f args w fun e w'=>∃v σ' p g,e=.returned v∧R p σ'∧Rep g w' p v∧Fr σ.bk w w'∧(∀i,σ'.bk i→i<w'.heap.size∧(σ.bk i∨w.heap.size≤i))∧σ'.at_ w':=by
 subst hN hrs;have hT0:kr w (fun _=>False):=hT.io fun _ _ q=>False.elim q;refine calls_of_wp hf hb (CWp.wp (h.go _ _ ⟨⟨_,w,_,aan hJ hT0 hargs hlen,⟨fun i hi e=>?_,fun i hi=>?_,fun i hi=>False.elim hi,hσ,Nat.le_refl _,Fr.refl _ _,fun t ht=>⟨aej hT0 t ht,hT.apart t ht⟩⟩⟩,hat⟩ _ fun x s' σ' a' w' hs' hk=>?_))
 ·rcases hi with hi|hi|hi
  ·exact False.elim hi
  ·exact hJσ i hi e
  ·exact False.elim hi
 ·rcases hi with hi|hi<;>exact False.elim hi
 ·obtain⟨hx,⟨qs,hres,hR⟩,hbb⟩:=hk
  obtain⟨⟨io,w0,g,hrel,hC⟩,hM'⟩:=hs';have hf1:Fr (fun i=>σ.bk i∨w.heap.size≤i) w0 w':=⟨hrel.fr.os,hrel.fr.tape,hrel.fr.output,hrel.fr.size,fun i hi hn=>hrel.fr.block i hi fun q=>hn (.inr (hC.lo i (.inl q)))⟩;have hfr:Fr σ.bk w w':=⟨hf1.os.trans hC.fr.os,hf1.tape.trans hC.fr.tape,hf1.output.trans hC.fr.output,Nat.le_trans hC.fr.size hf1.size,fun i hi hn=>by
   refine(hf1.block i (Nat.lt_of_lt_of_le hi hC.fr.size) fun q=>q.elim hn (by omega)).trans (hC.fr.block i hi fun q=>q.elim (fun q=>?_) (by omega));rcases hbb i q with q|q
   ·exact hn q
   ·omega⟩
  have hend:a'.defers=[]∧∃v,(results fn a'.tmps).run P w'=.ok v w'∧(∃v' σ' p g,Ending.returned v=.returned v'∧R p σ'∧Rep g w' p v'∧Fr σ.bk w w'∧(∀i,σ'.bk i→i<w'.heap.size∧(σ.bk i∨w.heap.size≤i))∧σ'.at_ w'):=by obtain⟨v,h1,h2⟩:=gJ hrel hres;exact⟨hrel.df,v,h1,v,σ',gM qs,g,rfl,hR,h2,hfr,fun i hi=>⟨Nat.lt_of_lt_of_le (hC.hb i hi) hrel.fr.size,hbb i hi⟩,hM'⟩
  rcases hx with rfl|rfl<;>exact hend
theorem Rel.aEm {io:IoS} {w0:World} {g:Gh} {s:AS} {a:Act} {w:World} (h:Rel io w0 N g s a w) {x:Operand} {q:PV} (hq:reify false 0 s.ob fuel (Proofs.YtmmafcjjlbgnkaaGreatDoor.look s.tm x)=some q):Rep (lG fun i=>i<w.heap.size) w q (a.eval x):=by refine Rep.seen (fr:=false) (n:=0) (s:=s) (g':=lG fun i=>i<w.heap.size) (fun o c ho=>(h.ob o c ho).2.2.2) ⟨fun _=>⟨fun k b hb=>⟨rfl,h.lt k b hb⟩,fun o ho=>⟨rfl,?_⟩⟩,fun e=>by cases e⟩ fuel _ _ _ (h.look x) hq;obtain⟨c,hc⟩:=Option.isSome_iff_exists.1 ho;obtain⟨arr,ha,_⟩:=(h.ob o c hc).2.2.2.1;exact lt_of_heap ha
end
end
end Go.Proofs.YtmmafcjjlbgnkaaGreatDoor
