/- What the proof rests on, part 23: contracts of functions. No condition beyond what each states. -/
import Derived.Test.YtmmafcjjlbgnkaaGreatDoorZBi22
namespace Go.Proofs.YtmmafcjjlbgnkaaGreatDoor
open Go.RowKit
open Nat renaming reduceEqDiff→Rq,reduceBEq→Rb,reduceAdd→Ra,reduceSub→Rs
open Int renaming reduceToNat→Rt
set_option linter.all false
set_option maxHeartbeats 32000000
noncomputable section
section
open Go.RowKit Go.Sort
section
theorem uK {d:Array Int} (hs:∀i j,i≤j→j<d.size→d[i]!≤d[j]!):∀m,m≤d.size→(Lib.compactUpTo d m).Pairwise (· < ·)∧∀x,x∈Lib.compactUpTo d m↔∃j,j<m∧d[j]! =x
 |0,_=>by simp[Lib.compactUpTo]
 |m+1,hm=>by
  obtain⟨h1,h2⟩:=uK hs m (by omega);rw[Lib.compactUpTo_succ];by_cases hk:m=0∨d[m]!≠d[m-1]!
  ·have hkk:Lib.keeps d m=true:=by
    rcases hk with rfl|hk
    ·exact Lib.keeps_lt_one d 0 (by omega)
    ·exact Lib.keeps_pos hk
   rw[if_pos hkk,List.pairwise_append];refine⟨⟨h1,by simp,fun a ha b hb=>?_⟩,fun x=>?_⟩
   ·rw[List.mem_singleton.1 hb]
    obtain⟨j,hj,rfl⟩:=(h2 a).1 ha;rcases hk with rfl|hk
    ·omega
    ·have e1:=hs j (m-1) (by omega) (by omega)
     have e2:=hs (m-1) m (by omega) (by omega);omega
   ·rw[List.mem_append,h2,List.mem_singleton]
    constructor
    ·rintro(⟨j,hj,rfl⟩|rfl)
     ·exact⟨j,by omega,rfl⟩
     ·exact⟨m,by omega,rfl⟩
    ·rintro⟨j,hj,rfl⟩
     by_cases hjm:j=m
     ·subst hjm;exact .inr rfl
     ·exact .inl ⟨j,by omega,rfl⟩
  ·have hm0:0<m:=by omega
   have he:d[m]! =d[m-1]!:=by
    by_cases e:d[m]! =d[m-1]!
    ·exact e
    ·exact absurd (.inr e) hk
   rw[if_neg (by rw[Lib.keeps_neg hm0 he];decide),List.append_nil];refine⟨h1,fun x=>?_⟩;rw[h2];constructor
   ·rintro⟨j,hj,rfl⟩;exact⟨j,by omega,rfl⟩
   ·rintro⟨j,hj,rfl⟩
    by_cases hjm:j=m
    ·subst hjm;exact⟨j-1,by omega,he.symm⟩
    ·exact⟨j,by omega,rfl⟩
def fI (l:List Int):List Int:=l.mergeSort fun x y=>decide (x≤y)
theorem xq (l:List Int):(fI l).length=l.length:=by simp[fI]
theorem ak9 {l:List Int} {x:Int}:x∈fI l↔x∈l:=by simp[fI]
theorem amh (l:List Int):(fI l).Pairwise (· ≤ ·):=by have:=List.pairwise_mergeSort (le:=fun x y:Int=>decide (x≤y)) (fun a b c h1 h2=>by simp only[decide_eq_true_eq]at*;exact Int.le_trans h1 h2) (fun a b=>by simp only[Bool.or_eq_true,decide_eq_true_eq];exact Int.le_total a b) l;exact this.imp fun h=>by simpa using h
theorem uI {l:List Int}:(Lib.compact (fI l)).Pairwise (· < ·)∧∀x,x∈Lib.compact (fI l)↔x∈l:=by
 have hs:∀i j,i≤j→j<(fI l).toArray.size→(fI l).toArray[i]!≤(fI l).toArray[j]!:=fun i j hij hj=>by
  have hj':j<(fI l).length:=by simpa using hj
  rcases Nat.lt_or_ge i j with h|h
  ·have:=List.pairwise_iff_getElem.1 (amh l) i j (by omega) hj' h
   simpa [getElem!_pos,show i<(fI l).length by omega,hj']using this
  ·obtain rfl:i=j:=by omega
   exact Int.le_refl _
 obtain⟨h1,h2⟩:=uK hs (fI l).length (by simp);refine⟨h1,fun x=>?_⟩;unfold Lib.compact;rw[h2,←ak9 (l:=l),List.mem_iff_getElem];constructor
 ·rintro⟨j,hj,rfl⟩
  exact⟨j,hj,by simp[getElem!_pos,hj]⟩
 ·rintro⟨j,hj,rfl⟩
  exact⟨j,hj,by simp[getElem!_pos,hj]⟩
theorem aag (l:List Int):(Lib.compact l).length≤l.length:=Lib.compact_length_le l
theorem aiL {l:List W2} {w:ByteArray} {x:Int}:x∈numsOf l w↔∃y∈l,y.1=w∧y.2=x:=by
 unfold numsOf;simp only[List.mem_map,List.mem_filter,decide_eq_true_eq];constructor
 ·rintro⟨y,⟨h1,h2⟩,h3⟩;exact⟨y,h1,h2,h3⟩
 ·rintro⟨y,h1,h2,h3⟩;exact⟨y,⟨h1,h2⟩,h3⟩
theorem adN {l:List W2} (hl:∀x∈l,1≤x.2∧x.2≤999) (w:ByteArray):Lib.compact (fI (numsOf l w))=ig l w:=by
 refine ayx uI.1 (lq l w 999) fun x=>?_;rw[uI.2,aiL];unfold ig;rw[oF];constructor
 ·rintro⟨y,h1,h2,rfl⟩
  have:=hl y h1;exact⟨⟨this.1,by omega⟩,y,h1,h2,rfl⟩
 ·rintro⟨_,y,h1,h2,h3⟩;exact⟨y,h1,h2,h3⟩
variable {P:Program} {N B:Nat} {w00:World} {k T b r:Nat} {M M1 M2:List En} {m:En} {left:List Value} {G:Nat→Prop} {s:AS} {ops:Array Oper} {J:AS→Fgn→Prop} {j:Nat} {o:Oper} {l:List Oper} {cur:Option (ByteArray×Value)}
theorem ZO.aCC {σ:Fgn} {f:Nat} {c:Call} {φ:Fun} {ps:List PV} {u:Value} (ho:o.op=.call c) (hc:c.callee=.value (.func f)) (hf:Fnd P f) (hg:o.guard=none) (hd:∀x,o.dst=some x→x<N) (hs:Sound P f φ) (hφ:φ ps=some (.val u))
 (hargs:∀a w,Zt P N B w00 s σ a w→∃Jm:Nat→Prop,(∀i,Jm i→i<w.heap.size)∧cZ (zT Jm) w ps (c.args.map a.eval).toList)
 (h:ZO P N B w00 ops (j+1) l J (s.put o.dst (.val u)) σ):ZO P N B w00 ops j (o::l) J s σ:=by
 refine ZO.ay4 ho hc hf hg hd (fun v σ'=>v=u∧σ'=σ) (fun a w hst=>?_) (fun v σ' e=>by obtain⟨rfl,rfl⟩:=e;exact h);obtain⟨Jm,hJ,hargs⟩:=hargs a w hst;obtain⟨⟨io,w0,g,hr,hC⟩,hM⟩:=hst;refine(hs w Jm ps (c.args.map a.eval) _ hφ hJ ((hr.tab.keep hr.fr fun t ht=>(hr.tab.apart t ht)).io fun _ _ q=>False.elim q) hargs).mono ?_;rintro e w' ⟨v,rfl,hb,hv⟩;have hv1:=hv ⟨fun _ _=>True,fun _=>0,fun _=>0,0,fun _=>False⟩ fun _ _ _=>trivial;simp only[Rep]at hv1;subst hv1;exact⟨v,σ,rfl,⟨rfl,rfl⟩,⟨hb.os,hb.tape,hb.output,hb.size,fun i hi _=>hb.block i hi⟩,fun _ _ q=>q,fun _ q=>q,fun b' q=>Nat.lt_of_lt_of_le (hC.hb b' q) (Nat.le_trans hr.fr.size hb.size),σ.keep w w' (fun i hi=>hb.block i (Nat.lt_of_lt_of_le (hC.hb i hi) hr.fr.size)) hM⟩
def SortI (P:Program) (f:Nat):Prop:=∀(blk cap:Nat) (zs:List Int) (w:World),Holds (Value.int .i64) w blk 0 zs.toArray→blk<w.heap.size→zs.length<4611686018427387904→
 Calls P f #[.slice (some ⟨blk,0,none⟩) zs.length cap] w fun e w'=>e=.returned (.tuple #[])∧∃n os,w'=grow (putRow (Value.int .i64) (Go.Sort.ahead w n) blk 0 (fI zs).toArray) os
def aAb (P:Program) (f:Nat):Prop:=∀(blk cap:Nat) (zs:List Int) (w:World),Holds (Value.int .i64) w blk 0 zs.toArray→zs.length≤9223372036854775807→zs.length≤cap→
 Calls P f #[.slice (some ⟨blk,0,none⟩) zs.length cap] w fun e w'=>e=.returned (.slice (some ⟨blk,0,none⟩) (Lib.compact zs).length cap)∧∃q,w'=putRow (Value.int .i64) (Go.Sort.ahead w q) blk 0 (Lib.compact zs++List.replicate (zs.length-(Lib.compact zs).length) 0).toArray
theorem IxI.at (h:IxI P k T B b r (M1++m::M2) left w00):∃g cap cur,m.v=.slice (some ⟨g,0,none⟩) m.ns.length cap∧m.v.ownBlock=some g∧B≤g∧g≠b∧g≠r∧w00.heap[g]?=some (.cells cur T (0,0))∧m.ns.length≤cap∧cap≤maxLen∧cur.size=cap*1∧Holds (Value.int .i64) w00 g 0 m.ns.toArray:=by
 have hm:m∈M1++m::M2:=by simp
 have hrow:=h.row m hm;obtain⟨g1,e1,e2,e3⟩:=h.own m hm;have hne:m.v≠ .slice none 0 0:=fun e=>by rw[e]at e1;cases e1
 obtain⟨g,cap,ev,q1,q2,q3,q4,q5,q6⟩:=Lib.holds_of_ownsRow (enc:=Value.int .i64) (zs:=m.ns) hrow hne;rcases hrow.2 with⟨e0,_⟩|⟨g',cap',cur,e0,p1,p2,p3,p4,p5,p6⟩
 ·exact absurd e0 hne
 ·rw[ev]at e0
  cases e0;rw[ev]at e1;cases e1;exact⟨g,cap,cur,ev,by rw[ev];rfl,q1,e2,e3,p2,p3,p4,p5,q6⟩
theorem IxI.rep {w:World} (h:IxI P k T B b r M left w) {m:En} (hm:m∈M):∃Jm:Nat→Prop,(∀i,Jm i→i<w.heap.size)∧Rep (zT Jm) w (.lst false 1 (m.ns.map fun n=> .val (.int .i64 n))) m.v:=by
 obtain⟨M1,M2,rfl⟩:=List.append_of_mem hm;obtain⟨g,cap,cu,e1,e2,e3,e4,e5,e6,e7,e8,e9,e10⟩:=h.at
 refine⟨fun i=>i=g,fun i hi=>by rw[hi];exact lt_of_heap e6,?_⟩;rw[e1];simp only[Rep];refine⟨some ⟨g,0,none⟩,cap,by simp,by simpa using e7,by simp only[maxLen]at e8;omega,.inr ⟨g,0,rfl,⟨rfl,rfl⟩,bO.of fun i e he=>?_⟩⟩;rw[List.getElem?_map,Option.map_eq_some_iff]at he;obtain⟨n,hn,rfl⟩:=he;have hi:=(List.getElem?_eq_some_iff.1 hn).1;refine⟨.int .i64 n,by simp[Rep],⟨by simp[Value.cells,Value.oneCell'],fun j hj=>?_⟩,by simp[Value.cells]⟩;have hj0:j=0:=by simp[Value.cells]at hj;exact hj
 subst hj0;have:=(e10 i (by simpa using hi)).1;rw[Nat.zero_add]at this;rw[Nat.zero_add,Nat.mul_one,Nat.add_zero,this];have e:m.ns[i]=n:=by have:=List.getElem?_eq_getElem hi;rw[hn]at this;exact(Option.some.inj this).symm
 simp[getElem!_pos,hi,e,Value.cells]
theorem ZO.aFq {f:Nat} {c:Call} {x:Operand} (ho:o.op=.call c) (hc:c.callee=.value (.func f)) (ha:c.args=#[x]) (hf:Fnd P f) (hg:o.guard=none) (hd:∀y,o.dst=some y→y<N) (hS:SortI P f) (hx:look s.tm x=.val m.v) (hl:m.ns.length≤1000000)
 (h:ZO P N B w00 ops (j+1) l J (s.put o.dst (.val (.tuple #[]))) (ixI P k T B b r G (M1++⟨m.w,m.v,fI m.ns⟩::M2) left cur)):ZO P N B w00 ops j (o::l) J s (ixI P k T B b r G (M1++m::M2) left cur):=by
 refine ZO.ay4 ho hc hf hg hd (fun v σ'=>v=.tuple #[]∧σ'=ixI P k T B b r G (M1++⟨m.w,m.v,fI m.ns⟩::M2) left cur) (fun a w hst=>?_) (fun v σ' e=>by obtain⟨rfl,rfl⟩:=e;exact h);obtain⟨⟨io,w0,g,hr,hC⟩,⟨⟨hGb,hGm⟩,hGr⟩,hM,hE⟩:=hst;have hX:=hr.look x;rw[hx]at hX;simp only[Rep]at hX;obtain⟨blk,cap,cu,e1,e2,e3,e4,e5,e6,e7,e8,e9,e10⟩:=hM.at
 have hblk:=lt_of_heap e6;have hGk:=hGm m (by simp) blk e2;rw[ha];simp only[List.map_toArray,List.map_cons,List.map_nil,hX];have hcc:=hS blk cap m.ns w e10 hblk (by omega);rw[←e1]at hcc;refine hcc.mono ?_;rintro e w' ⟨rfl,n,os,rfl⟩;have hgr:=grownBy_sorted_i (w:=w) (g:=blk) (n:=n) (os:=os) (fI m.ns).toArray;have hrow:=ownsRow_sorted_i (w:=w) (base:=B) (g:=blk) (cap:=cap) (n:=n) (e:=T) (os:=os) (cur:=cu) (ss:=m.ns) (ts:=fI m.ns) (xq _) e3 e6 e7 e8 e9;refine⟨.tuple #[],_,rfl,⟨rfl,rfl⟩,⟨hgr.os,hgr.tape,hgr.output,hgr.size,fun i hi hn=>hgr.block i hi fun q=>hn (by cases q;exact hGk)⟩,fun _ _ q=>q,fun _ q=>q,fun b' q=>Nat.lt_of_lt_of_le (hC.hb b' q) (Nat.le_trans hr.fr.size hgr.size),⟨⟨⟨hGb,fun m1 hm1 g1 q=>?_⟩,hGr⟩,hM.turn (ns':=fI m.ns) e2 hgr ?_,hE.kept (hgr.block b hM.it.ane.lt ?_) (hgr.block r ?_ ?_)⟩⟩
 ·rcases List.mem_append.1 hm1 with hm1|hm1
  ·exact hGm m1 (by simp[hm1]) g1 q
  ·rcases List.mem_cons.1 hm1 with rfl|hm1
   ·exact hGm m (by simp) g1 q
   ·exact hGm m1 (by simp[hm1]) g1 q
 ·rw[e1,xq]
  exact hrow
 ·exact fun q=>e4 (by cases q;rfl)
 ·exact Nat.lt_of_lt_of_le (hC.hb r hGr) hr.fr.size
 ·exact fun q=>e5 (by cases q;rfl)
theorem ZO.aE3 {f d:Nat} {c:Call} {x:Operand} (ho:o.op=.call c) (hc:c.callee=.value (.func f)) (ha:c.args=#[x]) (hf:Fnd P f) (hg:o.guard=none) (hdst:o.dst=some d) (hd:d<N) (hS:aAb P f) (hx:look s.tm x=.val m.v) (hl:m.ns.length≤1000000)
 (h:∀g cap,m.v=.slice (some ⟨g,0,none⟩) m.ns.length cap→ZO P N B w00 ops (j+1) l J (s.put (some d) (.val (.slice (some ⟨g,0,none⟩) (Lib.compact m.ns).length cap))) (ixI P k T B b r G (M1++⟨m.w,m.v,Lib.compact m.ns++List.replicate (m.ns.length-(Lib.compact m.ns).length) 0⟩::M2) left cur)):ZO P N B w00 ops j (o::l) J s (ixI P k T B b r G (M1++m::M2) left cur):=by
 refine ZO.ay4 ho hc hf hg (fun y hy=>by rw[hdst]at hy;cases hy;exact hd) (fun v σ'=>∃g cap,m.v=.slice (some ⟨g,0,none⟩) m.ns.length cap∧v=.slice (some ⟨g,0,none⟩) (Lib.compact m.ns).length cap∧σ'=ixI P k T B b r G (M1++⟨m.w,m.v,Lib.compact m.ns++List.replicate (m.ns.length-(Lib.compact m.ns).length) 0⟩::M2) left cur) (fun a w hst=>?_) (fun v σ' e=>by obtain⟨g,cap,e1,rfl,rfl⟩:=e;rw[hdst];exact h g cap e1);obtain⟨⟨io,w0,g,hr,hC⟩,⟨⟨hGb,hGm⟩,hGr⟩,hM,hE⟩:=hst;have hX:=hr.look x;rw[hx]at hX;simp only[Rep]at hX;obtain⟨blk,cap,cu,e1,e2,e3,e4,e5,e6,e7,e8,e9,e10⟩:=hM.at
 have hblk:=lt_of_heap e6;have hGk:=hGm m (by simp) blk e2;have hcl:=aag m.ns;have hyl:(Lib.compact m.ns++List.replicate (m.ns.length-(Lib.compact m.ns).length) 0).length=m.ns.length:=by rw[List.length_append,List.length_replicate];omega
 rw[ha];simp only[List.map_toArray,List.map_cons,List.map_nil,hX];have hcc:=hS blk cap m.ns w e10 (by omega) e7;rw[←e1]at hcc;refine hcc.mono ?_;rintro e w' ⟨rfl,q,rfl⟩;have hrow0:=hM.row m (by simp);rw[e1]at hrow0;have hrow:=Lib.ownsRow_putRow (enc:=Value.int .i64) (q:=q) (k:=m.ns.length) (zs:=m.ns) (ys:=Lib.compact m.ns++List.replicate (m.ns.length-(Lib.compact m.ns).length) 0) hrow0 hyl (Nat.le_refl _);rw[List.take_of_length_le (by rw[hyl];exact Nat.le_refl _)]at hrow;generalize Lib.compact m.ns++List.replicate (m.ns.length-(Lib.compact m.ns).length) 0=ys at*;have hgr:w.grownBy (putRow (Value.int .i64) (Go.Sort.ahead w q) blk 0 ys.toArray) (some blk):=⟨rfl,rfl,rfl,by simp[putRow,mapBlock,Go.Sort.ahead],fun i hi hne=>by have:blk≠i:=fun e=>hne (by rw[e]);simp[putRow,mapBlock,Go.Sort.ahead,Array.getElem?_modify,this]⟩
 refine⟨_,_,rfl,⟨blk,cap,e1,rfl,rfl⟩,⟨hgr.os,hgr.tape,hgr.output,hgr.size,fun i hi hn=>hgr.block i hi fun q=>hn (by cases q;exact hGk)⟩,fun _ _ q=>q,fun _ q=>q,fun b' q=>Nat.lt_of_lt_of_le (hC.hb b' q) (Nat.le_trans hr.fr.size hgr.size),⟨⟨⟨hGb,fun m1 hm1 g1 q=>?_⟩,hGr⟩,?_,hE.kept (hgr.block b hM.it.ane.lt ?_) (hgr.block r ?_ ?_)⟩⟩
 ·rcases List.mem_append.1 hm1 with hm1|hm1
  ·exact hGm m1 (by simp[hm1]) g1 q
  ·rcases List.mem_cons.1 hm1 with rfl|hm1
   ·exact hGm m (by simp) g1 q
   ·exact hGm m1 (by simp[hm1]) g1 q
 ·exact hM.turn (ns':=ys) e2 hgr (by rw[e1,hyl];exact hrow)
 ·exact fun q=>e4 (by cases q;rfl)
 ·exact Nat.lt_of_lt_of_le (hC.hb r hGr) hr.fr.size
 ·exact fun q=>e5 (by cases q;rfl)
theorem ZO.aEG {x y z:Operand} {t e n c i:Nat} {g:Nat} {kl:Lit} (ho:o.op=.mapUpdate t x y z) (hdst:o.dst=none) (hg:o.guard=none) (Ky:Go.Maps.Keyed P k) (ht:P.underlying t=some (.map k e)) (hkey:keyOf P k (.string m.w)=some kl) (hx:look s.tm x=.val (.map (some b))) (hy:look s.tm y=.val (.string m.w)) (hz:look s.tm z=.val (.slice (some ⟨g,0,none⟩) i c))
 (hv:m.v=.slice (some ⟨g,0,none⟩) n c) (hn:m.ns.length=n) (hi:i≤n)
 (h:ZO P N B w00 ops (j+1) l J s (ixI P k T B b r G (M1++⟨m.w,.slice (some ⟨g,0,none⟩) i c,m.ns.take i⟩::M2) left none)):ZO P N B w00 ops j (o::l) J s (ixI P k T B b r G (M1++m::M2) left cur):=by
 refine ZO.one hg fun a w hst Kn Q hK=>?_;have hst0:=hst;obtain⟨⟨io,w0,g0,hr,hC⟩,⟨⟨hGb,hGm⟩,hGr⟩,hM,hE⟩:=hst0;have hX:=hr.look x;have hY:=hr.look y;have hZ:=hr.look z;rw[hx]at hX;rw[hy]at hY;rw[hz]at hZ;simp only[Rep]at hX hY hZ;obtain⟨w',k1,k2,k3,k4⟩:=hM.told hv hn hi Ky ht hkey;have hrun:(execOp a.eval o).run P w=.ok .skip w':=by unfold execOp;simp only[ho,hX,hY,hZ,Sem.run_bind,k1,Result.andThen_ok,Sem.run_pure]
 unfold Oper.wp;rw[hrun,Oper.upon_skip,hdst];refine hK _ _ _ _ (hst.lJ (σ':=ixI P k T B b r G (M1++⟨m.w,.slice (some ⟨g,0,none⟩) i c,m.ns.take i⟩::M2) left none) ⟨k3.os,k3.tape,k3.output,k3.size,fun i hi hn=>k3.block i hi fun e=>hn (by cases e;exact hGb)⟩ (fun i _ e=>e) (fun i e=>e) (fun b' e=>?_) ⟨⟨⟨hGb,fun m1 hm1 g1 q=>?_⟩,hGr⟩,k2,fun p hp=>by cases hp⟩) h
 ·rw[k4]
  exact Nat.lt_of_lt_of_le (hC.hb b' e) hr.fr.size
 ·rcases List.mem_append.1 hm1 with hm1|hm1
  ·exact hGm m1 (by simp[hm1]) g1 q
  ·rcases List.mem_cons.1 hm1 with rfl|hm1
   ·refine hGm m (by simp) g1 ?_
    rw[hv];exact q
   ·exact hGm m1 (by simp[hm1]) g1 q
end
end
section
open Go.RowKit Go.Sort
def ug (l:List (List UInt8)):List (List UInt8):=l.mergeSort fun x y=>decide (x≤y)
def uO (l:LS):LS:=(ug (l.map (·.data.toList))).map fun b=>⟨b.toArray⟩
theorem nI (s:ByteArray):(⟨s.data.toList.toArray⟩:ByteArray)=s:=by obtain⟨⟨x⟩⟩:=s;rfl
theorem wO (l:LS):(uO l).length=l.length:=by simp[uO,ug]
theorem akD {l:LS} {x:ByteArray}:x∈uO l↔x∈l:=by
 unfold uO ug;simp only[List.mem_map,List.mem_mergeSort];constructor
 ·rintro⟨_,⟨s,hs,rfl⟩,rfl⟩
  rw[nI];exact hs
 ·intro h
  exact⟨_,⟨x,h,rfl⟩,nI x⟩
theorem azN {a b:List UInt8} (h:a≤b) (hne:a≠b):ltB ⟨a.toArray⟩ ⟨b.toArray⟩=true:=by
 unfold ltB BL;rw[Proofs.bytesLess_eq];simp only[decide_eq_true_eq];rcases List.le_iff_lt_or_eq.1 h with h|h
 ·exact h
 ·exact absurd h hne
theorem amr {l:LS} (h:l.Nodup):(uO l).Pairwise fun a b=>ltB a b=true:=by
 have h1:=List.pairwise_mergeSort (le:=fun x y:List UInt8=>decide (x≤y)) (fun a b c h1 h2=>by simp only[decide_eq_true_eq]at*;exact List.le_trans h1 h2) (fun a b=>by simp only[Bool.or_eq_true,decide_eq_true_eq];exact List.le_total a b) (l.map (·.data.toList));have h2:(ug (l.map (·.data.toList))).Nodup:=by refine(List.mergeSort_perm _ _).nodup_iff.2 ?_;refine List.pairwise_map.2 (h.imp fun{a b} hne e=>hne ?_);rw[←nI a,←nI b,e]
 unfold uO;rw[List.pairwise_map];exact(List.Pairwise.and h1 h2).imp fun h=>azN (by simpa using h.1) h.2
def ah8:List PV→Option LS
 |[]=>some []
 | .val (.string s)::es=>(ah8 es).map (s:: ·)
 |_::_=>none
theorem acp:∀l:LS,ah8 (l.map fun s=> .val (.string s))=some l
 |[]=>rfl
 |s::l=>by show(ah8 (l.map _)).map (s:: ·)=_;rw[acp l];rfl
theorem zA:∀{es:List PV} {l:LS},ah8 es=some l→es=l.map fun s=> .val (.string s)
 |[],l,h=>by cases h;rfl
 |e::es,l,h=>by
  unfold ah8 at h;split at h
  ·rename_i e1;cases e1
  ·rename_i s es' e1
   cases e1;rw[Option.map_eq_some_iff]at h;obtain⟨l',h1,rfl⟩:=h;rw[zA h1];rfl
  ·cases h
section
variable {P:Program} {f:Nat}
def aCr (P:Program) (f:Nat):Prop:=∀(blk cap:Nat) (ss:List (List UInt8)) (w:World),Holds Proofs.encStr w blk 0 ss.toArray→blk<w.heap.size→ss.length<4611686018427387904→
 Calls P f #[.slice (some ⟨blk,0,none⟩) ss.length cap] w fun e w'=>e=.returned (.tuple #[])∧∃n os,w'=grow (putRow Proofs.encStr (Go.Sort.ahead w n) blk 0 (ug ss).toArray) os
def azG (P:Program) (f:Nat):Prop:=∀w:World,Calls P f #[.slice none 0 0] w fun e w'=>e=.returned (.tuple #[])∧w'=w
def uw:d9
 |[.row 0 1 0 n],[(T,1,es)]=>match ah8 es with
  |some l=>if n=l.length∧n≤1000000 then some (.val (.tuple #[]),[(T,1,(uO l).map fun s=> .val (.string s))])else none
  |none=>none
 |[.val (.slice none 0 0)],[]=>some (.val (.tuple #[]),[])
 |_,_=>none
theorem anf {T:Nat} {l:LS} (h:l.length≤1000000):uw [.row 0 1 0 l.length] [(T,1,l.map fun s=> .val (.string s))]=some (.val (.tuple #[]),[(T,1,(uO l).map fun s=> .val (.string s))]):=by simp only[uw,acp];rw[if_pos ⟨trivial,h⟩]
theorem ajR:uw [.val (.slice none 0 0)] []=some (.val (.tuple #[]),[]):=rfl
theorem awW (h1:aCr P f) (h2:azG P f):bQ P f uw:=by
 intro w J β κ ps cs args r cs' hr hJ hO hT hargs;unfold uw at hr;split at hr
 ·rename_i n T es
  split at hr
  case h_2=>cases hr
  case h_1 l hl=>
  split at hr
  case isFalse=>cases hr
  case isTrue hn=>
  obtain⟨rfl,hn⟩:=hn;cases hr;obtain rfl:=zA hl;obtain⟨⟨arr,k1,k2⟩,k3,k4⟩:=hO.at_ 0 _ rfl;dsimp only at k1 k3 k4;obtain⟨v,hv,hrep⟩:=hargs.get.2 0 _ rfl;have hlen:=hargs.get.1;simp only[Rep]at hrep;obtain⟨c,rfl,e2,e3,e4,e5⟩:=hrep;have hβ:(kI J β κ ([(T,1,l.map fun s=>PV.val (.string s))]:List aL).length).β 0=β 0:=rfl;have hκ:(kI J β κ ([(T,1,l.map fun s=>PV.val (.string s))]:List aL).length).κ 0=κ 0:=rfl;rw[hβ]at k1 k4;rw[hκ]at k2 k3 e4;have hargs2:args=#[.slice (some ⟨β 0,0,none⟩) l.length c]:=by
   obtain⟨al⟩:=args
   match al,hlen,hv with
   |[x],_,hv=>have hx:=Option.some.inj (show some x=_ from hv);rw[hx];simp[kI]
  have hlm:(l.map fun s=>PV.val (.string s)).length=l.length:=List.length_map ..;rw[hlm]at k3;have hcell:∀j,(hj:j<l.length)→arr[j]?=some (.string l[j]):=fun j hj=>by obtain⟨u,m1,m2,m3⟩:=k4.get (i:=j) (e:=.val (.string l[j])) (by simp[hj]);simp only[Rep]at m1;subst m1;have:=m2.2 0 (by rw[m3];decide);simp only[World.cell?,k1,Nat.zero_add,Nat.mul_one,Nat.add_zero]at this;simpa [Value.cells]using this
  have hH:Holds Proofs.encStr w (β 0) 0 (l.map (·.data.toList)).toArray:=fun j hj=>by
   have hj':j<l.length:=by simpa using hj
   refine⟨?_,by simp[World.frozen?,k1]⟩;simp only[World.cell?,k1,Nat.zero_add,Option.isSome_none,Bool.false_eq_true,if_false];rw[hcell j hj'];simp[getElem!_pos,hj',nI]
  have hblk:=lt_of_heap k1;have hc:=h1 (β 0) c (l.map (·.data.toList)) w hH hblk (by rw[List.length_map];omega);rw[List.length_map]at hc;rw[hargs2];refine hc.mono ?_;rintro e w' ⟨rfl,n,os,rfl⟩;have hgr:=Go.grownBy_sorted (w:=w) (g:=β 0) (n:=n) (os:=os) (ug (l.map (·.data.toList))).toArray;have hhp:=Go.heap_sorted (w:=w) (g:=β 0) (n:=n) (os:=os) (ug (l.map (·.data.toList))).toArray k1;have hsl:(ug (l.map (·.data.toList))).length=l.length:=by simp[ug]
  have htk:=Go.take_putCells arr (ug (l.map (·.data.toList))) (by omega);refine⟨.tuple #[],β,κ,fun _=>False,rfl,⟨hgr.os,hgr.tape,hgr.output,hgr.size,fun i hi hn=>hgr.block i hi fun q=>hn ⟨0,by simp,by cases q;rfl⟩⟩,Nat.le_refl _,fun o ho=>⟨rfl,rfl⟩,fun o q1 q2=>by simp at q1 q2;omega,fun b q=>False.elim q,⟨fun o ho=>?_,fun o o' ho ho' _=>by simp at ho ho';omega,fun o c' hc'=>?_⟩,by simp[Rep]⟩
  ·obtain rfl:o=0:=by simpa using ho
   refine⟨Nat.lt_of_lt_of_le hblk hgr.size,fun k q=>?_⟩;rcases q with q|⟨_,q⟩
   ·exact(hO.lt 0 (by simp)).2 k q
   ·exact q
  ·have ho:o=0:=by have:=(List.getElem?_eq_some_iff.1 hc').1;simpa using this
   subst ho;cases hc';refine⟨⟨_,hhp,by show(putCells _ _ _ arr).size=κ 0;simp only[putCells,Array.size_mapIdx];exact k2⟩,?_,?_⟩
   ·show((uO l).map _).length*1≤κ 0
    rw[List.length_map,wO];exact k3
   ·refine bO.of fun i e he=>?_
    have hi:i<(ug (l.map (·.data.toList))).length:=by have:=(List.getElem?_eq_some_iff.1 he).1;rw[List.length_map,wO]at this;omega
    have he2:e=.val (Proofs.encStr (ug (l.map (·.data.toList)))[i]):=by have he3:((uO l).map fun s=>PV.val (.string s))[i]?=some e:=he;unfold uO at he3;rw[List.map_map,List.getElem?_map,List.getElem?_eq_getElem hi]at he3;exact(Option.some.inj he3).symm
    subst he2;refine⟨Proofs.encStr (ug (l.map (·.data.toList)))[i],by simp[Rep],⟨by simp[Value.cells,Value.oneCell'],fun j hj=>?_⟩,by simp[Value.cells]⟩;have hj0:j=0:=by simp[Value.cells]at hj;exact hj
    subst hj0;have h3:=congrArg (·[i]?) htk;rw[List.getElem?_take,if_pos hi,List.getElem?_map,List.getElem?_eq_getElem hi,Array.getElem?_toList]at h3;show World.cell? _ ⟨β 0,0+i*1+0,none⟩=_;simp only[World.cell?,hhp,Nat.zero_add,Nat.mul_one,Nat.add_zero,Option.isSome_none,Bool.false_eq_true,if_false];exact h3
 ·cases hr
  obtain⟨v,hv,hrep⟩:=hargs.get.2 0 _ rfl;have hlen:=hargs.get.1;simp only[Rep]at hrep;subst hrep;have hargs2:args=#[.slice none 0 0]:=by
   obtain⟨al⟩:=args
   match al,hlen,hv with
   |[x],_,hv=>have hx:=Option.some.inj (show some x=_ from hv);rw[hx]
  rw[hargs2];refine(h2 w).mono ?_;rintro e w' ⟨rfl,rfl⟩;exact⟨.tuple #[],β,κ,fun _=>False,rfl,Fr.refl _ _,Nat.le_refl _,fun o ho=>⟨rfl,rfl⟩,fun o q1 q2=>by simp at q2,fun b q=>False.elim q,⟨fun o ho=>by simp at ho,fun o o' ho=>by simp at ho,fun o c hc=>by simp at hc⟩,by simp[Rep]⟩
 ·cases hr
end
end
structure Gr2 (l:List W2) (M:List En) (left:List Value) (W:LS):Prop where
 nd:(M.map (·.w)).Nodup
 all:∀z,(∃m∈M,m.w=z)↔∃x∈l,x.1=z
 todo:∀m∈M,Value.string m.w∈left→m.ns=numsOf l m.w
 done:∀m∈M,¬Value.string m.w∈left→m.ns=ig l m.w
 wnd:W.Nodup
 wm:∀z,z∈W↔(∃m∈M,m.w=z)∧¬Value.string z∈left
theorem Gr2.start {l:List W2} {M:List En} (h:GrI l M):Gr2 l M ((M.map En.kv).map Prod.fst) []:=by
 have hin:∀m∈M,Value.string m.w∈(M.map En.kv).map Prod.fst:=fun m hm=>by rw[List.map_map];exact List.mem_map.2 ⟨m,hm,rfl⟩
 refine⟨h.nd,fun z=>⟨?_,?_⟩,fun m hm _=>h.ns m hm,fun m hm q=>absurd (hin m hm) q,List.nodup_nil,fun z=>⟨fun q=>(List.not_mem_nil q).elim,?_⟩⟩
 ·rintro⟨m,hm,rfl⟩;exact h.of m hm
 ·rintro⟨x,hx,rfl⟩;exact h.all x hx
 ·rintro⟨⟨m,hm,rfl⟩,q⟩;exact absurd (hin m hm) q
theorem Gr2.step {l:List W2} {M1 M2:List En} {m:En} {v':Value} {left left':List Value} {W:LS} (hl:∀x∈l,1≤x.2∧x.2≤999) (h:Gr2 l (M1++m::M2) left W) (hm:Value.string m.w∈left) (hl':∀x,x∈left'↔x∈left∧x≠ .string m.w):Gr2 l (M1++⟨m.w,v',Lib.compact (fI m.ns)⟩::M2) left' (W++[m.w]):=by
 have hne:∀x,x∈M1∨x∈M2→x.w≠m.w:=fun x hx e=>by
  have hd:=h.nd;rw[List.map_append,List.map_cons,List.nodup_append,List.nodup_cons]at hd;rcases hx with hx|hx
  ·exact hd.2.2 _ (List.mem_map.2 ⟨x,hx,rfl⟩) _ (List.mem_cons_self ..) e
  ·exact hd.2.1.1 (List.mem_map.2 ⟨x,hx,e⟩)
 have hcase:∀x∈M1++(⟨m.w,v',Lib.compact (fI m.ns)⟩:En)::M2,x=⟨m.w,v',Lib.compact (fI m.ns)⟩∨(x∈M1∨x∈M2):=fun x hx=>by
  rcases List.mem_append.1 hx with hx|hx
  ·exact .inr (.inl hx)
  ·exact(List.mem_cons.1 hx).imp id .inr
 have hin:∀x,x∈M1∨x∈M2→x∈M1++m::M2:=fun x hx=>by rcases hx with hx|hx<;>simp[hx]
 have hw:∀z,(∃x∈M1++(⟨m.w,v',Lib.compact (fI m.ns)⟩:En)::M2,x.w=z)↔∃x∈M1++m::M2,x.w=z:=fun z=>by
  constructor
  ·rintro⟨x,hx,rfl⟩
   rcases hcase x hx with rfl|hx
   ·exact⟨m,by simp,rfl⟩
   ·exact⟨x,hin x hx,rfl⟩
  ·rintro⟨x,hx,rfl⟩
   rcases List.mem_append.1 hx with hx|hx
   ·exact⟨x,by simp[hx],rfl⟩
   ·rcases List.mem_cons.1 hx with rfl|hx
    ·exact⟨⟨x.w,v',Lib.compact (fI x.ns)⟩,by simp,rfl⟩
    ·exact⟨x,by simp[hx],rfl⟩
 have hleft:∀z:ByteArray,Value.string z∈left'↔Value.string z∈left∧z≠m.w:=fun z=>by rw[hl'];simp
 refine⟨?_,fun z=>(hw z).trans (h.all z),fun x hx hxl=>?_,fun x hx hxl=>?_,?_,fun z=>?_⟩
 ·have:=h.nd
  rw[List.map_append,List.map_cons]at this⊢;exact this
 ·rw[hleft]at hxl
  rcases hcase x hx with rfl|hx
  ·exact absurd rfl hxl.2
  ·exact h.todo x (hin x hx) hxl.1
 ·rw[hleft]at hxl
  rcases hcase x hx with rfl|hx
  ·show Lib.compact (fI m.ns)=ig l m.w
   rw[h.todo m (by simp) hm,adN hl]
  ·exact h.done x (hin x hx) fun q=>hxl ⟨q,hne x hx⟩
 ·rw[List.nodup_append]
  refine⟨h.wnd,by simp,fun a ha b hb=>?_⟩;rw[List.mem_singleton.1 hb];rintro rfl;exact((h.wm _).1 ha).2 hm
 ·rw[List.mem_append,h.wm,hw,hleft,List.mem_singleton]
  constructor
  ·rintro(⟨q1,q2⟩|rfl)
   ·exact⟨q1,fun q=>q2 q.1⟩
   ·exact⟨⟨m,by simp,rfl⟩,fun q=>q.2 rfl⟩
  ·rintro⟨q1,q2⟩
   by_cases e:z=m.w
   ·exact .inr e
   ·exact .inl ⟨q1,fun q=>q2 ⟨q,e⟩⟩
theorem Gr2.words {l:List W2} {M:List En} {W:LS} (h:Gr2 l M [] W):uO W=aI l:=by refine aCp (amr h.wnd) (tF l) fun z=>?_;rw[akD,h.wm,h.all,jM];simp
theorem Gr2.find {l:List W2} {M:List En} {W:LS} (h:Gr2 l M [] W) {w:ByteArray} (hw:w∈aI l):∃m∈M,m.w=w∧m.ns=ig l w:=by obtain⟨m,hm,rfl⟩:=(h.all w).2 (jM.1 hw);exact⟨m,hm,rfl,h.done m hm (by simp)⟩
theorem Gr2.len {l:List W2} {M:List En} {left:List Value} {W:LS} (h:Gr2 l M left W):W.length≤(aI l).length:=by
 have:∀{a b:LS},a.Nodup→(∀x∈a,x∈b)→a.length≤b.length:=by
  intro a
  induction a with
  |nil=>intro b _ _;exact Nat.zero_le _
  |cons x a ih=>
   intro b ha hb;obtain⟨p,q,rfl⟩:=List.append_of_mem (hb x (by simp));obtain⟨h1,h2⟩:=List.nodup_cons.1 ha;have:=ih (b:=p++q) h2 fun y hy=>by
    have h3:=hb y (by simp[hy]);rcases List.mem_append.1 h3 with h4|h4
    ·exact List.mem_append.2 (.inl h4)
    ·rcases List.mem_cons.1 h4 with h5|h5
     ·subst h5;exact absurd hy h1
     ·exact List.mem_append.2 (.inr h5)
   simp only[List.length_append,List.length_cons]at this⊢;omega
 refine this h.wnd fun x hx=>jM.2 ((h.all x).1 ((h.wm x).1 hx).1)
theorem Gr2.nsl {l:List W2} {M:List En} {left:List Value} {W:LS} (h:Gr2 l M left W) {m:En} (hm:m∈M):m.ns.length≤l.length:=by
 by_cases q:Value.string m.w∈left
 ·rw[h.todo m hm q];exact zO _ _
 ·rw[h.done m hm q];exact lM
theorem tL:Go.Maps.Keyed Tryz.prog 9:=Go.Maps.string_keyed Tryz.underlying9
theorem aff:Tryz.prog.underlying 99=some (.map 9 48):=Tryz.underlying99
theorem aip {s:ByteArray} (h:s.size≤1000):keyOf Tryz.prog 9 (.string s)=some (.string s.data.toList):=by simp[keyOf,mapKey,Tryz.underlying9];simp only[maxLen];omega
theorem agv (w:World):(zeroValue 48).run Tryz.prog w=.ok (.slice none 0 0) w:=lZ (by kernel_rfl) w
def ΨIx:alC:=G1 dWs fun l=>if okW l then some (nP 1 ((dX l).map fun s=> .val (.string s)) 0,nC 9 1 ((dX l).map fun s=> .val (.string s)))else none
theorem aq3 (es:List PV):nN id fuel (nP 1 es 0)=some (nP 1 es 0):=by cases es<;>rfl
theorem asW {T:Nat} (l:LS):(nC T 1 (l.map fun s=>PV.val (.string s))).mapM (wS id fuel)=some (nC T 1 (l.map fun s=>PV.val (.string s))):=by
 cases l with
 |nil=>rfl
 |cons x l=>
  have h:∀l:LS,(l.map fun s=>PV.val (.string s)).mapM (nN id fuel)=some (l.map fun s=>PV.val (.string s)):=fun l=>by
   induction l with
   |nil=>rfl
   |cons x l ih=>rw[List.map_cons,List.mapM_cons,ih];rfl
  show [(T,1,(x::l).map fun s=>PV.val (.string s))].mapM (wS id fuel)=_;rw[List.mapM_cons];unfold wS;rw[h];rfl
theorem asR:SortI Tryz.prog 83:=fun blk cap zs w h1 h2 h3=>YtmmafcjjlbgnkaaGreatDoor.slices_Sort_int blk 0 cap zs w h1 h2 h3
theorem aqt:aCr Tryz.prog 85:=fun blk cap ss w h1 h2 h3=>YtmmafcjjlbgnkaaGreatDoor.slices_Sort_string blk 0 cap ss w h1 h2 h3
theorem asG:azG Tryz.prog 85:=fun w=>YtmmafcjjlbgnkaaGreatDoor.slices_Sort_string_none none 0 w
theorem aqj:aAb Tryz.prog 84:=fun blk cap zs w h1 h2 h3=>YtmmafcjjlbgnkaaGreatDoor.slices_Compact_int blk 0 cap zs w h1 h2 h3
theorem aq2:bQ Tryz.prog 85 uw:=awW aqt asG
def as5:Ctx:={fn:=aT [(45,eX)],io:=aT [(85,uw)]}
theorem bn:ak Tryz.prog as5:=okΓ (fC Tryz.func45 lV aj) (fD Tryz.func85 aq2 aj)
def abp:=ah (Γ:=as5) (f:=45) (φ:=eX) rfl
theorem aaS:as5.io 85=some uw:=rfl
set_option maxRecDepth 100000 in
theorem awx:qP Tryz.prog 46 ΨIx:=by
 refine HZ.akW (N:=71) (rs:=[.tmp 2]) Tryz.func46 rfl rfl rfl (fun ps r cs' hr=>?_) (fun ps r cs' hr=>?_)
 ·obtain⟨l,rfl,hq⟩:=ad1 hr
  clear hr;split at hq
  case isFalse=>cases hq
  case isTrue hpre=>
  cases hq;refine⟨?_,aq3 _,asW _⟩;simp only[dIs,dUs,dSs,dw,dx,dh,dA,aS,dz,aQ,aR,aO,aP];(exact sr)
 obtain⟨l,rfl,hq⟩:=ad1 hr;clear hr;split at hq
 case isFalse=>cases hq
 case isTrue hpre=>
 cases hq;refine⟨by simp,fun B w00=>HZ.start ?_⟩;show HZ _ _ _ _ _ _ (dG [.lst false 2 (l.map fun x=> .agg [.val (.string x.1),.val (.int .i64 x.2)])]) _;have apv:=iP hpre;have hl0:=hpre.1;unfold dX;refine HZ.seq (HZ.eng mixed bn (by kernel_rfl) ?_);cases hv:indexB l with
 |false=>rw[hv]at apv;rw[if_neg (by decide)];clear hpre hv;have gixi_c45:=abp;have gixi_c85:=aaS;(refine wlk ?_;intros);refine HZ.seq (HZ.eng mixed bn (by kernel_rfl) ?_);(try dsimp only);(refine wlk ?_;intros);refine⟨?_,fun i e=>e.elim⟩;rw[List.map_nil,dM,agK];((with_reducible apply nS (by first|exact .inl rfl|exact .inr rfl));(exact sr))
 |true=>
  rw[hv]at apv;rw[if_pos rfl];obtain⟨hl30,hall⟩:=oL.1 hv;have hsz:∀j:Nat,(l[j]?.getD w0).1.size≤20:=fun j=>by
   by_cases hj:j<l.length
   ·exact(aH (hall _ (aEq hj)).1).2.2
   ·rw[List.getElem?_eq_none (by omega)];decide
  clear hpre;have gixi_c45:=abp;have gixi_c85:=aaS;(refine wlk ?_;intros);refine HZ.seq (HZ.eng mixed bn (by kernel_rfl) ?_);(try dsimp only);(refine wlk ?_;intros);refine HZ.seq (HZ.each (ZO.aFI (k:=9) (T:=3) rfl rfl (by decide) rfl fun b hb=>?_));dsimp only[AS.put];refine ZO.pre (imm:=⟨[],[],[]⟩) 1 bn (by kernel_rfl) (by simp only[List.take_succ_cons,List.take_zero]<;>exact rfl) (by simp only[List.drop_succ_cons,List.drop_zero]<;>exact rfl) (by simp only[List.map_cons,List.map_nil]<;>exact rfl) ?_;(try dsimp only);(refine wlk ?_;intros);refine ZO.nil ?_;(try dsimp only);refine HZ.seq (HZ.seq (HZ.eng mixed bn (by kernel_rfl) ?_));(try dsimp only);(refine wlk ?_;intros);(try dsimp only);refine HZ.block (HZ.zf (α:=Nat×Nat) (fun i=>[(0,.lst false 2 (l.map fun x=> .agg [.val (.string x.1),.val (.int .i64 x.2)])),(3,.val (.map (some b))),(16,.lst false 2 (l.map fun x=> .agg [.val (.string x.1),.val (.int .i64 x.2)])),(17,iv l.length),(18,iv i.1)])
   (fun i=>[]) (fun i=>i.2) (fun i σ=>i.1≤l.length∧∃M G,σ=ixF Tryz.prog 9 3 B b G M∧GrI (l.take i.1) M∧∀j,G j→B≤j) (fun i=>l.length-i.1) (0,0) ⟨Nat.zero_le _,[],_,rfl,GrI.nil,fun j e=>e▸hb⟩ ?_ trivial rfl ?_)
  ·(try dsimp only)
   exact agr
  rintro⟨k,y⟩ σ ⟨hk,M,G,rfl,hI,hG⟩;dsimp only at hk hI;refine HZ.seq (HZ.eng mixed bn (by kernel_rfl) ?_);(try dsimp only);(refine wlk ?_;intros);(try dsimp only);by_cases hkl:k<l.length
  ·refine HZ.seq (HZ.eng mixed bn (by kernel_rfl) ?_)
   (try dsimp only);(refine wlk ?_;intros);(try dsimp only);refine HZ.seq (HZ.block (HZ.seq (HZ.eng mixed bn (by kernel_rfl) ?_)));(try dsimp only);(refine wlk ?_;intros);(try dsimp only);obtain⟨v0,ns,hF⟩:∃v0 ns,awL M (l[k]?.getD w0).1 v0 ns:=by
    rcases aoA (M:=M) (s:=(l[k]?.getD w0).1)with h|⟨M1,m,M2,rfl,h1,h2⟩
    ·exact⟨_,_,.inl ⟨rfl,rfl,h⟩⟩
    ·exact⟨_,_,.inr ⟨m,by simp,h1,rfl,rfl⟩⟩
   have hlk:=afU (Γ:=as5) (t:=99) (b:=b) (c:=false) (k0:=.string (l[k]?.getD w0).1) (p:=.val v0);refine HZ.aEQ (Γ:=as5.see ⟨99,b,pG false (.string (l[k]?.getD w0).1) (.val v0)⟩) (imm:=⟨[],[24,27,30],[y]⟩) (xs:=[28,31]) (d:=32) (RA:=fun v σ'=>∃G',(∀i,G i→G' i)∧(∀i,G' i→G i∨B≤i)∧σ'=ixH Tryz.prog 9 3 B b G' M ⟨(l[k]?.getD w0).1,v,ns++[(l[k]?.getD w0).2]⟩) 10 mixed (by simp only[List.take_succ_cons,List.take_zero]<;>exact rfl) (by simp only[List.drop_succ_cons,List.drop_zero]<;>exact rfl) (by simp only[List.map_cons,List.map_nil]<;>exact rfl) rfl rfl rfl rfl (by kernel_rfl) (by kernel_rfl) (by kernel_rfl) (by kernel_rfl) (by kernel_rfl) (fun v=>by kernel_rfl) (ar9 (L:=M.map En.kv) bn (fun w h=>⟨h.1.1,h.2.map⟩) (hF.ans tL aff (aip (Nat.le_trans (hsz k) (by decide))) agv)) ?_;(try dsimp only);(refine wlk ?_;intros);(try dsimp only);(with_reducible apply i_E)
   ·rfl
   ·simp[mD,touch]
   (exact sr);(refine wlk ?_;intros);have hnl:ns.length≤k:=by have:=hI.len hF;rw[List.length_take]at this;omega
   refine⟨?_,fun s a w hz e1 e2 e3 Kn Q' hK=>?_,?_⟩
   ·rintro v σ' ⟨G',h1,h2,rfl⟩
    exact ar9 (L:=M.map En.kv) bn (fun w h=>⟨h.1.1.1,h.2.map⟩) (hF.ans tL aff (aip (Nat.le_trans (hsz k) (by decide))) agv)
   ·refine Zt.append (wd:=(l[k]?.getD w0).1) (x:=.tmp 28) (y:=.tmp 31) (t:=48) (v0:=v0) (ns:=ns) (p:=(l[k]?.getD w0).2) (d:=32) (by_:=8) (z:=.int .i64 0) rfl rfl rfl (by decide) (by kernel_rfl) (by kernel_rfl) (by kernel_rfl) (by kernel_rfl) rfl ?_ ?_ hF (by omega) (by decide) hz (fun v' G' a' w' hz' hG1 hG2=>hK v' _ a' w' hz' ⟨G',hG1,hG2,rfl⟩)
    ·refine(e3 28 (by decide)).symm.trans ?_
     (exact sr)
    ·rw[show look s.tm (.tmp 31)=s.tm 31 from rfl,←e3 31 (by decide),←e1]
     (exact sr)
   ·rintro v σ' ⟨G',hG1,hG2,rfl⟩ a w hz Kn Q' hK
    refine Zt.told (t:=99) rfl rfl tL aff (aip (Nat.le_trans (hsz k) (by decide))) ?_ ?_ ?_ hz (fun a' w' hz'=>hK _ _ a' w' hz' ?_)
    ·dsimp only[AS.put]
     (exact sr)
    ·dsimp only[AS.put]
     (exact sr)
    ·dsimp only[AS.put]
     (exact sr)
    dsimp only[AS.put,X.out];refine HZ.eng mixed bn (by kernel_rfl) ?_;(try dsimp only);(refine wlk ?_;intros);(try dsimp only);refine⟨(k+1,_),⟨by omega,u7 M ⟨(l[k]?.getD w0).1,v,ns++[(l[k]?.getD w0).2]⟩,G',rfl,?_,fun j hj=>(hG2 j hj).elim (hG j) id⟩,by dsimp only;omega,?_,trivial,rfl⟩
    ·dsimp only
     rw[List.take_succ_eq_append_getElem hkl,show l[k]=l[k]?.getD w0 by rw[List.getElem?_eq_getElem hkl,Option.getD_some]];exact hI.step hF
    ·(try dsimp only)
     exact agr
  ·have hke:k=l.length:=by omega
   rw[hke,List.take_length]at hI;clear hsz;refine HZ.seq (HZ.eng mixed bn (by kernel_rfl) ?_);(try dsimp only);(refine wlk ?_;intros);(try dsimp only);refine HZ.seq (HZ.eng mixed bn (by kernel_rfl) ?_);(try dsimp only);(refine wlk ?_;intros);(try dsimp only);refine HZ.seq (HZ.seq (HZ.each ?_));refine ZO.pre (imm:=⟨[],[],[]⟩) 1 bn (by kernel_rfl) (by simp only[List.take_succ_cons,List.take_zero]<;>exact rfl) (by simp only[List.drop_succ_cons,List.drop_zero]<;>exact rfl) (by simp only[List.map_cons,List.map_nil]<;>exact rfl) ?_;(try dsimp only);(refine wlk ?_;intros);(try dsimp only);refine ZO.aD7 (t:=99) (e:=48) rfl rfl (by decide) rfl aff (by(exact sr)) fun r hr=>?_;dsimp only[AS.put];refine ZO.nil ?_;(try dsimp only);refine HZ.block (HZ.zf (α:=LS×Nat×Nat×Nat) (fun i=>[(3,.val (.map (some b))),(35,.val (.pointer (some ⟨r,0,none⟩))),(6,nP 1 (i.1.map fun s=> .val (.string s)) i.2.1)])
    (fun i=>nO 9 1 (i.1.map fun s=> .val (.string s)) i.2.1) (fun i=>i.2.2.1) (fun i σ=>(0<i.1.length→i.2.1<i.2.2.1)∧∃M left cur G,σ=ixI Tryz.prog 9 3 B b r G M left cur∧Gr2 l M left i.1∧left.length=i.2.2.2∧∀j,G j→B≤j) (fun i=>i.2.2.2) ([],0,y,_) ⟨fun h=>absurd h (Nat.lt_irrefl 0),M,_,none,_,rfl,Gr2.start hI,rfl,fun j e=>e.elim (hG j) fun e=>e▸hr⟩ ?_ ?_ ?_ ?_)
   ·(try dsimp only)
    rw[List.map_nil,dM];exact agr
   ·(try dsimp only)
    rw[List.map_nil,cO];trivial
   ·rfl
   rintro⟨W,ow,y2,n2⟩ σ ⟨hoy,M2,left,cur,G2,rfl,hg2,hn2,hB2⟩;dsimp only at hoy hg2 hn2;refine HZ.seq (HZ.each ?_);refine ZO.aFT (d:=36) (x:=.tmp 35) rfl rfl (by decide) rfl (by(exact sr)) (fun h0=>?_) (fun m hm hml left' hl' hlt=>?_)
   ·dsimp only[AS.put]
    refine ZO.pre (imm:=⟨[],[],[]⟩) 1 bn (by kernel_rfl) (by simp only[List.take_succ_cons,List.take_zero]<;>exact rfl) (by simp only[List.drop_succ_cons,List.drop_zero]<;>exact rfl) (by simp only[List.map_cons,List.map_nil]<;>exact rfl) ?_;(try dsimp only);(refine wlk ?_;intros);(try dsimp only);refine ZO.nil ?_;(try dsimp only);refine HZ.seq (HZ.eng mixed bn (by kernel_rfl) ?_);(try dsimp only);(refine wlk ?_;intros);(try simp only[X.out,↓reduceIte]);subst h0;have hsw:=hg2.words;have hWl:=hg2.len;have hWu:=oG l;have hwl:W.length=(aI l).length:=by rw[←hsw,wO]
    refine HZ.seq (HZ.mono (K1:=fun x s' σ'=>x=.normal∧σ'=ixI Tryz.prog 9 3 B b r G2 M2 [] cur∧∃ow y3,(0<(aI l).length→ow<y3)∧agree s'.tm [(3,.val (.map (some b))),(6,nP 1 ((aI l).map fun s=> .val (.string s)) ow)]∧jF s'.ob (nO 9 1 ((aI l).map fun s=> .val (.string s)) ow)∧s'.nx=y3) ?_ ?_)
    ·by_cases hW0:W.length=0
     ·have hU0:aI l=[]:=List.eq_nil_of_length_eq_zero (by omega)
      obtain rfl:W=[]:=List.eq_nil_of_length_eq_zero hW0;have aps:=ajR;rw[hU0,List.map_nil,dM,cO];refine HZ.eng mixed bn (by kernel_rfl) ?_;(try dsimp only);have gixi_c45:=abp;have gixi_c85:=aaS;(refine wlk ?_;intros);(try dsimp only);refine⟨rfl,rfl,0,_,fun h=>absurd h (Nat.lt_irrefl 0),?_,?_,rfl⟩
      ·rw[dM]
       exact agr
      ·trivial
     ·have hoy:=hoy (by omega)
      have aps:=anf (T:=9) (l:=W) (by omega);rw[hsw]at aps;rw[ay (es:=W.map fun s=> .val (.string s)) (by rw[List.length_map];omega),aB (es:=W.map fun s=> .val (.string s)) (by rw[List.length_map];omega)];replace hwl:=Lib.hid hwl;refine HZ.eng mixed bn (by kernel_rfl) ?_;(try dsimp only);have gixi_c45:=abp;have gixi_c85:=aaS;(refine wlk ?_;intros);(try dsimp only);replace hwl:=hwl.out;refine⟨rfl,rfl,ow,_,fun _=>hoy,?_,?_,rfl⟩
      ·rw[ay (es:=(aI l).map fun s=> .val (.string s)) (by rw[List.length_map];omega)]
       exact agr
      ·rw[aB (es:=(aI l).map fun s=> .val (.string s)) (by rw[List.length_map];omega)]
       exact agr
    rintro x s' σ' ⟨rfl,rfl,ow,y3,hoy3,e1,e2,e3⟩;refine HZ.cut e1 e2 e3 ?_;have hfind:=fun w hw=>hg2.find (w:=w) hw;have hkeyU:∀w∈aI l,w.size≤20:=fun w hw=>by obtain⟨x,hx,rfl⟩:=jM.1 hw;exact(aH (hall x hx).1).2.2
    have hidx:(aI l).map (kP l)=uJ l:=rfl;have hlsz:=fun w hw=>zF hv (w:=w) hw;refine HZ.seq (HZ.eng mixed bn (by kernel_rfl) ?_);(try dsimp only);(refine wlk ?_;intros);(try dsimp only);refine HZ.seq (HZ.seq (HZ.mono (K1:=fun x s' σ'=>x=.normal∧σ'=ixI Tryz.prog 9 3 B b r G2 M2 [] cur∧agree s'.tm [(3,.val (.map (some b))),(9,.val (.slice none 0 0)),(53,nP 1 ((aI l).map fun s=> .val (.string s)) ow),(54,iv (aI l).length),(55,iv (0:Nat))]∧jF s'.ob (nO 9 1 ((aI l).map fun s=> .val (.string s)) ow)∧s'.nx=y3) ?_ ?_))
    ·by_cases hU0:(aI l).length=0
     ·rw[List.eq_nil_of_length_eq_zero hU0,List.map_nil,dM,cO]
      refine HZ.eng mixed bn (by kernel_rfl) ?_;(try dsimp only);(refine wlk ?_;intros);(try dsimp only);refine⟨rfl,rfl,?_,?_,rfl⟩
      ·exact agr
       (try rfl)
      ·trivial
     ·rw[ay (es:=(aI l).map fun s=> .val (.string s)) (by rw[List.length_map];omega),aB (es:=(aI l).map fun s=> .val (.string s)) (by rw[List.length_map];omega)]
      refine HZ.eng mixed bn (by kernel_rfl) ?_;(try dsimp only);(refine wlk ?_;intros);(try dsimp only);refine⟨rfl,rfl,?_,?_,rfl⟩
      ·exact agr
       (try rfl)
      ·exact agr
    rintro x s' σ' ⟨rfl,rfl,e1,e2,e3⟩;refine HZ.block (HZ.zf (α:=Nat×Nat×Nat) (fun i=>[(3,.val (.map (some b))),(9,nP 1 (((aI l).take i.1).map fun w=> .val (.string (kP l w))) i.2.1),(53,nP 1 ((aI l).map fun s=> .val (.string s)) ow),(54,iv (aI l).length),(55,iv i.1)])
     (fun i=>nO 9 1 ((aI l).map fun s=> .val (.string s)) ow++nO 9 1 (((aI l).take i.1).map fun w=> .val (.string (kP l w))) i.2.1) (fun i=>i.2.2) (fun i σ=>i.1≤(aI l).length∧(0<(aI l).length→ow<i.2.2)∧(0<i.1→i.2.1<i.2.2∧ow≠i.2.1)∧σ=ixI Tryz.prog 9 3 B b r G2 M2 [] cur) (fun i=>(aI l).length-i.1) (0,0,y3) ⟨Nat.zero_le _,hoy3,fun h=>absurd h (Nat.lt_irrefl 0),rfl⟩ ?_ ?_ e3 ?_)
    ·exact e1
    ·dsimp only
     rw[List.take_zero,List.map_nil,cO,List.append_nil];exact e2
    rintro⟨j,oo,y4⟩ σ ⟨hj,ho1,ho2,rfl⟩;dsimp only at hj ho1 ho2;refine HZ.seq (HZ.eng mixed bn (by kernel_rfl) ?_);(try dsimp only);(refine wlk ?_;intros);(try dsimp only);by_cases hjl:j<(aI l).length
    ·have hwm:(aI l)[j]?.getD .empty∈aI l:=by rw[List.getElem?_eq_getElem hjl,Option.getD_some];exact List.getElem_mem hjl
     have ho1:=ho1 (by omega);obtain⟨m,hm,hmw,hmn⟩:=hfind _ hwm;have hw20:=hkeyU _ hwm;have hsp:(⟨#[32]⟩:ByteArray).size=1:=rfl;have hpl:(ig l ((aI l)[j]?.getD .empty)).length≤l.length:=lM;have hpt:=mH (nY hl30 ((aI l)[j]?.getD .empty));have hline:kP l ((aI l)[j]?.getD .empty)=((aI l)[j]?.getD .empty++⟨#[32]⟩)++lK (ig l ((aI l)[j]?.getD .empty)):=rfl;have hF:awL M2 ((aI l)[j]?.getD .empty) m.v (ig l ((aI l)[j]?.getD .empty)):=.inr ⟨m,hm,hmw,rfl,hmn⟩;have hn1:((aI l).take (j+1)).map (fun w=>PV.val (.string (kP l w)))=((aI l).take j).map (fun w=>PV.val (.string (kP l w)))++[.val (.string (kP l ((aI l)[j]?.getD .empty)))]:=by rw[List.take_succ_eq_append_getElem hjl,List.map_append,List.getElem?_eq_getElem hjl,Option.getD_some];rfl
     replace hn1:=Lib.hid hn1;have hlk:=afU (Γ:=as5) (t:=99) (b:=b) (c:=false) (k0:=.string ((aI l)[j]?.getD .empty)) (p:=.val m.v);have htl:(((aI l).take j).map fun w=>PV.val (.string (kP l w))).length=j:=by rw[List.length_map,List.length_take];omega
     rw[ay (es:=(aI l).map fun s=> .val (.string s)) (by rw[List.length_map];omega),aB (es:=(aI l).map fun s=> .val (.string s)) (by rw[List.length_map];omega)];clear hfind hkeyU hlsz;by_cases hj0:j=0
     ·have ht0:((aI l).take j).map (fun w=>PV.val (.string (kP l w)))=[]:=by rw[hj0];rfl
      rw[ht0,dM,cO,List.append_nil];replace hn1:=hn1.out;rw[ht0,List.nil_append]at hn1;replace hn1:=Lib.hid hn1;clear htl ht0 hj0;refine HZ.seq (HZ.eng mixed bn (by kernel_rfl) ?_);(try dsimp only);(refine wlk ?_;intros);(try dsimp only);refine HZ.seq (HZ.block (HZ.seq (HZ.eng mixed bn (by kernel_rfl) ?_)));(try dsimp only);(refine wlk ?_;intros);(try dsimp only);refine HZ.each ?_;refine ZO.aGG (Γ:=as5.see ⟨99,b,pG false (.string ((aI l)[j]?.getD .empty)) (.val m.v)⟩) (imm:=⟨[],[],[]⟩) 6 (ar9 (L:=M2.map En.kv) bn (fun w h=>⟨h.1.1.1,h.2.1.it.ane⟩) (hF.ans tL aff (aip (Nat.le_trans hw20 (by decide))) agv)) (by kernel_rfl) (by simp only[List.take_succ_cons,List.take_zero]<;>exact rfl) (by simp only[List.drop_succ_cons,List.drop_zero]<;>exact rfl) (by simp only[List.map_cons,List.map_nil]<;>exact rfl) ?_;(try dsimp only);(refine wlk ?_;intros);(try dsimp only);refine ZO.aCC (φ:=φPt) (ps:=[.lst false 1 ((ig l ((aI l)[j]?.getD .empty)).map fun n=> .val (.int .i64 n))]) (u:=.string (lK (ig l ((aI l)[j]?.getD .empty)))) rfl rfl ⟨_,Tryz.func86,rfl,rfl⟩ rfl (by rintro y ⟨⟩;decide) ada (aeu (by omega)) (fun a w1 hst=>?_) ?_
      ·obtain⟨⟨io,w0,g,hr,hC⟩,hat⟩:=hst
       obtain⟨Jm,hJ,hrep⟩:=hat.2.1.rep hm;refine⟨Jm,hJ,?_⟩;have hX:=hr.look (.tmp 64);rw[show look _ (.tmp 64)=.val m.v from by(exact sr)]at hX;simp only[Rep]at hX;simp only[List.map_toArray,List.map_cons,List.map_nil];rw[hX];exact⟨_,_,rfl,hmn▸hrep,rfl⟩
      dsimp only[AS.put];refine ZO.pre (imm:=⟨[],[],[]⟩) 4 bn (by kernel_rfl) (by simp only[List.take_succ_cons,List.take_zero]<;>exact rfl) (by simp only[List.drop_succ_cons,List.drop_zero]<;>exact rfl) (by simp only[List.map_cons,List.map_nil]<;>exact rfl) ?_;(try dsimp only);(refine wlk ?_;intros);(try dsimp only);refine ZO.nil ?_;(try dsimp only[X.out]);refine HZ.eng mixed bn (by kernel_rfl) ?_;(try dsimp only);(refine wlk ?_;intros);(try dsimp only);refine⟨(j+1,y4+1,y4+2),⟨by dsimp only;omega,fun _=>by dsimp only;omega,fun _=>⟨by dsimp only;omega,by dsimp only;omega⟩,rfl⟩,by dsimp only;omega,?_,?_,rfl⟩
      ·(try dsimp only)
       rw[hn1.out,ay (by simp)];exact agi
      ·(try dsimp only)
       rw[hn1.out,aB (by simp)];simp(disch:=(first|omega|(simp only[push_cast];first|done|omega))) only[push_cast,↓reduceIte,Rq,Rb,Ra,Rs,Rt,List.cons_append,List.nil_append,List.append_nil, *]
     ·obtain⟨ho2,ho3⟩:=ho2 (by omega)
      rw[ay (es:=((aI l).take j).map fun w=> .val (.string (kP l w))) (by omega),aB (es:=((aI l).take j).map fun w=> .val (.string (kP l w))) (by omega)];rw[htl];generalize((aI l).take j).map (fun w=>PV.val (.string (kP l w)))=OUT at*;refine HZ.seq (HZ.eng mixed bn (by kernel_rfl) ?_);(try dsimp only);(refine wlk ?_;intros);(try dsimp only);refine HZ.seq (HZ.block (HZ.seq (HZ.eng mixed bn (by kernel_rfl) ?_)));(try dsimp only);(refine wlk ?_;intros);(try dsimp only);refine HZ.each ?_;refine ZO.aGG (Γ:=as5.see ⟨99,b,pG false (.string ((aI l)[j]?.getD .empty)) (.val m.v)⟩) (imm:=⟨[],[],[]⟩) 6 (ar9 (L:=M2.map En.kv) bn (fun w h=>⟨h.1.1.1,h.2.1.it.ane⟩) (hF.ans tL aff (aip (Nat.le_trans hw20 (by decide))) agv)) (by kernel_rfl) (by simp only[List.take_succ_cons,List.take_zero]<;>exact rfl) (by simp only[List.drop_succ_cons,List.drop_zero]<;>exact rfl) (by simp only[List.map_cons,List.map_nil]<;>exact rfl) ?_;(try dsimp only);(refine wlk ?_;intros);(try dsimp only);refine ZO.aCC (φ:=φPt) (ps:=[.lst false 1 ((ig l ((aI l)[j]?.getD .empty)).map fun n=> .val (.int .i64 n))]) (u:=.string (lK (ig l ((aI l)[j]?.getD .empty)))) rfl rfl ⟨_,Tryz.func86,rfl,rfl⟩ rfl (by rintro y ⟨⟩;decide) ada (aeu (by omega)) (fun a w1 hst=>?_) ?_
      ·obtain⟨⟨io,w0,g,hr,hC⟩,hat⟩:=hst
       obtain⟨Jm,hJ,hrep⟩:=hat.2.1.rep hm;refine⟨Jm,hJ,?_⟩;have hX:=hr.look (.tmp 64);rw[show look _ (.tmp 64)=.val m.v from by(exact sr)]at hX;simp only[Rep]at hX;simp only[List.map_toArray,List.map_cons,List.map_nil];rw[hX];exact⟨_,_,rfl,hmn▸hrep,rfl⟩
      dsimp only[AS.put];refine ZO.pre (imm:=⟨[],[],[]⟩) 4 bn (by kernel_rfl) (by simp only[List.take_succ_cons,List.take_zero]<;>exact rfl) (by simp only[List.drop_succ_cons,List.drop_zero]<;>exact rfl) (by simp only[List.map_cons,List.map_nil]<;>exact rfl) ?_;(try dsimp only);(refine wlk ?_;intros);(try dsimp only);refine ZO.nil ?_;(try dsimp only[X.out]);refine HZ.eng mixed bn (by kernel_rfl) ?_;(try dsimp only);(refine wlk ?_;intros);(try dsimp only);refine⟨(j+1,y4+1,y4+2),⟨by dsimp only;omega,fun _=>by dsimp only;omega,fun _=>⟨by dsimp only;omega,by dsimp only;omega⟩,rfl⟩,by dsimp only;omega,?_,?_,rfl⟩
      ·(try dsimp only)
       rw[hn1.out,ay (by simp)];exact agi
      ·(try dsimp only)
       rw[hn1.out,aB (by simp)];simp(disch:=(first|omega|(simp only[push_cast];first|done|omega))) only[push_cast,↓reduceIte,Rq,Rb,Ra,Rs,Rt,List.cons_append,List.nil_append,List.append_nil, *]
    ·obtain rfl:j=(aI l).length:=by omega
     rw[List.take_length];have hRl:((aI l).map fun w=>PV.val (.string (kP l w)))=(uJ l).map fun s=>PV.val (.string s):=by rw[←hidx,List.map_map];rfl
     rw[hRl];clear hfind hkeyU hlsz hall;by_cases hU0:(aI l).length=0
     ·have hU1:aI l=[]:=List.eq_nil_of_length_eq_zero hU0
      have hR1:uJ l=[]:=by rw[←hidx,hU1];rfl
      rw[hU1,hR1];simp only[List.map_nil,dM,agK,cO,List.append_nil];clear hRl hidx hR1 hU0 hoy3 ho1 ho2;refine HZ.seq (HZ.eng mixed bn (by kernel_rfl) ?_);(try dsimp only);(refine wlk ?_;intros);(try simp only[X.out,↓reduceIte]);refine HZ.eng mixed bn (by kernel_rfl) ?_;(try dsimp only);(refine wlk ?_;intros);(try dsimp only);all_goals refine⟨?_,fun i hi=>hB2 i hi⟩
      all_goals((with_reducible apply nS (by first|exact .inl rfl|exact .inr rfl));(exact sr))
     ·obtain⟨ho2,ho3⟩:=ho2 (by omega)
      have ho1:=ho1 (by omega);have hRl2:(uJ l).length=(aI l).length:=by rw[←hidx,List.length_map]
      have hRp:0<((uJ l).map fun s=>PV.val (.string s)).length:=by rw[List.length_map];omega
      rw[ay (es:=(aI l).map fun s=> .val (.string s)) (by rw[List.length_map];omega),aB (es:=(aI l).map fun s=> .val (.string s)) (by rw[List.length_map];omega)];simp only[ay hRp,aB hRp,ahv hRp,List.cons_append,List.nil_append];clear hRl hidx hRp;generalize uJ l=R at*;refine HZ.seq (HZ.eng mixed bn (by kernel_rfl) ?_);(try dsimp only);(refine wlk ?_;intros);(try simp only[X.out,↓reduceIte]);refine HZ.eng mixed bn (by kernel_rfl) ?_;(try dsimp only);(refine wlk ?_;intros);(try dsimp only);all_goals refine⟨?_,fun i hi=>hB2 i hi⟩
      all_goals((with_reducible apply pY (oo) (by first|exact .inl rfl|exact .inr rfl));(focus(exact sr));(focus(exact sr)))
   ·obtain⟨M1,M3,rfl⟩:=List.append_of_mem hm
    have hml2:=hml;have hns:m.ns.length≤l.length:=hg2.nsl (by simp);have hkey:=aip (s:=m.w) (by obtain⟨x,hx,hxw⟩:=(hg2.all m.w).1 ⟨m,by simp,rfl⟩;have:=(aH (hall x hx).1).2.2;rw[←hxw];omega)
    dsimp only[AS.put];refine ZO.pre (imm:=⟨[],[],[]⟩) 1 bn (by kernel_rfl) (by simp only[List.take_succ_cons,List.take_zero]<;>exact rfl) (by simp only[List.drop_succ_cons,List.drop_zero]<;>exact rfl) (by simp only[List.map_cons,List.map_nil]<;>exact rfl) ?_;(try dsimp only);(refine wlk ?_;intros);(try dsimp only);refine ZO.nil ?_;(try dsimp only);refine HZ.seq (HZ.eng mixed bn (by kernel_rfl) ?_);(try dsimp only);(refine wlk ?_;intros);(try dsimp only);refine HZ.block (HZ.seq (HZ.each ?_));refine ZO.azM (d:=38) (x:=.tmp 35) rfl rfl (by decide) rfl (by(exact sr)) ?_;dsimp only[AS.put];refine ZO.pre (imm:=⟨[],[],[]⟩) 4 bn (by kernel_rfl) (by simp only[List.take_succ_cons,List.take_zero]<;>exact rfl) (by simp only[List.drop_succ_cons,List.drop_zero]<;>exact rfl) (by simp only[List.map_cons,List.map_nil]<;>exact rfl) ?_;(try dsimp only);(refine wlk ?_;intros);(try dsimp only);refine ZO.nil ?_;(try dsimp only);refine HZ.seq (HZ.each ?_);refine ZO.pre (imm:=⟨[],[],[]⟩) 1 bn (by kernel_rfl) (by simp only[List.take_succ_cons,List.take_zero]<;>exact rfl) (by simp only[List.drop_succ_cons,List.drop_zero]<;>exact rfl) (by simp only[List.map_cons,List.map_nil]<;>exact rfl) ?_;(try dsimp only);(refine wlk ?_;intros);(try dsimp only);refine ZO.aFq (x:=.tmp 41) rfl rfl rfl ⟨_,Tryz.func83,rfl,rfl⟩ rfl (by rintro y ⟨⟩;decide) asR (by(exact sr)) (by omega) ?_;dsimp only[AS.put];refine ZO.nil ?_;(try dsimp only);refine HZ.seq (HZ.each ?_);refine ZO.pre (imm:=⟨[],[],[]⟩) 3 bn (by kernel_rfl) (by simp only[List.take_succ_cons,List.take_zero]<;>exact rfl) (by simp only[List.drop_succ_cons,List.drop_zero]<;>exact rfl) (by simp only[List.map_cons,List.map_nil]<;>exact rfl) ?_;(try dsimp only);(refine wlk ?_;intros);(try dsimp only);refine ZO.aE3 (m:=⟨m.w,m.v,fI m.ns⟩) (d:=46) (x:=.tmp 45) rfl rfl rfl ⟨_,Tryz.func84,rfl,rfl⟩ rfl rfl (by decide) aqj (by(exact sr)) (by rw[xq];omega) fun g cap hmv=>?_;dsimp only at hmv;dsimp only[AS.put];have hcl:=aag (fI m.ns);have htk:(Lib.compact (fI m.ns)++List.replicate ((fI m.ns).length-(Lib.compact (fI m.ns)).length) 0).take (Lib.compact (fI m.ns)).length=Lib.compact (fI m.ns):=List.take_left' rfl;refine ZO.aEG (m:=⟨m.w,m.v,Lib.compact (fI m.ns)++List.replicate ((fI m.ns).length-(Lib.compact (fI m.ns)).length) 0⟩) (t:=99) (e:=48) (n:=(fI m.ns).length) (x:=.tmp 43) (y:=.tmp 44) (z:=.tmp 46) rfl rfl rfl tL aff hkey (by(exact sr)) (by(exact sr)) (by(exact sr)) hmv (by rw[List.length_append,List.length_replicate];omega) hcl ?_
    dsimp only
    rw[htk];refine ZO.nil ?_;(try dsimp only);have hWl:=hg2.len;have hWu:=oG l;have hst:=fun v'=>hg2.step (v':=v') (fun x hx=>(hall x hx).2) hml hl';by_cases hW0:W.length=0
    ·obtain rfl:W=[]:=List.eq_nil_of_length_eq_zero hW0
     rw[List.map_nil,dM,cO];refine HZ.eng mixed bn (by kernel_rfl) ?_;(try dsimp only);(refine wlk ?_;intros);(try dsimp only);refine⟨([m.w],y2+1,y2+2,left'.length),⟨fun _=>by dsimp only;omega,_,left',none,G2,rfl,hst _,rfl,hB2⟩,by dsimp only;omega,?_,?_,rfl⟩
     ·(try dsimp only)
      rw[ay (by simp)];exact agr
     ·(try dsimp only)
      rw[aB (by simp)];exact agr
    ·have hoy:=hoy (by omega)
     rw[ay (es:=W.map fun s=> .val (.string s)) (by rw[List.length_map];omega),aB (es:=W.map fun s=> .val (.string s)) (by rw[List.length_map];omega)];refine HZ.eng mixed bn (by kernel_rfl) ?_;(try dsimp only);(refine wlk ?_;intros);(try dsimp only);refine⟨(W++[m.w],y2+1,y2+2,left'.length),⟨fun _=>by dsimp only;omega,_,left',none,G2,rfl,hst _,rfl,hB2⟩,by dsimp only;omega,?_,?_,rfl⟩
     ·(try dsimp only)
      rw[ay (by simp)];exact agr
     ·(try dsimp only)
      rw[aB (by simp)];exact agr
def arC:Fun:=ac8 ΨIx
theorem akF:Sound Tryz.prog 46 arC:=awx.pure
theorem aoq {l:List W2} (h:okW l) (h0:0<(dX l).length):arC [.lst false 2 (l.map fun x=> .agg [.val (.string x.1),.val (.int .i64 x.2)])]=some (.lst true 1 ((dX l).map fun s=> .val (.string s))):=by
 have hp:0<((dX l).map fun s=>PV.val (.string s)).length:=by simpa using h0
 refine mq (r:=.row 0 1 0 (dX l).length) (cs0:=[(9,1,(dX l).map fun s=> .val (.string s))]) ((apA (A:=dWs) l).trans ((if_pos h).trans (by rw[ay hp,ahv hp,List.length_map]))) ?_;rw[acK];(exact sr)
theorem ahc {l:List W2} (h:okW l) (h0:(dX l).length=0):arC [.lst false 2 (l.map fun x=> .agg [.val (.string x.1),.val (.int .i64 x.2)])]=some (.val (.slice none 0 0)):=by refine mq (r:=.val (.slice none 0 0)) (cs0:=[]) ((apA (A:=dWs) l).trans ((if_pos h).trans (by rw[List.eq_nil_of_length_eq_zero h0];rfl))) ?_;(exact sr)
theorem aiW {l:List W2} {k:Nat} (hk:k+1<(dX l).length):ltB ((dX l)[k]?.getD .empty) ((dX l)[k+1]?.getD .empty)=true:=by
 unfold dX at hk⊢;split at hk
 ·rename_i h
  rw[if_pos h];exact awk h hk
 ·simp at hk
theorem anB (l:List W2):(dX l).length≤l.length:=by
 unfold dX;split
 ·exact aqy l
 ·simp
end
end Go.Proofs.YtmmafcjjlbgnkaaGreatDoor
