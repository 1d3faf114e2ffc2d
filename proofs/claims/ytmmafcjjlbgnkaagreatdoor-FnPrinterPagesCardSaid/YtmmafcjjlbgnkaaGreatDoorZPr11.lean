/- What the proof rests on, part 11: contracts of functions. No condition beyond what each states. -/
import Derived.Test.YtmmafcjjlbgnkaaGreatDoorZPr10
namespace Go.Proofs.YtmmafcjjlbgnkaaGreatDoor
open Go.RowKit
set_option linter.all false
set_option maxHeartbeats 32000000
noncomputable section
section
open Go.ChangeMaps (setBlock heap_setBlock_same heap_setBlock_other modify_eq_set)
open Go.Maps (Keyed)
abbrev VL:=List (Value×Value)
abbrev kv (e:MapEntry):Value×Value:=(e.key,e.val)
structure ain (P:Program) (k:TypeId) (es:Array MapEntry) (clock:Nat) (L:VL):Prop where
 list:es.toList.map kv=L
 old:∀e∈es.toList,e.born<clock
 born:(es.toList.map (·.born)).Nodup
 keys:(L.map Prod.fst).Nodup
 keyed:∀p∈L,∃l,keyOf P k p.1=some l
def mO (P:Program) (k:TypeId) (w:World) (b:Nat) (L:VL):Prop:=∃es clock,w.heap[b]?=some (.map es clock)∧ain P k es clock L
variable {P:Program} {k t e:TypeId} {w w':World} {b r:Nat} {L:VL} {left:List Value} {key v:Value} {kl:Lit}
theorem mO.lt (h:mO P k w b L):b<w.heap.size:=by obtain⟨es,clock,hb,_⟩:=h;exact(Array.getElem?_eq_some_iff.1 hb).1
theorem mO.made (w:World):mO P k (w.alloc (.map #[] 0)) w.heap.size []:=
 ⟨#[],0,(MapKept.heap_alloc w _).1,rfl,by simp,by simp,by simp,by simp⟩
theorem ain.yO {es:Array MapEntry} {clock:Nat} (H:ain P k es clock L) {e0:MapEntry} (h:e0∈es.toList):(e0.key,e0.val)∈L:=by rw[←H.list];exact List.mem_map.2 ⟨e0,h,rfl⟩
theorem ain.all {es:Array MapEntry} {clock:Nat} (H:ain P k es clock L):∀e∈es.toList,∃l,keyOf P k e.key=some l:=fun e he=>H.keyed _ (H.yO he)
theorem zi {L:VL} (h:(L.map Prod.fst).Nodup) {key v v':Value} (h1:(key,v)∈L) (h2:(key,v')∈L):v=v':=by
 induction L with
 |nil=>simp at h1
 |cons x L ih=>
  rw[List.map_cons,List.nodup_cons]at h;rcases List.mem_cons.1 h1 with e1|h1
  ·rcases List.mem_cons.1 h2 with e2|h2
   ·have:=e1.trans e2.symm
    exact(Prod.ext_iff.1 this).2
   ·exact absurd (List.mem_map.2 ⟨_,h2,by rw[←e1]⟩) h.1
  ·rcases List.mem_cons.1 h2 with e2|h2
   ·exact absurd (List.mem_map.2 ⟨_,h1,by rw[←e2]⟩) h.1
   ·exact ih h.2 h1 h2
theorem mO.ad9 (h:mO P k w b L) (K:Keyed P k) (ht:P.underlying t=some (.map k e)) (c:Bool) (hkey:keyOf P k key=some kl) (hm:(key,v)∈L):
 (Instr.lookup t (.map (some b)) key c).run P w=.ok (if c then .tuple #[v,.bool true]else v) w:=by
 obtain⟨es,clock,hb,H⟩:=h;rcases K.find w hkey es.toList H.all with⟨h1,h2⟩|⟨j,e0,h1,h2,h3⟩
 ·rw[←H.list]at hm
  obtain⟨e0,he,h4⟩:=List.mem_map.1 hm;exact absurd (Prod.ext_iff.1 h4).1 (h2 e0 he)
 ·have hv:e0.val=v:=zi H.keys (h3▸H.yO (List.mem_of_getElem? h2)) hm
  rw[←hv];simp[Instr.lookup,run_underlying ht,MapKept.run_getObj_map hb,K.check w _ hkey,h1,Result.andThen]
theorem mO.aqB (h:mO P k w b L) (K:Keyed P k) (ht:P.underlying t=some (.map k e)) (c:Bool) (hkey:keyOf P k key=some kl) {z:Value} (hz:(zeroValue e).run P w=.ok z w) (hm:∀p∈L,p.1≠key):
 (Instr.lookup t (.map (some b)) key c).run P w=.ok (if c then .tuple #[z,.bool false]else z) w:=by
 obtain⟨es,clock,hb,H⟩:=h;rcases K.find w hkey es.toList H.all with⟨h1,h2⟩|⟨j,e0,h1,h2,h3⟩
 ·simp[Instr.lookup,run_underlying ht,MapKept.run_getObj_map hb,K.check w _ hkey,h1,hz,Result.andThen]
 ·exact absurd h3 (hm _ (H.yO (List.mem_of_getElem? h2)))
theorem mP {o o':Obj} (hb:w.heap[b]?=some o):w.grownBy (setBlock w b o') (some b):=
 ⟨rfl,rfl,rfl,by simp[setBlock],fun i _ hi=>by have:i≠b:=fun e1=>hi (by rw[e1]);simp[setBlock,Array.getElem?_setIfInBounds,Ne.symm this]⟩
theorem ain.push {es:Array MapEntry} {clock:Nat} (H:ain P k es clock L) (hkey:keyOf P k key=some kl) (hm:∀p∈L,p.1≠key):ain P k (es.push ⟨key,v,clock⟩) (clock+1) (L++[(key,v)]):=by
 refine⟨?_,fun e0 he=>?_,?_,?_,fun p hp=>?_⟩
 ·rw[Array.toList_push,List.map_append,H.list];rfl
 ·rw[Array.toList_push]at he
  rcases List.mem_append.1 he with he|he
  ·have:=H.old e0 he;omega
  ·rw[List.mem_singleton.1 he];exact Nat.lt_succ_self _
 ·rw[Array.toList_push,List.map_append,List.nodup_append]
  refine⟨H.born,by simp,fun a ha c hc=>?_⟩;obtain⟨e0,he,rfl⟩:=List.mem_map.1 ha;simp only[List.map_cons,List.map_nil,List.mem_singleton]at hc;have:=H.old e0 he;omega
 ·rw[List.map_append,List.nodup_append]
  refine⟨H.keys,by simp,fun a ha c hc=>?_⟩;obtain⟨p,hp,rfl⟩:=List.mem_map.1 ha;simp only[List.map_cons,List.map_nil,List.mem_singleton]at hc;rw[hc];exact hm p hp
 ·rcases List.mem_append.1 hp with hp|hp
  ·exact H.keyed p hp
  ·rw[List.mem_singleton.1 hp];exact⟨kl,hkey⟩
theorem mO.aov (h:mO P k w b L) (K:Keyed P k) (ht:P.underlying t=some (.map k e)) (hkey:keyOf P k key=some kl) (hm:∀p∈L,p.1≠key):
 ∃w',(Instr.mapUpdate t (.map (some b)) key v).run P w=.ok () w'∧mO P k w' b (L++[(key,v)])∧w.grownBy w' (some b)∧w'.heap.size=w.heap.size:=by
 obtain⟨es,clock,hb,H⟩:=h;rcases K.find w hkey es.toList H.all with⟨h1,h2⟩|⟨j,e0,h1,h2,h3⟩
 ·refine⟨setBlock w b (.map (es.push ⟨key,v,clock⟩) (clock+1)),?_,⟨_,_,heap_setBlock_same hb _,H.push hkey hm⟩,mP hb,by simp[setBlock]⟩
  simp[Instr.mapUpdate,run_underlying ht,MapKept.run_getObj_map hb,K.check w false hkey,h1,MapKept.run_setObj_map _ hb,Result.andThen,setBlock]
 ·exact absurd h3 (hm _ (H.yO (List.mem_of_getElem? h2)))
theorem ain.set {es:Array MapEntry} {clock:Nat} {L1 L2:VL} {v0:Value} {j:Nat} {e0:MapEntry} (H:ain P k es clock (L1++(key,v0)::L2)) (h2:es.toList[j]?=some e0) (h3:e0.key=key):
 ain P k (es.modify j fun e'=>{e' with key:=key,val:=v}) clock (L1++(key,v)::L2)∧(es.modify j fun e'=>{e' with key:=key,val:=v}).toList=es.toList.set j {e0 with key:=key,val:=v}:=by
 have hl:(es.modify j (fun e'=>{e' with key:=key,val:=v})).toList=es.toList.set j {e0 with key:=key,val:=v}:=by rw[Array.toList_modify,modify_eq_set _ _ _ _ h2]
 have hL:(L1++(key,v0)::L2)[j]?=some (key,e0.val):=by rw[←H.list,List.getElem?_map,h2,←h3];rfl
 have hj:j=L1.length:=by have hjl:=(List.getElem?_eq_some_iff.1 hL).1;refine(List.getElem?_inj (by simpa using hjl) H.keys).1 ?_;rw[List.getElem?_map,hL];simp
 refine⟨⟨?_,fun x hx=>?_,?_,?_,fun p hp=>?_⟩,hl⟩
 ·rw[hl,List.map_set,H.list,hj]
  simp
 ·rw[hl]at hx
  rcases List.mem_or_eq_of_mem_set hx with hx|rfl
  ·exact H.old x hx
  ·exact H.old e0 (List.mem_of_getElem? h2)
 ·rw[hl,List.map_set]
  have:(es.toList.map (·.born))[j]?=some e0.born:=by rw[List.getElem?_map,h2];rfl
  have e2:(es.toList.map (·.born)).set j e0.born=es.toList.map (·.born):=by obtain⟨hlt,he⟩:=List.getElem?_eq_some_iff.1 this;exact he▸List.set_getElem_self hlt
  rw[show({e0 with key:=key,val:=v}:MapEntry).born=e0.born from rfl,e2];exact H.born
 ·have:=H.keys
  simpa using this
 ·rcases List.mem_append.1 hp with hp|hp
  ·exact H.keyed p (List.mem_append.2 (.inl hp))
  ·rcases List.mem_cons.1 hp with rfl|hp
   ·exact H.keyed (key,v0) (by simp)
   ·exact H.keyed p (by simp[hp])
theorem mO.apK {L1 L2:VL} {v0:Value} (h:mO P k w b (L1++(key,v0)::L2)) (K:Keyed P k) (ht:P.underlying t=some (.map k e)) (hkey:keyOf P k key=some kl):
 ∃w',(Instr.mapUpdate t (.map (some b)) key v).run P w=.ok () w'∧mO P k w' b (L1++(key,v)::L2)∧w.grownBy w' (some b)∧w'.heap.size=w.heap.size:=by
 obtain⟨es,clock,hb,H⟩:=h;rcases K.find w hkey es.toList H.all with⟨h1,h2⟩|⟨j,e0,h1,h2,h3⟩
 ·have hm:(key,v0)∈es.toList.map kv:=by rw[H.list];simp
  obtain⟨e0,he,h4⟩:=List.mem_map.1 hm;exact absurd (Prod.ext_iff.1 h4).1 (h2 e0 he)
 ·have hj:es[j]?=some e0:=by simpa using h2
  refine⟨setBlock w b (.map (es.modify j fun e'=>{e' with key:=key,val:=v}) clock),?_,⟨_,_,heap_setBlock_same hb _,(H.set h2 h3).1⟩,mP hb,by simp[setBlock]⟩;simp[Instr.mapUpdate,run_underlying ht,MapKept.run_getObj_map hb,K.check w false hkey,h1,hj,h3,K.stays w hkey,MapKept.run_setObj_map _ hb,Result.andThen,setBlock]
end
theorem ahE (l:List It):∀(f n m:Nat),n≤m→m<stN l f n→¬(gI l m).kd=1∧forced (gI l m)=false
 |0,n,m,h1,h2=>by simp only[stN]at h2;omega
 |f+1,n,m,h1,h2=>by
  unfold stN at h2;split at h2
  ·rename_i hc
   by_cases h:m=n
   ·subst h;exact hc.2
   ·exact ahE l f (n+1) m (by omega) h2
  ·omega
theorem aji (l:List It):∀(f n:Nat),l.length≤f+n→stN l f n<l.length→(gI l (stN l f n)).kd=1∨forced (gI l (stN l f n))=true
 |0,n,h1,h2=>by simp only[stN]at h2;omega
 |f+1,n,h1,h2=>by
  unfold stN at h2⊢;split at h2
  ·rename_i hc
   rw[if_pos hc];exact aji l f (n+1) (by omega) h2
  ·rename_i hc
   rw[if_neg hc];by_cases hk:(gI l n).kd=1
   ·exact .inl hk
   ·right
    cases hf:forced (gI l n)with
    |true=>rfl
    |false=>exact absurd ⟨h2,hk,hf⟩ hc
theorem apL {l:List It} {a b n:Nat} (h:qJ l a b=true) (h1:a≤n) (h2:n<b):forced (gI l n)=false:=by unfold qJ at h;rw[List.all_eq_true]at h;have:=h (n-a) (List.mem_range.2 (by omega));rw[show a+(n-a)=n by omega]at this;simpa using this
def qC (l:List It) (tx:LS) (s:ByteArray) (n:Nat):ByteArray:=
 if(gI l n).kd=1 then s++(tx[nbX l n]?.getD .empty)else if 0<(gI l n).wd then s++⟨#[32]⟩else s
def liF (l:List It) (tx:LS) (is:List Int):ByteArray:=is.foldl (fun s n=>qC l tx s n.toNat) ⟨#[]⟩
theorem yB (l:List It) (tx:LS) (is:List Int) (n:Int):liF l tx (is++[n])=qC l tx (liF l tx is) n.toNat:=by simp[liF,List.foldl_append]
theorem yE {l:List It} {tx:LS} {is:List Int} {j:Nat} (h:j<is.length):liF l tx (is.take (j+1))=qC l tx (liF l tx (is.take j)) (is[j]?.getD 0).toNat:=by rw[List.take_succ_eq_append_getElem h,yB,List.getElem?_eq_getElem h,Option.getD_some]
theorem yu {l:List It} {tx:LS} (h:∀k:Nat,(tx[k]?.getD ByteArray.empty).size≤20) (is:List Int):∀j,j≤is.length→(liF l tx (is.take j)).size≤20*j
 |0,_=>by simp[liF,ByteArray.size]
 |j+1,hj=>by
  have ih:=yu (l:=l) h is j (by omega);rw[yE (by omega)];unfold qC;split
  ·rw[ByteArray.size_append]
   have:=h (nbX l (is[j]?.getD 0).toNat);omega
  ·split
   ·rw[ByteArray.size_append,show(⟨#[32]⟩:ByteArray).size=1 from rfl]
    omega
   ·omega
theorem akQ {s:ByteArray} (h:1≤s.size):¬s=⟨#[]⟩:=fun e=>by subst e;simp[ByteArray.size]at h
theorem axw {l:List It} {tx:LS} {a en:Nat} (hl:aW l=true) (hq:eG l a en=true) (htx:∀k,k<nb l→1≤(tx[k]?.getD .empty).size):∀i,aF l a+i≤en→liF l tx (mK l (aF l a) (aF l a+i))=lnT l tx a (aF l a+i-a)∧(0<i→1≤(lnT l tx a (aF l a+i-a)).size):=by
 obtain⟨⟨ha,hen⟩,-,-,hs,hf⟩:=fZ.1 hq;have hsa:=(wm (l:=l) (a:=a)).1;have hfront:∀i,a+i≤aF l a→lnT l tx a i=⟨#[]⟩:=by
  intro i
  induction i with
  |zero=>intro _;rfl
  |succ i ih=>intro h;have h1:=ahE l (l.length-a) a (a+i) (by omega) (show a+i<aF l a by omega);rw[lnT,ih (by omega),ale h1.1 (fun q=>q.2.2 rfl)]
 intro i
 induction i with
 |zero=>intro h;refine⟨?_,fun h=>by omega⟩;rw[Nat.add_zero,rF (Nat.le_refl _),hfront _ (by omega)];rfl
 |succ i ih=>
  intro h;obtain⟨e1,e2⟩:=ih (by omega);have hlt:aF l a+i<l.length:=by omega
  have hI:=gQ hl hlt;have hS:lnT l tx a (aF l a+(i+1)-a)=oN l tx (lnT l tx a (aF l a+i-a)) (aF l a+i):=by rw[show aF l a+(i+1)-a=(aF l a+i-a)+1 by omega,lnT,show a+(aF l a+i-a)=aF l a+i by omega]
  have hfirst:i=0→(gI l (aF l a+i)).kd=1:=fun h0=>by
   subst h0;rcases aji l (l.length-a) a (by omega) (show aF l a<l.length by omega)with h1|h1
   ·exact h1
   ·have h2:=apL hf hsa (show aF l a<en by omega)
    have h3:forced (gI l (aF l a))=true:=h1;rw[h2]at h3;cases h3
  rw[hS,←Nat.add_assoc];generalize lnT l tx a (aF l a+i-a)=s at*;by_cases k1:(gI l (aF l a+i)).kd=1
  ·rw[oJ (by omega) (by omega),yB,e1,Int.toNat_natCast,anF k1]
   unfold qC;rw[if_pos k1];refine⟨rfl,fun _=>?_⟩;have:=htx _ (ajj hlt k1);rw[ByteArray.size_append];omega
  ·have hi0:0<i:=by
    rcases Nat.eq_zero_or_pos i with h0|h0
    ·exact absurd (hfirst h0) k1
    ·exact h0
   have hs1:=e2 hi0;by_cases k3:(gI l (aF l a+i)).kd=3
   ·rw[xH (by omega) k3,e1,ale k1 (fun q=>by have:=q.1;omega)]
    exact⟨rfl,fun _=>hs1⟩
   ·have k2:(gI l (aF l a+i)).kd=2:=by have h5:(gI l (aF l a+i)).kd=1∨(gI l (aF l a+i)).kd=2∨(gI l (aF l a+i)).kd=3:=hI.kd;omega
    rw[oJ (by omega) k3,yB,e1,Int.toNat_natCast];unfold qC;rw[if_neg k1];by_cases hw:0<(gI l (aF l a+i)).wd
    ·rw[if_pos hw,anm ⟨k2,hw,akQ hs1⟩]
     refine⟨rfl,fun _=>?_⟩;rw[ByteArray.size_append];omega
    ·rw[if_neg hw,ale k1 (fun q=>hw q.2.1)]
     exact⟨rfl,fun _=>hs1⟩
theorem ahq {l:List It} {tx:LS} {a en:Nat} (hl:aW l=true) (hq:eG l a en=true) (htx:∀k,k<nb l→1≤(tx[k]?.getD .empty).size):liF l tx (mK l (aF l a) en)=lnT l tx a (en-a):=by
 have hs:=(fZ.1 hq).2.2.2.1;have:=(axw hl hq htx (en-aF l a) (by omega)).1
 rwa[show aF l a+(en-aF l a)=en by omega]at this
theorem au5 {ws pats:LS} {k:Nat} (h:k<(txR ws pats).length):1≤((txR ws pats)[k]?.getD .empty).size:=(aX (anj h)).2.1
def bxL (l:List It) (tx:LS) (k:Nat):VL:=((List.range k).filter fun n:Nat=>decide ((gI l n).kd=1)).map fun n:Nat=>(Value.int .i64 (n:Int),Value.string (tx[nbX l n]?.getD .empty))
theorem aib {l:List It} {tx:LS} {k:Nat} (h:(gI l k).kd=1):bxL l tx (k+1)=bxL l tx k++[(.int .i64 (k:Int),.string (tx[nbX l k]?.getD .empty))]:=by simp[bxL,List.range_succ,List.filter_append,h]
theorem amV {l:List It} {tx:LS} {k:Nat} (h:¬(gI l k).kd=1):bxL l tx (k+1)=bxL l tx k:=by simp[bxL,List.range_succ,List.filter_append,h]
theorem ajA {l:List It} {tx:LS}:∀{k:Nat},k≤l.length→(bxL l tx k).length=nbX l k
 |0,_=>rfl
 |k+1,h=>by
  have ih:=ajA (l:=l) (tx:=tx) (k:=k) (by omega);by_cases hk:(gI l k).kd=1
  ·rw[aib hk,List.length_append,ih,ace (by omega) hk];rfl
  ·rw[amV hk,ih,ahO (by omega) hk]
theorem aqb {l:List It} {tx:LS} {k n:Nat} (h:n<k) (hk:(gI l n).kd=1):(Value.int .i64 (n:Int),Value.string (tx[nbX l n]?.getD .empty))∈bxL l tx k:=
 List.mem_map.2 ⟨n,List.mem_filter.2 ⟨List.mem_range.2 h,by simpa using hk⟩,rfl⟩
theorem ahX {l:List It} {tx:LS} {k:Nat} {p:Value×Value} (h:p∈bxL l tx k):∃n:Nat,n<k∧p.1=.int .i64 (n:Int):=by obtain⟨n,h1,rfl⟩:=List.mem_map.1 h;exact⟨n,List.mem_range.1 (List.mem_filter.1 h1).1,rfl⟩
theorem apN {l:List It} {tx:LS} {k:Nat}:∀p∈bxL l tx k,p.1≠ .int .i64 (k:Int):=fun p hp e=>by obtain⟨n,h1,h2⟩:=ahX hp;rw[h2]at e;simp only[Value.int.injEq,true_and]at e;omega
theorem ai0 {l:List It} {tx:LS} (k:Nat):((bxL l tx k).map Prod.fst).Nodup:=by unfold bxL;rw[List.map_map];refine List.Pairwise.map _ (fun a b h=>?_) (List.Pairwise.filter _ List.nodup_range);simp only[Function.comp,ne_eq,Value.int.injEq,true_and];omega
abbrev Sg:=Option (Nat×VL)
structure HyC (io:IoS) (w00 w0:World) (B:Nat) (ob:Option Nat):Prop where
 ne:∀i,io.wr i∨io.im i∨io.it i→some i≠ob
 lo:∀i,io.wr i∨io.it i→B≤i
 lt:∀i,io.wr i→i<w0.heap.size
 hb:∀b,ob=some b→b<w0.heap.size
 sz:B≤w0.heap.size
 fr:Fr (fun i=>some i=ob∨B≤i) w00 w0
 tk:∀t∈tks,t<B∧some t≠ob
def St (P:Program) (k:TypeId) (N B:Nat) (w00:World) (s:AS) (σ:Sg) (a:Act) (w:World):Prop:=
 (∃io w0 g,Rel io w0 N g s a w∧HyC io w00 w0 B (σ.map Prod.fst))∧∀b L,σ=some (b,L)→mO P k w b L
section
variable {P:Program} {k:TypeId} {N B:Nat} {w00:World}
theorem mO.same {w w':World} {b:Nat} {L:VL} (h:mO P k w b L) (e:w'.heap[b]?=w.heap[b]?):mO P k w' b L:=by obtain⟨es,clock,hb,H⟩:=h;exact⟨es,clock,e.trans hb,H⟩
theorem HyC.same {io:IoS} {w0:World} {ob:Option Nat} (h:HyC io w00 w0 B ob) {g:Gh} {s:AS} {a:Act} {w:World} (hr:Rel io w0 N g s a w) {b:Nat} (hb:ob=some b):w.heap[b]?=w0.heap[b]?:=
 hr.fr.block b (h.hb b hb) fun q=>h.ne b (.inl q) hb.symm
theorem akC {io:IoS} {w0:World} {σ:Sg} {g g':Gh} {s s':AS} {a a':Act} {w w':World} (hC:HyC io w00 w0 B (σ.map Prod.fst)) (h1:Rel io w0 N g s a w) (h2:Rel io w0 N g' s' a' w') (hM:∀b L,σ=some (b,L)→mO P k w b L):∀b L,σ=some (b,L)→mO P k w' b L:=fun b L e=>
 (hM b L e).same (by
   have hb:σ.map Prod.fst=some b:=by rw[e];rfl
   rw[hC.same h1 hb,hC.same h2 hb])
theorem HyC.sG {io:IoS} {w0:World} {ob:Option Nat} (h:HyC io w00 w0 B ob) {g:Gh} {s:AS} {a:Act} {w:World} (hr:Rel io w0 N g s a w) {kk:Bool} {i:Nat} (hi:g.I kk i):i<w.heap.size∧some i≠ob:=by
 refine⟨hr.lt _ _ hi,?_⟩;cases kk with
 |false=>exact h.ne i (.inr (.inl (hr.old i hi)))
 |true=>
  rcases hr.new i hi with⟨h1,_⟩|h1
  ·exact fun e=>by have:=h.hb i e.symm;omega
  ·exact h.ne i (.inr (.inr h1))
theorem HyC.iW {io:IoS} {w0:World} {ob:Option Nat} (h:HyC io w00 w0 B ob) {g:Gh} {s:AS} {a:Act} {w:World} (hr:Rel io w0 N g s a w) {o:Nat} {c:Nat×Nat×List PV} (ho:s.ob o=some c):g.β o<w.heap.size∧some (g.β o)≠ob∧B≤g.β o:=by
 obtain⟨h1,h2,h3,h4⟩:=hr.ob o c ho;obtain⟨arr,ha,_⟩:=h4.1;refine⟨lt_of_heap ha,?_,?_⟩
 ·rcases h2 with h2|h2
  ·exact fun e=>by have:=h.hb _ e.symm;omega
  ·exact h.ne _ (.inl h2)
 ·rcases h2 with h2|h2
  ·have:=h.sz;omega
  ·exact h.lo _ (.inl h2)
theorem Rel.zo {io:IoS} {w0 w w':World} {ob ob':Option Nat} {g:Gh} {s:AS} {a:Act} (hr:Rel io w0 N g s a w) (hC:HyC io w00 w0 B ob) (hf:w.grownBy w' ob')
 (h1:∀i,i<w.heap.size→some i=ob'→some i=ob) (h2:∀i,some i=ob→some i=ob') (h3:∀b,ob'=some b→b<w'.heap.size):∃io',Rel io' w' N g s a w'∧HyC io' w00 w' B ob':=by
 have hI:∀kk i,g.I kk i→w'.heap[i]?=w.heap[i]?:=fun kk i hi=>by obtain⟨q1,q2⟩:=hC.sG hr hi;exact hf.block i q1 fun e=>q2 (h1 i q1 e)
 have hsz:B≤w.heap.size:=Nat.le_trans hC.sz hr.fr.size;have htk:∀t∈tks,some t≠ob':=fun t ht e=>(hC.tk t ht).2 (h1 t (by have:=(hC.tk t ht).1;omega) e);refine⟨{wr:=fun i=>∃o,(s.ob o).isSome∧i=g.β o,im:=g.I false,m:=0,β0:=fun _=>0,κ0:=fun _=>0,it:=g.I true},⟨hr.nt,hr.df,fun t=>(hr.tm t).mono (Gh.le_refl g) hI,fun o c ho=>?_,hr.inj,hr.nx,fun kk i hi=>Nat.lt_of_lt_of_le (hr.lt kk i hi) hf.size,fun i hi=> .inr hi,Fr.refl _ _,fun i hi=>hi,⟨fun o ho=>(Nat.not_lt_zero o ho).elim,fun o ho=>(Nat.not_lt_zero o ho).elim⟩,fun o ho=>False.elim ho,?_⟩,⟨fun i hi=>?_,fun i hi=>?_,fun i hi=>?_,h3,Nat.le_trans hsz hf.size,?_,fun t ht=>⟨(hC.tk t ht).1,htk t ht⟩⟩⟩
 ·obtain⟨k1,k2,k3,k4⟩:=hr.ob o c ho
  obtain⟨q1,q2,q3⟩:=hC.iW hr ho;exact⟨k1,.inr ⟨o,by simp[ho],rfl⟩,k3,k4.mono (Gh.le_refl g) k1 hI (hf.block _ q1 fun e=>q2 (h1 _ q1 e))⟩
 ·have t1:qF w (fun i=>some i=ob'):=hr.tab.keep hr.fr fun t ht e=>htk t ht e
  refine t1.keep ⟨hf.os,hf.tape,hf.output,hf.size,fun i hi hn=>hf.block i hi hn⟩ ?_;rintro t ht ⟨o,ho,rfl⟩;obtain⟨c,hc⟩:=Option.isSome_iff_exists.1 ho;have:=(hC.iW hr hc).2.2;have:=(hC.tk _ ht).1;omega
 ·rcases hi with⟨o,ho,rfl⟩|hi|hi
  ·obtain⟨c,hc⟩:=Option.isSome_iff_exists.1 ho
   obtain⟨q1,q2,q3⟩:=hC.iW hr hc;exact fun e=>q2 (h1 _ q1 e)
  ·obtain⟨q1,q2⟩:=hC.sG hr hi
   exact fun e=>q2 (h1 _ q1 e)
  ·obtain⟨q1,q2⟩:=hC.sG hr hi
   exact fun e=>q2 (h1 _ q1 e)
 ·rcases hi with⟨o,ho,rfl⟩|hi
  ·obtain⟨c,hc⟩:=Option.isSome_iff_exists.1 ho
   exact(hC.iW hr hc).2.2
  ·rcases hr.new i hi with⟨q,_⟩|q
   ·exact Nat.le_trans hC.sz q
   ·exact hC.lo i (.inr q)
 ·obtain⟨o,ho,rfl⟩:=hi
  obtain⟨c,hc⟩:=Option.isSome_iff_exists.1 ho;exact Nat.lt_of_lt_of_le (hC.iW hr hc).1 hf.size
 ·have hf1:Fr (fun i=>some i=ob'∨B≤i) w0 w:=⟨hr.fr.os,hr.fr.tape,hr.fr.output,hr.fr.size,fun i hi hn=>hr.fr.block i hi fun q=>hn (.inr (hC.lo i (.inl q)))⟩
  refine⟨hf.os.trans (hf1.os.trans hC.fr.os),hf.tape.trans (hf1.tape.trans hC.fr.tape),hf.output.trans (hf1.output.trans hC.fr.output),Nat.le_trans hC.fr.size (Nat.le_trans hf1.size hf.size),fun i hi hn=>?_⟩;have g1:=hC.fr.block i hi fun q=>hn (q.imp (h2 i) id);have g2:=hf1.block i (Nat.lt_of_lt_of_le hi hC.fr.size) hn;have g3:=hf.block i (Nat.lt_of_lt_of_le hi (Nat.le_trans hC.fr.size hf1.size)) fun q=>hn (.inl q);exact g3.trans (g2.trans g1)
structure HY (P:Program) (k:TypeId) (N B:Nat) (w00:World) (c:Code) (K:X→AS→Sg→Prop) (s:AS) (σ:Sg):Prop where
 go:∀a w,St P k N B w00 s σ a w→∀Q:Exit→Act→World→Prop,(∀x s' σ' a' w',St P k N B w00 s' σ' a' w'→K x s' σ'→Q x.qo a' w')→CWp P c Q a w
variable {c c1 c2:Code} {K:X→AS→Sg→Prop} {s s':AS} {σ:Sg}
theorem HY.seq (h:HY P k N B w00 c1 (fun x s' σ'=>match x with| .normal=>HY P k N B w00 c2 K s' σ'| .exit id=>K (.exit id) s' σ'| .ret=>K .ret s' σ') s σ):HY P k N B w00 (.seq c1 c2) K s σ:=HY.mk fun a w hs Q hQ=>by
 refine wp_seq (CWp.wp (h.go a w hs _ fun x s' σ' a' w' hs' hk=>?_));cases x with
 |normal=>exact(hk.go a' w' hs' Q hQ).wp
 |exit id=>exact hQ _ s' σ' a' w' hs' hk
 |ret=>exact hQ _ s' σ' a' w' hs' hk
theorem HY.block {id:Nat} (h:HY P k N B w00 c (fun x s' σ'=>K (x.out id) s' σ') s σ):HY P k N B w00 (.block id c) K s σ:=HY.mk fun a w hs Q hQ=>by
 refine wp_block (CWp.wp (h.go a w hs _ fun x s' σ' a' w' hs' hk=>?_));have:=hQ _ s' σ' a' w' hs' hk;cases x with
 |normal=>exact this
 |ret=>exact this
 |exit id'=>
  simp only[X.qo,Exit.inBlock,X.out]at this⊢;split
  ·rename_i hid;simpa [hid]using this
  ·rename_i hid;simpa [hid]using this
theorem HY.cond {x:Operand} {b:Bool} (hc:look s.tm x=.val (.bool b)) (ht:b=true→HY P k N B w00 c1 K s σ) (hf:b=false→HY P k N B w00 c2 K s σ):HY P k N B w00 (.cond x c1 c2) K s σ:=HY.mk fun a w hs Q hQ=>by
 obtain⟨⟨io,w0,g,hr,hC⟩,hM⟩:=hs;have hx:=hr.look x;rw[hc]at hx;simp only[Rep]at hx;refine wp_cond hx ?_;cases b with
 |true=>exact((ht rfl).go a w ⟨⟨io,w0,g,hr,hC⟩,hM⟩ Q hQ).wp
 |false=>exact((hf rfl).go a w ⟨⟨io,w0,g,hr,hC⟩,hM⟩ Q hQ).wp
theorem HY.skip (h:K .normal s σ):HY P k N B w00 .skip K s σ:=HY.mk fun a w hs Q hQ=>wp_skip (hQ .normal s σ a w hs h)
theorem HY.ret (h:K .ret s σ):HY P k N B w00 .ret K s σ:=HY.mk fun a w hs Q hQ=>wp_ret (hQ .ret s σ a w hs h)
theorem St.forget {a:Act} {w:World} (h:St P k N B w00 s σ a w) (hf:s.forget s'):St P k N B w00 s' σ a w:=by obtain⟨⟨io,w0,g,hr,hC⟩,hM⟩:=h;exact⟨⟨io,w0,g,hr.forget hf,hC⟩,hM⟩
theorem HY.forget (hf:s.forget s') (h:HY P k N B w00 c K s' σ):HY P k N B w00 c K s σ:=HY.mk fun a w hs Q hQ=>h.go a w (hs.forget hf) Q hQ
theorem HY.loop {α:Type} (S:α→AS) (I:α→Sg→Prop) (μ:α→Nat) (i:α) (hi:I i σ) (hs:s.forget (S i))
 (h:∀i σ,I i σ→HY P k N B w00 c (fun x s' σ'=>match x with| .normal=>∃j,I j σ'∧μ j<μ i∧s'.forget (S j)| .exit id=>K (.exit id) s' σ'| .ret=>K .ret s' σ') (S i) σ):HY P k N B w00 (.loop c) K s σ:=by
 have key:∀n i σ,μ i=n→I i σ→∀a w,St P k N B w00 (S i) σ a w→∀Q:Exit→Act→World→Prop,(∀x s' σ' a' w',St P k N B w00 s' σ' a' w'→K x s' σ'→Q x.qo a' w')→jU P c Q a w:=by
  intro n
  induction n using Nat.strongRecOn with
  |_ n ih=>
   intro i σ hn hi a w hst Q hQ;refine jU.step (CWp.wp ((h i σ hi).go a w hst _ fun x s' σ' a' w' hst' hk=>?_));cases x with
   |normal=>obtain⟨j,hj,hlt,hf⟩:=hk;exact ih (μ j) (hn▸hlt) j σ' rfl hj a' w' (hst'.forget hf) Q hQ
   |exit id=>exact hQ _ s' σ' a' w' hst' hk
   |ret=>exact hQ _ s' σ' a' w' hst' hk
 exact HY.mk fun a w hst Q hQ=>key _ i σ rfl hi a w (hst.forget hs) Q hQ
theorem HY.eng {Γ:Ctx} (hm:P.follows .mixedOrders=true) (hΓ:ak P Γ) (hc:codeOk Γ true N c=true) (hp:pq P Γ N c (fun x s'=>K x s' σ) s.tm s.ob s.nx):HY P k N B w00 c K s σ:=HY.mk fun a w hs Q hQ=>by obtain⟨⟨io,w0,g,hr,hC⟩,hM⟩:=hs;obtain⟨x,s',h1,h2⟩:=wK (fun _=>hm) c _ _ hc hp;exact h1.cwp hΓ.w (fun b hb=>hC.lt b hb) g a w Q hr fun g' a' w' hr'=>hQ x s' σ a' w' ⟨⟨io,w0,g',hr',hC⟩,akC hC hr hr' hM⟩ h2
def Ctx.see (Γ:Ctx) (M:MpO):Ctx:={Γ with mp:=some M}
theorem HY.see {Γ:Ctx} {M:MpO} {L:VL} (hm:P.follows .mixedOrders=true) (hΓ:ak P Γ) (hσ:σ=some (M.b,L)) (hans:∀key c p,M.ans key c=some p→∀(w:World) (g:Gh),mO P k w M.b L→∃v,(Instr.lookup M.t (.map (some M.b)) key c).run P w=.ok v w∧Rep g w p v)
 (hc:codeOk (Γ.see M) true N c=true) (hp:pq P (Γ.see M) N c (fun x s'=>K x s' σ) s.tm s.ob s.nx):HY P k N B w00 c K s σ:=HY.mk fun a w hs Q hQ=>by
 obtain⟨⟨io,w0,g,hr,hC⟩,hM⟩:=hs;obtain⟨x,s',h1,h2⟩:=wK (fun _=>hm) c _ _ hc hp;have hb:σ.map Prod.fst=some M.b:=by rw[hσ];rfl
 have hW:jh P (Γ.see M) io.wr w0:=⟨hΓ.1,hΓ.2.1,fun M' hM'=>by cases hM';refine⟨hC.hb _ hb,fun q=>hC.ne _ (.inl q) hb.symm,fun key c p hp w1 g1 he=>hans key c p hp w1 g1 ((hM _ _ hσ).same ?_)⟩;rw[he,hC.same hr hb]⟩
 exact h1.cwp hW (fun b hb=>hC.lt b hb) g a w Q hr fun g' a' w' hr'=>hQ x s' σ a' w' ⟨⟨io,w0,g',hr',hC⟩,akC hC hr hr' hM⟩ h2
structure HO (P:Program) (k:TypeId) (N B:Nat) (w00:World) (ops:Array Oper) (j:Nat) (l:List Oper) (K:AS→Sg→Prop) (s:AS) (σ:Sg):Prop where
 go:ops.toList.drop j=l→∀a w,St P k N B w00 s σ a w→∀Q:Exit→Act→World→Prop,(∀s' σ' a' w',St P k N B w00 s' σ' a' w'→K s' σ'→Q .normal a' w')→wpOps P ops Q (List.range' j l.length) a w
variable {ops:Array Oper} {J:AS→Sg→Prop} {j:Nat} {o:Oper} {l l1 l2:List Oper}
theorem HY.each {id:Nat} {os:List Oper} (h:HO P k N B w00 os.toArray 0 os (K .normal) s σ):HY P k N B w00 (.region id os.toArray false) K s σ:=HY.mk fun a w hs Q hQ=>by refine wp_region ?_;have:=h.go (by simp) a w hs Q fun s' σ' a' w' hs' hk=>hQ .normal s' σ' a' w' hs' hk;rw[List.range_eq_range'];simpa using this
theorem HO.nil (h:J s σ):HO P k N B w00 ops j [] J s σ:=HO.mk fun _ a w hs Q hQ=>hQ s σ a w hs h
theorem amL {Γ:Ctx} {imm:Md} {io:IoS} {w0:World} {Q:Exit→Act→World→Prop} {s1:AS} (hΓ:jh P Γ io.wr w0) (hio:∀b,io b→b<w0.heap.size) (hd:∀o∈ops.toList,jB N o=true):∀(l1:List Oper) (j:Nat) {g:Gh} {s:AS} {a:Act} {w:World},ops.toList.drop j=l1++l2→Rel io w0 N g s a w→
 iP P Γ imm ops l1 s=some s1→(∀g' a' w',Rel io w0 N g' s1 a' w'→wpOps P ops Q (List.range' (j+l1.length) l2.length) a' w')→wpOps P ops Q (List.range' j (l1++l2).length) a w
 |[],j,g,s,a,w,hl,h,he,hQ=>by simp only[iP,Option.some.injEq]at he;subst he;exact hQ g a w h
 |o::l,j,g,s,a,w,hl,h,he,hQ=>by
  have hk:ops.toList[j]?=some o:=by have:=congrArg (·[0]?) hl;simpa using this
  have hk':ops[j]?=some o:=by simpa using hk
  have hl':ops.toList.drop (j+1)=l++l2:=by rw[←List.drop_drop,hl];rfl
  simp only[iP]at he;split at he
  ·rename_i s2 h2
   simp only[List.cons_append,List.length_cons,List.range'_succ];rw[wpOps_cons];exact ag1 h hΓ hio (hd o (List.mem_of_getElem? hk)) h2 hk' fun g' a' w' hr=>amL hΓ hio hd l (j+1) hl' hr he fun g2 a2 w2 hr2=>by
    have:=hQ g2 a2 w2 hr2
    rwa[List.length_cons,show j+(l.length+1)=j+1+l.length by omega]at this
  ·cases he
theorem HO.pre {Γ:Ctx} {imm:Md} {os:List Oper} (n:Nat) (hΓ:ak P Γ) (hd:os.toArray.all (jB N)=true) (h1:l.take n=l1) (h2:l.drop n=l2) {gs:List (Option Nat)} (hg:os.map (·.dst)=gs) (hp:wq P Γ imm gs l1 (fun s1=>HO P k N B w00 os.toArray (j+l1.length) l2 J s1 σ) s.tm s.ob s.nx):HO P k N B w00 os.toArray j l J s σ:=HO.mk fun hl a w hs Q hQ=>by
 obtain⟨⟨io,w0,g,hr,hC⟩,hM⟩:=hs;have hl12:l=l1++l2:=by rw[←h1,←h2,List.take_append_drop]
 subst hg;rw[show os.map (·.dst)=os.toArray.toList.map (·.dst) by simp,←oz]at hp;obtain⟨s1,e1,e2⟩:=um _ _ hp;rw[hl12]at hl⊢;refine amL hΓ.w (fun b hb=>hC.lt b hb) (fun o ho=>(Array.all_eq_true_iff_forall_mem.1 hd) o (by simpa using ho)) l1 j hl hr e1 fun g' a' w' hr'=>?_;refine e2.go ?_ a' w' ⟨⟨io,w0,g',hr',hC⟩,akC hC hr hr' hM⟩ Q hQ;rw[←List.drop_drop,hl];simp
theorem HO.one (hg:o.guard=none) (h:∀a w,St P k N B w00 s σ a w→∀(Kn:Act→World→Prop) (Q:Exit→Act→World→Prop),(∀s' σ' a' w',St P k N B w00 s' σ' a' w'→HO P k N B w00 ops (j+1) l J s' σ'→Kn a' w')→o.wp P a w Kn Q):HO P k N B w00 ops j (o::l) J s σ:=HO.mk fun hl a w hs Q hQ=>by
 have hk:ops.toList[j]?=some o:=by have:=congrArg (·[0]?) hl;simpa using this
 have hk':ops[j]?=some o:=by simpa using hk
 have hl':ops.toList.drop (j+1)=l:=by rw[←List.drop_drop,hl];rfl
 simp only[List.length_cons,List.range'_succ];rw[wpOps_cons];unfold wpOp;simp only[hk'];have hw:Region.wanted o (yielded ops a.tmps)=true:=by simp[Region.wanted,hg]
 rw[hw];simp only[if_true];left;exact h a w hs _ _ fun s' σ' a' w' hs' hh=>hh.go hl' a' w' hs' Q hQ
theorem St.put {a:Act} {w:World} (h:St P k N B w00 s σ a w) {d:Option Nat} (hd:∀x,d=some x→x<N) {p:PV} {v:Value} (hv:∀(g:Gh) (w:World),Rep g w p v):St P k N B w00 (s.put d p) σ (a.put d v) w:=by obtain⟨⟨io,w0,g,hr,hC⟩,hM⟩:=h;exact⟨⟨io,w0,g,hr.put hd (hv g w),hC⟩,hM⟩
theorem St.zo {a:Act} {w w':World} {b:Nat} {L L':VL} (h:St P k N B w00 s (some (b,L)) a w) (hf:w.grownBy w' (some b)) (hM:mO P k w' b L'):St P k N B w00 s (some (b,L')) a w':=by obtain⟨⟨io,w0,g,hr,hC⟩,_⟩:=h;obtain⟨io',h1,h2⟩:=hr.zo hC hf (fun i _ e=>e) (fun i e=>e) (fun b' e=>by cases e;exact hM.lt);exact⟨⟨io',w',g,h1,h2⟩,fun b' L2 e=>by cases e;exact hM⟩
theorem HO.make {t d:Nat} (ho:o.op=.makeMap t none) (hdst:o.dst=some d) (hd:d<N) (hg:o.guard=none) (h:∀b,B≤b→HO P k N B w00 ops (j+1) l J (s.put (some d) (.val (.map (some b)))) (some (b,[]))):HO P k N B w00 ops j (o::l) J s none:=by
 refine HO.one hg fun a w hs Kn Q hK=>?_;obtain⟨⟨io,w0,g,hr,hC⟩,hM⟩:=hs;have hrun:(execOp a.eval o).run P w=.ok (.value (.map (some w.heap.size))) (w.alloc (.map #[] 0)):=by simp[execOp,ho,run_makeMap]
 unfold Oper.wp;rw[hrun,Oper.upon_value,hdst];obtain⟨io',h1,h2⟩:=hr.zo (ob':=some w.heap.size) hC (World.grownBy_alloc w _ _) (fun i hi e=>by cases e;omega) (fun i e=>(by cases e)) (fun b' e=>by cases e;simp);refine hK (s.put (some d) (.val (.map (some w.heap.size)))) (some (w.heap.size,[])) _ _ ?_ (h _ (Nat.le_trans hC.sz hr.fr.size));exact St.put ⟨⟨io',_,g,h1,h2⟩,fun b' L' e=>by cases e;exact mO.made w⟩ (fun x e=>by cases e;exact hd) fun g w=>by simp[Rep]
theorem HO.call {b f:Nat} {L:VL} {c:Call} {ps:List PV} {R:PV→VL→Prop} (ho:o.op=.call c) (hc:c.callee=.value (.func f)) (hf:Fnd P f) (hg:o.guard=none) (hd:∀x,o.dst=some x→x<N) (hps:(c.args.toList.map (look s.tm)).mapM (reify false 0 s.ob fuel)=some ps)
 (hcall:∀(w:World) (Jm:Nat→Prop) (args:Array Value),(∀i,Jm i→i<w.heap.size∧i≠b)→bX (aaN Jm) w ps args.toList→mO P k w b L→qF w (fun i=>i=b)→Calls P f args w fun e w'=>∃p v L',e=.returned v∧(∀(g:Gh) (w:World),Rep g w p v)∧w.grownBy w' (some b)∧mO P k w' b L'∧R p L')
 (h:∀p L',R p L'→HO P k N B w00 ops (j+1) l J (s.put o.dst p) (some (b,L'))):HO P k N B w00 ops j (o::l) J s (some (b,L)):=by
 refine HO.one hg fun a w hs Kn Q hK=>?_;have hs0:=hs;obtain⟨⟨io,w0,g,hr,hC⟩,hM⟩:=hs;obtain⟨fn,hfn,hname,hbody⟩:=hf;have hrun:(execOp a.eval o).run P w=.ok (.enter f (c.args.map a.eval)) w:=by unfold execOp;simp only[ho,resolve,hc,Act.eval,Deferred.ofValue,Sem.run_bind,Sem.run_pure,Result.andThen_ok,invoke,callFunc,run_program,hfn];simp[hname,hbody]
 unfold Oper.wp;rw[hrun,Oper.upon_enter];have hseen:Seen false 0 g s (aaN fun b=>(∃k,g.I k b)∨∃o,(s.ob o).isSome∧b=g.β o):=⟨fun _=>⟨fun k b hb=>⟨rfl,.inl ⟨k,hb⟩⟩,fun o ho=>⟨rfl,.inr ⟨o,ho,rfl⟩⟩⟩,fun hh=>by cases hh⟩;have hargs:bX (aaN fun b=>(∃k,g.I k b)∨∃o,(s.ob o).isSome∧b=g.β o) w ps (c.args.map a.eval).toList:=by rw[Array.toList_map];exact bX.conv (Rep.seen (fun o c hoc=>(hr.ob o c hoc).2.2.2) hseen fuel) (hr.looks _) hps
 have hT:qF w (fun i=>i=b):=hr.tab.keep hr.fr fun t ht e=>(hC.tk t ht).2 (by rw[e];rfl);refine(hcall w _ _ ?_ hargs (hM _ _ rfl) hT).mono ?_
 ·rintro i (⟨k',hi⟩|⟨o',ho',rfl⟩)
  ·obtain⟨q1,q2⟩:=hC.sG hr hi
   exact⟨q1,fun e=>q2 (by rw[e];rfl)⟩
  ·obtain⟨c',hc'⟩:=Option.isSome_iff_exists.1 ho'
   obtain⟨q1,q2,_⟩:=hC.iW hr hc';exact⟨q1,fun e=>q2 (by rw[e];rfl)⟩
 ·rintro e w' ⟨p,v,L',rfl,hv,hgr,hM',hR⟩
  exact hK _ _ _ _ ((hs0.zo hgr hM').put hd hv) (h p L' hR)
end
theorem uN {g:Gh} {w:World}:∀{cs:List PV} {vs:List Value},iq cs=some vs→bX g w cs vs
 |[],vs,h=>by simp only[iq,Option.some.injEq]at h;subst h;simp[bX]
 | .val v::cs,vs,h=>by simp only[iq,Option.map_eq_some_iff]at h;obtain⟨us,h1,rfl⟩:=h;simp only[bX];exact⟨v,us,rfl,by simp[Rep],uN h1⟩
 | .dead::_,_,h| .lst .. ::_,_,h| .ptr .. ::_,_,h| .own .. ::_,_,h| .row .. ::_,_,h| .agg _::_,_,h| .tup _::_,_,h=>by simp[iq]at h
theorem uV {g:Gh} {w:World} {p:PV} {v:Value} (h:toVal p=some v):Rep g w p v:=by
 cases p with
 |val u=>simp only[toVal,Option.some.injEq]at h;subst h;simp[Rep]
 |agg cs=>simp only[toVal,Option.map_eq_some_iff]at h;obtain⟨vs,h1,rfl⟩:=h;simp only[Rep];exact⟨_,rfl,by simpa using uN h1⟩
 |_=>simp[toVal]at h
theorem adB {g:Gh} {w:World} {p1 p2:PV} {v1 v2:Value} (h1:Rep g w p1 v1) (h2:Rep g w p2 v2):Rep g w (.tup [p1,p2]) (.tuple #[v1,v2]):=by simp only[Rep,bX];exact⟨_,rfl,_,_,rfl,h1,_,_,rfl,h2,rfl⟩
def wo (c0:Bool) (k0:Value) (p:PV):Value→Bool→Option PV:=open Classical in fun key c=>if key=k0∧c=c0 then some p else none
theorem tJ {c0 c:Bool} {k0 key:Value} {p q:PV} (h:wo c0 k0 p key c=some q):key=k0∧c=c0∧q=p:=by
 unfold wo at h;split at h
 ·rename_i hc;cases h;exact⟨hc.1,hc.2,rfl⟩
 ·cases h
theorem ane {Γ:Ctx} {t b:Nat} {c:Bool} {k0:Value} {p:PV}:lkP (Γ.see ⟨t,b,wo c k0 p⟩).mp t (.val (.map (some b))) (some k0) c=some p:=by simp[Ctx.see,lkP,wo]
section
variable {P:Program} {k:TypeId} {N B:Nat} {w00:World} {Γ:Ctx} {imm:Md} {ops:Array Oper} {io:IoS} {w0:World}
theorem aia {l2:List Oper}:∀(l:List Oper) (j:Nat) (s:AS),ops.toList.drop j=l++l2→evL P Γ imm ops (List.range' j l.length) s=iP P Γ imm ops l s
 |[],j,s,hl=>rfl
 |o::l,j,s,hl=>by
  have hk:ops[j]?=some o:=by have:=congrArg (·[0]?) hl;simpa using this
  have hl':ops.toList.drop (j+1)=l++l2:=by rw[←List.drop_drop,hl];rfl
  simp only[List.length_cons,List.range'_succ,evL,hk,iP];cases vH P Γ imm ops o s with
  |none=>rfl
  |some s'=>exact aia l (j+1) s' hl'
theorem alk {Q:Exit→Act→World→Prop} {a:Act} {w:World} {listed:Array Bool} (h:∀i,i<ops.size→listed.getD i true=true) (hQ:Q .normal a w):∀fuel,wpAny P .any ops Q fuel listed a w:=by
 have hnil:Region.ready .any ops listed=[]:=by
  cases hr:Region.ready .any ops listed with
  |nil=>rfl
  |cons i l=>
   have hm:i∈Region.ready .any ops listed:=by rw[hr];simp
   rw[mem_ready]at hm;obtain⟨h1,o,h2,_⟩:=hm;rw[h i (Array.getElem?_eq_some_iff.1 h2).1]at h1;cases h1
 intro fuel;cases fuel with
 |zero=>exact⟨hnil,hQ⟩
 |succ fuel=>exact⟨fun _=>hQ,fun i hi=>by rw[hnil]at hi;cases hi⟩
theorem al9 (hΓ:jh P Γ io.wr w0) (hio:∀b,io b→b<w0.heap.size) (hd:ops.all (jB N)=true) {n:Nat} (hn:ops.size=n+1) (hok:oF Γ imm ops=true) (hlast:∀i,i<n→aaL ops ops.size i n=true) {Q:Exit→Act→World→Prop} {s':AS}
 (hQ:∀g' a' w',Rel io w0 N g' s' a' w'→wpOp P ops Q n (Q .normal) a' w'):
 ∀(fuel:Nat) (listed:Array Bool) (rem:List Nat) (g:Gh) (s:AS) (a:Act) (w:World),rem.length+1≤fuel→listed.size=ops.size→(∀i,i∈rem↔i<n∧listed.getD i true=false)→listed.getD n true=false→rem.Pairwise (· < ·)→
  (∀j o,ops[j]?=some o→listed.getD j true=true→∀e∈o.after,Region.binds .any e=true→listed.getD e.on false=true)→
  Rel io w0 N g s a w→evL P Γ imm ops rem s=some s'→wpAny P .any ops Q fuel listed a w:=by
 have hfacts:=lg hok;have hon:ops[n]?=some ops[n]:=Array.getElem?_eq_getElem (by omega);intro fuel
 induction fuel with
 |zero=>intro listed rem g s a w hlen;omega
 |succ fuel ih=>
  intro listed rem g s a w hlen hsz hrem hln hpw hcl h he;have hl':∀x,x<n→¬x∈rem→listed.getD x false=true:=fun x hx hm=>by
   rw[hrem]at hm;have hlt':x<listed.size:=by omega
   have:listed.getD x true≠false:=fun h0=>hm ⟨hx,h0⟩;simp[hlt']at this⊢;exact this
  have hne:Region.ready .any ops listed≠[]:=by
   intro hnil;cases rem with
   |nil=>
    have:n∈Region.ready .any ops listed:=by rw[mem_ready];refine⟨hln,ops[n],hon,fun e he hb=>?_⟩;exact hl' _ ((hfacts n (by omega)).2 _ hon e he hb) (by simp)
    rw[hnil]at this;cases this
   |cons i0 q=>
    obtain⟨hi1,hi2⟩:=(hrem i0).1 (by simp);have:i0∈Region.ready .any ops listed:=by
     rw[mem_ready];refine⟨hi2,ops[i0],Array.getElem?_eq_getElem (by omega),fun e he hb=>?_⟩;have hlt:=(hfacts i0 (by omega)).2 _ (Array.getElem?_eq_getElem (by omega)) e he hb;refine hl' _ (by omega) fun hm=>?_;rcases List.mem_cons.1 hm with hm|hm
     ·omega
     ·have:=(List.pairwise_cons.1 hpw).1 _ hm
      omega
    rw[hnil]at this;cases this
  refine⟨fun hr=>absurd hr hne,fun i hi=>?_⟩;rw[mem_ready]at hi;obtain⟨h1,o,h2,h3⟩:=hi;have hilt:=(Array.getElem?_eq_some_iff.1 h2).1;by_cases hin:i=n
  ·subst hin
   have hnil:rem=[]:=by
    cases rem with
    |nil=>rfl
    |cons i0 q=>
     exfalso;obtain⟨hi1,hi2⟩:=(hrem i0).1 (by simp);have hxl:=jK hcl _ _ _ (hlast i0 hi1) (fun o' ho' e he hb=>by rw[h2]at ho';cases ho';exact h3 e he hb);have hlt:i0<listed.size:=by omega
     simp[hlt]at hi2 hxl;rw[hi2]at hxl;cases hxl
   subst hnil;simp only[evL,Option.some.injEq]at he;subst he;refine wpOp_mono (fun a' w' hq=>?_) (hQ g a w h);refine alk (fun x hx=>?_) hq fuel;by_cases hxi:x=i
   ·subst hxi
    have hlt:x<listed.size:=by omega
    simp[hlt]
   ·rw[getD_set_ne true (fun e=>hxi e.symm)]
    have:=hl' x (by omega) (by simp);have hlt:x<listed.size:=by omega
    simp[hlt]at this⊢;exact this
  ·have hmem:=(hrem i).2 ⟨by omega,h1⟩
   obtain⟨p,q,rfl⟩:=List.append_of_mem hmem;have hp:∀x∈p,jl Γ imm ops x i=true:=fun x hx=>by
    have hxi:x<i:=by rw[List.pairwise_append]at hpw;exact hpw.2.2 x hx i (by simp)
    rcases((hfacts i hilt).1 x hxi).symm with ho|ho
    ·exfalso
     have hxl:=jK hcl _ _ _ ho (fun o' ho' e he hb=>by rw[h2]at ho';cases ho';exact h3 e he hb);have:=((hrem x).1 (by simp[hx])).2;have hlt:x<listed.size:=by have:=((hrem x).1 (by simp[hx])).1;omega
     simp[hlt]at this hxl;rw[this]at hxl;cases hxl
    ·exact ho
   have hfr:=lC hp he;rw[gT,h2]at hfr;dsimp only at hfr;split at hfr
   ·rename_i s1 hs1
    have hdo:jB N o=true:=(Array.all_eq_true_iff_forall_mem.1 hd) o (Array.mem_of_getElem? h2);refine ag1 h hΓ hio hdo hs1 h2 fun g' a' w' hr=>ih _ (p++q) g' s1 a' w' (by simp at hlen⊢;omega) (by simpa using hsz) (fun j=>?_) ?_ ?_ ?_ hr hfr
    ·by_cases hji:j=i
     ·subst hji
      have hnp:j∉p++q:=by
       rw[List.pairwise_append]at hpw;intro hm;rcases List.mem_append.1 hm with hm|hm
       ·have:=hpw.2.2 j hm j (by simp)
        omega
       ·have:=(List.pairwise_cons.1 hpw.2.1).1 j hm
        omega
      constructor
      ·intro hm;exact absurd hm hnp
      ·rintro⟨_,hf⟩
       have hlt:j<listed.size:=by omega
       simp[hlt]at hf
     ·rw[getD_set_ne true (fun e=>hji e.symm),←hrem j]
      simp[hji]
    ·rw[getD_set_ne true hin]
     exact hln
    ·rw[List.pairwise_append]at hpw⊢
     exact⟨hpw.1,(List.pairwise_cons.1 hpw.2.1).2,fun x hx y hy=>hpw.2.2 x hx y (by simp[hy])⟩
    ·intro j o' ho' hl e he hb
     by_cases hji:j=i
     ·subst hji
      rw[h2]at ho';cases ho';exact getD_set_true (h3 e he hb)
     ·rw[getD_set_ne true (fun e=>hji e.symm)]at hl
      exact getD_set_true (hcl j o' ho' hl e he hb)
   ·cases hfr
variable {c:Code} {K:X→AS→Sg→Prop} {J:AS→Sg→Prop} {s:AS} {σ:Sg} {b:Nat} {L:VL}
inductive Upd (L:VL) (key val:Value):VL→Prop
 |new (h:∀p∈L,p.1≠key):Upd L key val (L++[(key,val)])
 |old {L1 L2:VL} {v0:Value} (h:L=L1++(key,v0)::L2):Upd L key val (L1++(key,val)::L2)
theorem mO.upd {t e:TypeId} {w:World} {key val:Value} {kl:Lit} (h:mO P k w b L) (Ky:Go.Maps.Keyed P k) (ht:P.underlying t=some (.map k e)) (hkey:keyOf P k key=some kl):
 ∃w' L',(Instr.mapUpdate t (.map (some b)) key val).run P w=.ok () w'∧mO P k w' b L'∧w.grownBy w' (some b)∧Upd L key val L':=by
 by_cases hm:∃v0,(key,v0)∈L
 ·obtain⟨v0,hm⟩:=hm
  obtain⟨L1,L2,rfl⟩:=List.append_of_mem hm;obtain⟨w',q1,q2,q3,_⟩:=h.apK (v:=val) Ky ht hkey;exact⟨w',_,q1,q2,q3,.old rfl⟩
 ·have hm':∀p∈L,p.1≠key:=fun p hp e1=>hm ⟨p.2,by rw[←e1];exact hp⟩
  obtain⟨w',q1,q2,q3,_⟩:=h.aov (v:=val) Ky ht hkey hm';exact⟨w',_,q1,q2,q3,.new hm'⟩
theorem amK {o:Oper} {t e:TypeId} {x y z:Operand} {key val:Value} {kl:Lit} (Ky:Go.Maps.Keyed P k) (ht:P.underlying t=some (.map k e)) (ho:o.op=.mapUpdate t x y z) (hdst:o.dst=none) (hx:look s.tm x=.val (.map (some b))) (hy:toVal (look s.tm y)=some key) (hz:toVal (look s.tm z)=some val) (hkey:keyOf P k key=some kl)
 {a:Act} {w:World} (hs:St P k N B w00 s (some (b,L)) a w) {Kn:Act→World→Prop} {Q:Exit→Act→World→Prop} (hK:∀L' w',St P k N B w00 s (some (b,L')) a w'→Upd L key val L'→Kn a w'):o.wp P a w Kn Q:=by
 have hs0:=hs;obtain⟨⟨io,w0,g,hr,hC⟩,hM⟩:=hs;have ex:=hr.look x;rw[hx]at ex;simp only[Rep]at ex;have ey:=eH (hr.look y) hy;have ez:=eH (hr.look z) hz;obtain⟨w',L',q1,q2,q3,q4⟩:=(hM _ _ rfl).upd (val:=val) Ky ht hkey;have hrun:(execOp a.eval o).run P w=.ok .skip w':=by unfold execOp;simp only[ho,ex,ey,ez,Sem.run_bind,q1,Result.andThen_ok,Sem.run_pure]
 unfold Oper.wp;rw[hrun,Oper.upon_skip,hdst];exact hK L' w' (hs0.zo q3 q2) q4
theorem HO.upd {o:Oper} {j:Nat} {l:List Oper} {t e:TypeId} {x y z:Operand} {key val:Value} {kl:Lit} (Ky:Go.Maps.Keyed P k) (ht:P.underlying t=some (.map k e)) (ho:o.op=.mapUpdate t x y z) (hdst:o.dst=none) (hg:o.guard=none) (hx:look s.tm x=.val (.map (some b))) (hy:toVal (look s.tm y)=some key) (hz:toVal (look s.tm z)=some val) (hkey:keyOf P k key=some kl)
 (h:∀L',Upd L key val L'→HO P k N B w00 ops (j+1) l J s (some (b,L'))):HO P k N B w00 ops j (o::l) J s (some (b,L)):=
 HO.one hg fun a w hs Kn Q hK=>amK Ky ht ho hdst hx hy hz hkey hs fun L' w' hs' hu=>hK s _ a w' hs' (h L' hu)
theorem HY.azf {id n:Nat} {o:Oper} {pre:List Oper} {t e:TypeId} {x y z:Operand} (hm:P.follows .mixedOrders=true) (hΓ:ak P Γ) (Ky:Go.Maps.Keyed P k) (ht:P.underlying t=some (.map k e)) (hd:ops.all (jB N)=true) (hok:oF Γ imm ops=true) (hlast:(List.range n).all (fun i=>aaL ops ops.size i n)=true)
 (hops:ops.toList=pre++[o]) (hn:pre.length=n) (ho:o.op=.mapUpdate t x y z) (hdst:o.dst=none) (hg:o.guard=none) {gs:List (Option Nat)} (hgs:ops.toList.map (·.dst)=gs)
 (hp:wq P Γ imm gs pre (fun s1=>∃key val kl,look s1.tm x=.val (.map (some b))∧toVal (look s1.tm y)=some key∧toVal (look s1.tm z)=some val∧keyOf P k key=some kl∧∀L',Upd L key val L'→K .normal s1 (some (b,L'))) s.tm s.ob s.nx):HY P k N B w00 (.region id ops true) K s (some (b,L)):=HY.mk fun a w hs Q hQ=>by
 obtain⟨⟨io,w0,g,hr,hC⟩,hM⟩:=hs;subst hgs;rw[←oz]at hp;obtain⟨s1,e1,key,val,kl,h1,h2,h3,h4,h5⟩:=um _ _ hp;have hsz:ops.size=n+1:=by rw[←Array.length_toList,hops,List.length_append,hn];rfl
 have hon:ops[n]?=some o:=by
  have:ops.toList[n]?=some o:=by rw[hops,←hn];simp
  simpa using this
 refine wp_region_any hm ?_;have hdrew:Rel io w0 N g s a {w with drawn:=w.drawn+1}:=⟨hr.nt,hr.df,fun t=>Rep.mono (w:=w) (w':={w with drawn:=w.drawn+1}) (g:=g) (g':=g) (Gh.le_refl g) (fun _ _ _=>rfl) _ _ (hr.tm t),fun o c ho=>by obtain⟨k1,k2,k3,k4⟩:=hr.ob o c ho;exact⟨k1,k2,k3,oV.mono (w:=w) (w':={w with drawn:=w.drawn+1}) (g:=g) (g':=g) k4 (Gh.le_refl g) k1 (fun _ _ _=>rfl) rfl⟩,hr.inj,hr.nx,hr.lt,hr.new,⟨hr.fr.os,hr.fr.tape,hr.fr.output,hr.fr.size,hr.fr.block⟩,hr.old,hr.fix,hr.hl,hr.tab⟩
 refine al9 hΓ.w (fun b hb=>hC.lt b hb) hd hsz hok (fun i hi=>(List.all_eq_true.1 hlast) i (by simpa using hi)) (s':=s1) (fun g' a' w' hr'=>?_) ops.size _ (List.range n) g s a _ (by simp;omega) (by simp) (fun i=>?_) (by simp[hsz]) List.pairwise_lt_range (fun j o ho hl=>?_) hdrew ?_
 ·unfold wpOp
  simp only[hon];have hw:Region.wanted o (yielded ops a'.tmps)=true:=by simp[Region.wanted,hg]
  rw[hw];simp only[if_true];left;exact amK Ky ht ho hdst h1 h2 h3 h4 ⟨⟨io,w0,g',hr',hC⟩,akC hC hr hr' hM⟩ fun L' w2 hs' hu=>hQ .normal s1 _ a' w2 hs' (h5 L' hu)
 ·simp only[List.mem_range]
  constructor
  ·intro hi;exact⟨hi,by have:i<ops.size:=(by omega);simp[this]⟩
  ·exact fun hi=>hi.1
 ·have hlt:=(Array.getElem?_eq_some_iff.1 ho).1
  simp[hlt]at hl
 ·have:=aia (P:=P) (Γ:=Γ) (imm:=imm) (ops:=ops) (l2:=[o]) pre 0 s (by rw[List.drop_zero];exact hops)
  rw[List.range_eq_range',←hn,this];exact e1
theorem HY.cut {Lf:List (Nat×PV)} {O:List (Nat×Nat×Nat×List PV)} {x:Nat} (h1:agree s.tm Lf) (h2:kN s.ob O) (h3:s.nx=x) (h:HY P k N B w00 c K ⟨lk Lf,lo O,x⟩ σ):HY P k N B w00 c K s σ:=
 HY.forget (s':=mkS Lf O x) (jf (iI h1) (gJ h2) h3) h
theorem HY.aap {α:Type} (Lf:α→List (Nat×PV)) (O:α→List (Nat×Nat×Nat×List PV)) (XX:α→Nat) (I:α→Sg→Prop) (μ:α→Nat) (i:α) (hi:I i σ) (h1:agree s.tm (Lf i)) (h2:kN s.ob (O i)) (h3:s.nx=XX i)
 (h:∀i σ,I i σ→HY P k N B w00 c (fun x s' σ'=>match x with| .normal=>∃j,I j σ'∧μ j<μ i∧agree s'.tm (Lf j)∧kN s'.ob (O j)∧s'.nx=XX j| .exit id=>K (.exit id) s' σ'| .ret=>K .ret s' σ') ⟨lk (Lf i),lo (O i),XX i⟩ σ):HY P k N B w00 (.loop c) K s σ:=by
 refine HY.loop (fun i=>mkS (Lf i) (O i) (XX i)) I μ i hi (jf (iI h1) (gJ h2) h3) fun i σ hi=>⟨fun a w hs Q hQ=>(h i σ hi).go a w hs Q fun x s' σ' a' w' hs' hk=>hQ x s' σ' a' w' hs' ?_⟩;cases x with
 |normal=>obtain⟨j,k1,k2,k3,k4,k5⟩:=hk;exact⟨j,k1,k2,jf (iI k3) (gJ k4) k5⟩
 |exit id=>exact hk
 |ret=>exact hk
theorem HY.start {ps:List PV} (h:HY P k N B w00 c K ⟨(bY ps).tm,fun _=>none,0⟩ σ):HY P k N B w00 c K (bY ps) σ:=h
theorem abu {fn:Func} {ps:List PV} {args:Array Value} {w:World} {Jm:Nat→Prop} (hJ:∀b,Jm b→b<w.heap.size) (hT:qF w (fun _=>False)) (hargs:bX (aaN Jm) w ps args.toList) (hle:ps.length≤fn.ntmps):
 Rel ⟨fun _=>False,Jm,0,fun _=>0,fun _=>0,fun _=>False,fun _=>False⟩ w fn.ntmps (aaN Jm) (bY ps) {tmps:=args++Array.replicate (fn.ntmps-args.size) undef,defers:=[]} w:=by
 have hsz:args.size=ps.length:=by simpa using hargs.get.1
 refine⟨by simp;omega,rfl,fun t=>?_,fun o c ho=>(by cases ho),fun o o' ho=>(by cases ho),rfl,fun k b hi=>hJ b hi.2,fun b hi=>(by cases hi.1),Fr.refl _ _,fun b hi=>hi.2,⟨fun o ho=>(Nat.not_lt_zero o ho).elim,fun o ho=>(Nat.not_lt_zero o ho).elim⟩,fun o ho=>False.elim ho,hT⟩;simp only[bY];cases hp:ps[t]? with
 |none=>
  have hge:ps.length≤t:=by simpa using hp
  have:(args++Array.replicate (fn.ntmps-args.size) undef).getD t undef=undef:=by simp only[Array.getD_eq_getD_getElem?];rw[Array.getElem?_append_right (by omega)];simp only[Array.getElem?_replicate];split<;>rfl
  rw[this];simp[Rep]
 |some p=>
  obtain⟨v,hv,hrep⟩:=hargs.get.2 t p hp;have hlt:t<args.size:=by have:=(List.getElem?_eq_some_iff.1 hp).1;omega
  have:(args++Array.replicate (fn.ntmps-args.size) undef).getD t undef=v:=by
   simp only[Array.getD_eq_getD_getElem?];rw[Array.getElem?_append_left hlt];have:args[t]?=some v:=by simpa using hv
   simp[this]
  rw[this];exact hrep
theorem ahd {w:World} {io:Nat→Prop} (hT:qF w io):∀t∈tks,t<w.heap.size:=fun t ht=>hT.lt t ht
theorem HY.calls {f:Nat} {fn:Func} {rs:List ResultVar} {ps:List PV} {args:Array Value} {w:World} {Jm:Nat→Prop} {R:PV→VL→Prop} (hf:P.funcs[f]?=some fn) (hb:fn.body=some c) (hN:fn.ntmps=N) (hrs:fn.results.toList=rs) (hlen:ps.length≤N)
 (hJ:∀i,Jm i→i<w.heap.size∧i≠b) (hargs:bX (aaN Jm) w ps args.toList) (hM:mO P k w b L) (hT:qF w (fun i=>i=b))
 (h:HY P k N w.heap.size w c (fun x s' σ'=>(x=.normal∨x=.ret)∧∃p v L',((fF P s' rs).map gL)=some p∧toVal p=some v∧σ'=some (b,L')∧R p L') (bY ps) (some (b,L))):
 Calls P f args w fun e w'=>∃p v L',e=.returned v∧(∀(g:Gh) (w:World),Rep g w p v)∧w.grownBy w' (some b)∧mO P k w' b L'∧R p L':=by
 subst hN hrs;have hb1:∀i,i≠b→some i≠some b:=fun i h e=>h (by cases e;rfl);refine calls_of_wp hf hb (CWp.wp (h.go _ _ ⟨⟨_,w,_,abu (fun i hi=>(hJ i hi).1) (hT.io fun _ _ q=>q) hargs hlen,⟨fun i hi=>?_,fun i hi=>?_,fun i hi=>False.elim hi,fun b' e=>?_,Nat.le_refl _,Fr.refl _ _,fun t ht=>⟨ahd hT t ht,hb1 _ (hT.apart t ht)⟩⟩⟩,fun b' L2 e=>?_⟩ _ fun x s' σ' a' w' hs' hk=>?_))
 ·rcases hi with hi|hi|hi
  ·exact False.elim hi
  ·exact hb1 _ (hJ i hi).2
  ·exact False.elim hi
 ·rcases hi with hi|hi<;>exact False.elim hi
 ·cases e;exact hM.lt
 ·cases e;exact hM
 ·obtain⟨hx,p,v,L',h1,h2,rfl,h3⟩:=hk
  obtain⟨⟨io,w0,g,hr,hC⟩,hM'⟩:=hs';rw[Option.map_eq_some_iff]at h1;obtain⟨qs,h1,rfl⟩:=h1;obtain⟨u,e1,e2⟩:=iU hr h1;have huv:=eH e2 h2;have hpv:∀(g:Gh) (w:World),Rep g w (gL qs) v:=fun g w=>uV h2;have hgr:w.grownBy w' (some b):=by
   have hf1:Fr (fun i=>some i=some b∨w.heap.size≤i) w0 w':=⟨hr.fr.os,hr.fr.tape,hr.fr.output,hr.fr.size,fun i hi hn=>hr.fr.block i hi fun q=>hn (.inr (hC.lo i (.inl q)))⟩;refine⟨hf1.os.trans hC.fr.os,hf1.tape.trans hC.fr.tape,hf1.output.trans hC.fr.output,Nat.le_trans hC.fr.size hf1.size,fun i hi hn=>?_⟩;have hn':¬(some i=some b∨w.heap.size≤i):=fun q=>q.elim hn fun q=>by omega
   exact(hf1.block i (Nat.lt_of_lt_of_le hi hC.fr.size) hn').trans (hC.fr.block i hi hn')
  have hend:a'.defers=[]∧∃v,(results fn a'.tmps).run P w'=.ok v w'∧∃p u L',Ending.returned v=.returned u∧(∀(g:Gh) (w:World),Rep g w p u)∧w.grownBy w' (some b)∧mO P k w' b L'∧R p L':=
   ⟨hr.df,u,e1,gL qs,u,L',rfl,huv▸hpv,hgr,hM' _ _ rfl,h3⟩
  rcases hx with rfl|rfl<;>exact hend
theorem HY.sound {f:Nat} {fn:Func} {rs:List ResultVar} {φ:Fun} (hf:P.funcs[f]?=some fn) (hb:fn.body=some c) (hN:fn.ntmps=N) (hrs:fn.results.toList=rs)
 (h:∀ps r,φ ps=some r→ps.length≤N∧∀B w00,HY P k N B w00 c (fun x s' σ'=>(x=.normal∨x=.ret)∧(∃r',(∀(g:Gh) (w:World) (v:Value),Rep g w r' v→Rep g w r v)∧((fF P s' rs).bind fun qs=>reify true 0 s'.ob fuel (gL qs))=some r')∧∀b L,σ'=some (b,L)→B≤b) (bY ps) none):Sound P f φ:=by
 intro w Jm ps args r hr hJ hT hargs;subst hN hrs;obtain⟨hlen,h⟩:=h ps r hr;refine calls_of_wp hf hb (CWp.wp ((h w.heap.size w).go _ _ ⟨⟨_,w,_,abu hJ hT hargs hlen,⟨fun i hi e=>(by cases e),fun i hi=>?_,fun i hi=>False.elim hi,fun b' e=>(by cases e),Nat.le_refl _,Fr.refl _ _,fun t ht=>⟨ahd hT t ht,fun e=>(by cases e)⟩⟩⟩,fun b' L2 e=>(by cases e)⟩ _ fun x s' σ' a' w' hs' hk=>?_))
 ·rcases hi with hi|hi<;>exact False.elim hi
 ·obtain⟨hx,⟨r',hle,hres⟩,hbb⟩:=hk
  obtain⟨⟨io,w0,g,hrel,hC⟩,hM'⟩:=hs';rw[Option.bind_eq_some_iff]at hres;obtain⟨qs,hres,hreify⟩:=hres;have hbel:Below w.heap.size w w':=by
   have hf1:Fr (fun i=>w.heap.size≤i) w0 w':=⟨hrel.fr.os,hrel.fr.tape,hrel.fr.output,hrel.fr.size,fun i hi hn=>hrel.fr.block i hi fun q=>hn (hC.lo i (.inl q))⟩;refine⟨hf1.os.trans hC.fr.os,hf1.tape.trans hC.fr.tape,hf1.output.trans hC.fr.output,Nat.le_trans hC.fr.size hf1.size,fun i hi=>?_⟩;refine(hf1.block i (Nat.lt_of_lt_of_le hi hC.fr.size) (by omega)).trans (hC.fr.block i hi fun q=>q.elim (fun q=>?_) fun q=>by omega);cases σ' with
   |none=>cases q
   |some bl=>obtain⟨b',L'⟩:=bl;have:=hbb b' L' rfl;cases q;omega
  have hend:a'.defers=[]∧∃v,(results fn a'.tmps).run P w'=.ok v w'∧((∃v',Ending.returned v=.returned v'∧Below w.heap.size w w'∧∀g'':Gh,(∀b,w.heap.size≤b→b<w'.heap.size→g''.I true b)→Rep g'' w' r v')):=by
   obtain⟨v,h1,h2⟩:=iU hrel hres;refine⟨hrel.df,v,h1,v,rfl,hbel,fun g'' hg=>hle _ _ _ ?_⟩;refine Rep.seen (fun o c ho=>(hrel.ob o c ho).2.2.2) ⟨fun hh=>(by cases hh),fun _=>⟨fun b hb=>hg b ?_ (hrel.lt true b hb),fun o ho _=>?_⟩⟩ fuel _ _ _ h2 hreify
   ·rcases hrel.new b hb with⟨q,_⟩|q
    ·exact Nat.le_trans hC.sz q
    ·exact hC.lo b (.inr q)
   ·obtain⟨c,hc⟩:=Option.isSome_iff_exists.1 ho
    obtain⟨q1,q2,q3⟩:=hC.iW hrel hc;exact hg _ q3 q1
  rcases hx with rfl|rfl<;>exact hend
end
section
variable {P:Program} {k:TypeId} {N B:Nat} {w00:World} {c:Code}
theorem HY.avW {f:Nat} {fn:Func} {rs:List ResultVar} {Ψ:alX} (hf:P.funcs[f]?=some fn) (hb:fn.body=some c) (hN:fn.ntmps=N) (hrs:fn.results.toList=rs)
 (hpure:∀ps r cs',Ψ ps=some (r,cs')→ps.mapM (reify false 0 lV fuel)=some ps∧oq id fuel r=some r∧cs'.mapM (af0 id fuel)=some cs')
 (h:∀ps r cs',Ψ ps=some (r,cs')→ps.length≤N∧∀B w00,HY P k N B w00 c (fun x s' σ'=>gY P rs 0 r cs' x s'∧∀b L,σ'=some (b,L)→B≤b) (bY ps) none):sK P f Ψ:=by
 intro w J β κ ps cs args r cs' hr hJ hO hT hargs;subst hN hrs;replace hr:(if cs=[]then Ψ ps else none)=some (r,cs'):=hr;split at hr
 case isFalse=>cases hr
 case isTrue hcs=>
 subst hcs;obtain⟨hp1,hp2,hp3⟩:=hpure ps r cs' hr;obtain⟨hlen,h⟩:=h ps r cs' hr;have hJ':∀b,(∃k,J k b)→b<w.heap.size:=fun b ⟨k,hk⟩=>hJ k b hk;have hT':qF w (fun _=>False):=hT.io fun _ _ q=>False.elim q;have hargs':bX (aaN fun b=>∃k,J k b) w ps args.toList:=by refine bX.conv (g:=l7 J β κ 0) (Rep.seen (fr:=false) (n:=0) (g':=aaN fun b=>∃k,J k b) (s:=⟨fun _=> .dead,lV,0⟩) (fun o c ho=>by cases ho) ⟨fun _=>⟨fun k b hb=>⟨rfl,k,hb⟩,fun o ho=>by cases ho⟩,fun e=>by cases e⟩ fuel) hargs hp1
 refine calls_of_wp hf hb (CWp.wp ((h w.heap.size w).go _ _ ⟨⟨_,w,_,abu hJ' hT' hargs' hlen,⟨fun i hi e=>(by cases e),fun i hi=>?_,fun i hi=>False.elim hi,fun b' e=>(by cases e),Nat.le_refl _,Fr.refl _ _,fun t ht=>⟨ahd hT' t ht,fun e=>(by cases e)⟩⟩⟩,fun b' L2 e=>(by cases e)⟩ _ fun x s' σ' a' w' hs' hk=>?_))
 ·rcases hi with hi|hi<;>exact False.elim hi
 ·obtain⟨⟨hx,news,hn0,hnd,hres,hobs0⟩,hbb⟩:=hk
  obtain⟨⟨io,w0,g',hrel,hC⟩,hM'⟩:=hs';rw[Option.bind_eq_some_iff]at hres;obtain⟨qs,hres,hren⟩:=hres;simp only[List.range_zero,List.nil_append]at hren hobs0;have hocs:cs'.length=news.length:=(bR hobs0).1;have hobs:∀(i o:Nat),news[i]?=some o→∃T sz es es',s'.ob o=some (T,sz,es)∧es.mapM (bU news s'.ob fuel)=some es'∧cs'[i]?=some (T,sz,es'):=fun i o hi=>by obtain⟨c1,h1,h2⟩:=(bR hobs0).2 i o hi;unfold kg at h2;simp only[Option.bind_eq_some_iff,Option.map_eq_some_iff]at h2;obtain⟨⟨T,sz,es⟩,h3,es',h4,rfl⟩:=h2;exact⟨T,sz,es,es',h3,h4,h1⟩
  have hget:∀i,i<news.length→news[i]?=some (news.getD i 0):=fun i hi=>by simp[hi]
  have hsome:∀i,i<news.length→(s'.ob (news.getD i 0)).isSome:=fun i hi=>by obtain⟨T,sz,es,es',h1,_⟩:=hobs i _ (hget i hi);rw[h1];rfl
  have hinjO:∀i j,i<news.length→j<news.length→g'.β (news.getD i 0)=g'.β (news.getD j 0)→i=j:=fun i j hi hj he=>by have:=hrel.inj _ _ (hsome i hi) (hsome j hj) he;have e1:=hget i hi;have e2:=hget j hj;rw[this]at e1;have e1:=e1.trans e2.symm;exact(List.getElem?_inj hi hnd).1 e1
  have hinn:∀o1 o2,inn news o1=some o2→o2<news.length∧news.getD o2 0=o1:=fun o1 o2 hi=>by
   unfold inn at hi;split at hi
   ·rename_i hm
    cases hi;have hlt:=List.idxOf_lt_length_of_mem hm;exact⟨hlt,by simp[List.getD,hlt]⟩
   ·cases hi
  have hfrm:Fr (fun b=>∃o,o<([]:List aH).length∧b=β o) w w':=by
   have hf1:Fr (fun i=>w.heap.size≤i) w0 w':=⟨hrel.fr.os,hrel.fr.tape,hrel.fr.output,hrel.fr.size,fun i hi hn=>hrel.fr.block i hi fun q=>hn (hC.lo i (.inl q))⟩;refine⟨hf1.os.trans hC.fr.os,hf1.tape.trans hC.fr.tape,hf1.output.trans hC.fr.output,Nat.le_trans hC.fr.size hf1.size,fun i hi _=>?_⟩;refine(hf1.block i (Nat.lt_of_lt_of_le hi hC.fr.size) (by omega)).trans (hC.fr.block i hi fun q=>q.elim (fun q=>?_) fun q=>by omega);cases σ' with
   |none=>cases q
   |some bl=>obtain⟨b',L'⟩:=bl;have:=hbb b' L' rfl;cases q;omega
  have hend:a'.defers=[]∧∃v,(results fn a'.tmps).run P w'=.ok v w'∧(∃v' β' κ' M,Ending.returned v=.returned v'∧Fr (fun b=>∃o,o<([]:List aH).length∧b=β o) w w'∧([]:List aH).length≤cs'.length∧
   (∀o,o<([]:List aH).length→β' o=β o∧κ' o=κ o)∧(∀o,([]:List aH).length≤o→o<cs'.length→w.heap.size≤β' o)∧(∀b,M b→w.heap.size≤b∧b<w'.heap.size)∧
   wz (addN J M) w' β' κ' cs'∧Rep (l7 (addN J M) β' κ' cs'.length) w' r v'):=by
   obtain⟨v,h1,h2⟩:=iU hrel hres
   let M:Nat→Prop:=fun b=>w.heap.size≤b∧b<w'.heap.size∧∀i,i<news.length→b≠g'.β (news.getD i 0)
   let G1:Gh:=l7 (fun kk b=>kk=false∨M b) (fun i=>g'.β (news.getD i 0)) (fun i=>g'.κ (news.getD i 0)) cs'.length
   let G:Gh:=l7 (addN J M) (fun i=>g'.β (news.getD i 0)) (fun i=>g'.κ (news.getD i 0)) cs'.length
   have hnewb:∀b,g'.I true b→w.heap.size≤b:=fun b hb=>by
    rcases hrel.new b hb with⟨q,_⟩|q
    ·exact Nat.le_trans hC.sz q
    ·exact hC.lo b (.inr q)
   have hI:∀k b,g'.I k b→G1.I k b:=fun k b hi=>by
    cases k with
    |false=>exact .inl rfl
    |true=>refine .inr ⟨hnewb b hi,hrel.lt true b hi,fun i hil he=>?_⟩;obtain⟨T,sz,es,es',k1,_⟩:=hobs i _ (hget i hil);exact(hrel.ob _ _ k1).2.2.1 true (he▸hi)
   have hom:∀o o',inn news o=some o'→G1.β o'=g'.β o∧G1.κ o'=g'.κ o∧G1.D o':=fun o o' ho=>by obtain⟨k1,k2⟩:=hinn o o' ho;exact⟨by simp only[G1,l7,k2],by simp only[G1,l7,k2],⟨by simp only[G1,l7];omega,fun q=>q⟩⟩
   have hfz:∀o,(s'.ob o).isSome→inn news o=none→G1.I true (g'.β o):=fun o ho hn=>by
    obtain⟨c,hc⟩:=Option.isSome_iff_exists.1 ho;have hno:o∉news:=fun hm=>by simp[inn,hm]at hn
    obtain⟨q1,q2,q3⟩:=hC.iW hrel hc;refine .inr ⟨q3,q1,fun i hi he=>hno ?_⟩;rw[hrel.inj o _ (by rw[hc];rfl) (hsome i hi) he];exact List.mem_of_getElem? (hget i hi)
   have hobA:∀o c,s'.ob o=some c→oV g' w' o c:=fun o c ho=>(hrel.ob o c ho).2.2.2;have hI2:∀b,G1.I true b→G.I true b:=fun b hb=>by
    rcases hb with hb|hb
    ·cases hb
    ·exact .inr ⟨rfl,hb⟩
   refine⟨hrel.df,v,h1,v,fun i=>g'.β (news.getD i 0),fun i=>g'.κ (news.getD i 0),M,rfl,hfrm,Nat.zero_le _,fun o ho=>(Nat.not_lt_zero o ho).elim,fun o h3 h4=>?_,fun b hb=>⟨hb.1,hb.2.1⟩,⟨fun o ho=>?_,fun o o' ho ho' he=>hinjO o o' (by omega) (by omega) he,fun o c hc=>?_⟩,
    Rep.oq (g:=G1) (g':=G) hI2 (fun o ho=>⟨rfl,rfl,ho⟩) fuel _ _ _ (Rep.hand (g:=g') (g':=G1) hI hom hobA hfz fuel _ _ _ h2 hren) hp2⟩
   ·obtain⟨T,sz,es,es',k1,_⟩:=hobs o _ (hget o (by omega))
    exact(hC.iW hrel k1).2.2
   ·obtain⟨T,sz,es,es',k1,_⟩:=hobs o _ (hget o (by omega))
    obtain⟨_,_,k3,⟨arr,k4,_⟩,_⟩:=hrel.ob _ _ k1;refine⟨lt_of_heap k4,fun k hj=>?_⟩;rcases hj with hj|⟨_,hj⟩
    ·have:=(hC.iW hrel k1).2.2
     have:=hJ _ _ hj;omega
    ·exact hj.2.2 o (by omega) rfl
   ·have ho:o<cs'.length:=(List.getElem?_eq_some_iff.1 hc).1
    obtain⟨T,sz,es,es',k1,k2,k3⟩:=hobs o _ (hget o (by omega));rw[k3]at hc;cases hc;obtain⟨_,_,_,⟨arr,m1,m2⟩,m3,m4⟩:=hrel.ob _ _ k1;have hl:=(bR k2).1;have hes:es'.mapM (oq id fuel)=some es':=by obtain⟨c2,e1,e2⟩:=(bR hp3).2 o _ k3;unfold af0 at e2;simp only[Option.map_eq_some_iff]at e2;obtain⟨es2,e3,rfl⟩:=e2;rw[k3]at e1;cases e1;exact e3
    exact⟨⟨arr,m1,m2⟩,by rw[hl];exact m3,bM.conv (g:=G1) (g':=G) (Rep.oq (g:=G1) (g':=G) hI2 (fun o ho=>⟨rfl,rfl,ho⟩) fuel) (bM.conv (g:=g') (g':=G1) (Rep.hand (g:=g') (g':=G1) hI hom hobA hfz fuel) m4 k2) hes⟩
  rcases hx with rfl|rfl<;>exact hend
end
section
variable {P:Program} {k:TypeId} {N B:Nat} {w00:World} {ops:Array Oper} {J:AS→Sg→Prop} {s:AS} {b:Nat} {L:VL}
theorem HO.azy {o:Oper} {j:Nat} {l:List Oper} {t e d:Nat} {x:Operand} (ht:P.underlying t=some (.map k e)) (ho:o.op=.call {callee:=.builtin .len,args:=#[x],argTypes:=#[t]}) (hg:o.guard=none) (hd:o.dst=some d) (hdN:d<N) (hx:look s.tm x=.val (.map (some b)))
 (h:HO P k N B w00 ops (j+1) l J (s.put (some d) (.val (.int .i64 L.length))) (some (b,L))):HO P k N B w00 ops j (o::l) J s (some (b,L)):=by
 refine HO.one hg fun a w hs Kn Q hK=>?_;have hs0:=hs;obtain⟨⟨io,w0,g,hr,hC⟩,hM⟩:=hs;have ex:=hr.look x;rw[hx]at ex;simp only[Rep]at ex;obtain⟨es,clock,hb,H⟩:=hM _ _ rfl;have ht':P.underlying t=some (.map (P.mapKeyOf t) (P.mapElemOf t)):=by
  have h1:P.mapKeyOf t=k:=by simp[Program.mapKeyOf,ht]
  have h2:P.mapElemOf t=e:=by simp[Program.mapElemOf,ht]
  rw[h1,h2];exact ht
 have hsz:es.size=L.length:=by rw[←H.list,List.length_map,Array.length_toList]
 have hrun:(execOp a.eval o).run P w=.ok (.value (.int .i64 L.length)) w:=by unfold execOp;simp only[ho,resolve,Sem.run_bind,Sem.run_pure,Result.andThen_ok,invoke];simp only[builtin,List.map_toArray,List.map_cons,List.map_nil,ex,Sem.run_bind,run_len_map w t _ b es clock ht' hb,Result.andThen_ok,Sem.run_pure,hsz];rfl
 unfold Oper.wp;rw[hrun,Oper.upon_value,hd];exact hK _ _ _ _ (hs0.put (fun x e=>by cases e;exact hdN) fun g w=>by simp[Rep]) h
def anb (L:VL):Value→Bool→Option PV:=open Classical in fun key c=>if h:∃v,(key,v)∈L then(if c=true then none else some (.val h.choose))else none
theorem ahT {L:VL} {key:Value} {c:Bool} {p:PV} (h:anb L key c=some p):c=false∧∃v,(key,v)∈L∧p=.val v:=by
 unfold anb at h;split at h
 ·rename_i hv
  split at h
  ·cases h
  ·rename_i hc
   cases h;exact⟨by simpa using hc,_,hv.choose_spec,rfl⟩
 ·cases h
theorem alq {L:VL} (hn:(L.map Prod.fst).Nodup) {key v:Value} (h:(key,v)∈L):anb L key false=some (.val v):=by unfold anb;have hv:∃v,(key,v)∈L:=⟨v,h⟩;rw[dif_pos hv,if_neg (by simp),zi hn hv.choose_spec h]
end
theorem ak6 (o:Int):∀gs:List I4,(∀g∈gs,GOk g)→(0≤(kR gs o).1∧(kR gs o).1≤1000*gs.length)∧(0≤(kR gs o).2.1∧(kR gs o).2.1≤1000*gs.length)∧(0≤(kR gs o).2.2.1∧(kR gs o).2.2.1≤1000*gs.length):=by
 refine iR ?_ ?_
 ·intro _
  exact⟨⟨Int.le_refl _,by simp[kR]⟩,⟨Int.le_refl _,by simp[kR]⟩,Int.le_refl _,by simp[kR]⟩
 ·intro gs g ih hg
  obtain⟨i1,i2,i3⟩:=ih fun x hx=>hg x (List.mem_append.2 (.inl hx));have gk:=hg g (by simp);obtain⟨w,st,sh,od⟩:=g;obtain⟨g1,g2,g3,g4⟩:=gk;dsimp only at g1 g2 g3 g4;rw[gV,List.length_append,List.length_singleton];generalize kR gs o=t at*;obtain⟨tw,ts,th,tod⟩:=t;dsimp only at i1 i2 i3;dsimp only
  push_cast
  refine⟨by omega,?_,by omega⟩;split<;>omega
theorem vL {l:List I4} {k:Nat} (h:k<l.length):l.take (k+1)=l.take k++[l[k]?.getD i40]:=by rw[List.take_succ_eq_append_getElem h,List.getElem?_eq_getElem h];rfl
def apF:Fun:=F1 (dL 4 dI4) fun gs=>open Classical in if(∀g∈gs,GOk g)∧gs.length≤61 then some (pvG (jq gs))else none
theorem adQ {gs:List I4} (h:∀g∈gs,GOk g) (h2:gs.length≤61):apF [.lst false 4 (gs.map pvG)]=some (pvG (jq gs)):=(gu (A:=dL 4 dI4) gs).trans (if_pos ⟨h,h2⟩)
open Classical in
set_option maxHeartbeats 16000000 in
theorem ae9:Sound Tryz.prog 240 apF:=by
 refine au mixed bJ Tryz.func240 rfl 55 rfl [.cell 2 60] rfl (by kernel_rfl) fun ps r hr=>?_;obtain⟨gs,rfl,hpre,rfl⟩:=jQ hr;refine⟨by simp,?_⟩;simp only[dIs,dUs,dSs,dz,dF,dx,dG,aR,dD,aU,aV,aS,aT];obtain⟨hg,hl⟩:=hpre;show pq _ _ _ _ _ (bY [.lst false 4 (gs.map pvG)]).tm _ _;rw[(apQ gs hg).1];have hat:∀k,k<gs.length→GOk (gs[k]?.getD i40):=fun k hk=>by rw[List.getElem?_eq_getElem hk,Option.getD_some];exact hg _ (List.getElem_mem hk)
 have htk:∀k,∀g∈gs.take k,GOk g:=fun k g h=>hg g (List.mem_of_mem_take h);clear hg;(refine wlk ?_;intros);refine aG (α:=Nat) mixed (fun k=>[(0,.lst false 4 (gs.map pvG)),(2,.own 0 4 0 0),(3,.own 1 4 0 0),(8,.lst false 4 (gs.map pvG)),(9,iv gs.length),(10,iv k)])
  (fun k=>[(0,60,4,[pvG g40]),(1,60,4,[pvG (0,0,0,vB (gs.take k))])]) (fun k=>2+k)
  (fun k=>k≤gs.length) (fun k=>gs.length-k) (by kernel_rfl) 0 (Nat.zero_le _) ?_ ?_ rfl ?_
 ·exact agr
 ·simp(disch:=(first|omega|(simp only[push_cast];first|done|omega))) only[push_cast,↓reduceIte,Nat.reduceEqDiff,Nat.reduceBEq,Nat.reduceAdd,Nat.reduceSub,Int.reduceToNat,List.take_zero,vB,List.any_nil,Bool.false_eq_true,if_false,g40, *]
 intro k hk;by_cases h0:k<gs.length
 ·have hs:vB (gs.take (k+1))=if vB (gs.take k)=1∨((gs[k]?.getD i40).2.2.2=1∧0<(gs[k]?.getD i40).2.1)then 1 else 0:=by rw[vL h0,zu]
  have ho:=ahe (gs.take k);obtain⟨g1,g2,g3,g4⟩:=hat k h0;clear hat htk;generalize hx:gs[k]?.getD i40=x at*;obtain⟨w,st,sh,od⟩:=x;dsimp only at hs g1 g2 g3 g4;by_cases hc:od=1∧0<st
  ·rw[if_pos (.inr hc)]at hs
   replace hs:=Lib.hid hs;generalize vB (gs.take k)=o at*;obtain⟨rfl,hc2⟩:=hc;clear g4 ho;(refine wlk ?_;intros);refine⟨k+1,by omega,by dsimp only;omega,?_,?_,?_⟩
   ·exact agr
   ·dsimp only
    rw[hs.out];exact agr
   ·first|rfl|(dsimp only;omega)
  ·have hs2:vB (gs.take (k+1))=vB (gs.take k):=by
    rw[hs];rcases ho with h|h
    ·rw[h,if_neg (by omega)]
    ·rw[h,if_pos (.inl rfl)]
   replace hs2:=Lib.hid hs2;clear hs;generalize vB (gs.take k)=o at*;by_cases hd:od=1
   ·subst hd
    have hst:¬0<st:=fun h=>hc ⟨rfl,h⟩;clear hc g4 ho;(refine wlk ?_;intros);refine⟨k+1,by omega,by dsimp only;omega,?_,?_,?_⟩
    ·exact agr
    ·dsimp only
     rw[hs2.out];exact agr
    ·first|rfl|(dsimp only;omega)
   ·clear hc g4 ho
    (refine wlk ?_;intros);refine⟨k+1,by omega,by dsimp only;omega,?_,?_,?_⟩
    ·exact agr
    ·dsimp only
     rw[hs2.out];exact agr
    ·first|rfl|(dsimp only;omega)
 ·obtain rfl:k=gs.length:=by omega
  rw[List.take_of_length_le (Nat.le_refl _)];generalize vB gs=o at*;(refine wlk ?_;intros);refine aG (α:=Nat) mixed (fun k=>[(2,.own 0 4 0 0),(3,.own 1 4 0 0),(24,.lst false 4 (gs.map pvG)),(25,iv gs.length),(26,iv k)])
   (fun k=>[(0,60,4,[pvG g40]),(1,60,4,[pvG (kR (gs.take k) o)])]) (fun k=>2+gs.length+k)
   (fun k=>k≤gs.length) (fun k=>gs.length-k) (by kernel_rfl) 0 (Nat.zero_le _) ?_ ?_ ?_ ?_
  ·exact agr
  ·simp(disch:=(first|omega|(simp only[push_cast];first|done|omega))) only[push_cast,↓reduceIte,Nat.reduceEqDiff,Nat.reduceBEq,Nat.reduceAdd,Nat.reduceSub,Int.reduceToNat,List.take_zero,kR,List.foldl_nil,g40, *]
  ·first|rfl|(dsimp only;omega)
  intro k hk;have hod:=ai9 (gs.take k) o;obtain⟨r1,r2,r3⟩:=ak6 o (gs.take k) (htk k);have hkl:(gs.take k).length=k:=by rw[List.length_take];omega
  rw[hkl]at r1 r2 r3;by_cases h0:k<gs.length
  ·have hs:kR (gs.take (k+1)) o=((kR (gs.take k) o).1+(gs[k]?.getD i40).1,(if(gs[k]?.getD i40).2.2.2=o then(kR (gs.take k) o).2.1+(gs[k]?.getD i40).2.1 else(kR (gs.take k) o).2.1),(kR (gs.take k) o).2.2.1+(gs[k]?.getD i40).2.2.1,o):=by rw[vL h0,gV]
   obtain⟨g1,g2,g3,g4⟩:=hat k h0;clear hat htk hkl;generalize hx:gs[k]?.getD i40=x at*;generalize ht:kR (gs.take k) o=t at*;obtain⟨w,st,sh,od⟩:=x;obtain⟨tw,ts,th,tod⟩:=t;dsimp only at hs g1 g2 g3 g4 r1 r2 r3 hod;subst hod;by_cases hd:od=tod
   ·rw[if_pos hd]at hs
    replace hs:=Lib.hid hs;subst hd;(refine wlk ?_;intros);refine⟨k+1,by omega,by dsimp only;omega,?_,?_,?_⟩
    ·exact agr
    ·dsimp only
     rw[hs.out];exact agr
    ·first|rfl|(dsimp only;omega)
   ·rw[if_neg hd]at hs
    replace hs:=Lib.hid hs;(refine wlk ?_;intros);refine⟨k+1,by omega,by dsimp only;omega,?_,?_,?_⟩
    ·exact agr
    ·dsimp only
     rw[hs.out];exact agr
    ·first|rfl|(dsimp only;omega)
  ·obtain rfl:k=gs.length:=by omega
   rw[List.take_of_length_le (Nat.le_refl _)]at*;clear hat htk hkl;generalize kR gs o=t at*;obtain⟨tw,ts,th,tod⟩:=t;exact wlkF
def ayZ:Ctx:={fn:=aY [(124,φLi)],io:=aY []}
theorem arS:ak Tryz.prog ayZ:=okΓ (fC Tryz.func124 aad aj) aj
def akG:=ah (Γ:=ayZ) (f:=124) (φ:=φLi) rfl
def ajt:Fun:=F3 mQ dI dI fun l n m=>open Classical in if aon l n m then some (.lst true 1 ((if eG l (n+1).toNat m.toNat=true then mK l (aF l (n+1).toNat) m.toNat else []).map fun n=> .val (.int .i64 n)))else none
theorem ado {l:List It} {a en:Nat} (h:aW l=true) (h2:a≤en) (h3:en<l.length):ajt [fV l,.val (.int .i64 ((a:Int)-1)),.val (.int .i64 en)]=some (.lst true 1 ((if eG l a en=true then mK l (aF l a) en else []).map fun n=> .val (.int .i64 n))):=
 (xD (A:=mQ) (B:=dI) (C:=dI) l ((a:Int)-1) en).trans ((if_pos ⟨h,by omega,by omega,by omega⟩).trans (by rw[show((a:Int)-1+1).toNat=a by omega,Int.toNat_natCast]))
theorem aeJ:Sound Tryz.prog 93 ajt:=by refine au mixed arS Tryz.func93 rfl 17 rfl [.tmp 6] rfl (by kernel_rfl) fun ps r hr=>?_;obtain⟨l,n,m,rfl,hpre,rfl⟩:=vv hr;refine⟨by simp,?_⟩;simp only[dIs,dUs,dSs,dz,dF,dx,dG,aR,dD,aU,aV,aS,aT];obtain⟨hB,hn0,hn1,hn2⟩:=hpre;obtain⟨a,rfl⟩:∃a:Nat,n=(a:Int)-1:=⟨(n+1).toNat,by omega⟩;obtain⟨en,rfl⟩:∃en:Nat,m=en:=⟨m.toNat,by omega⟩;show pq _ _ _ _ _ (bY [fV l,.val (.int .i64 ((a:Int)-1)),.val (.int .i64 en)]).tm _ _;rw[show((a:Int)-1+1).toNat=a by omega,Int.toNat_natCast];have ap:=ajp hB (show a≤en by omega) (by omega);generalize(if eG l a en=true then mK l (aF l a) en else [])=q at*;generalize eG l a en=b at*;have gli2_c124:=akG;exact wlkF
def φLa:Fun:=F3 mQ dI dI fun l wd most=>if afh l then some (bv (aW l&&(decide (0<l.length)&&(inB wd 0 1000&&inB most 0 10000))))else none
theorem arA {l:List It} {wd most:Int} (h:afh l):φLa [fV l,.val (.int .i64 wd),.val (.int .i64 most)]=some (.val (.bool (aW l&&(decide (0<l.length)&&(inB wd 0 1000&&inB most 0 10000))))):=(xD (A:=mQ) (B:=dI) (C:=dI) l wd most).trans (if_pos h)
def GLa:Ctx:={fn:=aY [(175,yQ),(64,φIn),(72,oL)],io:=aY []}
theorem avz:ak Tryz.prog GLa:=okΓ (fC Tryz.func175 vU (fC Tryz.func64 oH (fC Tryz.func72 nX aj))) aj
def apE:=ah (Γ:=GLa) (f:=175) (φ:=yQ) rfl
def atY:=ah (Γ:=GLa) (f:=64) (φ:=φIn) rfl
def atZ:=ah (Γ:=GLa) (f:=72) (φ:=oL) rfl
theorem ajw:Sound Tryz.prog 122 φLa:=by refine au mixed avz Tryz.func122 rfl 22 rfl [.tmp 6] rfl (by kernel_rfl) fun ps r hr=>?_;obtain⟨l,wd,most,rfl,hpre,rfl⟩:=vv hr;refine⟨by simp,?_⟩;simp only[dIs,dUs,dSs,dz,dF,dx,dG,aR,dD,aU,aV,aS,aT];have hl:l.length≤1000:=hpre;show pq _ _ _ _ _ (bY [fV l,.val (.int .i64 wd),.val (.int .i64 most)]).tm _ _;have ap1:=wV hpre;have ap2:=bK;have ap3:=mD;clear hpre;generalize aW l=b1 at*;have gla_c175:=apE;have gla_c64:=atY;have gla_c72:=atZ;((refine wlk6 ?_ ?_ ?_ ?_ ?_ ?_<;>intros<;>try with_reducible exact trivial)<;>(refine fnG ?_;try with_reducible exact trivial));all_goals((refine congrArg (fun z=>some (PV.val (Value.bool z))) ?_);first|(simp_all;done)|(simp_all;omega))
end
end Go.Proofs.YtmmafcjjlbgnkaaGreatDoor
