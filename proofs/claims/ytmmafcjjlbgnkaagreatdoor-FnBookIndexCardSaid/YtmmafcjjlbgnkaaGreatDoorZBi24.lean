/- What the proof rests on, part 24: contracts of functions. No condition beyond what each states. -/
import Derived.Test.YtmmafcjjlbgnkaaGreatDoorZBi23
namespace Go.Proofs.YtmmafcjjlbgnkaaGreatDoor
open Go.RowKit
open Nat renaming reduceEqDiff→Rq,reduceBEq→Rb,reduceAdd→Ra,reduceSub→Rs
open Int renaming reduceToNat→Rt
set_option linter.all false
set_option maxHeartbeats 32000000
noncomputable section
def asq:Fun:=F2 dS dS fun s sep=>if sep=⟨#[32]⟩∧s.size≤1048576 then some (.lst true 1 ((eU 32 s).map fun s=> .val (.string s)))else none
theorem asF {s:ByteArray} (h:s.size≤1048576):asq [.val (.string s),.val (.string ⟨#[32]⟩)]=some (.lst true 1 ((eU 32 s).map fun s=> .val (.string s))):=(jA (A:=dS) (B:=dS) s ⟨#[32]⟩).trans (if_pos ⟨rfl,h⟩)
def asH:Fun:=F2 dS dS fun s t=>if t=⟨#[45]⟩∧s.size≤1048576 then some (.val (.string (ado s)))else none
theorem arz {s:ByteArray} (h:s.size≤1048576):asH [.val (.string s),.val (.string ⟨#[45]⟩)]=some (.val (.string (ado s))):=(jA (A:=dS) (B:=dS) s ⟨#[45]⟩).trans (if_pos ⟨rfl,h⟩)
def aqT:Fun:=F2 dS dS fun s t=>if t=⟨#[45]⟩∧s.size≤1048576 then some (.val (.bool (aBm s)))else none
theorem aqk {s:ByteArray} (h:s.size≤1048576):aqT [.val (.string s),.val (.string ⟨#[45]⟩)]=some (.val (.bool (aBm s))):=(jA (A:=dS) (B:=dS) s ⟨#[45]⟩).trans (if_pos ⟨rfl,h⟩)
theorem abe {args:Array Value} {v1 v2:Value} {w:World} {g:Gh} {s t:ByteArray} (h:cZ g w [.val (.string s),.val (.string t)] args.toList):args=#[.string s,.string t]:=by simp only[cZ]at h;obtain⟨v1,vs1,e1,h1,v2,vs2,rfl,h2,rfl⟩:=h;simp only[Rep]at h1 h2;subst h1;subst h2;obtain⟨a⟩:=args;simp only at e1;rw[e1]
theorem anY:Sound Tryz.prog 37 asq:=by
 intro w J ps args r hr hJ hT hargs;obtain⟨s,sep,rfl,⟨rfl,hs⟩,rfl⟩:=iK hr;rw[abe (v1:=.nilIface) (v2:=.nilIface) hargs];refine(akf 32 s w (by omega)).mono ?_;rintro e w' ⟨rfl,rfl⟩;have hlen:=aad 32 s;generalize eU 32 s=L at*;refine⟨_,rfl,ad6 (Below.refl _ _),fun g' hg=>?_⟩;simp only[Rep,List.length_map];refine⟨_,_,rfl,Nat.le_refl _,by omega,.inr ⟨w.heap.size,0,rfl,hg _ (Nat.le_refl _) (by simp),bO.of fun i e he=>?_⟩⟩;rw[List.getElem?_map,Option.map_eq_some_iff]at he;obtain⟨x,hx,rfl⟩:=he;refine⟨.string x,by simp[Rep],⟨by simp[Value.cells,Value.oneCell'],fun j hj=>?_⟩,rfl⟩;have hj0:j=0:=by have:j<1:=hj;omega
 subst hj0;simp only[World.cell?,heap_alloc_new,Nat.zero_add,Nat.mul_one,Nat.add_zero];simp[Value.cells,hx]
theorem aqw:Sound Tryz.prog 43 asH:=by intro w J ps args r hr hJ hT hargs;obtain⟨s,sep,rfl,⟨rfl,hs⟩,rfl⟩:=iK hr;rw[abe (v1:=.nilIface) (v2:=.nilIface) hargs];refine(YtmmafcjjlbgnkaaGreatDoor.strings_TrimSuffix s ⟨#[45]⟩ w (by omega)).mono ?_;rintro e w' ⟨rfl,rfl⟩;exact⟨_,rfl,Below.refl _ _,fun g' hg=>by simp[Rep,ado]⟩
theorem awh:Sound Tryz.prog 44 aqT:=by intro w J ps args r hr hJ hT hargs;obtain⟨s,sep,rfl,⟨rfl,hs⟩,rfl⟩:=iK hr;rw[abe (v1:=.nilIface) (v2:=.nilIface) hargs];refine(YtmmafcjjlbgnkaaGreatDoor.strings_HasSuffix s ⟨#[45]⟩ w (by omega)).mono ?_;rintro e w' ⟨rfl,rfl⟩;exact⟨_,rfl,Below.refl _ _,fun g' hg=>by simp[Rep,aBm]⟩
def asV:Fun:=axr 2 eX
def an6:Fun:=axr 2 arC
theorem apQ {l:List W2} (h:okW l):asV [.lst false 2 (l.map fun x=> .agg [.val (.string x.1),.val (.int .i64 x.2)])]=some (.val (.bool (indexB l))):=iP h
theorem akO:asV [.val (.slice none 0 0)]=some (.val (.bool true)):=iP (l:=[]) ⟨by simp,fun i=>by simp[w0]⟩
theorem aoc {l:List W2} (h:okW l) (h0:0<(dX l).length):an6 [.lst false 2 (l.map fun x=> .agg [.val (.string x.1),.val (.int .i64 x.2)])]=some (.lst true 1 ((dX l).map fun s=> .val (.string s))):=aoq h h0
theorem asS {l:List W2} (h:okW l) (h0:(dX l).length=0):an6 [.lst false 2 (l.map fun x=> .agg [.val (.string x.1),.val (.int .i64 x.2)])]=some (.val (.slice none 0 0)):=ahc h h0
theorem amo (h0:(dX []).length=0):an6 [.val (.slice none 0 0)]=some (.val (.slice none 0 0)):=ahc (l:=[]) ⟨by simp,fun i=>by simp[w0]⟩ h0
theorem vO {T sz o:Nat} {es:List PV}:jF (lo (nO T sz es o)) (nO T sz es o):=by
 cases es with
 |nil=>exact trivial
 |cons e l=>rw[ayO];exact agr
theorem agn (W:List W2):(W.map pvW).length=W.length:=List.length_map ..
def axA:Ctx:={fn:=aT [(7,φBp),(37,asq),(43,asH),(44,aqT),(45,asV),(46,an6)],io:=aT []}
theorem ayE:ak Tryz.prog axA:=okΓ (fC Tryz.func7 anW (fC Tryz.func37 anY (fC Tryz.func43 aqw (fC Tryz.func44 awh (fC Tryz.func45 (lV.nil 2) (fC Tryz.func46 (akF.nil 2) aj)))))) aj
def auj:=ah (Γ:=axA) (f:=7) (φ:=φBp) rfl
def al0:=ah (Γ:=axA) (f:=37) (φ:=asq) rfl
def anK:=ah (Γ:=axA) (f:=43) (φ:=asH) rfl
def akQ:=ah (Γ:=axA) (f:=44) (φ:=aqT) rfl
def alX:=ah (Γ:=axA) (f:=45) (φ:=asV) rfl
def anq:=ah (Γ:=axA) (f:=46) (φ:=an6) rfl
set_option maxRecDepth 20000 in
theorem aly:Sound Tryz.prog 13 φBi:=by
 refine gD mixed ayE Tryz.func13 rfl 80 rfl [.tmp 2,.tmp 3] rfl (by kernel_rfl) fun ps r hr=>?_;obtain⟨⟨p,q,x,y,z⟩,rfl,hpre,rfl⟩:=jy hr;refine⟨by simp,?_⟩;simp only[dIs,dUs,dSs,dw,dx,dh,dA,aS,dz,aQ,aR,aO,aP];(try dsimp only at hpre⊢);have apb:=alI (x:=x) (y:=y) (z:=z) hpre;cases hb:bpB p q x y z with
 |false=>
  have hB:biB p q x y z=false:=by unfold biB;rw[hb];rfl
  have hV:biV p q x y z=[]:=if_neg (by rw[hB];decide);rw[hb,aj6 hb,List.map_nil]at apb;rw[hB,hV,List.map_nil];clear hB hV hb hpre;have gbii_c7:=auj;have gbii_c37:=al0;have gbii_c43:=anK;have gbii_c44:=akQ;have gbii_c45:=alX;have gbii_c46:=anq;(refine wlk ?_;intros);all_goals((with_reducible apply bV (by first|exact .inl rfl|exact .inr rfl));(exact sr))
  all_goals exact gy
 |true=>
  have hF:=aak hpre hb;have hBk:jg p q x y z=true:=by unfold bpB blB at hb;simp only[Bool.and_eq_true]at hb;exact hb.1.1
  rw[hb]at apb;have hVe:biV p q x y z=if p.flatten.length≤30 then dX (idW (bpV p q x y z))else []:=by
   unfold biV biB;rw[hb,Bool.true_and];by_cases h:p.flatten.length≤30
   ·rw[if_pos h,if_pos (decide_eq_true h)]
   ·rw[if_neg h,if_neg (by rw[decide_eq_false h];decide)]
  have hBe:biB p q x y z=decide (p.flatten.length≤30):=by unfold biB;rw[hb,Bool.true_and]
  rw[hVe,hBe];have hidx:=afT hBk hF;replace hidx:=Lib.hid hidx;have apv:=apQ (ag0 hpre hF);rw[afT hBk hF]at apv;have apx:=aoc (ag0 hpre hF);have apx0:=asS (ag0 hpre hF);clear hVe hBe hb hBk hpre;generalize bpV p q x y z=V at*;have hall:=aqL hF.ok;have hat:=fun{k j:Nat} (hk:k<V.length) (hj:j≤(V[k]?.getD []).length)=>azA hF hk hj;have hsz:∀k j:Nat,((V[k]?.getD [])[j]?.getD ByteArray.empty).size≤2000:=fun k j=>by
   by_cases hk:k<V.length
   ·by_cases hj:j<(V[k]?.getD []).length
    ·rw[List.getElem?_eq_getElem hj,Option.getD_some]
     exact hF.sz _ (by rw[List.getElem?_eq_getElem hk,Option.getD_some];exact List.getElem_mem hk) _ (List.getElem_mem hj)
    ·rw[List.getElem?_eq_none (by omega)]
     decide
   ·rw[List.getElem?_eq_none (show V.length≤k by omega)]
    simp[ByteArray.size]
  have hV30:=hF.len;have hVt:=hF.tot;have hfl:=fun k=>qV (l:=V) k;have htf:=fun k (h:k<V.length)=>nU (V:=V) h;have hrow:∀k,k<V.length→(V[k]?.getD []).length≤30:=fun k hk=>by have h1:=hfl (k+1);rw[htf k hk,List.length_append]at h1;omega
  have hpg:∀k:Nat,j4 V (k+1)=kg ((k:Int)+1) (j4 V k) (V[k]?.getD []) (V[k]?.getD []).length:=fun k=>rfl;have hln:∀k j:Nat,kg ((k:Int)+1) (j4 V k) (V[k]?.getD []) (j+1)=atA ((k:Int)+1) (kg ((k:Int)+1) (j4 V k) (V[k]?.getD []) j) ((V[k]?.getD [])[j]?.getD ByteArray.empty):=fun k j=>rfl;have hl0:∀k:Nat,kg ((k:Int)+1) (j4 V k) (V[k]?.getD []) 0=j4 V k:=fun k=>rfl;clear hF hfl htf hVt;replace hall:=Lib.hid hall;replace hsz:=Lib.hid hsz;replace hrow:=Lib.hid hrow;replace hpg:=Lib.hid hpg;replace hln:=Lib.hid hln;replace hl0:=Lib.hid hl0;replace apv:=Lib.hid apv;replace apx:=Lib.hid apx;replace apx0:=Lib.hid apx0;have gbii_c7:=auj;have gbii_c37:=al0;have gbii_c43:=anK;have gbii_c44:=akQ;have gbii_c45:=alX;have gbii_c46:=anq;(refine wlk ?_;intros);refine aD (α:=Nat×Nat×Nat) mixed (fun i=>[(4,.lst true 1 (V.map fB)),(6,nP 2 ((j4 V i.1).1.map pvW) i.2.1),(7,.val (.bool (j4 V i.1).2)),(23,.lst true 1 (V.map fB)),(24,iv V.length),(25,iv i.1)]) (fun i=>nO 71 2 ((j4 V i.1).1.map pvW) i.2.1) (fun i=>i.2.2) (fun i=>i.1≤V.length∧i.2.1<i.2.2) (fun i=>V.length-i.1) (by kernel_rfl) (0,0,1) ⟨Nat.zero_le _,by decide⟩ ?_ ?_ rfl ?_
  ·have z0:j4 V 0=([],false):=rfl
   (try dsimp only);rw[z0];(try dsimp only);rw[List.map_nil,dM];exact agr;try rfl
  ·have z0:j4 V 0=([],false):=rfl
   (try dsimp only);rw[z0];(try dsimp only);rw[List.map_nil,cO];exact agr;try trivial
  rintro⟨k,o,y'⟩ ⟨hk,hoy⟩;dsimp only at hk hoy;clear apb;by_cases hkl:k<V.length
  ·have hrk:=hrow.out k hkl
   have hat:=fun{j:Nat} (hj:j≤(V[k]?.getD []).length)=>hat hkl hj;have hsz:=Lib.hid (hsz.out k);have hpg:=Lib.hid (hpg.out k);have hln:=Lib.hid (hln.out k);rw[←hl0.out k];(try dsimp only);generalize kg ((k:Int)+1) (j4 V k) (V[k]?.getD [])=LN at*;(refine wlk ?_;intros);refine aD (α:=Nat×Nat×Nat) mixed (fun i=>[(4,.lst true 1 (V.map fB)),(6,nP 2 ((LN i.1).1.map pvW) i.2.1),(7,.val (.bool (LN i.1).2)),(8,iv k),(23,.lst true 1 (V.map fB)),(24,iv V.length),(25,iv k),(30,.lst true 1 ((V[k]?.getD []).map fun s=> .val (.string s))),(31,iv (V[k]?.getD []).length),(32,iv i.1)]) (fun i=>nO 71 2 ((LN i.1).1.map pvW) i.2.1) (fun i=>i.2.2) (fun i=>i.1≤(V[k]?.getD []).length∧i.2.1<i.2.2) (fun i=>(V[k]?.getD []).length-i.1) (by kernel_rfl) (0,o,y') ⟨Nat.zero_le _,hoy⟩ ?_ ?_ rfl ?_
   ·(try dsimp only)
    exact agr;try rfl
   ·exact vO
   rintro⟨j,o2,y2⟩ ⟨hj,hoy2⟩;dsimp only at hj hoy2;by_cases hjl:j<(V[k]?.getD []).length
   ·obtain⟨g1,g2,g3⟩:=hat hj
    have hs2:=hsz.out j;have hnx:=hln.out j;have aps:=asF (s:=(V[k]?.getD [])[j]?.getD ByteArray.empty) (by omega);have aph:=aqk (s:=(V[k]?.getD [])[j]?.getD ByteArray.empty) (by omega);have hpm:=fun m (h:m<(eU 32 ((V[k]?.getD [])[j]?.getD ByteArray.empty)).length)=>ai3 (List.getElem_mem h);have hpl:=aad 32 ((V[k]?.getD [])[j]?.getD ByteArray.empty);have hts:∀m,m<(eU 32 ((V[k]?.getD [])[j]?.getD ByteArray.empty)).length→(ady ((V[k]?.getD [])[j]?.getD ByteArray.empty))[m]?.getD .empty=ado ((eU 32 ((V[k]?.getD [])[j]?.getD ByteArray.empty))[m]?.getD ByteArray.empty):=fun m h=>by unfold ady;rw[List.getElem?_map,List.getElem?_eq_getElem h,Option.map_some,Option.getD_some,Option.getD_some]
    have htl:(ady ((V[k]?.getD [])[j]?.getD ByteArray.empty)).length=(eU 32 ((V[k]?.getD [])[j]?.getD ByteArray.empty)).length:=by unfold ady;rw[List.length_map]
    unfold atA at hnx;rw[htl]at hnx;have hp0:adV ((k:Int)+1) (LN j).2 (LN j).1 (ady ((V[k]?.getD [])[j]?.getD ByteArray.empty)) 0=(LN j).1:=rfl;have hp1:∀m:Nat,adV ((k:Int)+1) (LN j).2 (LN j).1 (ady ((V[k]?.getD [])[j]?.getD ByteArray.empty)) (m+1)=auW ((k:Int)+1) (LN j).2 (adV ((k:Int)+1) (LN j).2 (LN j).1 (ady ((V[k]?.getD [])[j]?.getD ByteArray.empty)) m) m ((ady ((V[k]?.getD [])[j]?.getD ByteArray.empty))[m]?.getD .empty):=fun m=>rfl;have hp2:=fun m=>ahN (pg:=(k:Int)+1) (ins:=(LN j).2) (W:=(LN j).1) (ts:=ady ((V[k]?.getD [])[j]?.getD ByteArray.empty)) m;replace hnx:=Lib.hid hnx;replace hp0:=Lib.hid hp0;replace hp1:=Lib.hid hp1;replace hp2:=Lib.hid hp2;replace hpm:=Lib.hid hpm;replace hts:=Lib.hid hts;clear htl hat hsz;generalize adV ((k:Int)+1) (LN j).2 (LN j).1 (ady ((V[k]?.getD [])[j]?.getD ByteArray.empty))=PW at*;generalize ady ((V[k]?.getD [])[j]?.getD ByteArray.empty)=TS at*;have hst:LN j=((LN j).1,(LN j).2):=rfl;clear hst;generalize(LN j).2=ins at*;generalize(LN j).1=W0 at*;(try dsimp only);(refine wlk ?_;intros);generalize eU 32 ((V[k]?.getD [])[j]?.getD ByteArray.empty)=P at*;generalize(V[k]?.getD [])[j]?.getD ByteArray.empty=s at*;refine aD (α:=Nat×Nat×Nat) mixed (fun i=>[(4,.lst true 1 (V.map fB)),(6,nP 2 ((PW i.1).map pvW) i.2.1),(7,.val (.bool ins)),(8,iv k),(11,.val (.string s)),(23,.lst true 1 (V.map fB)),(24,iv V.length),(25,iv k),(30,.lst true 1 ((V[k]?.getD []).map fun s=> .val (.string s))),(31,iv (V[k]?.getD []).length),(32,iv j),(38,.lst true 1 (P.map fun s=> .val (.string s))),(39,iv P.length),(40,iv i.1)]) (fun i=>nO 71 2 ((PW i.1).map pvW) i.2.1) (fun i=>i.2.2) (fun i=>i.1≤P.length∧i.2.1<i.2.2) (fun i=>P.length-i.1) (by kernel_rfl) (0,o2,y2) ⟨Nat.zero_le _,hoy2⟩ ?_ ?_ rfl ?_
    ·(try dsimp only)
     rw[hp0.out];exact agr;try rfl
    ·(try dsimp only)
     rw[hp0.out];exact vO
    rintro⟨m,o3,y3⟩ ⟨hm,hoy3⟩;dsimp only at hm hoy3;by_cases hml:m<P.length
    ·have h1:=hp1.out m
     rw[hts.out m hml]at h1;obtain⟨h2,h3⟩:=hp2.out m;have h4:=hpm.out m hml;have h5:(P[m]?.getD ByteArray.empty).size≤2000:=by rw[List.getElem?_eq_getElem hml,Option.getD_some];omega
     have h6:=anj (P[m]?.getD ByteArray.empty);have apt:=arz (s:=P[m]?.getD ByteArray.empty) (by omega);have hml2:=agn (PW m);clear h4;unfold auW at h1;(try dsimp only);by_cases hc:m=0∧ins=true
     ·obtain⟨rfl,rfl⟩:=hc
      rw[if_pos ⟨rfl,rfl⟩,hp0.out]at h1;have h7:=g2 rfl;have h8:=g3 (W0.length-1);rw[hp0.out]at hml2⊢;rw[ay (by omega),aB (by omega)];replace h1:=Lib.hid h1;clear h2 h3 hp1 hp2 hpm hts g3 hnx;generalize ado (P[0]?.getD ByteArray.empty)=t at*;(refine wlk ?_;intros);refine⟨(0+1,o3,y3),⟨by dsimp only;omega,by dsimp only;omega⟩,by dsimp only;omega,?_,?_,rfl⟩
      ·(try dsimp only)
       rw[h1.out,ay (by rw[List.length_map,List.length_set];omega)];exact agi;try rfl
      ·(try dsimp only)
       rw[h1.out,aB (by rw[List.length_map,List.length_set];omega)];exact agr;try rfl
     ·rw[if_neg hc]at h1
      replace h1:=Lib.hid h1;have hcas:(m=0∧ins=false)∨¬m=0:=by
       by_cases h0:m=0
       ·left
        refine⟨h0,?_⟩;cases ins with
        |false=>rfl
        |true=>exact absurd ⟨h0,rfl⟩ hc
       ·exact .inr h0
      clear hc;clear hp1 hp2 hpm hts g3 hnx;generalize ado (P[m]?.getD ByteArray.empty)=t at*;by_cases hz:(PW m).length=0
      ·have hz2:PW m=[]:=List.eq_nil_of_length_eq_zero hz
       rw[hz2]at h1⊢;rw[List.map_nil,dM,cO];clear hz2 hml2 h2 h3;rcases hcas with⟨rfl,rfl⟩|hm0
       ·(refine wlk ?_;intros)
        refine⟨(0+1,y3+1,y3+1+1),⟨by dsimp only;omega,by dsimp only;omega⟩,by dsimp only;omega,?_,?_,rfl⟩
        ·(try dsimp only)
         rw[h1.out,ay (by simp)];exact agi;try rfl
        ·(try dsimp only)
         rw[h1.out,aB (by simp)];exact agr;try rfl
       ·(refine wlk ?_;intros)
        refine⟨(m+1,y3+1,y3+1+1),⟨by dsimp only;omega,by dsimp only;omega⟩,by dsimp only;omega,?_,?_,rfl⟩
        ·(try dsimp only)
         rw[h1.out,ay (by simp)];exact agi;try rfl
        ·(try dsimp only)
         rw[h1.out,aB (by simp)];exact agr;try rfl
      ·rw[ay (by omega),aB (by omega)]
       clear h3;rcases hcas with⟨rfl,rfl⟩|hm0
       ·(refine wlk ?_;intros)
        refine⟨(0+1,y3+1,y3+1+1),⟨by dsimp only;omega,by dsimp only;omega⟩,by dsimp only;omega,?_,?_,rfl⟩
        ·(try dsimp only)
         rw[h1.out,ay (by simp)];exact agi;try rfl
        ·(try dsimp only)
         rw[h1.out,aB (by simp)];exact agr;try rfl
       ·(refine wlk ?_;intros)
        refine⟨(m+1,y3+1,y3+1+1),⟨by dsimp only;omega,by dsimp only;omega⟩,by dsimp only;omega,?_,?_,rfl⟩
        ·(try dsimp only)
         rw[h1.out,ay (by simp)];exact agi;try rfl
        ·(try dsimp only)
         rw[h1.out,aB (by simp)];exact agr;try rfl
    ·obtain rfl:m=P.length:=by omega
     clear hp0 hp1 hp2 hpm hts;(try dsimp only);(refine wlk ?_;intros);refine⟨(j+1,o3,y3),⟨by dsimp only;omega,by dsimp only;omega⟩,by dsimp only;omega,?_,?_,rfl⟩
     ·(try dsimp only)
      rw[hnx.out];(try dsimp only);exact agi;try rfl
     ·(try dsimp only)
      rw[hnx.out];exact vO
   ·obtain rfl:j=(V[k]?.getD []).length:=by omega
    rw[←hpg.out];clear hln hat hsz;(try dsimp only);(refine wlk ?_;intros);refine⟨(k+1,o2,y2),⟨by dsimp only;omega,by dsimp only;omega⟩,by dsimp only;omega,?_,?_,rfl⟩
    ·(try dsimp only)
     exact agi
    ·exact vO
  ·obtain rfl:k=V.length:=by omega
   rw[hall.out];clear hat hsz hrow hpg hln hl0 hall;by_cases hz:(idW V).length=0
   ·have hz2:idW V=[]:=List.eq_nil_of_length_eq_zero hz
    have hd:=hidx.out;have hir:dX []=[]:=rfl;rw[hz2]at hd⊢;have hd2:decide (p.flatten.length≤30)=true:=by rw[←hd];rfl
    have ap1:=akO;have ap2:=amo (by rw[hir];rfl);rw[hd2,if_pos (of_decide_eq_true hd2),hir,List.map_nil,List.map_nil,dM,cO];clear hd hd2 hz hz2 hidx;(try dsimp only);(refine wlk ?_;intros);all_goals((with_reducible apply bV (by first|exact .inl rfl|exact .inr rfl));(exact sr))
    all_goals exact gy
   ·have apv:=apv.out
    have hml2:=agn (idW V);rw[ay (by omega),aB (by omega)];by_cases h30:p.flatten.length≤30
    ·rw[if_pos h30,decide_eq_true h30]
     rw[decide_eq_true h30]at apv;by_cases hx0:0<(dX (idW V)).length
     ·have apx:=apx.out hx0
      clear hidx apx0 h30;generalize dX (idW V)=X at*;generalize idW V=W at*;(try dsimp only);(refine wlk ?_;intros);all_goals((with_reducible apply bV (by first|exact .inl rfl|exact .inr rfl));(exact sr))
      all_goals exact PV.le_refl _
     ·have hx1:dX (idW V)=[]:=List.eq_nil_of_length_eq_zero (by omega)
      have apx:=apx0.out (by omega);rw[hx1,List.map_nil];clear hidx h30 hx0 hx1;generalize idW V=W at*;(try dsimp only);(refine wlk ?_;intros);all_goals((with_reducible apply bV (by first|exact .inl rfl|exact .inr rfl));(exact sr))
      all_goals exact gy
    ·rw[if_neg h30,decide_eq_false h30,List.map_nil]
     rw[decide_eq_false h30]at apv;clear hidx h30 apx apx0;generalize idW V=W at*;(try dsimp only);(refine wlk ?_;intros);all_goals((with_reducible apply bV (by first|exact .inl rfl|exact .inr rfl));(exact sr))
     all_goals exact gy
theorem aug {p:List LS} {q:LS} {x y z:Int} (h:biB p q x y z=false):biV p q x y z=[]:=if_neg (by rw[h];decide)
theorem awV {p:List LS} {q:LS} {x y z:Int} (ho:ab8 p q):(biV p q x y z).length≤30:=by
 cases h:biB p q x y z with
 |false=>rw[aug h];exact Nat.zero_le _
 |true=>
  have hV:biV p q x y z=dX (idW (bpV p q x y z)):=if_pos h;unfold biB at h;rw[Bool.and_eq_true]at h;have hF:=aak ho h.1;have h2:=of_decide_eq_true h.2;have h3:=anB (idW (bpV p q x y z));have h4:(idW (bpV p q x y z)).length≤p.flatten.length:=by unfold idW;rw[List.length_zip,hF.all];exact Nat.min_le_left _ _
  rw[hV];omega
theorem aw6 {p:List LS} {q:LS} {x y z:Int} {k:Nat} (hk:k+1<(biV p q x y z).length):ltB ((biV p q x y z)[k]?.getD .empty) ((biV p q x y z)[k+1]?.getD .empty)=true:=by
 unfold biV at hk⊢;split at hk
 ·rename_i h
  rw[if_pos h];exact aiW hk
 ·simp at hk
def aEV:Ctx:={fn:=aT [],io:=aT [(24,aah),(23,agJ)]}
theorem awn:ak Tryz.prog aEV:=okΓ aj (fD Tryz.func24 avY (fD Tryz.func23 avg aj))
theorem ayT:aEV.io 24=some aah:=rfl
theorem axj:aEV.io 23=some agJ:=rfl
theorem wL:∃φ:Fun,Sound Tryz.prog 12 φ∧aEy φ EBk ao7:=by
 refine avk mixed awn Tryz.func12 rfl 6 rfl [.cell 2 26] rfl (by kernel_rfl) (by simp) _ _ fun code hbyte hlen=>?_;have hok:=an4 hbyte;have apo:=@amc;have gdbi_c24:=ayT;have gdbi_c23:=axj
 repeat' (first|(first|(with_reducible first|apply gu|apply bI|apply dJ|apply dF|apply gG|apply nJ|apply fU|apply fV|apply mY|apply gB|apply gK|apply nK|apply gM|apply fT|apply fZ)|((with_reducible apply bf);(simp only[List.map_cons,List.map_nil]<;>exact rfl))|((with_reducible apply dD);(simp only[List.map_cons,List.map_nil]<;>exact rfl);decide+kernel)|((with_reducible apply gL);rfl)|((first|((with_reducible apply i_V);rfl;rfl;rfl)|((first|((with_reducible apply i_E);rfl)|((with_reducible apply i_S);rfl));first|rfl|(simp only[push_cast,↓reduceIte]))|((with_reducible apply nR);rfl;rfl)|((with_reducible apply nD);rfl;rfl;rfl)|(with_reducible first|apply om|apply dH));(simp(disch:=(first|omega|(simp only[push_cast];first|done|omega))) only[push_cast,↓reduceIte,Rq,Rb,Ra,Rs,Rt, *]<;>with_reducible exact rfl);all_goals try(first|(with_reducible first|refine hyT ?_|refine hyF ?_|exact hyA|exact hyB)|(intro hX;first|(cases hX;done)|((try simp only[decide_eq_true_eq,decide_eq_false_iff_not,Bool.not_eq_true',Bool.not_eq_false']at hX);(try have hXb:=av.1 hX))))))|((with_reducible apply bY abG (fun _ _=>by simp only[push_cast,↓reduceIte,Rq,Rb,Ra,Rs,Rt]));(focus rfl);(focus(simp(disch:=(first|omega|(simp only[push_cast];first|done|omega))) only[push_cast,↓reduceIte,Rq,Rb,Ra,Rs,Rt, *]<;>with_reducible exact rfl));(focus(simp(disch:=(first|omega|(simp only[push_cast];first|done|omega))) only[push_cast,↓reduceIte,Rq,Rb,Ra,Rs,Rt, *]<;>with_reducible exact rfl));(focus(simp(disch:=(first|omega|(simp only[push_cast];first|done|omega))) only[push_cast,↓reduceIte,Rq,Rb,Ra,Rs,Rt, *]<;>with_reducible exact rfl));(focus assumption);(focus omega);(focus(first|trivial|omega));(focus(first|rfl|(simp only[push_cast,↓reduceIte])));intro v pp hv hok hpp1 hpp2))
 obtain⟨L,ps,wd,mo,li⟩:=v;by_cases h0:L.length=0
 ·obtain rfl:L=[]:=List.eq_nil_of_length_eq_zero h0
  clear h0
  repeat' (first|(first|(with_reducible first|apply gu|apply bI|apply dJ|apply dF|apply gG|apply nJ|apply fU|apply fV|apply mY|apply gB|apply gK|apply nK|apply gM|apply fT|apply fZ)|((with_reducible apply bf);(simp only[List.map_cons,List.map_nil]<;>exact rfl))|((with_reducible apply dD);(simp only[List.map_cons,List.map_nil]<;>exact rfl);decide+kernel)|((with_reducible apply gL);rfl)|((first|((with_reducible apply i_V);rfl;rfl;rfl)|((first|((with_reducible apply i_E);rfl)|((with_reducible apply i_S);rfl));first|rfl|(simp only[push_cast,↓reduceIte]))|((with_reducible apply nR);rfl;rfl)|((with_reducible apply nD);rfl;rfl;rfl)|(with_reducible first|apply om|apply dH));(simp(disch:=(first|omega|(simp only[push_cast];first|done|omega))) only[push_cast,↓reduceIte,Rq,Rb,Ra,Rs,Rt, *]<;>with_reducible exact rfl);all_goals try(first|(with_reducible first|refine hyT ?_|refine hyF ?_|exact hyA|exact hyB)|(intro hX;first|(cases hX;done)|((try simp only[decide_eq_true_eq,decide_eq_false_iff_not,Bool.not_eq_true',Bool.not_eq_false']at hX);(try have hXb:=av.1 hX))))))|((with_reducible apply bY abG (fun _ _=>by simp only[push_cast,↓reduceIte,Rq,Rb,Ra,Rs,Rt]));(focus rfl);(focus(simp(disch:=(first|omega|(simp only[push_cast];first|done|omega))) only[push_cast,↓reduceIte,Rq,Rb,Ra,Rs,Rt, *]<;>with_reducible exact rfl));(focus(simp(disch:=(first|omega|(simp only[push_cast];first|done|omega))) only[push_cast,↓reduceIte,Rq,Rb,Ra,Rs,Rt, *]<;>with_reducible exact rfl));(focus(simp(disch:=(first|omega|(simp only[push_cast];first|done|omega))) only[push_cast,↓reduceIte,Rq,Rb,Ra,Rs,Rt, *]<;>with_reducible exact rfl));(focus assumption);(focus omega);(focus(first|trivial|omega));(focus(first|rfl|(simp only[push_cast,↓reduceIte])));intro v pp hv hok hpp1 hpp2))
  (with_reducible apply atz (a:=(([]:List LS),_,_,_,_)) (by first|exact .inl rfl|exact .inr rfl));(focus(simp(disch:=(first|omega|(simp only[push_cast];first|done|omega))) only[push_cast,↓reduceIte,Rq,Rb,Ra,Rs,Rt,aW,aX,bR,aY,aV, *]<;>with_reducible exact rfl));exact hv
 ·repeat' (first|(first|(with_reducible first|apply gu|apply bI|apply dJ|apply dF|apply gG|apply nJ|apply fU|apply fV|apply mY|apply gB|apply gK|apply nK|apply gM|apply fT|apply fZ)|((with_reducible apply bf);(simp only[List.map_cons,List.map_nil]<;>exact rfl))|((with_reducible apply dD);(simp only[List.map_cons,List.map_nil]<;>exact rfl);decide+kernel)|((with_reducible apply gL);rfl)|((first|((with_reducible apply i_V);rfl;rfl;rfl)|((first|((with_reducible apply i_E);rfl)|((with_reducible apply i_S);rfl));first|rfl|(simp only[push_cast,↓reduceIte]))|((with_reducible apply nR);rfl;rfl)|((with_reducible apply nD);rfl;rfl;rfl)|(with_reducible first|apply om|apply dH));(simp(disch:=(first|omega|(simp only[push_cast];first|done|omega))) only[push_cast,↓reduceIte,Rq,Rb,Ra,Rs,Rt, *]<;>with_reducible exact rfl);all_goals try(first|(with_reducible first|refine hyT ?_|refine hyF ?_|exact hyA|exact hyB)|(intro hX;first|(cases hX;done)|((try simp only[decide_eq_true_eq,decide_eq_false_iff_not,Bool.not_eq_true',Bool.not_eq_false']at hX);(try have hXb:=av.1 hX))))))|((with_reducible apply bY abG (fun _ _=>by simp only[push_cast,↓reduceIte,Rq,Rb,Ra,Rs,Rt]));(focus rfl);(focus(simp(disch:=(first|omega|(simp only[push_cast];first|done|omega))) only[push_cast,↓reduceIte,Rq,Rb,Ra,Rs,Rt, *]<;>with_reducible exact rfl));(focus(simp(disch:=(first|omega|(simp only[push_cast];first|done|omega))) only[push_cast,↓reduceIte,Rq,Rb,Ra,Rs,Rt, *]<;>with_reducible exact rfl));(focus(simp(disch:=(first|omega|(simp only[push_cast];first|done|omega))) only[push_cast,↓reduceIte,Rq,Rb,Ra,Rs,Rt, *]<;>with_reducible exact rfl));(focus assumption);(focus omega);(focus(first|trivial|omega));(focus(first|rfl|(simp only[push_cast,↓reduceIte])));intro v pp hv hok hpp1 hpp2))
  (with_reducible apply atz (a:=(L,_,_,_,_)) (by first|exact .inl rfl|exact .inr rfl));(focus(simp(disch:=(first|omega|(simp only[push_cast];first|done|omega))) only[push_cast,↓reduceIte,Rq,Rb,Ra,Rs,Rt,aW,aX,bR,aY,aV, *]<;>with_reducible exact rfl));exact hv
def vT:Fun:=Classical.choose wL
theorem an9:Sound Tryz.prog 12 vT:=(Classical.choose_spec wL).1
theorem aiM:aEy vT EBk ao7:=(Classical.choose_spec wL).2
def afJ:Fun:=azo 1 φBi
def alr:Fun:=F1 dUs fun code=>if okL aAB code then some (bv true)else none
def azc:Ctx:={fn:=aT [(12,vT),(13,afJ),(14,afJ),(15,al5),(10,agX)],io:=aT []}
theorem axM:ak Tryz.prog azc:=okΓ (fC Tryz.func12 an9 (fC Tryz.func13 (aly.azo 1) (fC Tryz.func14 (alU.azo 1) (fC Tryz.func15 (aBv.nil 1) (fC Tryz.func10 aqi aj))))) aj
def vY:=ah (Γ:=azc) (f:=12) (φ:=vT) rfl
def xE:=ah (Γ:=azc) (f:=13) (φ:=afJ) rfl
def x9:=ah (Γ:=azc) (f:=14) (φ:=afJ) rfl
def wW:=ah (Γ:=azc) (f:=15) (φ:=al5) rfl
def xO:=ah (Γ:=azc) (f:=10) (φ:=agX) rfl
theorem lawBi_ok:Sound Tryz.prog 4 alr:=by
 refine au mixed axM Tryz.func4 rfl 60 rfl [.tmp 2] rfl (by kernel_rfl) fun ps r hr=>?_;obtain⟨code,rfl,hpre,rfl⟩:=jy hr;refine⟨by simp,?_⟩;simp only[dIs,dUs,dSs,dw,dx,dh,dA,aS,dz,aQ,aR,aO,aP];have hbyte:=asb hpre;by_cases hlen:code.length≤1048576
 ·obtain⟨⟨L,ps,wd,mo,li⟩,e,⟨hL,hL2⟩,hps,hwd,hmo,hli⟩:=aiM code hbyte hlen
  have apt:=alK;dsimp only at hL hL2 hps hwd hmo hli e;have hok:=awz (L:=L) (ps:=ps) (by omega) hL2 hps;have ap1:afJ [.agg [.lst false 1 (lsF L),.lst false 1 (ps.map fun s=> .val (.string s)),.val (.int .i64 wd),.val (.int .i64 mo),.val (.int .i64 li)]]=_:=auN hok;have hl:=awV (x:=wd) (y:=mo) (z:=li) hok;have ap3:=aoB (a:=biV L ps wd mo li) (b:=biV L ps wd mo li) (by omega) (by omega);cases hb:biB L ps wd mo li with
  |false=>
   have h0:(biV L ps wd mo li).length=0:=by rw[aug hb];rfl
   rw[hb]at ap1;generalize biV L ps wd mo li=X at*;clear hpre hbyte hL2 hps hok hb;by_cases hL0:L.length=0
   ·obtain rfl:L=[]:=List.eq_nil_of_length_eq_zero hL0
    have ap1':afJ [.agg [.val (.slice none 0 0),.lst false 1 (ps.map fun s=> .val (.string s)),.val (.int .i64 wd),.val (.int .i64 mo),.val (.int .i64 li)]]=_:=ap1;clear ap1;have glbi_c12:=vY;have glbi_c13:=xE;have glbi_c14:=x9;have glbi_c15:=wW;have glbi_c10:=xO;exact wlkS
   ·have glbi_c12:=vY;have glbi_c13:=xE;have glbi_c14:=x9;have glbi_c15:=wW;have glbi_c10:=xO
    exact wlkS
  |true=>
   have hasc:=fun k h=>aw6 (p:=L) (q:=ps) (x:=wd) (y:=mo) (z:=li) (k:=k) h;rw[hb]at ap1;generalize biV L ps wd mo li=X at*;clear hpre hbyte hL2 hps hok hb;by_cases hL0:L.length=0
   ·obtain rfl:L=[]:=List.eq_nil_of_length_eq_zero hL0
    have ap1':afJ [.agg [.val (.slice none 0 0),.lst false 1 (ps.map fun s=> .val (.string s)),.val (.int .i64 wd),.val (.int .i64 mo),.val (.int .i64 li)]]=_:=ap1;clear ap1;have glbi_c12:=vY;have glbi_c13:=xE;have glbi_c14:=x9;have glbi_c15:=wW;have glbi_c10:=xO;replace hasc:=Lib.hid hasc;(refine wlk ?_;intros);refine aD (α:=Nat) mixed (fun i=>[(4,.lst true 1 (X.map fun s=> .val (.string s))),(8,iv (i+1))])
     (fun _=>[]) (fun _=>1) (fun i=>i≤X.length) (fun i=>X.length-i) (by kernel_rfl) 0 (Nat.zero_le _) ?_ ?_ rfl ?_
    ·simp(disch:=(first|omega|(simp only[push_cast];first|done|omega))) only[push_cast,↓reduceIte,Rq,Rb,Ra,Rs,Rt,List.length_append, *]
     try rfl
    ·exact agr
    rintro i hi;by_cases hil:i+1<X.length
    ·have hlt:=hasc.out i hil
     clear hasc;(refine wlk ?_;intros);refine⟨i+1,by omega,by dsimp only;omega,?_,?_,rfl⟩
     ·dsimp only
      exact agi
     ·exact agr
    ·clear hasc
     (repeat' (first|(with_reducible first|apply gu|apply bI|apply dJ|apply dF|apply gG|apply nJ|apply fU|apply fV|apply mY|apply gB|apply gK|apply nK|apply gM|apply fT|apply fZ)|((with_reducible apply bf);(simp only[List.map_cons,List.map_nil]<;>exact rfl))|((with_reducible apply dD);(simp only[List.map_cons,List.map_nil]<;>exact rfl);decide+kernel)|((with_reducible apply gL);rfl)|((first|((with_reducible apply i_V);rfl;rfl;rfl)|((first|((with_reducible apply i_E);rfl)|((with_reducible apply i_S);rfl));first|rfl|(simp only[push_cast,↓reduceIte]))|((with_reducible apply nR);rfl;rfl)|((with_reducible apply nD);rfl;rfl;rfl)|(with_reducible first|apply om|apply dH));(simp(disch:=(first|omega|(simp only[push_cast];first|done|omega))) only[push_cast,↓reduceIte,Rq,Rb,Ra,Rs,Rt, *]<;>with_reducible exact rfl);all_goals try(first|(with_reducible first|refine hyT ?_|refine hyF ?_|exact hyA|exact hyB)|(intro hX;first|(cases hX;done)|((try simp only[decide_eq_true_eq,decide_eq_false_iff_not,Bool.not_eq_true',Bool.not_eq_false']at hX);(try have hXb:=av.1 hX)))))));all_goals try(exfalso;omega)
     all_goals(first|(exfalso;omega)|((first|apply acY|apply uN);simp(disch:=(first|omega|(simp only[push_cast];first|done|omega))) only[push_cast,↓reduceIte,Rq,Rb,Ra,Rs,Rt, *])|skip)
     rw[decide_eq_true (show(X.length:Int)≤30 by omega)]
   ·have glbi_c12:=vY;have glbi_c13:=xE;have glbi_c14:=x9;have glbi_c15:=wW;have glbi_c10:=xO
    replace hasc:=Lib.hid hasc;(refine wlk ?_;intros);refine aD (α:=Nat) mixed (fun i=>[(4,.lst true 1 (X.map fun s=> .val (.string s))),(8,iv (i+1))])
     (fun _=>[]) (fun _=>1) (fun i=>i≤X.length) (fun i=>X.length-i) (by kernel_rfl) 0 (Nat.zero_le _) ?_ ?_ rfl ?_
    ·simp(disch:=(first|omega|(simp only[push_cast];first|done|omega))) only[push_cast,↓reduceIte,Rq,Rb,Ra,Rs,Rt,List.length_append, *]
     try rfl
    ·exact agr
    rintro i hi;by_cases hil:i+1<X.length
    ·have hlt:=hasc.out i hil
     clear hasc;(refine wlk ?_;intros);refine⟨i+1,by omega,by dsimp only;omega,?_,?_,rfl⟩
     ·dsimp only
      exact agi
     ·exact agr
    ·clear hasc
     (repeat' (first|(with_reducible first|apply gu|apply bI|apply dJ|apply dF|apply gG|apply nJ|apply fU|apply fV|apply mY|apply gB|apply gK|apply nK|apply gM|apply fT|apply fZ)|((with_reducible apply bf);(simp only[List.map_cons,List.map_nil]<;>exact rfl))|((with_reducible apply dD);(simp only[List.map_cons,List.map_nil]<;>exact rfl);decide+kernel)|((with_reducible apply gL);rfl)|((first|((with_reducible apply i_V);rfl;rfl;rfl)|((first|((with_reducible apply i_E);rfl)|((with_reducible apply i_S);rfl));first|rfl|(simp only[push_cast,↓reduceIte]))|((with_reducible apply nR);rfl;rfl)|((with_reducible apply nD);rfl;rfl;rfl)|(with_reducible first|apply om|apply dH));(simp(disch:=(first|omega|(simp only[push_cast];first|done|omega))) only[push_cast,↓reduceIte,Rq,Rb,Ra,Rs,Rt, *]<;>with_reducible exact rfl);all_goals try(first|(with_reducible first|refine hyT ?_|refine hyF ?_|exact hyA|exact hyB)|(intro hX;first|(cases hX;done)|((try simp only[decide_eq_true_eq,decide_eq_false_iff_not,Bool.not_eq_true',Bool.not_eq_false']at hX);(try have hXb:=av.1 hX)))))));all_goals try(exfalso;omega)
     all_goals(first|(exfalso;omega)|((first|apply acY|apply uN);simp(disch:=(first|omega|(simp only[push_cast];first|done|omega))) only[push_cast,↓reduceIte,Rq,Rb,Ra,Rs,Rt, *])|skip)
     rw[decide_eq_true (show(X.length:Int)≤30 by omega)]
 ·have glbi_c12:=vY;have glbi_c13:=xE;have glbi_c14:=x9;have glbi_c15:=wW;have glbi_c10:=xO
  exact wlkS
section
open Go.ChangeShapes Go.WideShapes Go.ChangeAt Go.RowKit
open Go.ChangeMaps (open_string shut_string)
theorem own:ownKnob Tryz.prog.godebug=none:=by kernel_rfl
theorem laidOut:laidOutB Tryz.prog=true:=by kernel_rfl
theorem wf_u8 {x:Int} (h:(Lit.int .u8 x).wf=true):0≤x∧x≤255:=by simpa [Lit.wf,IntKind.min,IntKind.max,IntKind.signed,IntKind.bits]using h
theorem addr_add (b off i:Nat):(⟨b,off,none⟩:Addr).add i=⟨b,off+i,none⟩:=by unfold Addr.add;by_cases h:i=0<;>simp[h]
theorem awN {w:World} {a:Addr} {v:Value} (h:w.cell? a=some v):a.block<w.heap.size:=by
 unfold World.cell? at h;by_cases hb:a.block<w.heap.size
 ·exact hb
 ·rw[Array.getElem?_eq_none (by omega)]at h
  cases a.spot<;>simp at h
theorem aCf {P:Program} {W:World} {name:String} {k:IntKind} {zs:List Int} {g:Nat} (hg:P.globalNamed name=some g) (h:Lib.TabIs P W name k zs):∃T k',W.heap[g]?=some (.cells ((zs.map fun z=>Value.int k z).toArray) T k'):=by
 unfold Lib.TabIs World.var? at h;rw[hg,Option.bind_some]at h;split at h
 ·rename_i cs T k' hc
  cases h;exact⟨_,_,hc⟩
 ·cases h
theorem adt {P:Program} {x:String×DataW Unit} {r:List (String×DataW Unit)} {w:World} (h:laidMet P (x::r) w):laidMet P r w:=by obtain⟨ps,hv,hnd,hc⟩:=h;obtain⟨g,t,cs,fuel,p,q,h1,h2,h3,h4,h5,rfl⟩:=hv;exact⟨q,h5,(List.nodup_append.1 hnd).2.1,fun b off hm=>hc b off (List.mem_append_right _ hm)⟩
abbrev gW (W:World):Gh:=zT fun b=>b<W.heap.size
section
variable {H:Type} {enc:TypeId×Value→H} {P:Program} {W:World} {base:Nat} {α β γ δ ε:Type}
def OpC (enc:TypeId×Value→H) (P:Program) (W:World) (base:Nat) (t:TypeId) (A:Dec α) (ok:α→Prop):Prop:=
 ∀fuel cs x,DataW.trod enc P W base (fun _=>true) true fuel t cs=some x→∃a v,ok a∧Rep (gW W) W (A.e a) v∧v.cells.toList=cs∧v.cells.all (·.oneCell')=true
theorem opU {t:TypeId} (ht:P.underlying t=some (.int .u8)):OpC enc P W base t dU aAB:=fun fuel cs x h=>by obtain⟨n,rfl,_,hw⟩:=DataW.trod_int ht h;exact⟨n,.int .u8 n,wf_u8 hw,rfl,rfl,by simp[Value.cells,Value.oneCell']⟩
theorem awq {n:Nat} {p:Nat→α→Prop} (h:∀i,i<n→∃x,p i x):∃l:List α,l.length=n∧∀i a,l[i]?=some a→p i a:=by
 induction n with
 |zero=>exact⟨[],rfl,fun i a h=>by simp at h⟩
 |succ n ih=>
  obtain⟨l,hl,hp⟩:=ih fun i hi=>h i (by omega);obtain⟨x,hx⟩:=h n (by omega);refine⟨l++[x],by simp[hl],fun i a hi=>?_⟩;rw[List.getElem?_append]at hi;split at hi
  ·exact hp i a hi
  ·rename_i hlt
   have:i-l.length=0:=by
    by_cases h0:i-l.length=0
    ·exact h0
    ·rw[List.getElem?_eq_none (by simp;omega)]at hi
     cases hi
   rw[this]at hi;simp at hi;subst hi;have:i=n:=by omega
   subst this;exact hx
theorem opL {t e:TypeId} {A:Dec α} {ok:α→Prop} (sz:Nat) (ht:P.underlying t=some (.slice e)) (hs:P.cellsOf e=sz) (h0:0<sz) (hA:OpC enc P W base e A ok):OpC enc P W base t (dL sz A) (okL ok):=fun fuel cs x h=>by
 rcases Go.Deep.open_slice ht h with⟨rfl,_⟩|⟨x,len,cap,m,n,D,Pl,rfl,hb,hl,hm,hmm,_,hx⟩
 ·exact⟨[],.slice none 0 0,⟨by simp,by simp⟩,⟨none,0,rfl,by simp,by simp,.inl rfl⟩,rfl,by simp[Value.cells,Value.oneCell']⟩
 have hm2:m=cap:=by simpa using hmm
 have hcap:cap≤9223372036854775807:=hm;obtain⟨l,hlen,hp⟩:=awq (n:=len) (p:=fun i a=>ok a∧∃v,Rep (gW W) W (A.e a) v∧v.cells.size=sz∧v.cells.all (·.oneCell')=true∧∀j,j<sz→W.cell? ((x.add (i*sz)).add j)=v.cells[j]?) (fun i hi=>by
  obtain⟨cs',h1,h2⟩:=hx i (by omega);obtain⟨a,v,h3,h4,h5,h6⟩:=hA _ _ _ h2;obtain⟨_,h7,h8⟩:=World.cells?_some h1;rw[hs]at h7 h8;refine⟨a,h3,v,h4,?_,h6,fun j hj=>?_⟩
  ·rw[←h7,←h5];simp
  ·rw[h8 j hj,←h5];simp)
 refine⟨l,.slice (some x) len cap,⟨by omega,fun a ha=>?_⟩,?_,rfl,by simp[Value.cells,Value.oneCell']⟩
 ·obtain⟨i,hi,rfl⟩:=List.getElem_of_mem ha
  exact(hp i _ (by simp[hi])).1
 ·refine⟨some x,cap,by simp[hlen],by simp[hlen];omega,hcap,?_⟩
  by_cases hn:l=[]
  ·exact .inl (by simp[hn])
  right;have hl0:0<l.length:=List.length_pos_iff.2 hn;obtain⟨_,v,h4,h5,h6,h7⟩:=hp 0 l[0] (by simp[hl0]);have h8:=h7 0 h0;have h9:v.cells[0]?=some v.cells[0]:=by simp
  rw[h9]at h8;have hspot:=World.cell?_spot h8;have hlt:=awN h8;obtain⟨b,off,spot⟩:=x;simp only[Nat.zero_mul,Addr.add,if_true]at hspot hlt;subst hspot;refine⟨b,off,rfl,⟨rfl,hlt⟩,bO.of fun i p hi=>?_⟩;rw[List.getElem?_map,Option.map_eq_some_iff]at hi;obtain⟨a,ha,rfl⟩:=hi;obtain⟨_,v,h4,h5,h6,h7⟩:=hp i a ha;refine⟨v,h4,⟨h6,fun j hj=>?_⟩,h5⟩;have:=h7 j (by omega)
  rwa[addr_add,addr_add]at this
theorem opF {t:TypeId} {A:Dec α} {ok:α→Prop} {n:Nat} {cs:List Value} {y:DataW H×List MemPlace} (hA:OpC enc P W base t A ok) (h1:∀a,rE (A.e a)=true)
 (h:DataW.trod enc P W base (fun _=>true) true n t cs=some y):∃a v,ok a∧Rep (gW W) W (A.e a) v∧v.oneCell'=true∧cs=[v]:=by
 obtain⟨a,v,h3,h4,h5,h6⟩:=hA _ _ _ h;have:=aaw h4 (h1 a);exact⟨a,v,h3,h4,this,by rw[←h5,rO this]⟩
theorem op1 {t:TypeId} {A:Dec α} {ok:α→Prop} {v:Value} {d:DataW H} {p:List MemPlace} (hA:OpC enc P W base t A ok) (h1:∀a,rE (A.e a)=true) (hv:v.cells=#[v])
 (h:DataW.Trod enc P W base (fun _=>true) true t v d p):∃a,ok a∧Rep (gW W) W (A.e a) v:=by
 obtain⟨fuel,hf⟩:=h;obtain⟨a,u,h3,h4,h5,h6⟩:=opF hA h1 hf;rw[hv]at h6;have:v=u:=by simpa using h6
 subst this;exact⟨a,h3,h4⟩
theorem ayW {f:Nat} {φ:Fun} {ps:List PV} {args:Array Value} (h:Sound P f φ) (hT:tZ W fun _=>False) (ha:φ ps=some (bv true)) (hr:cZ (gW W) W ps args.toList):
 Calls P f args W fun e w'=>e=.returned (.bool true)∧Below W.heap.size W w':=by
 refine(h W (fun b=>b<W.heap.size) ps args _ ha (fun b hb=>hb) hT hr).mono ?_;rintro e w' ⟨v,rfl,hb,hv⟩;have:=hv {I:=fun _ _=>True,β:=fun _=>0,κ:=fun _=>0,nx:=0} fun b _ _=>trivial;have hv2:v=.bool true:=this;subst hv2;exact⟨rfl,hb⟩
end
end
end
end Go.Proofs.YtmmafcjjlbgnkaaGreatDoor
