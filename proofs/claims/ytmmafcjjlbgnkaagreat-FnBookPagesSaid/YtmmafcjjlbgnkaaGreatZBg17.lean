/- What the proof rests on, part 17: contracts of functions. No condition beyond what each states. -/
import Derived.Test.YtmmafcjjlbgnkaaGreatZBg16
namespace Go.Proofs.YtmmafcjjlbgnkaaGreat
open Go.RowKit
set_option linter.all false
set_option maxHeartbeats 32000000
noncomputable section
def oD (p:List LS) (q:LS) (x y:Int):List Nat:=p.map fun w=>(mE w q x y).length
theorem acR (p:List LS) (q:LS) (x y:Int):(oD p q x y).length=p.length:=by unfold oD;rw[List.length_map]
theorem afx {p:List LS} {q:LS} {x y:Int} {k:Nat} (hk:k<(oD p q x y).length):(oD p q x y)[k]=(mE (p[k]?.getD []) q x y).length:=by
 have hp:k<p.length:=by rw[←acR p q x y];exact hk
 have h0:(oD p q x y)[k]?=some (mE (p[k]?.getD []) q x y).length:=by unfold oD;rw[List.getElem?_map,List.getElem?_eq_getElem hp];rfl
 rw[List.getElem?_eq_getElem hk]at h0;exact Option.some.inj h0
theorem afP (p:List LS) (q:LS) (x y:Int):∀k,k≤p.length→bcK p q x y k=zN ((oD p q x y).take k)
 |0,_=>rfl
 |k+1,h=>by
  have hk:k<(oD p q x y).length:=by unfold oD;rw[List.length_map];omega
  rw[bcK,afP p q x y k (by omega),List.take_succ_eq_append_getElem hk];unfold zN;rw[List.map_append,afx hk];rfl
theorem ajK (p:List LS) (q:LS) (x y:Int):bcK p q x y p.length=zN (oD p q x y):=by rw[afP p q x y p.length (Nat.le_refl _),List.take_of_length_le (by unfold oD;rw[List.length_map];exact Nat.le_refl _)]
theorem ahn (p:List LS) (q:LS) (x y:Int):∀k,k≤p.length→(blK p q x y k).length=((oD p q x y).take k).sum
 |0,_=>rfl
 |k+1,h=>by
  have hk:k<(oD p q x y).length:=by unfold oD;rw[List.length_map];omega
  rw[blK,List.length_append,ahn p q x y k (by omega),wF hk];rw[List.getElem?_eq_getElem hk,Option.getD_some,afx hk]
theorem akq (p:List LS) (q:LS) (x y:Int):(blK p q x y p.length).length=(oD p q x y).sum:=by rw[ahn p q x y p.length (Nat.le_refl _),List.take_of_length_le (by unfold oD;rw[List.length_map];exact Nat.le_refl _)]
def jk (p:List LS) (q:LS) (x y:Int):List Bool:=dQ (oD p q x y)
def bpB (p:List LS) (q:LS) (x y z:Int):Bool:=blB p q x y z&&(decide ((blL p q x y z).length≤30)&&xY (jk p q x y) z.toNat)
def bpV (p:List LS) (q:LS) (x y z:Int):List LS:=if bpB p q x y z=true then kG (blL p q x y z) 0 (jv (jk p q x y) z.toNat)else []
theorem adk {p:List LS} {q:LS} {x y z:Int} (h:blB p q x y z=true) (h30:(blL p q x y z).length≤30):alu (oD p q x y)∧blC p q x y z=zN (oD p q x y)∧(jk p q x y).length=(blL p q x y z).length∧1≤z∧z≤30:=by
 have hL:blL p q x y z=blK p q x y p.length:=if_pos h;have hC:blC p q x y z=bcK p q x y p.length:=if_pos h;have hs:=akq p q x y;refine⟨⟨fun m hm=>?_,by rw[←hs,←hL];exact h30⟩,by rw[hC];exact ajK p q x y,by unfold jk;rw[nT,hL,hs],?_⟩
 ·unfold oD at hm
  obtain⟨w,hw,rfl⟩:=List.mem_map.1 hm;refine aaq ?_;unfold blB at h;rw[Bool.and_eq_true]at h;exact List.all_eq_true.1 h.2 w hw
 ·unfold blB iW at h
  simp only[Bool.and_eq_true]at h;exact av.1 h.1.2.2.2.2.2
def φBp:Fun:=F1 tq fun b=>if aeW b.1 b.2.1 then some (.tup [.lst true 1 ((bpV b.1 b.2.1 b.2.2.1 b.2.2.2.1 b.2.2.2.2).map gy),bv (bpB b.1 b.2.1 b.2.2.1 b.2.2.2.1 b.2.2.2.2)])else none
theorem amI {p:List LS} {q:LS} {x y z:Int} (h:aeW p q):φBp [.agg [.lst false 1 (p.map fun p=> .lst false 1 (p.map fun s=> .val (.string s))),.lst false 1 (q.map fun s=> .val (.string s)),.val (.int .i64 x),.val (.int .i64 y),.val (.int .i64 z)]]=some (.tup [.lst true 1 ((bpV p q x y z).map gy),.val (.bool (bpB p q x y z))]):=
 (iA (A:=tq) (p,q,x,y,z)).trans (if_pos h)
def mW (e:List Nat) (k:Nat):Nat:=((e.take k).getLast?).getD 0
theorem sU {e:List Nat} {k:Nat} (h:k<e.length):mW e (k+1)=e[k]?.getD 0:=by unfold mW;rw[List.take_succ_eq_append_getElem h,List.getLast?_append,List.getElem?_eq_getElem h];simp
theorem adq {α:Type} {l:List α} {e:List Nat} {k:Nat} (h:k<e.length):kG l 0 (e.take (k+1))=kG l 0 (e.take k)++[(l.drop (mW e k)).take (e[k]?.getD 0-mW e k)]:=by rw[List.take_succ_eq_append_getElem h,ade,List.getElem?_eq_getElem h,Option.getD_some];rfl
theorem asB:∀{ks:List Bool} {h p:Nat} {r:List Nat},ChP ks h p r→∀k,k<r.length→(if k=0 then p else r[k-1]?.getD 0)<r[k]?.getD 0∧r[k]?.getD 0≤ks.length
 |ks,h,p,[],_,k,hk=>by simp at hk
 |ks,h,p,q::r,hc,0,_=>⟨hc.1.1,hc.1.2.1⟩
 |ks,h,p,q::r,hc,k+1,hk=>by
  have:=asB hc.2 k (by simpa using hk);rw[if_neg (by omega)];cases k with
  |zero=>simpa using this
  |succ k=>simpa using this
theorem ab2 {ks:List Bool} {h:Nat} {e:List Nat} (hc:ChP ks h 0 e) {k:Nat} (hk:k<e.length):mW e k<e[k]?.getD 0∧e[k]?.getD 0≤ks.length:=by
 have:=asB hc k hk;cases k with
 |zero=>exact this
 |succ k=>rw[sU (by omega)];simpa using this
theorem akd {p:List LS} {q:LS} {x y z:Int} (h:bpB p q x y z=false):bpV p q x y z=[]:=if_neg (by rw[h];decide)
theorem agL {p:List LS} {q:LS} {x y z:Int} (h:(blL p q x y z).length=0):bpV p q x y z=[]:=by
 unfold bpV;split
 ·rename_i hb
  unfold bpB at hb;rw[Bool.and_eq_true,Bool.and_eq_true]at hb;have hc:=adk hb.1 (of_decide_eq_true hb.2.1);have hl:=sj (uP hb.2.2);have he:(jv (jk p q x y) z.toNat).length=0:=by have:=hc.2.2.1;omega
  rw[List.eq_nil_of_length_eq_zero he];rfl
 ·rfl
theorem aj4 {q:LS} {x y z:Int} (h:blB [] q x y z=true):bpB [] q x y z=true∧xY [] z.toNat=true∧jv [] z.toNat=[]:=by
 have h1:xY [] z.toNat=true:=rfl;have hL:(blL [] q x y z).length=0:=by unfold blL;rw[if_pos h];rfl
 refine⟨?_,h1,?_⟩
 ·unfold bpB
  rw[h,hL,show jk [] q x y=[]from rfl,h1];rfl
 ·unfold jv
  rw[if_pos h1];rfl
def adv:Fun:=au3 1 wI
theorem agk {c:List Nat} (h:alu c):adv [.lst false 1 ((zN c).map fun n=> .val (.int .i64 n)),.val (.int .i64 1)]=some (.lst true 4 ((dQ c).map eY)):=qj h
theorem afh:adv [.val (.slice none 0 0),.val (.int .i64 1)]=some (.lst true 4 []):=qj (c:=[]) ⟨by simp,by decide⟩
abbrev bkP (p:List LS) (q:LS) (x y z:Int):PV:=.agg [.lst false 1 (p.map fun p=> .lst false 1 (p.map fun s=> .val (.string s))),.lst false 1 (q.map fun s=> .val (.string s)),.val (.int .i64 x),.val (.int .i64 y),.val (.int .i64 z)]
def au6:Ctx:={fn:=aY [(10,ae7),(21,adv),(20,uq)],io:=aY []}
theorem bM:ak Tryz.prog au6:=okΓ (fC Tryz.func10 yE (fC Tryz.func21 (aeo.nil 1) (fC Tryz.func20 afj aj))) aj
def rA:=ah (Γ:=au6) (f:=10) (φ:=ae7) rfl
def rO:=ah (Γ:=au6) (f:=21) (φ:=adv) rfl
def rW:=ah (Γ:=au6) (f:=20) (φ:=uq) rfl
theorem agS:Sound Tryz.prog 6 φBp:=by
 refine HZ.sound (N:=52) (rs:=[.tmp 2,.tmp 3]) Tryz.func6 rfl rfl rfl fun ps r hr=>?_;obtain⟨⟨p,q,x,y,z⟩,rfl,hq⟩:=bR hr;clear hr;split at hq
 case isFalse=>cases hq
 case isTrue hpre=>
 cases hq;refine⟨by simp,fun B w00=>HZ.start ?_⟩;simp only[dIs,dUs,dSs,dx,dA,dz,dF,aS,dD,aT,aU,aR,aV];(try dsimp only at hpre⊢);show HZ _ _ _ _ _ _ ⟨(bZ [bkP p q x y z]).tm,fun _=>none,0⟩ _;by_cases h0:(blL p q x y z).length=0
 ·have ap1:=adC hpre h0
  obtain⟨hc0,hp0⟩:=acB h0;rw[agL h0,List.map_nil];clear hpre h0 hc0;cases hB:blB p q x y z with
  |false=>
   rw[hB]at ap1;have hb:bpB p q x y z=false:=by unfold bpB;rw[hB];rfl
   rw[hb];clear hp0 hB hb;have gbgi_c10:=rA;have gbgi_c21:=rO;have gbgi_c20:=rW;refine HZ.eng mixed bM (by kernel_rfl) ?_;(try dsimp only);(refine wlk ?_;intros);(try dsimp only);refine⟨.inr rfl,⟨_,fun g w v h=>?_,by(simp(disch:=(first|omega|(simp only[push_cast];first|done|omega))) only[push_cast,↓reduceIte,Nat.reduceEqDiff,Nat.reduceBEq,Nat.reduceAdd,Nat.reduceSub,Int.reduceToNat, *]<;>with_reducible exact rfl)⟩,fun i e=>False.elim e⟩;exact iy g w v h
  |true=>
   obtain rfl:=hp0 hB;obtain⟨e1,e2,e3⟩:=aj4 hB;rw[hB]at ap1;have hz:1≤z∧z≤30:=by unfold blB iW at hB;simp only[Bool.and_eq_true]at hB;exact av.1 hB.1.2.2.2.2.2
   have hzz:((z.toNat:Nat):Int)=z:=by omega
   have ap2:=afh;have ap3:=qH (ks:=[]) (h:=z.toNat) (by decide) (by omega) (by omega);rw[e2,e3,hzz,List.map_nil,List.map_nil,List.map_nil]at ap3;rw[e1];simp only[List.map_nil]at ap1;clear hp0 hB e1 e2 e3 hzz;have gbgi_c10:=rA;have gbgi_c21:=rO;have gbgi_c20:=rW;refine HZ.eng mixed bM (by kernel_rfl) ?_;(try dsimp only);(refine wlk ?_;intros);(try dsimp only);refine aG (α:=Unit) mixed (fun _=>[(8,.val (.slice none 0 0)),(36,iv 0),(37,iv 0)]) (fun _=>[]) (fun _=>1) (fun _=>True) (fun _=>0) (by kernel_rfl) () trivial ?_ trivial rfl ?_
   ·exact agr
   rintro _ _;(refine wlk ?_;intros);(try dsimp only);refine⟨.inr rfl,⟨_,fun g w v h=>?_,by(simp(disch:=(first|omega|(simp only[push_cast];first|done|omega))) only[push_cast,↓reduceIte,Nat.reduceEqDiff,Nat.reduceBEq,Nat.reduceAdd,Nat.reduceSub,Int.reduceToNat, *]<;>with_reducible exact rfl)⟩,fun i e=>False.elim e⟩;exact iy g w v h
 ·have hB:blB p q x y z=true:=by
   cases hB:blB p q x y z with
   |true=>rfl
   |false=>unfold blL at h0;rw[if_neg (by rw[hB];decide)]at h0;simp at h0
  have ap1:=yU (x:=x) (y:=y) (z:=z) hpre (by omega);rw[hB]at ap1;have hl60:=ah3 (p:=p) (q:=q) (x:=x) (y:=y) (z:=z) (by unfold blB iW at hB;simp only[Bool.and_eq_true,decide_eq_true_eq]at hB;exact hB.1.2.1)
  by_cases h30:(blL p q x y z).length≤30
  ·obtain⟨k1,k2,k3,k4,k5⟩:=adk hB h30
   have hzz:((z.toNat:Nat):Int)=z:=by omega
   have ap2:=agk k1;have ap3:=qH (ks:=jk p q x y) (h:=z.toNat) (by omega) (by omega) (by omega);rw[hzz]at ap3;rw[k2]at ap1;have hV:bpV p q x y z=if bpB p q x y z=true then kG (blL p q x y z) 0 (jv (jk p q x y) z.toNat)else []:=rfl;have hb:bpB p q x y z=xY (jk p q x y) z.toNat:=by unfold bpB;rw[hB,decide_eq_true h30];rfl
   rw[hb]at hV;rw[hV,hb];have hch:=fun h=>uP (ks:=jk p q x y) (h:=z.toNat) h;rw[show dQ (oD p q x y)=jk p q x y from rfl]at ap2;clear hpre hB h0 hV hb k1 k2 hzz;generalize blL p q x y z=BL at*;generalize zN (oD p q x y)=CN at*;generalize jk p q x y=KS at*;cases hG:xY KS z.toNat with
   |false=>rw[hG]at ap3;rw[if_neg (by decide),List.map_nil];clear hch hG;have gbgi_c10:=rA;have gbgi_c21:=rO;have gbgi_c20:=rW;refine HZ.eng mixed bM (by kernel_rfl) ?_;(try dsimp only);(refine wlk ?_;intros);(try dsimp only);refine⟨.inr rfl,⟨_,fun g w v h=>?_,by(simp(disch:=(first|omega|(simp only[push_cast];first|done|omega))) only[push_cast,↓reduceIte,Nat.reduceEqDiff,Nat.reduceBEq,Nat.reduceAdd,Nat.reduceSub,Int.reduceToNat, *]<;>with_reducible exact rfl)⟩,fun i e=>False.elim e⟩;exact iy g w v h
   |true=>
    rw[hG]at ap3;have hc:=hch hG;rw[if_pos rfl];have hct:=fun k h=>adq (l:=BL) (e:=jv KS z.toNat) (k:=k) h;have hfl:=fun k h=>ab2 hc (k:=k) h;have hfs:=fun k h=>sU (e:=jv KS z.toNat) (k:=k) h;have hel:=sj hc;have hfull:(jv KS z.toNat).take (jv KS z.toNat).length=jv KS z.toNat:=List.take_length;have hze:=fun k h=>abI (c:=jv KS z.toNat) (k:=k) h;have hzl:(zN (jv KS z.toNat)).length=(jv KS z.toNat).length:=by simp
    rw[show(jv KS z.toNat).map (fun n:Nat=>(n:Int))=zN (jv KS z.toNat)from rfl]at ap3;clear hch hG hc;generalize jv KS z.toNat=E at*;generalize zN E=ZE at*;have gbgi_c10:=rA;have gbgi_c21:=rO;have gbgi_c20:=rW;refine HZ.seq (HZ.eng mixed bM (by kernel_rfl) ?_);(try dsimp only);(refine wlk ?_;intros);(try dsimp only[X.out]);(try simp only[↓reduceIte]);refine HZ.seq (HZ.eng mixed bM (by kernel_rfl) ?_);(try dsimp only);(refine wlk ?_;intros);(try dsimp only[X.out]);(try simp only[↓reduceIte]);refine HZ.seq (HZ.eng mixed bM (by kernel_rfl) ?_);(try dsimp only);(refine wlk ?_;intros);(try dsimp only[X.out]);(try simp only[↓reduceIte]);refine HZ.seq (HZ.eng mixed bM (by kernel_rfl) ?_);(try dsimp only);(refine wlk ?_;intros);(try dsimp only[X.out]);(try simp only[↓reduceIte]);refine HZ.seq (HZ.eng mixed bM (by kernel_rfl) ?_);(try dsimp only);(refine wlk ?_;intros);(try dsimp only[X.out]);(try simp only[↓reduceIte]);refine HZ.seq (HZ.eng mixed bM (by kernel_rfl) ?_);(try dsimp only);(refine wlk ?_;intros);(try dsimp only[X.out]);(try simp only[↓reduceIte]);refine HZ.seq (HZ.eng mixed bM (by kernel_rfl) ?_);(try dsimp only);(refine wlk ?_;intros);(try dsimp only[X.out]);(try simp only[↓reduceIte]);refine HZ.seq (HZ.seq (HZ.eng mixed bM (by kernel_rfl) ?_));(try dsimp only);(refine wlk ?_;intros);(try dsimp only[X.out]);(try simp only[↓reduceIte]);refine HZ.block (HZ.aaB (α:=Nat×Nat×Nat) (fun i=>[(4,.lst true 1 (BL.map fun s=> .val (.string s))),(8,nP 1 ((kG BL 0 (E.take i.1)).map gy) i.2.1),(9,iv (mW E i.1)),(35,.lst true 1 (ZE.map fun n=> .val (.int .i64 n))),(36,iv E.length),(37,iv i.1)]) (fun i=>nO 24 1 ((kG BL 0 (E.take i.1)).map gy) i.2.1) (fun i=>i.2.2)
     (fun i σ=>(i.1≤E.length∧(0<i.1→i.2.1<i.2.2))∧σ=Fgn.no) (fun i=>E.length-i.1) (0,0,1) ⟨⟨Nat.zero_le _,fun h=>absurd h (Nat.lt_irrefl 0)⟩,rfl⟩ ?_ ?_ rfl ?_)
    ·have z0:(kG BL 0 (E.take 0)).map gy=[]:=rfl
     have z1:mW E 0=0:=rfl;(try dsimp only);rw[z0,eZ,z1];exact agr
    ·have z0:(kG BL 0 (E.take 0)).map gy=[]:=rfl
     (try dsimp only);rw[z0,eF];exact agr
    rintro⟨k,o,y⟩ σ ⟨⟨hk,hoy⟩,rfl⟩;dsimp only at hk hoy;clear ap1 ap2 ap3;by_cases hkl:k<E.length
    ·have h1:=hct k hkl
     have h2:=hfl k hkl;have h3:=hfs k hkl;have h4:=hze k hkl;have hcl:((kG BL 0 (E.take k)).map gy).length=k:=by rw[List.length_map,mP,List.length_take];omega
     clear hct hfl hfs hze hfull;have hkz:k<ZE.length:=by omega
     have h5:E[k]?.getD 0≤BL.length:=by omega
     have h1:(kG BL 0 (E.take (k+1))).map gy=(kG BL 0 (E.take k)).map gy++[gy ((BL.drop (mW E k)).take (E[k]?.getD 0-mW E k))]:=by rw[h1,List.map_append];rfl
     replace h1:=Lib.hid h1;replace h3:=Lib.hid h3;generalize E[k]?.getD 0=e at*;generalize mW E k=f at*;generalize(kG BL 0 (E.take k)).map gy=R at*;by_cases h0:k=0
     ·obtain rfl:R=[]:=List.eq_nil_of_length_eq_zero (by omega)
      subst h0;(try dsimp only[eZ,eF]);refine HZ.seq (HZ.eng mixed bM (by kernel_rfl) ?_);(try dsimp only);(refine wlk ?_;intros);(try dsimp only[X.out]);(try simp only[↓reduceIte]);refine HZ.seq (HZ.eng mixed bM (by kernel_rfl) ?_);(try dsimp only);(refine wlk ?_;intros);(try dsimp only[X.out]);(try simp only[↓reduceIte]);refine HZ.seq (HZ.block (HZ.seq (HZ.eng mixed bM (by kernel_rfl) ?_)));(try dsimp only);(refine wlk ?_;intros);(try dsimp only[X.out]);(try simp only[↓reduceIte]);refine HZ.seq (HZ.eng mixed bM (by kernel_rfl) ?_);(try dsimp only);(refine wlk ?_;intros);(try dsimp only[X.out]);(try simp only[↓reduceIte]);refine HZ.o8 (o:=y) (x:=y+1+1) (T:=9) (sz:=1) (T2:=24) (sz2:=1) (n:=e-f) (es:=((BL.drop f).take (e-f)).map fun s=> .val (.string s)) (l:=[]) (by(simp(disch:=(first|omega|(simp only[push_cast];first|done|omega))) only[push_cast,↓reduceIte,Nat.reduceEqDiff,Nat.reduceBEq,Nat.reduceAdd,Nat.reduceSub,Int.reduceToNat, *]<;>with_reducible exact rfl)) (by(simp(disch:=(first|omega|(simp only[push_cast];first|done|omega))) only[push_cast,↓reduceIte,Nat.reduceEqDiff,Nat.reduceBEq,Nat.reduceAdd,Nat.reduceSub,Int.reduceToNat, *]<;>with_reducible exact rfl)) (by rw[List.length_map,List.length_take,List.length_drop];omega) (by omega) ?_;refine HZ.eng mixed bM (by kernel_rfl) ?_;(try dsimp only);(refine wlk ?_;intros);(try dsimp only[X.out]);(try simp only[↓reduceIte]);refine HZ.eng mixed bM (by kernel_rfl) ?_;(try dsimp only);(refine wlk ?_;intros);(try dsimp only[X.out]);(try simp only[↓reduceIte]);refine⟨(0+1,y+1+1,y+1+1+1),⟨⟨by dsimp only;omega,fun _=>by dsimp only;omega⟩,by trivial⟩,by dsimp only;omega,?_,?_,rfl⟩
      ·(try dsimp only)
       rw[h1.out,h3.out,aB (by simp),List.length_append];exact agi
      ·(try dsimp only)
       rw[h1.out,aF (by simp)];exact agr
     ·rw[aB (by omega),aF (by omega)]
      refine HZ.seq (HZ.eng mixed bM (by kernel_rfl) ?_);(try dsimp only);(refine wlk ?_;intros);(try dsimp only[X.out]);(try simp only[↓reduceIte]);refine HZ.seq (HZ.eng mixed bM (by kernel_rfl) ?_);(try dsimp only);(refine wlk ?_;intros);(try dsimp only[X.out]);(try simp only[↓reduceIte]);refine HZ.seq (HZ.block (HZ.seq (HZ.eng mixed bM (by kernel_rfl) ?_)));(try dsimp only);(refine wlk ?_;intros);(try dsimp only[X.out]);(try simp only[↓reduceIte]);refine HZ.seq (HZ.eng mixed bM (by kernel_rfl) ?_);(try dsimp only);(refine wlk ?_;intros);(try dsimp only[X.out]);(try simp only[↓reduceIte]);refine HZ.o8 (o:=y) (x:=y+1+1) (T:=9) (sz:=1) (T2:=24) (sz2:=1) (n:=e-f) (es:=((BL.drop f).take (e-f)).map fun s=> .val (.string s)) (l:=R) (by(simp(disch:=(first|omega|(simp only[push_cast];first|done|omega))) only[push_cast,↓reduceIte,Nat.reduceEqDiff,Nat.reduceBEq,Nat.reduceAdd,Nat.reduceSub,Int.reduceToNat, *]<;>with_reducible exact rfl)) (by(simp(disch:=(first|omega|(simp only[push_cast];first|done|omega))) only[push_cast,↓reduceIte,Nat.reduceEqDiff,Nat.reduceBEq,Nat.reduceAdd,Nat.reduceSub,Int.reduceToNat, *]<;>with_reducible exact rfl)) (by rw[List.length_map,List.length_take,List.length_drop];omega) (by omega) ?_;refine HZ.eng mixed bM (by kernel_rfl) ?_;(try dsimp only);(refine wlk ?_;intros);(try dsimp only[X.out]);(try simp only[↓reduceIte]);refine HZ.eng mixed bM (by kernel_rfl) ?_;(try dsimp only);(refine wlk ?_;intros);(try dsimp only[X.out]);(try simp only[↓reduceIte]);refine⟨(k+1,y+1+1,y+1+1+1),⟨⟨by dsimp only;omega,fun _=>by dsimp only;omega⟩,by trivial⟩,by dsimp only;omega,?_,?_,rfl⟩
      ·(try dsimp only)
       rw[h1.out,h3.out,aB (by simp),List.length_append];exact agi
      ·(try dsimp only)
       rw[h1.out,aF (by simp)];exact agr
    ·obtain rfl:k=E.length:=by omega
     rw[hfull];clear hct hfl hfs hze hfull;by_cases h0:E.length=0
     ·obtain rfl:E=[]:=List.eq_nil_of_length_eq_zero h0
      have z0:(kG BL 0 []).map gy=[]:=rfl;rw[z0,eZ,eF];refine HZ.seq (HZ.eng mixed bM (by kernel_rfl) ?_);(try dsimp only);(refine wlk ?_;intros);(try dsimp only[X.out]);(try simp only[↓reduceIte]);refine HZ.seq (HZ.eng mixed bM (by kernel_rfl) ?_);(try dsimp only);(refine wlk ?_;intros);(try dsimp only[X.out]);(try simp only[↓reduceIte]);refine HZ.eng mixed bM (by kernel_rfl) ?_;(try dsimp only);(refine wlk ?_;intros);(try dsimp only[X.out]);(try simp only[↓reduceIte]);refine⟨by simp,⟨_,fun g w v h=>?_,by(simp(disch:=(first|omega|(simp only[push_cast];first|done|omega))) only[push_cast,↓reduceIte,Nat.reduceEqDiff,Nat.reduceBEq,Nat.reduceAdd,Nat.reduceSub,Int.reduceToNat, *]<;>with_reducible exact rfl)⟩,fun i e=>False.elim e⟩;exact iy g w v h
     ·have hcl:(kG BL 0 E).length=E.length:=mP
      generalize kG BL 0 E=L at*;rw[aB (by rw[List.length_map];omega),aF (by rw[List.length_map];omega)];refine HZ.seq (HZ.eng mixed bM (by kernel_rfl) ?_);(try dsimp only);(refine wlk ?_;intros);(try dsimp only[X.out]);(try simp only[↓reduceIte]);refine HZ.seq (HZ.eng mixed bM (by kernel_rfl) ?_);(try dsimp only);(refine wlk ?_;intros);(try dsimp only[X.out]);(try simp only[↓reduceIte]);refine HZ.eng mixed bM (by kernel_rfl) ?_;(try dsimp only);(refine wlk ?_;intros);(try dsimp only[X.out]);(try simp only[↓reduceIte]);refine⟨by simp,⟨_,fun g w v h=>h,by(simp(disch:=(first|omega|(simp only[push_cast];first|done|omega))) only[push_cast,↓reduceIte,Nat.reduceEqDiff,Nat.reduceBEq,Nat.reduceAdd,Nat.reduceSub,Int.reduceToNat, *]<;>with_reducible exact rfl)⟩,fun i e=>False.elim e⟩
  ·have hb:bpB p q x y z=false:=by unfold bpB;rw[decide_eq_false h30,Bool.false_and,Bool.and_false]
   rw[akd hb,hb,List.map_nil];clear hpre hB h0 hb;generalize blL p q x y z=BL at*;generalize blC p q x y z=BC at*;have gbgi_c10:=rA;have gbgi_c21:=rO;have gbgi_c20:=rW;refine HZ.eng mixed bM (by kernel_rfl) ?_;(try dsimp only);(refine wlk ?_;intros);(try dsimp only);refine⟨.inr rfl,⟨_,fun g w v h=>?_,by(simp(disch:=(first|omega|(simp only[push_cast];first|done|omega))) only[push_cast,↓reduceIte,Nat.reduceEqDiff,Nat.reduceBEq,Nat.reduceAdd,Nat.reduceSub,Int.reduceToNat, *]<;>with_reducible exact rfl)⟩,fun i e=>False.elim e⟩;exact iy g w v h
theorem akR {ks:List Bool} {h:Nat} {E:Nat→Int} {p:Nat} {B:Int} (hh:h≤30) (hB:0≤B) (hE:∀q,E q≤B) (m:Nat) (hm:p+m≤ks.length):-1≤(upP ks h E p m).1∧(upP ks h E p m).1≤900+B∧(upP ks h E p m).2≤ks.length:=by
 have hb:=vM (ks:=ks) (h:=h) (E:=E) (p:=p) m;by_cases c:(upP ks h E p m).1<0
 ·rw[(hb.no c).1]
  refine⟨?_,?_,?_⟩
  ·show(-1:Int)≤-1
   omega
  ·show(-1:Int)≤900+B
   omega
  ·show 0≤ks.length
   omega
 ·obtain⟨q1,q2,q3,q4⟩:=hb.yes (by omega)
  have h1:=r9 q2.1 hh;have h2:=hE (upP ks h E p m).2;rw[qE]at q3;exact⟨by omega,by omega,by omega⟩
def awO:Ctx:={fn:=aY [(47,tJ),(48,φIn)],io:=aY []}
theorem apB:ak Tryz.prog awO:=okΓ (fC Tryz.func47 aaT (fC Tryz.func48 iq aj)) aj
def aou:=ah (Γ:=awO) (f:=47) (φ:=tJ) rfl
def ao4:=ah (Γ:=awO) (f:=48) (φ:=φIn) rfl
theorem aem:Sound Tryz.prog 24 uq:=by
 refine gP mixed apB Tryz.func24 rfl 135 rfl [.tmp 4,.tmp 5] rfl (by kernel_rfl) fun ps r hr=>?_;obtain⟨ks,h,rfl,⟨h1,h2,h3⟩,rfl⟩:=uY hr;clear hr;refine⟨by simp,?_⟩;have apa:=yY (l:=ks) (by omega);rw[decide_eq_true h1]at apa;have api:=bL;have hin:inB (h:Int) 1 1000=true:=av.2 ⟨by omega,by omega⟩;have gbps_c47:=aou;have gbps_c48:=ao4;(refine wlk ?_;intros);clear hin api;refine aG (α:=Nat) mixed (fun k=>[(0,.lst false 4 (ks.map eY)),(1,iv h),(6,.row 0 1 0 0),(7,iv ks.length),(8,.row 1 1 0 (ks.length+1)),(9,.row 2 1 0 (ks.length+1)),(10,.val (.int .i64 ((ks.length:Int)-1-k)))])
  (fun k=>[(0,3,1,[]),(1,3,1,vL ks.length (fun x=>(tbP ks h k x).1)),(2,3,1,vL ks.length (fun x=>((tbP ks h k x).2:Int)))]) (fun _=>3) (fun k=>k≤ks.length) (fun k=>ks.length-k) (by kernel_rfl) 0 (Nat.zero_le _) ?_ ?_ rfl ?_
 ·exact agi
 ·simp(disch:=(first|omega|(simp only[push_cast];first|done|omega))) only[push_cast,↓reduceIte,Nat.reduceEqDiff,Nat.reduceBEq,Nat.reduceAdd,Nat.reduceSub,Int.reduceToNat,List.length_append, *]
  try exact⟨rfl,rfl⟩
 intro k hk;have hbd:=lF (ks:=ks) h3 k hk;by_cases hkl:k<ks.length
 ·obtain⟨e1,e2⟩:=ach (h:=h) hkl
  have hlow:=abU (ks:=ks) (h:=h) (k:=k) (x:=ks.length-(k+1)) hk (by omega);have hp:(ks.length:Int)-1-k=((ks.length-(k+1):Nat):Int):=by omega
  rw[hp];replace hp:=Lib.hid hp;have hup:=fun m hm=>akR (ks:=ks) (h:=h) (E:=fun q=>(tbP ks h k q).1) (p:=ks.length-(k+1)) (B:=900*k) h3 (by omega) (fun q=>(hbd q).2.1) m hm;have hN0:((tbP ks h k (ks.length-(k+1))).2:Int)=0:=by rw[hlow];rfl
  have hEb:∀x,-1≤(fun x=>(tbP ks h k x).1) x∧(fun x=>(tbP ks h k x).1) x≤27000:=fun x=>by have:=hbd x;exact⟨this.1,by dsimp only;omega⟩
  replace hN0:(fun x=>((tbP ks h k x).2:Int)) (ks.length-(k+1))=0:=hN0;have hpk:ks.length-(k+1)<ks.length:=by omega
  clear hbd hlow;generalize hEe:(fun x=>(tbP ks h k x).1)=E at*;generalize hNe:(fun x=>((tbP ks h k x).2:Int))=Nx at*;replace e1:=Lib.hid e1;replace e2:=Lib.hid e2;clear hEe hNe;generalize ks.length-(k+1)=p at*;have hov:ovr Nx p ((upP ks h E p 0).2:Int)=Nx:=by rw[show((upP ks h E p 0).2:Int)=Nx p from hN0.symm];exact ale
  replace hov:=Lib.hid hov;replace hN0:=Lib.hid hN0;(refine wlk ?_;intros);refine aG (α:=Nat) mixed (fun m=>[(0,.lst false 4 (ks.map eY)),(1,iv h),(6,.row 0 1 0 0),(7,iv ks.length),(8,.row 1 1 0 (ks.length+1)),(9,.row 2 1 0 (ks.length+1)),(10,iv p),(11,iv m),(12,.val (.int .i64 ((p:Int)+1+m)))])
   (fun m=>[(0,3,1,[]),(1,3,1,vL ks.length (ovr E p (upP ks h E p m).1)),(2,3,1,vL ks.length (ovr Nx p ((upP ks h E p m).2:Int)))]) (fun _=>3) (fun m=>m≤ks.length-p) (fun m=>ks.length-p-m) (by kernel_rfl) 0 (Nat.zero_le _) ?_ ?_ rfl ?_
  ·exact agi
  ·(try dsimp only)
   rw[hov.out];simp(disch:=(first|omega|(simp only[push_cast];first|done|omega))) only[push_cast,↓reduceIte,Nat.reduceEqDiff,Nat.reduceBEq,Nat.reduceAdd,Nat.reduceSub,Int.reduceToNat,List.length_append, *];try rfl
  intro m hm;have hsb:=hup m (by omega);by_cases hml:m<ks.length-p
  ·have hq:(p:Int)+1+m=((p+m+1:Nat):Int):=by omega
   have hst:upP ks h E p (m+1)=vT ks h E p (p+m+1) (upP ks h E p m):=rfl;have hue:=fun hm'=>auo (ks:=ks) (h:=h) (E:=E) (p:=p) (m:=m) hm' (by omega) (by omega);have hpq:p<p+m+1:=by omega
   have hqn:p+m+1≤ks.length:=by omega
   have hqm:((p+m+1:Nat):Int)=(p:Int)+m+1:=by omega
   have hEq:=hEb (p+m+1);(try dsimp only);rw[hq];replace hq:=Lib.hid hq;replace hqm:=Lib.hid hqm;have hq1:p+m+1-1=p+m:=by omega
   have hmay:aer ks h p (p+m+1)↔m+1≤h∧¬(p+m+1<ks.length∧aff ks (p+m+1-1)=true):=⟨fun e=>⟨by have:=e.2.2.1;omega,e.2.2.2⟩,fun e=>⟨hpq,hqn,by omega,e.2⟩⟩;have hpc:pcB ks h p (p+m+1)=if p+m+1=ks.length then 0 else((h:Int)-((m:Int)+1))*((h:Int)-((m:Int)+1)):=by unfold pcB;rw[hqm.out,show(p:Int)+m+1-p=(m:Int)+1 by omega]
   unfold aff at hmay;clear hq1;generalize hqq:p+m+1=q at*;replace hqq:=Lib.hid hqq;generalize upP ks h E p m=s at*;have ea:ovr E p s.1 q=E q:=alX (by omega);have eb:ovr E p s.1 p=s.1:=alg;have eo:∀v,ovr (ovr E p s.1) p v=ovr E p v:=fun v=>vC;have eo2:∀v,ovr (ovr Nx p (s.2:Int)) p v=ovr Nx p v:=fun v=>vC;unfold vT okQ at hst;rw[qE]at hst;clear hEb hN0 hov hup;by_cases hmh:m+1≤h
   ·clear hue
    by_cases hE0:E q<0
    ·have hst2:upP ks h E p (m+1)=s:=by rw[hst];exact if_neg fun e=>by have:=e.1.2;omega
     replace hst2:=Lib.hid hst2;clear hst hmay hpc;(refine wlk ?_;intros);refine⟨m+1,by omega,by dsimp only;omega,?_,?_,rfl⟩
     ·have hq:=hq.out
      exact agi
     ·(try dsimp only)
      rw[hst2.out];exact agr
    ·by_cases hqe:q=ks.length
     ·subst hqe
      have hm1:aer ks h p ks.length:=hmay.2 ⟨hmh,fun e=>by omega⟩;rw[if_pos rfl]at hpc;rw[hpc,Int.zero_add]at hst;clear hmay hpc;by_cases hs0:s.1<0
      ·have hst2:upP ks h E p (m+1)=(E ks.length,ks.length):=by rw[hst];exact if_pos ⟨⟨hm1,by omega⟩,.inl hs0⟩
       replace hst2:=Lib.hid hst2;clear hst hm1;(refine wlk ?_;intros);refine⟨m+1,by omega,by dsimp only;omega,?_,?_,rfl⟩
       ·have hq:=hq.out
        exact agi
       ·(try dsimp only)
        rw[hst2.out];exact agr
      ·by_cases hlt:E ks.length≤s.1
       ·have hst2:upP ks h E p (m+1)=(E ks.length,ks.length):=by rw[hst];exact if_pos ⟨⟨hm1,by omega⟩,.inr hlt⟩
        replace hst2:=Lib.hid hst2;clear hst hm1;(refine wlk ?_;intros);refine⟨m+1,by omega,by dsimp only;omega,?_,?_,rfl⟩
        ·have hq:=hq.out
         exact agi
        ·(try dsimp only)
         rw[hst2.out];exact agr
       ·have hst2:upP ks h E p (m+1)=s:=by rw[hst];exact if_neg fun e=>e.2.elim hs0 hlt
        replace hst2:=Lib.hid hst2;clear hst hm1;(refine wlk ?_;intros);refine⟨m+1,by omega,by dsimp only;omega,?_,?_,rfl⟩
        ·have hq:=hq.out
         exact agi
        ·(try dsimp only)
         rw[hst2.out];exact agr
     ·have hqlt:q<ks.length:=by omega
      cases hkp:ks[q-1]?.getD false with
      |true=>
       have hst2:upP ks h E p (m+1)=s:=by rw[hst];exact if_neg fun e=>(hmay.1 e.1.1).2 ⟨hqlt,hkp⟩
       replace hst2:=Lib.hid hst2;clear hst hmay hpc;(refine wlk ?_;intros);refine⟨m+1,by omega,by dsimp only;omega,?_,?_,rfl⟩
       ·have hq:=hq.out
        exact agi
       ·(try dsimp only)
        rw[hst2.out];exact agr
      |false=>
       have hm1:aer ks h p q:=hmay.2 ⟨hmh,fun e=>by rw[hkp]at e;cases e.2⟩;rw[if_neg hqe]at hpc;obtain⟨d,hd⟩:∃d:Nat,(h:Int)-((m:Int)+1)=d:=⟨h-(m+1),by omega⟩;have hd2:d≤30:=by omega
       have hdd:d*d≤30*30:=Nat.mul_le_mul hd2 hd2;have hdc:(d:Int)*d=((d*d:Nat):Int):=by simp
       have hc0:0≤((h:Int)-((m:Int)+1))*((h:Int)-((m:Int)+1))∧((h:Int)-((m:Int)+1))*((h:Int)-((m:Int)+1))≤900:=by rw[hd,hdc];omega
       have w1:=dw (n:=((h:Int)-((m:Int)+1))*((h:Int)-((m:Int)+1))) (by omega) (by omega);rw[hpc,Int.add_comm _ (E q)]at hst;clear hd hd2 hdd hdc hmay hpc;generalize hcc:((h:Int)-((m:Int)+1))*((h:Int)-((m:Int)+1))=c at*;by_cases hs0:s.1<0
       ·have hst2:upP ks h E p (m+1)=(E q+c,q):=by rw[hst];exact if_pos ⟨⟨hm1,by omega⟩,.inl hs0⟩
        replace hst2:=Lib.hid hst2;clear hst hm1;(refine wlk ?_;intros);refine⟨m+1,by omega,by dsimp only;omega,?_,?_,rfl⟩
        ·have hq:=hq.out
         exact agi
        ·(try dsimp only)
         rw[hst2.out];exact agr
       ·by_cases hlt:E q+c≤s.1
        ·have hst2:upP ks h E p (m+1)=(E q+c,q):=by rw[hst];exact if_pos ⟨⟨hm1,by omega⟩,.inr hlt⟩
         replace hst2:=Lib.hid hst2;clear hst hm1;(refine wlk ?_;intros);refine⟨m+1,by omega,by dsimp only;omega,?_,?_,rfl⟩
         ·have hq:=hq.out
          exact agi
         ·(try dsimp only)
          rw[hst2.out];exact agr
        ·have hst2:upP ks h E p (m+1)=s:=by rw[hst];exact if_neg fun e=>e.2.elim hs0 hlt
         replace hst2:=Lib.hid hst2;clear hst hm1;(refine wlk ?_;intros);refine⟨m+1,by omega,by dsimp only;omega,?_,?_,rfl⟩
         ·have hq:=hq.out
          exact agi
         ·(try dsimp only)
          rw[hst2.out];exact agr
   ·have hue2:=hue (by omega)
    replace hue2:=Lib.hid hue2;clear hue hst hmay hpc;(refine wlk ?_;intros);refine⟨k+1,by omega,by dsimp only;omega,?_,?_,rfl⟩
    ·have hp:=hp.out
     exact agi
    ·(try dsimp only)
     rw[e1.out,e2.out,←hue2.out];exact agr
  ·obtain rfl:m=ks.length-p:=by omega
   have hm2:(p:Int)+1+((ks.length-p:Nat):Int)=(ks.length:Int)+1:=by omega
   have hue2:=atI (ks:=ks) (h:=h) (E:=E) (p:=p) (by omega);(try dsimp only);rw[hm2];clear hm2;generalize upP ks h E p (ks.length-p)=s at*;replace hue2:=Lib.hid hue2;(refine wlk ?_;intros);refine⟨k+1,by omega,by dsimp only;omega,?_,?_,rfl⟩
   ·have hp:=hp.out
    exact agi
   ·(try dsimp only)
    rw[e1.out,e2.out,←hue2.out];exact agr
 ·obtain rfl:k=ks.length:=by omega
  (try dsimp only);rw[show(ks.length:Int)-1-(ks.length:Int)=-1 by omega,show(fun x=>(tbP ks h ks.length x).1)=dW ks h from rfl,show(fun x=>((tbP ks h ks.length x).2:Int))=fun x=>(jJ ks h x:Int)from rfl];have hb0:-1≤dW ks h 0∧dW ks h 0≤27000:=by have:=hbd 0;exact⟨this.1,by unfold dW;omega⟩
  clear hbd;cases hB:xY ks h with
  |false=>
   have hl0:dW ks h 0<0:=by unfold xY at hB;simpa using hB
   have hE0:jv ks h=[]:=by unfold jv;rw[if_neg (by rw[hB];decide)]
   rw[hE0,List.map_nil,List.map_nil];clear hB hE0;generalize dW ks h=L at*;generalize(fun x=>(jJ ks h x:Int))=Nx at*;(refine wlk ?_;intros);all_goals((with_reducible apply cO (by first|exact .inl rfl|exact .inr rfl));(simp(disch:=(first|omega|(simp only[push_cast];first|done|omega))) only[push_cast,↓reduceIte,Nat.reduceEqDiff,Nat.reduceBEq,Nat.reduceAdd,Nat.reduceSub,Int.reduceToNat, *]<;>with_reducible exact rfl))
   all_goals exact PV.le_refl _
  |true=>
   have hl0:=wW.1 hB;have hE0:jv ks h=l8 ks h ks.length 0:=if_pos hB;have hch:=sj (uP hB);have hnm:=fun p h1 h2=>wY (ks:=ks) (h:=h) (p:=p) h1 h2;have hpe:=fun f=>acy (ks:=ks) (h:=h) (f:=f);have hpS:∀f p,p<ks.length→l8 ks h (f+1) p=jJ ks h p::l8 ks h f (jJ ks h p):=fun f p hp=>if_pos hp;have hNb:∀p,jJ ks h p≤ks.length:=fun p=>by
    by_cases hp:p<ks.length
    ·exact(sK (ks:=ks) (h:=h) (E:=dW ks h) (p:=p) (by omega))|>fun hb=>by
      have e:=abt (h:=h) hp;by_cases c:(bq ks h (dW ks h) p).1<0
      ·unfold jJ
       rw[e,(hb.no c).1];exact Nat.zero_le _
      ·unfold jJ
       rw[e];exact(hb.yes (by omega)).1.2
    ·have:=(lF (ks:=ks) h3 ks.length (Nat.le_refl _) p).2.2
     exact this
   rw[hE0]at hch;rw[hE0];clear hB hE0;generalize hLL:dW ks h=L at*;generalize hNN:jJ ks h=Nx at*;generalize hZ:(l8 ks h ks.length 0).map (fun n:Nat=>(n:Int))=Z at*;have hZl:Z.length≤ks.length:=by rw[←hZ,List.length_map];exact hch
   (refine wlk ?_;intros);refine aG (α:=List Int×Nat×Nat×Nat) mixed (fun i=>[(6,.row i.2.2.1 1 0 i.1.length),(7,iv ks.length),(9,.row 2 1 0 (ks.length+1)),(14,iv i.2.1)])
    (fun i=>[(2,3,1,vL ks.length (fun x=>(Nx x:Int))),(i.2.2.1,3,1,i.1.map fun n=> .val (.int .i64 n))]) (fun i=>i.2.2.2)
    (fun i=>(i.2.1≤ks.length∧0≤L i.2.1)∧(¬2=i.2.2.1∧i.2.2.1<i.2.2.2∧2<i.2.2.2)∧∃f,ks.length-i.2.1≤f∧i.1++(l8 ks h f i.2.1).map (fun n:Nat=>(n:Int))=Z) (fun i=>ks.length-i.2.1) (by kernel_rfl) ([],0,0,3) ⟨⟨Nat.zero_le _,hl0⟩,⟨by decide,by decide,by decide⟩,ks.length,by dsimp only;omega,by rw[List.nil_append];exact hZ⟩ ?_ ?_ rfl ?_
   ·(try dsimp only)
    exact agi;try rfl
   ·(try dsimp only)
    exact agr;try rfl
   rintro⟨OUT,p,o,y⟩ ⟨⟨hp,hLp⟩,⟨hoo,hoy,hy⟩,f,hf,hout⟩;dsimp only at hp hLp hoo hoy hy hf hout⊢;have hoo2:¬o=2:=fun e=>hoo e.symm;by_cases hpl:p<ks.length
   ·obtain⟨f,rfl⟩:∃g,f=g+1:=⟨f-1,by omega⟩
    obtain⟨hm1,hm2⟩:=hnm p hpl hLp;have hn1:=hm1.1;have hn2:=hm1.2.1;rw[hpS f p hpl,List.map_cons]at hout;have hout2:(OUT++[(Nx p:Int)])++(l8 ks h f (Nx p)).map (fun n:Nat=>(n:Int))=Z:=by rw[List.append_assoc];exact hout
    have hol:OUT.length+1≤ks.length:=by have:=congrArg List.length hout2;simp only[List.length_append,List.length_singleton]at this;omega
    clear hout hnm hpe hpS hm1 hLL hNN hZ hch;replace hout2:=Lib.hid hout2;replace hm2:=Lib.hid hm2;(refine wlk ?_;intros);refine⟨(OUT++[(Nx p:Int)],Nx p,y+1,y+2),⟨⟨by dsimp only;omega,hm2.out⟩,⟨by dsimp only;omega,by dsimp only;omega,by dsimp only;omega⟩,f,by dsimp only;omega,hout2.out⟩,by dsimp only;omega,?_,?_,rfl⟩
    ·(try dsimp only)
     exact agi
    ·(try dsimp only)
     exact agr
   ·obtain rfl:p=ks.length:=by omega
    rw[hpe f,List.map_nil,List.append_nil]at hout;subst hout;clear hnm hpe hpS hLL hNN hZ hch hNb;(refine wlk ?_;intros);all_goals((with_reducible apply cO (by first|exact .inl rfl|exact .inr rfl));(simp(disch:=(first|omega|(simp only[push_cast];first|done|omega))) only[push_cast,↓reduceIte,Nat.reduceEqDiff,Nat.reduceBEq,Nat.reduceAdd,Nat.reduceSub,Int.reduceToNat, *]<;>with_reducible exact rfl))
    all_goals exact PV.le_refl _
def arS:Ctx:={fn:=aY [(22,φOb),(23,φBl),(25,wI),(24,uq)],io:=aY []}
theorem eO:ak Tryz.prog arS:=okΓ (fC Tryz.func22 aeG (fC Tryz.func23 aij (fC Tryz.func25 afd (fC Tryz.func24 aem aj)))) aj
def wo:=ah (Γ:=arS) (f:=22) (φ:=φOb) rfl
def wZ:=ah (Γ:=arS) (f:=23) (φ:=φBl) rfl
def xD:=ah (Γ:=arS) (f:=25) (φ:=wI) rfl
def wV:=ah (Γ:=arS) (f:=24) (φ:=uq) rfl
theorem ag1:Sound Tryz.prog 7 φBp:=by
 refine HZ.sound (N:=63) (rs:=[.tmp 2,.tmp 3]) Tryz.func7 rfl rfl rfl fun ps r hr=>?_;obtain⟨⟨p,q,x,y,z⟩,rfl,hq⟩:=bR hr;clear hr;split at hq
 case isFalse=>cases hq
 case isTrue hpre=>
 cases hq;refine⟨by simp,fun B w00=>HZ.start ?_⟩;simp only[dIs,dUs,dSs,dx,dA,dz,dF,aS,dD,aT,aU,aR,aV];(try dsimp only at hpre⊢);show HZ _ _ _ _ _ _ ⟨(bZ [bkP p q x y z]).tm,fun _=>none,0⟩ _;have ap0:=ang (x:=x) (y:=y) (z:=z) hpre;have ap1:=aoa (x:=x) (y:=y) (z:=z) hpre;cases hB:blB p q x y z with
 |false=>
  have hb:bpB p q x y z=false:=by unfold bpB;rw[hB];rfl
  rw[akd hb,hb,List.map_nil];rw[hB]at ap1;clear hpre hB hb;generalize blL p q x y z=BL at*;generalize blC p q x y z=BC at*;have gbgs_c22:=wo;have gbgs_c23:=wZ;have gbgs_c25:=xD;have gbgs_c24:=wV;refine HZ.eng mixed eO (by kernel_rfl) ?_;(try dsimp only);(refine wlk ?_;intros);(try dsimp only);refine⟨by simp,⟨_,fun g w v h=>h,by(simp(disch:=(first|omega|(simp only[push_cast];first|done|omega))) only[push_cast,↓reduceIte,Nat.reduceEqDiff,Nat.reduceBEq,Nat.reduceAdd,Nat.reduceSub,Int.reduceToNat, *]<;>with_reducible exact rfl)⟩,fun i e=>False.elim e⟩
 |true=>
  rw[hB]at ap1;have hl60:=ah3 (p:=p) (q:=q) (x:=x) (y:=y) (z:=z) (by unfold blB iW at hB;simp only[Bool.and_eq_true,decide_eq_true_eq]at hB;exact hB.1.2.1)
  by_cases h30:(blL p q x y z).length≤30
  ·obtain⟨k1,k2,k3,k4,k5⟩:=adk hB h30
   have hzz:((z.toNat:Nat):Int)=z:=by omega
   have ap2:=qj k1;have ap3:=qH (ks:=jk p q x y) (h:=z.toNat) (by omega) (by omega) (by omega);rw[hzz]at ap3;rw[k2]at ap1;have hV:bpV p q x y z=if bpB p q x y z=true then kG (blL p q x y z) 0 (jv (jk p q x y) z.toNat)else []:=rfl;have hb:bpB p q x y z=xY (jk p q x y) z.toNat:=by unfold bpB;rw[hB,decide_eq_true h30];rfl
   rw[hb]at hV;rw[hV,hb];have hch:=fun h=>uP (ks:=jk p q x y) (h:=z.toNat) h;rw[show dQ (oD p q x y)=jk p q x y from rfl]at ap2;clear hpre hB hV hb k1 k2 hzz;generalize blL p q x y z=BL at*;generalize zN (oD p q x y)=CN at*;generalize jk p q x y=KS at*;cases hG:xY KS z.toNat with
   |false=>rw[hG]at ap3;rw[if_neg (by decide),List.map_nil];clear hch hG;have gbgs_c22:=wo;have gbgs_c23:=wZ;have gbgs_c25:=xD;have gbgs_c24:=wV;refine HZ.eng mixed eO (by kernel_rfl) ?_;(try dsimp only);(refine wlk ?_;intros);(try dsimp only);refine⟨by simp,⟨_,fun g w v h=>h,by(simp(disch:=(first|omega|(simp only[push_cast];first|done|omega))) only[push_cast,↓reduceIte,Nat.reduceEqDiff,Nat.reduceBEq,Nat.reduceAdd,Nat.reduceSub,Int.reduceToNat, *]<;>with_reducible exact rfl)⟩,fun i e=>False.elim e⟩
   |true=>
    rw[hG]at ap3;have hc:=hch hG;rw[if_pos rfl];have hct:=fun k h=>adq (l:=BL) (e:=jv KS z.toNat) (k:=k) h;have hfl:=fun k h=>ab2 hc (k:=k) h;have hfs:=fun k h=>sU (e:=jv KS z.toNat) (k:=k) h;have hel:=sj hc;have hfull:(jv KS z.toNat).take (jv KS z.toNat).length=jv KS z.toNat:=List.take_length;have hze:=fun k h=>abI (c:=jv KS z.toNat) (k:=k) h;have hzl:(zN (jv KS z.toNat)).length=(jv KS z.toNat).length:=by simp
    rw[show(jv KS z.toNat).map (fun n:Nat=>(n:Int))=zN (jv KS z.toNat)from rfl]at ap3;clear hch hG hc;generalize jv KS z.toNat=E at*;generalize zN E=ZE at*;have gbgs_c22:=wo;have gbgs_c23:=wZ;have gbgs_c25:=xD;have gbgs_c24:=wV;refine HZ.seq (HZ.eng mixed eO (by kernel_rfl) ?_);(try dsimp only);(refine wlk ?_;intros);(try dsimp only[X.out]);(try simp only[↓reduceIte]);refine HZ.seq (HZ.eng mixed eO (by kernel_rfl) ?_);(try dsimp only);(refine wlk ?_;intros);(try dsimp only[X.out]);(try simp only[↓reduceIte]);refine HZ.seq (HZ.eng mixed eO (by kernel_rfl) ?_);(try dsimp only);(refine wlk ?_;intros);(try dsimp only[X.out]);(try simp only[↓reduceIte]);refine HZ.seq (HZ.eng mixed eO (by kernel_rfl) ?_);(try dsimp only);(refine wlk ?_;intros);(try dsimp only[X.out]);(try simp only[↓reduceIte]);refine HZ.seq (HZ.eng mixed eO (by kernel_rfl) ?_);(try dsimp only);(refine wlk ?_;intros);(try dsimp only[X.out]);(try simp only[↓reduceIte]);refine HZ.seq (HZ.eng mixed eO (by kernel_rfl) ?_);(try dsimp only);(refine wlk ?_;intros);(try dsimp only[X.out]);(try simp only[↓reduceIte]);refine HZ.seq (HZ.eng mixed eO (by kernel_rfl) ?_);(try dsimp only);(refine wlk ?_;intros);(try dsimp only[X.out]);(try simp only[↓reduceIte]);refine HZ.seq (HZ.eng mixed eO (by kernel_rfl) ?_);(try dsimp only);(refine wlk ?_;intros);(try dsimp only[X.out]);(try simp only[↓reduceIte]);refine HZ.seq (HZ.seq (HZ.eng mixed eO (by kernel_rfl) ?_));(try dsimp only);(refine wlk ?_;intros);(try dsimp only[X.out]);(try simp only[↓reduceIte]);refine HZ.block (HZ.aaB (α:=Nat×Nat×Nat) (fun i=>[(4,.row i.2.1 1 0 i.1),(5,.lst true 1 (BL.map fun s=> .val (.string s))),(8,.lst true 1 (ZE.map fun n=> .val (.int .i64 n))),(10,iv (mW E i.1)),(11,iv i.1)]) (fun i=>[(i.2.1,24,1,(kG BL 0 (E.take i.1)).map gy)]) (fun i=>i.2.2)
     (fun i σ=>(i.1≤E.length∧i.2.1<i.2.2)∧σ=Fgn.no) (fun i=>E.length-i.1) (0,1,2) ⟨⟨Nat.zero_le _,by decide⟩,rfl⟩ ?_ ?_ rfl ?_)
    ·have z1:mW E 0=0:=rfl
     (try dsimp only);rw[z1];exact agr
    ·have z0:(kG BL 0 (E.take 0)).map gy=[]:=rfl
     (try dsimp only);rw[z0];exact agr
    rintro⟨k,o,y⟩ σ ⟨⟨hk,hoy⟩,rfl⟩;dsimp only at hk hoy;clear ap0 ap1 ap2 ap3;by_cases hkl:k<E.length
    ·have h1:=hct k hkl
     have h2:=hfl k hkl;have h3:=hfs k hkl;have h4:=hze k hkl;have hcl:((kG BL 0 (E.take k)).map gy).length=k:=by rw[List.length_map,mP,List.length_take];omega
     clear hct hfl hfs hze hfull;have hkz:k<ZE.length:=by omega
     have h5:E[k]?.getD 0≤BL.length:=by omega
     have h1:(kG BL 0 (E.take (k+1))).map gy=(kG BL 0 (E.take k)).map gy++[gy ((BL.drop (mW E k)).take (E[k]?.getD 0-mW E k))]:=by rw[h1,List.map_append];rfl
     replace h1:=Lib.hid h1;replace h3:=Lib.hid h3;generalize E[k]?.getD 0=e at*;generalize mW E k=f at*;generalize(kG BL 0 (E.take k)).map gy=R at*;refine HZ.seq (HZ.eng mixed eO (by kernel_rfl) ?_);(try dsimp only);(refine wlk ?_;intros);(try dsimp only[X.out]);(try simp only[↓reduceIte]);refine HZ.seq (HZ.block (HZ.seq (HZ.eng mixed eO (by kernel_rfl) ?_)));(try dsimp only);(refine wlk ?_;intros);(try dsimp only[X.out]);(try simp only[↓reduceIte]);refine HZ.o8 (o:=y+1) (x:=y+1+1+1) (T:=9) (sz:=1) (T2:=24) (sz2:=1) (n:=e-f) (es:=((BL.drop f).take (e-f)).map fun s=> .val (.string s)) (l:=R) (by(simp(disch:=(first|omega|(simp only[push_cast];first|done|omega))) only[push_cast,↓reduceIte,Nat.reduceEqDiff,Nat.reduceBEq,Nat.reduceAdd,Nat.reduceSub,Int.reduceToNat, *]<;>with_reducible exact rfl)) (by(simp(disch:=(first|omega|(simp only[push_cast];first|done|omega))) only[push_cast,↓reduceIte,Nat.reduceEqDiff,Nat.reduceBEq,Nat.reduceAdd,Nat.reduceSub,Int.reduceToNat, *]<;>with_reducible exact rfl)) (by rw[List.length_map,List.length_take,List.length_drop];omega) (by omega) ?_;refine HZ.eng mixed eO (by kernel_rfl) ?_;(try dsimp only);(refine wlk ?_;intros);(try dsimp only[X.out]);(try simp only[↓reduceIte]);refine HZ.eng mixed eO (by kernel_rfl) ?_;(try dsimp only);(refine wlk ?_;intros);(try dsimp only[X.out]);(try simp only[↓reduceIte]);refine⟨(k+1,y+1+1+1,y+1+1+1+1),⟨⟨by dsimp only;omega,by dsimp only;omega⟩,by trivial⟩,by dsimp only;omega,?_,?_,rfl⟩
     ·(try dsimp only)
      rw[h3.out];exact agi
     ·(try dsimp only)
      rw[h1.out];exact agr
    ·obtain rfl:k=E.length:=by omega
     rw[hfull];clear hct hfl hfs hze hfull;have hcl:(kG BL 0 E).length=E.length:=mP;generalize kG BL 0 E=L at*;refine HZ.seq (HZ.eng mixed eO (by kernel_rfl) ?_);(try dsimp only);(refine wlk ?_;intros);(try dsimp only[X.out]);(try simp only[↓reduceIte]);refine HZ.eng mixed eO (by kernel_rfl) ?_;(try dsimp only);(refine wlk ?_;intros);(try dsimp only[X.out]);(try simp only[↓reduceIte]);refine⟨by simp,⟨_,fun g w v h=>h,by(simp(disch:=(first|omega|(simp only[push_cast];first|done|omega))) only[push_cast,↓reduceIte,Nat.reduceEqDiff,Nat.reduceBEq,Nat.reduceAdd,Nat.reduceSub,Int.reduceToNat, *]<;>with_reducible exact rfl)⟩,fun i e=>False.elim e⟩
  ·have hb:bpB p q x y z=false:=by unfold bpB;rw[decide_eq_false h30,Bool.false_and,Bool.and_false]
   rw[akd hb,hb,List.map_nil];clear hpre hB hb;generalize blL p q x y z=BL at*;generalize blC p q x y z=BC at*;have gbgs_c22:=wo;have gbgs_c23:=wZ;have gbgs_c25:=xD;have gbgs_c24:=wV;refine HZ.eng mixed eO (by kernel_rfl) ?_;(try dsimp only);(refine wlk ?_;intros);(try dsimp only);refine⟨by simp,⟨_,fun g w v h=>h,by(simp(disch:=(first|omega|(simp only[push_cast];first|done|omega))) only[push_cast,↓reduceIte,Nat.reduceEqDiff,Nat.reduceBEq,Nat.reduceAdd,Nat.reduceSub,Int.reduceToNat, *]<;>with_reducible exact rfl)⟩,fun i e=>False.elim e⟩
structure BpF (BL:LS) (z:Int) (V:List LS) (E C:List Nat):Prop where
 len:V.length=E.length
 e30:E.length≤30
 row:∀k,k<E.length→1≤(V[k]?.getD []).length∧((V[k]?.getD []).length:Int)≤z
 sum:∀k,k<E.length→((V.take (k+1)).flatten).length=E[k]?.getD 0
 flat:V.flatten=BL
 b30:BL.length≤30
 ee:∀k,k<E.length→E[k]?.getD 0≤30
 cs:∀j,(C.take j).sum≤30
 brk:∀k j,k+1<E.length→j<C.length→1<C[j]?.getD 0→¬E[k]?.getD 0=(C.take j).sum+1∧¬E[k]?.getD 0+1=(C.take j).sum+C[j]?.getD 0
theorem ajI {p:List LS} {q:LS} {x y z:Int} (hb:bpB p q x y z=true):blB p q x y z=true∧blC p q x y z=zN (oD p q x y)∧BpF (blL p q x y z) z (bpV p q x y z) (jv (jk p q x y) z.toNat) (oD p q x y):=by
 have hV:bpV p q x y z=kG (blL p q x y z) 0 (jv (jk p q x y) z.toNat):=if_pos hb;unfold bpB at hb;rw[Bool.and_eq_true,Bool.and_eq_true]at hb;obtain⟨hB,h30,hG⟩:=hb;have h30:=of_decide_eq_true h30;obtain⟨k1,k2,k3,k4,k5⟩:=adk hB h30;have hc:=uP hG;have hl:=sj hc;rw[hV];refine⟨hB,k2,mP,by omega,fun k hk=>?_,fun k hk=>?_,?_,h30,fun k hk=>?_,fun j=>?_,fun k j hk hj h1=>?_⟩
 ·have hk2:k<(kG (blL p q x y z) 0 (jv (jk p q x y) z.toNat)).length:=by rw[mP];exact hk
  have hm:=af2 k3.symm hc _ (List.getElem_mem hk2);rw[List.getElem?_eq_getElem hk2,Option.getD_some];exact⟨hm.1,by have:=hm.2;omega⟩
 ·have:=aiz k3.symm hc k hk
  omega
 ·exact(ac0 k3.symm hc).trans (List.drop_zero ..)
 ·have:=(ab2 hc hk).2
  omega
 ·have:=tF (oD p q x y) j
  have:=k1.2;omega
 ·obtain⟨p',hm⟩:=alL hc k (by omega)
  exact ajl hm (ahk hc k hk) hj h1
theorem aft {V:List LS} {k:Nat} (h:k<V.length):(V.take (k+1)).flatten=(V.take k).flatten++V[k]?.getD []:=by rw[List.take_succ_eq_append_getElem h,List.flatten_append,List.getElem?_eq_getElem h,Option.getD_some];simp
theorem apz {E:List Nat} {k:Nat} (h:k<E.length):(zN E).take (k+1)=(zN E).take k++[((E[k]?.getD 0:Nat):Int)]:=by rw[List.take_succ_eq_append_getElem (by simpa using h),←abI h,List.getElem?_eq_getElem (by simpa using h),Option.getD_some]
def avQ:Ctx:={fn:=aY [],io:=aY [(19,uZ),(18,acw)]}
theorem apA:ak Tryz.prog avQ:=okΓ aj (fD Tryz.func19 anW (fD Tryz.func18 amS aj))
theorem apZ:avQ.io 19=some uZ:=rfl
theorem aoZ:avQ.io 18=some acw:=rfl
theorem rD:∃φ:Fun,Sound Tryz.prog 5 φ∧avc φ EBk akx:=by
 refine apX mixed apA Tryz.func5 rfl 6 rfl [.cell 2 26] rfl (by kernel_rfl) (by simp) _ _ fun code hbyte hlen=>?_;have hok:=agM hbyte;have apo:=@aho;have gdbp_c19:=apZ;have gdbp_c18:=aoZ
 repeat' (first|(first|(with_reducible first|apply fM|apply bD|apply cK|apply cZ|apply fJ|apply l6|apply fq|apply fI|apply l7|apply fH|apply fE|apply lY|apply fB|apply fu|apply fK)|((with_reducible apply bg);(simp only[List.map_cons,List.map_nil]<;>exact rfl))|((with_reducible apply dh);(simp only[List.map_cons,List.map_nil]<;>exact rfl);decide+kernel)|((with_reducible apply fA);rfl)|((first|((with_reducible apply i_V);rfl;rfl;rfl)|((first|((with_reducible apply i_E);rfl)|((with_reducible apply i_S);rfl));first|rfl|(simp only[push_cast,↓reduceIte]))|((with_reducible apply lW);rfl;rfl)|((with_reducible apply lX);rfl;rfl;rfl)|(with_reducible first|apply lZ|apply dn));(simp(disch:=(first|omega|(simp only[push_cast];first|done|omega))) only[push_cast,↓reduceIte,Nat.reduceEqDiff,Nat.reduceBEq,Nat.reduceAdd,Nat.reduceSub,Int.reduceToNat, *]<;>with_reducible exact rfl);all_goals try(first|(with_reducible first|refine hyT ?_|refine hyF ?_|exact hyA|exact hyB)|(intro hX;first|(cases hX;done)|((try simp only[decide_eq_true_eq,decide_eq_false_iff_not,Bool.not_eq_true',Bool.not_eq_false']at hX);(try have hXb:=av.1 hX))))))|((with_reducible apply bQ vV (fun _ _=>by simp only[push_cast,↓reduceIte,Nat.reduceEqDiff,Nat.reduceBEq,Nat.reduceAdd,Nat.reduceSub,Int.reduceToNat]));(focus rfl);(focus(simp(disch:=(first|omega|(simp only[push_cast];first|done|omega))) only[push_cast,↓reduceIte,Nat.reduceEqDiff,Nat.reduceBEq,Nat.reduceAdd,Nat.reduceSub,Int.reduceToNat, *]<;>with_reducible exact rfl));(focus(simp(disch:=(first|omega|(simp only[push_cast];first|done|omega))) only[push_cast,↓reduceIte,Nat.reduceEqDiff,Nat.reduceBEq,Nat.reduceAdd,Nat.reduceSub,Int.reduceToNat, *]<;>with_reducible exact rfl));(focus(simp(disch:=(first|omega|(simp only[push_cast];first|done|omega))) only[push_cast,↓reduceIte,Nat.reduceEqDiff,Nat.reduceBEq,Nat.reduceAdd,Nat.reduceSub,Int.reduceToNat, *]<;>with_reducible exact rfl));(focus assumption);(focus omega);(focus(first|trivial|omega));(focus(first|rfl|(simp only[push_cast,↓reduceIte])));intro v pp hv hok hpp1 hpp2))
 obtain⟨L,ps,wd,mo,li⟩:=v;by_cases h0:L.length=0
 ·obtain rfl:L=[]:=List.eq_nil_of_length_eq_zero h0
  clear h0
  repeat' (first|(first|(with_reducible first|apply fM|apply bD|apply cK|apply cZ|apply fJ|apply l6|apply fq|apply fI|apply l7|apply fH|apply fE|apply lY|apply fB|apply fu|apply fK)|((with_reducible apply bg);(simp only[List.map_cons,List.map_nil]<;>exact rfl))|((with_reducible apply dh);(simp only[List.map_cons,List.map_nil]<;>exact rfl);decide+kernel)|((with_reducible apply fA);rfl)|((first|((with_reducible apply i_V);rfl;rfl;rfl)|((first|((with_reducible apply i_E);rfl)|((with_reducible apply i_S);rfl));first|rfl|(simp only[push_cast,↓reduceIte]))|((with_reducible apply lW);rfl;rfl)|((with_reducible apply lX);rfl;rfl;rfl)|(with_reducible first|apply lZ|apply dn));(simp(disch:=(first|omega|(simp only[push_cast];first|done|omega))) only[push_cast,↓reduceIte,Nat.reduceEqDiff,Nat.reduceBEq,Nat.reduceAdd,Nat.reduceSub,Int.reduceToNat, *]<;>with_reducible exact rfl);all_goals try(first|(with_reducible first|refine hyT ?_|refine hyF ?_|exact hyA|exact hyB)|(intro hX;first|(cases hX;done)|((try simp only[decide_eq_true_eq,decide_eq_false_iff_not,Bool.not_eq_true',Bool.not_eq_false']at hX);(try have hXb:=av.1 hX))))))|((with_reducible apply bQ vV (fun _ _=>by simp only[push_cast,↓reduceIte,Nat.reduceEqDiff,Nat.reduceBEq,Nat.reduceAdd,Nat.reduceSub,Int.reduceToNat]));(focus rfl);(focus(simp(disch:=(first|omega|(simp only[push_cast];first|done|omega))) only[push_cast,↓reduceIte,Nat.reduceEqDiff,Nat.reduceBEq,Nat.reduceAdd,Nat.reduceSub,Int.reduceToNat, *]<;>with_reducible exact rfl));(focus(simp(disch:=(first|omega|(simp only[push_cast];first|done|omega))) only[push_cast,↓reduceIte,Nat.reduceEqDiff,Nat.reduceBEq,Nat.reduceAdd,Nat.reduceSub,Int.reduceToNat, *]<;>with_reducible exact rfl));(focus(simp(disch:=(first|omega|(simp only[push_cast];first|done|omega))) only[push_cast,↓reduceIte,Nat.reduceEqDiff,Nat.reduceBEq,Nat.reduceAdd,Nat.reduceSub,Int.reduceToNat, *]<;>with_reducible exact rfl));(focus assumption);(focus omega);(focus(first|trivial|omega));(focus(first|rfl|(simp only[push_cast,↓reduceIte])));intro v pp hv hok hpp1 hpp2))
  (with_reducible apply alO (a:=(([]:List LS),_,_,_,_)) (by first|exact .inl rfl|exact .inr rfl));(focus(simp(disch:=(first|omega|(simp only[push_cast];first|done|omega))) only[push_cast,↓reduceIte,Nat.reduceEqDiff,Nat.reduceBEq,Nat.reduceAdd,Nat.reduceSub,Int.reduceToNat,aO,aL,bH,aQ,aP, *]<;>with_reducible exact rfl));exact hv
 ·repeat' (first|(first|(with_reducible first|apply fM|apply bD|apply cK|apply cZ|apply fJ|apply l6|apply fq|apply fI|apply l7|apply fH|apply fE|apply lY|apply fB|apply fu|apply fK)|((with_reducible apply bg);(simp only[List.map_cons,List.map_nil]<;>exact rfl))|((with_reducible apply dh);(simp only[List.map_cons,List.map_nil]<;>exact rfl);decide+kernel)|((with_reducible apply fA);rfl)|((first|((with_reducible apply i_V);rfl;rfl;rfl)|((first|((with_reducible apply i_E);rfl)|((with_reducible apply i_S);rfl));first|rfl|(simp only[push_cast,↓reduceIte]))|((with_reducible apply lW);rfl;rfl)|((with_reducible apply lX);rfl;rfl;rfl)|(with_reducible first|apply lZ|apply dn));(simp(disch:=(first|omega|(simp only[push_cast];first|done|omega))) only[push_cast,↓reduceIte,Nat.reduceEqDiff,Nat.reduceBEq,Nat.reduceAdd,Nat.reduceSub,Int.reduceToNat, *]<;>with_reducible exact rfl);all_goals try(first|(with_reducible first|refine hyT ?_|refine hyF ?_|exact hyA|exact hyB)|(intro hX;first|(cases hX;done)|((try simp only[decide_eq_true_eq,decide_eq_false_iff_not,Bool.not_eq_true',Bool.not_eq_false']at hX);(try have hXb:=av.1 hX))))))|((with_reducible apply bQ vV (fun _ _=>by simp only[push_cast,↓reduceIte,Nat.reduceEqDiff,Nat.reduceBEq,Nat.reduceAdd,Nat.reduceSub,Int.reduceToNat]));(focus rfl);(focus(simp(disch:=(first|omega|(simp only[push_cast];first|done|omega))) only[push_cast,↓reduceIte,Nat.reduceEqDiff,Nat.reduceBEq,Nat.reduceAdd,Nat.reduceSub,Int.reduceToNat, *]<;>with_reducible exact rfl));(focus(simp(disch:=(first|omega|(simp only[push_cast];first|done|omega))) only[push_cast,↓reduceIte,Nat.reduceEqDiff,Nat.reduceBEq,Nat.reduceAdd,Nat.reduceSub,Int.reduceToNat, *]<;>with_reducible exact rfl));(focus(simp(disch:=(first|omega|(simp only[push_cast];first|done|omega))) only[push_cast,↓reduceIte,Nat.reduceEqDiff,Nat.reduceBEq,Nat.reduceAdd,Nat.reduceSub,Int.reduceToNat, *]<;>with_reducible exact rfl));(focus assumption);(focus omega);(focus(first|trivial|omega));(focus(first|rfl|(simp only[push_cast,↓reduceIte])));intro v pp hv hok hpp1 hpp2))
  (with_reducible apply alO (a:=(L,_,_,_,_)) (by first|exact .inl rfl|exact .inr rfl));(focus(simp(disch:=(first|omega|(simp only[push_cast];first|done|omega))) only[push_cast,↓reduceIte,Nat.reduceEqDiff,Nat.reduceBEq,Nat.reduceAdd,Nat.reduceSub,Int.reduceToNat,aO,aL,bH,aQ,aP, *]<;>with_reducible exact rfl));exact hv
def qD:Fun:=Classical.choose rD
theorem afv:Sound Tryz.prog 5 qD:=(Classical.choose_spec rD).1
theorem ad8:avc qD EBk akx:=(Classical.choose_spec rD).2
def aa3:Fun:=apJ 1 φBp
def ac3:Fun:=F1 dUs fun code=>if okL atS code then some (bv true)else none
def amz:Ctx:={fn:=aY [(5,qD),(6,aa3),(7,aa3),(10,acN),(8,acj),(9,acQ)],io:=aY []}
theorem aog:ak Tryz.prog amz:=okΓ (fC Tryz.func5 afv (fC Tryz.func6 (agS.apJ 1) (fC Tryz.func7 (ag1.apJ 1) (fC Tryz.func10 (yE.apJ 1) (fC Tryz.func8 (atJ.nil 1) (fC Tryz.func9 ajF aj)))))) aj
def yR:=ah (Γ:=amz) (f:=5) (φ:=qD) rfl
def za:=ah (Γ:=amz) (f:=6) (φ:=aa3) rfl
def yG:=ah (Γ:=amz) (f:=7) (φ:=aa3) rfl
def ru:=ah (Γ:=amz) (f:=10) (φ:=acN) rfl
def zD:=ah (Γ:=amz) (f:=8) (φ:=acj) rfl
def zU:=ah (Γ:=amz) (f:=9) (φ:=acQ) rfl
theorem lawBgs_ok:Sound Tryz.prog 3 ac3:=by
 refine au mixed aog Tryz.func3 rfl 156 rfl [.tmp 2] rfl (by kernel_rfl) fun ps r hr=>?_;obtain⟨code,rfl,hpre,rfl⟩:=kQ hr;refine⟨by simp,?_⟩;simp only[dIs,dUs,dSs,dx,dA,dz,dF,aS,dD,aT,aU,aR,aV];have hbyte:=aiR hpre;by_cases hlen:code.length≤1048576
 ·obtain⟨⟨L,ps,wd,mo,li⟩,e,⟨hL,hL2⟩,hps,hwd,hmo,hli⟩:=ad8 code hbyte hlen
  have apt:=ag3;dsimp only at hL hL2 hps hwd hmo hli e;have hok:=anh (L:=L) (ps:=ps) (by omega) hL2 hps;have ap1:aa3 [.agg [.lst false 1 (lsF L),.lst false 1 (ps.map fun s=> .val (.string s)),.val (.int .i64 wd),.val (.int .i64 mo),.val (.int .i64 li)]]=_:=amI hok;cases hb:bpB L ps wd mo li with
  |false=>
   rw[hb,akd hb,List.map_nil]at ap1;clear hpre hbyte hL2 hps hok hb;by_cases hL0:L.length=0
   ·obtain rfl:L=[]:=List.eq_nil_of_length_eq_zero hL0
    have ap1':aa3 [.agg [.val (.slice none 0 0),.lst false 1 (ps.map fun s=> .val (.string s)),.val (.int .i64 wd),.val (.int .i64 mo),.val (.int .i64 li)]]=_:=ap1;clear ap1;have glbg_c5:=yR;have glbg_c6:=za;have glbg_c7:=yG;have glbg_c10:=ru;have glbg_c8:=zD;have glbg_c9:=zU;(refine wlk ?_;intros);refine aG (α:=Unit) mixed (fun _=>[(4,.lst true 1 []),(5,.val (.bool false)),(10,iv 0)]) (fun _=>[]) (fun _=>3) (fun _=>True) (fun _=>0) (by kernel_rfl) () trivial ?_ trivial rfl ?_
    ·exact agr
    rintro _ _;exact wlkS
   ·have glbg_c5:=yR;have glbg_c6:=za;have glbg_c7:=yG;have glbg_c10:=ru;have glbg_c8:=zD;have glbg_c9:=zU
    (refine wlk ?_;intros);refine aG (α:=Unit) mixed (fun _=>[(4,.lst true 1 []),(5,.val (.bool false)),(10,iv 0)]) (fun _=>[]) (fun _=>3) (fun _=>True) (fun _=>0) (by kernel_rfl) () trivial ?_ trivial rfl ?_
    ·exact agr
    rintro _ _;exact wlkS
  |true=>
   obtain⟨hB,hC,hF⟩:=ajI hb;rw[hb]at ap1;by_cases hL0:L.length=0
   ·obtain rfl:L=[]:=List.eq_nil_of_length_eq_zero hL0
    have h0:(blL [] ps wd mo li).length=0:=by unfold blL;rw[if_pos hB];rfl
    rw[agL h0,List.map_nil]at ap1;have ap2:acN [.agg [.val (.slice none 0 0),.lst false 1 (ps.map fun s=> .val (.string s)),.val (.int .i64 wd),.val (.int .i64 mo),.val (.int .i64 li)]]=_:=adC hok h0;rw[hB]at ap2;have ap1':aa3 [.agg [.val (.slice none 0 0),.lst false 1 (ps.map fun s=> .val (.string s)),.val (.int .i64 wd),.val (.int .i64 mo),.val (.int .i64 li)]]=_:=ap1;have ap3:=aa2;clear hpre hbyte hL2 hps hok hb hB hC hF h0 ap1;have glbg_c5:=yR;have glbg_c6:=za;have glbg_c7:=yG;have glbg_c10:=ru;have glbg_c8:=zD;have glbg_c9:=zU;(refine wlk ?_;intros);refine aG (α:=Unit) mixed (fun _=>[(3,.own 0 5 0 0),(4,.lst true 1 []),(5,.val (.bool true)),(8,.row 1 1 0 0),(9,.row 2 1 0 0),(10,iv 0)]) (fun _=>[(0,26,5,[.agg [.val (.slice none 0 0),.lst true 1 (ps.map fun s=> .val (.string s)),.val (.int .i64 wd),.val (.int .i64 mo),.val (.int .i64 li)]]),(1,9,1,[]),(2,3,1,[])]) (fun _=>3) (fun _=>True) (fun _=>0) (by kernel_rfl) () trivial ?_ ?_ rfl ?_
    ·exact agi
    ·exact agr
    rintro _ _;(refine wlk ?_;intros);refine aG (α:=Unit) mixed (fun _=>[(8,.row 1 1 0 0),(9,.row 2 1 0 0),(11,.val (.slice none 0 0)),(13,.val (.bool true)),(14,iv 0)]) (fun _=>[(1,9,1,[]),(2,3,1,[])]) (fun _=>3) (fun _=>True) (fun _=>0) (by kernel_rfl) () trivial ?_ ?_ rfl ?_
    ·exact agi
    ·exact agr
    rintro _ _;exact wlkS
   ·have hpos:0<(blL L ps wd mo li).length:=by
     rcases Nat.eq_zero_or_pos (blL L ps wd mo li).length with h|h
     ·exact absurd ((acB h).2 hB) fun e=>hL0 (by rw[e];rfl)
     ·exact h
    have ap2:acN [.agg [.lst false 1 (lsF L),.lst false 1 (ps.map fun s=> .val (.string s)),.val (.int .i64 wd),.val (.int .i64 mo),.val (.int .i64 li)]]=_:=yU hok hpos;rw[hB,hC]at ap2;have hcl:=acR L ps wd mo;clear hpre hbyte hL2 hps hok hb hB hC hpos;obtain⟨f1,f2,f3,f4,f5,f6,f7,f8,f9⟩:=hF;have ap3:=zH (a:=blL L ps wd mo li) (b:=blL L ps wd mo li) (by omega) (by omega);generalize blL L ps wd mo li=BL at*;generalize bpV L ps wd mo li=V at*;generalize jv (jk L ps wd mo) li.toNat=E at*;generalize oD L ps wd mo=C at*;have glbg_c5:=yR;have glbg_c6:=za;have glbg_c7:=yG;have glbg_c10:=ru;have glbg_c8:=zD;have glbg_c9:=zU;(refine wlk ?_;intros);have hzl:(zN E).length=E.length:=by simp
    have hzc:(zN C).length=C.length:=by simp
    have hzn:=fun k h=>apz (E:=E) (k:=k) h;have hza:=fun k h=>abI (c:=E) (k:=k) h;have hzb:=fun k h=>abI (c:=C) (k:=k) h;have hfn:=fun k h=>aft (V:=V) (k:=k) h;have hVe:V.take E.length=V:=by rw[←f1];exact List.take_length
    have hZe:(zN E).take E.length=zN E:=by rw[←hzl];exact List.take_length
    have hsn:=fun k h=>wF (c:=C) (k:=k) h;have hft:∀k,((V.take k).flatten).length≤30:=fun k=>by
     have h1:(V.take k).flatten++(V.drop k).flatten=BL:=by rw[←List.flatten_append,List.take_append_drop,f5]
     have h2:=congrArg List.length h1;rw[List.length_append]at h2;omega
    generalize zN E=ZE at*;generalize zN C=ZC at*;replace f8:=Lib.hid f8;replace f9:=Lib.hid f9;replace f5:=Lib.hid f5;replace f3:=Lib.hid f3;replace f4:=Lib.hid f4;replace f7:=Lib.hid f7;replace hzn:=Lib.hid hzn;replace hza:=Lib.hid hza;replace hzb:=Lib.hid hzb;replace hfn:=Lib.hid hfn;replace hsn:=Lib.hid hsn;replace hft:=Lib.hid hft;replace hVe:=Lib.hid hVe;replace hZe:=Lib.hid hZe;refine aG (α:=Nat×Nat×Nat×Nat) mixed (fun i=>[(3,.own 0 5 0 0),(4,.lst true 1 (V.map gy)),(5,.val (.bool true)),(6,.lst true 1 (V.map gy)),(8,.row i.2.1 1 0 ((V.take i.1).flatten).length),(9,.row i.2.2.1 1 0 i.1),(10,iv i.1)])
     (fun i=>[(0,26,5,[.agg [.lst true 1 (lsE L),.lst true 1 (ps.map fun s=> .val (.string s)),.val (.int .i64 wd),.val (.int .i64 mo),.val (.int .i64 li)]]),(i.2.1,9,1,((V.take i.1).flatten).map fun s=> .val (.string s)),(i.2.2.1,3,1,(ZE.take i.1).map fun n=> .val (.int .i64 n))])
     (fun i=>i.2.2.2) (fun i=>i.1≤E.length∧0<i.2.1∧i.2.1<i.2.2.1∧i.2.2.1<i.2.2.2) (fun i=>E.length-i.1) (by kernel_rfl) (0,1,2,3) ⟨Nat.zero_le _,by decide,by decide,by decide⟩ ?_ ?_ rfl ?_
    ·simp(disch:=(first|omega|(simp only[push_cast];first|done|omega))) only[push_cast,↓reduceIte,Nat.reduceEqDiff,Nat.reduceBEq,Nat.reduceAdd,Nat.reduceSub,Int.reduceToNat,List.length_append, *]
     try rfl
    ·simp(disch:=(first|omega|(simp only[push_cast];first|done|omega))) only[push_cast,↓reduceIte,Nat.reduceEqDiff,Nat.reduceBEq,Nat.reduceAdd,Nat.reduceSub,Int.reduceToNat,List.length_append, *]
     try rfl
    rintro⟨k,o,o2,nx⟩ ⟨hk,ho,ho2,hon⟩;dsimp only at hk ho ho2 hon;clear ap1 e;by_cases hkl:k<E.length
    ·have h3:=f3.out k hkl
     have h4:=f4.out k hkl;have h7:=f7.out k hkl;have h8:=hzn.out k hkl;have h9:=hfn.out k (by omega);have h5:=hft.out k;have h11:((V.take k).flatten).length+(V[k]?.getD []).length≤30:=by have:=hft.out (k+1);rw[h9,List.length_append]at this;exact this
     have ap4:=zH (a:=V[k]?.getD []) (b:=V[k]?.getD []) (by omega) (by omega);have h10:(ZE.take k).length=k:=by rw[List.length_take];omega
     replace h4:=Lib.hid h4;replace h8:=Lib.hid h8;replace h9:=Lib.hid h9;generalize(V.take k).flatten=B at*;generalize ZE.take k=Z at*;(try dsimp only);(refine wlk ?_;intros);have h12:((E[k]?.getD 0:Nat):Int)=(B.length:Int)+((V[k]?.getD []).length:Int):=by have:=h4.out;rw[h9.out,List.length_append]at this;omega
     refine⟨(k+1,nx,nx+1+1,nx+1+1+1),⟨by dsimp only;omega,by dsimp only;omega,by dsimp only;omega,by dsimp only;omega⟩,by dsimp only;omega,?_,?_,rfl⟩
     ·dsimp only
      rw[h9.out];exact agi
     ·dsimp only
      rw[h9.out,h8.out,h12];exact agr
    ·obtain rfl:k=E.length:=by omega
     rw[hVe.out,hZe.out,f5.out];clear hfn hVe hZe hzn f3 f4 f7 hft;(try dsimp only);(refine wlk ?_;intros);refine aG (α:=Nat) mixed (fun i=>[(8,.row o 1 0 BL.length),(9,.row o2 1 0 E.length),(11,.lst true 1 (BL.map fun s=> .val (.string s))),(12,.lst true 1 (ZC.map fun n=> .val (.int .i64 n))),(13,.val (.bool true)),(14,iv i)])
      (fun i=>[(o,9,1,BL.map fun s=> .val (.string s)),(o2,3,1,ZE.map fun n=> .val (.int .i64 n))])
      (fun _=>nx) (fun i=>i≤E.length) (fun i=>E.length-i) (by kernel_rfl) 0 (Nat.zero_le _) ?_ ?_ rfl ?_
     ·exact agr
     ·exact agr
     rintro k hk;by_cases hkl:k+1<E.length
     ·have hz1:=hza.out k (by omega)
      have hb:=fun j=>f9.out k j hkl;replace hb:=Lib.hid hb;have hkz:k<ZE.length:=by omega
      (try dsimp only);(refine wlk ?_;intros);clear ap2 ap3;refine aG (α:=Nat) mixed (fun j=>[(8,.row o 1 0 BL.length),(9,.row o2 1 0 E.length),(11,.lst true 1 (BL.map fun s=> .val (.string s))),(12,.lst true 1 (ZC.map fun n=> .val (.int .i64 n))),(13,.val (.bool true)),(14,iv k),(15,iv (C.take j).sum),(16,iv j)])
       (fun i=>[(o,9,1,BL.map fun s=> .val (.string s)),(o2,3,1,ZE.map fun n=> .val (.int .i64 n))])
       (fun _=>nx) (fun j=>j≤C.length) (fun j=>C.length-j) (by kernel_rfl) 0 (Nat.zero_le _) ?_ ?_ rfl ?_
      ·simp(disch:=(first|omega|(simp only[push_cast];first|done|omega))) only[push_cast,↓reduceIte,Nat.reduceEqDiff,Nat.reduceBEq,Nat.reduceAdd,Nat.reduceSub,Int.reduceToNat,List.length_append, *]
       try rfl
      ·exact agr
      rintro j hj;by_cases hjl:j<C.length
      ·have g1:=hb.out j hjl
       have g2:=hzb.out j hjl;have g3:=hsn.out j hjl;have g4:=f8.out (j+1);rw[g3]at g4;have hjz:j<ZC.length:=by omega
       clear hza hzb hsn f8 f9 hb;replace g3:=Lib.hid g3;generalize(C.take j).sum=S at*;generalize C[j]?.getD 0=c at*;generalize E[k]?.getD 0=q at*;by_cases hc:1<c
       ·have g5:=g1 hc
        clear g1;(try dsimp only);(refine wlk ?_;intros);all_goals try(exfalso;omega)
        refine⟨j+1,by omega,by dsimp only;omega,?_,?_,rfl⟩
        ·dsimp only
         rw[g3.out];exact agi
        ·exact agr
       ·clear g1
        (try dsimp only);(refine wlk ?_;intros);all_goals try(exfalso;omega)
        refine⟨j+1,by omega,by dsimp only;omega,?_,?_,rfl⟩
        ·dsimp only
         rw[g3.out];exact agi
        ·exact agr
      ·obtain rfl:j=C.length:=by omega
       clear hza hzb hsn f8 f9 hb;(try dsimp only);(refine wlk ?_;intros);refine⟨k+1,by omega,by dsimp only;omega,?_,?_,rfl⟩
       ·dsimp only
        exact agi
       ·exact agr
     ·clear hza hzb hsn f8 f9
      (try dsimp only);exact wlkS
 ·have glbg_c5:=yR;have glbg_c6:=za;have glbg_c7:=yG;have glbg_c10:=ru;have glbg_c8:=zD;have glbg_c9:=zU
  exact wlkS
section
open Go.ChangeShapes Go.WideShapes Go.ChangeAt Go.RowKit
open Go.ChangeMaps (open_string shut_string)
theorem own:ownKnob Tryz.prog.godebug=none:=by kernel_rfl
theorem laidOut:laidOutB Tryz.prog=true:=by kernel_rfl
theorem wf_u8 {x:Int} (h:(Lit.int .u8 x).wf=true):0≤x∧x≤255:=by simpa [Lit.wf,IntKind.min,IntKind.max,IntKind.signed,IntKind.bits]using h
theorem addr_add (b off i:Nat):(⟨b,off,none⟩:Addr).add i=⟨b,off+i,none⟩:=by unfold Addr.add;by_cases h:i=0<;>simp[h]
theorem ap9 {w:World} {a:Addr} {v:Value} (h:w.cell? a=some v):a.block<w.heap.size:=by
 unfold World.cell? at h;by_cases hb:a.block<w.heap.size
 ·exact hb
 ·rw[Array.getElem?_eq_none (by omega)]at h
  cases a.spot<;>simp at h
abbrev gW (W:World):Gh:=aam fun b=>b<W.heap.size
section
variable {H:Type} {enc:TypeId×Value→H} {P:Program} {W:World} {base:Nat} {α β γ δ ε:Type}
def OpC (enc:TypeId×Value→H) (P:Program) (W:World) (base:Nat) (t:TypeId) (A:Dec α) (ok:α→Prop):Prop:=
 ∀fuel cs x,DataW.trod enc P W base (fun _=>true) true fuel t cs=some x→∃a v,ok a∧Rep (gW W) W (A.e a) v∧v.cells.toList=cs∧v.cells.all (·.oneCell')=true
theorem opU {t:TypeId} (ht:P.underlying t=some (.int .u8)):OpC enc P W base t dU atS:=fun fuel cs x h=>by obtain⟨n,rfl,_,hw⟩:=DataW.trod_int ht h;exact⟨n,.int .u8 n,wf_u8 hw,rfl,rfl,by simp[Value.cells,Value.oneCell']⟩
theorem aoy {n:Nat} {p:Nat→α→Prop} (h:∀i,i<n→∃x,p i x):∃l:List α,l.length=n∧∀i a,l[i]?=some a→p i a:=by
 induction n with
 |zero=>exact⟨[],rfl,fun i a h=>by simp at h⟩
 |succ n ih=>
  obtain⟨l,hl,hp⟩:=ih fun i hi=>h i (by omega);obtain⟨x,hx⟩:=h n (by omega);refine⟨l++[x],by simp[hl],fun i a hi=>?_⟩;rw[List.getElem?_append]at hi;split at hi
  ·exact hp i a hi
  ·rename_i hlt
   have:i-l.length=0:=by
    by_cases h0:i-l.length=0
    ·exact h0
    ·rw[List.getElem?_eq_none (by simp;omega)]at hi
     cases hi
   rw[this]at hi;simp at hi;subst hi;have:i=n:=by omega
   subst this;exact hx
theorem opL {t e:TypeId} {A:Dec α} {ok:α→Prop} (sz:Nat) (ht:P.underlying t=some (.slice e)) (hs:P.cellsOf e=sz) (h0:0<sz) (hA:OpC enc P W base e A ok):OpC enc P W base t (dL sz A) (okL ok):=fun fuel cs x h=>by
 rcases Go.Deep.open_slice ht h with⟨rfl,_⟩|⟨x,len,cap,m,n,D,Pl,rfl,hb,hl,hm,hmm,_,hx⟩
 ·exact⟨[],.slice none 0 0,⟨by simp,by simp⟩,⟨none,0,rfl,by simp,by simp,.inl rfl⟩,rfl,by simp[Value.cells,Value.oneCell']⟩
 have hm2:m=cap:=by simpa using hmm
 have hcap:cap≤9223372036854775807:=hm;obtain⟨l,hlen,hp⟩:=aoy (n:=len) (p:=fun i a=>ok a∧∃v,Rep (gW W) W (A.e a) v∧v.cells.size=sz∧v.cells.all (·.oneCell')=true∧∀j,j<sz→W.cell? ((x.add (i*sz)).add j)=v.cells[j]?) (fun i hi=>by
  obtain⟨cs',h1,h2⟩:=hx i (by omega);obtain⟨a,v,h3,h4,h5,h6⟩:=hA _ _ _ h2;obtain⟨_,h7,h8⟩:=World.cells?_some h1;rw[hs]at h7 h8;refine⟨a,h3,v,h4,?_,h6,fun j hj=>?_⟩
  ·rw[←h7,←h5];simp
  ·rw[h8 j hj,←h5];simp)
 refine⟨l,.slice (some x) len cap,⟨by omega,fun a ha=>?_⟩,?_,rfl,by simp[Value.cells,Value.oneCell']⟩
 ·obtain⟨i,hi,rfl⟩:=List.getElem_of_mem ha
  exact(hp i _ (by simp[hi])).1
 ·refine⟨some x,cap,by simp[hlen],by simp[hlen];omega,hcap,?_⟩
  by_cases hn:l=[]
  ·exact .inl (by simp[hn])
  right;have hl0:0<l.length:=List.length_pos_iff.2 hn;obtain⟨_,v,h4,h5,h6,h7⟩:=hp 0 l[0] (by simp[hl0]);have h8:=h7 0 h0;have h9:v.cells[0]?=some v.cells[0]:=by simp
  rw[h9]at h8;have hspot:=World.cell?_spot h8;have hlt:=ap9 h8;obtain⟨b,off,spot⟩:=x;simp only[Nat.zero_mul,Addr.add,if_true]at hspot hlt;subst hspot;refine⟨b,off,rfl,⟨rfl,hlt⟩,bN.of fun i p hi=>?_⟩;rw[List.getElem?_map,Option.map_eq_some_iff]at hi;obtain⟨a,ha,rfl⟩:=hi;obtain⟨_,v,h4,h5,h6,h7⟩:=hp i a ha;refine⟨v,h4,⟨h6,fun j hj=>?_⟩,h5⟩;have:=h7 j (by omega)
  rwa[addr_add,addr_add]at this
theorem opF {t:TypeId} {A:Dec α} {ok:α→Prop} {n:Nat} {cs:List Value} {y:DataW H×List MemPlace} (hA:OpC enc P W base t A ok) (h1:∀a,nD (A.e a)=true)
 (h:DataW.trod enc P W base (fun _=>true) true n t cs=some y):∃a v,ok a∧Rep (gW W) W (A.e a) v∧v.oneCell'=true∧cs=[v]:=by
 obtain⟨a,v,h3,h4,h5,h6⟩:=hA _ _ _ h;have:=xI h4 (h1 a);exact⟨a,v,h3,h4,this,by rw[←h5,nQ this]⟩
theorem op1 {t:TypeId} {A:Dec α} {ok:α→Prop} {v:Value} {d:DataW H} {p:List MemPlace} (hA:OpC enc P W base t A ok) (h1:∀a,nD (A.e a)=true) (hv:v.cells=#[v])
 (h:DataW.Trod enc P W base (fun _=>true) true t v d p):∃a,ok a∧Rep (gW W) W (A.e a) v:=by
 obtain⟨fuel,hf⟩:=h;obtain⟨a,u,h3,h4,h5,h6⟩:=opF hA h1 hf;rw[hv]at h6;have:v=u:=by simpa using h6
 subst this;exact⟨a,h3,h4⟩
theorem ami {f:Nat} {φ:Fun} {ps:List PV} {args:Array Value} (h:Sound P f φ) (hT:qF W fun _=>False) (ha:φ ps=some (bv true)) (hr:cu (gW W) W ps args.toList):
 Calls P f args W fun e w'=>e=.returned (.bool true)∧Below W.heap.size W w':=by
 refine(h W (fun b=>b<W.heap.size) ps args _ ha (fun b hb=>hb) hT hr).mono ?_;rintro e w' ⟨v,rfl,hb,hv⟩;have:=hv {I:=fun _ _=>True,β:=fun _=>0,κ:=fun _=>0,nx:=0} fun b _ _=>trivial;have hv2:v=.bool true:=this;subst hv2;exact⟨rfl,hb⟩
end
end
end
end Go.Proofs.YtmmafcjjlbgnkaaGreat
