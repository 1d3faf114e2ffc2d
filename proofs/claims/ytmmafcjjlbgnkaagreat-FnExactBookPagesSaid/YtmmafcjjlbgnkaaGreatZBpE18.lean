/- What the proof rests on, part 18: contracts of functions. No condition beyond what each states. -/
import Derived.Test.YtmmafcjjlbgnkaaGreatZBpE17
namespace Go.Proofs.YtmmafcjjlbgnkaaGreat
open Go.RowKit
set_option linter.all false
set_option maxHeartbeats 32000000
noncomputable section
def atJ:Ctx:={fn:=aT [(22,φOb),(23,φBl),(25,vH),(24,tZ)],io:=aT []}
theorem dO:au Tryz.prog atJ:=okΓ (fC Tryz.func22 aeF (fC Tryz.func23 aic (fC Tryz.func25 afo (fC Tryz.func24 aeN aj)))) aj
def wR:=ah (Γ:=atJ) (f:=22) (φ:=φOb) rfl
def xk:=ah (Γ:=atJ) (f:=23) (φ:=φBl) rfl
def vX:=ah (Γ:=atJ) (f:=25) (φ:=vH) rfl
def xw:=ah (Γ:=atJ) (f:=24) (φ:=tZ) rfl
theorem ain:Sound Tryz.prog 7 φBp:=by
 refine HZ.sound (N:=63) (rs:=[.tmp 2,.tmp 3]) Tryz.func7 rfl rfl rfl fun ps r hr=>?_;obtain⟨⟨p,q,x,y,z⟩,rfl,hq⟩:=bG hr;clear hr;split at hq
 case isFalse=>cases hq
 case isTrue hpre=>
 cases hq;refine⟨by simp,fun B w00=>HZ.start ?_⟩;simp only[dIs,dUs,dSs,bR,bV,bT,bU,aI,bW,aL,aO,aH,aJ];(try dsimp only at hpre⊢);show HZ _ _ _ _ _ _ ⟨(bM [bkP p q x y z]).tm,fun _=>none,0⟩ _;have ap0:=apB (x:=x) (y:=y) (z:=z) hpre;have ap1:=anb (x:=x) (y:=y) (z:=z) hpre;cases hB:blB p q x y z with
 |false=>
  have hb:bpB p q x y z=false:=by unfold bpB;rw[hB];rfl
  rw[ajt hb,hb,List.map_nil];rw[hB]at ap1;clear hpre hB hb;generalize blL p q x y z=BL at*;generalize blC p q x y z=BC at*;have gbgs_c22:=wR;have gbgs_c23:=xk;have gbgs_c25:=vX;have gbgs_c24:=xw;refine HZ.eng mixed dO (by kernel_rfl) ?_;(try dsimp only);(refine wlk ?_;intros);(try dsimp only);refine⟨by simp,⟨_,fun g w v h=>h,by(simp(disch:=(first|omega|(simp only[push_cast];first|done|omega))) only[push_cast,↓reduceIte,Nat.reduceEqDiff,Nat.reduceBEq,Nat.reduceAdd,Nat.reduceSub,Int.reduceToNat, *]<;>with_reducible exact rfl)⟩,fun i e=>False.elim e⟩
 |true=>
  rw[hB]at ap1;have hl60:=afA (p:=p) (q:=q) (x:=x) (y:=y) (z:=z) (by unfold blB iE at hB;simp only[Bool.and_eq_true,decide_eq_true_eq]at hB;exact hB.1.2.1)
  by_cases h30:(blL p q x y z).length≤30
  ·obtain⟨k1,k2,k3,k4,k5⟩:=acr hB h30
   have hzz:((z.toNat:Nat):Int)=z:=by omega
   have ap2:=qO k1;have ap3:=qM (ks:=jd p q x y) (h:=z.toNat) (by omega) (by omega) (by omega);rw[hzz]at ap3;rw[k2]at ap1;have hV:bpV p q x y z=if bpB p q x y z=true then mJ (blL p q x y z) 0 (jh (jd p q x y) z.toNat)else []:=rfl;have hb:bpB p q x y z=yw (jd p q x y) z.toNat:=by unfold bpB;rw[hB,decide_eq_true h30];rfl
   rw[hb]at hV;rw[hV,hb];have hch:=fun h=>uH (ks:=jd p q x y) (h:=z.toNat) h;rw[show dF (oV p q x y)=jd p q x y from rfl]at ap2;clear hpre hB hV hb k1 k2 hzz;generalize blL p q x y z=BL at*;generalize zN (oV p q x y)=CN at*;generalize jd p q x y=KS at*;cases hG:yw KS z.toNat with
   |false=>rw[hG]at ap3;rw[if_neg (by decide),List.map_nil];clear hch hG;have gbgs_c22:=wR;have gbgs_c23:=xk;have gbgs_c25:=vX;have gbgs_c24:=xw;refine HZ.eng mixed dO (by kernel_rfl) ?_;(try dsimp only);(refine wlk ?_;intros);(try dsimp only);refine⟨by simp,⟨_,fun g w v h=>h,by(simp(disch:=(first|omega|(simp only[push_cast];first|done|omega))) only[push_cast,↓reduceIte,Nat.reduceEqDiff,Nat.reduceBEq,Nat.reduceAdd,Nat.reduceSub,Int.reduceToNat, *]<;>with_reducible exact rfl)⟩,fun i e=>False.elim e⟩
   |true=>
    rw[hG]at ap3;have hc:=hch hG;rw[if_pos rfl];have hct:=fun k h=>ab7 (l:=BL) (e:=jh KS z.toNat) (k:=k) h;have hfl:=fun k h=>abd hc (k:=k) h;have hfs:=fun k h=>rC (e:=jh KS z.toNat) (k:=k) h;have hel:=rM hc;have hfull:(jh KS z.toNat).take (jh KS z.toNat).length=jh KS z.toNat:=List.take_length;have hze:=fun k h=>alM (c:=jh KS z.toNat) (k:=k) h;have hzl:(zN (jh KS z.toNat)).length=(jh KS z.toNat).length:=by simp
    rw[show(jh KS z.toNat).map (fun n:Nat=>(n:Int))=zN (jh KS z.toNat)from rfl]at ap3;clear hch hG hc;generalize jh KS z.toNat=E at*;generalize zN E=ZE at*;have gbgs_c22:=wR;have gbgs_c23:=xk;have gbgs_c25:=vX;have gbgs_c24:=xw;refine HZ.seq (HZ.eng mixed dO (by kernel_rfl) ?_);(try dsimp only);(refine wlk ?_;intros);(try dsimp only[X.out]);(try simp only[↓reduceIte]);refine HZ.seq (HZ.eng mixed dO (by kernel_rfl) ?_);(try dsimp only);(refine wlk ?_;intros);(try dsimp only[X.out]);(try simp only[↓reduceIte]);refine HZ.seq (HZ.eng mixed dO (by kernel_rfl) ?_);(try dsimp only);(refine wlk ?_;intros);(try dsimp only[X.out]);(try simp only[↓reduceIte]);refine HZ.seq (HZ.eng mixed dO (by kernel_rfl) ?_);(try dsimp only);(refine wlk ?_;intros);(try dsimp only[X.out]);(try simp only[↓reduceIte]);refine HZ.seq (HZ.eng mixed dO (by kernel_rfl) ?_);(try dsimp only);(refine wlk ?_;intros);(try dsimp only[X.out]);(try simp only[↓reduceIte]);refine HZ.seq (HZ.eng mixed dO (by kernel_rfl) ?_);(try dsimp only);(refine wlk ?_;intros);(try dsimp only[X.out]);(try simp only[↓reduceIte]);refine HZ.seq (HZ.eng mixed dO (by kernel_rfl) ?_);(try dsimp only);(refine wlk ?_;intros);(try dsimp only[X.out]);(try simp only[↓reduceIte]);refine HZ.seq (HZ.eng mixed dO (by kernel_rfl) ?_);(try dsimp only);(refine wlk ?_;intros);(try dsimp only[X.out]);(try simp only[↓reduceIte]);refine HZ.seq (HZ.seq (HZ.eng mixed dO (by kernel_rfl) ?_));(try dsimp only);(refine wlk ?_;intros);(try dsimp only[X.out]);(try simp only[↓reduceIte]);refine HZ.block (HZ.xW (α:=Nat×Nat×Nat) (fun i=>[(4,.row i.2.1 1 0 i.1),(5,.lst true 1 (BL.map fun s=> .val (.string s))),(8,.lst true 1 (ZE.map fun n=> .val (.int .i64 n))),(10,iv (pF E i.1)),(11,iv i.1)]) (fun i=>[(i.2.1,24,1,(mJ BL 0 (E.take i.1)).map jG)]) (fun i=>i.2.2)
     (fun i σ=>(i.1≤E.length∧i.2.1<i.2.2)∧σ=Fgn.no) (fun i=>E.length-i.1) (0,1,2) ⟨⟨Nat.zero_le _,by decide⟩,rfl⟩ ?_ ?_ rfl ?_)
    ·have z1:pF E 0=0:=rfl
     (try dsimp only);rw[z1];exact agr
    ·have z0:(mJ BL 0 (E.take 0)).map jG=[]:=rfl
     (try dsimp only);rw[z0];exact agr
    rintro⟨k,o,y⟩ σ ⟨⟨hk,hoy⟩,rfl⟩;dsimp only at hk hoy;clear ap0 ap1 ap2 ap3;by_cases hkl:k<E.length
    ·have h1:=hct k hkl
     have h2:=hfl k hkl;have h3:=hfs k hkl;have h4:=hze k hkl;have hcl:((mJ BL 0 (E.take k)).map jG).length=k:=by rw[List.length_map,oM,List.length_take];omega
     clear hct hfl hfs hze hfull;have hkz:k<ZE.length:=by omega
     have h5:E[k]?.getD 0≤BL.length:=by omega
     have h1:(mJ BL 0 (E.take (k+1))).map jG=(mJ BL 0 (E.take k)).map jG++[jG ((BL.drop (pF E k)).take (E[k]?.getD 0-pF E k))]:=by rw[h1,List.map_append];rfl
     replace h1:=Lib.hid h1;replace h3:=Lib.hid h3;generalize E[k]?.getD 0=e at*;generalize pF E k=f at*;generalize(mJ BL 0 (E.take k)).map jG=R at*;refine HZ.seq (HZ.eng mixed dO (by kernel_rfl) ?_);(try dsimp only);(refine wlk ?_;intros);(try dsimp only[X.out]);(try simp only[↓reduceIte]);refine HZ.seq (HZ.block (HZ.seq (HZ.eng mixed dO (by kernel_rfl) ?_)));(try dsimp only);(refine wlk ?_;intros);(try dsimp only[X.out]);(try simp only[↓reduceIte]);refine HZ.vP (o:=y+1) (x:=y+1+1+1) (T:=9) (sz:=1) (T2:=24) (sz2:=1) (n:=e-f) (es:=((BL.drop f).take (e-f)).map fun s=> .val (.string s)) (l:=R) (by(simp(disch:=(first|omega|(simp only[push_cast];first|done|omega))) only[push_cast,↓reduceIte,Nat.reduceEqDiff,Nat.reduceBEq,Nat.reduceAdd,Nat.reduceSub,Int.reduceToNat, *]<;>with_reducible exact rfl)) (by(simp(disch:=(first|omega|(simp only[push_cast];first|done|omega))) only[push_cast,↓reduceIte,Nat.reduceEqDiff,Nat.reduceBEq,Nat.reduceAdd,Nat.reduceSub,Int.reduceToNat, *]<;>with_reducible exact rfl)) (by rw[List.length_map,List.length_take,List.length_drop];omega) (by omega) ?_;refine HZ.eng mixed dO (by kernel_rfl) ?_;(try dsimp only);(refine wlk ?_;intros);(try dsimp only[X.out]);(try simp only[↓reduceIte]);refine HZ.eng mixed dO (by kernel_rfl) ?_;(try dsimp only);(refine wlk ?_;intros);(try dsimp only[X.out]);(try simp only[↓reduceIte]);refine⟨(k+1,y+1+1+1,y+1+1+1+1),⟨⟨by dsimp only;omega,by dsimp only;omega⟩,by trivial⟩,by dsimp only;omega,?_,?_,rfl⟩
     ·(try dsimp only)
      rw[h3.out];exact agi
     ·(try dsimp only)
      rw[h1.out];exact agr
    ·obtain rfl:k=E.length:=by omega
     rw[hfull];clear hct hfl hfs hze hfull;have hcl:(mJ BL 0 E).length=E.length:=oM;generalize mJ BL 0 E=L at*;refine HZ.seq (HZ.eng mixed dO (by kernel_rfl) ?_);(try dsimp only);(refine wlk ?_;intros);(try dsimp only[X.out]);(try simp only[↓reduceIte]);refine HZ.eng mixed dO (by kernel_rfl) ?_;(try dsimp only);(refine wlk ?_;intros);(try dsimp only[X.out]);(try simp only[↓reduceIte]);refine⟨by simp,⟨_,fun g w v h=>h,by(simp(disch:=(first|omega|(simp only[push_cast];first|done|omega))) only[push_cast,↓reduceIte,Nat.reduceEqDiff,Nat.reduceBEq,Nat.reduceAdd,Nat.reduceSub,Int.reduceToNat, *]<;>with_reducible exact rfl)⟩,fun i e=>False.elim e⟩
  ·have hb:bpB p q x y z=false:=by unfold bpB;rw[decide_eq_false h30,Bool.false_and,Bool.and_false]
   rw[ajt hb,hb,List.map_nil];clear hpre hB hb;generalize blL p q x y z=BL at*;generalize blC p q x y z=BC at*;have gbgs_c22:=wR;have gbgs_c23:=xk;have gbgs_c25:=vX;have gbgs_c24:=xw;refine HZ.eng mixed dO (by kernel_rfl) ?_;(try dsimp only);(refine wlk ?_;intros);(try dsimp only);refine⟨by simp,⟨_,fun g w v h=>h,by(simp(disch:=(first|omega|(simp only[push_cast];first|done|omega))) only[push_cast,↓reduceIte,Nat.reduceEqDiff,Nat.reduceBEq,Nat.reduceAdd,Nat.reduceSub,Int.reduceToNat, *]<;>with_reducible exact rfl)⟩,fun i e=>False.elim e⟩
structure BpF (BL:LS) (z:Int) (V:List LS) (E C:List Nat):Prop where
 len:V.length=E.length
 e30:E.length≤30
 row:∀k,k<E.length→1≤(V[k]?.getD []).length∧((V[k]?.getD []).length:Int)≤z
 sum:∀k,k<E.length→((V.take (k+1)).flatten).length=E[k]?.getD 0
 flat:V.flatten=BL
 b30:BL.length≤30
 ee:∀k,k<E.length→E[k]?.getD 0≤30
 cs:∀j,(C.take j).sum≤30
 brk:∀k j,k+1<E.length→j<C.length→1<C[j]?.getD 0→¬E[k]?.getD 0=(C.take j).sum+1∧¬E[k]?.getD 0+1=(C.take j).sum+C[j]?.getD 0
theorem alg {p:List LS} {q:LS} {x y z:Int} (hb:bpB p q x y z=true):blB p q x y z=true∧blC p q x y z=zN (oV p q x y)∧BpF (blL p q x y z) z (bpV p q x y z) (jh (jd p q x y) z.toNat) (oV p q x y):=by
 have hV:bpV p q x y z=mJ (blL p q x y z) 0 (jh (jd p q x y) z.toNat):=if_pos hb;unfold bpB at hb;rw[Bool.and_eq_true,Bool.and_eq_true]at hb;obtain⟨hB,h30,hG⟩:=hb;have h30:=of_decide_eq_true h30;obtain⟨k1,k2,k3,k4,k5⟩:=acr hB h30;have hc:=uH hG;have hl:=rM hc;rw[hV];refine⟨hB,k2,oM,by omega,fun k hk=>?_,fun k hk=>?_,?_,h30,fun k hk=>?_,fun j=>?_,fun k j hk hj h1=>?_⟩
 ·have hk2:k<(mJ (blL p q x y z) 0 (jh (jd p q x y) z.toNat)).length:=by rw[oM];exact hk
  have hm:=agP k3.symm hc _ (List.getElem_mem hk2);rw[List.getElem?_eq_getElem hk2,Option.getD_some];exact⟨hm.1,by have:=hm.2;omega⟩
 ·have:=ahb k3.symm hc k hk
  omega
 ·exact(acE k3.symm hc).trans (List.drop_zero ..)
 ·have:=(abd hc hk).2
  omega
 ·have:=sF (oV p q x y) j
  have:=k1.2;omega
 ·obtain⟨p',hm⟩:=amH hc k (by omega)
  exact ak1 hm (ahC hc k hk) hj h1
theorem ahO {l:List LS} {k:Int}:∀{i j:Nat},j<i→i≤l.length→(mkL l k i)[j]?.getD []=iX (mkK l k j) (l[j]?.getD []).length
 |0,j,h,_=>by omega
 |i+1,j,h,h2=>by
  rw[mkL,List.getElem?_set];by_cases e:i=j
  ·subst e
   rw[if_pos rfl,if_pos (by rw[oP];omega),Option.getD_some]
  ·rw[if_neg e]
   exact ahO (by omega) (by omega)
theorem wm {l:List LS} {k:Int} (j:Nat):((mkL l k l.length)[j]?.getD []).length=(l[j]?.getD []).length:=by
 by_cases h:j<l.length
 ·rw[ahO h (Nat.le_refl _),eB]
 ·rw[List.getElem?_eq_none (by rw[oP];omega),List.getElem?_eq_none (by omega)]
theorem wO {l l':List LS} {k:Int} (h:∀j:Nat,(l'[j]?.getD []).length=(l[j]?.getD []).length):∀j,mkK l' k j=mkK l k j
 |0=>rfl
 |j+1=>by rw[mkK,mkK,wO h j,h j]
theorem ahU {l:List LS} {k:Int}:jV (mkL l k l.length)=jV l:=by have h1:=zU (mkL l k l.length) k (mkL l k l.length).length (Nat.le_refl _);have h2:=zU l k l.length (Nat.le_refl _);rw[List.take_length]at h1 h2;rw[wO wm,oP]at h1;omega
theorem akT {l:List LS} {k:Int} (h1:l.length≤1048576) (h2:jV l≤1048576) (h3:0<k) (h4:k≤1048577):awS (mkL l k l.length) k:=
 ⟨by rw[oP];exact h1,by rw[ahU];exact h2,h3,h4,fun j hj=>by rw[oP]at hj;rw[wO wm,wm];exact ahO hj (Nat.le_refl _)⟩
theorem ahI (l:List LS):jV l=l.flatten.length:=by unfold jV;rw[List.length_flatten]
theorem ahd (p:List LS) (q:LS) (x y z:Int):(bpV p q x y z).length≤30∧jV (bpV p q x y z)≤30:=by
 cases hb:bpB p q x y z with
 |false=>rw[ajt hb];exact⟨by simp,by simp[jV]⟩
 |true=>obtain⟨_,_,hF⟩:=alg hb;exact⟨by rw[hF.len];exact hF.e30,by rw[ahI,hF.flat];exact hF.b30⟩
theorem ajp {v:Value} {b:Bool} (g:Gh) (w:World) (u:Value) (h:Rep g w (.val (.tuple #[v,.bool b])) u):Rep g w (.tup [.val v,.val (.bool b)]) u:=by simp only[Rep]at h;subst h;simp[Rep,bI]
theorem aeC:Sound Tryz.prog 6 φBp:=fun w J ps args r hr hJ hT hargs=>by
 obtain⟨⟨p,q,x,y,z⟩,rfl,hq⟩:=bG hr;split at hq
 case isFalse=>cases hq
 case isTrue hpre=>
 cases hq;refine(zf (p:=p) (q:=q) (x:=x) (y:=y) (z:=z) hpre hJ hT hargs).mono ?_;rintro e w' ⟨v,vs,rfl,hf,hs,hb⟩;refine⟨_,rfl,⟨hf.os,hf.tape,hf.output,hf.size,fun i hi=>hf.block i hi fun e=>e⟩,fun g' hg'=>?_⟩;simp only[Rep,bI];exact⟨_,rfl,_,_,rfl,hs.avs fun i hi=>hg' i (hb i hi) (hs.lt hi),_,_,rfl,rfl,rfl⟩
def adA:Fun:=F1 iY fun b=>if abg b.1∧al4 b.2.1 then some (bv true)else none
def apM:Ctx:={fn:=aT [(11,qN),(12,qx),(7,φBp),(6,φBp),(13,uF)],io:=aT []}
theorem aW:au Tryz.prog apM:=okΓ (fC Tryz.func11 aiK (fC Tryz.func12 ahh (fC Tryz.func7 ain (fC Tryz.func6 aeC (fC Tryz.func13 iB aj))))) aj
def afD:=ah (Γ:=apM) (f:=11) (φ:=qN) rfl
def agk:=ah (Γ:=apM) (f:=12) (φ:=qx) rfl
def amj:=ah (Γ:=apM) (f:=7) (φ:=φBp) rfl
def amM:=ah (Γ:=apM) (f:=6) (φ:=φBp) rfl
def air:=ah (Γ:=apM) (f:=13) (φ:=uF) rfl
set_option maxRecDepth 20000 in
theorem lawBpE_ok:Sound Tryz.prog 4 adA:=by
 refine HZ.sound (N:=96) (rs:=[.tmp 2]) Tryz.func4 rfl rfl rfl fun ps r hr=>?_;obtain⟨⟨p,q,x,y,z⟩,rfl,hpre,rfl⟩:=kW hr;clear hr;refine⟨by simp,fun B w00=>HZ.start ?_⟩;simp only[dIs,dUs,dSs,bR,bV,bT,bU,aI,bW,aL,aO,aH,aJ];(try dsimp only at hpre⊢);show HZ _ _ _ _ _ _ ⟨(bM [ahv p q x y z]).tm,fun _=>none,0⟩ _;have ap1:=@abH p q x y z hpre.1 hpre.2;clear hpre;by_cases hneg:alT p q<0
 ·have gbpf_c11:=afD;have gbpf_c12:=agk;have gbpf_c7:=amj;have gbpf_c6:=amM;have gbpf_c13:=air
  (refine HZ.seq (HZ.eng mixed aW (by kernel_rfl) ?_);(try dsimp only);((refine wlk ?_;intros));(try dsimp only[X.out]);(try simp only[↓reduceIte]));(refine HZ.seq (HZ.eng mixed aW (by kernel_rfl) ?_);(try dsimp only);((refine wlk ?_;intros));(try dsimp only[X.out]);(try simp only[↓reduceIte]));(refine HZ.seq (HZ.eng mixed aW (by kernel_rfl) ?_);(try dsimp only);((refine wlk ?_;intros));(try dsimp only[X.out]);(try simp only[↓reduceIte]));(refine HZ.seq (HZ.eng mixed aW (by kernel_rfl) ?_);(try dsimp only);((refine wlk ?_;intros));(try dsimp only[X.out]);(try simp only[↓reduceIte]));refine⟨by simp,⟨_,fun g w v h=>h,by(simp(disch:=(first|omega|(simp only[push_cast];first|done|omega))) only[push_cast,↓reduceIte,Nat.reduceEqDiff,Nat.reduceBEq,Nat.reduceAdd,Nat.reduceSub,Int.reduceToNat, *]<;>with_reducible exact rfl)⟩,fun i e=>False.elim e⟩
 obtain⟨hs,hb,hlt⟩:=akh (p:=p) (q:=q) (by omega);have hss:awh p:=⟨hb.1,fun k=>(hb.2.1 k).1⟩;have ap2:=@aa2 p q x y z hs hb.2.2.1;have ap3:=aqb (x:=x) (y:=y) (z:=z) hb;have hqs:=hb.2.2.1;obtain⟨hV1,hV2⟩:=ahd p q x y z;have hpages:=fun(w:World) (Jm:Nat→Prop) (args:Array Value)=>zf (x:=x) (y:=y) (z:=z) (w:=w) (Jm:=Jm) (args:=args) hb;replace hpages:=Lib.hid hpages;generalize alT p q=sz at*;generalize bpV p q x y z=V at*;generalize bpB p q x y z=bb at*;have hVs:o7 V:=⟨by omega,List.all_eq_true.2 fun l hl=>by obtain⟨j,hj,rfl⟩:=List.getElem_of_mem hl;have:=aa0 hj;rw[List.getElem?_eq_getElem hj,Option.getD_some]at this;exact decide_eq_true (by omega)⟩
 have ap4:=zn hVs.1 hVs.2;replace ap4:=Lib.hid ap4;have ap5:=aa4 (akT (l:=V) (k:=1) (by omega) (by omega) (by decide) (by decide));rw[ahU]at ap5;replace ap5:=Lib.hid ap5;replace hVs:=Lib.hid hVs;have gbpf_c11:=afD;have gbpf_c12:=agk;have gbpf_c7:=amj;have gbpf_c6:=amM;have gbpf_c13:=air;(refine HZ.seq (HZ.eng mixed aW (by kernel_rfl) ?_);(try dsimp only);((refine wlk ?_;intros));(try dsimp only[X.out]);(try simp only[↓reduceIte]));(refine HZ.seq (HZ.eng mixed aW (by kernel_rfl) ?_);(try dsimp only);((refine wlk ?_;intros));(try dsimp only[X.out]);(try simp only[↓reduceIte]));(refine HZ.seq (HZ.eng mixed aW (by kernel_rfl) ?_);(try dsimp only);((refine wlk ?_;intros));(try dsimp only[X.out]);(try simp only[↓reduceIte]));(refine HZ.seq (HZ.eng mixed aW (by kernel_rfl) ?_);(try dsimp only);((refine wlk ?_;intros));(try dsimp only[X.out]);(try simp only[↓reduceIte]));(refine HZ.seq (HZ.eng mixed aW (by kernel_rfl) ?_);(try dsimp only);((refine wlk ?_;intros));(try dsimp only[X.out]);(try simp only[↓reduceIte]));refine HZ.seq (HZ.each ?_);(refine ZO.pre (imm:=⟨[],[],[]⟩) 1 aW (by kernel_rfl) (by simp only[List.take_succ_cons,List.take_zero]<;>exact rfl) (by simp only[List.drop_succ_cons,List.drop_zero]<;>exact rfl) (by simp only[List.map_cons,List.map_nil]<;>exact rfl) ?_;(try dsimp only);((refine wlk ?_;intros));(try dsimp only));refine ZO.wh rfl rfl ⟨_,Tryz.func12,rfl,rfl⟩ rfl (by rintro y ⟨⟩;decide) (fun v σ'=>∃a n c a2 n2 c2 vs,v=bkV (.slice a n c) (.slice a2 n2 c2) x y z∧σ'=aeY 24 9 (.slice a n c) vs (.slice a2 n2 c2) p q∧∀i,(mI (.slice a n c) vs i∨(Value.slice a2 n2 c2).ownBlock=some i)→B≤i) (fun a w1 hst=>?_) (fun v σ' ⟨a1,n1,c1,a2,n2,c2,vs,e1,e2,hbo⟩=>?_)
 ·obtain⟨⟨io,w0,g,hr,hC⟩,hM⟩:=hst
  simp only[List.map_toArray,List.map_cons,List.map_nil];have hrep:=hr.avt (x:=.tmp 25) (q:=ahv p q x y z) (by(simp(disch:=(first|omega|(simp only[push_cast];first|done|omega))) only[push_cast,↓reduceIte,Nat.reduceEqDiff,Nat.reduceBEq,Nat.reduceAdd,Nat.reduceSub,Int.reduceToNat, *]<;>with_reducible exact rfl));have hT1:jv w1 fun _=>False:=(hr.tab.keep hr.fr fun t ht=>(hr.tab.apart t ht)).io fun _ _ q=>False.elim q;refine(aeJ hss hqs (fun b hb=>hb) hT1 ⟨_,_,rfl,hrep,rfl⟩).mono ?_;rintro e w' ⟨vo,vs,vp,rfl,hf,hM2,hb2⟩;have hsz:=Nat.le_trans hC.sz hr.fr.size;obtain⟨a1,n1,c1,rfl⟩:=hM2.ss.out.sl;obtain⟨a2,n2,c2,rfl⟩:=hM2.row.sl;exact⟨_,_,rfl,⟨a1,n1,c1,a2,n2,c2,vs,rfl,rfl,fun i hi=>Nat.le_trans hsz (hb2 i hi)⟩,⟨hf.os,hf.tape,hf.output,hf.size,fun i hi _=>hf.block i hi fun e=>e⟩,fun i hi e=>by have:=hb2 i e;omega,fun i e=>False.elim e,fun i e=>hM2.lt e,hM2⟩
 subst e1 e2;have hc1:bA (bkQ (.slice a1 n1 c1) (.slice a2 n2 c2) x y z)=some [.val (.slice a1 n1 c1),.val (.slice a2 n2 c2),.val (.int .i64 x),.val (.int .i64 y),.val (.int .i64 z)]:=rfl;dsimp only[AS.put];refine ZO.weak (t:=26) (p:=bkQ (.slice a1 n1 c1) (.slice a2 n2 c2) x y z) (fun g w v h=>aqy g w v h) ?_;(try dsimp only);(refine ZO.pre (imm:=⟨[],[],[]⟩) 2 aW (by kernel_rfl) (by simp only[List.take_succ_cons,List.take_zero]<;>exact rfl) (by simp only[List.drop_succ_cons,List.drop_zero]<;>exact rfl) (by simp only[List.map_cons,List.map_nil]<;>exact rfl) ?_;(try dsimp only);((refine wlk ?_;intros));(try dsimp only));refine ZO.nil ?_;(try dsimp only);refine HZ.seq (HZ.each ?_);(refine ZO.pre (imm:=⟨[],[],[]⟩) 1 aW (by kernel_rfl) (by simp only[List.take_succ_cons,List.take_zero]<;>exact rfl) (by simp only[List.drop_succ_cons,List.drop_zero]<;>exact rfl) (by simp only[List.map_cons,List.map_nil]<;>exact rfl) ?_;(try dsimp only);((refine wlk ?_;intros));(try dsimp only));refine ZO.wh rfl rfl ⟨_,Tryz.func6,rfl,rfl⟩ rfl (by rintro y ⟨⟩;decide) (fun r σ'=>∃a n c vg,r=.tuple #[.slice a n c,.bool bb]∧σ'=avD (aeY 24 9 (.slice a1 n1 c1) vs (.slice a2 n2 c2) p q) (ssF 24 9 (.slice a n c) vg V)∧∀i,mI (.slice a n c) vg i→B≤i) (fun a w1 hst=>?_) (fun r σ' ⟨a3,n3,c3,vg,e1,e2,hbg⟩=>?_)
 ·obtain⟨⟨io,w0,g,hr,hC⟩,hM⟩:=hst
  have hM1:ahA 24 9 (.slice a1 n1 c1) vs (.slice a2 n2 c2) p q w1:=hM;have hX:=hr.look (.tmp 28);rw[show look _ (.tmp 28)=bkQ (.slice a1 n1 c1) (.slice a2 n2 c2) x y z from by(simp(disch:=(first|omega|(simp only[push_cast];first|done|omega))) only[push_cast,↓reduceIte,Nat.reduceEqDiff,Nat.reduceBEq,Nat.reduceAdd,Nat.reduceSub,Int.reduceToNat, *]<;>with_reducible exact rfl)]at hX;have hv:=vJ hX;have hT1:jv w1 fun _=>False:=(hr.tab.keep hr.fr fun t ht=>(hr.tab.apart t ht)).io fun _ _ q=>False.elim q;simp only[List.map_toArray,List.map_cons,List.map_nil];rw[hv];refine(hpages.out w1 (fun i=>i<w1.heap.size) _ (fun i hi=>hi) hT1 ⟨_,_,rfl,hM1.rep,rfl⟩).mono ?_;rintro e w' ⟨v,vg,rfl,hf,hS,hb2⟩;have hsz:=Nat.le_trans hC.sz hr.fr.size;obtain⟨a3,n3,c3,rfl⟩:=hS.out.sl;have hk:∀i,i<w1.heap.size→w'.heap[i]?=w1.heap[i]?:=fun i hi=>hf.block i hi fun e=>e;refine⟨_,_,rfl,⟨a3,n3,c3,vg,rfl,rfl,fun i hi=>Nat.le_trans hsz (hb2 i hi)⟩,⟨hf.os,hf.tape,hf.output,hf.size,fun i hi _=>hk i hi⟩,fun i hi e=>e.elim id fun e=>by have:=hb2 i e;omega,fun i e=> .inl e,fun i e=>e.elim (fun e=>Nat.lt_of_lt_of_le (hM1.lt e) hf.size) fun e=>hS.lt e,⟨⟨⟨hM1.ss.same fun i hi=>hk i (hM1.ss.lt hi),hM1.row.same fun i hi=>hk i (hM1.row.lt hi),hM1.ap⟩,hS⟩,fun i e e2=>?_⟩⟩;have:=hM1.lt e;have:=hb2 i e2;omega
 subst e1 e2;dsimp only[AS.put];refine ZO.weak (t:=29) (p:=.tup [.val (.slice a3 n3 c3),.val (.bool bb)]) (fun g w v h=>ajp g w v h) ?_;(try dsimp only);(refine ZO.pre (imm:=⟨[],[],[]⟩) 5 aW (by kernel_rfl) (by simp only[List.take_succ_cons,List.take_zero]<;>exact rfl) (by simp only[List.drop_succ_cons,List.drop_zero]<;>exact rfl) (by simp only[List.map_cons,List.map_nil]<;>exact rfl) ?_;(try dsimp only);((refine wlk ?_;intros));(try dsimp only));refine ZO.nil ?_;(try dsimp only);refine HZ.seq (HZ.seq (HZ.each ?_));(refine ZO.pre (imm:=⟨[],[],[]⟩) 2 aW (by kernel_rfl) (by simp only[List.take_succ_cons,List.take_zero]<;>exact rfl) (by simp only[List.drop_succ_cons,List.drop_zero]<;>exact rfl) (by simp only[List.map_cons,List.map_nil]<;>exact rfl) ?_;(try dsimp only);((refine wlk ?_;intros));(try dsimp only));refine ZO.ald (ps:=[aaj V,aaj V]) (u:=.bool true) rfl rfl ⟨_,Tryz.func13,rfl,rfl⟩ rfl (by decide) iB ap4.out rfl (fun a w1 hst=>?_) ?_
 ·obtain⟨g,hlk,hall,hM⟩:=hst.get
  have hS:iM 24 9 (.slice a3 n3 c3) vg V w1:=hM.1.2;have hX:=hlk (.tmp 32);rw[show look _ (.tmp 32)=.val (.slice a3 n3 c3)from by(simp(disch:=(first|omega|(simp only[push_cast];first|done|omega))) only[push_cast,↓reduceIte,Nat.reduceEqDiff,Nat.reduceBEq,Nat.reduceAdd,Nat.reduceSub,Int.reduceToNat, *]<;>with_reducible exact rfl)]at hX;simp only[Rep]at hX;simp only[List.map_toArray,List.map_cons,List.map_nil];rw[hX];exact⟨_,_,rfl,hS.rep fun i hi=>hS.lt hi,_,_,rfl,hall (.tmp 33) (aaj V) (by(simp(disch:=(first|omega|(simp only[push_cast];first|done|omega))) only[push_cast,↓reduceIte,Nat.reduceEqDiff,Nat.reduceBEq,Nat.reduceAdd,Nat.reduceSub,Int.reduceToNat, *]<;>with_reducible exact rfl)),rfl⟩
 dsimp only[AS.put];(refine ZO.pre (imm:=⟨[],[],[]⟩) 6 aW (by kernel_rfl) (by simp only[List.take_succ_cons,List.take_zero]<;>exact rfl) (by simp only[List.drop_succ_cons,List.drop_zero]<;>exact rfl) (by simp only[List.map_cons,List.map_nil]<;>exact rfl) ?_;(try dsimp only);((refine wlk ?_;intros));(try dsimp only));refine ZO.nil ?_;(try dsimp only);(refine HZ.eng mixed aW (by kernel_rfl) ?_;(try dsimp only);((refine wlk ?_;intros));(try dsimp only[X.out]);(try simp only[↓reduceIte]));refine HZ.seq (HZ.seq ?_);refine HZ.avS (Γ:=apM) (imm:=⟨[],[41,42],[0,1]⟩) (xs:=[41,43]) (d:=44) (RA:=fun v σ'=>v=.bool true∧σ'=avD (aeY 24 9 (.slice a1 n1 c1) vs (.slice a2 n2 c2) p q) (ssF 24 9 (.slice a3 n3 c3) vg V)) 3 mixed (by simp only[List.take_succ_cons,List.take_zero]<;>exact rfl) (by simp only[List.drop_succ_cons,List.drop_zero]<;>exact rfl) (by simp only[List.map_cons,List.map_nil]<;>exact rfl) rfl rfl rfl rfl (by kernel_rfl) (by kernel_rfl) (by kernel_rfl) (by kernel_rfl) (by kernel_rfl) (fun v=>by kernel_rfl) (fun io w0 g s a w hr hC hM=>aW.w) ?_;(try dsimp only);(refine wlk ?_;intros);(try dsimp only);refine⟨?_,fun s a w hz e1 e2 e3 Kn Q' hK=>?_,?_⟩
 ·rintro v σ' ⟨rfl,rfl⟩ io w0 g s a w hr hC hM
  exact aW.w
 ·have hA:bI (kG fun i=>i<w.heap.size) w [ahv p q x y z,ahv p q x y z] [a.eval (.tmp 41),a.eval (.tmp 43)]:=by
   have h41:s.tm 41=bkQ (.slice a1 n1 c1) (.slice a2 n2 c2) x y z:=(e3 41 (by decide)).symm.trans (by(simp(disch:=(first|omega|(simp only[push_cast];first|done|omega))) only[push_cast,↓reduceIte,Nat.reduceEqDiff,Nat.reduceBEq,Nat.reduceAdd,Nat.reduceSub,Int.reduceToNat, *]<;>with_reducible exact rfl));have h43:reify false 0 s.ob fuel (look s.tm (.tmp 43))=some (ahv p q x y z):=by rw[show look s.tm (.tmp 43)=s.tm 43 from rfl,←e3 43 (by decide),←e1];(simp(disch:=(first|omega|(simp only[push_cast];first|done|omega))) only[push_cast,↓reduceIte,Nat.reduceEqDiff,Nat.reduceBEq,Nat.reduceAdd,Nat.reduceSub,Int.reduceToNat, *]<;>with_reducible exact rfl)
   clear e1 e2 e3 hK;obtain⟨g,hlk,hall,hM⟩:=Zt.get hz;have hM1:ahA 24 9 (.slice a1 n1 c1) vs (.slice a2 n2 c2) p q w:=hM.1.1;have hX:=hlk (.tmp 41);rw[show look s.tm (.tmp 41)=s.tm 41 from rfl,h41]at hX;have hv:=vJ hX;rw[hv];exact⟨_,_,rfl,hM1.rep,_,_,rfl,hall (.tmp 43) _ h43,rfl⟩
  exact Zt.asC (ps:=[ahv p q x y z,ahv p q x y z]) (u:=.bool true) rfl rfl ⟨_,Tryz.func14,rfl,rfl⟩ rfl (by decide) afP (@aaZ p q x y z hs hqs) hz (Jm:=fun i=>i<w.heap.size) (fun i hi=>hi) (by simp only[List.map_toArray,List.map_cons,List.map_nil];exact hA) (fun a' w' hz'=>hK _ _ a' w' hz' ⟨rfl,rfl⟩)
 rintro v σ' ⟨rfl,rfl⟩ a w hz Kn Q' hK;refine Zt.ax8 (x:=.tmp 44) (b:=true) rfl rfl (by decide) ?_ hz (fun a' w' hz'=>hK _ _ a' w' hz' ?_)
 ·dsimp only[AS.put]
  (simp(disch:=(first|omega|(simp only[push_cast];first|done|omega))) only[push_cast,↓reduceIte,Nat.reduceEqDiff,Nat.reduceBEq,Nat.reduceAdd,Nat.reduceSub,Int.reduceToNat, *]<;>with_reducible exact rfl)
 dsimp only[AS.put,X.out];clear hz hK;(refine HZ.eng mixed aW (by kernel_rfl) ?_;(try dsimp only);((refine wlk ?_;intros));(try dsimp only[X.out]);(try simp only[↓reduceIte]));(refine HZ.seq (HZ.eng mixed aW (by kernel_rfl) ?_);(try dsimp only);((refine wlk ?_;intros));(try dsimp only[X.out]);(try simp only[↓reduceIte]));refine HZ.seq (HZ.each ?_);(refine ZO.pre (imm:=⟨[],[],[]⟩) 2 aW (by kernel_rfl) (by simp only[List.take_succ_cons,List.take_zero]<;>exact rfl) (by simp only[List.drop_succ_cons,List.drop_zero]<;>exact rfl) (by simp only[List.map_cons,List.map_nil]<;>exact rfl) ?_;(try dsimp only);((refine wlk ?_;intros));(try dsimp only));refine ZO.wh rfl rfl ⟨_,Tryz.func15,rfl,rfl⟩ rfl (by rintro y ⟨⟩;decide) (fun v σ'=>v=.int .i64 (1+jV p+q.length)∧σ'=avD (axa (.slice a1 n1 c1) vs (.slice a2 n2 c2)) (ssF 24 9 (.slice a3 n3 c3) vg V)) (fun a w1 hst=>?_) (fun v σ' ⟨e1,e2⟩=>?_)
 ·have hst0:=hst
  obtain⟨g,hlk,hall,hM⟩:=hst0.get;have hM1:ahA 24 9 (.slice a1 n1 c1) vs (.slice a2 n2 c2) p q w1:=hM.1.1;have hS:iM 24 9 (.slice a3 n3 c3) vg V w1:=hM.1.2;have hap:=hM.2;have hX:=hlk (.tmp 46);have hY:=hlk (.tmp 47);rw[show look _ (.tmp 46)=bkQ (.slice a1 n1 c1) (.slice a2 n2 c2) x y z from by(simp(disch:=(first|omega|(simp only[push_cast];first|done|omega))) only[push_cast,↓reduceIte,Nat.reduceEqDiff,Nat.reduceBEq,Nat.reduceAdd,Nat.reduceSub,Int.reduceToNat, *]<;>with_reducible exact rfl)]at hX;rw[show look _ (.tmp 47)=.val (.int .i64 1)from by(simp(disch:=(first|omega|(simp only[push_cast];first|done|omega))) only[push_cast,↓reduceIte,Nat.reduceEqDiff,Nat.reduceBEq,Nat.reduceAdd,Nat.reduceSub,Int.reduceToNat, *]<;>with_reducible exact rfl)]at hY;have hv:=vJ hX;simp only[Rep]at hY;obtain⟨⟨io,w0,g2,hr,hC⟩,_⟩:=hst;have hT1:jv w1 fun i=>mI (.slice a1 n1 c1) vs i∨(Value.slice a2 n2 c2).ownBlock=some i:=(hr.tab.keep hr.fr fun t ht=>(hr.tab.apart t ht)).io fun t ht q=>(hC.tk t ht).2 (.inl q);refine(zo (x:=x) (y:=y) (z:=z) (k0:=1) hM1 hlt hb.1 hqs (by decide) (by decide) hT1 ?_).mono ?_
  ·simp only[List.map_toArray,List.map_cons,List.map_nil]
   rw[hv,hY]
  rintro e w' ⟨rfl,hf⟩;refine⟨_,_,rfl,⟨rfl,rfl⟩,⟨hf.os,hf.tape,hf.output,hf.size,fun i hi hn=>hf.block i hi fun e=>hn (.inl e)⟩,fun i hi e=>e,fun i e=>e,fun i e=>Nat.lt_of_lt_of_le (e.elim hM1.lt hS.lt) hf.size,⟨⟨trivial,hS.same fun i hi=>hf.block i (hS.lt hi) fun e=>hap i e hi⟩,hap⟩⟩
 subst e1 e2;dsimp only[AS.put];(refine ZO.pre (imm:=⟨[],[],[]⟩) 1 aW (by kernel_rfl) (by simp only[List.take_succ_cons,List.take_zero]<;>exact rfl) (by simp only[List.drop_succ_cons,List.drop_zero]<;>exact rfl) (by simp only[List.map_cons,List.map_nil]<;>exact rfl) ?_;(try dsimp only);((refine wlk ?_;intros));(try dsimp only));refine ZO.nil ?_;(try dsimp only);refine HZ.seq (HZ.seq (HZ.each ?_));(refine ZO.pre (imm:=⟨[],[],[]⟩) 5 aW (by kernel_rfl) (by simp only[List.take_succ_cons,List.take_zero]<;>exact rfl) (by simp only[List.drop_succ_cons,List.drop_zero]<;>exact rfl) (by simp only[List.map_cons,List.map_nil]<;>exact rfl) ?_;(try dsimp only);((refine wlk ?_;intros));(try dsimp only));refine ZO.ald (ps:=[aaj V,aaj V]) (u:=.bool true) rfl rfl ⟨_,Tryz.func13,rfl,rfl⟩ rfl (by decide) iB ap4.out ?_ (fun a w1 hst=>?_) ?_
 ·rw[arR]
  (try dsimp only);(simp(disch:=(first|omega|(simp only[push_cast];first|done|omega))) only[push_cast,↓reduceIte,Nat.reduceEqDiff,Nat.reduceBEq,Nat.reduceAdd,Nat.reduceSub,Int.reduceToNat, *]<;>with_reducible exact rfl)
 ·obtain⟨g,hlk,hall,hM⟩:=hst.get
  have hS:iM 24 9 (.slice a3 n3 c3) vg V w1:=hM.1.2;have hX:=hlk (.tmp 52);rw[show look _ (.tmp 52)=.val (.slice a3 n3 c3)from by(simp(disch:=(first|omega|(simp only[push_cast];first|done|omega))) only[push_cast,↓reduceIte,Nat.reduceEqDiff,Nat.reduceBEq,Nat.reduceAdd,Nat.reduceSub,Int.reduceToNat, *]<;>with_reducible exact rfl)]at hX;simp only[Rep]at hX;simp only[List.map_toArray,List.map_cons,List.map_nil];rw[hX];exact⟨_,_,rfl,hS.rep fun i hi=>hS.lt hi,_,_,rfl,hall (.tmp 53) (aaj V) (by(simp(disch:=(first|omega|(simp only[push_cast];first|done|omega))) only[push_cast,↓reduceIte,Nat.reduceEqDiff,Nat.reduceBEq,Nat.reduceAdd,Nat.reduceSub,Int.reduceToNat, *]<;>with_reducible exact rfl)),rfl⟩
 dsimp only[AS.put];(refine ZO.pre (imm:=⟨[],[],[]⟩) 7 aW (by kernel_rfl) (by simp only[List.take_succ_cons,List.take_zero]<;>exact rfl) (by simp only[List.drop_succ_cons,List.drop_zero]<;>exact rfl) (by simp only[List.map_cons,List.map_nil]<;>exact rfl) ?_;(try dsimp only);((refine wlk ?_;intros));(try dsimp only));refine ZO.nil ?_;(try dsimp only);(refine HZ.eng mixed aW (by kernel_rfl) ?_;(try dsimp only);((refine wlk ?_;intros));(try dsimp only[X.out]);(try simp only[↓reduceIte]));(refine HZ.seq (HZ.eng mixed aW (by kernel_rfl) ?_);(try dsimp only);((refine wlk ?_;intros));(try dsimp only[X.out]);(try simp only[↓reduceIte]));refine HZ.seq (HZ.each ?_);(refine ZO.pre (imm:=⟨[],[],[]⟩) 2 aW (by kernel_rfl) (by simp only[List.take_succ_cons,List.take_zero]<;>exact rfl) (by simp only[List.drop_succ_cons,List.drop_zero]<;>exact rfl) (by simp only[List.map_cons,List.map_nil]<;>exact rfl) ?_;(try dsimp only);((refine wlk ?_;intros));(try dsimp only));refine ZO.wh rfl rfl ⟨_,Tryz.func16,rfl,rfl⟩ rfl (by rintro y ⟨⟩;decide) (fun v σ'=>v=.int .i64 (1+jV V)∧σ'=avD (axa (.slice a1 n1 c1) vs (.slice a2 n2 c2)) (ssF 24 9 (.slice a3 n3 c3) vg (mkL V 1 V.length))) (fun a w1 hst=>?_) (fun v σ' ⟨e1,e2⟩=>?_)
 ·have hst0:=hst
  obtain⟨g,hlk,hall,hM⟩:=hst0.get;have hS:iM 24 9 (.slice a3 n3 c3) vg V w1:=hM.1.2;have hap:=hM.2;have hX:=hlk (.tmp 62);have hY:=hlk (.tmp 63);rw[show look _ (.tmp 62)=.val (.slice a3 n3 c3)from by(simp(disch:=(first|omega|(simp only[push_cast];first|done|omega))) only[push_cast,↓reduceIte,Nat.reduceEqDiff,Nat.reduceBEq,Nat.reduceAdd,Nat.reduceSub,Int.reduceToNat, *]<;>with_reducible exact rfl)]at hX;rw[show look _ (.tmp 63)=.val (.int .i64 1)from by(simp(disch:=(first|omega|(simp only[push_cast];first|done|omega))) only[push_cast,↓reduceIte,Nat.reduceEqDiff,Nat.reduceBEq,Nat.reduceAdd,Nat.reduceSub,Int.reduceToNat, *]<;>with_reducible exact rfl)]at hY;simp only[Rep]at hX hY;obtain⟨⟨io,w0,g2,hr,hC⟩,_⟩:=hst;have hT1:jv w1 fun i=>mI (.slice a3 n3 c3) vg i:=(hr.tab.keep hr.fr fun t ht=>(hr.tab.apart t ht)).io fun t ht q=>(hC.tk t ht).2 (.inr q);refine(qb (k0:=1) hS (by omega) (by omega) (by decide) (by decide) hT1 ?_).mono ?_
  ·simp only[List.map_toArray,List.map_cons,List.map_nil]
   rw[hX,hY]
  rintro e w' ⟨rfl,hf,hS2⟩;exact⟨_,_,rfl,⟨rfl,rfl⟩,⟨hf.os,hf.tape,hf.output,hf.size,fun i hi hn=>hf.block i hi fun e=>hn (.inr e)⟩,fun i hi e=>e,fun i e=>e,fun i e=>e.elim (fun e=>Nat.lt_of_lt_of_le (Nat.lt_of_lt_of_le (hC.hb i (.inl e)) hr.fr.size) hf.size) hS2.lt,⟨⟨trivial,hS2⟩,hap⟩⟩
 subst e1 e2;dsimp only[AS.put];(refine ZO.pre (imm:=⟨[],[],[]⟩) 1 aW (by kernel_rfl) (by simp only[List.take_succ_cons,List.take_zero]<;>exact rfl) (by simp only[List.drop_succ_cons,List.drop_zero]<;>exact rfl) (by simp only[List.map_cons,List.map_nil]<;>exact rfl) ?_;(try dsimp only);((refine wlk ?_;intros));(try dsimp only));refine ZO.nil ?_;(try dsimp only);(refine HZ.seq (HZ.eng mixed aW (by kernel_rfl) ?_);(try dsimp only);((refine wlk ?_;intros));(try dsimp only[X.out]);(try simp only[↓reduceIte]));refine HZ.seq (HZ.each ?_);(refine ZO.pre (imm:=⟨[],[],[]⟩) 2 aW (by kernel_rfl) (by simp only[List.take_succ_cons,List.take_zero]<;>exact rfl) (by simp only[List.drop_succ_cons,List.drop_zero]<;>exact rfl) (by simp only[List.map_cons,List.map_nil]<;>exact rfl) ?_;(try dsimp only);((refine wlk ?_;intros));(try dsimp only));refine ZO.ald (ps:=[aaj (mkL V 1 V.length),.val (.int .i64 1)]) (u:=.int .i64 (1+jV V)) rfl rfl ⟨_,Tryz.func17,rfl,rfl⟩ rfl (by decide) jZ ap5.out rfl (fun a w1 hst=>?_) ?_
 ·obtain⟨g,hlk,hall,hM⟩:=hst.get
  have hS:iM 24 9 (.slice a3 n3 c3) vg (mkL V 1 V.length) w1:=hM.1.2;have hX:=hlk (.tmp 65);rw[show look _ (.tmp 65)=.val (.slice a3 n3 c3)from by(simp(disch:=(first|omega|(simp only[push_cast];first|done|omega))) only[push_cast,↓reduceIte,Nat.reduceEqDiff,Nat.reduceBEq,Nat.reduceAdd,Nat.reduceSub,Int.reduceToNat, *]<;>with_reducible exact rfl)]at hX;simp only[Rep]at hX;simp only[List.map_toArray,List.map_cons,List.map_nil];rw[hX];exact⟨_,_,rfl,hS.rep fun i hi=>hS.lt hi,_,_,rfl,hall (.tmp 66) (.val (.int .i64 1)) (by(simp(disch:=(first|omega|(simp only[push_cast];first|done|omega))) only[push_cast,↓reduceIte,Nat.reduceEqDiff,Nat.reduceBEq,Nat.reduceAdd,Nat.reduceSub,Int.reduceToNat, *]<;>with_reducible exact rfl)),rfl⟩
 dsimp only[AS.put];(refine ZO.pre (imm:=⟨[],[],[]⟩) 1 aW (by kernel_rfl) (by simp only[List.take_succ_cons,List.take_zero]<;>exact rfl) (by simp only[List.drop_succ_cons,List.drop_zero]<;>exact rfl) (by simp only[List.map_cons,List.map_nil]<;>exact rfl) ?_;(try dsimp only);((refine wlk ?_;intros));(try dsimp only));refine ZO.nil ?_;(try dsimp only);(refine HZ.seq (HZ.eng mixed aW (by kernel_rfl) ?_);(try dsimp only);((refine wlk ?_;intros));(try dsimp only[X.out]);(try simp only[↓reduceIte]));(refine HZ.seq (HZ.eng mixed aW (by kernel_rfl) ?_);(try dsimp only);((refine wlk ?_;intros));(try dsimp only[X.out]);(try simp only[↓reduceIte]));have ap4b:=ap4.out;(refine HZ.seq (HZ.eng mixed aW (by kernel_rfl) ?_);(try dsimp only);((refine wlk ?_;intros));(try dsimp only[X.out]);(try simp only[↓reduceIte]));(refine HZ.seq (HZ.eng mixed aW (by kernel_rfl) ?_);(try dsimp only);((refine wlk ?_;intros));(try dsimp only[X.out]);(try simp only[↓reduceIte]));(refine HZ.seq (HZ.eng mixed aW (by kernel_rfl) ?_);(try dsimp only);((refine wlk ?_;intros));(try dsimp only[X.out]);(try simp only[↓reduceIte]));refine HZ.seq (HZ.each ?_);(refine ZO.pre (imm:=⟨[],[],[]⟩) 2 aW (by kernel_rfl) (by simp only[List.take_succ_cons,List.take_zero]<;>exact rfl) (by simp only[List.drop_succ_cons,List.drop_zero]<;>exact rfl) (by simp only[List.map_cons,List.map_nil]<;>exact rfl) ?_;(try dsimp only);((refine wlk ?_;intros));(try dsimp only));refine ZO.ald (ps:=[aaj (mkL V 1 V.length),.val (.int .i64 1)]) (u:=.int .i64 (1+jV V)) rfl rfl ⟨_,Tryz.func17,rfl,rfl⟩ rfl (by decide) jZ ap5.out rfl (fun a w1 hst=>?_) ?_
 ·obtain⟨g,hlk,hall,hM⟩:=hst.get
  have hS:iM 24 9 (.slice a3 n3 c3) vg (mkL V 1 V.length) w1:=hM.1.2;have hX:=hlk (.tmp 88);rw[show look _ (.tmp 88)=.val (.slice a3 n3 c3)from by(simp(disch:=(first|omega|(simp only[push_cast];first|done|omega))) only[push_cast,↓reduceIte,Nat.reduceEqDiff,Nat.reduceBEq,Nat.reduceAdd,Nat.reduceSub,Int.reduceToNat, *]<;>with_reducible exact rfl)]at hX;simp only[Rep]at hX;simp only[List.map_toArray,List.map_cons,List.map_nil];rw[hX];exact⟨_,_,rfl,hS.rep fun i hi=>hS.lt hi,_,_,rfl,hall (.tmp 89) (.val (.int .i64 1)) (by(simp(disch:=(first|omega|(simp only[push_cast];first|done|omega))) only[push_cast,↓reduceIte,Nat.reduceEqDiff,Nat.reduceBEq,Nat.reduceAdd,Nat.reduceSub,Int.reduceToNat, *]<;>with_reducible exact rfl)),rfl⟩
 dsimp only[AS.put];(refine ZO.pre (imm:=⟨[],[],[]⟩) 1 aW (by kernel_rfl) (by simp only[List.take_succ_cons,List.take_zero]<;>exact rfl) (by simp only[List.drop_succ_cons,List.drop_zero]<;>exact rfl) (by simp only[List.map_cons,List.map_nil]<;>exact rfl) ?_;(try dsimp only);((refine wlk ?_;intros));(try dsimp only));refine ZO.nil ?_;(try dsimp only);(refine HZ.seq (HZ.eng mixed aW (by kernel_rfl) ?_);(try dsimp only);((refine wlk ?_;intros));(try dsimp only[X.out]);(try simp only[↓reduceIte]));(refine HZ.seq (HZ.eng mixed aW (by kernel_rfl) ?_);(try dsimp only);((refine wlk ?_;intros));(try dsimp only[X.out]);(try simp only[↓reduceIte]));(refine HZ.seq (HZ.eng mixed aW (by kernel_rfl) ?_);(try dsimp only);((refine wlk ?_;intros));(try dsimp only[X.out]);(try simp only[↓reduceIte]));(refine HZ.eng mixed aW (by kernel_rfl) ?_;(try dsimp only);((refine wlk ?_;intros));(try dsimp only[X.out]);(try simp only[↓reduceIte]));refine⟨by simp,⟨_,fun g w v h=>h,by(simp(disch:=(first|omega|(simp only[push_cast];first|done|omega))) only[push_cast,↓reduceIte,Nat.reduceEqDiff,Nat.reduceBEq,Nat.reduceAdd,Nat.reduceSub,Int.reduceToNat, *]<;>with_reducible exact rfl)⟩,fun i hi=>hi.elim (fun e=>hbo i e) (fun e=>hbg i e)⟩
section
open Go.ChangeShapes Go.WideShapes Go.ChangeAt Go.RowKit
open Go.ChangeMaps (open_string shut_string)
theorem own:ownKnob Tryz.prog.godebug=none:=by kernel_rfl
theorem laidOut:laidOutB Tryz.prog=true:=by kernel_rfl
theorem aht {x:Int} (h:(Lit.int .i64 x).wf=true):-9223372036854775808≤x∧x≤9223372036854775807:=by simpa [Lit.wf,IntKind.min,IntKind.max,IntKind.signed,IntKind.bits]using h
theorem addr_add (b off i:Nat):(⟨b,off,none⟩:Addr).add i=⟨b,off+i,none⟩:=by unfold Addr.add;by_cases h:i=0<;>simp[h]
theorem apP {w:World} {a:Addr} {v:Value} (h:w.cell? a=some v):a.block<w.heap.size:=by
 unfold World.cell? at h;by_cases hb:a.block<w.heap.size
 ·exact hb
 ·rw[Array.getElem?_eq_none (by omega)]at h
  cases a.spot<;>simp at h
abbrev gW (W:World):Gh:=kG fun b=>b<W.heap.size
section
variable {H:Type} {enc:TypeId×Value→H} {P:Program} {W:World} {base:Nat} {α β γ δ ε:Type}
def OpC (enc:TypeId×Value→H) (P:Program) (W:World) (base:Nat) (t:TypeId) (A:Dec α) (ok:α→Prop):Prop:=
 ∀fuel cs x,DataW.trod enc P W base (fun _=>true) true fuel t cs=some x→∃a v,ok a∧Rep (gW W) W (A.e a) v∧v.cells.toList=cs∧v.cells.all (·.oneCell')=true
theorem opI {t:TypeId} (ht:P.underlying t=some (.int .i64)):OpC enc P W base t dI okI:=fun fuel cs x h=>by obtain⟨n,rfl,_,hw⟩:=DataW.trod_int ht h;exact⟨n,.int .i64 n,aht hw,rfl,rfl,by simp[Value.cells,Value.oneCell']⟩
theorem opS {t:TypeId} (ht:P.underlying t=some .string):OpC enc P W base t dS okS:=fun fuel cs x h=>by obtain⟨s,rfl,_,hs⟩:=DataW.trod_string ht h;exact⟨s,.string s,hs,rfl,rfl,by simp[Value.cells,Value.oneCell']⟩
theorem an6 {n:Nat} {p:Nat→α→Prop} (h:∀i,i<n→∃x,p i x):∃l:List α,l.length=n∧∀i a,l[i]?=some a→p i a:=by
 induction n with
 |zero=>exact⟨[],rfl,fun i a h=>by simp at h⟩
 |succ n ih=>
  obtain⟨l,hl,hp⟩:=ih fun i hi=>h i (by omega);obtain⟨x,hx⟩:=h n (by omega);refine⟨l++[x],by simp[hl],fun i a hi=>?_⟩;rw[List.getElem?_append]at hi;split at hi
  ·exact hp i a hi
  ·rename_i hlt
   have:i-l.length=0:=by
    by_cases h0:i-l.length=0
    ·exact h0
    ·rw[List.getElem?_eq_none (by simp;omega)]at hi
     cases hi
   rw[this]at hi;simp at hi;subst hi;have:i=n:=by omega
   subst this;exact hx
theorem opL {t e:TypeId} {A:Dec α} {ok:α→Prop} (sz:Nat) (ht:P.underlying t=some (.slice e)) (hs:P.cellsOf e=sz) (h0:0<sz) (hA:OpC enc P W base e A ok):OpC enc P W base t (dL sz A) (okL ok):=fun fuel cs x h=>by
 rcases Go.Deep.open_slice ht h with⟨rfl,_⟩|⟨x,len,cap,m,n,D,Pl,rfl,hb,hl,hm,hmm,_,hx⟩
 ·exact⟨[],.slice none 0 0,⟨by simp,by simp⟩,⟨none,0,rfl,by simp,by simp,.inl rfl⟩,rfl,by simp[Value.cells,Value.oneCell']⟩
 have hm2:m=cap:=by simpa using hmm
 have hcap:cap≤9223372036854775807:=hm;obtain⟨l,hlen,hp⟩:=an6 (n:=len) (p:=fun i a=>ok a∧∃v,Rep (gW W) W (A.e a) v∧v.cells.size=sz∧v.cells.all (·.oneCell')=true∧∀j,j<sz→W.cell? ((x.add (i*sz)).add j)=v.cells[j]?) (fun i hi=>by
  obtain⟨cs',h1,h2⟩:=hx i (by omega);obtain⟨a,v,h3,h4,h5,h6⟩:=hA _ _ _ h2;obtain⟨_,h7,h8⟩:=World.cells?_some h1;rw[hs]at h7 h8;refine⟨a,h3,v,h4,?_,h6,fun j hj=>?_⟩
  ·rw[←h7,←h5];simp
  ·rw[h8 j hj,←h5];simp)
 refine⟨l,.slice (some x) len cap,⟨by omega,fun a ha=>?_⟩,?_,rfl,by simp[Value.cells,Value.oneCell']⟩
 ·obtain⟨i,hi,rfl⟩:=List.getElem_of_mem ha
  exact(hp i _ (by simp[hi])).1
 ·refine⟨some x,cap,by simp[hlen],by simp[hlen];omega,hcap,?_⟩
  by_cases hn:l=[]
  ·exact .inl (by simp[hn])
  right;have hl0:0<l.length:=List.length_pos_iff.2 hn;obtain⟨_,v,h4,h5,h6,h7⟩:=hp 0 l[0] (by simp[hl0]);have h8:=h7 0 h0;have h9:v.cells[0]?=some v.cells[0]:=by simp
  rw[h9]at h8;have hspot:=World.cell?_spot h8;have hlt:=apP h8;obtain⟨b,off,spot⟩:=x;simp only[Nat.zero_mul,Addr.add,if_true]at hspot hlt;subst hspot;refine⟨b,off,rfl,⟨rfl,hlt⟩,bf.of fun i p hi=>?_⟩;rw[List.getElem?_map,Option.map_eq_some_iff]at hi;obtain⟨a,ha,rfl⟩:=hi;obtain⟨_,v,h4,h5,h6,h7⟩:=hp i a ha;refine⟨v,h4,⟨h6,fun j hj=>?_⟩,h5⟩;have:=h7 j (by omega)
  rwa[addr_add,addr_add]at this
theorem opF {t:TypeId} {A:Dec α} {ok:α→Prop} {n:Nat} {cs:List Value} {y:DataW H×List MemPlace} (hA:OpC enc P W base t A ok) (h1:∀a,lF (A.e a)=true)
 (h:DataW.trod enc P W base (fun _=>true) true n t cs=some y):∃a v,ok a∧Rep (gW W) W (A.e a) v∧v.oneCell'=true∧cs=[v]:=by
 obtain⟨a,v,h3,h4,h5,h6⟩:=hA _ _ _ h;have:=xD h4 (h1 a);exact⟨a,v,h3,h4,this,by rw[←h5,oC this]⟩
theorem aye {t:TypeId} {f0 f1 f2 f3 f4:Field} {A:Dec α} {B:Dec β} {C:Dec γ} {D:Dec δ} {E:Dec ε} {ok0:α→Prop} {ok1:β→Prop} {ok2:γ→Prop} {ok3:δ→Prop} {ok4:ε→Prop} (hs:P.underlying t=some (.struct #[f0,f1,f2,f3,f4])) (hone:Go.Deep.oneCellFields P #[f0,f1,f2,f3,f4]=true) (hC:P.cellsOf t=5)
 (h0:OpC enc P W base f0.type A ok0) (o0:∀a,lF (A.e a)=true) (h1:OpC enc P W base f1.type B ok1) (o1:∀a,lF (B.e a)=true) (h2:OpC enc P W base f2.type C ok2) (o2:∀a,lF (C.e a)=true) (h3:OpC enc P W base f3.type D ok3) (o3:∀a,lF (D.e a)=true) (h4:OpC enc P W base f4.type E ok4) (o4:∀a,lF (E.e a)=true):
 OpC enc P W base t (dA5 A B C D E) (fun p=>ok0 p.1∧ok1 p.2.1∧ok2 p.2.2.1∧ok3 p.2.2.2.1∧ok4 p.2.2.2.2):=fun fuel cs x h=>by
 obtain⟨xs,n,_,_,hl,hlen,hf⟩:=DataW.trod_struct hs h;rw[hC]at hl
 match cs,hl with
 |[c0,c1,c2,c3,c4],_=>
  obtain⟨y0,hy0⟩:∃y,xs[0]?=some y:=⟨_,List.getElem?_eq_getElem (by rw[hlen];show 0<5;omega)⟩;obtain⟨q0,k0⟩:=Go.Deep.hone_of hone 0 f0 rfl;have t0:=hf 0 f0 rfl;rw[q0,k0,hy0]at t0;obtain⟨a0,v0,e0,r0,u0,z0⟩:=opF h0 o0 t0;have z0':c0=v0:=by simpa using z0
  subst z0';obtain⟨y1,hy1⟩:∃y,xs[1]?=some y:=⟨_,List.getElem?_eq_getElem (by rw[hlen];show 1<5;omega)⟩;obtain⟨q1,k1⟩:=Go.Deep.hone_of hone 1 f1 rfl;have t1:=hf 1 f1 rfl;rw[q1,k1,hy1]at t1;obtain⟨a1,v1,e1,r1,u1,z1⟩:=opF h1 o1 t1;have z1':c1=v1:=by simpa using z1
  subst z1';obtain⟨y2,hy2⟩:∃y,xs[2]?=some y:=⟨_,List.getElem?_eq_getElem (by rw[hlen];show 2<5;omega)⟩;obtain⟨q2,k2⟩:=Go.Deep.hone_of hone 2 f2 rfl;have t2:=hf 2 f2 rfl;rw[q2,k2,hy2]at t2;obtain⟨a2,v2,e2,r2,u2,z2⟩:=opF h2 o2 t2;have z2':c2=v2:=by simpa using z2
  subst z2';obtain⟨y3,hy3⟩:∃y,xs[3]?=some y:=⟨_,List.getElem?_eq_getElem (by rw[hlen];show 3<5;omega)⟩;obtain⟨q3,k3⟩:=Go.Deep.hone_of hone 3 f3 rfl;have t3:=hf 3 f3 rfl;rw[q3,k3,hy3]at t3;obtain⟨a3,v3,e3,r3,u3,z3⟩:=opF h3 o3 t3;have z3':c3=v3:=by simpa using z3
  subst z3';obtain⟨y4,hy4⟩:∃y,xs[4]?=some y:=⟨_,List.getElem?_eq_getElem (by rw[hlen];show 4<5;omega)⟩;obtain⟨q4,k4⟩:=Go.Deep.hone_of hone 4 f4 rfl;have t4:=hf 4 f4 rfl;rw[q4,k4,hy4]at t4;obtain⟨a4,v4,e4,r4,u4,z4⟩:=opF h4 o4 t4;have z4':c4=v4:=by simpa using z4
  subst z4';exact⟨(a0,a1,a2,a3,a4),.agg #[c0,c1,c2,c3,c4],⟨e0,e1,e2,e3,e4⟩,⟨_,rfl,⟨c0,[c1,c2,c3,c4],rfl,r0,⟨c1,[c2,c3,c4],rfl,r1,⟨c2,[c3,c4],rfl,r2,⟨c3,[c4],rfl,r3,⟨c4,[],rfl,r4,rfl⟩⟩⟩⟩⟩⟩,rfl,by simp[Value.cells,u0,u1,u2,u3,u4]⟩
theorem opT {t:TypeId} {A:Dec α} {ok:α→Prop} {cs:Array Value} {d:DataW H} {p:List MemPlace} (hA:OpC enc P W base t A ok) (h1:∀a,∃ps,A.e a=.agg ps)
 (h:DataW.Trod enc P W base (fun _=>true) true t (.agg cs) d p):∃a,ok a∧Rep (gW W) W (A.e a) (.agg cs):=by
 obtain⟨fuel,hf⟩:=h;obtain⟨a,u,h3,h4,h5,h6⟩:=hA _ _ _ hf;obtain⟨ps,hps⟩:=h1 a;have h7:=h4;rw[hps]at h7;obtain⟨us,rfl,_⟩:=h7;have:us=cs:=by have h5':us.toList=cs.toList:=h5;cases us;cases cs;simp_all
 subst this;exact⟨a,h3,h4⟩
theorem aoo {f:Nat} {φ:Fun} {ps:List PV} {args:Array Value} (h:Sound P f φ) (hT:jv W fun _=>False) (ha:φ ps=some (bv true)) (hr:bI (gW W) W ps args.toList):
 Calls P f args W fun e w'=>e=.returned (.bool true)∧Below W.heap.size W w':=by
 refine(h W (fun b=>b<W.heap.size) ps args _ ha (fun b hb=>hb) hT hr).mono ?_;rintro e w' ⟨v,rfl,hb,hv⟩;have:=hv {I:=fun _ _=>True,β:=fun _=>0,κ:=fun _=>0,nx:=0} fun b _ _=>trivial;have hv2:v=.bool true:=this;subst hv2;exact⟨rfl,hb⟩
end
end
end
end Go.Proofs.YtmmafcjjlbgnkaaGreat
