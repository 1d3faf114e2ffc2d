/- What the proof rests on, part 16: contracts of functions. No condition beyond what each states. -/
import Derived.Test.YtmmafcjjlbgnkaaGreatDoorZBi15
namespace Go.Proofs.YtmmafcjjlbgnkaaGreatDoor
open Go.RowKit
open Nat renaming reduceEqDiff→Rq,reduceBEq→Rb,reduceAdd→Ra,reduceSub→Rs
open Int renaming reduceToNat→Rt
set_option linter.all false
set_option maxHeartbeats 32000000
noncomputable section
def aCO:alC:=G4 dSs dSs dI dI fun ws pats wd most=>if rV ws∧rV pats then some (.tup [nP 1 ((mR ws pats wd most).map fun s=> .val (.string s)) 0,bv (mQ ws pats wd most)],nC 9 1 ((mR ws pats wd most).map fun s=> .val (.string s)))else none
theorem avL (es:List PV) (b:Bool):nN id fuel (.tup [nP 1 es 0,bv b])=some (.tup [nP 1 es 0,bv b]):=by cases es<;>rfl
theorem aus {T:Nat} (l:LS):(nC T 1 (l.map fun s=>PV.val (.string s))).mapM (wS id fuel)=some (nC T 1 (l.map fun s=>PV.val (.string s))):=by
 cases l with
 |nil=>rfl
 |cons s l=>show [(T,1,(s::l).map fun s=>PV.val (.string s))].mapM (wS id fuel)=_;rw[mapM_cons',mapM_nil',aiZ];rfl
theorem abS {l:List It} {wd most lk:Int} {f a:Nat} (ha:a<l.length) (h:(aU l wd most a lk).isSome=true):0<(bkF l wd most (f+1) a lk).length:=by obtain⟨r,hr⟩:=Option.isSome_iff_exists.1 h;rw[oJ (by omega) hr];simp
theorem axB:Tryz.prog.underlying 109=some (.map 3 9):=by kernel_rfl
theorem anQ:Go.Maps.Keyed Tryz.prog 3:=Go.Maps.int_keyed Tryz.underlying3
theorem aB3 {n:Int} (h:okI n):keyOf Tryz.prog 3 (.int .i64 n)=some (.int .i64 n):=Go.Maps.keyOf_int_mk Tryz.underlying3 (by show(decide (-9223372036854775808≤n)&&decide (n≤9223372036854775807))=true;simp[h.1,h.2])
def azd:Ctx:={fn:=aT [(91,aqW),(92,φBb),(93,akH)],io:=aT []}
theorem dO:ak Tryz.prog azd:=okΓ (fC Tryz.func91 ajO (fC Tryz.func92 alR (fC Tryz.func93 ajU aj))) aj
def afG:=ah (Γ:=azd) (f:=91) (φ:=aqW) rfl
def aem:=ah (Γ:=azd) (f:=92) (φ:=φBb) rfl
def abO:=ah (Γ:=azd) (f:=93) (φ:=akH) rfl
set_option maxRecDepth 100000 in
theorem asQ:qP Tryz.prog 60 aCO:=by
 refine HY.akW (k:=3) (N:=113) (rs:=[.tmp 8,.tmp 9]) Tryz.func60 rfl rfl rfl (fun ps r cs' hr=>?_) (fun ps r cs' hr=>?_)
 ·obtain⟨ws,pats,wd,most,rfl,hq⟩:=aez hr
  clear hr;split at hq
  case isFalse=>cases hq
  case isTrue hpre=>
  cases hq;refine⟨?_,avL _ _,aus _⟩;simp only[dIs,dUs,dSs,dw,dx,dh,dA,aS,dz,aQ,aR,aO,aP];(exact sr)
 obtain⟨ws,pats,wd,most,rfl,hq⟩:=aez hr;clear hr;split at hq
 case isFalse=>cases hq
 case isTrue hpre=>
 cases hq;refine⟨by simp,fun B w00=>HY.start ?_⟩;simp only[dIs,dUs,dSs,dw,dx,dh,dA,aS,dz,aQ,aR,aO,aP];have api:=aqQ hpre;unfold mR mQ;cases hp:tT ws pats with
 |false=>rw[hp]at api;simp only[Bool.false_and];rw[if_neg (by decide)];generalize(if adQ ws pats=true then piR ws pats else [])=l at*;generalize(if adQ ws pats=true then txR ws pats else [])=tx at*;clear hp;have gpgi_c91:=afG;have gpgi_c92:=aem;have gpgi_c93:=abO;refine HY.seq (HY.eng mixed dO (by kernel_rfl) ?_);(try dsimp only);(refine wlk ?_;intros);refine HY.seq (HY.eng mixed dO (by kernel_rfl) ?_);(try dsimp only);(refine wlk ?_;intros);refine HY.seq (HY.eng mixed dO (by kernel_rfl) ?_);(try dsimp only);(refine wlk ?_;intros);refine⟨?_,fun b L e=>by cases e⟩;rw[List.map_nil,dM,agK];((with_reducible apply nS (by first|exact .inl rfl|exact .inr rfl));(exact sr))
 |true=>
 have hB:=ate hp;have hV:piV ws pats=piR ws pats:=if_pos hp;have hA:adQ ws pats=true:=by obtain⟨h1,h2,h3,-⟩:=qO.1 hp;unfold adQ;rw[h1,h2,decide_eq_true h3];rfl
 rw[hp,hA,if_pos rfl,if_pos rfl]at api;simp only[Bool.true_and];rw[hV]at hB;have hl:=bP hB;have apb:=amQ (l:=piR ws pats) (wd:=wd) (most:=most) (show(piR ws pats).length≤1000 by omega);have hnb:=asK ws pats;rw[hV];have htz:∀k:Nat,((txR ws pats)[k]?.getD ByteArray.empty).size≤20:=afu;have htp:∀k:Nat,k<nb (piR ws pats)→1≤((txR ws pats)[k]?.getD ByteArray.empty).size:=fun k hk=>aot (by rw[←hnb];exact hk);have htl:(txR ws pats).length≤60:=by rw[←hnb];exact Nat.le_trans (List.length_filter_le _ _) hl
 have hob:kR (piR ws pats) wd most=true→ath (piR ws pats) (dK (piR ws pats) wd most):=fun h=>acX hB (fF.1 h).2.2.2.1.2;have hrr:kR (piR ws pats) wd most=true→auQ (piR ws pats) wd most=dK (piR ws pats) wd most:=fun h=>if_pos h;have hbp:kR (piR ws pats) wd most=true→0<(dK (piR ws pats) wd most).length:=fun h=>abS (fF.1 h).2.1 (fF.1 h).2.2.2.2;clear hp hA hV hpre;generalize piR ws pats=l at*;generalize txR ws pats=tx at*;cases hb:kR l wd most with
 |false=>rw[hb]at apb;rw[if_neg (by decide)];clear hob hrr hnb htz htp hb hbp;generalize auQ l wd most=br at*;have gpgi_c91:=afG;have gpgi_c92:=aem;have gpgi_c93:=abO;refine HY.seq (HY.eng mixed dO (by kernel_rfl) ?_);(try dsimp only);(refine wlk ?_;intros);refine HY.seq (HY.eng mixed dO (by kernel_rfl) ?_);(try dsimp only);(refine wlk ?_;intros);refine HY.seq (HY.eng mixed dO (by kernel_rfl) ?_);(try dsimp only);(refine wlk ?_;intros);refine HY.seq (HY.eng mixed dO (by kernel_rfl) ?_);(try dsimp only);(refine wlk ?_;intros);refine HY.seq (HY.eng mixed dO (by kernel_rfl) ?_);(try dsimp only);(refine wlk ?_;intros);refine⟨?_,fun b L e=>by cases e⟩;rw[List.map_nil,dM,agK];((with_reducible apply nS (by first|exact .inl rfl|exact .inr rfl));(exact sr))
 |true=>
  have hbr:=hob hb;have hbp0:=hbp hb;rw[hb,hrr hb]at apb;rw[if_pos rfl];clear hob hrr hb hbp;generalize dK l wd most=br at*;have gpgi_c91:=afG;have gpgi_c92:=aem;have gpgi_c93:=abO;refine HY.seq (HY.eng mixed dO (by kernel_rfl) ?_);(try dsimp only);(refine wlk ?_;intros);refine HY.seq (HY.eng mixed dO (by kernel_rfl) ?_);(try dsimp only);(refine wlk ?_;intros);refine HY.seq (HY.eng mixed dO (by kernel_rfl) ?_);(try dsimp only);(refine wlk ?_;intros);refine HY.seq (HY.eng mixed dO (by kernel_rfl) ?_);(try dsimp only);(refine wlk ?_;intros);refine HY.seq (HY.eng mixed dO (by kernel_rfl) ?_);(try dsimp only);(refine wlk ?_;intros);refine HY.seq (HY.each (HO.make rfl rfl (by decide) rfl fun b hbB=>?_));dsimp only[AS.put];refine HO.pre (imm:=⟨[],[],[]⟩) 1 dO (by kernel_rfl) (by simp only[List.take_succ_cons,List.take_zero]<;>exact rfl) (by simp only[List.drop_succ_cons,List.drop_zero]<;>exact rfl) (by simp only[List.map_cons,List.map_nil]<;>exact rfl) ?_;(try dsimp only);(refine wlk ?_;intros);refine HO.nil ?_;refine HY.seq (HY.seq (HY.eng mixed dO (by kernel_rfl) ?_));(try dsimp only);(refine wlk ?_;intros);(try dsimp only);have hll:((l.map iG).length:Int)=(l.length:Int):=by simp
  refine HY.block (HY.zf (α:=Nat×Nat) (fun i=>[(10,.lst true 7 (l.map iG)),(11,.lst true 1 (tx.map pvS)),(13,.lst true 1 (br.map pvN)),(14,.val (.map (some b))),(43,.lst true 7 (l.map iG)),(44,iv l.length),(45,iv i.1)])
   (fun i=>[]) (fun i=>i.2) (fun i σ=>i.1≤l.length∧σ=some (b,bxL l tx i.1)) (fun i=>l.length-i.1) (0,0) ⟨Nat.zero_le _,rfl⟩ ?_ ?_ rfl ?_)
  ·(try dsimp only)
   exact agi
  ·(try dsimp only)
   exact agr
  rintro⟨k,y⟩ σ ⟨hk,rfl⟩;dsimp only at hk⊢;refine HY.seq (HY.eng mixed dO (by kernel_rfl) ?_);by_cases hkl:k<l.length
  ·have hn1:=ak1 l k
   have hbl:=alp (tx:=tx) hk;have hnew:=ayZ (l:=l) (tx:=tx) (k:=k);have hyes:=fun h=>al4 (l:=l) (tx:=tx) (k:=k) h;have hno:=fun h=>as2 (l:=l) (tx:=tx) (k:=k) h;have hlt:=fun h=>aaf (l:=l) (n:=k) hkl h;rw[hnb]at hlt hn1;replace hnew:=Lib.hid hnew;replace hyes:=Lib.hid hyes;replace hno:=Lib.hid hno;replace hlt:=Lib.hid hlt;replace hbl:=Lib.hid hbl;clear hnb htz htp hbr;(refine wlk ?_;intros);refine HY.seq (HY.eng mixed dO (by kernel_rfl) ?_);(try dsimp only);(refine wlk ?_;intros);(try dsimp only);refine HY.seq (HY.block (HY.seq (HY.eng mixed dO (by kernel_rfl) ?_)));(try dsimp only);(refine wlk ?_;intros);refine HY.seq (HY.eng mixed dO (by kernel_rfl) ?_);(try dsimp only);(refine wlk ?_;intros);refine HY.cond (b:=decide ((l[k]?.getD it0).1=1)) (by(exact sr)) (fun hc=>?_) (fun hc=>?_)
   ·have hc1:(l[k]?.getD it0).1=1:=of_decide_eq_true hc
    have h9:=hlt.out hc1;have hy9:=hyes.out hc1;replace hy9:=Lib.hid hy9;have hb9:=hbl.out;clear hc hyes hno hlt hbl;generalize hnn:nbX l k=nn at*;replace hnn:=Lib.hid hnn;generalize hLL:bxL l tx k=LL at*;replace hLL:=Lib.hid hLL;replace hb9:=Lib.hid hb9;refine HY.each (HO.pre (imm:=⟨[],[],[]⟩) 4 dO (by kernel_rfl) (by simp only[List.take_succ_cons,List.take_zero]<;>exact rfl) (by simp only[List.drop_succ_cons,List.drop_zero]<;>exact rfl) (by simp only[List.map_cons,List.map_nil]<;>exact rfl) ?_);(try dsimp only);(refine wlk ?_;intros);refine HO.aGP axB rfl rfl rfl (by decide) (by(exact sr)) ?_;dsimp only[AS.put];rw[hb9.out];refine HO.pre (imm:=⟨[],[],[]⟩) 2 dO (by kernel_rfl) (by simp only[List.take_succ_cons,List.take_zero]<;>exact rfl) (by simp only[List.drop_succ_cons,List.drop_zero]<;>exact rfl) (by simp only[List.map_cons,List.map_nil]<;>exact rfl) ?_;(try dsimp only);(refine wlk ?_;intros);refine HO.upd anQ axB rfl rfl rfl (by(try dsimp only);(exact sr)) (key:=.int .i64 k) (val:=.string (tx[nn]?.getD .empty)) (congrArg toVal (show _=PV.val (.int .i64 k) by(try dsimp only);(exact sr))) (congrArg toVal (show _=PV.val (.string (tx[nn]?.getD .empty)) by(try dsimp only);(exact sr))) (aB3 (by omega)) fun L' hu=>?_;have hL':L'=bxL l tx (k+1):=by
     rw[hy9.out];cases hu with
     |new _=>rfl
     |old h=>exact absurd rfl (hnew.out (_,_) (by rw[h];exact List.mem_append.2 (.inr List.mem_cons_self)))
    refine HO.nil ?_;refine HY.eng mixed dO (by kernel_rfl) ?_;(try dsimp only);(refine wlk ?_;intros);(try dsimp only);refine⟨(k+1,y+1),⟨by dsimp only;omega,congrArg some (Prod.ext rfl hL')⟩,by dsimp only;omega,?_,?_,rfl⟩
    ·(try dsimp only)
     exact agi
    ·(try dsimp only)
     exact agr
   ·have hc1:¬(l[k]?.getD it0).1=1:=of_decide_eq_false hc
    have hn9:=hno.out hc1;clear hc hyes hno hlt hbl hnew;refine HY.skip ?_;refine HY.eng mixed dO (by kernel_rfl) ?_;(try dsimp only);(refine wlk ?_;intros);(try dsimp only);refine⟨(k+1,y+1),⟨by dsimp only;omega,congrArg some (Prod.ext rfl hn9.symm)⟩,by dsimp only;omega,?_,?_,rfl⟩
    ·(try dsimp only)
     exact agi
    ·(try dsimp only)
     exact agr
  ·obtain rfl:k=l.length:=by omega
   have hlook:∀n:Nat,n<l.length→(l[n]?.getD it0).1=1→lkP (azd.see ⟨109,b,ata (bxL l tx l.length)⟩).mp 109 (.val (.map (some b))) (some (.int .i64 (n:Int))) false=some (.val (.string (tx[nbX l n]?.getD .empty))):=fun n h1 h2=>by have:=aoV (akd (l:=l) (tx:=tx) l.length) (aym (tx:=tx) h1 h2);simpa [Ctx.see,lkP]using this
   have hcall:∀(ob:bJ) (ps:List PV),acU (azd.see ⟨109,b,ata (bxL l tx l.length)⟩) ob 93 ps=(ps.mapM (reify false 0 ob fuel)).bind akH:=abO;(refine wlk ?_;intros);refine HY.seq (HY.eng mixed dO (by kernel_rfl) ?_);(try dsimp only);(refine wlk ?_;intros);(try dsimp only);refine HY.see (M:=⟨109,b,ata (bxL l tx l.length)⟩) mixed dO rfl (fun key c p hp w1 g1 hM1=>?_) (by kernel_rfl) ?_
   ·obtain⟨rfl,v,hv,rfl⟩:=ano hp
    obtain⟨n,hn,hkey⟩:=am8 hv;dsimp only at hkey;subst hkey;exact⟨v,hM1.aa5 anQ axB false (aB3 (by omega)) hv,by simp[Rep]⟩
   generalize ata (bxL l tx l.length)=A9 at*;clear api apb;have htz2:=htz;have hlnk:=qH l tx br;have hbat:=fun k hk=>hbr.at_ (k:=k) hk;have hbq:=fun k hk=>(hbr.2 k hk).2;have hbl:=hbr.1;clear hbr;(try dsimp only);(refine wlk ?_;intros);refine aD (α:=Nat×Nat×Nat) mixed (fun z=>[(10,.lst true 7 (l.map iG)),(11,.lst true 1 (tx.map pvS)),(13,.lst true 1 (br.map pvN)),(14,.val (.map (some b))),(17,nP 1 ((mP l tx br z.1).map pvS) z.2.1),(18,iv ((frB br z.1:Int)-1)),(61,.lst true 1 (br.map pvN)),(62,iv br.length),(63,iv z.1)])
    (fun z=>nO 9 1 ((mP l tx br z.1).map pvS) z.2.1) (fun z=>z.2.2) (fun z=>z.1≤br.length∧(0<z.1→z.2.1<z.2.2)) (fun z=>br.length-z.1) (by kernel_rfl) (0,0,y) ⟨Nat.zero_le _,fun h=>absurd h (Nat.lt_irrefl 0)⟩ ?_ ?_ rfl ?_
   ·have hf0:frB br 0=0:=rfl
    dsimp only
    rw[hf0,show mP l tx br 0=[]from rfl,List.map_nil,dM];exact agi
   ·dsimp only
    rw[show mP l tx br 0=[]from rfl,List.map_nil,cO];exact agr
   rintro⟨k,x,y⟩ ⟨hk,hxy⟩;dsimp only at hk hxy⊢;have hlk0:=hlnk k;by_cases hkb:k<br.length
   ·by_cases hk0:k=0
    ·skip
     subst hk0;rw[show mP l tx br 0=[]from rfl,List.map_nil,dM,cO];obtain⟨b1,b2,b3,b4⟩:=hbat 0 hkb;have hq:=hbq 0 hkb;have hn0:mP l tx br (0+1)=mP l tx br 0++[lnR l tx (frB br 0) (br[0]?.getD 0).toNat]:=rfl;have hfs:=vP br 0;have hlk9:(mP l tx br 0).length=0:=rfl;rw[show mP l tx br 0=[]from rfl,List.nil_append]at hn0;generalize frB br 0=a at*;obtain⟨en,hen⟩:∃en:Nat,br[0]?.getD 0=(en:Int):=⟨(br[0]?.getD 0).toNat,by omega⟩;rw[hen,Int.toNat_natCast]at hn0 hfs b2 b3 b4 hq;rw[hen]at b1;have hline:=aog (tx:=tx) hB hq htp;have hmk:lnR l tx a en=if(l[en]?.getD it0).2.2.2.2.2.2=true then lnT l tx a (en-a)++⟨#[45]⟩else lnT l tx a (en-a):=rfl;rw[←hline]at hmk;have api:=afY (l:=l) (a:=a) (en:=en) hB b2 b3;rw[hq,if_pos rfl]at api;have hil:=rC l (aG l a) en;have him:=fun x hx=>vB (l:=l) (b:=aG l a) (c:=en) x hx;generalize hI:o8 l (aG l a) en=is at*;have hit:=fun j hj=>abu (l:=l) (tx:=tx) (is:=is) (j:=j) hj;have his:=fun j hj=>abV (l:=l) (tx:=tx) htz is j hj;have hfull:is.take is.length=is:=List.take_of_length_le (Nat.le_refl _);replace hit:=Lib.hid hit;replace him:=Lib.hid him;replace hmk:=Lib.hid hmk;replace hn0:=Lib.hid hn0;replace hfull:=Lib.hid hfull;replace hlook:=Lib.hid hlook;have HFS:=Lib.hid hfs;have hfe:=Lib.hid (show(frB br (0+1):Int)-1=(en:Int) by rw[hfs];omega);clear hline hq hI hlnk hbat hbq hnb htp hfs;have h45:(⟨#[45]⟩:ByteArray).size=1:=rfl;have h32:(⟨#[32]⟩:ByteArray).size=1:=rfl;have hill:((is.map pvN).length:Int)=(is.length:Int):=by simp
     (refine wlk ?_;intros);refine aD (α:=Nat) mixed (fun j=>[(10,.lst true 7 (l.map iG)),(11,.lst true 1 (tx.map pvS)),(13,.lst true 1 (br.map pvN)),(14,.val (.map (some b))),(17,.val (.slice none 0 0)),(18,iv ((a:Int)-1)),(20,iv en),(21,.val (.string (liF l tx (is.take j)))),(61,.lst true 1 (br.map pvN)),(62,iv br.length),(63,iv (0:Nat)),(70,.lst true 1 (is.map pvN)),(71,iv is.length),(72,iv j)])
      (fun _=>[]) (fun _=>y) (fun j=>j≤is.length) (fun j=>is.length-j) (by kernel_rfl) 0 (Nat.zero_le _) ?_ ?_ rfl ?_
     ·have hl0:liF l tx (is.take 0)=⟨#[]⟩:=rfl
      (try dsimp only);rw[hl0];exact agi
     ·(try dsimp only)
      exact agr
     intro j hj;have hsz:=his j hj;by_cases hjl:j<is.length
     ·have hxm:=him.out (is[j]?.getD 0) (by rw[List.getElem?_eq_getElem hjl];exact List.getElem_mem hjl)
      have ht:=hit.out j hjl;obtain⟨n,hnn⟩:∃n:Nat,is[j]?.getD 0=n:=⟨(is[j]?.getD 0).toNat,by omega⟩;rw[hnn,Int.toNat_natCast]at hxm;rw[hnn,Int.toNat_natCast]at ht;obtain⟨hn1,hn2,hn3⟩:=hxm;have hnl:n<l.length:=by omega
      have hk3:¬(l[n]?.getD it0).1=3:=hn3;have hS:uH l tx (liF l tx (is.take j)) n=if(l[n]?.getD it0).1=1 then liF l tx (is.take j)++(tx[nbX l n]?.getD .empty)else if 0<(l[n]?.getD it0).2.1 then liF l tx (is.take j)++⟨#[32]⟩else liF l tx (is.take j):=rfl;rw[hS]at ht;have hlk9:=hlook.out n hnl;have hz9:=htz2 (nbX l n);clear hS hn3 his;generalize hs2:liF l tx (is.take (j+1))=s2 at*;replace hs2:=Lib.hid hs2;generalize liF l tx (is.take j)=s at*;generalize nbX l n=nn at*;generalize tx[nn]?.getD ByteArray.empty=tn at*;generalize hyy:l[n]?.getD it0=yy at*;obtain⟨y1,y2',y3,y4,y5,y6,y7⟩:=yy;dsimp only at ht hk3 hlk9;by_cases k1:y1=1
      ·rw[if_pos k1]at ht
       have hf:=Lib.hid ht;have hlk8:=hlk9 k1;clear ht hlk9;subst k1;(refine wlk ?_;intros);refine⟨j+1,by dsimp only;omega,by dsimp only;omega,?_,?_,rfl⟩
       ·dsimp only
        rw[hs2.out,hf.out];exact agi
       ·dsimp only
        exact agr
      ·rw[if_neg k1]at ht
       by_cases k2:0<y2'
       ·rw[if_pos k2]at ht
        have hf:=Lib.hid ht;clear ht hlk9;(refine wlk ?_;intros);refine⟨j+1,by dsimp only;omega,by dsimp only;omega,?_,?_,rfl⟩
        ·dsimp only
         rw[hs2.out,hf.out];exact agi
        ·dsimp only
         exact agr
       ·rw[if_neg k2]at ht
        have hf:=Lib.hid ht;clear ht hlk9;(refine wlk ?_;intros);refine⟨j+1,by dsimp only;omega,by dsimp only;omega,?_,?_,rfl⟩
        ·dsimp only
         rw[hs2.out,hf.out];exact agi
        ·dsimp only
         exact agr
     ·obtain rfl:j=is.length:=by omega
      rw[hfull.out]at*;generalize hSS:liF l tx is=s at*;clear his hSS;generalize hyy:l[en]?.getD it0=yy at*;obtain⟨y1,y2',y3,y4,y5,y6,y7⟩:=yy;have hmk2:=hmk.out;clear hmk;dsimp only at hmk2;cases y7 with
      |true=>
       rw[if_pos rfl]at hmk2;have hn:=hn0.out;rw[hmk2]at hn;replace hn:=Lib.hid hn;clear hmk2 hn0;(refine wlk ?_;intros);refine⟨(0+1,y+1,y+2),⟨by dsimp only;omega,fun _=>by dsimp only;omega⟩,by dsimp only;omega,?_,?_,rfl⟩
       ·dsimp only
        rw[hn.out,hfe.out,ay (by simp)];exact agi
       ·dsimp only
        rw[hn.out,aB (by simp)];exact agr
      |false=>
       rw[if_neg (by decide)]at hmk2;have hn:=hn0.out;rw[hmk2]at hn;replace hn:=Lib.hid hn;clear hmk2 hn0;(refine wlk ?_;intros);refine⟨(0+1,y+1,y+2),⟨by dsimp only;omega,fun _=>by dsimp only;omega⟩,by dsimp only;omega,?_,?_,rfl⟩
       ·dsimp only
        rw[hn.out,hfe.out,ay (by simp)];exact agi
       ·dsimp only
        rw[hn.out,aB (by simp)];exact agr
    ·skip
     have hnp:0<((mP l tx br k).map pvS).length:=by rw[List.length_map];omega
     have hxy2:=hxy (by omega);rw[ay hnp,aB hnp,List.length_map,hlk0];have hxne:¬x=y:=by omega
     have hyne:¬y=x:=by omega
     obtain⟨b1,b2,b3,b4⟩:=hbat k hkb;have hq:=hbq k hkb;have hn0:mP l tx br (k+1)=mP l tx br k++[lnR l tx (frB br k) (br[k]?.getD 0).toNat]:=rfl;have hfs:=vP br k;generalize mP l tx br k=out at*;generalize frB br k=a at*;obtain⟨en,hen⟩:∃en:Nat,br[k]?.getD 0=(en:Int):=⟨(br[k]?.getD 0).toNat,by omega⟩;rw[hen,Int.toNat_natCast]at hn0 hfs b2 b3 b4 hq;rw[hen]at b1;have hline:=aog (tx:=tx) hB hq htp;have hmk:lnR l tx a en=if(l[en]?.getD it0).2.2.2.2.2.2=true then lnT l tx a (en-a)++⟨#[45]⟩else lnT l tx a (en-a):=rfl;rw[←hline]at hmk;have api:=afY (l:=l) (a:=a) (en:=en) hB b2 b3;rw[hq,if_pos rfl]at api;have hil:=rC l (aG l a) en;have him:=fun x hx=>vB (l:=l) (b:=aG l a) (c:=en) x hx;generalize hI:o8 l (aG l a) en=is at*;have hit:=fun j hj=>abu (l:=l) (tx:=tx) (is:=is) (j:=j) hj;have his:=fun j hj=>abV (l:=l) (tx:=tx) htz is j hj;have hfull:is.take is.length=is:=List.take_of_length_le (Nat.le_refl _);replace hit:=Lib.hid hit;replace him:=Lib.hid him;replace hmk:=Lib.hid hmk;replace hn0:=Lib.hid hn0;replace hfull:=Lib.hid hfull;replace hlook:=Lib.hid hlook;have HFS:=Lib.hid hfs;have hfe:=Lib.hid (show(frB br (k+1):Int)-1=(en:Int) by rw[hfs];omega);clear hline hq hI hlnk hbat hbq hnb htp hfs;have h45:(⟨#[45]⟩:ByteArray).size=1:=rfl;have h32:(⟨#[32]⟩:ByteArray).size=1:=rfl;have hill:((is.map pvN).length:Int)=(is.length:Int):=by simp
     (refine wlk ?_;intros);refine aD (α:=Nat) mixed (fun j=>[(10,.lst true 7 (l.map iG)),(11,.lst true 1 (tx.map pvS)),(13,.lst true 1 (br.map pvN)),(14,.val (.map (some b))),(17,.row x 1 0 k),(18,iv ((a:Int)-1)),(20,iv en),(21,.val (.string (liF l tx (is.take j)))),(61,.lst true 1 (br.map pvN)),(62,iv br.length),(63,iv (k:Nat)),(70,.lst true 1 (is.map pvN)),(71,iv is.length),(72,iv j)])
      (fun _=>[(x,9,1,out.map pvS)]) (fun _=>y) (fun j=>j≤is.length) (fun j=>is.length-j) (by kernel_rfl) 0 (Nat.zero_le _) ?_ ?_ rfl ?_
     ·have hl0:liF l tx (is.take 0)=⟨#[]⟩:=rfl
      (try dsimp only);rw[hl0];exact agi
     ·(try dsimp only)
      exact agr
     intro j hj;have hsz:=his j hj;by_cases hjl:j<is.length
     ·have hxm:=him.out (is[j]?.getD 0) (by rw[List.getElem?_eq_getElem hjl];exact List.getElem_mem hjl)
      have ht:=hit.out j hjl;obtain⟨n,hnn⟩:∃n:Nat,is[j]?.getD 0=n:=⟨(is[j]?.getD 0).toNat,by omega⟩;rw[hnn,Int.toNat_natCast]at hxm;rw[hnn,Int.toNat_natCast]at ht;obtain⟨hn1,hn2,hn3⟩:=hxm;have hnl:n<l.length:=by omega
      have hk3:¬(l[n]?.getD it0).1=3:=hn3;have hS:uH l tx (liF l tx (is.take j)) n=if(l[n]?.getD it0).1=1 then liF l tx (is.take j)++(tx[nbX l n]?.getD .empty)else if 0<(l[n]?.getD it0).2.1 then liF l tx (is.take j)++⟨#[32]⟩else liF l tx (is.take j):=rfl;rw[hS]at ht;have hlk9:=hlook.out n hnl;have hz9:=htz2 (nbX l n);clear hS hn3 his;generalize hs2:liF l tx (is.take (j+1))=s2 at*;replace hs2:=Lib.hid hs2;generalize liF l tx (is.take j)=s at*;generalize nbX l n=nn at*;generalize tx[nn]?.getD ByteArray.empty=tn at*;generalize hyy:l[n]?.getD it0=yy at*;obtain⟨y1,y2',y3,y4,y5,y6,y7⟩:=yy;dsimp only at ht hk3 hlk9;by_cases k1:y1=1
      ·rw[if_pos k1]at ht
       have hf:=Lib.hid ht;have hlk8:=hlk9 k1;clear ht hlk9;subst k1;(refine wlk ?_;intros);refine⟨j+1,by dsimp only;omega,by dsimp only;omega,?_,?_,rfl⟩
       ·dsimp only
        rw[hs2.out,hf.out];exact agi
       ·dsimp only
        exact agr
      ·rw[if_neg k1]at ht
       by_cases k2:0<y2'
       ·rw[if_pos k2]at ht
        have hf:=Lib.hid ht;clear ht hlk9;(refine wlk ?_;intros);refine⟨j+1,by dsimp only;omega,by dsimp only;omega,?_,?_,rfl⟩
        ·dsimp only
         rw[hs2.out,hf.out];exact agi
        ·dsimp only
         exact agr
       ·rw[if_neg k2]at ht
        have hf:=Lib.hid ht;clear ht hlk9;(refine wlk ?_;intros);refine⟨j+1,by dsimp only;omega,by dsimp only;omega,?_,?_,rfl⟩
        ·dsimp only
         rw[hs2.out,hf.out];exact agi
        ·dsimp only
         exact agr
     ·obtain rfl:j=is.length:=by omega
      rw[hfull.out]at*;generalize hSS:liF l tx is=s at*;clear his hSS;generalize hyy:l[en]?.getD it0=yy at*;obtain⟨y1,y2',y3,y4,y5,y6,y7⟩:=yy;have hmk2:=hmk.out;clear hmk;dsimp only at hmk2;cases y7 with
      |true=>
       rw[if_pos rfl]at hmk2;have hn:=hn0.out;rw[hmk2]at hn;replace hn:=Lib.hid hn;clear hmk2 hn0;(refine wlk ?_;intros);refine⟨(k+1,y+1,y+2),⟨by dsimp only;omega,fun _=>by dsimp only;omega⟩,by dsimp only;omega,?_,?_,rfl⟩
       ·dsimp only
        rw[hn.out,hfe.out,ay (by simp)];exact agi
       ·dsimp only
        rw[hn.out,aB (by simp)];exact agr
      |false=>
       rw[if_neg (by decide)]at hmk2;have hn:=hn0.out;rw[hmk2]at hn;replace hn:=Lib.hid hn;clear hmk2 hn0;(refine wlk ?_;intros);refine⟨(k+1,y+1,y+2),⟨by dsimp only;omega,fun _=>by dsimp only;omega⟩,by dsimp only;omega,?_,?_,rfl⟩
       ·dsimp only
        rw[hn.out,hfe.out,ay (by simp)];exact agi
       ·dsimp only
        rw[hn.out,aB (by simp)];exact agr
   ·obtain rfl:k=br.length:=by omega
    have hnp:0<((mP l tx br br.length).map pvS).length:=by rw[List.length_map];omega
    have hxy2:=hxy (by omega);rw[ay hnp,aB hnp,ay hnp,ahv hnp];generalize mP l tx br br.length=out at*;simp only[List.length_map,hlk0];(refine wlk ?_;intros);refine⟨?_,fun b2 L2 e=>by cases e;exact hbB⟩;((with_reducible apply pY (x) (by first|exact .inl rfl|exact .inr rfl));(focus(exact sr));(focus(exact sr)))
def blK (p:List LS) (q:LS) (x y:Int):Nat→LS
 |0=>[]
 |k+1=>blK p q x y k++mR (p[k]?.getD []) q x y
def bcK (p:List LS) (q:LS) (x y:Int):Nat→List Int
 |0=>[]
 |k+1=>bcK p q x y k++[((mR (p[k]?.getD []) q x y).length:Int)]
def blB (p:List LS) (q:LS) (x y z:Int):Bool:=jg p q x y z&&p.all fun w=>mQ w q x y
def blL (p:List LS) (q:LS) (x y z:Int):LS:=if blB p q x y z=true then blK p q x y p.length else []
def blC (p:List LS) (q:LS) (x y z:Int):List Int:=if blB p q x y z=true then bcK p q x y p.length else []
theorem abZ (p:List LS) (q:LS) (x y:Int):∀k,(blK p q x y k).length≤60*k
 |0=>by simp[blK]
 |k+1=>by have:=abZ p q x y k;have h2:=(aar (p[k]?.getD []) q x y).1;rw[blK,List.length_append];omega
theorem aax (p:List LS) (q:LS) (x y:Int):∀k,(bcK p q x y k).length=k
 |0=>rfl
 |k+1=>by rw[bcK,List.length_append,aax p q x y k];rfl
theorem adX {ws pats:LS} {wd most:Int} (h:mQ ws pats wd most=true):0<(mR ws pats wd most).length:=by unfold mR;rw[if_pos h,qH];unfold mQ at h;rw[Bool.and_eq_true]at h;obtain⟨h1,h2⟩:=h;have hV:piV ws pats=piR ws pats:=if_pos h1;rw[hV]at h2;exact abS (fF.1 h2).2.1 (fF.1 h2).2.2.2.2
theorem avv {ws pats:LS} {wd most:Int} (h:mQ ws pats wd most=false):mR ws pats wd most=[]:=by unfold mR;rw[if_neg (by rw[h];decide)]
theorem an8 {p:List LS} {q:LS} {x y:Int}:∀{k:Nat},(∀j,j<k→mQ (p[j]?.getD []) q x y=true)→0<k→0<(blK p q x y k).length
 |0,_,h=>by omega
 |k+1,h,_=>by have:=adX (h k (by omega));rw[blK,List.length_append];omega
def φBl:Fun:=F1 sD fun b=>if ab8 b.1 b.2.1 then some (.tup [.lst true 1 ((blL b.1 b.2.1 b.2.2.1 b.2.2.2.1 b.2.2.2.2).map fun s=> .val (.string s)),.lst true 1 ((blC b.1 b.2.1 b.2.2.1 b.2.2.2.1 b.2.2.2.2).map fun n=> .val (.int .i64 n)),bv (blB b.1 b.2.1 b.2.2.1 b.2.2.2.1 b.2.2.2.2)])else none
theorem awJ {p:List LS} {q:LS} {x y z:Int} (h:ab8 p q):φBl [.agg [.lst false 1 (p.map fun p=> .lst false 1 (p.map fun s=> .val (.string s))),.lst false 1 (q.map fun s=> .val (.string s)),.val (.int .i64 x),.val (.int .i64 y),.val (.int .i64 z)]]=some (.tup [.lst true 1 ((blL p q x y z).map fun s=> .val (.string s)),.lst true 1 ((blC p q x y z).map fun n=> .val (.int .i64 n)),.val (.bool (blB p q x y z))]):=
 (fM (A:=sD) (p,q,x,y,z)).trans (if_pos h)
def amg:Fun:=ac8 aCO
theorem ajP:Sound Tryz.prog 60 amg:=asQ.pure
theorem aoN {ws pats:LS} {wd most:Int} (h:rV ws∧rV pats) (h0:0<(mR ws pats wd most).length):amg [.lst false 1 (ws.map fun s=> .val (.string s)),.lst false 1 (pats.map fun s=> .val (.string s)),.val (.int .i64 wd),.val (.int .i64 most)]=some (.tup [.lst true 1 ((mR ws pats wd most).map fun s=> .val (.string s)),.val (.bool (mQ ws pats wd most))]):=by
 have hp:0<((mR ws pats wd most).map fun s=>PV.val (.string s)).length:=by simpa using h0
 refine mq (r:=.tup [.row 0 1 0 (mR ws pats wd most).length,.val (.bool (mQ ws pats wd most))]) (cs0:=[(9,1,(mR ws pats wd most).map fun s=> .val (.string s))]) ((auu (A:=dSs) (B:=dSs) (C:=dI) (D:=dI) ws pats wd most).trans ((if_pos h).trans (by rw[ay hp,ahv hp,List.length_map]))) ?_;rw[acK];(exact sr)
theorem ap7 {ws pats:LS} {wd most:Int} (h:rV ws∧rV pats) (h0:mQ ws pats wd most=false):amg [.lst false 1 (ws.map fun s=> .val (.string s)),.lst false 1 (pats.map fun s=> .val (.string s)),.val (.int .i64 wd),.val (.int .i64 most)]=some (.tup [.val (.slice none 0 0),.val (.bool false)]):=by refine mq (r:=.tup [.val (.slice none 0 0),.val (.bool false)]) (cs0:=[]) ((auu (A:=dSs) (B:=dSs) (C:=dI) (D:=dI) ws pats wd most).trans ((if_pos h).trans (by rw[avv h0,h0];rfl))) ?_;(exact sr)
abbrev lsP (p:List LS):PV:=.lst false 1 (p.map fun p=> .lst false 1 (p.map fun s=> .val (.string s)))
def aF8:Ctx:={fn:=aT [(9,pU),(66,ase)],io:=aT []}
theorem awr:ak Tryz.prog aF8:=okΓ (fC Tryz.func9 uW (fC Tryz.func66 ajc aj)) aj
def atP:=ah (Γ:=aF8) (f:=9) (φ:=pU) rfl
def ant:=ah (Γ:=aF8) (f:=66) (φ:=ase) rfl
theorem alV:Sound Tryz.prog 29 φBl:=by
 refine au mixed awr Tryz.func29 rfl 53 rfl [.tmp 2,.tmp 3,.tmp 4] rfl (by kernel_rfl) fun ps r hr=>?_;obtain⟨⟨p,q,x,y,z⟩,rfl,hpre,rfl⟩:=jy hr;refine⟨by simp,?_⟩;simp only[dIs,dUs,dSs,dw,dx,dh,dA,aS,dz,aQ,aR,aO,aP];(try dsimp only at hpre⊢);have apv:=zC (x:=x) (y:=y) (z:=z) hpre;obtain⟨hlen,hall,hoq⟩:=hpre;have api:=fun k:Nat=>asE (wd:=x) (most:=y) ⟨hall k,hoq⟩;have hp60:=fun k:Nat=>(aar (p[k]?.getD []) q x y).1;have hbk:=abZ p q x y;have hck:=aax p q x y;unfold blL blC blB;cases hb:jg p q x y z with
 |false=>rw[hb]at apv;simp only[Bool.false_and,Bool.false_eq_true,if_false,List.map_nil];clear api hp60 hbk hck hall hoq hb;have gbls_c9:=atP;have gbls_c66:=ant;exact wlkF
 |true=>
  rw[hb]at apv;have h6:p.length≤6:=by unfold jg at hb;simp only[Bool.and_eq_true,decide_eq_true_eq]at hb;exact hb.2.1
  simp only[Bool.true_and];clear hall hoq hb;have gbls_c9:=atP;have gbls_c66:=ant;(refine wlk ?_;intros);refine aD (α:=Nat×Nat×Nat×Nat) mixed (fun i=>[(1,.own 0 5 0 0),(5,.row i.2.1 1 0 (blK p q x y i.1).length),(6,.row i.2.2.1 1 0 i.1),(7,iv i.1)])
   (fun i=>[(0,26,5,[.agg [lsP p,.lst false 1 (q.map fun s=> .val (.string s)),.val (.int .i64 x),.val (.int .i64 y),.val (.int .i64 z)]]),(i.2.1,9,1,(blK p q x y i.1).map fun s=> .val (.string s)),(i.2.2.1,3,1,(bcK p q x y i.1).map fun n=> .val (.int .i64 n))])
   (fun i=>i.2.2.2) (fun i=>i.1≤p.length∧(0<i.2.1∧0<i.2.2.1∧i.2.1≠i.2.2.1∧i.2.1<i.2.2.2∧i.2.2.1<i.2.2.2)∧∀j,j<i.1→mQ (p[j]?.getD []) q x y=true) (fun i=>p.length-i.1) (by kernel_rfl) (0,1,2,3) ⟨Nat.zero_le _,by decide,fun j hj=>by dsimp only at hj;omega⟩ ?_ ?_ rfl ?_
  ·have h0:(blK p q x y 0).length=0:=rfl
   exact agi
  ·have h0:blK p q x y 0=[]:=rfl
   have h1:bcK p q x y 0=[]:=rfl;exact agr
  rintro⟨k,o1,o2,nx⟩ ⟨hk,⟨ho1,ho2,ho3,ho4,ho5⟩,hok⟩;dsimp only at hk ho1 ho2 ho3 ho4 ho5 hok;have ho6:¬o2=o1:=fun e=>ho3 e.symm;replace ho3:¬o1=o2:=ho3;have hok':=Lib.hid hok;clear hok;have hbl:=hbk k;have hcl:=hck k;by_cases hkl:k<p.length
  ·have ap:=api k
   have h60:=hp60 k;have hn1:blK p q x y (k+1)=blK p q x y k++mR (p[k]?.getD []) q x y:=rfl;have hn2:bcK p q x y (k+1)=bcK p q x y k++[((mR (p[k]?.getD []) q x y).length:Int)]:=rfl;have hno:mQ (p[k]?.getD []) q x y=false→(p.all fun w=>mQ w q x y)=false:=fun h=>kN (d:=[]) hkl h;have hys:mQ (p[k]?.getD []) q x y=true→∀j,j<k+1→mQ (p[j]?.getD []) q x y=true:=fun h j hj=>by
    rcases Nat.lt_or_ge j k with h1|h1
    ·exact hok'.out j h1
    ·obtain rfl:j=k:=by omega
     exact h
   replace hn1:=Lib.hid hn1;replace hn2:=Lib.hid hn2;replace hys:=Lib.hid hys;clear api hp60 hbk hck;generalize mR (p[k]?.getD []) q x y=L at*;generalize blK p q x y k=B at*;generalize bcK p q x y k=C at*;cases hB:mQ (p[k]?.getD []) q x y with
   |false=>rw[hB]at ap;rw[hno hB];clear hno hys hB hn1 hn2;simp only[Bool.false_eq_true,if_false,List.map_nil];exact wlkF
   |true=>
    rw[hB]at ap;have hys2:=hys.out hB;replace hys2:=Lib.hid hys2;clear hno hys hB;(refine wlk ?_;intros);refine⟨(k+1,nx,nx+2,nx+3),⟨by dsimp only;omega,by refine⟨?_,?_,?_,?_,?_⟩<;>(dsimp only;omega),hys2.out⟩,by dsimp only;omega,?_,?_,rfl⟩
    ·dsimp only
     rw[hn1.out];exact agi
    ·dsimp only
     rw[hn1.out,hn2.out];exact agr
  ·obtain rfl:k=p.length:=by omega
   have hall2:(p.all fun w=>mQ w q x y)=true:=iD (d:=[]) fun j hj=>hok'.out j hj;rw[hall2];simp only[if_true];clear api hp60 hbk hck hall2;generalize blK p q x y p.length=B at*;generalize bcK p q x y p.length=C at*;exact wlkF
theorem ayU {P:Program} {rs:List ResultVar} {tm:Nat→PV} {ob:bJ} {nx:Nat} {x:X} {r:PV} {c' d':aL} (a b:Nat) (hab:¬a=b) (hx:x=.normal∨x=.ret) (h1:((gV P ⟨tm,ob,nx⟩ rs).bind fun qs=>bX [a,b] ob fuel (iJ qs))=some r) (h2:lg [a,b] ob fuel a=some c') (h3:lg [a,b] ob fuel b=some d'):iI P rs 0 r [c',d'] x ⟨tm,ob,nx⟩:=
 ⟨hx,[a,b],by simp,by simp[hab],h1,by show [a,b].mapM (lg [a,b] ob fuel)=some [c',d'];rw[mapM_cons',h2,Option.bind_some,mapM_cons',h3,Option.bind_some,mapM_nil'];rfl⟩
def ΨBl:alC:=G1 sD fun b=>if ab8 b.1 b.2.1 then some (if 0<(blL b.1 b.2.1 b.2.2.1 b.2.2.2.1 b.2.2.2.2).length then(.tup [.row 0 1 0 (blL b.1 b.2.1 b.2.2.1 b.2.2.2.1 b.2.2.2.2).length,.row 1 1 0 (blC b.1 b.2.1 b.2.2.1 b.2.2.2.1 b.2.2.2.2).length,bv (blB b.1 b.2.1 b.2.2.1 b.2.2.2.1 b.2.2.2.2)],[(9,1,(blL b.1 b.2.1 b.2.2.1 b.2.2.2.1 b.2.2.2.2).map fun s=> .val (.string s)),(3,1,(blC b.1 b.2.1 b.2.2.1 b.2.2.2.1 b.2.2.2.2).map fun n=> .val (.int .i64 n))])else(.tup [.val (.slice none 0 0),.val (.slice none 0 0),bv (blB b.1 b.2.1 b.2.2.1 b.2.2.2.1 b.2.2.2.2)],[]))else none
def aFg:Ctx:={fn:=aT [(36,pU),(60,amg)],io:=aT []}
theorem awe:ak Tryz.prog aFg:=okΓ (fC Tryz.func36 uS (fC Tryz.func60 ajP aj)) aj
def akx:=ah (Γ:=aFg) (f:=36) (φ:=pU) rfl
def anL:=ah (Γ:=aFg) (f:=60) (φ:=amg) rfl
theorem auR:qP Tryz.prog 25 ΨBl:=by
 refine ac4 mixed awe Tryz.func25 rfl 45 rfl [.tmp 2,.tmp 3,.tmp 4] rfl (by kernel_rfl) fun ps r cs' hr=>?_;obtain⟨⟨p,q,x,y,z⟩,rfl,hq⟩:=ad1 hr;clear hr;split at hq
 case isFalse=>cases hq
 case isTrue hpre=>
 simp only[Option.some.injEq]at hq;refine⟨by simp,?_⟩;simp only[dIs,dUs,dSs,dw,dx,dh,dA,aS,dz,aQ,aR,aO,aP];dsimp only at hpre hq⊢;have apv:=zC (x:=x) (y:=y) (z:=z) hpre;obtain⟨hlen,hall,hoq⟩:=hpre;have api:=fun(k:Nat) h=>aoN (wd:=x) (most:=y) ⟨hall k,hoq⟩ h;have apn:=fun(k:Nat) h=>ap7 (wd:=x) (most:=y) ⟨hall k,hoq⟩ h;have hp60:=fun k:Nat=>(aar (p[k]?.getD []) q x y).1;have hbk:=abZ p q x y;have hck:=aax p q x y;unfold blL blC blB at hq;cases hb:jg p q x y z with
 |false=>rw[hb]at apv hq;simp only[Bool.false_and,Bool.false_eq_true,if_false,List.length_nil,Nat.lt_irrefl,Prod.mk.injEq]at hq;obtain⟨rfl,rfl⟩:=hq;clear api apn hp60 hbk hck hall hoq hb;have gbli_c36:=akx;have gbli_c60:=anL;(refine wlk ?_;intros);all_goals((with_reducible apply nS (by first|exact .inl rfl|exact .inr rfl));(exact sr))
 |true=>
  rw[hb]at apv hq;have h6:p.length≤6:=by unfold jg at hb;simp only[Bool.and_eq_true,decide_eq_true_eq]at hb;exact hb.2.1
  simp only[Bool.true_and]at hq;replace hq:=Lib.hid hq;clear hall hoq hb;have gbli_c36:=akx;have gbli_c60:=anL;(refine wlk ?_;intros);refine aD (α:=Nat×Nat×Nat×Nat) mixed (fun i=>[(1,.own 0 5 0 0),(5,nP 1 ((blK p q x y i.1).map fun s=> .val (.string s)) i.2.1),(6,nP 1 ((bcK p q x y i.1).map fun n=> .val (.int .i64 n)) i.2.2.1),(15,lsP p),(16,iv p.length),(17,iv i.1)])
   (fun i=>[(0,26,5,[.agg [lsP p,.lst false 1 (q.map fun s=> .val (.string s)),.val (.int .i64 x),.val (.int .i64 y),.val (.int .i64 z)]])]++(nO 9 1 ((blK p q x y i.1).map fun s=> .val (.string s)) i.2.1++nO 3 1 ((bcK p q x y i.1).map fun n=> .val (.int .i64 n)) i.2.2.1))
   (fun i=>i.2.2.2) (fun i=>i.1≤p.length∧0<i.2.2.2∧(0<i.1→0<i.2.1∧0<i.2.2.1∧i.2.1≠i.2.2.1∧i.2.1<i.2.2.2∧i.2.2.1<i.2.2.2)∧∀j,j<i.1→mQ (p[j]?.getD []) q x y=true) (fun i=>p.length-i.1) (by kernel_rfl) (0,0,0,1) ⟨Nat.zero_le _,by decide,fun h=>absurd h (Nat.lt_irrefl 0),fun j hj=>by dsimp only at hj;omega⟩ ?_ ?_ rfl ?_
  ·dsimp only
   rw[show blK p q x y 0=[]from rfl,show bcK p q x y 0=[]from rfl,List.map_nil,List.map_nil,dM];exact agi
  ·dsimp only
   rw[show blK p q x y 0=[]from rfl,show bcK p q x y 0=[]from rfl,List.map_nil,List.map_nil,cO,cO];simp(disch:=(first|omega|(simp only[push_cast];first|done|omega))) only[push_cast,↓reduceIte,Rq,Rb,Ra,Rs,Rt,List.cons_append,List.nil_append,List.append_nil, *]
  rintro⟨k,o1,o2,nx⟩ ⟨hk,hnx,hoo,hok⟩;dsimp only at hk hnx hoo hok⊢;have hok':=Lib.hid hok;have hbp:=fun h=>an8 (k:=k) hok h;clear hok;have hbl:=hbk k;have hcl:=hck k;by_cases hkl:k<p.length
  ·have ap:=api k
   have apk:=apn k;have h60:=hp60 k;have hn1:blK p q x y (k+1)=blK p q x y k++mR (p[k]?.getD []) q x y:=rfl;have hn2:bcK p q x y (k+1)=bcK p q x y k++[((mR (p[k]?.getD []) q x y).length:Int)]:=rfl;have hno:mQ (p[k]?.getD []) q x y=false→(p.all fun w=>mQ w q x y)=false:=fun h=>kN (d:=[]) hkl h;have hps:=fun h=>adX (ws:=p[k]?.getD []) (pats:=q) (wd:=x) (most:=y) h;have hys:mQ (p[k]?.getD []) q x y=true→∀j,j<k+1→mQ (p[j]?.getD []) q x y=true:=fun h j hj=>by
    rcases Nat.lt_or_ge j k with h1|h1
    ·exact hok'.out j h1
    ·obtain rfl:j=k:=by omega
     exact h
   replace hn1:=Lib.hid hn1;replace hn2:=Lib.hid hn2;replace hys:=Lib.hid hys;clear api apn hp60 hbk hck;generalize mR (p[k]?.getD []) q x y=L at*;cases hB:mQ (p[k]?.getD []) q x y with
   |false=>
    have ap2:=apk hB;have hq2:=hq.out;rw[hno hB]at hq2;simp only[Bool.false_eq_true,if_false,List.length_nil,Nat.lt_irrefl,Prod.mk.injEq]at hq2;obtain⟨rfl,rfl⟩:=hq2;clear ap apk hno hys hB hn1 hn2 hps hq;by_cases hk0:k=0
    ·subst hk0
     rw[show blK p q x y 0=[]from rfl,show bcK p q x y 0=[]from rfl,List.map_nil,List.map_nil,dM,cO,cO];simp only[List.append_nil];(refine wlk ?_;intros);all_goals((with_reducible apply nS (by first|exact .inl rfl|exact .inr rfl));(exact sr))
    ·obtain⟨ho1,ho2,ho3,ho4,ho5⟩:=hoo (by omega)
     have hb1:=hbp (by omega);have hb2:0<((blK p q x y k).map fun s=>PV.val (.string s)).length:=by rw[List.length_map];exact hb1
     have hb3:0<((bcK p q x y k).map fun n=>PV.val (.int .i64 n)).length:=by rw[List.length_map];omega
     rw[ay hb2,ay hb3,aB hb2,aB hb3];generalize blK p q x y k=B at*;generalize bcK p q x y k=C at*;simp only[List.cons_append,List.nil_append,List.length_map,hcl];(refine wlk ?_;intros);all_goals((with_reducible apply nS (by first|exact .inl rfl|exact .inr rfl));(exact sr))
   |true=>
    have hL0:=hps hB;have ap2:=ap hL0;rw[hB]at ap2;have hys2:=hys.out hB;replace hys2:=Lib.hid hys2;clear ap apk hno hys hB hps;by_cases hk0:k=0
    ·subst hk0
     rw[show blK p q x y 0=[]from rfl,show bcK p q x y 0=[]from rfl,List.map_nil,List.map_nil,dM,cO,cO];rw[show blK p q x y 0=[]from rfl,List.nil_append]at hn1;rw[show bcK p q x y 0=[]from rfl,List.nil_append]at hn2;have hLp:0<(L.map fun s=>PV.val (.string s)).length:=by rw[List.length_map];exact hL0
     simp only[List.append_nil];clear hbl hcl hbp;(refine wlk ?_;intros);refine⟨(0+1,nx,nx+2,nx+3),⟨by dsimp only;omega,by dsimp only;omega,fun _=>by refine⟨?_,?_,?_,?_,?_⟩<;>(dsimp only;omega),hys2.out⟩,by dsimp only;omega,?_,?_,rfl⟩
     ·dsimp only
      rw[hn1.out,hn2.out,ay hLp,ay (show 0<([((L.length:Nat):Int)].map fun n=>PV.val (.int .i64 n)).length from Nat.zero_lt_one)];exact agi
     ·dsimp only
      rw[hn1.out,hn2.out,aB hLp,aB (show 0<([((L.length:Nat):Int)].map fun n=>PV.val (.int .i64 n)).length from Nat.zero_lt_one)];simp(disch:=(first|omega|(simp only[push_cast];first|done|omega))) only[push_cast,↓reduceIte,Rq,Rb,Ra,Rs,Rt,List.cons_append,List.nil_append,List.append_nil, *]
    ·obtain⟨ho1,ho2,ho3,ho4,ho5⟩:=hoo (by omega)
     have ho6:¬o2=o1:=fun e=>ho3 e.symm;replace ho3:¬o1=o2:=ho3;have hb1:=hbp (by omega);have hb2:0<((blK p q x y k).map fun s=>PV.val (.string s)).length:=by rw[List.length_map];exact hb1
     have hb3:0<((bcK p q x y k).map fun n=>PV.val (.int .i64 n)).length:=by rw[List.length_map];omega
     have hb4:0<((blK p q x y k++L).map fun s=>PV.val (.string s)).length:=by rw[List.length_map,List.length_append];omega
     rw[ay hb2,ay hb3,aB hb2,aB hb3];generalize blK p q x y k=B at*;generalize bcK p q x y k=C at*;simp only[List.cons_append,List.nil_append,List.length_map,hcl];clear hb2 hb3;(refine wlk ?_;intros);refine⟨(k+1,nx,nx+2,nx+3),⟨by dsimp only;omega,by dsimp only;omega,fun _=>by refine⟨?_,?_,?_,?_,?_⟩<;>(dsimp only;omega),hys2.out⟩,by dsimp only;omega,?_,?_,rfl⟩
     ·dsimp only
      rw[hn1.out,hn2.out,ay hb4,ay (show 0<((C++[((L.length:Nat):Int)]).map fun n=>PV.val (.int .i64 n)).length by simp)];exact agi
     ·dsimp only
      rw[hn1.out,hn2.out,aB hb4,aB (show 0<((C++[((L.length:Nat):Int)]).map fun n=>PV.val (.int .i64 n)).length by simp)];simp(disch:=(first|omega|(simp only[push_cast];first|done|omega))) only[push_cast,↓reduceIte,Rq,Rb,Ra,Rs,Rt,List.cons_append,List.nil_append,List.append_nil, *]
  ·obtain rfl:k=p.length:=by omega
   have hall2:(p.all fun w=>mQ w q x y)=true:=iD (d:=[]) fun j hj=>hok'.out j hj;have hq2:=hq.out;rw[hall2]at hq2;simp only[if_true]at hq2;clear api apn hp60 hbk hck hall2 hq;by_cases hk0:p.length=0
   ·obtain rfl:=List.eq_nil_of_length_eq_zero hk0
    change(if 0<([]:LS).length then _ else _)=_ at hq2;show pq _ _ _ _ _ (lk [(1,.own 0 5 0 0),(5,nP 1 [] o1),(6,nP 1 [] o2),(15,lsP []),(16,iv ([]:List LS).length),(17,iv ([]:List LS).length)]) (lo ([(0,26,5,[.agg [lsP [],.lst false 1 (q.map fun s=> .val (.string s)),.val (.int .i64 x),.val (.int .i64 y),.val (.int .i64 z)]])]++(nO 9 1 [] o1++nO 3 1 [] o2))) _;rw[dM,dM,cO,cO];simp only[List.length_nil,Nat.lt_irrefl,if_false,Prod.mk.injEq]at hq2;obtain⟨rfl,rfl⟩:=hq2;simp only[List.append_nil];(refine wlk ?_;intros);all_goals((with_reducible apply nS (by first|exact .inl rfl|exact .inr rfl));(exact sr))
   ·obtain⟨ho1,ho2,ho3,ho4,ho5⟩:=hoo (by omega)
    have ho6:¬o2=o1:=fun e=>ho3 e.symm;replace ho3:¬o1=o2:=ho3;have hb1:=hbp (by omega);have hb2:0<((blK p q x y p.length).map fun s=>PV.val (.string s)).length:=by rw[List.length_map];exact hb1
    have hb3:0<((bcK p q x y p.length).map fun n=>PV.val (.int .i64 n)).length:=by rw[List.length_map];omega
    rw[ay hb2,ay hb3,aB hb2,aB hb3];rw[if_pos hb1]at hq2;simp only[Prod.mk.injEq]at hq2;obtain⟨rfl,rfl⟩:=hq2;generalize blK p q x y p.length=B at*;generalize bcK p q x y p.length=C at*;simp only[List.cons_append,List.nil_append,List.length_map,hcl];(refine wlk ?_;intros);all_goals((with_reducible apply ayU o1 o2 ho3 (by first|exact .inl rfl|exact .inr rfl));(focus(exact sr));(focus(exact sr));(focus(exact sr)))
theorem map_app' {α β:Type} {f:α→β} {l l':List α}:l.map f++l'.map f=(l++l').map f:=List.map_append.symm
theorem aFe {a b:Nat} (h:a≤b):min a b=a:=Nat.min_eq_left h
attribute[push_cast]
 map_app' aFe List.take_length
def aEr (sz:Nat):PV→PV
 | .agg cs=> .agg (cs.map (nrm sz))
 |p=>nrm sz p
theorem avj (sz:Nat) (p:PV):p.le (aEr sz p):=by
 unfold aEr;split
 ·exact aDD (aeT sz _)
 ·exact aud sz p
theorem ahy (sz:Nat):∀ps:List PV,leL ps (ps.map (aEr sz))
 |[]=>trivial
 |p::ps=>⟨avj sz p,ahy sz ps⟩
def azo (sz:Nat) (φ:Fun):Fun:=fun ps=>φ (ps.map (aEr sz))
theorem Sound.azo {P:Program} {f:Nat} {φ:Fun} (h:Sound P f φ) (sz:Nat):Sound P f (Proofs.YtmmafcjjlbgnkaaGreatDoor.azo sz φ):=
 h.weak fun ps r hr=>⟨_,r,ahy sz ps,hr,PV.le_refl _⟩
theorem agP {s:ByteArray} (h:0<s.size):∃(l:List UInt8) (z:UInt8),s.data.toList=l++[z]∧at8 s (s.size-1)=z.toNat∧(s.extract 0 (s.size-1)).data.toList=l:=by
 have hl:s.data.toList.length=s.size:=Array.length_toList;have hne:s.data.toList≠[]:=fun e=>by rw[e]at hl;simp at hl;omega
 refine⟨s.data.toList.dropLast,s.data.toList.getLast hne,(List.dropLast_concat_getLast hne).symm,?_,?_⟩
 ·have e:s[s.size-1]?=some (s.data.toList.getLast hne):=by rw[List.getLast_eq_getElem,getElem?_pos s (s.size-1) (by omega)];congr 1
  unfold at8;rw[e];rfl
 ·rw[ByteArray.data_extract,Array.toList_extract,List.dropLast_eq_take,hl]
  simp[List.extract]
theorem zY {a b:ByteArray} (h:a.data.toList=b.data.toList):a=b:=by obtain⟨⟨a⟩⟩:=a;obtain⟨⟨b⟩⟩:=b;simp only at h;rw[h]
theorem aAu {s:ByteArray} {j:Nat} (h:j<s.data.toList.length):at8 s j=(s.data.toList[j].toNat:Int):=by
 have hl:s.data.toList.length=s.size:=Array.length_toList;have e:s[j]?=some s.data.toList[j]:=by rw[getElem?_pos s j (by omega)];congr 1
 unfold at8;rw[e];rfl
def jq (c:UInt8):List UInt8→List (List UInt8)
 |[]=>[[]]
 |b::l=>if b=c then []::jq c l else match jq c l with
  |h::t=>(b::h)::t
  |[]=>[[b]]
theorem arp (c:UInt8) (l:List UInt8):Lib.index (c::l) [c]=0:=by simp[Lib.index,List.isPrefixOf]
theorem agw {b c:UInt8} (l:List UInt8) (h:¬b=c):Lib.index (b::l) [c]=if Lib.index l [c]==-1 then-1 else Lib.index l [c]+1:=by
 have hp:([c]:List UInt8).isPrefixOf (b::l)=false:=by have:¬c=b:=fun e=>h e.symm;simp[List.isPrefixOf,this]
 rw[Lib.index,hp];simp
theorem amS {b c:UInt8} (l:List UInt8) (h:¬b=c):∀k,∃h0 t,Lib.splitK [c] 0 k l=h0::t∧Lib.splitK [c] 0 k (b::l)=(b::h0)::t
 |0=>⟨l,[],rfl,rfl⟩
 |k+1=>by
  by_cases hi:Lib.index l [c]=-1
  ·refine⟨l,[],?_,?_⟩
   ·unfold Lib.splitK
    rw[if_pos (beq_iff_eq.2 hi)]
   ·unfold Lib.splitK
    rw[agw l h,if_pos (beq_iff_eq.2 hi)];rfl
  ·have hge:=Lib.index_ge l [c]
   have h1:¬(Lib.index l [c]==-1)=true:=fun e=>hi (beq_iff_eq.1 e);have h2:¬(Lib.index l [c]+1==-1)=true:=fun e=>by have:=beq_iff_eq.1 e;omega
   refine⟨l.take ((Lib.index l [c]).toNat+0),Lib.splitK [c] 0 k (l.drop ((Lib.index l [c]).toNat+1)),?_,?_⟩
   ·conv=>lhs;unfold Lib.splitK
    rw[if_neg h1];rfl
   ·conv=>lhs;unfold Lib.splitK
    rw[agw l h,if_neg h1,if_neg h2,show(Lib.index l [c]+1).toNat=(Lib.index l [c]).toNat+1 by omega];rfl
theorem agS (c:UInt8):∀s:List UInt8,Lib.splitK [c] 0 (Lib.count s [c]) s=jq c s
 |[]=>by rw[Lib.count_one];rfl
 |b::l=>by
  have ih:=agS c l;by_cases h:b=c
  ·subst h
   rw[Lib.count_cons_eq,Nat.add_comm];unfold jq
   conv=>lhs;unfold Lib.splitK
   rw[arp,if_neg (by decide),if_pos rfl,←ih];rfl
  ·rw[Lib.count_cons_ne b c l h]
   obtain⟨h0,t,e1,e2⟩:=amS l h (Lib.count l [c]);rw[e2];unfold jq;rw[if_neg h,←ih,e1]
def bN:List UInt8→List UInt8→List (List UInt8)
 |[],w=>if w=[]then []else [w]
 |b::l,w=>if b=32 then(if w=[]then []else [w])++bN l []else bN l (w++[b])
def iW (s:List UInt8):List UInt8:=if Lib.hasSuffix s [45]then s.take (s.length-1)else s++[32]
def dW:List (List UInt8)→List UInt8
 |[]=>[]
 |s::l=>iW s++dW l
theorem ku (l:List UInt8) (z:UInt8):Lib.hasSuffix (l++[z]) [45]=decide (z=45):=by
 unfold Lib.hasSuffix List.isSuffixOf;rw[List.reverse_append];by_cases h:z=45
 ·subst h;simp[List.isPrefixOf]
 ·have h2:¬(45:UInt8)=z:=fun e=>h e.symm
  simp[List.isPrefixOf,h,h2]
theorem axx {s:ByteArray} (h:0<s.size) (h2:at8 s (s.size-1)=45):iW s.data.toList=s.data.toList.take (s.size-1):=by
 obtain⟨l,z,h3,h4,h5⟩:=agP h;have hl:s.data.toList.length=s.size:=Array.length_toList;have hz:z=45:=UInt8.toNat_inj.1 (by have:(z.toNat:Int)=45:=by rw[←h4];exact h2
                                                                                                                          show z.toNat=45;omega)
 unfold iW;rw[if_pos (by rw[h3,ku,hz];rfl),hl]
theorem azL {s:ByteArray} (h:s.size=0∨¬at8 s (s.size-1)=45):iW s.data.toList=s.data.toList++[32]:=by
 have hl:s.data.toList.length=s.size:=Array.length_toList;unfold iW;rw[if_neg];intro hs;by_cases h0:s.size=0
 ·have:s.data.toList=[]:=List.eq_nil_of_length_eq_zero (by omega)
  rw[this]at hs;simp[Lib.hasSuffix,List.isSuffixOf,List.isPrefixOf]at hs
 ·obtain⟨l,z,h3,h4,h5⟩:=agP (s:=s) (by omega)
  rw[h3,ku,decide_eq_true_eq]at hs;rcases h with h|h
  ·exact h0 h
  ·exact h (by rw[h4,hs];rfl)
theorem avU {s:ByteArray} {j:Nat} (h:j<s.data.toList.length) (h2:¬(at8 s j=45∧j+1=s.size)):(iW s.data.toList).drop j=s.data.toList[j]::(iW s.data.toList).drop (j+1):=by
 have hl:s.data.toList.length=s.size:=Array.length_toList;by_cases hy:at8 s (s.size-1)=45
 ·rw[axx (by omega) hy]
  have hj:j<s.size-1:=by
   rcases Nat.lt_or_ge j (s.size-1)with h3|h3
   ·exact h3
   ·have e:j=s.size-1:=by omega
    exact absurd ⟨by rw[e];exact hy,by omega⟩ h2
  rw[List.drop_eq_getElem_cons (by rw[List.length_take];omega),List.getElem_take]
 ·rw[azL (.inr hy),List.drop_eq_getElem_cons (by rw[List.length_append];omega),List.getElem_append_left h]
theorem avR {s:ByteArray} {j:Nat} (h:j<s.size) (h2:at8 s j=45) (h3:j+1=s.size):(iW s.data.toList).drop j=(iW s.data.toList).drop (j+1):=by
 have hl:s.data.toList.length=s.size:=Array.length_toList;have e:j=s.size-1:=by omega
 rw[axx (by omega) (by rw[←e];exact h2),List.drop_of_length_le (by rw[List.length_take];omega),List.drop_of_length_le (by rw[List.length_take];omega)]
theorem amC {s:ByteArray} (h:0<s.size) (h2:at8 s (s.size-1)=45):(iW s.data.toList).drop s.size=[]:=by rw[axx h h2,List.drop_of_length_le (by rw[List.length_take];omega)]
theorem anE {s:ByteArray} (h:s.size=0∨¬at8 s (s.size-1)=45):(iW s.data.toList).drop s.size=[32]:=by have hl:s.data.toList.length=s.size:=Array.length_toList;rw[azL h,List.drop_append_of_le_length (by omega),List.drop_of_length_le (by omega),List.nil_append]
abbrev aFQ:It:=(2,4,3,1,0,0,false)
abbrev aEj:It:=(3,3,0,0,0,50,true)
abbrev iy:List It:=[(3,0,0,0,0,10000,false),(2,0,1,0,1,0,false),(3,0,0,0,0,-10000,false)]
def itT (x:It) (tx:LS) (i:Nat):List UInt8:=if x.kd=1 then(tx[i]?.getD .empty).data.toList else if x.kd=2∧0<x.wd then [32]else []
def stL:List It→LS→Nat→List UInt8
 |[],_,_=>[]
 |x::l,tx,i=>itT x tx i++stL l tx (if x.kd=1 then i+1 else i)
theorem am1 (x:It) (l:List It):nb (x::l)=(if x.kd=1 then 1 else 0)+nb l:=by
 unfold nb;by_cases h:x.kd=1
 ·rw[if_pos h,List.filter_cons_of_pos (by simpa using h),List.length_cons];omega
 ·rw[if_neg h,List.filter_cons_of_neg (by simpa using h)];omega
theorem pQ:∀(l l':List It) (tx:LS) (i:Nat),stL (l++l') tx i=stL l tx i++stL l' tx (i+nb l)
 |[],l',tx,i=>rfl
 |x::l,l',tx,i=>by rw[List.cons_append,stL,stL,pQ l l',List.append_assoc,am1];split<;>(congr 3;omega)
theorem rD:∀(l:List It) (tx tx':LS) (i i':Nat),(∀j,j<nb l→tx[i+j]?.getD .empty=tx'[i'+j]?.getD .empty)→stL l tx i=stL l tx' i'
 |[],_,_,_,_,_=>rfl
 |x::l,tx,tx',i,i',h=>by
  rw[am1]at h;rw[stL,stL];by_cases hk:x.kd=1
  ·rw[if_pos hk]at h
   rw[if_pos hk,if_pos hk];have h0:=h 0 (by omega);simp only[Nat.add_zero]at h0;congr 1
   ·unfold itT
    rw[if_pos hk,if_pos hk,h0]
   ·refine rD l tx tx' (i+1) (i'+1) fun j hj=>?_
    have:=h (j+1) (by omega);rw[show i+1+j=i+(j+1) by omega,show i'+1+j=i'+(j+1) by omega];exact this
  ·rw[if_neg hk]at h
   rw[if_neg hk,if_neg hk];congr 1
   ·unfold itT
    rw[if_neg hk,if_neg hk]
   ·exact rD l tx tx' i i' fun j hj=>h j (by omega)
def stI (l:List It) (tx:LS) (n:Nat):List UInt8:=stL (l.take n) tx 0
theorem afK {l:List It} {tx:LS} {n:Nat} (h:n<l.length):stI l tx (n+1)=stI l tx n++itT (gI l n) tx (nbX l n):=by
 unfold stI;rw[List.take_succ_eq_append_getElem h,pQ];have e:gI l n=l[n]:=by unfold gI;rw[List.getElem?_eq_getElem h,Option.getD_some]
 rw[e,stL,stL,List.append_nil,Nat.zero_add];rfl
theorem agZ {l:List It} {tx:LS} {a:Nat} (hk:(gI l a).kd=1) (htx:∀k,k<nb l→1≤(tx[k]?.getD .empty).size):∀j,a+j≤l.length→stI l tx (a+j)=stI l tx a++(lnT l tx a j).data.toList∧(0<j→1≤(lnT l tx a j).size)
 |0,_=>⟨by simp[lnT],fun h=>by omega⟩
 |j+1,h=>by
  obtain⟨h1,h2⟩:=agZ hk htx j (by omega);rw[←Nat.add_assoc,afK (by omega),h1,lnT,List.append_assoc];have hsz:∀(s t:ByteArray),(s++t).data.toList=s.data.toList++t.data.toList:=fun s t=>by rw[ByteArray.data_append,Array.toList_append]
  by_cases k1:(gI l (a+j)).kd=1
  ·rw[acr k1,hsz]
   unfold itT;rw[if_pos k1];refine⟨rfl,fun _=>?_⟩;have:=htx _ (aaf (by omega) k1);rw[ByteArray.size_append];omega
  ·have hj:0<j:=by
    rcases Nat.eq_zero_or_pos j with h0|h0
    ·subst h0;exact absurd hk k1
    ·exact h0
   have hs:=h2 hj;unfold itT;rw[if_neg k1];by_cases k2:(gI l (a+j)).kd=2∧0<(gI l (a+j)).wd
   ·rw[if_pos k2,agM ⟨k2.1,k2.2,ahm hs⟩,hsz]
    refine⟨rfl,fun _=>?_⟩;rw[ByteArray.size_append];omega
   ·rw[if_neg k2,ajI k1 (fun q=>k2 ⟨q.1,q.2.1⟩),List.append_nil]
    exact⟨rfl,fun _=>hs⟩
def lS:List It→Prop
 |[]=>True
 |x::l=>(x.kd=1∨((x=aFQ∨x=aEj)∧∃y l',l=y::l'∧y.kd=1))∧lS l
theorem lS.app:∀{l l':List It},lS l→lS l'→lS (l++l')
 |[],_,_,h=>h
 |x::l,l',h,h'=>by
  refine⟨?_,lS.app h.2 h'⟩;rcases h.1 with h1|⟨h1,y,l2,h2,h3⟩
  ·exact .inl h1
  ·exact .inr ⟨h1,y,l2++l',by rw[h2];rfl,h3⟩
theorem lS.at_:∀{l:List It} {n:Nat},lS l→n<l.length→(gI l n).kd=1∨((gI l n=aFQ∨gI l n=aEj)∧n+1<l.length∧(gI l (n+1)).kd=1)
 |x::l,0,h,_=>by
  rcases h.1 with h1|⟨h1,y,l2,h2,h3⟩
  ·exact .inl h1
  ·subst h2
   exact .inr ⟨h1,by simp,h3⟩
 |x::l,n+1,h,hn=>by
  have:=lS.at_ (l:=l) (n:=n) h.2 (by simpa using hn);rcases this with h1|⟨h1,h2,h3⟩
  ·exact .inl h1
  ·exact .inr ⟨h1,by simpa using h2,h3⟩
 |[],n,_,h=>by simp at h
def aEg (l:List It):Prop:=∃y l',l=y::l'∧y.kd=1
theorem agE (ps:LS):∀k,lS (wiK ps k)∧(0<k→aEg (wiK ps k))
 |0=>⟨trivial,fun h=>by omega⟩
 |k+1=>by
  obtain⟨h1,h2⟩:=agE ps k;rw[wiK];have hb:lS [((1:Int),qb (ps[k]?.getD .empty),(0:Int),(0:Int),(0:Int),(0:Int),false)]:=⟨.inl rfl,trivial⟩;by_cases hk:k=0
  ·subst hk
   exact⟨⟨.inl rfl,trivial⟩,fun _=>⟨_,_,rfl,rfl⟩⟩
  ·rw[if_neg hk]
   obtain⟨y,l',hy1,hy2⟩:=h2 (by omega);refine⟨?_,fun _=>?_⟩
   ·rw[List.append_assoc]
    exact lS.app h1 ⟨.inr ⟨.inr rfl,_,_,rfl,rfl⟩,hb⟩
   ·rw[hy1]
    exact⟨y,_,rfl,hy2⟩
theorem abv {ws pats:LS} (h1:bF ws=true) (h2:bE pats=true):∀k,k≤ws.length→lS (piK ws pats k)∧(0<k→aEg (piK ws pats k))
 |0,_=>⟨trivial,fun h=>by omega⟩
 |k+1,hk=>by
  obtain⟨g1,g2⟩:=abv h1 h2 k (by omega);have hp:=wU (pats:=pats) (oD h1 (k:=k) (by omega)) h2;obtain⟨w1,w2⟩:=agE (bW (ws[k]?.getD .empty) pats) (bW (ws[k]?.getD .empty) pats).length;have w2:=w2 hp;rw[piK];by_cases h0:k=0
  ·subst h0
   exact⟨w1,fun _=>w2⟩
  ·rw[if_neg h0]
   obtain⟨y,l',hy1,hy2⟩:=g2 (by omega);refine⟨?_,fun _=>?_⟩
   ·rw[List.append_assoc]
    exact lS.app g1 ⟨.inr ⟨.inl rfl,w2⟩,w1⟩
   ·rw[hy1]
    exact⟨y,_,rfl,hy2⟩
theorem wY {l l':List It} {n:Nat} (h:n<l.length):gI (l++l') n=gI l n:=by unfold gI;rw[List.getElem?_append_left h]
theorem qU {l l':List It} {n:Nat}:gI (l++l') (l.length+n)=gI l' n:=by unfold gI;rw[List.getElem?_append_right (by omega),Nat.add_sub_cancel_left]
theorem aoh {P:List It} (hg:lS P) {n:Nat} (hn:n<(P++iy).length) (hb:nW (P++iy) n=true):n+1=(P++iy).length∨((gI (P++iy) n=aFQ∨gI (P++iy) n=aEj)∧n+1<(P++iy).length∧(gI (P++iy) (n+1)).kd=1):=by
 have hlen:(P++iy).length=P.length+3:=by simp
 rw[hlen]at hn⊢;by_cases h:n<P.length
 ·have h1:=hg.at_ h
  rw[wY h];rcases h1 with h1|⟨h1,h2,h3⟩
  ·unfold nW at hb
   rw[wY h,if_neg (by omega),decide_eq_true_eq]at hb;omega
  ·rw[wY h2]
   exact .inr ⟨h1,by omega,h3⟩
 ·obtain⟨i,rfl⟩:∃i,n=P.length+i:=⟨n-P.length,by omega⟩
  have h3:i<3:=by omega
  match i,h3 with
  |0,_=>unfold nW at hb;rw[qU,if_neg (show¬(gI iy 0).kd=2 by decide),decide_eq_true_eq]at hb;exact absurd hb.2 (by decide)
  |1,_=>unfold nW at hb;rw[qU,if_pos (show(gI iy 1).kd=2 from rfl),decide_eq_true_eq,show P.length+1-1=P.length+0 by omega,qU]at hb;exact absurd hb.2 (by decide)
  |2,_=>exact .inl (by omega)
theorem aoC (ps:LS) (s:ByteArray):ab2 (ps++[s])=ab2 ps++s.data.toList:=by simp[ab2]
theorem as7 (ps:LS):∀k,k≤ps.length→stL (wiK ps k) ps 0=ab2 (ps.take k)
 |0,_=>rfl
 |k+1,h=>by
  have ih:=as7 ps k (by omega);have hb:∀i,i=k→stL [((1:Int),qb (ps[k]?.getD .empty),(0:Int),(0:Int),(0:Int),(0:Int),false)] ps i=(ps[k]?.getD .empty).data.toList:=fun i e=>by subst e;rw[stL,stL,List.append_nil];exact if_pos rfl
  have ht:ab2 (ps.take (k+1))=ab2 (ps.take k)++(ps[k]?.getD .empty).data.toList:=by rw[List.take_succ_eq_append_getElem (by omega),aoC,List.getElem?_eq_getElem (by omega),Option.getD_some]
  rw[wiK,pQ,ht];by_cases h0:k=0
  ·rw[if_pos h0,ih,hb _ (by rw[ao0];omega)]
  ·rw[if_neg h0,pQ,ih,hb _ (by rw[vX,ao0,show nb [((3:Int),(3:Int),(0:Int),(0:Int),(0:Int),(50:Int),true)]=0 from by decide];omega)]
   have:stL [aEj] ps (0+nb (wiK ps k))=[]:=rfl;rw[this,List.append_nil]
theorem amO {w:ByteArray} {pats:LS} (h1:dn w=true) (h2:bE pats=true):ab2 (bW w pats)=w.data.toList:=by unfold bW;rw[if_pos (kr.2 ⟨h1,h2⟩)];exact aw8 (mX (pats:=pats) h1) (aH h1).2.1
theorem nu {s:ByteArray} (h:dn s=true):s.data.toList≠[]∧∀b∈s.data.toList,¬b=32:=by
 have hs:=(aH h).2.1;refine⟨fun e=>?_,fun b hb e=>?_⟩
 ·have:s.data.toList.length=s.size:=Array.length_toList
  rw[e]at this;simp at this;omega
 ·obtain⟨i,hi,rfl⟩:=List.getElem_of_mem hb
  have hi2:i<s.size:=by simpa using hi
  unfold dn at h;rw[Bool.and_eq_true,List.all_eq_true]at h;have h1:=av.1 (h.1 i (List.mem_range.2 hi2));have h2:at8 s i=(s.data.toList[i].toNat:Int):=by unfold at8;rw[getElem?_pos s i hi2];rfl
  rw[h2,e]at h1;exact absurd h1.1 (by decide)
theorem oH:∀(w r acc:List UInt8),(∀b∈w,¬b=32)→bN (w++r) acc=bN r (acc++w)
 |[],r,acc,_=>by simp
 |b::w,r,acc,h=>by rw[List.cons_append,bN,if_neg (h b (by simp)),oH w r (acc++[b]) (fun c hc=>h c (by simp[hc]))];simp
theorem ahf {w r:List UInt8} (h:∀b∈w,¬b=32) (h0:w≠[]):bN (w++32::r) []=w::bN r []:=by
 rw[oH w _ _ h,List.nil_append,bN,if_pos rfl];cases w with
 |nil=>exact absurd rfl h0
 |cons b w=>rfl
def jnB (ws:LS):Nat→List UInt8
 |0=>[]
 |k+1=>(if k=0 then []else jnB ws k++[32])++(ws[k]?.getD .empty).data.toList
theorem as6 {ws pats:LS} (h1:bF ws=true) (h2:bE pats=true):∀k,k≤ws.length→stL (piK ws pats k) (txK ws pats k) 0=jnB ws k
 |0,_=>rfl
 |k+1,hk=>by
  have ih:=as6 h1 h2 k (by omega);have hnb:=asx ws pats k;have hfst:stL (piK ws pats k) (txK ws pats (k+1)) 0=jnB ws k:=by rw[←ih];refine rD _ _ _ _ _ fun j hj=>?_;rw[txK,Nat.zero_add,List.getElem?_append_left (by omega)]
  have hlst:∀i,i=nb (piK ws pats k)→stL (wiR (ws[k]?.getD .empty) pats) (txK ws pats (k+1)) i=(ws[k]?.getD .empty).data.toList:=fun i e=>by rw[←amO (oD h1 (k:=k) (by omega)) h2];have:=as7 (bW (ws[k]?.getD .empty) pats) _ (Nat.le_refl _);rw[List.take_length]at this;rw[←this];refine rD _ _ _ _ _ fun j hj=>?_;rw[txK,e,hnb,List.getElem?_append_right (by omega),Nat.add_sub_cancel_left,Nat.zero_add]
  rw[piK,jnB,pQ];by_cases h0:k=0
  ·rw[if_pos h0,if_pos h0,hfst,hlst _ (by rw[Nat.zero_add])]
   subst h0;rfl
  ·rw[if_neg h0,if_neg h0,pQ,hfst,hlst _ (by rw[vX,Nat.zero_add,show nb [((2:Int),(4:Int),(3:Int),(1:Int),(0:Int),(0:Int),false)]=0 from by decide,Nat.add_zero])]
   rfl
theorem auK {ws pats:LS} (h1:bF ws=true) (h2:bE pats=true):stI (piR ws pats) (txR ws pats) (piR ws pats).length=jnB ws ws.length:=by unfold stI;rw[List.take_length];unfold piR txR;rw[pQ,as6 h1 h2 _ (Nat.le_refl _)];exact List.append_nil _
theorem ac0 {ws:LS} (h:bF ws=true):∀k,k<ws.length→∀r,bN (jnB ws (k+1)++32::r) []=(ws.take (k+1)).map (·.data.toList)++bN r []
 |0,hk,r=>by have hw:=oD h hk;rw[jnB,if_pos rfl,List.nil_append,ahf (nu hw).2 (nu hw).1,List.take_succ_eq_append_getElem hk,List.getElem?_eq_getElem hk,Option.getD_some];rfl
 |k+1,hk,r=>by have hw:=oD h hk;rw[jnB,if_neg (by omega),List.append_assoc,List.append_assoc,List.singleton_append,ac0 h k (by omega),ahf (nu hw).2 (nu hw).1,List.take_succ_eq_append_getElem hk,List.map_append,List.append_assoc,List.getElem?_eq_getElem hk,Option.getD_some];rfl
theorem jL:∀(a b:List (List UInt8)),dW (a++b)=dW a++dW b
 |[],b=>rfl
 |s::a,b=>by rw[List.cons_append,dW,dW,jL a b,List.append_assoc]
theorem ag1 (t:List UInt8):iW (t++[45])=t:=by unfold iW;rw[ku,if_pos (by decide)];simp
theorem af3 {t:List UInt8} (h:∀b∈t,¬b=45):iW t=t++[32]:=by
 rcases List.eq_nil_or_concat t with h0|⟨t',z,h0⟩
 ·subst h0;rfl
 ·rw[List.concat_eq_append]at h0
  subst h0;unfold iW;rw[ku,if_neg];have:=h z (by simp);simpa using this
theorem abz {P:List It} {tx:LS} {br:List Int} (hg:lS P) (hf:aEg P) (hb:ath (P++iy) br) (htx:∀k,k<nb (P++iy)→1≤(tx[k]?.getD .empty).size) (hno:∀k:Nat,aqM (tx[k]?.getD .empty)):∀k,k≤br.length→
 (k<br.length→(gI (P++iy) (frB br k)).kd=1∧dW ((mP (P++iy) tx br k).map (·.data.toList))=stI (P++iy) tx (frB br k))∧
 (frB br k=(P++iy).length→dW ((mP (P++iy) tx br k).map (·.data.toList))=stI (P++iy) tx (frB br k)++[32])
 |0,_=>by
  obtain⟨y,l',hy1,hy2⟩:=hf;refine⟨fun _=>⟨?_,rfl⟩,fun h=>?_⟩
  ·subst hy1;exact hy2
  ·subst hy1
   exact absurd h (by show¬0=_;simp)
 |k+1,hk=>by
  obtain⟨ih,-⟩:=abz hg hf hb htx hno k (by omega);obtain⟨hk1,ih⟩:=ih (by omega);obtain⟨b1,b2,b3,b4⟩:=hb.at_ (k:=k) (by omega);have hq:=(gH.1 (hb.2 k (by omega)).2).2.1;have hfs:=vP br k;have hnx:k+1<br.length→frB br (k+1)<(P++iy).length:=fun h=>by obtain⟨c1,c2,c3,-⟩:=hb.at_ h;omega
  have hlk:mP (P++iy) tx br (k+1)=mP (P++iy) tx br k++[lnR (P++iy) tx (frB br k) (br[k]?.getD 0).toNat]:=rfl;generalize(br[k]?.getD 0).toNat=en at*;have hcs:=aoh hg b3 hq;have hlast:en+1=(P++iy).length→gI (P++iy) en=(3,0,0,0,0,-10000,false):=fun h=>by
   have hlen:(P++iy).length=P.length+3:=by simp
   rw[show en=P.length+2 by omega,qU];rfl
  rw[hlk,hfs];rw[hfs]at hnx;generalize frB br k=a at*;have hst:=(agZ hk1 htx (en-a) (by omega)).1;rw[show a+(en-a)=en by omega]at hst;have hnoL:∀b∈(lnT (P++iy) tx a (en-a)).data.toList,¬b=45:=ahR hno _;have hsu:=afK (tx:=tx) b3;rw[List.map_append,jL,ih,hsu,hst];have hone:dW ([lnR (P++iy) tx a en].map (·.data.toList))=iW (lnR (P++iy) tx a en).data.toList:=by show iW _++[]=_;rw[List.append_nil]
  rw[hone];unfold lnR;rcases hcs with h1|⟨h1|h1,h2,h3⟩
  ·refine⟨fun h=>absurd (hnx h) (by omega),fun _=>?_⟩
   rw[hlast h1,if_neg (by decide),af3 hnoL];show _=(_++[])++_;rw[List.append_nil,List.append_assoc]
  ·refine⟨fun _=>⟨h3,?_⟩,fun h=>absurd h (by omega)⟩
   rw[h1,if_neg (by decide),af3 hnoL,←List.append_assoc];rfl
  ·refine⟨fun _=>⟨h3,?_⟩,fun h=>absurd h (by omega)⟩
   rw[h1,if_pos rfl,ByteArray.data_append,Array.toList_append];show _++iW (_++[45])=(_++_)++[];rw[ag1,List.append_nil]
theorem agy {l:List It} {wd most:Int} (hl:aZ l=true) (hm:most≤10000):∀(f a:Nat) (lk:Int),a<l.length→l.length-a<f→(aU l wd most a lk).isSome=true→((bkF l wd most f a lk).getLastD 0).toNat+1=l.length
 |0,a,lk,h,hf,_=>by omega
 |f+1,a,lk,h,hf,hs=>by
  obtain⟨r,hr⟩:=Option.isSome_iff_exists.1 hs;obtain⟨x,c0,hx,-⟩:=oM h hr;obtain⟨h1,h2⟩:=dQ hl hm (by omega) hr;obtain⟨h3,-⟩:=h2 h;rw[oJ (by omega) hr];by_cases he:r.2.1+1=l.length
  ·rw[he,wG]
   show((r.2.1:Int)).toNat+1=_;omega
  ·have ih:=agy (wd:=wd) hl hm f (r.2.1+1) r.2.2 (by omega) (by omega) (by rw[hx];rfl)
   have hp:=abS (wd:=wd) (most:=most) (lk:=r.2.2) (f:=f-1) (a:=r.2.1+1) (l:=l) (by omega) (by rw[hx];rfl);rw[show f-1+1=f by omega]at hp;cases hb:bkF l wd most f (r.2.1+1) r.2.2 with
   |nil=>rw[hb]at hp;simp at hp
   |cons y t=>rw[hb]at ih;exact ih
theorem arB {l:List It} {wd most:Int} (h:kR l wd most=true):frB (dK l wd most) (dK l wd most).length=l.length:=by
 obtain⟨h1,h2,-,h4,h5⟩:=fF.1 h;have hp:0<(dK l wd most).length:=abS h2 h5;have hl:=agy (wd:=wd) h1 h4.2 (l.length+1) 0 1 h2 (by omega) h5;unfold frB;rw[if_neg (by omega)];have:(dK l wd most)[(dK l wd most).length-1]?.getD 0=(dK l wd most).getLastD 0:=by rw[←List.getLast?_eq_getElem?,List.getLastD_eq_getLast?]
 rw[this];exact hl
theorem aeW {ws pats:LS} {wd most:Int} (h:mQ ws pats wd most=true) (r:List UInt8):bN (dW ((mR ws pats wd most).map (·.data.toList))++r) []=ws.map (·.data.toList)++bN r []:=by unfold mR;rw[if_pos h];unfold mQ at h;rw[Bool.and_eq_true]at h;obtain⟨h1,h2⟩:=h;have hV:piV ws pats=piR ws pats:=if_pos h1;rw[hV]at h2;obtain⟨p1,p2,p3,-⟩:=qO.1 h1;obtain⟨g1,g2⟩:=abv p1 p2 ws.length (Nat.le_refl _);obtain⟨hB,-,-,hm,-⟩:=fF.1 h2;have hb:=acX (wd:=wd) hB hm.2;have hnb:=asK ws pats;have hls:=arB h2;have hL:=(abz (tx:=txR ws pats) g1 (g2 p3) hb (fun k hk=>aot (by rw[←hnb];exact hk)) (aks ws pats) _ (Nat.le_refl _)).2 hls;have e:piK ws pats ws.length++iy=piR ws pats:=rfl;rw[e]at hL;rw[hL,hls,auK p1 p2,List.append_assoc];obtain⟨n,hn⟩:∃n,ws.length=n+1:=⟨ws.length-1,by omega⟩;have hj:=ac0 p1 n (by omega) r;rw[←hn,List.take_length]at hj;exact hj
theorem aoo (ws:LS):(ws.map (·.data.toList)).map (fun b=>(⟨b.toArray⟩:ByteArray))=ws:=by
 rw[List.map_map]
 conv=>rhs;rw[←List.map_id ws]
 exact List.map_congr_left fun s _=>rfl
theorem af0 {p:List LS} {q:LS} {x y:Int}:∀k,(∀j,j<k→mQ (p[j]?.getD []) q x y=true)→∀r,bN (dW ((blK p q x y k).map (·.data.toList))++r) []=((p.take k).flatten).map (·.data.toList)++bN r []
 |0,_,r=>by simp[blK,dW]
 |k+1,h,r=>by
  rw[blK,List.map_append,jL,List.append_assoc,af0 k (fun j hj=>h j (by omega)),aeW (h k (by omega))];by_cases hk:k<p.length
  ·rw[List.take_succ_eq_append_getElem hk,List.flatten_append,List.map_append,List.getElem?_eq_getElem hk,Option.getD_some,List.append_assoc]
   simp
  ·rw[List.getElem?_eq_none (by omega),List.take_of_length_le (show p.length≤k+1 by omega),List.take_of_length_le (show p.length≤k by omega)]
   simp
end
end Go.Proofs.YtmmafcjjlbgnkaaGreatDoor
