/- What the proof rests on, part 15: contracts of functions. No condition beyond what each states. -/
import Derived.Test.YtmmafcjjlbgnkaaGreatDoorZBiE14
namespace Go.Proofs.YtmmafcjjlbgnkaaGreatDoor
open Go.RowKit
open Nat renaming reduceEqDiff→Rq,reduceBEq→Rb,reduceAdd→Ra,reduceSub→Rs
open Int renaming reduceToNat→Rt
set_option linter.all false
set_option maxHeartbeats 32000000
noncomputable section
def az9:yU:=G4 dSs dSs dI dI fun ws pats wd most=>if oM ws∧oM pats then some (.tup [nP 1 ((mF ws pats wd most).map fun s=> .val (.string s)) 0,bv (mD ws pats wd most)],nC 9 1 ((mF ws pats wd most).map fun s=> .val (.string s)))else none
theorem ayz (es:List PV) (b:Bool):jW id fuel (.tup [nP 1 es 0,bv b])=some (.tup [nP 1 es 0,bv b]):=by cases es<;>rfl
theorem auJ {T:Nat} (l:LS):(nC T 1 (l.map fun s=>PV.val (.string s))).mapM (ng id fuel)=some (nC T 1 (l.map fun s=>PV.val (.string s))):=by
 cases l with
 |nil=>rfl
 |cons s l=>show [(T,1,(s::l).map fun s=>PV.val (.string s))].mapM (ng id fuel)=_;rw[mapM_cons',mapM_nil',lq];rfl
theorem aaE {l:List It} {wd most lk:Int} {f a:Nat} (ha:a<l.length) (h:(aU l wd most a lk).isSome=true):0<(bkF l wd most (f+1) a lk).length:=by obtain⟨r,hr⟩:=Option.isSome_iff_exists.1 h;rw[nU (by omega) hr];simp
theorem aws:Tryz.prog.underlying 109=some (.map 3 9):=by kernel_rfl
theorem aoO:Go.Maps.Keyed Tryz.prog 3:=Go.Maps.int_keyed Tryz.underlying3
theorem aDP {n:Int} (h:okI n):keyOf Tryz.prog 3 (.int .i64 n)=some (.int .i64 n):=Go.Maps.keyOf_int_mk Tryz.underlying3 (by show(decide (-9223372036854775808≤n)&&decide (n≤9223372036854775807))=true;simp[h.1,h.2])
def azk:Ctx:={fn:=aT [(91,apz),(92,φBb),(93,alf)],io:=aT []}
theorem dw:au Tryz.prog azk:=okΓ (fC Tryz.func91 aiP (fC Tryz.func92 an0 (fC Tryz.func93 ajW aj))) aj
def afN:=ah (Γ:=azk) (f:=91) (φ:=apz) rfl
def aeA:=ah (Γ:=azk) (f:=92) (φ:=φBb) rfl
def abU:=ah (Γ:=azk) (f:=93) (φ:=alf) rfl
set_option maxRecDepth 100000 in
theorem asc:fQ Tryz.prog 60 az9:=by
 refine HY.amj (k:=3) (N:=113) (rs:=[.tmp 8,.tmp 9]) Tryz.func60 rfl rfl rfl (fun ps r cs' hr=>?_) (fun ps r cs' hr=>?_)
 ·obtain⟨ws,pats,wd,most,rfl,hq⟩:=aef hr
  clear hr;split at hq
  case isFalse=>cases hq
  case isTrue hpre=>
  cases hq;refine⟨?_,ayz _ _,auJ _⟩;simp only[dIs,dUs,dSs,bP,bS,bQ,bT,aP,bR,aQ,aO,aR,aL];(exact sr)
 obtain⟨ws,pats,wd,most,rfl,hq⟩:=aef hr;clear hr;split at hq
 case isFalse=>cases hq
 case isTrue hpre=>
 cases hq;refine⟨by simp,fun B w00=>HY.start ?_⟩;simp only[dIs,dUs,dSs,bP,bS,bQ,bT,aP,bR,aQ,aO,aR,aL];have api:=arV hpre;unfold mF mD;cases hp:tK ws pats with
 |false=>rw[hp]at api;simp only[Bool.false_and];rw[if_neg (by decide)];generalize(if adZ ws pats=true then piR ws pats else [])=l at*;generalize(if adZ ws pats=true then txR ws pats else [])=tx at*;clear hp;have gpgi_c91:=afN;have gpgi_c92:=aeA;have gpgi_c93:=abU;refine HY.seq (HY.eng mixed dw (by kernel_rfl) ?_);(try dsimp only);(refine wlk ?_;intros);refine HY.seq (HY.eng mixed dw (by kernel_rfl) ?_);(try dsimp only);(refine wlk ?_;intros);refine HY.seq (HY.eng mixed dw (by kernel_rfl) ?_);(try dsimp only);(refine wlk ?_;intros);refine⟨?_,fun b L e=>by cases e⟩;rw[List.map_nil,bW,zF];((with_reducible apply iF (by first|exact .inl rfl|exact .inr rfl));(exact sr))
 |true=>
 have hB:=atD hp;have hV:piV ws pats=piR ws pats:=if_pos hp;have hA:adZ ws pats=true:=by obtain⟨h1,h2,h3,-⟩:=qD.1 hp;unfold adZ;rw[h1,h2,decide_eq_true h3];rfl
 rw[hp,hA,if_pos rfl,if_pos rfl]at api;simp only[Bool.true_and];rw[hV]at hB;have hl:=bK hB;have apb:=akE (l:=piR ws pats) (wd:=wd) (most:=most) (show(piR ws pats).length≤1000 by omega);have hnb:=aq0 ws pats;rw[hV];have htz:∀k:Nat,((txR ws pats)[k]?.getD ByteArray.empty).size≤20:=afw;have htp:∀k:Nat,k<nb (piR ws pats)→1≤((txR ws pats)[k]?.getD ByteArray.empty).size:=fun k hk=>al2 (by rw[←hnb];exact hk);have htl:(txR ws pats).length≤60:=by rw[←hnb];exact Nat.le_trans (List.length_filter_le _ _) hl
 have hob:kg (piR ws pats) wd most=true→atz (piR ws pats) (cK (piR ws pats) wd most):=fun h=>ac9 hB (eH.1 h).2.2.2.1.2;have hrr:kg (piR ws pats) wd most=true→axA (piR ws pats) wd most=cK (piR ws pats) wd most:=fun h=>if_pos h;have hbp:kg (piR ws pats) wd most=true→0<(cK (piR ws pats) wd most).length:=fun h=>aaE (eH.1 h).2.1 (eH.1 h).2.2.2.2;clear hp hA hV hpre;generalize piR ws pats=l at*;generalize txR ws pats=tx at*;cases hb:kg l wd most with
 |false=>rw[hb]at apb;rw[if_neg (by decide)];clear hob hrr hnb htz htp hb hbp;generalize axA l wd most=br at*;have gpgi_c91:=afN;have gpgi_c92:=aeA;have gpgi_c93:=abU;refine HY.seq (HY.eng mixed dw (by kernel_rfl) ?_);(try dsimp only);(refine wlk ?_;intros);refine HY.seq (HY.eng mixed dw (by kernel_rfl) ?_);(try dsimp only);(refine wlk ?_;intros);refine HY.seq (HY.eng mixed dw (by kernel_rfl) ?_);(try dsimp only);(refine wlk ?_;intros);refine HY.seq (HY.eng mixed dw (by kernel_rfl) ?_);(try dsimp only);(refine wlk ?_;intros);refine HY.seq (HY.eng mixed dw (by kernel_rfl) ?_);(try dsimp only);(refine wlk ?_;intros);refine⟨?_,fun b L e=>by cases e⟩;rw[List.map_nil,bW,zF];((with_reducible apply iF (by first|exact .inl rfl|exact .inr rfl));(exact sr))
 |true=>
  have hbr:=hob hb;have hbp0:=hbp hb;rw[hb,hrr hb]at apb;rw[if_pos rfl];clear hob hrr hb hbp;generalize cK l wd most=br at*;have gpgi_c91:=afN;have gpgi_c92:=aeA;have gpgi_c93:=abU;refine HY.seq (HY.eng mixed dw (by kernel_rfl) ?_);(try dsimp only);(refine wlk ?_;intros);refine HY.seq (HY.eng mixed dw (by kernel_rfl) ?_);(try dsimp only);(refine wlk ?_;intros);refine HY.seq (HY.eng mixed dw (by kernel_rfl) ?_);(try dsimp only);(refine wlk ?_;intros);refine HY.seq (HY.eng mixed dw (by kernel_rfl) ?_);(try dsimp only);(refine wlk ?_;intros);refine HY.seq (HY.eng mixed dw (by kernel_rfl) ?_);(try dsimp only);(refine wlk ?_;intros);refine HY.seq (HY.each (HO.make rfl rfl (by decide) rfl fun b hbB=>?_));dsimp only[AS.put];refine HO.pre (imm:=⟨[],[],[]⟩) 1 dw (by kernel_rfl) (by simp only[List.take_succ_cons,List.take_zero]<;>exact rfl) (by simp only[List.drop_succ_cons,List.drop_zero]<;>exact rfl) (by simp only[List.map_cons,List.map_nil]<;>exact rfl) ?_;(try dsimp only);(refine wlk ?_;intros);refine HO.nil ?_;refine HY.seq (HY.seq (HY.eng mixed dw (by kernel_rfl) ?_));(try dsimp only);(refine wlk ?_;intros);(try dsimp only);have hll:((l.map gG).length:Int)=(l.length:Int):=by simp
  refine HY.block (HY.uR (α:=Nat×Nat) (fun i=>[(10,.lst true 7 (l.map gG)),(11,.lst true 1 (tx.map pvS)),(13,.lst true 1 (br.map pvN)),(14,.val (.map (some b))),(43,.lst true 7 (l.map gG)),(44,iv l.length),(45,iv i.1)])
   (fun i=>[]) (fun i=>i.2) (fun i σ=>i.1≤l.length∧σ=some (b,bxL l tx i.1)) (fun i=>l.length-i.1) (0,0) ⟨Nat.zero_le _,rfl⟩ ?_ ?_ rfl ?_)
  ·(try dsimp only)
   exact agi
  ·(try dsimp only)
   exact agr
  rintro⟨k,y⟩ σ ⟨hk,rfl⟩;dsimp only at hk⊢;refine HY.seq (HY.eng mixed dw (by kernel_rfl) ?_);by_cases hkl:k<l.length
  ·have hn1:=anA l k
   have hbl:=am7 (tx:=tx) hk;have hnew:=aye (l:=l) (tx:=tx) (k:=k);have hyes:=fun h=>aoz (l:=l) (tx:=tx) (k:=k) h;have hno:=fun h=>atO (l:=l) (tx:=tx) (k:=k) h;have hlt:=fun h=>zJ (l:=l) (n:=k) hkl h;rw[hnb]at hlt hn1;replace hnew:=Lib.hid hnew;replace hyes:=Lib.hid hyes;replace hno:=Lib.hid hno;replace hlt:=Lib.hid hlt;replace hbl:=Lib.hid hbl;clear hnb htz htp hbr;(refine wlk ?_;intros);refine HY.seq (HY.eng mixed dw (by kernel_rfl) ?_);(try dsimp only);(refine wlk ?_;intros);(try dsimp only);refine HY.seq (HY.block (HY.seq (HY.eng mixed dw (by kernel_rfl) ?_)));(try dsimp only);(refine wlk ?_;intros);refine HY.seq (HY.eng mixed dw (by kernel_rfl) ?_);(try dsimp only);(refine wlk ?_;intros);refine HY.cond (b:=decide ((l[k]?.getD it0).1=1)) (by(exact sr)) (fun hc=>?_) (fun hc=>?_)
   ·have hc1:(l[k]?.getD it0).1=1:=of_decide_eq_true hc
    have h9:=hlt.out hc1;have hy9:=hyes.out hc1;replace hy9:=Lib.hid hy9;have hb9:=hbl.out;clear hc hyes hno hlt hbl;generalize hnn:nbX l k=nn at*;replace hnn:=Lib.hid hnn;generalize hLL:bxL l tx k=LL at*;replace hLL:=Lib.hid hLL;replace hb9:=Lib.hid hb9;refine HY.each (HO.pre (imm:=⟨[],[],[]⟩) 4 dw (by kernel_rfl) (by simp only[List.take_succ_cons,List.take_zero]<;>exact rfl) (by simp only[List.drop_succ_cons,List.drop_zero]<;>exact rfl) (by simp only[List.map_cons,List.map_nil]<;>exact rfl) ?_);(try dsimp only);(refine wlk ?_;intros);refine HO.aHn aws rfl rfl rfl (by decide) (by(exact sr)) ?_;dsimp only[AS.put];rw[hb9.out];refine HO.pre (imm:=⟨[],[],[]⟩) 2 dw (by kernel_rfl) (by simp only[List.take_succ_cons,List.take_zero]<;>exact rfl) (by simp only[List.drop_succ_cons,List.drop_zero]<;>exact rfl) (by simp only[List.map_cons,List.map_nil]<;>exact rfl) ?_;(try dsimp only);(refine wlk ?_;intros);refine HO.upd aoO aws rfl rfl rfl (by(try dsimp only);(exact sr)) (key:=.int .i64 k) (val:=.string (tx[nn]?.getD .empty)) (congrArg toVal (show _=PV.val (.int .i64 k) by(try dsimp only);(exact sr))) (congrArg toVal (show _=PV.val (.string (tx[nn]?.getD .empty)) by(try dsimp only);(exact sr))) (aDP (by omega)) fun L' hu=>?_;have hL':L'=bxL l tx (k+1):=by
     rw[hy9.out];cases hu with
     |new _=>rfl
     |old h=>exact absurd rfl (hnew.out (_,_) (by rw[h];exact List.mem_append.2 (.inr List.mem_cons_self)))
    refine HO.nil ?_;refine HY.eng mixed dw (by kernel_rfl) ?_;(try dsimp only);(refine wlk ?_;intros);(try dsimp only);refine⟨(k+1,y+1),⟨by dsimp only;omega,congrArg some (Prod.ext rfl hL')⟩,by dsimp only;omega,?_,?_,rfl⟩
    ·(try dsimp only)
     exact agi
    ·(try dsimp only)
     exact agr
   ·have hc1:¬(l[k]?.getD it0).1=1:=of_decide_eq_false hc
    have hn9:=hno.out hc1;clear hc hyes hno hlt hbl hnew;refine HY.skip ?_;refine HY.eng mixed dw (by kernel_rfl) ?_;(try dsimp only);(refine wlk ?_;intros);(try dsimp only);refine⟨(k+1,y+1),⟨by dsimp only;omega,congrArg some (Prod.ext rfl hn9.symm)⟩,by dsimp only;omega,?_,?_,rfl⟩
    ·(try dsimp only)
     exact agi
    ·(try dsimp only)
     exact agr
  ·obtain rfl:k=l.length:=by omega
   have hlook:∀n:Nat,n<l.length→(l[n]?.getD it0).1=1→lkP (azk.see ⟨109,b,auA (bxL l tx l.length)⟩).mp 109 (.val (.map (some b))) (some (.int .i64 (n:Int))) false=some (.val (.string (tx[nbX l n]?.getD .empty))):=fun n h1 h2=>by have:=arE (alQ (l:=l) (tx:=tx) l.length) (axL (tx:=tx) h1 h2);simpa [Ctx.see,lkP]using this
   have hcall:∀(ob:bG) (ps:List PV),acP (azk.see ⟨109,b,auA (bxL l tx l.length)⟩) ob 93 ps=(ps.mapM (reify false 0 ob fuel)).bind alf:=abU;(refine wlk ?_;intros);refine HY.seq (HY.eng mixed dw (by kernel_rfl) ?_);(try dsimp only);(refine wlk ?_;intros);(try dsimp only);refine HY.see (M:=⟨109,b,auA (bxL l tx l.length)⟩) mixed dw rfl (fun key c p hp w1 g1 hM1=>?_) (by kernel_rfl) ?_
   ·obtain⟨rfl,v,hv,rfl⟩:=al8 hp
    obtain⟨n,hn,hkey⟩:=amO hv;dsimp only at hkey;subst hkey;exact⟨v,hM1.abh aoO aws false (aDP (by omega)) hv,by simp[Rep]⟩
   generalize auA (bxL l tx l.length)=A9 at*;clear api apb;have htz2:=htz;have hlnk:=qR l tx br;have hbat:=fun k hk=>hbr.at_ (k:=k) hk;have hbq:=fun k hk=>(hbr.2 k hk).2;have hbl:=hbr.1;clear hbr;(try dsimp only);(refine wlk ?_;intros);refine aB (α:=Nat×Nat×Nat) mixed (fun z=>[(10,.lst true 7 (l.map gG)),(11,.lst true 1 (tx.map pvS)),(13,.lst true 1 (br.map pvN)),(14,.val (.map (some b))),(17,nP 1 ((mE l tx br z.1).map pvS) z.2.1),(18,iv ((frB br z.1:Int)-1)),(61,.lst true 1 (br.map pvN)),(62,iv br.length),(63,iv z.1)])
    (fun z=>nO 9 1 ((mE l tx br z.1).map pvS) z.2.1) (fun z=>z.2.2) (fun z=>z.1≤br.length∧(0<z.1→z.2.1<z.2.2)) (fun z=>br.length-z.1) (by kernel_rfl) (0,0,y) ⟨Nat.zero_le _,fun h=>absurd h (Nat.lt_irrefl 0)⟩ ?_ ?_ rfl ?_
   ·have hf0:frB br 0=0:=rfl
    dsimp only
    rw[hf0,show mE l tx br 0=[]from rfl,List.map_nil,bW];exact agi
   ·dsimp only
    rw[show mE l tx br 0=[]from rfl,List.map_nil,bU];exact agr
   rintro⟨k,x,y⟩ ⟨hk,hxy⟩;dsimp only at hk hxy⊢;have hlk0:=hlnk k;by_cases hkb:k<br.length
   ·by_cases hk0:k=0
    ·skip
     subst hk0;rw[show mE l tx br 0=[]from rfl,List.map_nil,bW,bU];obtain⟨b1,b2,b3,b4⟩:=hbat 0 hkb;have hq:=hbq 0 hkb;have hn0:mE l tx br (0+1)=mE l tx br 0++[lnR l tx (frB br 0) (br[0]?.getD 0).toNat]:=rfl;have hfs:=vL br 0;have hlk9:(mE l tx br 0).length=0:=rfl;rw[show mE l tx br 0=[]from rfl,List.nil_append]at hn0;generalize frB br 0=a at*;obtain⟨en,hen⟩:∃en:Nat,br[0]?.getD 0=(en:Int):=⟨(br[0]?.getD 0).toNat,by omega⟩;rw[hen,Int.toNat_natCast]at hn0 hfs b2 b3 b4 hq;rw[hen]at b1;have hline:=akl (tx:=tx) hB hq htp;have hmk:lnR l tx a en=if(l[en]?.getD it0).2.2.2.2.2.2=true then lnT l tx a (en-a)++⟨#[45]⟩else lnT l tx a (en-a):=rfl;rw[←hline]at hmk;have api:=ahj (l:=l) (a:=a) (en:=en) hB b2 b3;rw[hq,if_pos rfl]at api;have hil:=qB l (aF l a) en;have him:=fun x hx=>vO (l:=l) (b:=aF l a) (c:=en) x hx;generalize hI:oL l (aF l a) en=is at*;have hit:=fun j hj=>abv (l:=l) (tx:=tx) (is:=is) (j:=j) hj;have his:=fun j hj=>aat (l:=l) (tx:=tx) htz is j hj;have hfull:is.take is.length=is:=List.take_of_length_le (Nat.le_refl _);replace hit:=Lib.hid hit;replace him:=Lib.hid him;replace hmk:=Lib.hid hmk;replace hn0:=Lib.hid hn0;replace hfull:=Lib.hid hfull;replace hlook:=Lib.hid hlook;have HFS:=Lib.hid hfs;have hfe:=Lib.hid (show(frB br (0+1):Int)-1=(en:Int) by rw[hfs];omega);clear hline hq hI hlnk hbat hbq hnb htp hfs;have h45:(⟨#[45]⟩:ByteArray).size=1:=rfl;have h32:(⟨#[32]⟩:ByteArray).size=1:=rfl;have hill:((is.map pvN).length:Int)=(is.length:Int):=by simp
     (refine wlk ?_;intros);refine aB (α:=Nat) mixed (fun j=>[(10,.lst true 7 (l.map gG)),(11,.lst true 1 (tx.map pvS)),(13,.lst true 1 (br.map pvN)),(14,.val (.map (some b))),(17,.val (.slice none 0 0)),(18,iv ((a:Int)-1)),(20,iv en),(21,.val (.string (liF l tx (is.take j)))),(61,.lst true 1 (br.map pvN)),(62,iv br.length),(63,iv (0:Nat)),(70,.lst true 1 (is.map pvN)),(71,iv is.length),(72,iv j)])
      (fun _=>[]) (fun _=>y) (fun j=>j≤is.length) (fun j=>is.length-j) (by kernel_rfl) 0 (Nat.zero_le _) ?_ ?_ rfl ?_
     ·have hl0:liF l tx (is.take 0)=⟨#[]⟩:=rfl
      (try dsimp only);rw[hl0];exact agi
     ·(try dsimp only)
      exact agr
     intro j hj;have hsz:=his j hj;by_cases hjl:j<is.length
     ·have hxm:=him.out (is[j]?.getD 0) (by rw[List.getElem?_eq_getElem hjl];exact List.getElem_mem hjl)
      have ht:=hit.out j hjl;obtain⟨n,hnn⟩:∃n:Nat,is[j]?.getD 0=n:=⟨(is[j]?.getD 0).toNat,by omega⟩;rw[hnn,Int.toNat_natCast]at hxm;rw[hnn,Int.toNat_natCast]at ht;obtain⟨hn1,hn2,hn3⟩:=hxm;have hnl:n<l.length:=by omega
      have hk3:¬(l[n]?.getD it0).1=3:=hn3;have hS:tZ l tx (liF l tx (is.take j)) n=if(l[n]?.getD it0).1=1 then liF l tx (is.take j)++(tx[nbX l n]?.getD .empty)else if 0<(l[n]?.getD it0).2.1 then liF l tx (is.take j)++⟨#[32]⟩else liF l tx (is.take j):=rfl;rw[hS]at ht;have hlk9:=hlook.out n hnl;have hz9:=htz2 (nbX l n);clear hS hn3 his;generalize hs2:liF l tx (is.take (j+1))=s2 at*;replace hs2:=Lib.hid hs2;generalize liF l tx (is.take j)=s at*;generalize nbX l n=nn at*;generalize tx[nn]?.getD ByteArray.empty=tn at*;generalize hyy:l[n]?.getD it0=yy at*;obtain⟨y1,y2',y3,y4,y5,y6,y7⟩:=yy;dsimp only at ht hk3 hlk9;by_cases k1:y1=1
      ·rw[if_pos k1]at ht
       have hf:=Lib.hid ht;have hlk8:=hlk9 k1;clear ht hlk9;subst k1;(refine wlk ?_;intros);refine⟨j+1,by dsimp only;omega,by dsimp only;omega,?_,?_,rfl⟩
       ·dsimp only
        rw[hs2.out,hf.out];exact agi
       ·dsimp only
        exact agr
      ·rw[if_neg k1]at ht
       by_cases k2:0<y2'
       ·rw[if_pos k2]at ht
        have hf:=Lib.hid ht;clear ht hlk9;(refine wlk ?_;intros);refine⟨j+1,by dsimp only;omega,by dsimp only;omega,?_,?_,rfl⟩
        ·dsimp only
         rw[hs2.out,hf.out];exact agi
        ·dsimp only
         exact agr
       ·rw[if_neg k2]at ht
        have hf:=Lib.hid ht;clear ht hlk9;(refine wlk ?_;intros);refine⟨j+1,by dsimp only;omega,by dsimp only;omega,?_,?_,rfl⟩
        ·dsimp only
         rw[hs2.out,hf.out];exact agi
        ·dsimp only
         exact agr
     ·obtain rfl:j=is.length:=by omega
      rw[hfull.out]at*;generalize hSS:liF l tx is=s at*;clear his hSS;generalize hyy:l[en]?.getD it0=yy at*;obtain⟨y1,y2',y3,y4,y5,y6,y7⟩:=yy;have hmk2:=hmk.out;clear hmk;dsimp only at hmk2;cases y7 with
      |true=>
       rw[if_pos rfl]at hmk2;have hn:=hn0.out;rw[hmk2]at hn;replace hn:=Lib.hid hn;clear hmk2 hn0;(refine wlk ?_;intros);refine⟨(0+1,y+1,y+2),⟨by dsimp only;omega,fun _=>by dsimp only;omega⟩,by dsimp only;omega,?_,?_,rfl⟩
       ·dsimp only
        rw[hn.out,hfe.out,av (by simp)];exact agi
       ·dsimp only
        rw[hn.out,ay (by simp)];exact agr
      |false=>
       rw[if_neg (by decide)]at hmk2;have hn:=hn0.out;rw[hmk2]at hn;replace hn:=Lib.hid hn;clear hmk2 hn0;(refine wlk ?_;intros);refine⟨(0+1,y+1,y+2),⟨by dsimp only;omega,fun _=>by dsimp only;omega⟩,by dsimp only;omega,?_,?_,rfl⟩
       ·dsimp only
        rw[hn.out,hfe.out,av (by simp)];exact agi
       ·dsimp only
        rw[hn.out,ay (by simp)];exact agr
    ·skip
     have hnp:0<((mE l tx br k).map pvS).length:=by rw[List.length_map];omega
     have hxy2:=hxy (by omega);rw[av hnp,ay hnp,List.length_map,hlk0];have hxne:¬x=y:=by omega
     have hyne:¬y=x:=by omega
     obtain⟨b1,b2,b3,b4⟩:=hbat k hkb;have hq:=hbq k hkb;have hn0:mE l tx br (k+1)=mE l tx br k++[lnR l tx (frB br k) (br[k]?.getD 0).toNat]:=rfl;have hfs:=vL br k;generalize mE l tx br k=out at*;generalize frB br k=a at*;obtain⟨en,hen⟩:∃en:Nat,br[k]?.getD 0=(en:Int):=⟨(br[k]?.getD 0).toNat,by omega⟩;rw[hen,Int.toNat_natCast]at hn0 hfs b2 b3 b4 hq;rw[hen]at b1;have hline:=akl (tx:=tx) hB hq htp;have hmk:lnR l tx a en=if(l[en]?.getD it0).2.2.2.2.2.2=true then lnT l tx a (en-a)++⟨#[45]⟩else lnT l tx a (en-a):=rfl;rw[←hline]at hmk;have api:=ahj (l:=l) (a:=a) (en:=en) hB b2 b3;rw[hq,if_pos rfl]at api;have hil:=qB l (aF l a) en;have him:=fun x hx=>vO (l:=l) (b:=aF l a) (c:=en) x hx;generalize hI:oL l (aF l a) en=is at*;have hit:=fun j hj=>abv (l:=l) (tx:=tx) (is:=is) (j:=j) hj;have his:=fun j hj=>aat (l:=l) (tx:=tx) htz is j hj;have hfull:is.take is.length=is:=List.take_of_length_le (Nat.le_refl _);replace hit:=Lib.hid hit;replace him:=Lib.hid him;replace hmk:=Lib.hid hmk;replace hn0:=Lib.hid hn0;replace hfull:=Lib.hid hfull;replace hlook:=Lib.hid hlook;have HFS:=Lib.hid hfs;have hfe:=Lib.hid (show(frB br (k+1):Int)-1=(en:Int) by rw[hfs];omega);clear hline hq hI hlnk hbat hbq hnb htp hfs;have h45:(⟨#[45]⟩:ByteArray).size=1:=rfl;have h32:(⟨#[32]⟩:ByteArray).size=1:=rfl;have hill:((is.map pvN).length:Int)=(is.length:Int):=by simp
     (refine wlk ?_;intros);refine aB (α:=Nat) mixed (fun j=>[(10,.lst true 7 (l.map gG)),(11,.lst true 1 (tx.map pvS)),(13,.lst true 1 (br.map pvN)),(14,.val (.map (some b))),(17,.row x 1 0 k),(18,iv ((a:Int)-1)),(20,iv en),(21,.val (.string (liF l tx (is.take j)))),(61,.lst true 1 (br.map pvN)),(62,iv br.length),(63,iv (k:Nat)),(70,.lst true 1 (is.map pvN)),(71,iv is.length),(72,iv j)])
      (fun _=>[(x,9,1,out.map pvS)]) (fun _=>y) (fun j=>j≤is.length) (fun j=>is.length-j) (by kernel_rfl) 0 (Nat.zero_le _) ?_ ?_ rfl ?_
     ·have hl0:liF l tx (is.take 0)=⟨#[]⟩:=rfl
      (try dsimp only);rw[hl0];exact agi
     ·(try dsimp only)
      exact agr
     intro j hj;have hsz:=his j hj;by_cases hjl:j<is.length
     ·have hxm:=him.out (is[j]?.getD 0) (by rw[List.getElem?_eq_getElem hjl];exact List.getElem_mem hjl)
      have ht:=hit.out j hjl;obtain⟨n,hnn⟩:∃n:Nat,is[j]?.getD 0=n:=⟨(is[j]?.getD 0).toNat,by omega⟩;rw[hnn,Int.toNat_natCast]at hxm;rw[hnn,Int.toNat_natCast]at ht;obtain⟨hn1,hn2,hn3⟩:=hxm;have hnl:n<l.length:=by omega
      have hk3:¬(l[n]?.getD it0).1=3:=hn3;have hS:tZ l tx (liF l tx (is.take j)) n=if(l[n]?.getD it0).1=1 then liF l tx (is.take j)++(tx[nbX l n]?.getD .empty)else if 0<(l[n]?.getD it0).2.1 then liF l tx (is.take j)++⟨#[32]⟩else liF l tx (is.take j):=rfl;rw[hS]at ht;have hlk9:=hlook.out n hnl;have hz9:=htz2 (nbX l n);clear hS hn3 his;generalize hs2:liF l tx (is.take (j+1))=s2 at*;replace hs2:=Lib.hid hs2;generalize liF l tx (is.take j)=s at*;generalize nbX l n=nn at*;generalize tx[nn]?.getD ByteArray.empty=tn at*;generalize hyy:l[n]?.getD it0=yy at*;obtain⟨y1,y2',y3,y4,y5,y6,y7⟩:=yy;dsimp only at ht hk3 hlk9;by_cases k1:y1=1
      ·rw[if_pos k1]at ht
       have hf:=Lib.hid ht;have hlk8:=hlk9 k1;clear ht hlk9;subst k1;(refine wlk ?_;intros);refine⟨j+1,by dsimp only;omega,by dsimp only;omega,?_,?_,rfl⟩
       ·dsimp only
        rw[hs2.out,hf.out];exact agi
       ·dsimp only
        exact agr
      ·rw[if_neg k1]at ht
       by_cases k2:0<y2'
       ·rw[if_pos k2]at ht
        have hf:=Lib.hid ht;clear ht hlk9;(refine wlk ?_;intros);refine⟨j+1,by dsimp only;omega,by dsimp only;omega,?_,?_,rfl⟩
        ·dsimp only
         rw[hs2.out,hf.out];exact agi
        ·dsimp only
         exact agr
       ·rw[if_neg k2]at ht
        have hf:=Lib.hid ht;clear ht hlk9;(refine wlk ?_;intros);refine⟨j+1,by dsimp only;omega,by dsimp only;omega,?_,?_,rfl⟩
        ·dsimp only
         rw[hs2.out,hf.out];exact agi
        ·dsimp only
         exact agr
     ·obtain rfl:j=is.length:=by omega
      rw[hfull.out]at*;generalize hSS:liF l tx is=s at*;clear his hSS;generalize hyy:l[en]?.getD it0=yy at*;obtain⟨y1,y2',y3,y4,y5,y6,y7⟩:=yy;have hmk2:=hmk.out;clear hmk;dsimp only at hmk2;cases y7 with
      |true=>
       rw[if_pos rfl]at hmk2;have hn:=hn0.out;rw[hmk2]at hn;replace hn:=Lib.hid hn;clear hmk2 hn0;(refine wlk ?_;intros);refine⟨(k+1,y+1,y+2),⟨by dsimp only;omega,fun _=>by dsimp only;omega⟩,by dsimp only;omega,?_,?_,rfl⟩
       ·dsimp only
        rw[hn.out,hfe.out,av (by simp)];exact agi
       ·dsimp only
        rw[hn.out,ay (by simp)];exact agr
      |false=>
       rw[if_neg (by decide)]at hmk2;have hn:=hn0.out;rw[hmk2]at hn;replace hn:=Lib.hid hn;clear hmk2 hn0;(refine wlk ?_;intros);refine⟨(k+1,y+1,y+2),⟨by dsimp only;omega,fun _=>by dsimp only;omega⟩,by dsimp only;omega,?_,?_,rfl⟩
       ·dsimp only
        rw[hn.out,hfe.out,av (by simp)];exact agi
       ·dsimp only
        rw[hn.out,ay (by simp)];exact agr
   ·obtain rfl:k=br.length:=by omega
    have hnp:0<((mE l tx br br.length).map pvS).length:=by rw[List.length_map];omega
    have hxy2:=hxy (by omega);rw[av hnp,ay hnp,av hnp,ahi hnp];generalize mE l tx br br.length=out at*;simp only[List.length_map,hlk0];(refine wlk ?_;intros);refine⟨?_,fun b2 L2 e=>by cases e;exact hbB⟩;((with_reducible apply pE (x) (by first|exact .inl rfl|exact .inr rfl));(focus(exact sr));(focus(exact sr)))
def blK (p:List LS) (q:LS) (x y:Int):Nat→LS
 |0=>[]
 |k+1=>blK p q x y k++mF (p[k]?.getD []) q x y
def bcK (p:List LS) (q:LS) (x y:Int):Nat→List Int
 |0=>[]
 |k+1=>bcK p q x y k++[((mF (p[k]?.getD []) q x y).length:Int)]
def blB (p:List LS) (q:LS) (x y z:Int):Bool:=iC p q x y z&&p.all fun w=>mD w q x y
def blL (p:List LS) (q:LS) (x y z:Int):LS:=if blB p q x y z=true then blK p q x y p.length else []
def blC (p:List LS) (q:LS) (x y z:Int):List Int:=if blB p q x y z=true then bcK p q x y p.length else []
theorem aaO (p:List LS) (q:LS) (x y:Int):∀k,(blK p q x y k).length≤60*k
 |0=>by simp[blK]
 |k+1=>by have:=aaO p q x y k;have h2:=(abm (p[k]?.getD []) q x y).1;rw[blK,List.length_append];omega
theorem aa7 (p:List LS) (q:LS) (x y:Int):∀k,(bcK p q x y k).length=k
 |0=>rfl
 |k+1=>by rw[bcK,List.length_append,aa7 p q x y k];rfl
theorem aeY {ws pats:LS} {wd most:Int} (h:mD ws pats wd most=true):0<(mF ws pats wd most).length:=by unfold mF;rw[if_pos h,qR];unfold mD at h;rw[Bool.and_eq_true]at h;obtain⟨h1,h2⟩:=h;have hV:piV ws pats=piR ws pats:=if_pos h1;rw[hV]at h2;exact aaE (eH.1 h2).2.1 (eH.1 h2).2.2.2.2
theorem ayf {ws pats:LS} {wd most:Int} (h:mD ws pats wd most=false):mF ws pats wd most=[]:=by unfold mF;rw[if_neg (by rw[h];decide)]
theorem als {p:List LS} {q:LS} {x y:Int}:∀{k:Nat},(∀j,j<k→mD (p[j]?.getD []) q x y=true)→0<k→0<(blK p q x y k).length
 |0,_,h=>by omega
 |k+1,h,_=>by have:=aeY (h k (by omega));rw[blK,List.length_append];omega
def φBl:Fun:=F1 iy fun b=>if aaI b.1 b.2.1 then some (.tup [.lst true 1 ((blL b.1 b.2.1 b.2.2.1 b.2.2.2.1 b.2.2.2.2).map fun s=> .val (.string s)),.lst true 1 ((blC b.1 b.2.1 b.2.2.1 b.2.2.2.1 b.2.2.2.2).map fun n=> .val (.int .i64 n)),bv (blB b.1 b.2.1 b.2.2.1 b.2.2.2.1 b.2.2.2.2)])else none
theorem aw0 {p:List LS} {q:LS} {x y z:Int} (h:aaI p q):φBl [.agg [.lst false 1 (p.map fun p=> .lst false 1 (p.map fun s=> .val (.string s))),.lst false 1 (q.map fun s=> .val (.string s)),.val (.int .i64 x),.val (.int .i64 y),.val (.int .i64 z)]]=some (.tup [.lst true 1 ((blL p q x y z).map fun s=> .val (.string s)),.lst true 1 ((blC p q x y z).map fun n=> .val (.int .i64 n)),.val (.bool (blB p q x y z))]):=
 (dY (A:=iy) (p,q,x,y,z)).trans (if_pos h)
def anS:Fun:=aeM az9
theorem ajY:Sound Tryz.prog 60 anS:=asc.pure
theorem aqe {ws pats:LS} {wd most:Int} (h:oM ws∧oM pats) (h0:0<(mF ws pats wd most).length):anS [.lst false 1 (ws.map fun s=> .val (.string s)),.lst false 1 (pats.map fun s=> .val (.string s)),.val (.int .i64 wd),.val (.int .i64 most)]=some (.tup [.lst true 1 ((mF ws pats wd most).map fun s=> .val (.string s)),.val (.bool (mD ws pats wd most))]):=by
 have hp:0<((mF ws pats wd most).map fun s=>PV.val (.string s)).length:=by simpa using h0
 refine qx (r:=.tup [.row 0 1 0 (mF ws pats wd most).length,.val (.bool (mD ws pats wd most))]) (cs0:=[(9,1,(mF ws pats wd most).map fun s=> .val (.string s))]) ((awV (A:=dSs) (B:=dSs) (C:=dI) (D:=dI) ws pats wd most).trans ((if_pos h).trans (by rw[av hp,ahi hp,List.length_map]))) ?_;rw[aoq];(exact sr)
theorem asw {ws pats:LS} {wd most:Int} (h:oM ws∧oM pats) (h0:mD ws pats wd most=false):anS [.lst false 1 (ws.map fun s=> .val (.string s)),.lst false 1 (pats.map fun s=> .val (.string s)),.val (.int .i64 wd),.val (.int .i64 most)]=some (.tup [.val (.slice none 0 0),.val (.bool false)]):=by refine qx (r:=.tup [.val (.slice none 0 0),.val (.bool false)]) (cs0:=[]) ((awV (A:=dSs) (B:=dSs) (C:=dI) (D:=dI) ws pats wd most).trans ((if_pos h).trans (by rw[ayf h0,h0];rfl))) ?_;(exact sr)
abbrev lsP (p:List LS):PV:=.lst false 1 (p.map fun p=> .lst false 1 (p.map fun s=> .val (.string s)))
def aEL:Ctx:={fn:=aT [(9,o9),(66,aqH)],io:=aT []}
theorem ax6:au Tryz.prog aEL:=okΓ (fC Tryz.func9 uS (fC Tryz.func66 ajN aj)) aj
def atF:=ah (Γ:=aEL) (f:=9) (φ:=o9) rfl
def aoJ:=ah (Γ:=aEL) (f:=66) (φ:=aqH) rfl
theorem alu:Sound Tryz.prog 29 φBl:=by
 refine ak mixed ax6 Tryz.func29 rfl 53 rfl [.tmp 2,.tmp 3,.tmp 4] rfl (by kernel_rfl) fun ps r hr=>?_;obtain⟨⟨p,q,x,y,z⟩,rfl,hpre,rfl⟩:=je hr;refine⟨by simp,?_⟩;simp only[dIs,dUs,dSs,bP,bS,bQ,bT,aP,bR,aQ,aO,aR,aL];(try dsimp only at hpre⊢);have apv:=zA (x:=x) (y:=y) (z:=z) hpre;obtain⟨hlen,hall,hoq⟩:=hpre;have api:=fun k:Nat=>apG (wd:=x) (most:=y) ⟨hall k,hoq⟩;have hp60:=fun k:Nat=>(abm (p[k]?.getD []) q x y).1;have hbk:=aaO p q x y;have hck:=aa7 p q x y;unfold blL blC blB;cases hb:iC p q x y z with
 |false=>rw[hb]at apv;simp only[Bool.false_and,Bool.false_eq_true,if_false,List.map_nil];clear api hp60 hbk hck hall hoq hb;have gbls_c9:=atF;have gbls_c66:=aoJ;exact wlkF
 |true=>
  rw[hb]at apv;have h6:p.length≤6:=by unfold iC at hb;simp only[Bool.and_eq_true,decide_eq_true_eq]at hb;exact hb.2.1
  simp only[Bool.true_and];clear hall hoq hb;have gbls_c9:=atF;have gbls_c66:=aoJ;(refine wlk ?_;intros);refine aB (α:=Nat×Nat×Nat×Nat) mixed (fun i=>[(1,.own 0 5 0 0),(5,.row i.2.1 1 0 (blK p q x y i.1).length),(6,.row i.2.2.1 1 0 i.1),(7,iv i.1)])
   (fun i=>[(0,26,5,[.agg [lsP p,.lst false 1 (q.map fun s=> .val (.string s)),.val (.int .i64 x),.val (.int .i64 y),.val (.int .i64 z)]]),(i.2.1,9,1,(blK p q x y i.1).map fun s=> .val (.string s)),(i.2.2.1,3,1,(bcK p q x y i.1).map fun n=> .val (.int .i64 n))])
   (fun i=>i.2.2.2) (fun i=>i.1≤p.length∧(0<i.2.1∧0<i.2.2.1∧i.2.1≠i.2.2.1∧i.2.1<i.2.2.2∧i.2.2.1<i.2.2.2)∧∀j,j<i.1→mD (p[j]?.getD []) q x y=true) (fun i=>p.length-i.1) (by kernel_rfl) (0,1,2,3) ⟨Nat.zero_le _,by decide,fun j hj=>by dsimp only at hj;omega⟩ ?_ ?_ rfl ?_
  ·have h0:(blK p q x y 0).length=0:=rfl
   exact agi
  ·have h0:blK p q x y 0=[]:=rfl
   have h1:bcK p q x y 0=[]:=rfl;exact agr
  rintro⟨k,o1,o2,nx⟩ ⟨hk,⟨ho1,ho2,ho3,ho4,ho5⟩,hok⟩;dsimp only at hk ho1 ho2 ho3 ho4 ho5 hok;have ho6:¬o2=o1:=fun e=>ho3 e.symm;replace ho3:¬o1=o2:=ho3;have hok':=Lib.hid hok;clear hok;have hbl:=hbk k;have hcl:=hck k;by_cases hkl:k<p.length
  ·have ap:=api k
   have h60:=hp60 k;have hn1:blK p q x y (k+1)=blK p q x y k++mF (p[k]?.getD []) q x y:=rfl;have hn2:bcK p q x y (k+1)=bcK p q x y k++[((mF (p[k]?.getD []) q x y).length:Int)]:=rfl;have hno:mD (p[k]?.getD []) q x y=false→(p.all fun w=>mD w q x y)=false:=fun h=>jX (d:=[]) hkl h;have hys:mD (p[k]?.getD []) q x y=true→∀j,j<k+1→mD (p[j]?.getD []) q x y=true:=fun h j hj=>by
    rcases Nat.lt_or_ge j k with h1|h1
    ·exact hok'.out j h1
    ·obtain rfl:j=k:=by omega
     exact h
   replace hn1:=Lib.hid hn1;replace hn2:=Lib.hid hn2;replace hys:=Lib.hid hys;clear api hp60 hbk hck;generalize mF (p[k]?.getD []) q x y=L at*;generalize blK p q x y k=B at*;generalize bcK p q x y k=C at*;cases hB:mD (p[k]?.getD []) q x y with
   |false=>rw[hB]at ap;rw[hno hB];clear hno hys hB hn1 hn2;simp only[Bool.false_eq_true,if_false,List.map_nil];exact wlkF
   |true=>
    rw[hB]at ap;have hys2:=hys.out hB;replace hys2:=Lib.hid hys2;clear hno hys hB;(refine wlk ?_;intros);refine⟨(k+1,nx,nx+2,nx+3),⟨by dsimp only;omega,by refine⟨?_,?_,?_,?_,?_⟩<;>(dsimp only;omega),hys2.out⟩,by dsimp only;omega,?_,?_,rfl⟩
    ·dsimp only
     rw[hn1.out];exact agi
    ·dsimp only
     rw[hn1.out,hn2.out];exact agr
  ·obtain rfl:k=p.length:=by omega
   have hall2:(p.all fun w=>mD w q x y)=true:=gF (d:=[]) fun j hj=>hok'.out j hj;rw[hall2];simp only[if_true];clear api hp60 hbk hck hall2;generalize blK p q x y p.length=B at*;generalize bcK p q x y p.length=C at*;exact wlkF
theorem axz {P:Program} {rs:List ResultVar} {tm:Nat→PV} {ob:bG} {nx:Nat} {x:X} {r:PV} {c' d':aS} (a b:Nat) (hab:¬a=b) (hx:x=.normal∨x=.ret) (h1:((fU P ⟨tm,ob,nx⟩ rs).bind fun qs=>dA [a,b] ob fuel (gM qs))=some r) (h2:oW [a,b] ob fuel a=some c') (h3:oW [a,b] ob fuel b=some d'):kH P rs 0 r [c',d'] x ⟨tm,ob,nx⟩:=
 ⟨hx,[a,b],by simp,by simp[hab],h1,by show [a,b].mapM (oW [a,b] ob fuel)=some [c',d'];rw[mapM_cons',h2,Option.bind_some,mapM_cons',h3,Option.bind_some,mapM_nil'];rfl⟩
def ΨBl:yU:=G1 iy fun b=>if aaI b.1 b.2.1 then some (if 0<(blL b.1 b.2.1 b.2.2.1 b.2.2.2.1 b.2.2.2.2).length then(.tup [.row 0 1 0 (blL b.1 b.2.1 b.2.2.1 b.2.2.2.1 b.2.2.2.2).length,.row 1 1 0 (blC b.1 b.2.1 b.2.2.1 b.2.2.2.1 b.2.2.2.2).length,bv (blB b.1 b.2.1 b.2.2.1 b.2.2.2.1 b.2.2.2.2)],[(9,1,(blL b.1 b.2.1 b.2.2.1 b.2.2.2.1 b.2.2.2.2).map fun s=> .val (.string s)),(3,1,(blC b.1 b.2.1 b.2.2.1 b.2.2.2.1 b.2.2.2.2).map fun n=> .val (.int .i64 n))])else(.tup [.val (.slice none 0 0),.val (.slice none 0 0),bv (blB b.1 b.2.1 b.2.2.1 b.2.2.2.1 b.2.2.2.2)],[]))else none
def aEP:Ctx:={fn:=aT [(36,o9),(60,anS)],io:=aT []}
theorem ayd:au Tryz.prog aEP:=okΓ (fC Tryz.func36 uO (fC Tryz.func60 ajY aj)) aj
def amf:=ah (Γ:=aEP) (f:=36) (φ:=o9) rfl
def anE:=ah (Γ:=aEP) (f:=60) (φ:=anS) rfl
theorem axc:fQ Tryz.prog 25 ΨBl:=by
 refine qw mixed ayd Tryz.func25 rfl 45 rfl [.tmp 2,.tmp 3,.tmp 4] rfl (by kernel_rfl) fun ps r cs' hr=>?_;obtain⟨⟨p,q,x,y,z⟩,rfl,hq⟩:=wh hr;clear hr;split at hq
 case isFalse=>cases hq
 case isTrue hpre=>
 simp only[Option.some.injEq]at hq;refine⟨by simp,?_⟩;simp only[dIs,dUs,dSs,bP,bS,bQ,bT,aP,bR,aQ,aO,aR,aL];dsimp only at hpre hq⊢;have apv:=zA (x:=x) (y:=y) (z:=z) hpre;obtain⟨hlen,hall,hoq⟩:=hpre;have api:=fun(k:Nat) h=>aqe (wd:=x) (most:=y) ⟨hall k,hoq⟩ h;have apn:=fun(k:Nat) h=>asw (wd:=x) (most:=y) ⟨hall k,hoq⟩ h;have hp60:=fun k:Nat=>(abm (p[k]?.getD []) q x y).1;have hbk:=aaO p q x y;have hck:=aa7 p q x y;unfold blL blC blB at hq;cases hb:iC p q x y z with
 |false=>rw[hb]at apv hq;simp only[Bool.false_and,Bool.false_eq_true,if_false,List.length_nil,Nat.lt_irrefl,Prod.mk.injEq]at hq;obtain⟨rfl,rfl⟩:=hq;clear api apn hp60 hbk hck hall hoq hb;have gbli_c36:=amf;have gbli_c60:=anE;(refine wlk ?_;intros);all_goals((with_reducible apply iF (by first|exact .inl rfl|exact .inr rfl));(exact sr))
 |true=>
  rw[hb]at apv hq;have h6:p.length≤6:=by unfold iC at hb;simp only[Bool.and_eq_true,decide_eq_true_eq]at hb;exact hb.2.1
  simp only[Bool.true_and]at hq;replace hq:=Lib.hid hq;clear hall hoq hb;have gbli_c36:=amf;have gbli_c60:=anE;(refine wlk ?_;intros);refine aB (α:=Nat×Nat×Nat×Nat) mixed (fun i=>[(1,.own 0 5 0 0),(5,nP 1 ((blK p q x y i.1).map fun s=> .val (.string s)) i.2.1),(6,nP 1 ((bcK p q x y i.1).map fun n=> .val (.int .i64 n)) i.2.2.1),(15,lsP p),(16,iv p.length),(17,iv i.1)])
   (fun i=>[(0,26,5,[.agg [lsP p,.lst false 1 (q.map fun s=> .val (.string s)),.val (.int .i64 x),.val (.int .i64 y),.val (.int .i64 z)]])]++(nO 9 1 ((blK p q x y i.1).map fun s=> .val (.string s)) i.2.1++nO 3 1 ((bcK p q x y i.1).map fun n=> .val (.int .i64 n)) i.2.2.1))
   (fun i=>i.2.2.2) (fun i=>i.1≤p.length∧0<i.2.2.2∧(0<i.1→0<i.2.1∧0<i.2.2.1∧i.2.1≠i.2.2.1∧i.2.1<i.2.2.2∧i.2.2.1<i.2.2.2)∧∀j,j<i.1→mD (p[j]?.getD []) q x y=true) (fun i=>p.length-i.1) (by kernel_rfl) (0,0,0,1) ⟨Nat.zero_le _,by decide,fun h=>absurd h (Nat.lt_irrefl 0),fun j hj=>by dsimp only at hj;omega⟩ ?_ ?_ rfl ?_
  ·dsimp only
   rw[show blK p q x y 0=[]from rfl,show bcK p q x y 0=[]from rfl,List.map_nil,List.map_nil,bW];exact agi
  ·dsimp only
   rw[show blK p q x y 0=[]from rfl,show bcK p q x y 0=[]from rfl,List.map_nil,List.map_nil,bU,bU];simp(disch:=(first|omega|(simp only[push_cast];first|done|omega))) only[push_cast,↓reduceIte,Rq,Rb,Ra,Rs,Rt,List.cons_append,List.nil_append,List.append_nil, *]
  rintro⟨k,o1,o2,nx⟩ ⟨hk,hnx,hoo,hok⟩;dsimp only at hk hnx hoo hok⊢;have hok':=Lib.hid hok;have hbp:=fun h=>als (k:=k) hok h;clear hok;have hbl:=hbk k;have hcl:=hck k;by_cases hkl:k<p.length
  ·have ap:=api k
   have apk:=apn k;have h60:=hp60 k;have hn1:blK p q x y (k+1)=blK p q x y k++mF (p[k]?.getD []) q x y:=rfl;have hn2:bcK p q x y (k+1)=bcK p q x y k++[((mF (p[k]?.getD []) q x y).length:Int)]:=rfl;have hno:mD (p[k]?.getD []) q x y=false→(p.all fun w=>mD w q x y)=false:=fun h=>jX (d:=[]) hkl h;have hps:=fun h=>aeY (ws:=p[k]?.getD []) (pats:=q) (wd:=x) (most:=y) h;have hys:mD (p[k]?.getD []) q x y=true→∀j,j<k+1→mD (p[j]?.getD []) q x y=true:=fun h j hj=>by
    rcases Nat.lt_or_ge j k with h1|h1
    ·exact hok'.out j h1
    ·obtain rfl:j=k:=by omega
     exact h
   replace hn1:=Lib.hid hn1;replace hn2:=Lib.hid hn2;replace hys:=Lib.hid hys;clear api apn hp60 hbk hck;generalize mF (p[k]?.getD []) q x y=L at*;cases hB:mD (p[k]?.getD []) q x y with
   |false=>
    have ap2:=apk hB;have hq2:=hq.out;rw[hno hB]at hq2;simp only[Bool.false_eq_true,if_false,List.length_nil,Nat.lt_irrefl,Prod.mk.injEq]at hq2;obtain⟨rfl,rfl⟩:=hq2;clear ap apk hno hys hB hn1 hn2 hps hq;by_cases hk0:k=0
    ·subst hk0
     rw[show blK p q x y 0=[]from rfl,show bcK p q x y 0=[]from rfl,List.map_nil,List.map_nil,bW,bU,bU];simp only[List.append_nil];(refine wlk ?_;intros);all_goals((with_reducible apply iF (by first|exact .inl rfl|exact .inr rfl));(exact sr))
    ·obtain⟨ho1,ho2,ho3,ho4,ho5⟩:=hoo (by omega)
     have hb1:=hbp (by omega);have hb2:0<((blK p q x y k).map fun s=>PV.val (.string s)).length:=by rw[List.length_map];exact hb1
     have hb3:0<((bcK p q x y k).map fun n=>PV.val (.int .i64 n)).length:=by rw[List.length_map];omega
     rw[av hb2,av hb3,ay hb2,ay hb3];generalize blK p q x y k=B at*;generalize bcK p q x y k=C at*;simp only[List.cons_append,List.nil_append,List.length_map,hcl];(refine wlk ?_;intros);all_goals((with_reducible apply iF (by first|exact .inl rfl|exact .inr rfl));(exact sr))
   |true=>
    have hL0:=hps hB;have ap2:=ap hL0;rw[hB]at ap2;have hys2:=hys.out hB;replace hys2:=Lib.hid hys2;clear ap apk hno hys hB hps;by_cases hk0:k=0
    ·subst hk0
     rw[show blK p q x y 0=[]from rfl,show bcK p q x y 0=[]from rfl,List.map_nil,List.map_nil,bW,bU,bU];rw[show blK p q x y 0=[]from rfl,List.nil_append]at hn1;rw[show bcK p q x y 0=[]from rfl,List.nil_append]at hn2;have hLp:0<(L.map fun s=>PV.val (.string s)).length:=by rw[List.length_map];exact hL0
     simp only[List.append_nil];clear hbl hcl hbp;(refine wlk ?_;intros);refine⟨(0+1,nx,nx+2,nx+3),⟨by dsimp only;omega,by dsimp only;omega,fun _=>by refine⟨?_,?_,?_,?_,?_⟩<;>(dsimp only;omega),hys2.out⟩,by dsimp only;omega,?_,?_,rfl⟩
     ·dsimp only
      rw[hn1.out,hn2.out,av hLp,av (show 0<([((L.length:Nat):Int)].map fun n=>PV.val (.int .i64 n)).length from Nat.zero_lt_one)];exact agi
     ·dsimp only
      rw[hn1.out,hn2.out,ay hLp,ay (show 0<([((L.length:Nat):Int)].map fun n=>PV.val (.int .i64 n)).length from Nat.zero_lt_one)];simp(disch:=(first|omega|(simp only[push_cast];first|done|omega))) only[push_cast,↓reduceIte,Rq,Rb,Ra,Rs,Rt,List.cons_append,List.nil_append,List.append_nil, *]
    ·obtain⟨ho1,ho2,ho3,ho4,ho5⟩:=hoo (by omega)
     have ho6:¬o2=o1:=fun e=>ho3 e.symm;replace ho3:¬o1=o2:=ho3;have hb1:=hbp (by omega);have hb2:0<((blK p q x y k).map fun s=>PV.val (.string s)).length:=by rw[List.length_map];exact hb1
     have hb3:0<((bcK p q x y k).map fun n=>PV.val (.int .i64 n)).length:=by rw[List.length_map];omega
     have hb4:0<((blK p q x y k++L).map fun s=>PV.val (.string s)).length:=by rw[List.length_map,List.length_append];omega
     rw[av hb2,av hb3,ay hb2,ay hb3];generalize blK p q x y k=B at*;generalize bcK p q x y k=C at*;simp only[List.cons_append,List.nil_append,List.length_map,hcl];clear hb2 hb3;(refine wlk ?_;intros);refine⟨(k+1,nx,nx+2,nx+3),⟨by dsimp only;omega,by dsimp only;omega,fun _=>by refine⟨?_,?_,?_,?_,?_⟩<;>(dsimp only;omega),hys2.out⟩,by dsimp only;omega,?_,?_,rfl⟩
     ·dsimp only
      rw[hn1.out,hn2.out,av hb4,av (show 0<((C++[((L.length:Nat):Int)]).map fun n=>PV.val (.int .i64 n)).length by simp)];exact agi
     ·dsimp only
      rw[hn1.out,hn2.out,ay hb4,ay (show 0<((C++[((L.length:Nat):Int)]).map fun n=>PV.val (.int .i64 n)).length by simp)];simp(disch:=(first|omega|(simp only[push_cast];first|done|omega))) only[push_cast,↓reduceIte,Rq,Rb,Ra,Rs,Rt,List.cons_append,List.nil_append,List.append_nil, *]
  ·obtain rfl:k=p.length:=by omega
   have hall2:(p.all fun w=>mD w q x y)=true:=gF (d:=[]) fun j hj=>hok'.out j hj;have hq2:=hq.out;rw[hall2]at hq2;simp only[if_true]at hq2;clear api apn hp60 hbk hck hall2 hq;by_cases hk0:p.length=0
   ·obtain rfl:=List.eq_nil_of_length_eq_zero hk0
    change(if 0<([]:LS).length then _ else _)=_ at hq2;show pq _ _ _ _ _ (lk [(1,.own 0 5 0 0),(5,nP 1 [] o1),(6,nP 1 [] o2),(15,lsP []),(16,iv ([]:List LS).length),(17,iv ([]:List LS).length)]) (lo ([(0,26,5,[.agg [lsP [],.lst false 1 (q.map fun s=> .val (.string s)),.val (.int .i64 x),.val (.int .i64 y),.val (.int .i64 z)]])]++(nO 9 1 [] o1++nO 3 1 [] o2))) _;rw[bW,bW,bU,bU];simp only[List.length_nil,Nat.lt_irrefl,if_false,Prod.mk.injEq]at hq2;obtain⟨rfl,rfl⟩:=hq2;simp only[List.append_nil];(refine wlk ?_;intros);all_goals((with_reducible apply iF (by first|exact .inl rfl|exact .inr rfl));(exact sr))
   ·obtain⟨ho1,ho2,ho3,ho4,ho5⟩:=hoo (by omega)
    have ho6:¬o2=o1:=fun e=>ho3 e.symm;replace ho3:¬o1=o2:=ho3;have hb1:=hbp (by omega);have hb2:0<((blK p q x y p.length).map fun s=>PV.val (.string s)).length:=by rw[List.length_map];exact hb1
    have hb3:0<((bcK p q x y p.length).map fun n=>PV.val (.int .i64 n)).length:=by rw[List.length_map];omega
    rw[av hb2,av hb3,ay hb2,ay hb3];rw[if_pos hb1]at hq2;simp only[Prod.mk.injEq]at hq2;obtain⟨rfl,rfl⟩:=hq2;generalize blK p q x y p.length=B at*;generalize bcK p q x y p.length=C at*;simp only[List.cons_append,List.nil_append,List.length_map,hcl];(refine wlk ?_;intros);all_goals((with_reducible apply axz o1 o2 ho3 (by first|exact .inl rfl|exact .inr rfl));(focus(exact sr));(focus(exact sr));(focus(exact sr)))
def akd {α:Type} (m:Nat→α) (l:List α) (j:Nat):List α:=(List.range j).map m++l.drop j
section
variable {α:Type} {m:Nat→α} {l:List α} {j:Nat}
theorem afj (h:j≤l.length):(akd m l j).length=l.length:=by simp[akd];omega
theorem aoK:akd m l 0=l:=by simp[akd]
theorem aoU (h:l.length≤j):akd m l j=(List.range j).map m:=by simp[akd,List.drop_eq_nil_of_le h]
theorem asx (h:j<l.length):(akd m l j).set j (m j)=akd m l (j+1):=by have e:l.drop j=l[j]::l.drop (j+1):=List.drop_eq_getElem_cons h;unfold akd;rw[List.set_append_right _ _ (by simp),e,show j-((List.range j).map m).length=0 by simp,List.set_cons_zero,List.range_succ];simp
end
def aF5 {α:Type} (T:Nat) (en:α→PV) (ps:List PV) (cs:List aS):Prop:=
 (∃(l:List α) (k:Int),ps=[.row 0 1 0 l.length,.val (.int .i64 k)]∧cs=[(T,1,l.map en)]∧l.length≤1048576∧0<k∧k≤1099511627776)∨∃k:Int,ps=[.val (.slice none 0 0),.val (.int .i64 k)]∧cs=[]
def Marks {α:Type} (T:Nat) (en:α→PV) (mk:Int→Nat→List α) (Φ:jh):Prop:=
 (∀(l:List α) (k:Int),l.length≤1048576→0<k→k≤1099511627776→Φ [.row 0 1 0 l.length,.val (.int .i64 k)] [(T,1,l.map en)]=some (.val (.int .i64 (k+l.length)),[(T,1,(mk k l.length).map en)]))∧
 ∀k:Int,Φ [.val (.slice none 0 0),.val (.int .i64 k)] []=some (.val (.int .i64 k),[])
def okH (k:Int):Prop:=0<k∧k≤1099511627776
instance (k:Int):Decidable (okH k):=by unfold okH;infer_instance
theorem lT:∃φ:Fun,Sound Tryz.prog 55 φ∧∀k:Int,0<k→k≤2199023255552→∃s:ByteArray,φ [.val (.int .i64 k)]=some (.val (.string s))∧s.size≤2199023255553:=by
 obtain⟨φ,h1,h2⟩:=ada mixed bV Tryz.func55 rfl 20 rfl [.tmp 2] rfl (by kernel_rfl) (fun ps=>∃k:Int,ps=[.val (.int .i64 k)]∧0<k∧k≤2199023255552)
  (fun ps r=>∃s:ByteArray,r=.val (.string s)∧s.size≤2199023255553) (fun ps ⟨k,e,_⟩=>by rw[e];simp) (fun ps ⟨k,e,hk,hk2⟩=>by
    subst e;(refine wlk6 ?_ ?_ ?_ ?_ ?_ ?_<;>intros<;>try with_reducible exact trivial);refine aB (α:=ByteArray×Int×Nat) mixed (fun s=>[(0,iv s.2.1),(3,.val (.string s.1))]) (fun j=>[]) (fun s=>s.2.2)
     (fun s=>(s.1.size:Int)+s.2.1≤2199023255552∧0≤s.2.1) (fun s=>s.2.1.toNat) (by kernel_rfl) (⟨#[]⟩,k,0) ⟨by have h0:((⟨#[]⟩:ByteArray)).size=0:=rfl;dsimp only;omega,by dsimp only;omega⟩ ?_ trivial rfl ?_
    ·simp(disch:=(first|omega|(simp only[push_cast];first|done|omega))) only[push_cast,↓reduceIte,Rq,Rb,Ra,Rs,Rt,List.length_append, *]
    rintro⟨s,q,y⟩ ⟨h3,h4⟩;dsimp only at h3 h4;have h5:((⟨#[109]⟩:ByteArray)).size=1:=rfl;(refine wlk6 ?_ ?_ ?_ ?_ ?_ ?_<;>intros<;>try with_reducible exact trivial)
    ·refine⟨(bytesOf [IntKind.u8.wrap (48+q % 10)]++s,q/10,y+1),⟨?_,?_⟩,?_,?_,trivial,rfl⟩
     ·simp only[ByteArray.size_append,jJ,List.length_cons,List.length_nil];omega
     ·dsimp only;omega
     ·dsimp only;omega
     ·simp(disch:=(first|omega|(simp only[push_cast];first|done|omega))) only[push_cast,↓reduceIte,Rq,Rb,Ra,Rs,Rt,List.length_append, *]
    ·refine⟨_,⟨⟨#[109]⟩++s,rfl,?_⟩,ad8 (by(exact sr))⟩
     rw[ByteArray.size_append];omega)
 refine⟨φ,h1,fun k hk hk2=>?_⟩;obtain⟨r,e,s,rfl,hs⟩:=h2 _ ⟨k,rfl,hk,hk2⟩;exact⟨s,e,hs⟩
def sP:Fun:=Classical.choose lT
theorem yI:Sound Tryz.prog 55 sP:=(Classical.choose_spec lT).1
open Classical in
noncomputable def mkT (k:Int):ByteArray:=if h:0<k∧k≤2199023255552 then Classical.choose ((Classical.choose_spec lT).2 k h.1 h.2)else .empty
theorem zD {k:Int} (h:0<k) (h2:k≤2199023255552):sP [.val (.int .i64 k)]=some (.val (.string (mkT k))):=by unfold mkT;rw[dif_pos ⟨h,h2⟩];exact(Classical.choose_spec ((Classical.choose_spec lT).2 k h h2)).1
def kZ (k:Int) (n:Nat):LS:=(List.range n).map fun j:Nat=>mkT (k+j)
theorem fH (k:Int) (n:Nat):(kZ k n).length=n:=by simp[kZ]
theorem aly (k:Int) {n j:Nat} (h:j<n):(kZ k n)[j]?.getD .empty=mkT (k+j):=by simp[kZ,h]
def aGG:Ctx:={fn:=aT [(55,sP)],io:=aT []}
theorem awU:au Tryz.prog aGG:=okΓ (fC Tryz.func55 yI aj) aj
def avt:=ah (Γ:=aGG) (f:=55) (φ:=sP) rfl
theorem jV:∃Φ:jh,eT Tryz.prog 21 Φ∧Marks 9 (fun s:ByteArray=> .val (.string s)) kZ Φ:=by
 obtain⟨Φ,h1,h2⟩:=ala mixed awU Tryz.func21 rfl 20 rfl [.tmp 4] rfl (by kernel_rfl) (aF5 9 fun s:ByteArray=> .val (.string s))
  (fun ps cs r cs'=>(∀(l:LS) (k:Int),ps=[.row 0 1 0 l.length,.val (.int .i64 k)]→cs=[(9,1,l.map fun s=> .val (.string s))]→r=.val (.int .i64 (k+l.length))∧cs'=[(9,1,(kZ k l.length).map fun s=> .val (.string s))])∧∀k:Int,ps=[.val (.slice none 0 0),.val (.int .i64 k)]→r=.val (.int .i64 k)∧cs'=[])
  (fun ps cs hd=>by rcases hd with⟨l,k,rfl,_⟩|⟨k,rfl,_⟩<;>simp) (fun ps cs hd=>by
    rcases hd with⟨l,k,rfl,rfl,hl,hk,hk2⟩|⟨k,rfl,rfl⟩
    ·rw[aoq]
     (refine wlkX ?_;intros);refine aB (α:=Nat) mixed (fun j=>[(0,.row 0 1 0 l.length),(1,iv (k+j)),(5,iv j)]) (fun j=>[(0,9,1,(akd (fun j:Nat=>mkT (k+j)) l j).map fun s=> .val (.string s))]) (fun _=>1)
      (fun j=>j≤l.length) (fun j=>l.length-j) (by kernel_rfl) 0 (Nat.zero_le _) ?_ ?_ rfl ?_
     ·simp(disch:=(first|omega|(simp only[push_cast];first|done|omega))) only[push_cast,↓reduceIte,Rq,Rb,Ra,Rs,Rt,Int.add_zero]
     ·simp(disch:=(first|omega|(simp only[push_cast];first|done|omega))) only[push_cast,↓reduceIte,Rq,Rb,Ra,Rs,Rt,aoK]
     intro j hj;have hm:(akd (fun j:Nat=>mkT (k+j)) l j).length=l.length:=afj hj;by_cases h:j<l.length
     ·have ap:=zD (k:=k+j) (by omega) (by omega)
      have gmks_c55:=avt;(refine wlk ?_;intros);refine⟨j+1,by omega,by dsimp only;omega,?_,?_,rfl⟩
      ·simp(disch:=(first|omega|(simp only[push_cast];first|done|omega))) only[push_cast,↓reduceIte,Rq,Rb,Ra,Rs,Rt, *]
       simp only[Int.add_assoc,and_self]
      ·simp(disch:=(first|omega|(simp only[push_cast];first|done|omega))) only[push_cast,↓reduceIte,Rq,Rb,Ra,Rs,Rt, *]
       rw[←asx h]
     ·(refine wlk ?_;intros)
      refine aDU (r:=.val (.int .i64 (k+j))) (c':=(9,1,(akd (fun j:Nat=>mkT (k+j)) l j).map fun s=> .val (.string s))) (by first|exact .inl rfl|exact .inr rfl) (by(exact sr)) (by(exact sr)) ⟨fun l1 k1 e1 e2=>?_,fun k1 e1=>by simp at e1⟩;obtain⟨e3,e4⟩:l.length=l1.length∧k=k1:=by simpa using e1
      subst e4;rw[aoU (by omega),←e3,show j=l.length by omega];exact⟨rfl,rfl⟩
    ·rw[atH]
     (refine wlkX ?_;intros);refine aB (α:=Unit) mixed (fun j=>[(0,.val (.slice none 0 0)),(1,iv k),(5,iv 0)]) (fun j=>[]) (fun _=>0)
      (fun j=>True) (fun j=>0) (by kernel_rfl) () trivial ?_ trivial rfl ?_
     ·exact agr
     intro j hj;(refine wlk ?_;intros);refine aDI (r:=.val (.int .i64 k)) (by first|exact .inl rfl|exact .inr rfl) (by(exact sr)) ⟨fun l1 k1 e1 e2=>by simp at e1,fun k1 e1=>?_⟩;obtain rfl:k=k1:=by simpa using e1
     exact⟨rfl,rfl⟩)
 refine⟨Φ,h1,fun l k hl hk hk2=>?_,fun k=>?_⟩
 ·obtain⟨r,cs',e,hr,_⟩:=h2 _ _ (.inl ⟨l,k,rfl,rfl,hl,hk,hk2⟩)
  obtain⟨rfl,rfl⟩:=hr l k rfl rfl;exact e
 ·obtain⟨r,cs',e,_,hr⟩:=h2 _ _ (.inr ⟨k,rfl,rfl⟩)
  obtain⟨rfl,rfl⟩:=hr k rfl;exact e
def wG:jh:=Classical.choose jV
theorem ahZ:eT Tryz.prog 21 wG:=(Classical.choose_spec jV).1
theorem vB:Marks 9 (fun s:ByteArray=> .val (.string s)) kZ wG:=(Classical.choose_spec jV).2
def aGJ:Ctx:={fn:=aT [(55,sP)],io:=aT []}
theorem auW:au Tryz.prog aGJ:=okΓ (fC Tryz.func55 yI aj) aj
def avu:=ah (Γ:=aGJ) (f:=55) (φ:=sP) rfl
def aev:Fun:=F2 dSs dI fun l k=>if l=kZ k l.length∧l.length≤1048576∧okH k then some (iv (k+l.length))else none
theorem zV {k:Int} {n:Nat} (hn:n≤1048576) (hk:0<k) (hk2:k≤1099511627776):aev [.lst false 1 ((kZ k n).map fun s=> .val (.string s)),.val (.int .i64 k)]=some (.val (.int .i64 (k+n))):=by refine(fZ (A:=dSs) (B:=dI) (kZ k n) k).trans ((if_pos ⟨by rw[fH],by rw[fH];exact hn,hk,hk2⟩).trans ?_);rw[fH]
theorem ze:Sound Tryz.prog 22 aev:=by
 refine ak mixed auW Tryz.func22 rfl 22 rfl [.tmp 4] rfl (by kernel_rfl) fun ps r hr=>?_;obtain⟨l,k,rfl,hpre,rfl⟩:=gN hr;refine⟨by simp,?_⟩;simp only[dIs,dUs,dSs,bP,bS,bQ,bT,aP,bR,aQ,aO,aR,aL];obtain⟨hl,hlen,hk,hk2⟩:=hpre;have hat:∀j:Nat,j<l.length→l[j]?.getD .empty=mkT (k+j):=fun j hj=>by rw[hl,aly k hj]
 clear hl;(refine wlkX ?_;intros);refine aB (α:=Nat) mixed (fun j=>[(0,.lst false 1 (l.map fun s=> .val (.string s))),(1,iv (k+j)),(5,iv j)]) (fun j=>[]) (fun _=>0)
  (fun j=>j≤l.length) (fun j=>l.length-j) (by kernel_rfl) 0 (Nat.zero_le _) ?_ trivial rfl ?_
 ·simp(disch:=(first|omega|(simp only[push_cast];first|done|omega))) only[push_cast,↓reduceIte,Rq,Rb,Ra,Rs,Rt,Int.add_zero]
 intro j hj;by_cases h:j<l.length
 ·have hj2:=hat j h
  have ap:=zD (k:=k+j) (by omega) (by omega);clear hat;have ghds_c55:=avu;(refine wlk ?_;intros);refine⟨j+1,by omega,by dsimp only;omega,?_,trivial,rfl⟩;simp(disch:=(first|omega|(simp only[push_cast];first|done|omega))) only[push_cast,↓reduceIte,Rq,Rb,Ra,Rs,Rt, *];simp only[Int.add_assoc,and_self]
 ·clear hat
  (refine wlk ?_;intros);rw[show l.length=j by omega];(exact fnF)
def akx:yU:=G1 dSs fun l=>if l.length≤1048576 then some (.row 0 1 0 l.length,[(9,1,l.map fun s=> .val (.string s))])else none
theorem ahc {l:LS} (h:l.length≤1048576):akx [.lst false 1 (l.map fun s=> .val (.string s))]=some (.row 0 1 0 l.length,[(9,1,l.map fun s=> .val (.string s))]):=
 (yX (A:=dSs) l).trans (if_pos h)
theorem zG:fQ Tryz.prog 52 akx:=by
 refine qw mixed bV Tryz.func52 rfl 22 rfl [.tmp 2] rfl (by kernel_rfl) fun ps r cs' hr=>?_;obtain⟨l,rfl,hq⟩:=wh hr;clear hr;split at hq
 case isFalse=>cases hq
 case isTrue hpre=>
 cases hq;refine⟨by simp,?_⟩;simp only[dIs,dUs,dSs,bP,bS,bQ,bT,aP,bR,aQ,aO,aR,aL];(refine wlkX ?_;intros);refine aB (α:=Nat) mixed (fun k=>[(0,.lst false 1 (l.map fun s=> .val (.string s))),(3,.row 0 1 0 l.length),(4,iv k)]) (fun k=>[(0,9,1,(mV l .empty k).map fun s=> .val (.string s))]) (fun _=>1)
  (fun k=>k≤l.length) (fun k=>l.length-k) (by kernel_rfl) 0 (Nat.zero_le _) ?_ ?_ rfl ?_
 ·simp only[push_cast,↓reduceIte,Rq,Rb,Ra,Rs,Rt]
 ·simp only[push_cast,↓reduceIte,Rq,Rb,Ra,Rs,Rt,rX,List.map_replicate]
 intro k hk;have hfl:(mV l .empty k).length=l.length:=mG;by_cases h:k<l.length
 ·(refine wlk ?_;intros)
  refine⟨k+1,by omega,by dsimp only;omega,by simp only[push_cast,↓reduceIte,Rq,Rb,Ra,Rs,Rt],?_,rfl⟩;simp only[push_cast,↓reduceIte,Rq,Rb,Ra,Rs,Rt];rw[←wY (y:=l[k]?.getD .empty) h (by simp[h])]
 ·(refine wlk ?_;intros)
  have e:=oz (zs:=l) (z:=ByteArray.empty) (k:=k) (by omega);rw[e];((with_reducible apply pE (0) (by first|exact .inl rfl|exact .inr rfl));(focus(exact sr));(focus(exact sr)))
theorem asW {l:LS} (h:l.length≤1048576):qQ akx [.lst false 1 (l.map fun s=> .val (.string s))] []=some (.row 0 1 0 l.length,[(9,1,l.map fun s=> .val (.string s))]):=by refine(vH (cs:=[]) (by rw[mapM_cons',mapM_nil',kU];exact(congrArg (fun x=>Option.bind x _) lX).trans rfl) (ahc h) rfl (by rw[mapM_cons',mapM_nil',lq];rfl)).trans ?_;rfl
theorem map_app' {α β:Type} {f:α→β} {l l':List α}:l.map f++l'.map f=(l++l').map f:=List.map_append.symm
theorem aFE {a b:Nat} (h:a≤b):min a b=a:=Nat.min_eq_left h
attribute[push_cast]
 map_app' aFE List.take_length
theorem ahH {s:ByteArray} (h:0<s.size):∃(l:List UInt8) (z:UInt8),s.data.toList=l++[z]∧at8 s (s.size-1)=z.toNat∧(s.extract 0 (s.size-1)).data.toList=l:=by
 have hl:s.data.toList.length=s.size:=Array.length_toList;have hne:s.data.toList≠[]:=fun e=>by rw[e]at hl;simp at hl;omega
 refine⟨s.data.toList.dropLast,s.data.toList.getLast hne,(List.dropLast_concat_getLast hne).symm,?_,?_⟩
 ·have e:s[s.size-1]?=some (s.data.toList.getLast hne):=by rw[List.getLast_eq_getElem,getElem?_pos s (s.size-1) (by omega)];congr 1
  unfold at8;rw[e];rfl
 ·rw[ByteArray.data_extract,Array.toList_extract,List.dropLast_eq_take,hl]
  simp[List.extract]
theorem aaf {a b:ByteArray} (h:a.data.toList=b.data.toList):a=b:=by obtain⟨⟨a⟩⟩:=a;obtain⟨⟨b⟩⟩:=b;simp only at h;rw[h]
theorem aCp {s:ByteArray} {j:Nat} (h:j<s.data.toList.length):at8 s j=(s.data.toList[j].toNat:Int):=by
 have hl:s.data.toList.length=s.size:=Array.length_toList;have e:s[j]?=some s.data.toList[j]:=by rw[getElem?_pos s j (by omega)];congr 1
 unfold at8;rw[e];rfl
def iX (c:UInt8):List UInt8→List (List UInt8)
 |[]=>[[]]
 |b::l=>if b=c then []::iX c l else match iX c l with
  |h::t=>(b::h)::t
  |[]=>[[b]]
theorem asG (c:UInt8) (l:List UInt8):Lib.index (c::l) [c]=0:=by simp[Lib.index,List.isPrefixOf]
theorem agh {b c:UInt8} (l:List UInt8) (h:¬b=c):Lib.index (b::l) [c]=if Lib.index l [c]==-1 then-1 else Lib.index l [c]+1:=by
 have hp:([c]:List UInt8).isPrefixOf (b::l)=false:=by have:¬c=b:=fun e=>h e.symm;simp[List.isPrefixOf,this]
 rw[Lib.index,hp];simp
theorem anQ {b c:UInt8} (l:List UInt8) (h:¬b=c):∀k,∃h0 t,Lib.splitK [c] 0 k l=h0::t∧Lib.splitK [c] 0 k (b::l)=(b::h0)::t
 |0=>⟨l,[],rfl,rfl⟩
 |k+1=>by
  by_cases hi:Lib.index l [c]=-1
  ·refine⟨l,[],?_,?_⟩
   ·unfold Lib.splitK
    rw[if_pos (beq_iff_eq.2 hi)]
   ·unfold Lib.splitK
    rw[agh l h,if_pos (beq_iff_eq.2 hi)];rfl
  ·have hge:=Lib.index_ge l [c]
   have h1:¬(Lib.index l [c]==-1)=true:=fun e=>hi (beq_iff_eq.1 e);have h2:¬(Lib.index l [c]+1==-1)=true:=fun e=>by have:=beq_iff_eq.1 e;omega
   refine⟨l.take ((Lib.index l [c]).toNat+0),Lib.splitK [c] 0 k (l.drop ((Lib.index l [c]).toNat+1)),?_,?_⟩
   ·conv=>lhs;unfold Lib.splitK
    rw[if_neg h1];rfl
   ·conv=>lhs;unfold Lib.splitK
    rw[agh l h,if_neg h1,if_neg h2,show(Lib.index l [c]+1).toNat=(Lib.index l [c]).toNat+1 by omega];rfl
theorem aib (c:UInt8):∀s:List UInt8,Lib.splitK [c] 0 (Lib.count s [c]) s=iX c s
 |[]=>by rw[Lib.count_one];rfl
 |b::l=>by
  have ih:=aib c l;by_cases h:b=c
  ·subst h
   rw[Lib.count_cons_eq,Nat.add_comm];unfold iX
   conv=>lhs;unfold Lib.splitK
   rw[asG,if_neg (by decide),if_pos rfl,←ih];rfl
  ·rw[Lib.count_cons_ne b c l h]
   obtain⟨h0,t,e1,e2⟩:=anQ l h (Lib.count l [c]);rw[e2];unfold iX;rw[if_neg h,←ih,e1]
def bH:List UInt8→List UInt8→List (List UInt8)
 |[],w=>if w=[]then []else [w]
 |b::l,w=>if b=32 then(if w=[]then []else [w])++bH l []else bH l (w++[b])
def iw (s:List UInt8):List UInt8:=if Lib.hasSuffix s [45]then s.take (s.length-1)else s++[32]
def dz:List (List UInt8)→List UInt8
 |[]=>[]
 |s::l=>iw s++dz l
theorem jU (l:List UInt8) (z:UInt8):Lib.hasSuffix (l++[z]) [45]=decide (z=45):=by
 unfold Lib.hasSuffix List.isSuffixOf;rw[List.reverse_append];by_cases h:z=45
 ·subst h;simp[List.isPrefixOf]
 ·have h2:¬(45:UInt8)=z:=fun e=>h e.symm
  simp[List.isPrefixOf,h,h2]
theorem awZ {s:ByteArray} (h:0<s.size) (h2:at8 s (s.size-1)=45):iw s.data.toList=s.data.toList.take (s.size-1):=by
 obtain⟨l,z,h3,h4,h5⟩:=ahH h;have hl:s.data.toList.length=s.size:=Array.length_toList;have hz:z=45:=UInt8.toNat_inj.1 (by have:(z.toNat:Int)=45:=by rw[←h4];exact h2
                                                                                                                          show z.toNat=45;omega)
 unfold iw;rw[if_pos (by rw[h3,jU,hz];rfl),hl]
theorem aCs {s:ByteArray} (h:s.size=0∨¬at8 s (s.size-1)=45):iw s.data.toList=s.data.toList++[32]:=by
 have hl:s.data.toList.length=s.size:=Array.length_toList;unfold iw;rw[if_neg];intro hs;by_cases h0:s.size=0
 ·have:s.data.toList=[]:=List.eq_nil_of_length_eq_zero (by omega)
  rw[this]at hs;simp[Lib.hasSuffix,List.isSuffixOf,List.isPrefixOf]at hs
 ·obtain⟨l,z,h3,h4,h5⟩:=ahH (s:=s) (by omega)
  rw[h3,jU,decide_eq_true_eq]at hs;rcases h with h|h
  ·exact h0 h
  ·exact h (by rw[h4,hs];rfl)
theorem avA {s:ByteArray} {j:Nat} (h:j<s.data.toList.length) (h2:¬(at8 s j=45∧j+1=s.size)):(iw s.data.toList).drop j=s.data.toList[j]::(iw s.data.toList).drop (j+1):=by
 have hl:s.data.toList.length=s.size:=Array.length_toList;by_cases hy:at8 s (s.size-1)=45
 ·rw[awZ (by omega) hy]
  have hj:j<s.size-1:=by
   rcases Nat.lt_or_ge j (s.size-1)with h3|h3
   ·exact h3
   ·have e:j=s.size-1:=by omega
    exact absurd ⟨by rw[e];exact hy,by omega⟩ h2
  rw[List.drop_eq_getElem_cons (by rw[List.length_take];omega),List.getElem_take]
 ·rw[aCs (.inr hy),List.drop_eq_getElem_cons (by rw[List.length_append];omega),List.getElem_append_left h]
theorem ax7 {s:ByteArray} {j:Nat} (h:j<s.size) (h2:at8 s j=45) (h3:j+1=s.size):(iw s.data.toList).drop j=(iw s.data.toList).drop (j+1):=by
 have hl:s.data.toList.length=s.size:=Array.length_toList;have e:j=s.size-1:=by omega
 rw[awZ (by omega) (by rw[←e];exact h2),List.drop_of_length_le (by rw[List.length_take];omega),List.drop_of_length_le (by rw[List.length_take];omega)]
theorem aow {s:ByteArray} (h:0<s.size) (h2:at8 s (s.size-1)=45):(iw s.data.toList).drop s.size=[]:=by rw[awZ h h2,List.drop_of_length_le (by rw[List.length_take];omega)]
theorem amr {s:ByteArray} (h:s.size=0∨¬at8 s (s.size-1)=45):(iw s.data.toList).drop s.size=[32]:=by have hl:s.data.toList.length=s.size:=Array.length_toList;rw[aCs h,List.drop_append_of_le_length (by omega),List.drop_of_length_le (by omega),List.nil_append]
end
end Go.Proofs.YtmmafcjjlbgnkaaGreatDoor
