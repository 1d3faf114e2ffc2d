/- What the proof rests on, part 15: contracts of functions. No condition beyond what each states. -/
import Derived.Test.YtmmafcjjlbgnkaaGreatZBpE14
namespace Go.Proofs.YtmmafcjjlbgnkaaGreat
open Go.RowKit
set_option linter.all false
set_option maxHeartbeats 32000000
noncomputable section
def at6:afk:=G4 dSs dSs dI dI fun ws pats wd most=>if lX ws∧lX pats then some (.tup [nP 1 ((lT ws pats wd most).map fun s=> .val (.string s)) 0,bv (mq ws pats wd most)],nC 9 1 ((lT ws pats wd most).map fun s=> .val (.string s)))else none
theorem anX (es:List PV) (b:Bool):lK id fuel (.tup [nP 1 es 0,bv b])=some (.tup [nP 1 es 0,bv b]):=by cases es<;>rfl
theorem amW {T:Nat} (l:LS):(nC T 1 (l.map fun s=>PV.val (.string s))).mapM (xV id fuel)=some (nC T 1 (l.map fun s=>PV.val (.string s))):=by
 cases l with
 |nil=>rfl
 |cons s l=>show [(T,1,(s::l).map fun s=>PV.val (.string s))].mapM (xV id fuel)=_;rw[mapM_cons',mapM_nil',uz];rfl
theorem agT {l:List It} {wd most lk:Int} {f a:Nat} (ha:a<l.length) (h:(aP l wd most a lk).isSome=true):0<(bkF l wd most (f+1) a lk).length:=by obtain⟨r,hr⟩:=Option.isSome_iff_exists.1 h;rw[nV (by omega) hr];simp
theorem am6:Tryz.prog.underlying 77=some (.map 3 9):=by kernel_rfl
theorem ai0:Go.Maps.Keyed Tryz.prog 3:=Go.Maps.int_keyed Tryz.underlying3
theorem arE {n:Int} (h:okI n):keyOf Tryz.prog 3 (.int .i64 n)=some (.int .i64 n):=Go.Maps.keyOf_int_mk Tryz.underlying3 (by show(decide (-9223372036854775808≤n)&&decide (n≤9223372036854775807))=true;simp[h.1,h.2])
def aq1:Ctx:={fn:=aT [(52,ajm),(53,φBb),(54,ahR)],io:=aT []}
theorem bP:au Tryz.prog aq1:=okΓ (fC Tryz.func52 ad2 (fC Tryz.func53 aiz (fC Tryz.func54 aef aj))) aj
def abF:=ah (Γ:=aq1) (f:=52) (φ:=ajm) rfl
def aaM:=ah (Γ:=aq1) (f:=53) (φ:=φBb) rfl
def xI:=ah (Γ:=aq1) (f:=54) (φ:=ahR) rfl
set_option maxRecDepth 100000 in
theorem akj:jW Tryz.prog 28 at6:=by
 refine HY.auP (k:=3) (N:=113) (rs:=[.tmp 8,.tmp 9]) Tryz.func28 rfl rfl rfl (fun ps r cs' hr=>?_) (fun ps r cs' hr=>?_)
 ·obtain⟨ws,pats,wd,most,rfl,hq⟩:=ab3 hr
  clear hr;split at hq
  case isFalse=>cases hq
  case isTrue hpre=>
  cases hq;refine⟨?_,anX _ _,amW _⟩;simp only[dIs,dUs,dSs,bR,bV,bT,bU,aI,bW,aL,aO,aH,aJ];(simp(disch:=(first|omega|(simp only[push_cast];first|done|omega))) only[push_cast,↓reduceIte,Nat.reduceEqDiff,Nat.reduceBEq,Nat.reduceAdd,Nat.reduceSub,Int.reduceToNat, *]<;>with_reducible exact rfl)
 obtain⟨ws,pats,wd,most,rfl,hq⟩:=ab3 hr;clear hr;split at hq
 case isFalse=>cases hq
 case isTrue hpre=>
 cases hq;refine⟨by simp,fun B w00=>HY.start ?_⟩;simp only[dIs,dUs,dSs,bR,bV,bT,bU,aI,bW,aL,aO,aH,aJ];have api:=alN hpre;unfold lT mq;cases hp:o9 ws pats with
 |false=>rw[hp]at api;simp only[Bool.false_and];rw[if_neg (by decide)];generalize(if aan ws pats=true then piR ws pats else [])=l at*;generalize(if aan ws pats=true then txR ws pats else [])=tx at*;clear hp;have gpgi_c52:=abF;have gpgi_c53:=aaM;have gpgi_c54:=xI;refine HY.seq (HY.eng mixed bP (by kernel_rfl) ?_);(try dsimp only);(refine wlk ?_;intros);refine HY.seq (HY.eng mixed bP (by kernel_rfl) ?_);(try dsimp only);(refine wlk ?_;intros);refine HY.seq (HY.eng mixed bP (by kernel_rfl) ?_);(try dsimp only);(refine wlk ?_;intros);refine⟨?_,fun b L e=>by cases e⟩;rw[List.map_nil,eG,alP];((with_reducible apply l7 (by first|exact .inl rfl|exact .inr rfl));(simp(disch:=(first|omega|(simp only[push_cast];first|done|omega))) only[push_cast,↓reduceIte,Nat.reduceEqDiff,Nat.reduceBEq,Nat.reduceAdd,Nat.reduceSub,Int.reduceToNat, *]<;>with_reducible exact rfl))
 |true=>
 have hB:=amF hp;have hV:piV ws pats=piR ws pats:=if_pos hp;have hA:aan ws pats=true:=by obtain⟨h1,h2,h3,-⟩:=vF.1 hp;unfold aan;rw[h1,h2,decide_eq_true h3];rfl
 rw[hp,hA,if_pos rfl,if_pos rfl]at api;simp only[Bool.true_and];rw[hV]at hB;have hl:=bC hB;have apb:=ahT (l:=piR ws pats) (wd:=wd) (most:=most) (show(piR ws pats).length≤1000 by omega);have hnb:=ar2 ws pats;rw[hV];have htz:∀k:Nat,((txR ws pats)[k]?.getD ByteArray.empty).size≤20:=aau;have htp:∀k:Nat,k<nb (piR ws pats)→1≤((txR ws pats)[k]?.getD ByteArray.empty).size:=fun k hk=>auN (by rw[←hnb];exact hk);have htl:(txR ws pats).length≤60:=by rw[←hnb];exact Nat.le_trans (List.length_filter_le _ _) hl
 have hob:jo (piR ws pats) wd most=true→aq6 (piR ws pats) (dD (piR ws pats) wd most):=fun h=>agZ hB (fJ.1 h).2.2.2.1.2;have hrr:jo (piR ws pats) wd most=true→aoP (piR ws pats) wd most=dD (piR ws pats) wd most:=fun h=>if_pos h;have hbp:jo (piR ws pats) wd most=true→0<(dD (piR ws pats) wd most).length:=fun h=>agT (fJ.1 h).2.1 (fJ.1 h).2.2.2.2;clear hp hA hV hpre;generalize piR ws pats=l at*;generalize txR ws pats=tx at*;cases hb:jo l wd most with
 |false=>rw[hb]at apb;rw[if_neg (by decide)];clear hob hrr hnb htz htp hb hbp;generalize aoP l wd most=br at*;have gpgi_c52:=abF;have gpgi_c53:=aaM;have gpgi_c54:=xI;refine HY.seq (HY.eng mixed bP (by kernel_rfl) ?_);(try dsimp only);(refine wlk ?_;intros);refine HY.seq (HY.eng mixed bP (by kernel_rfl) ?_);(try dsimp only);(refine wlk ?_;intros);refine HY.seq (HY.eng mixed bP (by kernel_rfl) ?_);(try dsimp only);(refine wlk ?_;intros);refine HY.seq (HY.eng mixed bP (by kernel_rfl) ?_);(try dsimp only);(refine wlk ?_;intros);refine HY.seq (HY.eng mixed bP (by kernel_rfl) ?_);(try dsimp only);(refine wlk ?_;intros);refine⟨?_,fun b L e=>by cases e⟩;rw[List.map_nil,eG,alP];((with_reducible apply l7 (by first|exact .inl rfl|exact .inr rfl));(simp(disch:=(first|omega|(simp only[push_cast];first|done|omega))) only[push_cast,↓reduceIte,Nat.reduceEqDiff,Nat.reduceBEq,Nat.reduceAdd,Nat.reduceSub,Int.reduceToNat, *]<;>with_reducible exact rfl))
 |true=>
  have hbr:=hob hb;have hbp0:=hbp hb;rw[hb,hrr hb]at apb;rw[if_pos rfl];clear hob hrr hb hbp;generalize dD l wd most=br at*;have gpgi_c52:=abF;have gpgi_c53:=aaM;have gpgi_c54:=xI;refine HY.seq (HY.eng mixed bP (by kernel_rfl) ?_);(try dsimp only);(refine wlk ?_;intros);refine HY.seq (HY.eng mixed bP (by kernel_rfl) ?_);(try dsimp only);(refine wlk ?_;intros);refine HY.seq (HY.eng mixed bP (by kernel_rfl) ?_);(try dsimp only);(refine wlk ?_;intros);refine HY.seq (HY.eng mixed bP (by kernel_rfl) ?_);(try dsimp only);(refine wlk ?_;intros);refine HY.seq (HY.eng mixed bP (by kernel_rfl) ?_);(try dsimp only);(refine wlk ?_;intros);refine HY.seq (HY.each (HO.make rfl rfl (by decide) rfl fun b hbB=>?_));dsimp only[AS.put];refine HO.pre (imm:=⟨[],[],[]⟩) 1 bP (by kernel_rfl) (by simp only[List.take_succ_cons,List.take_zero]<;>exact rfl) (by simp only[List.drop_succ_cons,List.drop_zero]<;>exact rfl) (by simp only[List.map_cons,List.map_nil]<;>exact rfl) ?_;(try dsimp only);(refine wlk ?_;intros);refine HO.nil ?_;refine HY.seq (HY.seq (HY.eng mixed bP (by kernel_rfl) ?_));(try dsimp only);(refine wlk ?_;intros);(try dsimp only);have hll:((l.map fE).length:Int)=(l.length:Int):=by simp
  refine HY.block (HY.xW (α:=Nat×Nat) (fun i=>[(10,.lst true 7 (l.map fE)),(11,.lst true 1 (tx.map pvS)),(13,.lst true 1 (br.map pvN)),(14,.val (.map (some b))),(43,.lst true 7 (l.map fE)),(44,iv l.length),(45,iv i.1)])
   (fun i=>[]) (fun i=>i.2) (fun i σ=>i.1≤l.length∧σ=some (b,bxL l tx i.1)) (fun i=>l.length-i.1) (0,0) ⟨Nat.zero_le _,rfl⟩ ?_ ?_ rfl ?_)
  ·(try dsimp only)
   exact agi
  ·(try dsimp only)
   exact agr
  rintro⟨k,y⟩ σ ⟨hk,rfl⟩;dsimp only at hk⊢;refine HY.seq (HY.eng mixed bP (by kernel_rfl) ?_);by_cases hkl:k<l.length
  ·have hn1:=aiB l k
   have hbl:=ahf (tx:=tx) hk;have hnew:=aoy (l:=l) (tx:=tx) (k:=k);have hyes:=fun h=>aiH (l:=l) (tx:=tx) (k:=k) h;have hno:=fun h=>al3 (l:=l) (tx:=tx) (k:=k) h;have hlt:=fun h=>ahJ (l:=l) (n:=k) hkl h;rw[hnb]at hlt hn1;replace hnew:=Lib.hid hnew;replace hyes:=Lib.hid hyes;replace hno:=Lib.hid hno;replace hlt:=Lib.hid hlt;replace hbl:=Lib.hid hbl;clear hnb htz htp hbr;(refine wlk ?_;intros);refine HY.seq (HY.eng mixed bP (by kernel_rfl) ?_);(try dsimp only);(refine wlk ?_;intros);(try dsimp only);refine HY.seq (HY.block (HY.seq (HY.eng mixed bP (by kernel_rfl) ?_)));(try dsimp only);(refine wlk ?_;intros);refine HY.seq (HY.eng mixed bP (by kernel_rfl) ?_);(try dsimp only);(refine wlk ?_;intros);refine HY.cond (b:=decide ((l[k]?.getD it0).1=1)) (by(simp(disch:=(first|omega|(simp only[push_cast];first|done|omega))) only[push_cast,↓reduceIte,Nat.reduceEqDiff,Nat.reduceBEq,Nat.reduceAdd,Nat.reduceSub,Int.reduceToNat, *]<;>with_reducible exact rfl)) (fun hc=>?_) (fun hc=>?_)
   ·have hc1:(l[k]?.getD it0).1=1:=of_decide_eq_true hc
    have h9:=hlt.out hc1;have hy9:=hyes.out hc1;replace hy9:=Lib.hid hy9;have hb9:=hbl.out;clear hc hyes hno hlt hbl;generalize hnn:nbX l k=nn at*;replace hnn:=Lib.hid hnn;generalize hLL:bxL l tx k=LL at*;replace hLL:=Lib.hid hLL;replace hb9:=Lib.hid hb9;refine HY.each (HO.pre (imm:=⟨[],[],[]⟩) 4 bP (by kernel_rfl) (by simp only[List.take_succ_cons,List.take_zero]<;>exact rfl) (by simp only[List.drop_succ_cons,List.drop_zero]<;>exact rfl) (by simp only[List.map_cons,List.map_nil]<;>exact rfl) ?_);(try dsimp only);(refine wlk ?_;intros);refine HO.ayd am6 rfl rfl rfl (by decide) (by(simp(disch:=(first|omega|(simp only[push_cast];first|done|omega))) only[push_cast,↓reduceIte,Nat.reduceEqDiff,Nat.reduceBEq,Nat.reduceAdd,Nat.reduceSub,Int.reduceToNat, *]<;>with_reducible exact rfl)) ?_;dsimp only[AS.put];rw[hb9.out];refine HO.pre (imm:=⟨[],[],[]⟩) 2 bP (by kernel_rfl) (by simp only[List.take_succ_cons,List.take_zero]<;>exact rfl) (by simp only[List.drop_succ_cons,List.drop_zero]<;>exact rfl) (by simp only[List.map_cons,List.map_nil]<;>exact rfl) ?_;(try dsimp only);(refine wlk ?_;intros);refine HO.upd ai0 am6 rfl rfl rfl (by(try dsimp only);(simp(disch:=(first|omega|(simp only[push_cast];first|done|omega))) only[push_cast,↓reduceIte,Nat.reduceEqDiff,Nat.reduceBEq,Nat.reduceAdd,Nat.reduceSub,Int.reduceToNat, *]<;>with_reducible exact rfl)) (key:=.int .i64 k) (val:=.string (tx[nn]?.getD .empty)) (congrArg toVal (show _=PV.val (.int .i64 k) by(try dsimp only);(simp(disch:=(first|omega|(simp only[push_cast];first|done|omega))) only[push_cast,↓reduceIte,Nat.reduceEqDiff,Nat.reduceBEq,Nat.reduceAdd,Nat.reduceSub,Int.reduceToNat, *]<;>with_reducible exact rfl))) (congrArg toVal (show _=PV.val (.string (tx[nn]?.getD .empty)) by(try dsimp only);(simp(disch:=(first|omega|(simp only[push_cast];first|done|omega))) only[push_cast,↓reduceIte,Nat.reduceEqDiff,Nat.reduceBEq,Nat.reduceAdd,Nat.reduceSub,Int.reduceToNat, *]<;>with_reducible exact rfl))) (arE (by omega)) fun L' hu=>?_;have hL':L'=bxL l tx (k+1):=by
     rw[hy9.out];cases hu with
     |new _=>rfl
     |old h=>exact absurd rfl (hnew.out (_,_) (by rw[h];exact List.mem_append.2 (.inr List.mem_cons_self)))
    refine HO.nil ?_;refine HY.eng mixed bP (by kernel_rfl) ?_;(try dsimp only);(refine wlk ?_;intros);(try dsimp only);refine⟨(k+1,y+1),⟨by dsimp only;omega,congrArg some (Prod.ext rfl hL')⟩,by dsimp only;omega,?_,?_,rfl⟩
    ·(try dsimp only)
     exact agi
    ·(try dsimp only)
     exact agr
   ·have hc1:¬(l[k]?.getD it0).1=1:=of_decide_eq_false hc
    have hn9:=hno.out hc1;clear hc hyes hno hlt hbl hnew;refine HY.skip ?_;refine HY.eng mixed bP (by kernel_rfl) ?_;(try dsimp only);(refine wlk ?_;intros);(try dsimp only);refine⟨(k+1,y+1),⟨by dsimp only;omega,congrArg some (Prod.ext rfl hn9.symm)⟩,by dsimp only;omega,?_,?_,rfl⟩
    ·(try dsimp only)
     exact agi
    ·(try dsimp only)
     exact agr
  ·obtain rfl:k=l.length:=by omega
   have hlook:∀n:Nat,n<l.length→(l[n]?.getD it0).1=1→lkP (aq1.see ⟨77,b,amG (bxL l tx l.length)⟩).mp 77 (.val (.map (some b))) (some (.int .i64 (n:Int))) false=some (.val (.string (tx[nbX l n]?.getD .empty))):=fun n h1 h2=>by have:=ako (aia (l:=l) (tx:=tx) l.length) (am9 (tx:=tx) h1 h2);simpa [Ctx.see,lkP]using this
   have hcall:∀(ob:bn) (ps:List PV),yN (aq1.see ⟨77,b,amG (bxL l tx l.length)⟩) ob 54 ps=(ps.mapM (reify false 0 ob fuel)).bind ahR:=xI;(refine wlk ?_;intros);refine HY.seq (HY.eng mixed bP (by kernel_rfl) ?_);(try dsimp only);(refine wlk ?_;intros);(try dsimp only);refine HY.see (M:=⟨77,b,amG (bxL l tx l.length)⟩) mixed bP rfl (fun key c p hp w1 g1 hM1=>?_) (by kernel_rfl) ?_
   ·obtain⟨rfl,v,hv,rfl⟩:=af6 hp
    obtain⟨n,hn,hkey⟩:=ah0 hv;dsimp only at hkey;subst hkey;exact⟨v,hM1.adF ai0 am6 false (arE (by omega)) hv,by simp[Rep]⟩
   generalize amG (bxL l tx l.length)=A9 at*;clear api apb;have htz2:=htz;have hlnk:=nT l tx br;have hbat:=fun k hk=>hbr.at_ (k:=k) hk;have hbq:=fun k hk=>(hbr.2 k hk).2;have hbl:=hbr.1;clear hbr;(try dsimp only);(refine wlk ?_;intros);refine aF (α:=Nat×Nat×Nat) mixed (fun z=>[(10,.lst true 7 (l.map fE)),(11,.lst true 1 (tx.map pvS)),(13,.lst true 1 (br.map pvN)),(14,.val (.map (some b))),(17,nP 1 ((oG l tx br z.1).map pvS) z.2.1),(18,iv ((frB br z.1:Int)-1)),(61,.lst true 1 (br.map pvN)),(62,iv br.length),(63,iv z.1)])
    (fun z=>nO 9 1 ((oG l tx br z.1).map pvS) z.2.1) (fun z=>z.2.2) (fun z=>z.1≤br.length∧(0<z.1→z.2.1<z.2.2)) (fun z=>br.length-z.1) (by kernel_rfl) (0,0,y) ⟨Nat.zero_le _,fun h=>absurd h (Nat.lt_irrefl 0)⟩ ?_ ?_ rfl ?_
   ·have hf0:frB br 0=0:=rfl
    dsimp only
    rw[hf0,show oG l tx br 0=[]from rfl,List.map_nil,eG];exact agi
   ·dsimp only
    rw[show oG l tx br 0=[]from rfl,List.map_nil,dM];exact agr
   rintro⟨k,x,y⟩ ⟨hk,hxy⟩;dsimp only at hk hxy⊢;have hlk0:=hlnk k;by_cases hkb:k<br.length
   ·by_cases hk0:k=0
    ·skip
     subst hk0;rw[show oG l tx br 0=[]from rfl,List.map_nil,eG,dM];obtain⟨b1,b2,b3,b4⟩:=hbat 0 hkb;have hq:=hbq 0 hkb;have hn0:oG l tx br (0+1)=oG l tx br 0++[lnR l tx (frB br 0) (br[0]?.getD 0).toNat]:=rfl;have hfs:=yt br 0;have hlk9:(oG l tx br 0).length=0:=rfl;rw[show oG l tx br 0=[]from rfl,List.nil_append]at hn0;generalize frB br 0=a at*;obtain⟨en,hen⟩:∃en:Nat,br[0]?.getD 0=(en:Int):=⟨(br[0]?.getD 0).toNat,by omega⟩;rw[hen,Int.toNat_natCast]at hn0 hfs b2 b3 b4 hq;rw[hen]at b1;have hline:=aif (tx:=tx) hB hq htp;have hmk:lnR l tx a en=if(l[en]?.getD it0).2.2.2.2.2.2=true then lnT l tx a (en-a)++⟨#[45]⟩else lnT l tx a (en-a):=rfl;rw[←hline]at hmk;have api:=acU (l:=l) (a:=a) (en:=en) hB b2 b3;rw[hq,if_pos rfl]at api;have hil:=nH l (aB l a) en;have him:=fun x hx=>qA (l:=l) (b:=aB l a) (c:=en) x hx;generalize hI:lN l (aB l a) en=is at*;have hit:=fun j hj=>xq (l:=l) (tx:=tx) (is:=is) (j:=j) hj;have his:=fun j hj=>vL (l:=l) (tx:=tx) htz is j hj;have hfull:is.take is.length=is:=List.take_of_length_le (Nat.le_refl _);replace hit:=Lib.hid hit;replace him:=Lib.hid him;replace hmk:=Lib.hid hmk;replace hn0:=Lib.hid hn0;replace hfull:=Lib.hid hfull;replace hlook:=Lib.hid hlook;have HFS:=Lib.hid hfs;have hfe:=Lib.hid (show(frB br (0+1):Int)-1=(en:Int) by rw[hfs];omega);clear hline hq hI hlnk hbat hbq hnb htp hfs;have h45:(⟨#[45]⟩:ByteArray).size=1:=rfl;have h32:(⟨#[32]⟩:ByteArray).size=1:=rfl;have hill:((is.map pvN).length:Int)=(is.length:Int):=by simp
     (refine wlk ?_;intros);refine aF (α:=Nat) mixed (fun j=>[(10,.lst true 7 (l.map fE)),(11,.lst true 1 (tx.map pvS)),(13,.lst true 1 (br.map pvN)),(14,.val (.map (some b))),(17,.val (.slice none 0 0)),(18,iv ((a:Int)-1)),(20,iv en),(21,.val (.string (liF l tx (is.take j)))),(61,.lst true 1 (br.map pvN)),(62,iv br.length),(63,iv (0:Nat)),(70,.lst true 1 (is.map pvN)),(71,iv is.length),(72,iv j)])
      (fun _=>[]) (fun _=>y) (fun j=>j≤is.length) (fun j=>is.length-j) (by kernel_rfl) 0 (Nat.zero_le _) ?_ ?_ rfl ?_
     ·have hl0:liF l tx (is.take 0)=⟨#[]⟩:=rfl
      (try dsimp only);rw[hl0];exact agi
     ·(try dsimp only)
      exact agr
     intro j hj;have hsz:=his j hj;by_cases hjl:j<is.length
     ·have hxm:=him.out (is[j]?.getD 0) (by rw[List.getElem?_eq_getElem hjl];exact List.getElem_mem hjl)
      have ht:=hit.out j hjl;obtain⟨n,hnn⟩:∃n:Nat,is[j]?.getD 0=n:=⟨(is[j]?.getD 0).toNat,by omega⟩;rw[hnn,Int.toNat_natCast]at hxm;rw[hnn,Int.toNat_natCast]at ht;obtain⟨hn1,hn2,hn3⟩:=hxm;have hnl:n<l.length:=by omega
      have hk3:¬(l[n]?.getD it0).1=3:=hn3;have hS:pR l tx (liF l tx (is.take j)) n=if(l[n]?.getD it0).1=1 then liF l tx (is.take j)++(tx[nbX l n]?.getD .empty)else if 0<(l[n]?.getD it0).2.1 then liF l tx (is.take j)++⟨#[32]⟩else liF l tx (is.take j):=rfl;rw[hS]at ht;have hlk9:=hlook.out n hnl;have hz9:=htz2 (nbX l n);clear hS hn3 his;generalize hs2:liF l tx (is.take (j+1))=s2 at*;replace hs2:=Lib.hid hs2;generalize liF l tx (is.take j)=s at*;generalize nbX l n=nn at*;generalize tx[nn]?.getD ByteArray.empty=tn at*;generalize hyy:l[n]?.getD it0=yy at*;obtain⟨y1,y2',y3,y4,y5,y6,y7⟩:=yy;dsimp only at ht hk3 hlk9;by_cases k1:y1=1
      ·rw[if_pos k1]at ht
       have hf:=Lib.hid ht;have hlk8:=hlk9 k1;clear ht hlk9;subst k1;(refine wlk ?_;intros);refine⟨j+1,by dsimp only;omega,by dsimp only;omega,?_,?_,rfl⟩
       ·dsimp only
        rw[hs2.out,hf.out];exact agi
       ·dsimp only
        exact agr
      ·rw[if_neg k1]at ht
       by_cases k2:0<y2'
       ·rw[if_pos k2]at ht
        have hf:=Lib.hid ht;clear ht hlk9;(refine wlk ?_;intros);refine⟨j+1,by dsimp only;omega,by dsimp only;omega,?_,?_,rfl⟩
        ·dsimp only
         rw[hs2.out,hf.out];exact agi
        ·dsimp only
         exact agr
       ·rw[if_neg k2]at ht
        have hf:=Lib.hid ht;clear ht hlk9;(refine wlk ?_;intros);refine⟨j+1,by dsimp only;omega,by dsimp only;omega,?_,?_,rfl⟩
        ·dsimp only
         rw[hs2.out,hf.out];exact agi
        ·dsimp only
         exact agr
     ·obtain rfl:j=is.length:=by omega
      rw[hfull.out]at*;generalize hSS:liF l tx is=s at*;clear his hSS;generalize hyy:l[en]?.getD it0=yy at*;obtain⟨y1,y2',y3,y4,y5,y6,y7⟩:=yy;have hmk2:=hmk.out;clear hmk;dsimp only at hmk2;cases y7 with
      |true=>
       rw[if_pos rfl]at hmk2;have hn:=hn0.out;rw[hmk2]at hn;replace hn:=Lib.hid hn;clear hmk2 hn0;(refine wlk ?_;intros);refine⟨(0+1,y+1,y+2),⟨by dsimp only;omega,fun _=>by dsimp only;omega⟩,by dsimp only;omega,?_,?_,rfl⟩
       ·dsimp only
        rw[hn.out,hfe.out,aA (by simp)];exact agi
       ·dsimp only
        rw[hn.out,aD (by simp)];exact agr
      |false=>
       rw[if_neg (by decide)]at hmk2;have hn:=hn0.out;rw[hmk2]at hn;replace hn:=Lib.hid hn;clear hmk2 hn0;(refine wlk ?_;intros);refine⟨(0+1,y+1,y+2),⟨by dsimp only;omega,fun _=>by dsimp only;omega⟩,by dsimp only;omega,?_,?_,rfl⟩
       ·dsimp only
        rw[hn.out,hfe.out,aA (by simp)];exact agi
       ·dsimp only
        rw[hn.out,aD (by simp)];exact agr
    ·skip
     have hnp:0<((oG l tx br k).map pvS).length:=by rw[List.length_map];omega
     have hxy2:=hxy (by omega);rw[aA hnp,aD hnp,List.length_map,hlk0];have hxne:¬x=y:=by omega
     have hyne:¬y=x:=by omega
     obtain⟨b1,b2,b3,b4⟩:=hbat k hkb;have hq:=hbq k hkb;have hn0:oG l tx br (k+1)=oG l tx br k++[lnR l tx (frB br k) (br[k]?.getD 0).toNat]:=rfl;have hfs:=yt br k;generalize oG l tx br k=out at*;generalize frB br k=a at*;obtain⟨en,hen⟩:∃en:Nat,br[k]?.getD 0=(en:Int):=⟨(br[k]?.getD 0).toNat,by omega⟩;rw[hen,Int.toNat_natCast]at hn0 hfs b2 b3 b4 hq;rw[hen]at b1;have hline:=aif (tx:=tx) hB hq htp;have hmk:lnR l tx a en=if(l[en]?.getD it0).2.2.2.2.2.2=true then lnT l tx a (en-a)++⟨#[45]⟩else lnT l tx a (en-a):=rfl;rw[←hline]at hmk;have api:=acU (l:=l) (a:=a) (en:=en) hB b2 b3;rw[hq,if_pos rfl]at api;have hil:=nH l (aB l a) en;have him:=fun x hx=>qA (l:=l) (b:=aB l a) (c:=en) x hx;generalize hI:lN l (aB l a) en=is at*;have hit:=fun j hj=>xq (l:=l) (tx:=tx) (is:=is) (j:=j) hj;have his:=fun j hj=>vL (l:=l) (tx:=tx) htz is j hj;have hfull:is.take is.length=is:=List.take_of_length_le (Nat.le_refl _);replace hit:=Lib.hid hit;replace him:=Lib.hid him;replace hmk:=Lib.hid hmk;replace hn0:=Lib.hid hn0;replace hfull:=Lib.hid hfull;replace hlook:=Lib.hid hlook;have HFS:=Lib.hid hfs;have hfe:=Lib.hid (show(frB br (k+1):Int)-1=(en:Int) by rw[hfs];omega);clear hline hq hI hlnk hbat hbq hnb htp hfs;have h45:(⟨#[45]⟩:ByteArray).size=1:=rfl;have h32:(⟨#[32]⟩:ByteArray).size=1:=rfl;have hill:((is.map pvN).length:Int)=(is.length:Int):=by simp
     (refine wlk ?_;intros);refine aF (α:=Nat) mixed (fun j=>[(10,.lst true 7 (l.map fE)),(11,.lst true 1 (tx.map pvS)),(13,.lst true 1 (br.map pvN)),(14,.val (.map (some b))),(17,.row x 1 0 k),(18,iv ((a:Int)-1)),(20,iv en),(21,.val (.string (liF l tx (is.take j)))),(61,.lst true 1 (br.map pvN)),(62,iv br.length),(63,iv (k:Nat)),(70,.lst true 1 (is.map pvN)),(71,iv is.length),(72,iv j)])
      (fun _=>[(x,9,1,out.map pvS)]) (fun _=>y) (fun j=>j≤is.length) (fun j=>is.length-j) (by kernel_rfl) 0 (Nat.zero_le _) ?_ ?_ rfl ?_
     ·have hl0:liF l tx (is.take 0)=⟨#[]⟩:=rfl
      (try dsimp only);rw[hl0];exact agi
     ·(try dsimp only)
      exact agr
     intro j hj;have hsz:=his j hj;by_cases hjl:j<is.length
     ·have hxm:=him.out (is[j]?.getD 0) (by rw[List.getElem?_eq_getElem hjl];exact List.getElem_mem hjl)
      have ht:=hit.out j hjl;obtain⟨n,hnn⟩:∃n:Nat,is[j]?.getD 0=n:=⟨(is[j]?.getD 0).toNat,by omega⟩;rw[hnn,Int.toNat_natCast]at hxm;rw[hnn,Int.toNat_natCast]at ht;obtain⟨hn1,hn2,hn3⟩:=hxm;have hnl:n<l.length:=by omega
      have hk3:¬(l[n]?.getD it0).1=3:=hn3;have hS:pR l tx (liF l tx (is.take j)) n=if(l[n]?.getD it0).1=1 then liF l tx (is.take j)++(tx[nbX l n]?.getD .empty)else if 0<(l[n]?.getD it0).2.1 then liF l tx (is.take j)++⟨#[32]⟩else liF l tx (is.take j):=rfl;rw[hS]at ht;have hlk9:=hlook.out n hnl;have hz9:=htz2 (nbX l n);clear hS hn3 his;generalize hs2:liF l tx (is.take (j+1))=s2 at*;replace hs2:=Lib.hid hs2;generalize liF l tx (is.take j)=s at*;generalize nbX l n=nn at*;generalize tx[nn]?.getD ByteArray.empty=tn at*;generalize hyy:l[n]?.getD it0=yy at*;obtain⟨y1,y2',y3,y4,y5,y6,y7⟩:=yy;dsimp only at ht hk3 hlk9;by_cases k1:y1=1
      ·rw[if_pos k1]at ht
       have hf:=Lib.hid ht;have hlk8:=hlk9 k1;clear ht hlk9;subst k1;(refine wlk ?_;intros);refine⟨j+1,by dsimp only;omega,by dsimp only;omega,?_,?_,rfl⟩
       ·dsimp only
        rw[hs2.out,hf.out];exact agi
       ·dsimp only
        exact agr
      ·rw[if_neg k1]at ht
       by_cases k2:0<y2'
       ·rw[if_pos k2]at ht
        have hf:=Lib.hid ht;clear ht hlk9;(refine wlk ?_;intros);refine⟨j+1,by dsimp only;omega,by dsimp only;omega,?_,?_,rfl⟩
        ·dsimp only
         rw[hs2.out,hf.out];exact agi
        ·dsimp only
         exact agr
       ·rw[if_neg k2]at ht
        have hf:=Lib.hid ht;clear ht hlk9;(refine wlk ?_;intros);refine⟨j+1,by dsimp only;omega,by dsimp only;omega,?_,?_,rfl⟩
        ·dsimp only
         rw[hs2.out,hf.out];exact agi
        ·dsimp only
         exact agr
     ·obtain rfl:j=is.length:=by omega
      rw[hfull.out]at*;generalize hSS:liF l tx is=s at*;clear his hSS;generalize hyy:l[en]?.getD it0=yy at*;obtain⟨y1,y2',y3,y4,y5,y6,y7⟩:=yy;have hmk2:=hmk.out;clear hmk;dsimp only at hmk2;cases y7 with
      |true=>
       rw[if_pos rfl]at hmk2;have hn:=hn0.out;rw[hmk2]at hn;replace hn:=Lib.hid hn;clear hmk2 hn0;(refine wlk ?_;intros);refine⟨(k+1,y+1,y+2),⟨by dsimp only;omega,fun _=>by dsimp only;omega⟩,by dsimp only;omega,?_,?_,rfl⟩
       ·dsimp only
        rw[hn.out,hfe.out,aA (by simp)];exact agi
       ·dsimp only
        rw[hn.out,aD (by simp)];exact agr
      |false=>
       rw[if_neg (by decide)]at hmk2;have hn:=hn0.out;rw[hmk2]at hn;replace hn:=Lib.hid hn;clear hmk2 hn0;(refine wlk ?_;intros);refine⟨(k+1,y+1,y+2),⟨by dsimp only;omega,fun _=>by dsimp only;omega⟩,by dsimp only;omega,?_,?_,rfl⟩
       ·dsimp only
        rw[hn.out,hfe.out,aA (by simp)];exact agi
       ·dsimp only
        rw[hn.out,aD (by simp)];exact agr
   ·obtain rfl:k=br.length:=by omega
    have hnp:0<((oG l tx br br.length).map pvS).length:=by rw[List.length_map];omega
    have hxy2:=hxy (by omega);rw[aA hnp,aD hnp,aA hnp,amo hnp];generalize oG l tx br br.length=out at*;simp only[List.length_map,hlk0];(refine wlk ?_;intros);refine⟨?_,fun b2 L2 e=>by cases e;exact hbB⟩;((with_reducible apply tH (x) (by first|exact .inl rfl|exact .inr rfl));(focus(simp(disch:=(first|omega|(simp only[push_cast];first|done|omega))) only[push_cast,↓reduceIte,Nat.reduceEqDiff,Nat.reduceBEq,Nat.reduceAdd,Nat.reduceSub,Int.reduceToNat, *]<;>with_reducible exact rfl));(focus(simp(disch:=(first|omega|(simp only[push_cast];first|done|omega))) only[push_cast,↓reduceIte,Nat.reduceEqDiff,Nat.reduceBEq,Nat.reduceAdd,Nat.reduceSub,Int.reduceToNat, *]<;>with_reducible exact rfl)))
attribute[push_cast]
 List.length_append
theorem yY {l:List It} {tx:LS} {br:List Int} (h:∀k:Nat,(tx[k]?.getD ByteArray.empty).size≤20) (hl:l.length≤60) (hb:aq6 l br):∀k,k≤br.length→∀s∈oG l tx br k,s.size≤2000
 |0,_=>by simp[oG]
 |k+1,hk=>fun s hs=>by
  rw[oG]at hs;rcases List.mem_append.1 hs with hs|hs
  ·exact yY h hl hb k (by omega) s hs
  ·rw[List.mem_singleton.1 hs]
   obtain⟨b1,b2,b3,-⟩:=hb.at_ (k:=k) (by omega);have:=wQ (l:=l) (tx:=tx) (a:=frB br k) h ((br[k]?.getD 0).toNat-frB br k);unfold lnR;split
   ·rw[ByteArray.size_append,show(⟨#[45]⟩:ByteArray).size=1 from rfl]
    omega
   ·omega
theorem abe (ws pats:LS) (wd most:Int):(lT ws pats wd most).length≤60∧∀s∈lT ws pats wd most,s.size≤2000:=by
 unfold lT;split
 ·rename_i h
  unfold mq at h;rw[Bool.and_eq_true]at h;obtain⟨h1,h2⟩:=h;have hV:piV ws pats=piR ws pats:=if_pos h1;rw[hV]at h2;obtain⟨hB,-,-,hm,-⟩:=fJ.1 h2;have hb:=agZ (wd:=wd) hB hm.2;have hl:=bC hB;rw[nT];exact⟨by have:=hb.1;omega,yY aau hl hb _ (Nat.le_refl _)⟩
 ·simp
def blK (p:List LS) (q:LS) (x y:Int):Nat→LS
 |0=>[]
 |k+1=>blK p q x y k++lT (p[k]?.getD []) q x y
def bcK (p:List LS) (q:LS) (x y:Int):Nat→List Int
 |0=>[]
 |k+1=>bcK p q x y k++[((lT (p[k]?.getD []) q x y).length:Int)]
def blB (p:List LS) (q:LS) (x y z:Int):Bool:=iE p q x y z&&p.all fun w=>mq w q x y
def blL (p:List LS) (q:LS) (x y z:Int):LS:=if blB p q x y z=true then blK p q x y p.length else []
def blC (p:List LS) (q:LS) (x y z:Int):List Int:=if blB p q x y z=true then bcK p q x y p.length else []
theorem xL (p:List LS) (q:LS) (x y:Int):∀k,(blK p q x y k).length≤60*k
 |0=>by simp[blK]
 |k+1=>by have:=xL p q x y k;have h2:=(abe (p[k]?.getD []) q x y).1;rw[blK,List.length_append];omega
theorem xJ (p:List LS) (q:LS) (x y:Int):∀k,(bcK p q x y k).length=k
 |0=>rfl
 |k+1=>by rw[bcK,List.length_append,xJ p q x y k];rfl
theorem ab4 {ws pats:LS} {wd most:Int} (h:mq ws pats wd most=true):0<(lT ws pats wd most).length:=by unfold lT;rw[if_pos h,nT];unfold mq at h;rw[Bool.and_eq_true]at h;obtain⟨h1,h2⟩:=h;have hV:piV ws pats=piR ws pats:=if_pos h1;rw[hV]at h2;exact agT (fJ.1 h2).2.1 (fJ.1 h2).2.2.2.2
theorem anp {ws pats:LS} {wd most:Int} (h:mq ws pats wd most=false):lT ws pats wd most=[]:=by unfold lT;rw[if_neg (by rw[h];decide)]
theorem aiJ {p:List LS} {q:LS} {x y:Int}:∀{k:Nat},(∀j,j<k→mq (p[j]?.getD []) q x y=true)→0<k→0<(blK p q x y k).length
 |0,_,h=>by omega
 |k+1,h,_=>by have:=ab4 (h k (by omega));rw[blK,List.length_append];omega
def φBl:Fun:=F1 iY fun b=>if acP b.1 b.2.1 then some (.tup [.lst true 1 ((blL b.1 b.2.1 b.2.2.1 b.2.2.2.1 b.2.2.2.2).map fun s=> .val (.string s)),.lst true 1 ((blC b.1 b.2.1 b.2.2.1 b.2.2.2.1 b.2.2.2.2).map fun n=> .val (.int .i64 n)),bv (blB b.1 b.2.1 b.2.2.1 b.2.2.2.1 b.2.2.2.2)])else none
theorem anb {p:List LS} {q:LS} {x y z:Int} (h:acP p q):φBl [.agg [.lst false 1 (p.map fun p=> .lst false 1 (p.map fun s=> .val (.string s))),.lst false 1 (q.map fun s=> .val (.string s)),.val (.int .i64 x),.val (.int .i64 y),.val (.int .i64 z)]]=some (.tup [.lst true 1 ((blL p q x y z).map fun s=> .val (.string s)),.lst true 1 ((blC p q x y z).map fun n=> .val (.int .i64 n)),.val (.bool (blB p q x y z))]):=
 (fM (A:=iY) (p,q,x,y,z)).trans (if_pos h)
def ag2:Fun:=aaA at6
theorem afi:Sound Tryz.prog 28 ag2:=akj.pure
theorem alk {ws pats:LS} {wd most:Int} (h:lX ws∧lX pats) (h0:0<(lT ws pats wd most).length):ag2 [.lst false 1 (ws.map fun s=> .val (.string s)),.lst false 1 (pats.map fun s=> .val (.string s)),.val (.int .i64 wd),.val (.int .i64 most)]=some (.tup [.lst true 1 ((lT ws pats wd most).map fun s=> .val (.string s)),.val (.bool (mq ws pats wd most))]):=by
 have hp:0<((lT ws pats wd most).map fun s=>PV.val (.string s)).length:=by simpa using h0
 refine mR (r:=.tup [.row 0 1 0 (lT ws pats wd most).length,.val (.bool (mq ws pats wd most))]) (cs0:=[(9,1,(lT ws pats wd most).map fun s=> .val (.string s))]) ((aox (A:=dSs) (B:=dSs) (C:=dI) (D:=dI) ws pats wd most).trans ((if_pos h).trans (by rw[aA hp,amo hp,List.length_map]))) ?_;rw[ag3];(simp(disch:=(first|omega|(simp only[push_cast];first|done|omega))) only[push_cast,↓reduceIte,Nat.reduceEqDiff,Nat.reduceBEq,Nat.reduceAdd,Nat.reduceSub,Int.reduceToNat, *]<;>with_reducible exact rfl)
theorem alp {ws pats:LS} {wd most:Int} (h:lX ws∧lX pats) (h0:mq ws pats wd most=false):ag2 [.lst false 1 (ws.map fun s=> .val (.string s)),.lst false 1 (pats.map fun s=> .val (.string s)),.val (.int .i64 wd),.val (.int .i64 most)]=some (.tup [.val (.slice none 0 0),.val (.bool false)]):=by refine mR (r:=.tup [.val (.slice none 0 0),.val (.bool false)]) (cs0:=[]) ((aox (A:=dSs) (B:=dSs) (C:=dI) (D:=dI) ws pats wd most).trans ((if_pos h).trans (by rw[anp h0,h0];rfl))) ?_;(simp(disch:=(first|omega|(simp only[push_cast];first|done|omega))) only[push_cast,↓reduceIte,Nat.reduceEqDiff,Nat.reduceBEq,Nat.reduceAdd,Nat.reduceSub,Int.reduceToNat, *]<;>with_reducible exact rfl)
abbrev lsP (p:List LS):PV:=.lst false 1 (p.map fun p=> .lst false 1 (p.map fun s=> .val (.string s)))
def aw6:Ctx:={fn:=aT [(45,mo),(46,alv)],io:=aT []}
theorem aqc:au Tryz.prog aw6:=okΓ (fC Tryz.func45 qh (fC Tryz.func46 aeV aj)) aj
def ag8:=ah (Γ:=aw6) (f:=45) (φ:=mo) rfl
def agd:=ah (Γ:=aw6) (f:=46) (φ:=alv) rfl
theorem aic:Sound Tryz.prog 23 φBl:=by
 refine ak mixed aqc Tryz.func23 rfl 53 rfl [.tmp 2,.tmp 3,.tmp 4] rfl (by kernel_rfl) fun ps r hr=>?_;obtain⟨⟨p,q,x,y,z⟩,rfl,hpre,rfl⟩:=kW hr;refine⟨by simp,?_⟩;simp only[dIs,dUs,dSs,bR,bV,bT,bU,aI,bW,aL,aO,aH,aJ];(try dsimp only at hpre⊢);have apv:=u6 (x:=x) (y:=y) (z:=z) hpre;obtain⟨hlen,hall,hoq⟩:=hpre;have api:=fun k:Nat=>aju (wd:=x) (most:=y) ⟨hall k,hoq⟩;have hp60:=fun k:Nat=>(abe (p[k]?.getD []) q x y).1;have hbk:=xL p q x y;have hck:=xJ p q x y;unfold blL blC blB;cases hb:iE p q x y z with
 |false=>rw[hb]at apv;simp only[Bool.false_and,Bool.false_eq_true,if_false,List.map_nil];clear api hp60 hbk hck hall hoq hb;have gbls_c45:=ag8;have gbls_c46:=agd;exact wlkF
 |true=>
  rw[hb]at apv;have h6:p.length≤6:=by unfold iE at hb;simp only[Bool.and_eq_true,decide_eq_true_eq]at hb;exact hb.2.1
  simp only[Bool.true_and];clear hall hoq hb;have gbls_c45:=ag8;have gbls_c46:=agd;(refine wlk ?_;intros);refine aF (α:=Nat×Nat×Nat×Nat) mixed (fun i=>[(1,.own 0 5 0 0),(5,.row i.2.1 1 0 (blK p q x y i.1).length),(6,.row i.2.2.1 1 0 i.1),(7,iv i.1)])
   (fun i=>[(0,26,5,[.agg [lsP p,.lst false 1 (q.map fun s=> .val (.string s)),.val (.int .i64 x),.val (.int .i64 y),.val (.int .i64 z)]]),(i.2.1,9,1,(blK p q x y i.1).map fun s=> .val (.string s)),(i.2.2.1,3,1,(bcK p q x y i.1).map fun n=> .val (.int .i64 n))])
   (fun i=>i.2.2.2) (fun i=>i.1≤p.length∧(0<i.2.1∧0<i.2.2.1∧i.2.1≠i.2.2.1∧i.2.1<i.2.2.2∧i.2.2.1<i.2.2.2)∧∀j,j<i.1→mq (p[j]?.getD []) q x y=true) (fun i=>p.length-i.1) (by kernel_rfl) (0,1,2,3) ⟨Nat.zero_le _,by decide,fun j hj=>by dsimp only at hj;omega⟩ ?_ ?_ rfl ?_
  ·have h0:(blK p q x y 0).length=0:=rfl
   exact agi
  ·have h0:blK p q x y 0=[]:=rfl
   have h1:bcK p q x y 0=[]:=rfl;exact agr
  rintro⟨k,o1,o2,nx⟩ ⟨hk,⟨ho1,ho2,ho3,ho4,ho5⟩,hok⟩;dsimp only at hk ho1 ho2 ho3 ho4 ho5 hok;have ho6:¬o2=o1:=fun e=>ho3 e.symm;replace ho3:¬o1=o2:=ho3;have hok':=Lib.hid hok;clear hok;have hbl:=hbk k;have hcl:=hck k;by_cases hkl:k<p.length
  ·have ap:=api k
   have h60:=hp60 k;have hn1:blK p q x y (k+1)=blK p q x y k++lT (p[k]?.getD []) q x y:=rfl;have hn2:bcK p q x y (k+1)=bcK p q x y k++[((lT (p[k]?.getD []) q x y).length:Int)]:=rfl;have hno:mq (p[k]?.getD []) q x y=false→(p.all fun w=>mq w q x y)=false:=fun h=>iZ (d:=[]) hkl h;have hys:mq (p[k]?.getD []) q x y=true→∀j,j<k+1→mq (p[j]?.getD []) q x y=true:=fun h j hj=>by
    rcases Nat.lt_or_ge j k with h1|h1
    ·exact hok'.out j h1
    ·obtain rfl:j=k:=by omega
     exact h
   replace hn1:=Lib.hid hn1;replace hn2:=Lib.hid hn2;replace hys:=Lib.hid hys;clear api hp60 hbk hck;generalize lT (p[k]?.getD []) q x y=L at*;generalize blK p q x y k=B at*;generalize bcK p q x y k=C at*;cases hB:mq (p[k]?.getD []) q x y with
   |false=>rw[hB]at ap;rw[hno hB];clear hno hys hB hn1 hn2;simp only[Bool.false_eq_true,if_false,List.map_nil];exact wlkF
   |true=>
    rw[hB]at ap;have hys2:=hys.out hB;replace hys2:=Lib.hid hys2;clear hno hys hB;(refine wlk ?_;intros);refine⟨(k+1,nx,nx+2,nx+3),⟨by dsimp only;omega,by refine⟨?_,?_,?_,?_,?_⟩<;>(dsimp only;omega),hys2.out⟩,by dsimp only;omega,?_,?_,rfl⟩
    ·dsimp only
     rw[hn1.out];exact agi
    ·dsimp only
     rw[hn1.out,hn2.out];exact agr
  ·obtain rfl:k=p.length:=by omega
   have hall2:(p.all fun w=>mq w q x y)=true:=fA (d:=[]) fun j hj=>hok'.out j hj;rw[hall2];simp only[if_true];clear api hp60 hbk hck hall2;generalize blK p q x y p.length=B at*;generalize bcK p q x y p.length=C at*;exact wlkF
theorem apE {P:Program} {rs:List ResultVar} {tm:Nat→PV} {ob:bn} {nx:Nat} {x:X} {r:PV} {c' d':aU} (a b:Nat) (hab:¬a=b) (hx:x=.normal∨x=.ret) (h1:((eY P ⟨tm,ob,nx⟩ rs).bind fun qs=>cZ [a,b] ob fuel (fG qs))=some r) (h2:oq [a,b] ob fuel a=some c') (h3:oq [a,b] ob fuel b=some d'):jU P rs 0 r [c',d'] x ⟨tm,ob,nx⟩:=
 ⟨hx,[a,b],by simp,by simp[hab],h1,by show [a,b].mapM (oq [a,b] ob fuel)=some [c',d'];rw[mapM_cons',h2,Option.bind_some,mapM_cons',h3,Option.bind_some,mapM_nil'];rfl⟩
def ΨBl:afk:=G1 iY fun b=>if acP b.1 b.2.1 then some (if 0<(blL b.1 b.2.1 b.2.2.1 b.2.2.2.1 b.2.2.2.2).length then(.tup [.row 0 1 0 (blL b.1 b.2.1 b.2.2.1 b.2.2.2.1 b.2.2.2.2).length,.row 1 1 0 (blC b.1 b.2.1 b.2.2.1 b.2.2.2.1 b.2.2.2.2).length,bv (blB b.1 b.2.1 b.2.2.1 b.2.2.2.1 b.2.2.2.2)],[(9,1,(blL b.1 b.2.1 b.2.2.1 b.2.2.2.1 b.2.2.2.2).map fun s=> .val (.string s)),(3,1,(blC b.1 b.2.1 b.2.2.1 b.2.2.2.1 b.2.2.2.2).map fun n=> .val (.int .i64 n))])else(.tup [.val (.slice none 0 0),.val (.slice none 0 0),bv (blB b.1 b.2.1 b.2.2.1 b.2.2.2.1 b.2.2.2.2)],[]))else none
def axI:Ctx:={fn:=aT [(27,mo),(28,ag2)],io:=aT []}
theorem aoa:au Tryz.prog axI:=okΓ (fC Tryz.func27 qc (fC Tryz.func28 afi aj)) aj
def agV:=ah (Γ:=axI) (f:=27) (φ:=mo) rfl
def aiZ:=ah (Γ:=axI) (f:=28) (φ:=ag2) rfl
theorem apD:jW Tryz.prog 10 ΨBl:=by
 refine r9 mixed aoa Tryz.func10 rfl 45 rfl [.tmp 2,.tmp 3,.tmp 4] rfl (by kernel_rfl) fun ps r cs' hr=>?_;obtain⟨⟨p,q,x,y,z⟩,rfl,hq⟩:=agW hr;clear hr;split at hq
 case isFalse=>cases hq
 case isTrue hpre=>
 simp only[Option.some.injEq]at hq;refine⟨by simp,?_⟩;simp only[dIs,dUs,dSs,bR,bV,bT,bU,aI,bW,aL,aO,aH,aJ];dsimp only at hpre hq⊢;have apv:=u6 (x:=x) (y:=y) (z:=z) hpre;obtain⟨hlen,hall,hoq⟩:=hpre;have api:=fun(k:Nat) h=>alk (wd:=x) (most:=y) ⟨hall k,hoq⟩ h;have apn:=fun(k:Nat) h=>alp (wd:=x) (most:=y) ⟨hall k,hoq⟩ h;have hp60:=fun k:Nat=>(abe (p[k]?.getD []) q x y).1;have hbk:=xL p q x y;have hck:=xJ p q x y;unfold blL blC blB at hq;cases hb:iE p q x y z with
 |false=>rw[hb]at apv hq;simp only[Bool.false_and,Bool.false_eq_true,if_false,List.length_nil,Nat.lt_irrefl,Prod.mk.injEq]at hq;obtain⟨rfl,rfl⟩:=hq;clear api apn hp60 hbk hck hall hoq hb;have gbli_c27:=agV;have gbli_c28:=aiZ;(refine wlk ?_;intros);all_goals((with_reducible apply l7 (by first|exact .inl rfl|exact .inr rfl));(simp(disch:=(first|omega|(simp only[push_cast];first|done|omega))) only[push_cast,↓reduceIte,Nat.reduceEqDiff,Nat.reduceBEq,Nat.reduceAdd,Nat.reduceSub,Int.reduceToNat, *]<;>with_reducible exact rfl))
 |true=>
  rw[hb]at apv hq;have h6:p.length≤6:=by unfold iE at hb;simp only[Bool.and_eq_true,decide_eq_true_eq]at hb;exact hb.2.1
  simp only[Bool.true_and]at hq;replace hq:=Lib.hid hq;clear hall hoq hb;have gbli_c27:=agV;have gbli_c28:=aiZ;(refine wlk ?_;intros);refine aF (α:=Nat×Nat×Nat×Nat) mixed (fun i=>[(1,.own 0 5 0 0),(5,nP 1 ((blK p q x y i.1).map fun s=> .val (.string s)) i.2.1),(6,nP 1 ((bcK p q x y i.1).map fun n=> .val (.int .i64 n)) i.2.2.1),(15,lsP p),(16,iv p.length),(17,iv i.1)])
   (fun i=>[(0,26,5,[.agg [lsP p,.lst false 1 (q.map fun s=> .val (.string s)),.val (.int .i64 x),.val (.int .i64 y),.val (.int .i64 z)]])]++(nO 9 1 ((blK p q x y i.1).map fun s=> .val (.string s)) i.2.1++nO 3 1 ((bcK p q x y i.1).map fun n=> .val (.int .i64 n)) i.2.2.1))
   (fun i=>i.2.2.2) (fun i=>i.1≤p.length∧0<i.2.2.2∧(0<i.1→0<i.2.1∧0<i.2.2.1∧i.2.1≠i.2.2.1∧i.2.1<i.2.2.2∧i.2.2.1<i.2.2.2)∧∀j,j<i.1→mq (p[j]?.getD []) q x y=true) (fun i=>p.length-i.1) (by kernel_rfl) (0,0,0,1) ⟨Nat.zero_le _,by decide,fun h=>absurd h (Nat.lt_irrefl 0),fun j hj=>by dsimp only at hj;omega⟩ ?_ ?_ rfl ?_
  ·dsimp only
   rw[show blK p q x y 0=[]from rfl,show bcK p q x y 0=[]from rfl,List.map_nil,List.map_nil,eG];exact agi
  ·dsimp only
   rw[show blK p q x y 0=[]from rfl,show bcK p q x y 0=[]from rfl,List.map_nil,List.map_nil,dM,dM];simp(disch:=(first|omega|(simp only[push_cast];first|done|omega))) only[push_cast,↓reduceIte,Nat.reduceEqDiff,Nat.reduceBEq,Nat.reduceAdd,Nat.reduceSub,Int.reduceToNat,List.cons_append,List.nil_append,List.append_nil, *]
  rintro⟨k,o1,o2,nx⟩ ⟨hk,hnx,hoo,hok⟩;dsimp only at hk hnx hoo hok⊢;have hok':=Lib.hid hok;have hbp:=fun h=>aiJ (k:=k) hok h;clear hok;have hbl:=hbk k;have hcl:=hck k;by_cases hkl:k<p.length
  ·have ap:=api k
   have apk:=apn k;have h60:=hp60 k;have hn1:blK p q x y (k+1)=blK p q x y k++lT (p[k]?.getD []) q x y:=rfl;have hn2:bcK p q x y (k+1)=bcK p q x y k++[((lT (p[k]?.getD []) q x y).length:Int)]:=rfl;have hno:mq (p[k]?.getD []) q x y=false→(p.all fun w=>mq w q x y)=false:=fun h=>iZ (d:=[]) hkl h;have hps:=fun h=>ab4 (ws:=p[k]?.getD []) (pats:=q) (wd:=x) (most:=y) h;have hys:mq (p[k]?.getD []) q x y=true→∀j,j<k+1→mq (p[j]?.getD []) q x y=true:=fun h j hj=>by
    rcases Nat.lt_or_ge j k with h1|h1
    ·exact hok'.out j h1
    ·obtain rfl:j=k:=by omega
     exact h
   replace hn1:=Lib.hid hn1;replace hn2:=Lib.hid hn2;replace hys:=Lib.hid hys;clear api apn hp60 hbk hck;generalize lT (p[k]?.getD []) q x y=L at*;cases hB:mq (p[k]?.getD []) q x y with
   |false=>
    have ap2:=apk hB;have hq2:=hq.out;rw[hno hB]at hq2;simp only[Bool.false_eq_true,if_false,List.length_nil,Nat.lt_irrefl,Prod.mk.injEq]at hq2;obtain⟨rfl,rfl⟩:=hq2;clear ap apk hno hys hB hn1 hn2 hps hq;by_cases hk0:k=0
    ·subst hk0
     rw[show blK p q x y 0=[]from rfl,show bcK p q x y 0=[]from rfl,List.map_nil,List.map_nil,eG,dM,dM];simp only[List.append_nil];(refine wlk ?_;intros);all_goals((with_reducible apply l7 (by first|exact .inl rfl|exact .inr rfl));(simp(disch:=(first|omega|(simp only[push_cast];first|done|omega))) only[push_cast,↓reduceIte,Nat.reduceEqDiff,Nat.reduceBEq,Nat.reduceAdd,Nat.reduceSub,Int.reduceToNat, *]<;>with_reducible exact rfl))
    ·obtain⟨ho1,ho2,ho3,ho4,ho5⟩:=hoo (by omega)
     have hb1:=hbp (by omega);have hb2:0<((blK p q x y k).map fun s=>PV.val (.string s)).length:=by rw[List.length_map];exact hb1
     have hb3:0<((bcK p q x y k).map fun n=>PV.val (.int .i64 n)).length:=by rw[List.length_map];omega
     rw[aA hb2,aA hb3,aD hb2,aD hb3];generalize blK p q x y k=B at*;generalize bcK p q x y k=C at*;simp only[List.cons_append,List.nil_append,List.length_map,hcl];(refine wlk ?_;intros);all_goals((with_reducible apply l7 (by first|exact .inl rfl|exact .inr rfl));(simp(disch:=(first|omega|(simp only[push_cast];first|done|omega))) only[push_cast,↓reduceIte,Nat.reduceEqDiff,Nat.reduceBEq,Nat.reduceAdd,Nat.reduceSub,Int.reduceToNat, *]<;>with_reducible exact rfl))
   |true=>
    have hL0:=hps hB;have ap2:=ap hL0;rw[hB]at ap2;have hys2:=hys.out hB;replace hys2:=Lib.hid hys2;clear ap apk hno hys hB hps;by_cases hk0:k=0
    ·subst hk0
     rw[show blK p q x y 0=[]from rfl,show bcK p q x y 0=[]from rfl,List.map_nil,List.map_nil,eG,dM,dM];rw[show blK p q x y 0=[]from rfl,List.nil_append]at hn1;rw[show bcK p q x y 0=[]from rfl,List.nil_append]at hn2;have hLp:0<(L.map fun s=>PV.val (.string s)).length:=by rw[List.length_map];exact hL0
     simp only[List.append_nil];clear hbl hcl hbp;(refine wlk ?_;intros);refine⟨(0+1,nx,nx+2,nx+3),⟨by dsimp only;omega,by dsimp only;omega,fun _=>by refine⟨?_,?_,?_,?_,?_⟩<;>(dsimp only;omega),hys2.out⟩,by dsimp only;omega,?_,?_,rfl⟩
     ·dsimp only
      rw[hn1.out,hn2.out,aA hLp,aA (show 0<([((L.length:Nat):Int)].map fun n=>PV.val (.int .i64 n)).length from Nat.zero_lt_one)];exact agi
     ·dsimp only
      rw[hn1.out,hn2.out,aD hLp,aD (show 0<([((L.length:Nat):Int)].map fun n=>PV.val (.int .i64 n)).length from Nat.zero_lt_one)];simp(disch:=(first|omega|(simp only[push_cast];first|done|omega))) only[push_cast,↓reduceIte,Nat.reduceEqDiff,Nat.reduceBEq,Nat.reduceAdd,Nat.reduceSub,Int.reduceToNat,List.cons_append,List.nil_append,List.append_nil, *]
    ·obtain⟨ho1,ho2,ho3,ho4,ho5⟩:=hoo (by omega)
     have ho6:¬o2=o1:=fun e=>ho3 e.symm;replace ho3:¬o1=o2:=ho3;have hb1:=hbp (by omega);have hb2:0<((blK p q x y k).map fun s=>PV.val (.string s)).length:=by rw[List.length_map];exact hb1
     have hb3:0<((bcK p q x y k).map fun n=>PV.val (.int .i64 n)).length:=by rw[List.length_map];omega
     have hb4:0<((blK p q x y k++L).map fun s=>PV.val (.string s)).length:=by rw[List.length_map,List.length_append];omega
     rw[aA hb2,aA hb3,aD hb2,aD hb3];generalize blK p q x y k=B at*;generalize bcK p q x y k=C at*;simp only[List.cons_append,List.nil_append,List.length_map,hcl];clear hb2 hb3;(refine wlk ?_;intros);refine⟨(k+1,nx,nx+2,nx+3),⟨by dsimp only;omega,by dsimp only;omega,fun _=>by refine⟨?_,?_,?_,?_,?_⟩<;>(dsimp only;omega),hys2.out⟩,by dsimp only;omega,?_,?_,rfl⟩
     ·dsimp only
      rw[hn1.out,hn2.out,aA hb4,aA (show 0<((C++[((L.length:Nat):Int)]).map fun n=>PV.val (.int .i64 n)).length by simp)];exact agi
     ·dsimp only
      rw[hn1.out,hn2.out,aD hb4,aD (show 0<((C++[((L.length:Nat):Int)]).map fun n=>PV.val (.int .i64 n)).length by simp)];simp(disch:=(first|omega|(simp only[push_cast];first|done|omega))) only[push_cast,↓reduceIte,Nat.reduceEqDiff,Nat.reduceBEq,Nat.reduceAdd,Nat.reduceSub,Int.reduceToNat,List.cons_append,List.nil_append,List.append_nil, *]
  ·obtain rfl:k=p.length:=by omega
   have hall2:(p.all fun w=>mq w q x y)=true:=fA (d:=[]) fun j hj=>hok'.out j hj;have hq2:=hq.out;rw[hall2]at hq2;simp only[if_true]at hq2;clear api apn hp60 hbk hck hall2 hq;by_cases hk0:p.length=0
   ·obtain rfl:=List.eq_nil_of_length_eq_zero hk0
    change(if 0<([]:LS).length then _ else _)=_ at hq2;show pq _ _ _ _ _ (lk [(1,.own 0 5 0 0),(5,nP 1 [] o1),(6,nP 1 [] o2),(15,lsP []),(16,iv ([]:List LS).length),(17,iv ([]:List LS).length)]) (lo ([(0,26,5,[.agg [lsP [],.lst false 1 (q.map fun s=> .val (.string s)),.val (.int .i64 x),.val (.int .i64 y),.val (.int .i64 z)]])]++(nO 9 1 [] o1++nO 3 1 [] o2))) _;rw[eG,eG,dM,dM];simp only[List.length_nil,Nat.lt_irrefl,if_false,Prod.mk.injEq]at hq2;obtain⟨rfl,rfl⟩:=hq2;simp only[List.append_nil];(refine wlk ?_;intros);all_goals((with_reducible apply l7 (by first|exact .inl rfl|exact .inr rfl));(simp(disch:=(first|omega|(simp only[push_cast];first|done|omega))) only[push_cast,↓reduceIte,Nat.reduceEqDiff,Nat.reduceBEq,Nat.reduceAdd,Nat.reduceSub,Int.reduceToNat, *]<;>with_reducible exact rfl))
   ·obtain⟨ho1,ho2,ho3,ho4,ho5⟩:=hoo (by omega)
    have ho6:¬o2=o1:=fun e=>ho3 e.symm;replace ho3:¬o1=o2:=ho3;have hb1:=hbp (by omega);have hb2:0<((blK p q x y p.length).map fun s=>PV.val (.string s)).length:=by rw[List.length_map];exact hb1
    have hb3:0<((bcK p q x y p.length).map fun n=>PV.val (.int .i64 n)).length:=by rw[List.length_map];omega
    rw[aA hb2,aA hb3,aD hb2,aD hb3];rw[if_pos hb1]at hq2;simp only[Prod.mk.injEq]at hq2;obtain⟨rfl,rfl⟩:=hq2;generalize blK p q x y p.length=B at*;generalize bcK p q x y p.length=C at*;simp only[List.cons_append,List.nil_append,List.length_map,hcl];(refine wlk ?_;intros);all_goals((with_reducible apply apE o1 o2 ho3 (by first|exact .inl rfl|exact .inr rfl));(focus(simp(disch:=(first|omega|(simp only[push_cast];first|done|omega))) only[push_cast,↓reduceIte,Nat.reduceEqDiff,Nat.reduceBEq,Nat.reduceAdd,Nat.reduceSub,Int.reduceToNat, *]<;>with_reducible exact rfl));(focus(simp(disch:=(first|omega|(simp only[push_cast];first|done|omega))) only[push_cast,↓reduceIte,Nat.reduceEqDiff,Nat.reduceBEq,Nat.reduceAdd,Nat.reduceSub,Int.reduceToNat, *]<;>with_reducible exact rfl));(focus(simp(disch:=(first|omega|(simp only[push_cast];first|done|omega))) only[push_cast,↓reduceIte,Nat.reduceEqDiff,Nat.reduceBEq,Nat.reduceAdd,Nat.reduceSub,Int.reduceToNat, *]<;>with_reducible exact rfl)))
theorem awU {a b:Nat} (h:a≤b):min a b=a:=Nat.min_eq_left h
attribute[push_cast]
 awU List.take_length
theorem alK {p:List LS} {q:LS} {x y z:Int} (h:(blL p q x y z).length=0):blC p q x y z=[]∧(blB p q x y z=true→p=[]):=by
 unfold blL at h;unfold blC;split at h
 ·rename_i hB
  have hp:p.length=0:=by
   rcases Nat.eq_zero_or_pos p.length with h0|h0
   ·exact h0
   ·have hall:(p.all fun w=>mq w q x y)=true:=by unfold blB at hB;rw[Bool.and_eq_true]at hB;exact hB.2
    have:=aiJ (q:=q) (x:=x) (y:=y) (p:=p) (k:=p.length) (fun j hj=>by rw[List.getElem?_eq_getElem hj,Option.getD_some];exact List.all_eq_true.1 hall _ (List.getElem_mem hj)) h0
    omega
  rw[if_pos hB,List.eq_nil_of_length_eq_zero hp];exact⟨rfl,fun _=>rfl⟩
 ·rename_i hB
  rw[if_neg hB];exact⟨rfl,fun h=>absurd h hB⟩
theorem arJ (c d:aU):(fun o=>[c,d][o]?)=lo [(0,c),(1,d)]:=by
 funext o
 match o with
 |0=>rfl
 |1=>rfl
 |o+2=>simp[lo,List.lookup]
def afV:Fun:=aaA ΨBl
theorem agf {p:List LS} {q:LS} {x y z:Int} (h:acP p q) (h0:0<(blL p q x y z).length):afV [.agg [.lst false 1 (p.map fun p=> .lst false 1 (p.map fun s=> .val (.string s))),.lst false 1 (q.map fun s=> .val (.string s)),.val (.int .i64 x),.val (.int .i64 y),.val (.int .i64 z)]]=some (.tup [.lst true 1 ((blL p q x y z).map fun s=> .val (.string s)),.lst true 1 ((blC p q x y z).map fun n=> .val (.int .i64 n)),.val (.bool (blB p q x y z))]):=by refine mR (r:=.tup [.row 0 1 0 (blL p q x y z).length,.row 1 1 0 (blC p q x y z).length,.val (.bool (blB p q x y z))]) (cs0:=[(9,1,(blL p q x y z).map fun s=> .val (.string s)),(3,1,(blC p q x y z).map fun n=> .val (.int .i64 n))]) ((aqE (A:=iY) (p,q,x,y,z)).trans ((if_pos h).trans (by dsimp only;rw[if_pos h0]))) ?_;generalize blL p q x y z=A;generalize blC p q x y z=B;rw[arJ];(simp(disch:=(first|omega|(simp only[push_cast];first|done|omega))) only[push_cast,↓reduceIte,Nat.reduceEqDiff,Nat.reduceBEq,Nat.reduceAdd,Nat.reduceSub,Int.reduceToNat, *]<;>with_reducible exact rfl)
theorem ajD {p:List LS} {q:LS} {x y z:Int} (h:acP p q) (h0:(blL p q x y z).length=0):afV [.agg [.lst false 1 (p.map fun p=> .lst false 1 (p.map fun s=> .val (.string s))),.lst false 1 (q.map fun s=> .val (.string s)),.val (.int .i64 x),.val (.int .i64 y),.val (.int .i64 z)]]=some (.tup [.val (.slice none 0 0),.val (.slice none 0 0),.val (.bool (blB p q x y z))]):=
 mR (r:=.tup [.val (.slice none 0 0),.val (.slice none 0 0),.val (.bool (blB p q x y z))]) (cs0:=[]) ((aqE (A:=iY) (p,q,x,y,z)).trans ((if_pos h).trans (by dsimp only;rw[if_neg (by omega)]))) rfl
theorem ahu:Sound Tryz.prog 10 afV:=apD.pure
theorem afA {p:List LS} {q:LS} {x y z:Int} (h:p.length≤6):(blL p q x y z).length≤360∧(blC p q x y z).length≤6:=by
 unfold blL blC;split
 ·have:=xL p q x y p.length
  rw[xJ];omega
 ·simp
section
variable {P:Program} {Γ:Ctx} {imm:Md} {ops:Array Oper} {N B:Nat} {w00:World}
def wU (Γ:Ctx) (imm:Md) (ops:Array Oper) (n:Nat):Bool:=(List.range n).all fun j=>(List.range j).all fun i=>dP Γ imm ops i j||p9 ops ops.size i j
def vK (ops:Array Oper):Bool:=(List.range ops.size).all fun j=>match ops[j]? with|some o=>o.after.all (fun e=> !Region.binds .any e||decide (e.on<j))|none=>true
theorem ab8 {n:Nat} (h:wU Γ imm ops n=true) {i j:Nat} (hj:j<n) (hi:i<j):dP Γ imm ops i j=true∨p9 ops ops.size i j=true:=by have h1:=List.all_eq_true.1 (List.all_eq_true.1 h j (List.mem_range.2 hj)) i (List.mem_range.2 hi);simpa [Bool.or_eq_true]using h1
theorem qQ (h:vK ops=true) {j:Nat} {o:Oper} (ho:ops[j]?=some o):∀e∈o.after,Region.binds .any e=true→e.on<j:=fun e he hb=>by have hlt:=(Array.getElem?_eq_some_iff.1 ho).1;have h1:=List.all_eq_true.1 h j (List.mem_range.2 hlt);rw[ho]at h1;dsimp only at h1;have h2:=(Array.all_eq_true_iff_forall_mem.1 h1) e he;simpa [hb]using h2
theorem ajN {io:IoS} {w0:World} (hΓ:eT P Γ io.wr w0) (hio:∀b,io b→b<w0.heap.size) (hd:ops.all (fZ N)=true) {n:Nat} (hn:ops.size=n+2) (hp:wU Γ imm ops n=true) (hed:vK ops=true) (hlast:∀i,i<n+1→p9 ops ops.size i (n+1)=true) {Q:Exit→Act→World→Prop} {s':AS}
 (hQ:∀g' a' w',Rel io w0 N g' s' a' w'→wpOp P ops Q (n+1) (Q .normal) a' w'):
 ∀(fuel:Nat) (listed:Array Bool) (rem:List Nat) (g:Gh) (s:AS) (a:Act) (w:World),rem.length+1≤fuel→listed.size=ops.size→(∀i,i∈rem↔i<n∧listed.getD i true=false)→listed.getD n false=true→listed.getD (n+1) true=false→rem.Pairwise (· < ·)→
  (∀j o,ops[j]?=some o→listed.getD j true=true→∀e∈o.after,Region.binds .any e=true→listed.getD e.on false=true)→
  Rel io w0 N g s a w→evL P Γ imm ops rem s=some s'→wpAny P .any ops Q fuel listed a w:=by
 intro fuel
 induction fuel with
 |zero=>intro listed rem g s a w hlen;omega
 |succ fuel ih=>
  intro listed rem g s a w hlen hsz hrem hA hln hpw hcl h he;have hl':∀x,x<n+1→¬x∈rem→listed.getD x false=true:=fun x hx hm=>by
   by_cases hxn:x=n
   ·rw[hxn];exact hA
   ·rw[hrem]at hm
    have hlt':x<listed.size:=by omega
    have:listed.getD x true≠false:=fun h0=>hm ⟨by omega,h0⟩;simp[hlt']at this⊢;exact this
  have hne:Region.ready .any ops listed≠[]:=by
   intro hnil;cases rem with
   |nil=>
    have:n+1∈Region.ready .any ops listed:=by rw[mem_ready];refine⟨hln,ops[n+1],Array.getElem?_eq_getElem (by omega),fun e he hb=>?_⟩;exact hl' _ (qQ hed (Array.getElem?_eq_getElem (by omega)) e he hb) (by simp)
    rw[hnil]at this;cases this
   |cons i0 q=>
    obtain⟨hi1,hi2⟩:=(hrem i0).1 (by simp);have:i0∈Region.ready .any ops listed:=by
     rw[mem_ready];refine⟨hi2,ops[i0],Array.getElem?_eq_getElem (by omega),fun e he hb=>?_⟩;have hlt:=qQ hed (Array.getElem?_eq_getElem (by omega)) e he hb;refine hl' _ (by omega) fun hm=>?_;rcases List.mem_cons.1 hm with hm|hm
     ·omega
     ·have:=(List.pairwise_cons.1 hpw).1 _ hm
      omega
    rw[hnil]at this;cases this
  refine⟨fun hr=>absurd hr hne,fun i hi=>?_⟩;rw[mem_ready]at hi;obtain⟨h1,o,h2,h3⟩:=hi;have hilt:=(Array.getElem?_eq_some_iff.1 h2).1;by_cases hin:i=n+1
  ·subst hin
   have hnil:rem=[]:=by
    cases rem with
    |nil=>rfl
    |cons i0 q=>
     exfalso;obtain⟨hi1,hi2⟩:=(hrem i0).1 (by simp);have hxl:=eD hcl _ _ _ (hlast i0 (by omega)) (fun o' ho' e he hb=>by rw[h2]at ho';cases ho';exact h3 e he hb);have hlt:i0<listed.size:=by omega
     simp[hlt]at hi2 hxl;rw[hi2]at hxl;cases hxl
   subst hnil;simp only[evL,Option.some.injEq]at he;subst he;refine wpOp_mono (fun a' w' hq=>?_) (hQ g a w h);refine acz (fun x hx=>?_) hq fuel;by_cases hxi:x=n+1
   ·subst hxi
    have hlt:n+1<listed.size:=by omega
    simp[hlt]
   ·rw[getD_set_ne true (fun e=>hxi e.symm)]
    have:=hl' x (by omega) (by simp);have hlt:x<listed.size:=by omega
    simp[hlt]at this⊢;exact this
  ·have hin2:i≠n:=fun e=>by
    subst e;have hlt:i<listed.size:=by omega
    simp[hlt]at hA h1;rw[hA]at h1;cases h1
   have hmem:=(hrem i).2 ⟨by omega,h1⟩;obtain⟨p,q,rfl⟩:=List.append_of_mem hmem;have hpi:∀x∈p,dP Γ imm ops x i=true:=fun x hx=>by
    have hxi:x<i:=by rw[List.pairwise_append]at hpw;exact hpw.2.2 x hx i (by simp)
    rcases(ab8 hp (show i<n by omega) hxi).symm with ho|ho
    ·exfalso
     have hxl:=eD hcl _ _ _ ho (fun o' ho' e he hb=>by rw[h2]at ho';cases ho';exact h3 e he hb);have:=((hrem x).1 (by simp[hx])).2;have hlt:x<listed.size:=by have:=((hrem x).1 (by simp[hx])).1;omega
     simp[hlt]at this hxl;rw[this]at hxl;cases hxl
    ·exact ho
   have hfr:=gU hpi he;rw[bO,h2]at hfr;dsimp only at hfr;split at hfr
   ·rename_i s1 hs1
    have hdo:fZ N o=true:=(Array.all_eq_true_iff_forall_mem.1 hd) o (Array.mem_of_getElem? h2);refine aae h hΓ hio hdo hs1 h2 fun g' a' w' hr=>ih _ (p++q) g' s1 a' w' (by simp at hlen⊢;omega) (by simpa using hsz) (fun j=>?_) ?_ ?_ ?_ ?_ hr hfr
    ·by_cases hji:j=i
     ·subst hji
      have hnp:j∉p++q:=by
       rw[List.pairwise_append]at hpw;intro hm;rcases List.mem_append.1 hm with hm|hm
       ·have:=hpw.2.2 j hm j (by simp)
        omega
       ·have:=(List.pairwise_cons.1 hpw.2.1).1 j hm
        omega
      constructor
      ·intro hm;exact absurd hm hnp
      ·rintro⟨_,hf⟩
       have hlt:j<listed.size:=by omega
       simp[hlt]at hf
     ·rw[getD_set_ne true (fun e=>hji e.symm),←hrem j]
      simp[hji]
    ·exact getD_set_true hA
    ·rw[getD_set_ne true hin]
     exact hln
    ·rw[List.pairwise_append]at hpw⊢
     exact⟨hpw.1,(List.pairwise_cons.1 hpw.2.1).2,fun x hx y hy=>hpw.2.2 x hx y (by simp[hy])⟩
    ·intro j o' ho' hl e he hb
     by_cases hji:j=i
     ·subst hji
      rw[h2]at ho';cases ho';exact getD_set_true (h3 e he hb)
     ·rw[getD_set_ne true (fun e=>hji e.symm)]at hl
      exact getD_set_true (hcl j o' ho' hl e he hb)
   ·cases hfr
def ai3 (Γ:Ctx) (imm:Md) (ops:Array Oper) (xs:List Nat) (i:Nat):Bool:=match ops[i]? with|some o=> !dV Γ imm o&&(match o.dst with|some d=> !xs.contains d|none=>true)|none=>true
theorem ahr {o:Oper} {s s1:AS} (h:dV Γ imm o=false) (he:mH P Γ imm ops o s=some s1):s1.ob=s.ob∧s1.nx=s.nx∧∀t,o.dst≠some t→s1.tm t=s.tm t:=by
 have key:∀p,s1=s.put o.dst p→s1.ob=s.ob∧s1.nx=s.nx∧∀t,o.dst≠some t→s1.tm t=s.tm t:=fun p e=>by subst e;exact⟨oh.1,oh.2,fun t ht=>rA ht⟩
 unfold mH at he;split at he
 ·unfold amf at he
  rw[h]at he;simp only[Bool.false_eq_true,if_false,Option.map_eq_some_iff]at he;obtain⟨p,-,rfl⟩:=he;exact key p rfl
 ·cases he
  exact key _ rfl
 ·cases he
theorem vR {xs:List Nat}:∀{rem:List Nat} {s s':AS},(∀x∈rem,ai3 Γ imm ops xs x=true)→evL P Γ imm ops rem s=some s'→s'.ob=s.ob∧s'.nx=s.nx∧∀t∈xs,s'.tm t=s.tm t
 |[],s,s',_,h=>by simp only[evL,Option.some.injEq]at h;subst h;exact⟨rfl,rfl,fun _ _=>rfl⟩
 |i::rem,s,s',hf,h=>by
  rw[bO]at h;have h0:=hf i (by simp);have ht:=fun x hx=>hf x (List.mem_cons_of_mem _ hx);unfold ai3 at h0;cases ho:ops[i]? with
  |none=>rw[ho]at h;exact vR ht h
  |some o=>
   rw[ho]at h h0;dsimp only at h h0;split at h
   ·rename_i s1 hs1
    simp only[Bool.and_eq_true,Bool.not_eq_true']at h0;obtain⟨k1,k2,k3⟩:=ahr h0.1 hs1;obtain⟨j1,j2,j3⟩:=vR ht h;refine⟨j1.trans k1,j2.trans k2,fun t hx=>(j3 t hx).trans (k3 t fun e=>?_)⟩;have:=h0.2;rw[e]at this;simp[hx]at this
   ·cases h
def amc (d:Nat) (v:Value):Oper:={dst:=some d,op:=.move (.const v),type:=0,pos:= "",after:=#[],guard:=none}
theorem wL {i n:Nat} {o:Oper} (hn:n<ops.size):∀{rem:List Nat} {s:AS},(∀x∈rem,x<n)→(∀x∈rem,∀o',ops[x]?=some o'→o'.guard=none)→evL P Γ imm (ops.setIfInBounds n o) rem s=evL P Γ imm ops rem s
 |[],_,_,_=>rfl
 |x::rem,s,h,hg=>by
  rw[bO,bO];have hx:=h x (by simp);have e:(ops.setIfInBounds n o)[x]?=ops[x]?:=by rw[Array.getElem?_setIfInBounds,if_neg (by omega)]
  rw[e];cases ho:ops[x]? with
  |none=>exact wL (i:=i) hn (fun y hy=>h y (by simp[hy])) fun y hy=>hg y (by simp[hy])
  |some o'=>
   dsimp only
   have hgd:=hg x (by simp) o' ho;have e2:mH P Γ imm (ops.setIfInBounds n o) o' s=mH P Γ imm ops o' s:=by unfold mH eH;rw[hgd]
   rw[e2];cases mH P Γ imm ops o' s with
   |none=>rfl
   |some s1=>exact wL (i:=i) hn (fun y hy=>h y (by simp[hy])) fun y hy=>hg y (by simp[hy])
theorem vW {n:Nat} {o:Oper} (hn:ops[n]?=some o):∀{rem:List Nat} {s s1 s2:AS},evL P Γ imm ops rem s=some s1→mH P Γ imm ops o s1=some s2→evL P Γ imm ops (rem++[n]) s=some s2
 |[],s,s1,s2,h,h2=>by
  simp only[evL,Option.some.injEq]at h;subst h;rw[List.nil_append,bO,hn];dsimp only
  rw[h2];rfl
 |x::rem,s,s1,s2,h,h2=>by
  rw[List.cons_append,bO];rw[bO]at h;cases ho:ops[x]? with
  |none=>rw[ho]at h;exact vW hn h h2
  |some o'=>
   rw[ho]at h;dsimp only at h⊢;cases he:mH P Γ imm ops o' s with
   |none=>rw[he]at h;cases h
   |some s3=>rw[he]at h;exact vW hn h h2
theorem ahj {n d:Nat} {v:Value} (hn:n<ops.size) {rem:List Nat} {s s1:AS} (hlt:∀x∈rem,x<n) (hg:∀x∈rem,∀o',ops[x]?=some o'→o'.guard=none) (hi:∀x∈rem,dP Γ imm (ops.setIfInBounds n (amc d v)) x n=true) (h:evL P Γ imm ops rem s=some s1):evL P Γ imm ops rem (s.put (some d) (.val v))=some (s1.put (some d) (.val v)):=by
 have hs:∀s:AS,mH P Γ imm (ops.setIfInBounds n (amc d v)) (amc d v) s=some (s.put (some d) (.val v)):=fun s=>rfl;have hnn:(ops.setIfInBounds n (amc d v))[n]?=some (amc d v):=by rw[Array.getElem?_setIfInBounds,if_pos rfl,if_pos hn]
 have h1:evL P Γ imm (ops.setIfInBounds n (amc d v)) rem s=some s1:=by rw[wL (i:=n) hn hlt hg];exact h
 have h2:=vW hnn h1 (hs s1);have h3:=gU (q:=[]) hi h2;rw[List.append_nil,bO,hnn]at h3;dsimp only at h3;rw[hs]at h3;dsimp only at h3;rw[wL (i:=n) hn hlt hg]at h3;exact h3
theorem ao7 {σ:Fgn} {n d:Nat} (hn:ops.size=n+2) {A:Oper} (hA:ops[n]?=some A) (hAg:A.guard=none) (hd:ops.all (fZ N)=true) (hp:wU Γ imm ops n=true) (hed:vK ops=true) (hlast:∀i,i<n+1→p9 ops ops.size i (n+1)=true) {xs:List Nat}
 (hfree:∀i,i<n→p9 ops ops.size i n=true∨ai3 Γ imm ops xs i=true) (hsur:∀v i,i<n→p9 ops ops.size i n=true∨dP Γ imm (ops.setIfInBounds n (amc d v)) i n=true) (hgd:∀i,i<n→∀o',ops[i]?=some o'→o'.guard=none)
 {RA:Value→Fgn→Prop} {Q:Exit→Act→World→Prop} {s':AS}
 (hΓ:∀io w0 g s a w,Rel io w0 N g s a w→HzC io w00 w0 B σ.bk→σ.at_ w→eT P Γ io.wr w0)
 (hΓ':∀v σ',RA v σ'→∀io w0 g s a w,Rel io w0 N g s a w→HzC io w00 w0 B σ'.bk→σ'.at_ w→eT P Γ io.wr w0)
 (hAw:∀s a w,Zt P N B w00 s σ a w→s'.ob=s.ob→s'.nx=s.nx→(∀t∈xs,s'.tm t=s.tm t)→∀(Kn:Act→World→Prop) (Q':Exit→Act→World→Prop),(∀v σ' a' w',Zt P N B w00 (s.put (some d) (.val v)) σ' a' w'→RA v σ'→Kn a' w')→A.wp P a w Kn Q')
 (hU:∀v σ',RA v σ'→∀a' w',Zt P N B w00 (s'.put (some d) (.val v)) σ' a' w'→wpOp P ops Q (n+1) (Q .normal) a' w'):
 ∀(fuel:Nat) (listed:Array Bool) (rem:List Nat) (io:IoS) (w0:World) (g:Gh) (s:AS) (a:Act) (w:World),Rel io w0 N g s a w→HzC io w00 w0 B σ.bk→σ.at_ w→rem.length+2≤fuel→listed.size=ops.size→(∀i,i∈rem↔i<n∧listed.getD i true=false)→listed.getD n true=false→listed.getD (n+1) true=false→rem.Pairwise (· < ·)→
  (∀j o,ops[j]?=some o→listed.getD j true=true→∀e∈o.after,Region.binds .any e=true→listed.getD e.on false=true)→
  evL P Γ imm ops rem s=some s'→wpAny P .any ops Q fuel listed a w:=by
 intro fuel
 induction fuel with
 |zero=>intro listed rem io w0 g s a w _ _ _ hlen;omega
 |succ fuel ih=>
  intro listed rem io w0 g s a w h hC hM hlen hsz hrem hAn hln hpw hcl he;have hl':∀x,x<n→¬x∈rem→listed.getD x false=true:=fun x hx hm=>by
   rw[hrem]at hm;have hlt':x<listed.size:=by omega
   have:listed.getD x true≠false:=fun h0=>hm ⟨hx,h0⟩;simp[hlt']at this⊢;exact this
  have hne:Region.ready .any ops listed≠[]:=by
   intro hnil;cases rem with
   |nil=>
    have:n∈Region.ready .any ops listed:=by rw[mem_ready];refine⟨hAn,A,hA,fun e he hb=>?_⟩;exact hl' _ (qQ hed hA e he hb) (by simp)
    rw[hnil]at this;cases this
   |cons i0 q=>
    obtain⟨hi1,hi2⟩:=(hrem i0).1 (by simp);have:i0∈Region.ready .any ops listed:=by
     rw[mem_ready];refine⟨hi2,ops[i0],Array.getElem?_eq_getElem (by omega),fun e he hb=>?_⟩;have hlt:=qQ hed (Array.getElem?_eq_getElem (by omega)) e he hb;refine hl' _ (by omega) fun hm=>?_;rcases List.mem_cons.1 hm with hm|hm
     ·omega
     ·have:=(List.pairwise_cons.1 hpw).1 _ hm
      omega
    rw[hnil]at this;cases this
  refine⟨fun hr=>absurd hr hne,fun i hi=>?_⟩;rw[mem_ready]at hi;obtain⟨h1,o,h2,h3⟩:=hi;have hilt:=(Array.getElem?_eq_some_iff.1 h2).1;have hordl:∀x,p9 ops ops.size x i=true→x<n→¬x∈rem:=fun x hox hxn hm=>by
   have hxl:=eD hcl _ _ _ hox (fun o' ho' e he hb=>by rw[h2]at ho';cases ho';exact h3 e he hb);have:=((hrem x).1 hm).2;have hlt:x<listed.size:=by omega
   simp[hlt]at this hxl;rw[this]at hxl;cases hxl
  by_cases hiU:i=n+1
  ·exfalso
   subst hiU;have hxl:=eD hcl _ _ _ (hlast n (by omega)) (fun o' ho' e he hb=>by rw[h2]at ho';cases ho';exact h3 e he hb);have hlt:n<listed.size:=by omega
   simp[hlt]at hAn hxl;rw[hAn]at hxl;cases hxl
  ·by_cases hin:i=n
   ·subst hin
    rw[hA]at h2;cases h2;have hrl:∀x∈rem,x<i:=fun x hx=>((hrem x).1 hx).1;have hrf:∀x∈rem,ai3 Γ imm ops xs x=true:=fun x hx=>by
     rcases hfree x (hrl x hx)with q|q
     ·exact absurd hx (hordl x q (hrl x hx))
     ·exact q
    obtain⟨k1,k2,k3⟩:=vR hrf he;unfold wpOp;simp only[hA];have hw:Region.wanted A (yielded ops a.tmps)=true:=by simp[Region.wanted,hAg]
    rw[hw];simp only[if_true];left;refine hAw s a w ⟨⟨io,w0,g,h,hC⟩,hM⟩ k1 k2 k3 _ _ fun v σ' a' w' hz hR=>?_;obtain⟨⟨io',w0',g',hr',hC'⟩,hM'⟩:=hz;have he2:=ahj (d:=d) (v:=v) (by omega) hrl (fun x hx=>hgd x (hrl x hx)) (fun x hx=>by
     rcases hsur v x (hrl x hx)with q|q
     ·exact absurd hx (hordl x q (hrl x hx))
     ·exact q) he
    have hrun:=hΓ' v σ' hR io' w0' g' _ a' w' hr' hC' hM';refine ajN hrun hC'.lt hd hn hp hed hlast (s':=s'.put (some d) (.val v)) (fun g2 a2 w2 hr2=>hU v σ' hR a2 w2 ⟨⟨io',w0',g2,hr2,hC'⟩,Fgn.same hC' hr' hr2 hM'⟩) fuel _ rem g' _ a' w' (by omega) (by simpa using hsz) (fun j=>?_) ?_ ?_ hpw ?_ hr' he2
    ·by_cases hji:j=i
     ·subst hji
      constructor
      ·intro hm;exact absurd (hrl j hm) (by omega)
      ·rintro⟨hf,_⟩;omega
     ·rw[getD_set_ne true (fun e=>hji e.symm),←hrem j]
    ·have hlt:i<listed.size:=by omega
     simp[hlt]
    ·rw[getD_set_ne true (by omega)]
     exact hln
    ·intro j o' ho' hl e he hb
     by_cases hji:j=i
     ·subst hji
      rw[hA]at ho';cases ho';exact getD_set_true (h3 e he hb)
     ·rw[getD_set_ne true (fun e=>hji e.symm)]at hl
      exact getD_set_true (hcl j o' ho' hl e he hb)
   ·have hmem:=(hrem i).2 ⟨by omega,h1⟩
    obtain⟨p,q,rfl⟩:=List.append_of_mem hmem;have hpi:∀x∈p,dP Γ imm ops x i=true:=fun x hx=>by
     have hxi:x<i:=by rw[List.pairwise_append]at hpw;exact hpw.2.2 x hx i (by simp)
     rcases(ab8 hp (show i<n by omega) hxi).symm with ho|ho
     ·exact absurd (by simp[hx]) (hordl x ho (by omega))
     ·exact ho
    have hfr:=gU hpi he;rw[bO,h2]at hfr;dsimp only at hfr;split at hfr
    ·rename_i s1 hs1
     have hdo:fZ N o=true:=(Array.all_eq_true_iff_forall_mem.1 hd) o (Array.mem_of_getElem? h2);refine aae h (hΓ io w0 g s a w h hC hM) hC.lt hdo hs1 h2 fun g' a' w' hr=>ih _ (p++q) io w0 g' s1 a' w' hr hC (Fgn.same hC h hr hM) (by simp at hlen⊢;omega) (by simpa using hsz) (fun j=>?_) ?_ ?_ ?_ ?_ hfr
     ·by_cases hji:j=i
      ·subst hji
       have hnp:j∉p++q:=by
        rw[List.pairwise_append]at hpw;intro hm;rcases List.mem_append.1 hm with hm|hm
        ·have:=hpw.2.2 j hm j (by simp)
         omega
        ·have:=(List.pairwise_cons.1 hpw.2.1).1 j hm
         omega
       constructor
       ·intro hm;exact absurd hm hnp
       ·rintro⟨_,hf⟩
        have hlt:j<listed.size:=by omega
        simp[hlt]at hf
      ·rw[getD_set_ne true (fun e=>hji e.symm),←hrem j]
       simp[hji]
     ·rw[getD_set_ne true hin]
      exact hAn
     ·rw[getD_set_ne true hiU]
      exact hln
     ·rw[List.pairwise_append]at hpw⊢
      exact⟨hpw.1,(List.pairwise_cons.1 hpw.2.1).2,fun x hx y hy=>hpw.2.2 x hx y (by simp[hy])⟩
     ·intro j o' ho' hl e he hb
      by_cases hji:j=i
      ·subst hji
       rw[h2]at ho';cases ho';exact getD_set_true (h3 e he hb)
      ·rw[getD_set_ne true (fun e=>hji e.symm)]at hl
       exact getD_set_true (hcl j o' ho' hl e he hb)
    ·cases hfr
variable {c:Code} {K:X→AS→Fgn→Prop} {s:AS} {σ:Fgn}
theorem HZ.avS {id d:Nat} (n:Nat) {os pre:List Oper} {A U:Oper} {xs:List Nat} {RA:Value→Fgn→Prop} (hm:P.follows .mixedOrders=true) (h1:os.take n=pre) (h2:os.drop n=[A,U]) {gs:List (Option Nat)} (hgs:os.map (·.dst)=gs) (hnl:pre.length=n) (hAg:A.guard=none) (hUg:U.guard=none) (hgd:pre.all (fun o=>o.guard.isNone)=true) (hd:os.toArray.all (fZ N)=true) (hp:wU Γ imm os.toArray n=true) (hed:vK os.toArray=true) (hlast:(List.range (n+1)).all (fun i=>p9 os.toArray os.toArray.size i (n+1))=true)
 (hfree:(List.range n).all (fun i=>p9 os.toArray os.toArray.size i n||ai3 Γ imm os.toArray xs i)=true) (hsur:∀v,(List.range n).all (fun i=>p9 os.toArray os.toArray.size i n||dP Γ imm (os.toArray.setIfInBounds n (amc d v)) i n)=true)
 (hΓ:∀io w0 g s a w,Rel io w0 N g s a w→HzC io w00 w0 B σ.bk→σ.at_ w→eT P Γ io.wr w0)
 (hwq:wq P Γ imm gs pre (fun s1=>(∀v σ',RA v σ'→∀io w0 g s a w,Rel io w0 N g s a w→HzC io w00 w0 B σ'.bk→σ'.at_ w→eT P Γ io.wr w0)∧
   (∀s a w,Zt P N B w00 s σ a w→s1.ob=s.ob→s1.nx=s.nx→(∀t∈xs,s1.tm t=s.tm t)→∀(Kn:Act→World→Prop) (Q':Exit→Act→World→Prop),(∀v σ' a' w',Zt P N B w00 (s.put (some d) (.val v)) σ' a' w'→RA v σ'→Kn a' w')→A.wp P a w Kn Q')∧
   (∀v σ',RA v σ'→∀a w,Zt P N B w00 (s1.put (some d) (.val v)) σ' a w→∀(Kn:Act→World→Prop) (Q':Exit→Act→World→Prop),(∀s2 σ2 a' w',Zt P N B w00 s2 σ2 a' w'→K .normal s2 σ2→Kn a' w')→U.wp P a w Kn Q')) s.tm s.ob s.nx):HZ P N B w00 (.region id os.toArray true) K s σ:=HZ.mk fun a w hs Q hQ=>by
 obtain⟨⟨io,w0,g,hr,hC⟩,hM⟩:=hs;subst hgs;rw[show os.map (·.dst)=os.toArray.toList.map (·.dst) by simp,←kX]at hwq;obtain⟨s1,e1,q1,q2,q3⟩:=nE _ _ hwq;have hops:os=pre++[A,U]:=by rw[←h1,←h2,List.take_append_drop]
 have hsz:os.toArray.size=n+2:=by show os.length=n+2;rw[hops,List.length_append,hnl];rfl
 have hlen2:os.length=n+2:=hsz;have hAn:os.toArray[n]?=some A:=by
  have:os[n]?=some A:=by rw[hops,←hnl];simp
  simpa using this
 have hUn:os.toArray[n+1]?=some U:=by
  have:os[n+1]?=some U:=by rw[hops,←hnl,List.getElem?_append_right (by omega)];simp
  simpa using this
 refine wp_region_any hm ?_;have hdrew:Rel io w0 N g s a {w with drawn:=w.drawn+1}:=⟨hr.nt,hr.df,fun t=>Rep.mono (w:=w) (w':={w with drawn:=w.drawn+1}) (g:=g) (g':=g) (Gh.le_refl g) (fun _ _ _=>rfl) _ _ (hr.tm t),fun o c ho=>by obtain⟨k1,k2,k3,k4⟩:=hr.ob o c ho;exact⟨k1,k2,k3,nI.mono (w:=w) (w':={w with drawn:=w.drawn+1}) (g:=g) (g':=g) k4 (Gh.le_refl g) k1 (fun _ _ _=>rfl) rfl⟩,hr.inj,hr.nx,hr.lt,hr.new,⟨hr.fr.os,hr.fr.tape,hr.fr.output,hr.fr.size,hr.fr.block⟩,hr.old,hr.fix,hr.hl,hr.tab⟩
 have hall:∀{f:Nat→Bool} {m:Nat},(List.range m).all f=true→∀i,i<m→f i=true:=fun h i hi=>(List.all_eq_true.1 h) i (by simpa using hi);refine ao7 (A:=A) (d:=d) (xs:=xs) (RA:=RA) hsz hAn hAg hd hp hed (fun i hi=>hall hlast i hi) (fun i hi=>by simpa [Bool.or_eq_true]using hall hfree i hi) (fun v i hi=>by simpa [Bool.or_eq_true]using hall (hsur v) i hi) (fun i hi o' ho'=>?_) (s':=s1) hΓ q1 q2 (fun v σ' hR a' w' hz=>?_) os.toArray.size _ (List.range n) io w0 g s a _ hdrew hC (σ.keep w _ (fun _ _=>rfl) hM) (by simp;omega) (by simp) (fun i=>?_) (by simp[hsz]) (by simp[hsz]) List.pairwise_lt_range (fun j o ho hl=>?_) ?_
 ·have ho2:os[i]?=some o':=by simpa using ho'
  rw[hops,List.getElem?_append_left (by omega)]at ho2;have:=(List.all_eq_true.1 hgd) o' (List.mem_of_getElem? ho2);simpa using this
 ·unfold wpOp
  simp only[hUn];have hw:Region.wanted U (yielded os.toArray a'.tmps)=true:=by simp[Region.wanted,hUg]
  rw[hw];simp only[if_true];left;exact q3 v σ' hR a' w' hz _ _ fun s2 σ2 a2 w2 hz2 hk=>hQ .normal s2 σ2 a2 w2 hz2 hk
 ·simp only[List.mem_range]
  constructor
  ·intro hi;exact⟨hi,by have:i<os.length:=(by omega);simp[this]⟩
  ·exact fun hi=>hi.1
 ·have hlt:=(Array.getElem?_eq_some_iff.1 ho).1
  simp at hlt;simp[hlt]at hl
 ·have:=abV (P:=P) (Γ:=Γ) (imm:=imm) (ops:=os.toArray) (l2:=[A,U]) pre 0 s (by rw[List.drop_zero];exact hops)
  rw[List.range_eq_range',←hnl,this];exact e1
end
end
end Go.Proofs.YtmmafcjjlbgnkaaGreat
