/- What the proof rests on, part 15: contracts of functions. No condition beyond what each states. -/
import Derived.Test.YtmmafcjjlbgnkaaZBkE14
namespace Go.Proofs.Ytmmafcjjlbgnkaa
open Go.RowKit
set_option linter.all false
set_option maxHeartbeats 32000000
noncomputable section
def an3:aap:=G4 dSs dSs dI dI fun ws pats wd most=>if lU ws∧lU pats then some (.tup [.row 0 1 0 (mH ws pats wd most).length,bv (lQ ws pats wd most)],[(9,1,(mH ws pats wd most).map fun s=> .val (.string s))])else none
theorem apY {l l':LS}:(l.map fun s=>PV.val (.string s))++(l'.map fun s=>PV.val (.string s))=(l++l').map fun s=>PV.val (.string s):=List.map_append.symm
attribute[push_cast]
 apY
def ar4:Ctx:={fn:=aZ [(30,φPi),(31,φBb),(32,φPr)],io:=aZ []}
theorem amL:au Try.prog ar4:=okΓ (fC Try.func30 ag1 (fC Try.func31 agh (fC Try.func32 yw aj))) aj
def aai:=ah (Γ:=ar4) (f:=30) (φ:=φPi) rfl
def zO:=ah (Γ:=ar4) (f:=31) (φ:=φBb) rfl
def aan:=ah (Γ:=ar4) (f:=32) (φ:=φPr) rfl
theorem aiw:iE Try.prog 19 an3:=by
 refine qg mixed amL Try.func19 rfl 127 rfl [.tmp 8,.tmp 9] rfl (by kernel_rfl) fun ps r cs' hr=>?_;obtain⟨ws,pats,wd,most,rfl,hq⟩:=aaG hr;clear hr;split at hq
 case isFalse=>cases hq
 case isTrue hpre=>
 cases hq;refine⟨by simp,?_⟩;simp only[dIs,dUs,dSs,bQ,bU,bP,bT,aL,bS,aQ,aO,aR,aP];have api:=anj hpre;unfold mH lQ;cases hp:nX ws pats with
 |false=>rw[hp]at api;simp only[Bool.false_and];rw[if_neg (by decide)];generalize piV ws pats=l at*;clear hp;have hl:l=[]∨True:=.inr trivial;clear hl;have gpgl_c30:=aai;have gpgl_c31:=zO;have gpgl_c32:=aan;(refine wlk ?_;intros);all_goals((with_reducible apply qL (0) (by first|exact .inl rfl|exact .inr rfl));(focus(simp(disch:=(first|omega|(simp only[push_cast];first|done|omega))) only[push_cast,↓reduceIte,Nat.reduceEqDiff,Nat.reduceBEq,Nat.reduceAdd,Nat.reduceSub,Int.reduceToNat, *]<;>with_reducible exact rfl));(focus(simp(disch:=(first|omega|(simp only[push_cast];first|done|omega))) only[push_cast,↓reduceIte,Nat.reduceEqDiff,Nat.reduceBEq,Nat.reduceAdd,Nat.reduceSub,Int.reduceToNat, *]<;>with_reducible exact rfl)))
 |true=>
 have hB:=ajF hp;have hV:piV ws pats=piR ws pats:=if_pos hp;rw[hp]at api;simp only[Bool.true_and];have hl:=bB hB;have apb:=aft (l:=piV ws pats) (wd:=wd) (most:=most) (show(piV ws pats).length≤1000 by omega);have hnb:=apH ws pats;rw[←hV]at hnb⊢;have hwl:=qU (vF.1 hp).1;have hap:∀k,k<ws.length→φPr [.val (.string (ws[k]?.getD .empty)),.lst false 1 (pats.map fun s=> .val (.string s))]=some (.lst true 1 ((bH (ws[k]?.getD .empty) pats).map fun s=> .val (.string s))):=fun k hk=>aaM ⟨hpre.1.2 k,hpre.2⟩;have htl:=aak ws pats;have htz:∀k:Nat,((txR ws pats)[k]?.getD ByteArray.empty).size≤20:=aaW;have hpl:∀k:Nat,(bH (ws[k]?.getD ByteArray.empty) pats).length≤21:=fun k=>iY _ _;have hob:iQ (piV ws pats) wd most=true→anG (piV ws pats) (dh (piV ws pats) wd most):=fun h=>afj hB (fu.1 h).2.2.2.1.2;have hrr:iQ (piV ws pats) wd most=true→alz (piV ws pats) wd most=dh (piV ws pats) wd most:=fun h=>if_pos h;clear hp hB hV;generalize piV ws pats=l at*;cases hb:iQ l wd most with
 |false=>rw[hb]at apb;rw[if_neg (by decide)];clear hob hrr hnb hap htl htz hpl hpre hb;have gpgl_c30:=aai;have gpgl_c31:=zO;have gpgl_c32:=aan;(refine wlk ?_;intros);all_goals((with_reducible apply qL (0) (by first|exact .inl rfl|exact .inr rfl));(focus(simp(disch:=(first|omega|(simp only[push_cast];first|done|omega))) only[push_cast,↓reduceIte,Nat.reduceEqDiff,Nat.reduceBEq,Nat.reduceAdd,Nat.reduceSub,Int.reduceToNat, *]<;>with_reducible exact rfl));(focus(simp(disch:=(first|omega|(simp only[push_cast];first|done|omega))) only[push_cast,↓reduceIte,Nat.reduceEqDiff,Nat.reduceBEq,Nat.reduceAdd,Nat.reduceSub,Int.reduceToNat, *]<;>with_reducible exact rfl)))
 |true=>
  have hbr:=hob hb;rw[hb,hrr hb]at apb;rw[if_pos rfl];clear hob hrr hb hpre;generalize dh l wd most=br at*;obtain⟨hbl,-⟩:=id hbr;have hbat:=fun k hk=>hbr.at_ (k:=k) hk;clear hbr;have htR:txR ws pats=txK ws pats ws.length:=rfl;have gpgl_c30:=aai;have gpgl_c31:=zO;have gpgl_c32:=aan;(refine wlk ?_;intros);refine aD (α:=Nat×Nat×Nat) mixed (fun z=>[(0,.lst false 1 (ws.map pvS)),(1,.lst false 1 (pats.map pvS)),(10,.row 0 1 0 0),(11,.lst true 7 (l.map eO)),(13,.lst true 1 (br.map pvN)),(15,.row z.2.1 1 0 (txK ws pats z.1).length),(16,iv z.1)])
   (fun z=>[(0,9,1,[]),(z.2.1,9,1,(txK ws pats z.1).map pvS)]) (fun z=>z.2.2)
   (fun z=>z.1≤ws.length∧0<z.2.1∧z.2.1<z.2.2) (fun z=>ws.length-z.1) (by kernel_rfl) (0,1,2) ⟨Nat.zero_le _,by simp,by simp⟩ ?_ ?_ rfl ?_
  ·simp(disch:=(first|omega|(simp only[push_cast];first|done|omega))) only[push_cast,↓reduceIte,Nat.reduceEqDiff,Nat.reduceBEq,Nat.reduceAdd,Nat.reduceSub,Int.reduceToNat,txK,List.length_nil, *]
  ·simp(disch:=(first|omega|(simp only[push_cast];first|done|omega))) only[push_cast,↓reduceIte,Nat.reduceEqDiff,Nat.reduceBEq,Nat.reduceAdd,Nat.reduceSub,Int.reduceToNat,txK,List.map_nil, *]
  rintro⟨k,x,y⟩ ⟨hk,hx0,hxy⟩;dsimp only at hk hx0 hxy;have hlk:=htl k;by_cases h0:k<ws.length
  ·have apk:=hap k h0
   have hlp:=hpl k;have hn:txK ws pats (k+1)=txK ws pats k++bH (ws[k]?.getD .empty) pats:=rfl;replace hn:=Lib.hid hn;generalize txK ws pats k=out at*;generalize bH (ws[k]?.getD .empty) pats=ps at*;clear htl hap hpl htR hnb htz hbat;(refine wlk ?_;intros);refine⟨(k+1,y,y+1),⟨by dsimp only;omega,by dsimp only;omega,by dsimp only;omega⟩,by dsimp only;omega,?_,?_,rfl⟩
   ·dsimp only
    rw[hn.out];exact agr
   ·dsimp only
    rw[hn.out];exact agr
  ·obtain rfl:k=ws.length:=by omega
   rw[←htR];rw[←htR]at hlk;have hts:=fun a=>vk (l:=l) (tx:=txR ws pats) (a:=a) htz;have htz2:∀k:Nat,((txR ws pats)[k]?.getD ByteArray.empty).size≤20:=htz;have htxl:(txR ws pats).length≤252:=by omega
   generalize txR ws pats=tx at*;clear htl hap hpl htR htz;have hlnk:=mM l tx br;(refine wlk ?_;intros);refine aD (α:=Nat×Nat×Nat×Int) mixed (fun z=>[(10,.row z.2.1 1 0 z.1),(11,.lst true 7 (l.map eO)),(13,.lst true 1 (br.map pvN)),(15,.row x 1 0 tx.length),(17,iv (nbX l (frB br z.1))),(18,iv z.2.2.2),(19,iv z.1)])
    (fun z=>[(x,9,1,tx.map pvS),(z.2.1,9,1,(nM l tx br z.1).map pvS)]) (fun z=>z.2.2.1)
    (fun z=>z.1≤br.length∧(¬z.2.1=x∧x<z.2.2.1∧z.2.1<z.2.2.1)∧z.2.2.2=(frB br z.1:Int)-1) (fun z=>br.length-z.1) (by kernel_rfl) (0,0,y,-1) ⟨Nat.zero_le _,⟨by dsimp only;omega,hxy,by dsimp only;omega⟩,rfl⟩ ?_ ?_ rfl ?_
   ·simp(disch:=(first|omega|(simp only[push_cast];first|done|omega))) only[push_cast,↓reduceIte,Nat.reduceEqDiff,Nat.reduceBEq,Nat.reduceAdd,Nat.reduceSub,Int.reduceToNat,frB,nbX,List.take_zero,List.filter_nil,List.length_nil, *]
   ·simp(disch:=(first|omega|(simp only[push_cast];first|done|omega))) only[push_cast,↓reduceIte,Nat.reduceEqDiff,Nat.reduceBEq,Nat.reduceAdd,Nat.reduceSub,Int.reduceToNat,nM,List.map_nil, *]
   rintro⟨k,o,y2,v⟩ ⟨hkb,⟨hox,hxy2,hoy⟩,hv⟩;dsimp only at hkb hox hxy2 hoy hv;subst hv;have hxo:¬x=o:=fun q=>hox q.symm;clear hk h0 hlk;have hlk:=hlnk k;by_cases hk:k<br.length
   ·obtain⟨b1,b2,b3,b4⟩:=hbat k hk
    have hn:nM l tx br (k+1)=nM l tx br k++[lnR l tx (frB br k) (br[k]?.getD 0).toNat]:=rfl;have hfs:=vK br k;replace hn:=Lib.hid hn;replace hfs:=Lib.hid hfs;generalize nM l tx br k=out at*;generalize frB br k=a at*;obtain⟨en,hen⟩:∃en:Nat,br[k]?.getD 0=en:=⟨(br[k]?.getD 0).toNat,by omega⟩;rw[hen,Int.toNat_natCast]at hn hfs b2 b3 b4;rw[hen]at b1;have hmk:lnR l tx a en=if(l[en]?.getD it0).2.2.2.2.2.2=true then lnT l tx a (en-a)++⟨#[45]⟩else lnT l tx a (en-a):=rfl;replace b4:¬(l[en]?.getD it0).1=1:=b4;have hbox:nbX l (en+1)=nbX l en:=afC b3 b4;replace hmk:=Lib.hid hmk;replace hbox:=Lib.hid hbox;clear hbat hlnk;have h45:(⟨#[45]⟩:ByteArray).size=1:=rfl;have h32:(⟨#[32]⟩:ByteArray).size=1:=rfl;(refine wlk ?_;intros);refine aD (α:=Nat) mixed (fun j=>[(10,.row o 1 0 k),(11,.lst true 7 (l.map eO)),(13,.lst true 1 (br.map pvN)),(15,.row x 1 0 tx.length),(17,iv (nbX l (a+j))),(18,iv ((a:Int)-1)),(19,iv k),(20,.val (.string (lnT l tx a j))),(21,iv ((a+j:Nat):Int))])
     (fun _=>[(x,9,1,tx.map pvS),(o,9,1,out.map pvS)]) (fun _=>y2)
     (fun j=>a+j≤en) (fun j=>en-j) (by kernel_rfl) 0 (by omega) ?_ ?_ rfl ?_
    ·have hl0:lnT l tx a 0=⟨#[]⟩:=rfl
     have hcan:(a:Int)-1+1=a:=by omega
     exact agr
    ·exact agr
    intro j hj;have hsz:=hts a j;by_cases hje:a+j<en
    ·have hal:a+j<l.length:=by omega
     have hS:lnT l tx a (j+1)=mZ l tx (lnT l tx a j) (a+j):=rfl;have hbx1:=fun q=>zJ (l:=l) (n:=a+j) hal q;have hbx2:=fun q=>afC (l:=l) (n:=a+j) hal q;have hlt1:=fun q=>agX (l:=l) (n:=a+j) hal q;have hq1:=fun q=>aj7 (l:=l) (tx:=tx) (s:=lnT l tx a j) (n:=a+j) q;have hq2:=fun q=>ajR (l:=l) (tx:=tx) (s:=lnT l tx a j) (n:=a+j) q;have hq3:=fun q r=>aib (l:=l) (tx:=tx) (s:=lnT l tx a j) (n:=a+j) q r;rw[hnb]at hlt1;rw[←hS]at hq1 hq2 hq3;have hnx:=aff l (a+j);rw[hnb]at hnx;clear hS hmk hn hfs hbox;generalize hs9:lnT l tx a j=s at*;generalize hs8:lnT l tx a (j+1)=s2 at*;replace hs9:=Lib.hid hs9;replace hs8:=Lib.hid hs8;generalize hnb2:nbX l (a+j+1)=nn2 at*;replace hnb2:=Lib.hid hnb2;generalize nbX l (a+j)=nn at*;clear hnb b4;change∀q:(l[a+j]?.getD it0).1=1,_ at hbx1 hlt1 hq1;change∀q:¬(l[a+j]?.getD it0).1=1,_ at hbx2 hq3;change∀q:(l[a+j]?.getD it0).1=2∧0<(l[a+j]?.getD it0).2.1∧¬s=⟨#[]⟩,_ at hq2;have hq3':¬(l[a+j]?.getD it0).1=1→¬((l[a+j]?.getD it0).1=2∧0<(l[a+j]?.getD it0).2.1∧¬s=⟨#[]⟩)→s2=s:=hq3;clear hq3;generalize hyy:l[a+j]?.getD it0=yy at*;obtain⟨y1,y2',y3,y4,y5,y6,y7⟩:=yy;dsimp only at hbx1 hbx2 hlt1 hq1 hq2 hq3';have hfin:∀nn':Nat,∀s':ByteArray,nn2=nn'→s2=s'→nbX l (a+(j+1))=nn'∧lnT l tx a (j+1)=s':=fun nn' s' h1 h2=>⟨by rw[←h1];exact hnb2.out,by rw[←h2];exact hs8.out⟩;by_cases k1:y1=1
     ·have hf:=Lib.hid (hfin _ _ (hbx1 k1) (hq1 k1))
      have hn9:=hlt1 k1;have ht9:=htz2 nn;clear hbx1 hbx2 hlt1 hq1 hq2 hq3' hfin;subst k1;(refine wlk ?_;intros);refine⟨j+1,by dsimp only;omega,by dsimp only;omega,?_,?_,rfl⟩
      ·dsimp only
       rw[hf.out.1,hf.out.2];exact agi
      ·exact agr
     ·by_cases k2:y1=2∧0<y2'∧¬s=⟨#[]⟩
      ·have hf:=Lib.hid (hfin _ _ (hbx2 k1) (hq2 k2))
       clear hbx1 hbx2 hlt1 hq1 hq2 hq3' hfin;obtain⟨rfl,k2,k3⟩:=k2;(refine wlk ?_;intros);refine⟨j+1,by dsimp only;omega,by dsimp only;omega,?_,?_,rfl⟩
       ·dsimp only
        rw[hf.out.1,hf.out.2];exact agi
       ·exact agr
      ·have hf:=Lib.hid (hfin _ _ (hbx2 k1) (hq3' k1 k2))
       clear hbx1 hbx2 hlt1 hq1 hq2 hq3' hfin;by_cases k3:y1=2
       ·by_cases k4:0<y2'
        ·have k5:s=⟨#[]⟩:=Classical.byContradiction fun q=>k2 ⟨k3,k4,q⟩
         clear k2;subst k3 k5;(refine wlk ?_;intros);refine⟨j+1,by dsimp only;omega,by dsimp only;omega,?_,?_,rfl⟩
         ·dsimp only
          rw[hf.out.1,hf.out.2];exact agi
         ·exact agr
        ·clear k2
         subst k3;(refine wlk ?_;intros);refine⟨j+1,by dsimp only;omega,by dsimp only;omega,?_,?_,rfl⟩
         ·dsimp only
          rw[hf.out.1,hf.out.2];exact agi
         ·exact agr
       ·clear k2
        (refine wlk ?_;intros);refine⟨j+1,by dsimp only;omega,by dsimp only;omega,?_,?_,rfl⟩
        ·dsimp only
         rw[hf.out.1,hf.out.2];exact agi
        ·exact agr
    ·have hje2:j=en-a:=by omega
     have hae:a+j=en:=by omega
     rw[hae];rw[←hje2]at hmk;generalize lnT l tx a j=s at*;clear hje2;have hcl:(((en:Int)-1)+1)=en:=by omega
     have hfe:frB br (k+1)=en+1:=hfs.out;have hnx:nbX l (frB br (k+1))=nbX l en:=by rw[hfe];exact hbox.out
     replace hfe:=Lib.hid hfe;replace hnx:=Lib.hid hnx;clear hae b4 hfs hbox hcl hnb;generalize hyy:l[en]?.getD it0=yy at*;obtain⟨y1,y2',y3,y4,y5,y6,y7⟩:=yy;have hmk2:=hmk.out;clear hmk;dsimp only at hmk2;cases y7 with
     |true=>
      rw[if_pos rfl]at hmk2;rw[hmk2]at hn;clear hmk2;(refine wlk ?_;intros);refine⟨(k+1,y2+1,y2+2,(en:Int)),⟨by dsimp only;omega,⟨by dsimp only;omega,by dsimp only;omega,by dsimp only;omega⟩,by dsimp only;rw[hfe.out];omega⟩,by dsimp only;omega,?_,?_,rfl⟩
      ·dsimp only
       rw[hnx.out];exact agi
      ·dsimp only
       rw[hn.out];exact agr
     |false=>
      rw[if_neg (by decide)]at hmk2;rw[hmk2]at hn;clear hmk2;(refine wlk ?_;intros);refine⟨(k+1,y2+1,y2+2,(en:Int)),⟨by dsimp only;omega,⟨by dsimp only;omega,by dsimp only;omega,by dsimp only;omega⟩,by dsimp only;rw[hfe.out];omega⟩,by dsimp only;omega,?_,?_,rfl⟩
      ·dsimp only
       rw[hnx.out];exact agi
      ·dsimp only
       rw[hn.out];exact agr
   ·obtain rfl:k=br.length:=by omega
    generalize nM l tx br br.length=out at*;(refine wlk ?_;intros);all_goals((with_reducible apply qL (o) (by first|exact .inl rfl|exact .inr rfl));(focus(simp(disch:=(first|omega|(simp only[push_cast];first|done|omega))) only[push_cast,↓reduceIte,Nat.reduceEqDiff,Nat.reduceBEq,Nat.reduceAdd,Nat.reduceSub,Int.reduceToNat, *]<;>with_reducible exact rfl));(focus(simp(disch:=(first|omega|(simp only[push_cast];first|done|omega))) only[push_cast,↓reduceIte,Nat.reduceEqDiff,Nat.reduceBEq,Nat.reduceAdd,Nat.reduceSub,Int.reduceToNat, *]<;>with_reducible exact rfl)))
def ai1:Fun:=adk an3
theorem acM:Sound Try.prog 19 ai1:=aiw.pure
theorem ah6 {ws pats:LS} {wd most:Int} (h:lU ws∧lU pats):ai1 [.lst false 1 (ws.map fun s=> .val (.string s)),.lst false 1 (pats.map fun s=> .val (.string s)),.val (.int .i64 wd),.val (.int .i64 most)]=some (.tup [.lst true 1 ((mH ws pats wd most).map fun s=> .val (.string s)),.val (.bool (lQ ws pats wd most))]):=by refine tY (r:=.tup [.row 0 1 0 (mH ws pats wd most).length,.val (.bool (lQ ws pats wd most))]) (cs0:=[(9,1,(mH ws pats wd most).map fun s=> .val (.string s))]) ((ale (A:=dSs) (B:=dSs) (C:=dI) (D:=dI) ws pats wd most).trans (if_pos h)) ?_;rw[abZ];(simp(disch:=(first|omega|(simp only[push_cast];first|done|omega))) only[push_cast,↓reduceIte,Nat.reduceEqDiff,Nat.reduceBEq,Nat.reduceAdd,Nat.reduceSub,Int.reduceToNat, *]<;>with_reducible exact rfl)
def ara:aap:=G4 dSs dSs dI dI fun ws pats wd most=>if lU ws∧lU pats then some (.tup [nP 1 ((mH ws pats wd most).map fun s=> .val (.string s)) 0,bv (lQ ws pats wd most)],nC 9 1 ((mH ws pats wd most).map fun s=> .val (.string s)))else none
theorem am6 (es:List PV) (b:Bool):jD id fuel (.tup [nP 1 es 0,bv b])=some (.tup [nP 1 es 0,bv b]):=by cases es<;>rfl
theorem al7 {T:Nat} (l:LS):(nC T 1 (l.map fun s=>PV.val (.string s))).mapM (oZ id fuel)=some (nC T 1 (l.map fun s=>PV.val (.string s))):=by
 cases l with
 |nil=>rfl
 |cons s l=>show [(T,1,(s::l).map fun s=>PV.val (.string s))].mapM (oZ id fuel)=_;rw[mapM_cons',mapM_nil',gU];rfl
theorem agm {l:List It} {wd most lk:Int} {f a:Nat} (ha:a<l.length) (h:(aH l wd most a lk).isSome=true):0<(bkF l wd most (f+1) a lk).length:=by obtain⟨r,hr⟩:=Option.isSome_iff_exists.1 h;rw[nu (by omega) hr];simp
theorem aks:Try.prog.underlying 62=some (.map 3 9):=by kernel_rfl
theorem agQ:Go.Maps.Keyed Try.prog 3:=Go.Maps.int_keyed Try.underlying3
theorem aq4 {n:Int} (h:okI n):keyOf Try.prog 3 (.int .i64 n)=some (.int .i64 n):=Go.Maps.keyOf_int_mk Try.underlying3 (by show(decide (-9223372036854775808≤n)&&decide (n≤9223372036854775807))=true;simp[h.1,h.2])
def anH:Ctx:={fn:=aZ [(37,aiK),(38,φBb),(39,afQ)],io:=aZ []}
theorem bL:au Try.prog anH:=okΓ (fC Try.func37 ac5 (fC Try.func38 aeb (fC Try.func39 ady aj))) aj
def aaQ:=ah (Γ:=anH) (f:=37) (φ:=aiK) rfl
def aaL:=ah (Γ:=anH) (f:=38) (φ:=φBb) rfl
def uJ:=ah (Γ:=anH) (f:=39) (φ:=afQ) rfl
set_option maxRecDepth 100000 in
theorem ahy:iE Try.prog 23 ara:=by
 refine HY.anW (k:=3) (N:=113) (rs:=[.tmp 8,.tmp 9]) Try.func23 rfl rfl rfl (fun ps r cs' hr=>?_) (fun ps r cs' hr=>?_)
 ·obtain⟨ws,pats,wd,most,rfl,hq⟩:=aaG hr
  clear hr;split at hq
  case isFalse=>cases hq
  case isTrue hpre=>
  cases hq;refine⟨?_,am6 _ _,al7 _⟩;simp only[dIs,dUs,dSs,bQ,bU,bP,bT,aL,bS,aQ,aO,aR,aP];(simp(disch:=(first|omega|(simp only[push_cast];first|done|omega))) only[push_cast,↓reduceIte,Nat.reduceEqDiff,Nat.reduceBEq,Nat.reduceAdd,Nat.reduceSub,Int.reduceToNat, *]<;>with_reducible exact rfl)
 obtain⟨ws,pats,wd,most,rfl,hq⟩:=aaG hr;clear hr;split at hq
 case isFalse=>cases hq
 case isTrue hpre=>
 cases hq;refine⟨by simp,fun B w00=>HY.start ?_⟩;simp only[dIs,dUs,dSs,bQ,bU,bP,bT,aL,bS,aQ,aO,aR,aP];have api:=aiY hpre;unfold mH lQ;cases hp:nX ws pats with
 |false=>rw[hp]at api;simp only[Bool.false_and];rw[if_neg (by decide)];generalize(if y9 ws pats=true then piR ws pats else [])=l at*;generalize(if y9 ws pats=true then txR ws pats else [])=tx at*;clear hp;have gpgi_c37:=aaQ;have gpgi_c38:=aaL;have gpgi_c39:=uJ;refine HY.seq (HY.eng mixed bL (by kernel_rfl) ?_);(try dsimp only);(refine wlk ?_;intros);refine HY.seq (HY.eng mixed bL (by kernel_rfl) ?_);(try dsimp only);(refine wlk ?_;intros);refine HY.seq (HY.eng mixed bL (by kernel_rfl) ?_);(try dsimp only);(refine wlk ?_;intros);refine⟨?_,fun b L e=>by cases e⟩;rw[List.map_nil,jH,ajS];((with_reducible apply lK (by first|exact .inl rfl|exact .inr rfl));(simp(disch:=(first|omega|(simp only[push_cast];first|done|omega))) only[push_cast,↓reduceIte,Nat.reduceEqDiff,Nat.reduceBEq,Nat.reduceAdd,Nat.reduceSub,Int.reduceToNat, *]<;>with_reducible exact rfl))
 |true=>
 have hB:=ajF hp;have hV:piV ws pats=piR ws pats:=if_pos hp;have hA:y9 ws pats=true:=by obtain⟨h1,h2,h3,-⟩:=vF.1 hp;unfold y9;rw[h1,h2,decide_eq_true h3];rfl
 rw[hp,hA,if_pos rfl,if_pos rfl]at api;simp only[Bool.true_and];rw[hV]at hB;have hl:=bB hB;have apb:=aft (l:=piR ws pats) (wd:=wd) (most:=most) (show(piR ws pats).length≤1000 by omega);have hnb:=apH ws pats;rw[hV];have htz:∀k:Nat,((txR ws pats)[k]?.getD ByteArray.empty).size≤20:=aaW;have htp:∀k:Nat,k<nb (piR ws pats)→1≤((txR ws pats)[k]?.getD ByteArray.empty).size:=fun k hk=>aoq (by rw[←hnb];exact hk);have htl:(txR ws pats).length≤60:=by rw[←hnb];exact Nat.le_trans (List.length_filter_le _ _) hl
 have hob:iQ (piR ws pats) wd most=true→anG (piR ws pats) (dh (piR ws pats) wd most):=fun h=>afj hB (fu.1 h).2.2.2.1.2;have hrr:iQ (piR ws pats) wd most=true→alz (piR ws pats) wd most=dh (piR ws pats) wd most:=fun h=>if_pos h;have hbp:iQ (piR ws pats) wd most=true→0<(dh (piR ws pats) wd most).length:=fun h=>agm (fu.1 h).2.1 (fu.1 h).2.2.2.2;clear hp hA hV hpre;generalize piR ws pats=l at*;generalize txR ws pats=tx at*;cases hb:iQ l wd most with
 |false=>rw[hb]at apb;rw[if_neg (by decide)];clear hob hrr hnb htz htp hb hbp;generalize alz l wd most=br at*;have gpgi_c37:=aaQ;have gpgi_c38:=aaL;have gpgi_c39:=uJ;refine HY.seq (HY.eng mixed bL (by kernel_rfl) ?_);(try dsimp only);(refine wlk ?_;intros);refine HY.seq (HY.eng mixed bL (by kernel_rfl) ?_);(try dsimp only);(refine wlk ?_;intros);refine HY.seq (HY.eng mixed bL (by kernel_rfl) ?_);(try dsimp only);(refine wlk ?_;intros);refine HY.seq (HY.eng mixed bL (by kernel_rfl) ?_);(try dsimp only);(refine wlk ?_;intros);refine HY.seq (HY.eng mixed bL (by kernel_rfl) ?_);(try dsimp only);(refine wlk ?_;intros);refine⟨?_,fun b L e=>by cases e⟩;rw[List.map_nil,jH,ajS];((with_reducible apply lK (by first|exact .inl rfl|exact .inr rfl));(simp(disch:=(first|omega|(simp only[push_cast];first|done|omega))) only[push_cast,↓reduceIte,Nat.reduceEqDiff,Nat.reduceBEq,Nat.reduceAdd,Nat.reduceSub,Int.reduceToNat, *]<;>with_reducible exact rfl))
 |true=>
  have hbr:=hob hb;have hbp0:=hbp hb;rw[hb,hrr hb]at apb;rw[if_pos rfl];clear hob hrr hb hbp;generalize dh l wd most=br at*;have gpgi_c37:=aaQ;have gpgi_c38:=aaL;have gpgi_c39:=uJ;refine HY.seq (HY.eng mixed bL (by kernel_rfl) ?_);(try dsimp only);(refine wlk ?_;intros);refine HY.seq (HY.eng mixed bL (by kernel_rfl) ?_);(try dsimp only);(refine wlk ?_;intros);refine HY.seq (HY.eng mixed bL (by kernel_rfl) ?_);(try dsimp only);(refine wlk ?_;intros);refine HY.seq (HY.eng mixed bL (by kernel_rfl) ?_);(try dsimp only);(refine wlk ?_;intros);refine HY.seq (HY.eng mixed bL (by kernel_rfl) ?_);(try dsimp only);(refine wlk ?_;intros);refine HY.seq (HY.each (HO.make rfl rfl (by decide) rfl fun b hbB=>?_));dsimp only[AS.put];refine HO.pre (imm:=⟨[],[],[]⟩) 1 bL (by kernel_rfl) (by simp only[List.take_succ_cons,List.take_zero]<;>exact rfl) (by simp only[List.drop_succ_cons,List.drop_zero]<;>exact rfl) (by simp only[List.map_cons,List.map_nil]<;>exact rfl) ?_;(try dsimp only);(refine wlk ?_;intros);refine HO.nil ?_;refine HY.seq (HY.seq (HY.eng mixed bL (by kernel_rfl) ?_));(try dsimp only);(refine wlk ?_;intros);(try dsimp only);have hll:((l.map eO).length:Int)=(l.length:Int):=by simp
  refine HY.block (HY.acC (α:=Nat×Nat) (fun i=>[(10,.lst true 7 (l.map eO)),(11,.lst true 1 (tx.map pvS)),(13,.lst true 1 (br.map pvN)),(14,.val (.map (some b))),(43,.lst true 7 (l.map eO)),(44,iv l.length),(45,iv i.1)])
   (fun i=>[]) (fun i=>i.2) (fun i σ=>i.1≤l.length∧σ=some (b,bxL l tx i.1)) (fun i=>l.length-i.1) (0,0) ⟨Nat.zero_le _,rfl⟩ ?_ ?_ rfl ?_)
  ·(try dsimp only)
   exact agi
  ·(try dsimp only)
   exact agr
  rintro⟨k,y⟩ σ ⟨hk,rfl⟩;dsimp only at hk⊢;refine HY.seq (HY.eng mixed bL (by kernel_rfl) ?_);by_cases hkl:k<l.length
  ·have hn1:=aff l k
   have hbl:=agK (tx:=tx) hk;have hnew:=akm (l:=l) (tx:=tx) (k:=k);have hyes:=fun h=>aeY (l:=l) (tx:=tx) (k:=k) h;have hno:=fun h=>ajx (l:=l) (tx:=tx) (k:=k) h;have hlt:=fun h=>agX (l:=l) (n:=k) hkl h;rw[hnb]at hlt hn1;replace hnew:=Lib.hid hnew;replace hyes:=Lib.hid hyes;replace hno:=Lib.hid hno;replace hlt:=Lib.hid hlt;replace hbl:=Lib.hid hbl;clear hnb htz htp hbr;(refine wlk ?_;intros);refine HY.seq (HY.eng mixed bL (by kernel_rfl) ?_);(try dsimp only);(refine wlk ?_;intros);(try dsimp only);refine HY.seq (HY.block (HY.seq (HY.eng mixed bL (by kernel_rfl) ?_)));(try dsimp only);(refine wlk ?_;intros);refine HY.seq (HY.eng mixed bL (by kernel_rfl) ?_);(try dsimp only);(refine wlk ?_;intros);refine HY.cond (b:=decide ((l[k]?.getD it0).1=1)) (by(simp(disch:=(first|omega|(simp only[push_cast];first|done|omega))) only[push_cast,↓reduceIte,Nat.reduceEqDiff,Nat.reduceBEq,Nat.reduceAdd,Nat.reduceSub,Int.reduceToNat, *]<;>with_reducible exact rfl)) (fun hc=>?_) (fun hc=>?_)
   ·have hc1:(l[k]?.getD it0).1=1:=of_decide_eq_true hc
    have h9:=hlt.out hc1;have hy9:=hyes.out hc1;replace hy9:=Lib.hid hy9;have hb9:=hbl.out;clear hc hyes hno hlt hbl;generalize hnn:nbX l k=nn at*;replace hnn:=Lib.hid hnn;generalize hLL:bxL l tx k=LL at*;replace hLL:=Lib.hid hLL;replace hb9:=Lib.hid hb9;refine HY.each (HO.pre (imm:=⟨[],[],[]⟩) 4 bL (by kernel_rfl) (by simp only[List.take_succ_cons,List.take_zero]<;>exact rfl) (by simp only[List.drop_succ_cons,List.drop_zero]<;>exact rfl) (by simp only[List.map_cons,List.map_nil]<;>exact rfl) ?_);(try dsimp only);(refine wlk ?_;intros);refine HO.auU aks rfl rfl rfl (by decide) (by(simp(disch:=(first|omega|(simp only[push_cast];first|done|omega))) only[push_cast,↓reduceIte,Nat.reduceEqDiff,Nat.reduceBEq,Nat.reduceAdd,Nat.reduceSub,Int.reduceToNat, *]<;>with_reducible exact rfl)) ?_;dsimp only[AS.put];rw[hb9.out];refine HO.pre (imm:=⟨[],[],[]⟩) 2 bL (by kernel_rfl) (by simp only[List.take_succ_cons,List.take_zero]<;>exact rfl) (by simp only[List.drop_succ_cons,List.drop_zero]<;>exact rfl) (by simp only[List.map_cons,List.map_nil]<;>exact rfl) ?_;(try dsimp only);(refine wlk ?_;intros);refine HO.upd agQ aks rfl rfl rfl (by(try dsimp only);(simp(disch:=(first|omega|(simp only[push_cast];first|done|omega))) only[push_cast,↓reduceIte,Nat.reduceEqDiff,Nat.reduceBEq,Nat.reduceAdd,Nat.reduceSub,Int.reduceToNat, *]<;>with_reducible exact rfl)) (key:=.int .i64 k) (val:=.string (tx[nn]?.getD .empty)) (congrArg toVal (show _=PV.val (.int .i64 k) by(try dsimp only);(simp(disch:=(first|omega|(simp only[push_cast];first|done|omega))) only[push_cast,↓reduceIte,Nat.reduceEqDiff,Nat.reduceBEq,Nat.reduceAdd,Nat.reduceSub,Int.reduceToNat, *]<;>with_reducible exact rfl))) (congrArg toVal (show _=PV.val (.string (tx[nn]?.getD .empty)) by(try dsimp only);(simp(disch:=(first|omega|(simp only[push_cast];first|done|omega))) only[push_cast,↓reduceIte,Nat.reduceEqDiff,Nat.reduceBEq,Nat.reduceAdd,Nat.reduceSub,Int.reduceToNat, *]<;>with_reducible exact rfl))) (aq4 (by omega)) fun L' hu=>?_;have hL':L'=bxL l tx (k+1):=by
     rw[hy9.out];cases hu with
     |new _=>rfl
     |old h=>exact absurd rfl (hnew.out (_,_) (by rw[h];exact List.mem_append.2 (.inr List.mem_cons_self)))
    refine HO.nil ?_;refine HY.eng mixed bL (by kernel_rfl) ?_;(try dsimp only);(refine wlk ?_;intros);(try dsimp only);refine⟨(k+1,y+1),⟨by dsimp only;omega,congrArg some (Prod.ext rfl hL')⟩,by dsimp only;omega,?_,?_,rfl⟩
    ·(try dsimp only)
     exact agi
    ·(try dsimp only)
     exact agr
   ·have hc1:¬(l[k]?.getD it0).1=1:=of_decide_eq_false hc
    have hn9:=hno.out hc1;clear hc hyes hno hlt hbl hnew;refine HY.skip ?_;refine HY.eng mixed bL (by kernel_rfl) ?_;(try dsimp only);(refine wlk ?_;intros);(try dsimp only);refine⟨(k+1,y+1),⟨by dsimp only;omega,congrArg some (Prod.ext rfl hn9.symm)⟩,by dsimp only;omega,?_,?_,rfl⟩
    ·(try dsimp only)
     exact agi
    ·(try dsimp only)
     exact agr
  ·obtain rfl:k=l.length:=by omega
   have hlook:∀n:Nat,n<l.length→(l[n]?.getD it0).1=1→lkP (anH.see ⟨62,b,aj8 (bxL l tx l.length)⟩).mp 62 (.val (.map (some b))) (some (.int .i64 (n:Int))) false=some (.val (.string (tx[nbX l n]?.getD .empty))):=fun n h1 h2=>by have:=ai2 (aeD (l:=l) (tx:=tx) l.length) (ala (tx:=tx) h1 h2);simpa [Ctx.see,lkP]using this
   have hcall:∀(ob:bg) (ps:List PV),yh (anH.see ⟨62,b,aj8 (bxL l tx l.length)⟩) ob 39 ps=(ps.mapM (reify false 0 ob fuel)).bind afQ:=uJ;(refine wlk ?_;intros);refine HY.seq (HY.eng mixed bL (by kernel_rfl) ?_);(try dsimp only);(refine wlk ?_;intros);(try dsimp only);refine HY.see (M:=⟨62,b,aj8 (bxL l tx l.length)⟩) mixed bL rfl (fun key c p hp w1 g1 hM1=>?_) (by kernel_rfl) ?_
   ·obtain⟨rfl,v,hv,rfl⟩:=agj hp
    obtain⟨n,hn,hkey⟩:=ad8 hv;dsimp only at hkey;subst hkey;exact⟨v,hM1.ab7 agQ aks false (aq4 (by omega)) hv,by simp[Rep]⟩
   generalize aj8 (bxL l tx l.length)=A9 at*;clear api apb;have htz2:=htz;have hlnk:=mM l tx br;have hbat:=fun k hk=>hbr.at_ (k:=k) hk;have hbq:=fun k hk=>(hbr.2 k hk).2;have hbl:=hbr.1;clear hbr;(try dsimp only);(refine wlk ?_;intros);refine aD (α:=Nat×Nat×Nat) mixed (fun z=>[(10,.lst true 7 (l.map eO)),(11,.lst true 1 (tx.map pvS)),(13,.lst true 1 (br.map pvN)),(14,.val (.map (some b))),(17,nP 1 ((nM l tx br z.1).map pvS) z.2.1),(18,iv ((frB br z.1:Int)-1)),(61,.lst true 1 (br.map pvN)),(62,iv br.length),(63,iv z.1)])
    (fun z=>nO 9 1 ((nM l tx br z.1).map pvS) z.2.1) (fun z=>z.2.2) (fun z=>z.1≤br.length∧(0<z.1→z.2.1<z.2.2)) (fun z=>br.length-z.1) (by kernel_rfl) (0,0,y) ⟨Nat.zero_le _,fun h=>absurd h (Nat.lt_irrefl 0)⟩ ?_ ?_ rfl ?_
   ·have hf0:frB br 0=0:=rfl
    dsimp only
    rw[hf0,show nM l tx br 0=[]from rfl,List.map_nil,jH];exact agi
   ·dsimp only
    rw[show nM l tx br 0=[]from rfl,List.map_nil,jC];exact agr
   rintro⟨k,x,y⟩ ⟨hk,hxy⟩;dsimp only at hk hxy⊢;have hlk0:=hlnk k;by_cases hkb:k<br.length
   ·by_cases hk0:k=0
    ·skip
     subst hk0;rw[show nM l tx br 0=[]from rfl,List.map_nil,jH,jC];obtain⟨b1,b2,b3,b4⟩:=hbat 0 hkb;have hq:=hbq 0 hkb;have hn0:nM l tx br (0+1)=nM l tx br 0++[lnR l tx (frB br 0) (br[0]?.getD 0).toNat]:=rfl;have hfs:=vK br 0;have hlk9:(nM l tx br 0).length=0:=rfl;rw[show nM l tx br 0=[]from rfl,List.nil_append]at hn0;generalize frB br 0=a at*;obtain⟨en,hen⟩:∃en:Nat,br[0]?.getD 0=(en:Int):=⟨(br[0]?.getD 0).toNat,by omega⟩;rw[hen,Int.toNat_natCast]at hn0 hfs b2 b3 b4 hq;rw[hen]at b1;have hline:=afp (tx:=tx) hB hq htp;have hmk:lnR l tx a en=if(l[en]?.getD it0).2.2.2.2.2.2=true then lnT l tx a (en-a)++⟨#[45]⟩else lnT l tx a (en-a):=rfl;rw[←hline]at hmk;have api:=ab6 (l:=l) (a:=a) (en:=en) hB b2 b3;rw[hq,if_pos rfl]at api;have hil:=ny l (ay l a) en;have him:=fun x hx=>pF (l:=l) (b:=ay l a) (c:=en) x hx;generalize hI:kW l (ay l a) en=is at*;have hit:=fun j hj=>uF (l:=l) (tx:=tx) (is:=is) (j:=j) hj;have his:=fun j hj=>vU (l:=l) (tx:=tx) htz is j hj;have hfull:is.take is.length=is:=List.take_of_length_le (Nat.le_refl _);replace hit:=Lib.hid hit;replace him:=Lib.hid him;replace hmk:=Lib.hid hmk;replace hn0:=Lib.hid hn0;replace hfull:=Lib.hid hfull;replace hlook:=Lib.hid hlook;have HFS:=Lib.hid hfs;have hfe:=Lib.hid (show(frB br (0+1):Int)-1=(en:Int) by rw[hfs];omega);clear hline hq hI hlnk hbat hbq hnb htp hfs;have h45:(⟨#[45]⟩:ByteArray).size=1:=rfl;have h32:(⟨#[32]⟩:ByteArray).size=1:=rfl;have hill:((is.map pvN).length:Int)=(is.length:Int):=by simp
     (refine wlk ?_;intros);refine aD (α:=Nat) mixed (fun j=>[(10,.lst true 7 (l.map eO)),(11,.lst true 1 (tx.map pvS)),(13,.lst true 1 (br.map pvN)),(14,.val (.map (some b))),(17,.val (.slice none 0 0)),(18,iv ((a:Int)-1)),(20,iv en),(21,.val (.string (liF l tx (is.take j)))),(61,.lst true 1 (br.map pvN)),(62,iv br.length),(63,iv (0:Nat)),(70,.lst true 1 (is.map pvN)),(71,iv is.length),(72,iv j)])
      (fun _=>[]) (fun _=>y) (fun j=>j≤is.length) (fun j=>is.length-j) (by kernel_rfl) 0 (Nat.zero_le _) ?_ ?_ rfl ?_
     ·have hl0:liF l tx (is.take 0)=⟨#[]⟩:=rfl
      (try dsimp only);rw[hl0];exact agi
     ·(try dsimp only)
      exact agr
     intro j hj;have hsz:=his j hj;by_cases hjl:j<is.length
     ·have hxm:=him.out (is[j]?.getD 0) (by rw[List.getElem?_eq_getElem hjl];exact List.getElem_mem hjl)
      have ht:=hit.out j hjl;obtain⟨n,hnn⟩:∃n:Nat,is[j]?.getD 0=n:=⟨(is[j]?.getD 0).toNat,by omega⟩;rw[hnn,Int.toNat_natCast]at hxm;rw[hnn,Int.toNat_natCast]at ht;obtain⟨hn1,hn2,hn3⟩:=hxm;have hnl:n<l.length:=by omega
      have hk3:¬(l[n]?.getD it0).1=3:=hn3;have hS:oC l tx (liF l tx (is.take j)) n=if(l[n]?.getD it0).1=1 then liF l tx (is.take j)++(tx[nbX l n]?.getD .empty)else if 0<(l[n]?.getD it0).2.1 then liF l tx (is.take j)++⟨#[32]⟩else liF l tx (is.take j):=rfl;rw[hS]at ht;have hlk9:=hlook.out n hnl;have hz9:=htz2 (nbX l n);clear hS hn3 his;generalize hs2:liF l tx (is.take (j+1))=s2 at*;replace hs2:=Lib.hid hs2;generalize liF l tx (is.take j)=s at*;generalize nbX l n=nn at*;generalize tx[nn]?.getD ByteArray.empty=tn at*;generalize hyy:l[n]?.getD it0=yy at*;obtain⟨y1,y2',y3,y4,y5,y6,y7⟩:=yy;dsimp only at ht hk3 hlk9;by_cases k1:y1=1
      ·rw[if_pos k1]at ht
       have hf:=Lib.hid ht;have hlk8:=hlk9 k1;clear ht hlk9;subst k1;(refine wlk ?_;intros);refine⟨j+1,by dsimp only;omega,by dsimp only;omega,?_,?_,rfl⟩
       ·dsimp only
        rw[hs2.out,hf.out];exact agi
       ·dsimp only
        exact agr
      ·rw[if_neg k1]at ht
       by_cases k2:0<y2'
       ·rw[if_pos k2]at ht
        have hf:=Lib.hid ht;clear ht hlk9;(refine wlk ?_;intros);refine⟨j+1,by dsimp only;omega,by dsimp only;omega,?_,?_,rfl⟩
        ·dsimp only
         rw[hs2.out,hf.out];exact agi
        ·dsimp only
         exact agr
       ·rw[if_neg k2]at ht
        have hf:=Lib.hid ht;clear ht hlk9;(refine wlk ?_;intros);refine⟨j+1,by dsimp only;omega,by dsimp only;omega,?_,?_,rfl⟩
        ·dsimp only
         rw[hs2.out,hf.out];exact agi
        ·dsimp only
         exact agr
     ·obtain rfl:j=is.length:=by omega
      rw[hfull.out]at*;generalize hSS:liF l tx is=s at*;clear his hSS;generalize hyy:l[en]?.getD it0=yy at*;obtain⟨y1,y2',y3,y4,y5,y6,y7⟩:=yy;have hmk2:=hmk.out;clear hmk;dsimp only at hmk2;cases y7 with
      |true=>
       rw[if_pos rfl]at hmk2;have hn:=hn0.out;rw[hmk2]at hn;replace hn:=Lib.hid hn;clear hmk2 hn0;(refine wlk ?_;intros);refine⟨(0+1,y+1,y+2),⟨by dsimp only;omega,fun _=>by dsimp only;omega⟩,by dsimp only;omega,?_,?_,rfl⟩
       ·dsimp only
        rw[hn.out,hfe.out,aF (by simp)];exact agi
       ·dsimp only
        rw[hn.out,aG (by simp)];exact agr
      |false=>
       rw[if_neg (by decide)]at hmk2;have hn:=hn0.out;rw[hmk2]at hn;replace hn:=Lib.hid hn;clear hmk2 hn0;(refine wlk ?_;intros);refine⟨(0+1,y+1,y+2),⟨by dsimp only;omega,fun _=>by dsimp only;omega⟩,by dsimp only;omega,?_,?_,rfl⟩
       ·dsimp only
        rw[hn.out,hfe.out,aF (by simp)];exact agi
       ·dsimp only
        rw[hn.out,aG (by simp)];exact agr
    ·skip
     have hnp:0<((nM l tx br k).map pvS).length:=by rw[List.length_map];omega
     have hxy2:=hxy (by omega);rw[aF hnp,aG hnp,List.length_map,hlk0];have hxne:¬x=y:=by omega
     have hyne:¬y=x:=by omega
     obtain⟨b1,b2,b3,b4⟩:=hbat k hkb;have hq:=hbq k hkb;have hn0:nM l tx br (k+1)=nM l tx br k++[lnR l tx (frB br k) (br[k]?.getD 0).toNat]:=rfl;have hfs:=vK br k;generalize nM l tx br k=out at*;generalize frB br k=a at*;obtain⟨en,hen⟩:∃en:Nat,br[k]?.getD 0=(en:Int):=⟨(br[k]?.getD 0).toNat,by omega⟩;rw[hen,Int.toNat_natCast]at hn0 hfs b2 b3 b4 hq;rw[hen]at b1;have hline:=afp (tx:=tx) hB hq htp;have hmk:lnR l tx a en=if(l[en]?.getD it0).2.2.2.2.2.2=true then lnT l tx a (en-a)++⟨#[45]⟩else lnT l tx a (en-a):=rfl;rw[←hline]at hmk;have api:=ab6 (l:=l) (a:=a) (en:=en) hB b2 b3;rw[hq,if_pos rfl]at api;have hil:=ny l (ay l a) en;have him:=fun x hx=>pF (l:=l) (b:=ay l a) (c:=en) x hx;generalize hI:kW l (ay l a) en=is at*;have hit:=fun j hj=>uF (l:=l) (tx:=tx) (is:=is) (j:=j) hj;have his:=fun j hj=>vU (l:=l) (tx:=tx) htz is j hj;have hfull:is.take is.length=is:=List.take_of_length_le (Nat.le_refl _);replace hit:=Lib.hid hit;replace him:=Lib.hid him;replace hmk:=Lib.hid hmk;replace hn0:=Lib.hid hn0;replace hfull:=Lib.hid hfull;replace hlook:=Lib.hid hlook;have HFS:=Lib.hid hfs;have hfe:=Lib.hid (show(frB br (k+1):Int)-1=(en:Int) by rw[hfs];omega);clear hline hq hI hlnk hbat hbq hnb htp hfs;have h45:(⟨#[45]⟩:ByteArray).size=1:=rfl;have h32:(⟨#[32]⟩:ByteArray).size=1:=rfl;have hill:((is.map pvN).length:Int)=(is.length:Int):=by simp
     (refine wlk ?_;intros);refine aD (α:=Nat) mixed (fun j=>[(10,.lst true 7 (l.map eO)),(11,.lst true 1 (tx.map pvS)),(13,.lst true 1 (br.map pvN)),(14,.val (.map (some b))),(17,.row x 1 0 k),(18,iv ((a:Int)-1)),(20,iv en),(21,.val (.string (liF l tx (is.take j)))),(61,.lst true 1 (br.map pvN)),(62,iv br.length),(63,iv (k:Nat)),(70,.lst true 1 (is.map pvN)),(71,iv is.length),(72,iv j)])
      (fun _=>[(x,9,1,out.map pvS)]) (fun _=>y) (fun j=>j≤is.length) (fun j=>is.length-j) (by kernel_rfl) 0 (Nat.zero_le _) ?_ ?_ rfl ?_
     ·have hl0:liF l tx (is.take 0)=⟨#[]⟩:=rfl
      (try dsimp only);rw[hl0];exact agi
     ·(try dsimp only)
      exact agr
     intro j hj;have hsz:=his j hj;by_cases hjl:j<is.length
     ·have hxm:=him.out (is[j]?.getD 0) (by rw[List.getElem?_eq_getElem hjl];exact List.getElem_mem hjl)
      have ht:=hit.out j hjl;obtain⟨n,hnn⟩:∃n:Nat,is[j]?.getD 0=n:=⟨(is[j]?.getD 0).toNat,by omega⟩;rw[hnn,Int.toNat_natCast]at hxm;rw[hnn,Int.toNat_natCast]at ht;obtain⟨hn1,hn2,hn3⟩:=hxm;have hnl:n<l.length:=by omega
      have hk3:¬(l[n]?.getD it0).1=3:=hn3;have hS:oC l tx (liF l tx (is.take j)) n=if(l[n]?.getD it0).1=1 then liF l tx (is.take j)++(tx[nbX l n]?.getD .empty)else if 0<(l[n]?.getD it0).2.1 then liF l tx (is.take j)++⟨#[32]⟩else liF l tx (is.take j):=rfl;rw[hS]at ht;have hlk9:=hlook.out n hnl;have hz9:=htz2 (nbX l n);clear hS hn3 his;generalize hs2:liF l tx (is.take (j+1))=s2 at*;replace hs2:=Lib.hid hs2;generalize liF l tx (is.take j)=s at*;generalize nbX l n=nn at*;generalize tx[nn]?.getD ByteArray.empty=tn at*;generalize hyy:l[n]?.getD it0=yy at*;obtain⟨y1,y2',y3,y4,y5,y6,y7⟩:=yy;dsimp only at ht hk3 hlk9;by_cases k1:y1=1
      ·rw[if_pos k1]at ht
       have hf:=Lib.hid ht;have hlk8:=hlk9 k1;clear ht hlk9;subst k1;(refine wlk ?_;intros);refine⟨j+1,by dsimp only;omega,by dsimp only;omega,?_,?_,rfl⟩
       ·dsimp only
        rw[hs2.out,hf.out];exact agi
       ·dsimp only
        exact agr
      ·rw[if_neg k1]at ht
       by_cases k2:0<y2'
       ·rw[if_pos k2]at ht
        have hf:=Lib.hid ht;clear ht hlk9;(refine wlk ?_;intros);refine⟨j+1,by dsimp only;omega,by dsimp only;omega,?_,?_,rfl⟩
        ·dsimp only
         rw[hs2.out,hf.out];exact agi
        ·dsimp only
         exact agr
       ·rw[if_neg k2]at ht
        have hf:=Lib.hid ht;clear ht hlk9;(refine wlk ?_;intros);refine⟨j+1,by dsimp only;omega,by dsimp only;omega,?_,?_,rfl⟩
        ·dsimp only
         rw[hs2.out,hf.out];exact agi
        ·dsimp only
         exact agr
     ·obtain rfl:j=is.length:=by omega
      rw[hfull.out]at*;generalize hSS:liF l tx is=s at*;clear his hSS;generalize hyy:l[en]?.getD it0=yy at*;obtain⟨y1,y2',y3,y4,y5,y6,y7⟩:=yy;have hmk2:=hmk.out;clear hmk;dsimp only at hmk2;cases y7 with
      |true=>
       rw[if_pos rfl]at hmk2;have hn:=hn0.out;rw[hmk2]at hn;replace hn:=Lib.hid hn;clear hmk2 hn0;(refine wlk ?_;intros);refine⟨(k+1,y+1,y+2),⟨by dsimp only;omega,fun _=>by dsimp only;omega⟩,by dsimp only;omega,?_,?_,rfl⟩
       ·dsimp only
        rw[hn.out,hfe.out,aF (by simp)];exact agi
       ·dsimp only
        rw[hn.out,aG (by simp)];exact agr
      |false=>
       rw[if_neg (by decide)]at hmk2;have hn:=hn0.out;rw[hmk2]at hn;replace hn:=Lib.hid hn;clear hmk2 hn0;(refine wlk ?_;intros);refine⟨(k+1,y+1,y+2),⟨by dsimp only;omega,fun _=>by dsimp only;omega⟩,by dsimp only;omega,?_,?_,rfl⟩
       ·dsimp only
        rw[hn.out,hfe.out,aF (by simp)];exact agi
       ·dsimp only
        rw[hn.out,aG (by simp)];exact agr
   ·obtain rfl:k=br.length:=by omega
    have hnp:0<((nM l tx br br.length).map pvS).length:=by rw[List.length_map];omega
    have hxy2:=hxy (by omega);rw[aF hnp,aG hnp,aF hnp,ajY hnp];generalize nM l tx br br.length=out at*;simp only[List.length_map,hlk0];(refine wlk ?_;intros);refine⟨?_,fun b2 L2 e=>by cases e;exact hbB⟩;((with_reducible apply qL (x) (by first|exact .inl rfl|exact .inr rfl));(focus(simp(disch:=(first|omega|(simp only[push_cast];first|done|omega))) only[push_cast,↓reduceIte,Nat.reduceEqDiff,Nat.reduceBEq,Nat.reduceAdd,Nat.reduceSub,Int.reduceToNat, *]<;>with_reducible exact rfl));(focus(simp(disch:=(first|omega|(simp only[push_cast];first|done|omega))) only[push_cast,↓reduceIte,Nat.reduceEqDiff,Nat.reduceBEq,Nat.reduceAdd,Nat.reduceSub,Int.reduceToNat, *]<;>with_reducible exact rfl)))
attribute[push_cast]
 List.length_append
theorem wU {l:List It} {tx:LS} {br:List Int} (h:∀k:Nat,(tx[k]?.getD ByteArray.empty).size≤20) (hl:l.length≤60) (hb:anG l br):∀k,k≤br.length→∀s∈nM l tx br k,s.size≤2000
 |0,_=>by simp[nM]
 |k+1,hk=>fun s hs=>by
  rw[nM]at hs;rcases List.mem_append.1 hs with hs|hs
  ·exact wU h hl hb k (by omega) s hs
  ·rw[List.mem_singleton.1 hs]
   obtain⟨b1,b2,b3,-⟩:=hb.at_ (k:=k) (by omega);have:=vk (l:=l) (tx:=tx) (a:=frB br k) h ((br[k]?.getD 0).toNat-frB br k);unfold lnR;split
   ·rw[ByteArray.size_append,show(⟨#[45]⟩:ByteArray).size=1 from rfl]
    omega
   ·omega
theorem zM (ws pats:LS) (wd most:Int):(mH ws pats wd most).length≤60∧∀s∈mH ws pats wd most,s.size≤2000:=by
 unfold mH;split
 ·rename_i h
  unfold lQ at h;rw[Bool.and_eq_true]at h;obtain⟨h1,h2⟩:=h;have hV:piV ws pats=piR ws pats:=if_pos h1;rw[hV]at h2;obtain⟨hB,-,-,hm,-⟩:=fu.1 h2;have hb:=afj (wd:=wd) hB hm.2;have hl:=bB hB;rw[mM];exact⟨by have:=hb.1;omega,wU aaW hl hb _ (Nat.le_refl _)⟩
 ·simp
def blK (p:List LS) (q:LS) (x y:Int):Nat→LS
 |0=>[]
 |k+1=>blK p q x y k++mH (p[k]?.getD []) q x y
def bcK (p:List LS) (q:LS) (x y:Int):Nat→List Int
 |0=>[]
 |k+1=>bcK p q x y k++[((mH (p[k]?.getD []) q x y).length:Int)]
def blB (p:List LS) (q:LS) (x y z:Int):Bool:=iM p q x y z&&p.all fun w=>lQ w q x y
def blL (p:List LS) (q:LS) (x y z:Int):LS:=if blB p q x y z=true then blK p q x y p.length else []
def blC (p:List LS) (q:LS) (x y z:Int):List Int:=if blB p q x y z=true then bcK p q x y p.length else []
theorem tO (p:List LS) (q:LS) (x y:Int):∀k,(blK p q x y k).length≤60*k
 |0=>by simp[blK]
 |k+1=>by have:=tO p q x y k;have h2:=(zM (p[k]?.getD []) q x y).1;rw[blK,List.length_append];omega
theorem uh (p:List LS) (q:LS) (x y:Int):∀k,(bcK p q x y k).length=k
 |0=>rfl
 |k+1=>by rw[bcK,List.length_append,uh p q x y k];rfl
theorem adW {ws pats:LS} {wd most:Int} (h:lQ ws pats wd most=true):0<(mH ws pats wd most).length:=by unfold mH;rw[if_pos h,mM];unfold lQ at h;rw[Bool.and_eq_true]at h;obtain⟨h1,h2⟩:=h;have hV:piV ws pats=piR ws pats:=if_pos h1;rw[hV]at h2;exact agm (fu.1 h2).2.1 (fu.1 h2).2.2.2.2
theorem al8 {ws pats:LS} {wd most:Int} (h:lQ ws pats wd most=false):mH ws pats wd most=[]:=by unfold mH;rw[if_neg (by rw[h];decide)]
theorem aeC {p:List LS} {q:LS} {x y:Int}:∀{k:Nat},(∀j,j<k→lQ (p[j]?.getD []) q x y=true)→0<k→0<(blK p q x y k).length
 |0,_,h=>by omega
 |k+1,h,_=>by have:=adW (h k (by omega));rw[blK,List.length_append];omega
def φBl:Fun:=F1 jm fun b=>if alF b.1 b.2.1 then some (.tup [.lst true 1 ((blL b.1 b.2.1 b.2.2.1 b.2.2.2.1 b.2.2.2.2).map fun s=> .val (.string s)),.lst true 1 ((blC b.1 b.2.1 b.2.2.1 b.2.2.2.1 b.2.2.2.2).map fun n=> .val (.int .i64 n)),bv (blB b.1 b.2.1 b.2.2.1 b.2.2.2.1 b.2.2.2.2)])else none
theorem alB {p:List LS} {q:LS} {x y z:Int} (h:alF p q):φBl [.agg [.lst false 1 (p.map fun p=> .lst false 1 (p.map fun s=> .val (.string s))),.lst false 1 (q.map fun s=> .val (.string s)),.val (.int .i64 x),.val (.int .i64 y),.val (.int .i64 z)]]=some (.tup [.lst true 1 ((blL p q x y z).map fun s=> .val (.string s)),.lst true 1 ((blC p q x y z).map fun n=> .val (.int .i64 n)),.val (.bool (blB p q x y z))]):=
 (iy (A:=jm) (p,q,x,y,z)).trans (if_pos h)
def aeg:Fun:=adk ara
theorem acX:Sound Try.prog 23 aeg:=ahy.pure
theorem ahA {ws pats:LS} {wd most:Int} (h:lU ws∧lU pats) (h0:0<(mH ws pats wd most).length):aeg [.lst false 1 (ws.map fun s=> .val (.string s)),.lst false 1 (pats.map fun s=> .val (.string s)),.val (.int .i64 wd),.val (.int .i64 most)]=some (.tup [.lst true 1 ((mH ws pats wd most).map fun s=> .val (.string s)),.val (.bool (lQ ws pats wd most))]):=by
 have hp:0<((mH ws pats wd most).map fun s=>PV.val (.string s)).length:=by simpa using h0
 refine tY (r:=.tup [.row 0 1 0 (mH ws pats wd most).length,.val (.bool (lQ ws pats wd most))]) (cs0:=[(9,1,(mH ws pats wd most).map fun s=> .val (.string s))]) ((ale (A:=dSs) (B:=dSs) (C:=dI) (D:=dI) ws pats wd most).trans ((if_pos h).trans (by rw[aF hp,ajY hp,List.length_map]))) ?_;rw[abZ];(simp(disch:=(first|omega|(simp only[push_cast];first|done|omega))) only[push_cast,↓reduceIte,Nat.reduceEqDiff,Nat.reduceBEq,Nat.reduceAdd,Nat.reduceSub,Int.reduceToNat, *]<;>with_reducible exact rfl)
theorem aho {ws pats:LS} {wd most:Int} (h:lU ws∧lU pats) (h0:lQ ws pats wd most=false):aeg [.lst false 1 (ws.map fun s=> .val (.string s)),.lst false 1 (pats.map fun s=> .val (.string s)),.val (.int .i64 wd),.val (.int .i64 most)]=some (.tup [.val (.slice none 0 0),.val (.bool false)]):=by refine tY (r:=.tup [.val (.slice none 0 0),.val (.bool false)]) (cs0:=[]) ((ale (A:=dSs) (B:=dSs) (C:=dI) (D:=dI) ws pats wd most).trans ((if_pos h).trans (by rw[al8 h0,h0];rfl))) ?_;(simp(disch:=(first|omega|(simp only[push_cast];first|done|omega))) only[push_cast,↓reduceIte,Nat.reduceEqDiff,Nat.reduceBEq,Nat.reduceAdd,Nat.reduceSub,Int.reduceToNat, *]<;>with_reducible exact rfl)
abbrev lsP (p:List LS):PV:=.lst false 1 (p.map fun p=> .lst false 1 (p.map fun s=> .val (.string s)))
def aty:Ctx:={fn:=aZ [(18,lu),(19,ai1)],io:=aZ []}
theorem amt:au Try.prog aty:=okΓ (fC Try.func18 oO (fC Try.func19 acM aj)) aj
def afX:=ah (Γ:=aty) (f:=18) (φ:=lu) rfl
def ag9:=ah (Γ:=aty) (f:=19) (φ:=ai1) rfl
theorem ae7:Sound Try.prog 5 φBl:=by
 refine ak mixed amt Try.func5 rfl 53 rfl [.tmp 2,.tmp 3,.tmp 4] rfl (by kernel_rfl) fun ps r hr=>?_;obtain⟨⟨p,q,x,y,z⟩,rfl,hpre,rfl⟩:=oM hr;refine⟨by simp,?_⟩;simp only[dIs,dUs,dSs,bQ,bU,bP,bT,aL,bS,aQ,aO,aR,aP];(try dsimp only at hpre⊢);have apv:=tu (x:=x) (y:=y) (z:=z) hpre;obtain⟨hlen,hall,hoq⟩:=hpre;have api:=fun k:Nat=>ah6 (wd:=x) (most:=y) ⟨hall k,hoq⟩;have hp60:=fun k:Nat=>(zM (p[k]?.getD []) q x y).1;have hbk:=tO p q x y;have hck:=uh p q x y;unfold blL blC blB;cases hb:iM p q x y z with
 |false=>rw[hb]at apv;simp only[Bool.false_and,Bool.false_eq_true,if_false,List.map_nil];clear api hp60 hbk hck hall hoq hb;have gbls_c18:=afX;have gbls_c19:=ag9;exact wlkF
 |true=>
  rw[hb]at apv;have h6:p.length≤6:=by unfold iM at hb;simp only[Bool.and_eq_true,decide_eq_true_eq]at hb;exact hb.2.1
  simp only[Bool.true_and];clear hall hoq hb;have gbls_c18:=afX;have gbls_c19:=ag9;(refine wlk ?_;intros);refine aD (α:=Nat×Nat×Nat×Nat) mixed (fun i=>[(1,.own 0 5 0 0),(5,.row i.2.1 1 0 (blK p q x y i.1).length),(6,.row i.2.2.1 1 0 i.1),(7,iv i.1)])
   (fun i=>[(0,30,5,[.agg [lsP p,.lst false 1 (q.map fun s=> .val (.string s)),.val (.int .i64 x),.val (.int .i64 y),.val (.int .i64 z)]]),(i.2.1,9,1,(blK p q x y i.1).map fun s=> .val (.string s)),(i.2.2.1,3,1,(bcK p q x y i.1).map fun n=> .val (.int .i64 n))])
   (fun i=>i.2.2.2) (fun i=>i.1≤p.length∧(0<i.2.1∧0<i.2.2.1∧i.2.1≠i.2.2.1∧i.2.1<i.2.2.2∧i.2.2.1<i.2.2.2)∧∀j,j<i.1→lQ (p[j]?.getD []) q x y=true) (fun i=>p.length-i.1) (by kernel_rfl) (0,1,2,3) ⟨Nat.zero_le _,by decide,fun j hj=>by dsimp only at hj;omega⟩ ?_ ?_ rfl ?_
  ·have h0:(blK p q x y 0).length=0:=rfl
   exact agi
  ·have h0:blK p q x y 0=[]:=rfl
   have h1:bcK p q x y 0=[]:=rfl;exact agr
  rintro⟨k,o1,o2,nx⟩ ⟨hk,⟨ho1,ho2,ho3,ho4,ho5⟩,hok⟩;dsimp only at hk ho1 ho2 ho3 ho4 ho5 hok;have ho6:¬o2=o1:=fun e=>ho3 e.symm;replace ho3:¬o1=o2:=ho3;have hok':=Lib.hid hok;clear hok;have hbl:=hbk k;have hcl:=hck k;by_cases hkl:k<p.length
  ·have ap:=api k
   have h60:=hp60 k;have hn1:blK p q x y (k+1)=blK p q x y k++mH (p[k]?.getD []) q x y:=rfl;have hn2:bcK p q x y (k+1)=bcK p q x y k++[((mH (p[k]?.getD []) q x y).length:Int)]:=rfl;have hno:lQ (p[k]?.getD []) q x y=false→(p.all fun w=>lQ w q x y)=false:=fun h=>iI (d:=[]) hkl h;have hys:lQ (p[k]?.getD []) q x y=true→∀j,j<k+1→lQ (p[j]?.getD []) q x y=true:=fun h j hj=>by
    rcases Nat.lt_or_ge j k with h1|h1
    ·exact hok'.out j h1
    ·obtain rfl:j=k:=by omega
     exact h
   replace hn1:=Lib.hid hn1;replace hn2:=Lib.hid hn2;replace hys:=Lib.hid hys;clear api hp60 hbk hck;generalize mH (p[k]?.getD []) q x y=L at*;generalize blK p q x y k=B at*;generalize bcK p q x y k=C at*;cases hB:lQ (p[k]?.getD []) q x y with
   |false=>rw[hB]at ap;rw[hno hB];clear hno hys hB hn1 hn2;simp only[Bool.false_eq_true,if_false,List.map_nil];exact wlkF
   |true=>
    rw[hB]at ap;have hys2:=hys.out hB;replace hys2:=Lib.hid hys2;clear hno hys hB;(refine wlk ?_;intros);refine⟨(k+1,nx,nx+2,nx+3),⟨by dsimp only;omega,by refine⟨?_,?_,?_,?_,?_⟩<;>(dsimp only;omega),hys2.out⟩,by dsimp only;omega,?_,?_,rfl⟩
    ·dsimp only
     rw[hn1.out];exact agi
    ·dsimp only
     rw[hn1.out,hn2.out];exact agr
  ·obtain rfl:k=p.length:=by omega
   have hall2:(p.all fun w=>lQ w q x y)=true:=eH (d:=[]) fun j hj=>hok'.out j hj;rw[hall2];simp only[if_true];clear api hp60 hbk hck hall2;generalize blK p q x y p.length=B at*;generalize bcK p q x y p.length=C at*;exact wlkF
theorem akP {P:Program} {rs:List ResultVar} {tm:Nat→PV} {ob:bg} {nx:Nat} {x:X} {r:PV} {c' d':aJ} (a b:Nat) (hab:¬a=b) (hx:x=.normal∨x=.ret) (h1:((d9 P ⟨tm,ob,nx⟩ rs).bind fun qs=>bX [a,b] ob fuel (eU qs))=some r) (h2:nk [a,b] ob fuel a=some c') (h3:nk [a,b] ob fuel b=some d'):jA P rs 0 r [c',d'] x ⟨tm,ob,nx⟩:=
 ⟨hx,[a,b],by simp,by simp[hab],h1,by show [a,b].mapM (nk [a,b] ob fuel)=some [c',d'];rw[mapM_cons',h2,Option.bind_some,mapM_cons',h3,Option.bind_some,mapM_nil'];rfl⟩
def ΨBl:aap:=G1 jm fun b=>if alF b.1 b.2.1 then some (if 0<(blL b.1 b.2.1 b.2.2.1 b.2.2.2.1 b.2.2.2.2).length then(.tup [.row 0 1 0 (blL b.1 b.2.1 b.2.2.1 b.2.2.2.1 b.2.2.2.2).length,.row 1 1 0 (blC b.1 b.2.1 b.2.2.1 b.2.2.2.1 b.2.2.2.2).length,bv (blB b.1 b.2.1 b.2.2.1 b.2.2.2.1 b.2.2.2.2)],[(9,1,(blL b.1 b.2.1 b.2.2.1 b.2.2.2.1 b.2.2.2.2).map fun s=> .val (.string s)),(3,1,(blC b.1 b.2.1 b.2.2.1 b.2.2.2.1 b.2.2.2.2).map fun n=> .val (.int .i64 n))])else(.tup [.val (.slice none 0 0),.val (.slice none 0 0),bv (blB b.1 b.2.1 b.2.2.1 b.2.2.2.1 b.2.2.2.2)],[]))else none
def atm:Ctx:={fn:=aZ [(22,lu),(23,aeg)],io:=aZ []}
theorem anc:au Try.prog atm:=okΓ (fC Try.func22 oV (fC Try.func23 acX aj)) aj
def afz:=ah (Γ:=atm) (f:=22) (φ:=lu) rfl
def agN:=ah (Γ:=atm) (f:=23) (φ:=aeg) rfl
theorem qK:iE Try.prog 7 ΨBl:=by
 refine qg mixed anc Try.func7 rfl 45 rfl [.tmp 2,.tmp 3,.tmp 4] rfl (by kernel_rfl) fun ps r cs' hr=>?_;obtain⟨⟨p,q,x,y,z⟩,rfl,hq⟩:=adY hr;clear hr;split at hq
 case isFalse=>cases hq
 case isTrue hpre=>
 simp only[Option.some.injEq]at hq;refine⟨by simp,?_⟩;simp only[dIs,dUs,dSs,bQ,bU,bP,bT,aL,bS,aQ,aO,aR,aP];dsimp only at hpre hq⊢;have apv:=tu (x:=x) (y:=y) (z:=z) hpre;obtain⟨hlen,hall,hoq⟩:=hpre;have api:=fun(k:Nat) h=>ahA (wd:=x) (most:=y) ⟨hall k,hoq⟩ h;have apn:=fun(k:Nat) h=>aho (wd:=x) (most:=y) ⟨hall k,hoq⟩ h;have hp60:=fun k:Nat=>(zM (p[k]?.getD []) q x y).1;have hbk:=tO p q x y;have hck:=uh p q x y;unfold blL blC blB at hq;cases hb:iM p q x y z with
 |false=>rw[hb]at apv hq;simp only[Bool.false_and,Bool.false_eq_true,if_false,List.length_nil,Nat.lt_irrefl,Prod.mk.injEq]at hq;obtain⟨rfl,rfl⟩:=hq;clear api apn hp60 hbk hck hall hoq hb;have gbli_c22:=afz;have gbli_c23:=agN;(refine wlk ?_;intros);all_goals((with_reducible apply lK (by first|exact .inl rfl|exact .inr rfl));(simp(disch:=(first|omega|(simp only[push_cast];first|done|omega))) only[push_cast,↓reduceIte,Nat.reduceEqDiff,Nat.reduceBEq,Nat.reduceAdd,Nat.reduceSub,Int.reduceToNat, *]<;>with_reducible exact rfl))
 |true=>
  rw[hb]at apv hq;have h6:p.length≤6:=by unfold iM at hb;simp only[Bool.and_eq_true,decide_eq_true_eq]at hb;exact hb.2.1
  simp only[Bool.true_and]at hq;replace hq:=Lib.hid hq;clear hall hoq hb;have gbli_c22:=afz;have gbli_c23:=agN;(refine wlk ?_;intros);refine aD (α:=Nat×Nat×Nat×Nat) mixed (fun i=>[(1,.own 0 5 0 0),(5,nP 1 ((blK p q x y i.1).map fun s=> .val (.string s)) i.2.1),(6,nP 1 ((bcK p q x y i.1).map fun n=> .val (.int .i64 n)) i.2.2.1),(15,lsP p),(16,iv p.length),(17,iv i.1)])
   (fun i=>[(0,30,5,[.agg [lsP p,.lst false 1 (q.map fun s=> .val (.string s)),.val (.int .i64 x),.val (.int .i64 y),.val (.int .i64 z)]])]++(nO 9 1 ((blK p q x y i.1).map fun s=> .val (.string s)) i.2.1++nO 3 1 ((bcK p q x y i.1).map fun n=> .val (.int .i64 n)) i.2.2.1))
   (fun i=>i.2.2.2) (fun i=>i.1≤p.length∧0<i.2.2.2∧(0<i.1→0<i.2.1∧0<i.2.2.1∧i.2.1≠i.2.2.1∧i.2.1<i.2.2.2∧i.2.2.1<i.2.2.2)∧∀j,j<i.1→lQ (p[j]?.getD []) q x y=true) (fun i=>p.length-i.1) (by kernel_rfl) (0,0,0,1) ⟨Nat.zero_le _,by decide,fun h=>absurd h (Nat.lt_irrefl 0),fun j hj=>by dsimp only at hj;omega⟩ ?_ ?_ rfl ?_
  ·dsimp only
   rw[show blK p q x y 0=[]from rfl,show bcK p q x y 0=[]from rfl,List.map_nil,List.map_nil,jH];exact agi
  ·dsimp only
   rw[show blK p q x y 0=[]from rfl,show bcK p q x y 0=[]from rfl,List.map_nil,List.map_nil,jC,jC];simp(disch:=(first|omega|(simp only[push_cast];first|done|omega))) only[push_cast,↓reduceIte,Nat.reduceEqDiff,Nat.reduceBEq,Nat.reduceAdd,Nat.reduceSub,Int.reduceToNat,List.cons_append,List.nil_append,List.append_nil, *]
  rintro⟨k,o1,o2,nx⟩ ⟨hk,hnx,hoo,hok⟩;dsimp only at hk hnx hoo hok⊢;have hok':=Lib.hid hok;have hbp:=fun h=>aeC (k:=k) hok h;clear hok;have hbl:=hbk k;have hcl:=hck k;by_cases hkl:k<p.length
  ·have ap:=api k
   have apk:=apn k;have h60:=hp60 k;have hn1:blK p q x y (k+1)=blK p q x y k++mH (p[k]?.getD []) q x y:=rfl;have hn2:bcK p q x y (k+1)=bcK p q x y k++[((mH (p[k]?.getD []) q x y).length:Int)]:=rfl;have hno:lQ (p[k]?.getD []) q x y=false→(p.all fun w=>lQ w q x y)=false:=fun h=>iI (d:=[]) hkl h;have hps:=fun h=>adW (ws:=p[k]?.getD []) (pats:=q) (wd:=x) (most:=y) h;have hys:lQ (p[k]?.getD []) q x y=true→∀j,j<k+1→lQ (p[j]?.getD []) q x y=true:=fun h j hj=>by
    rcases Nat.lt_or_ge j k with h1|h1
    ·exact hok'.out j h1
    ·obtain rfl:j=k:=by omega
     exact h
   replace hn1:=Lib.hid hn1;replace hn2:=Lib.hid hn2;replace hys:=Lib.hid hys;clear api apn hp60 hbk hck;generalize mH (p[k]?.getD []) q x y=L at*;cases hB:lQ (p[k]?.getD []) q x y with
   |false=>
    have ap2:=apk hB;have hq2:=hq.out;rw[hno hB]at hq2;simp only[Bool.false_eq_true,if_false,List.length_nil,Nat.lt_irrefl,Prod.mk.injEq]at hq2;obtain⟨rfl,rfl⟩:=hq2;clear ap apk hno hys hB hn1 hn2 hps hq;by_cases hk0:k=0
    ·subst hk0
     rw[show blK p q x y 0=[]from rfl,show bcK p q x y 0=[]from rfl,List.map_nil,List.map_nil,jH,jC,jC];simp only[List.append_nil];(refine wlk ?_;intros);all_goals((with_reducible apply lK (by first|exact .inl rfl|exact .inr rfl));(simp(disch:=(first|omega|(simp only[push_cast];first|done|omega))) only[push_cast,↓reduceIte,Nat.reduceEqDiff,Nat.reduceBEq,Nat.reduceAdd,Nat.reduceSub,Int.reduceToNat, *]<;>with_reducible exact rfl))
    ·obtain⟨ho1,ho2,ho3,ho4,ho5⟩:=hoo (by omega)
     have hb1:=hbp (by omega);have hb2:0<((blK p q x y k).map fun s=>PV.val (.string s)).length:=by rw[List.length_map];exact hb1
     have hb3:0<((bcK p q x y k).map fun n=>PV.val (.int .i64 n)).length:=by rw[List.length_map];omega
     rw[aF hb2,aF hb3,aG hb2,aG hb3];generalize blK p q x y k=B at*;generalize bcK p q x y k=C at*;simp only[List.cons_append,List.nil_append,List.length_map,hcl];(refine wlk ?_;intros);all_goals((with_reducible apply lK (by first|exact .inl rfl|exact .inr rfl));(simp(disch:=(first|omega|(simp only[push_cast];first|done|omega))) only[push_cast,↓reduceIte,Nat.reduceEqDiff,Nat.reduceBEq,Nat.reduceAdd,Nat.reduceSub,Int.reduceToNat, *]<;>with_reducible exact rfl))
   |true=>
    have hL0:=hps hB;have ap2:=ap hL0;rw[hB]at ap2;have hys2:=hys.out hB;replace hys2:=Lib.hid hys2;clear ap apk hno hys hB hps;by_cases hk0:k=0
    ·subst hk0
     rw[show blK p q x y 0=[]from rfl,show bcK p q x y 0=[]from rfl,List.map_nil,List.map_nil,jH,jC,jC];rw[show blK p q x y 0=[]from rfl,List.nil_append]at hn1;rw[show bcK p q x y 0=[]from rfl,List.nil_append]at hn2;have hLp:0<(L.map fun s=>PV.val (.string s)).length:=by rw[List.length_map];exact hL0
     simp only[List.append_nil];clear hbl hcl hbp;(refine wlk ?_;intros);refine⟨(0+1,nx,nx+2,nx+3),⟨by dsimp only;omega,by dsimp only;omega,fun _=>by refine⟨?_,?_,?_,?_,?_⟩<;>(dsimp only;omega),hys2.out⟩,by dsimp only;omega,?_,?_,rfl⟩
     ·dsimp only
      rw[hn1.out,hn2.out,aF hLp,aF (show 0<([((L.length:Nat):Int)].map fun n=>PV.val (.int .i64 n)).length from Nat.zero_lt_one)];exact agi
     ·dsimp only
      rw[hn1.out,hn2.out,aG hLp,aG (show 0<([((L.length:Nat):Int)].map fun n=>PV.val (.int .i64 n)).length from Nat.zero_lt_one)];simp(disch:=(first|omega|(simp only[push_cast];first|done|omega))) only[push_cast,↓reduceIte,Nat.reduceEqDiff,Nat.reduceBEq,Nat.reduceAdd,Nat.reduceSub,Int.reduceToNat,List.cons_append,List.nil_append,List.append_nil, *]
    ·obtain⟨ho1,ho2,ho3,ho4,ho5⟩:=hoo (by omega)
     have ho6:¬o2=o1:=fun e=>ho3 e.symm;replace ho3:¬o1=o2:=ho3;have hb1:=hbp (by omega);have hb2:0<((blK p q x y k).map fun s=>PV.val (.string s)).length:=by rw[List.length_map];exact hb1
     have hb3:0<((bcK p q x y k).map fun n=>PV.val (.int .i64 n)).length:=by rw[List.length_map];omega
     have hb4:0<((blK p q x y k++L).map fun s=>PV.val (.string s)).length:=by rw[List.length_map,List.length_append];omega
     rw[aF hb2,aF hb3,aG hb2,aG hb3];generalize blK p q x y k=B at*;generalize bcK p q x y k=C at*;simp only[List.cons_append,List.nil_append,List.length_map,hcl];clear hb2 hb3;(refine wlk ?_;intros);refine⟨(k+1,nx,nx+2,nx+3),⟨by dsimp only;omega,by dsimp only;omega,fun _=>by refine⟨?_,?_,?_,?_,?_⟩<;>(dsimp only;omega),hys2.out⟩,by dsimp only;omega,?_,?_,rfl⟩
     ·dsimp only
      rw[hn1.out,hn2.out,aF hb4,aF (show 0<((C++[((L.length:Nat):Int)]).map fun n=>PV.val (.int .i64 n)).length by simp)];exact agi
     ·dsimp only
      rw[hn1.out,hn2.out,aG hb4,aG (show 0<((C++[((L.length:Nat):Int)]).map fun n=>PV.val (.int .i64 n)).length by simp)];simp(disch:=(first|omega|(simp only[push_cast];first|done|omega))) only[push_cast,↓reduceIte,Nat.reduceEqDiff,Nat.reduceBEq,Nat.reduceAdd,Nat.reduceSub,Int.reduceToNat,List.cons_append,List.nil_append,List.append_nil, *]
  ·obtain rfl:k=p.length:=by omega
   have hall2:(p.all fun w=>lQ w q x y)=true:=eH (d:=[]) fun j hj=>hok'.out j hj;have hq2:=hq.out;rw[hall2]at hq2;simp only[if_true]at hq2;clear api apn hp60 hbk hck hall2 hq;by_cases hk0:p.length=0
   ·obtain rfl:=List.eq_nil_of_length_eq_zero hk0
    change(if 0<([]:LS).length then _ else _)=_ at hq2;show pq _ _ _ _ _ (lk [(1,.own 0 5 0 0),(5,nP 1 [] o1),(6,nP 1 [] o2),(15,lsP []),(16,iv ([]:List LS).length),(17,iv ([]:List LS).length)]) (lo ([(0,30,5,[.agg [lsP [],.lst false 1 (q.map fun s=> .val (.string s)),.val (.int .i64 x),.val (.int .i64 y),.val (.int .i64 z)]])]++(nO 9 1 [] o1++nO 3 1 [] o2))) _;rw[jH,jH,jC,jC];simp only[List.length_nil,Nat.lt_irrefl,if_false,Prod.mk.injEq]at hq2;obtain⟨rfl,rfl⟩:=hq2;simp only[List.append_nil];(refine wlk ?_;intros);all_goals((with_reducible apply lK (by first|exact .inl rfl|exact .inr rfl));(simp(disch:=(first|omega|(simp only[push_cast];first|done|omega))) only[push_cast,↓reduceIte,Nat.reduceEqDiff,Nat.reduceBEq,Nat.reduceAdd,Nat.reduceSub,Int.reduceToNat, *]<;>with_reducible exact rfl))
   ·obtain⟨ho1,ho2,ho3,ho4,ho5⟩:=hoo (by omega)
    have ho6:¬o2=o1:=fun e=>ho3 e.symm;replace ho3:¬o1=o2:=ho3;have hb1:=hbp (by omega);have hb2:0<((blK p q x y p.length).map fun s=>PV.val (.string s)).length:=by rw[List.length_map];exact hb1
    have hb3:0<((bcK p q x y p.length).map fun n=>PV.val (.int .i64 n)).length:=by rw[List.length_map];omega
    rw[aF hb2,aF hb3,aG hb2,aG hb3];rw[if_pos hb1]at hq2;simp only[Prod.mk.injEq]at hq2;obtain⟨rfl,rfl⟩:=hq2;generalize blK p q x y p.length=B at*;generalize bcK p q x y p.length=C at*;simp only[List.cons_append,List.nil_append,List.length_map,hcl];(refine wlk ?_;intros);all_goals((with_reducible apply akP o1 o2 ho3 (by first|exact .inl rfl|exact .inr rfl));(focus(simp(disch:=(first|omega|(simp only[push_cast];first|done|omega))) only[push_cast,↓reduceIte,Nat.reduceEqDiff,Nat.reduceBEq,Nat.reduceAdd,Nat.reduceSub,Int.reduceToNat, *]<;>with_reducible exact rfl));(focus(simp(disch:=(first|omega|(simp only[push_cast];first|done|omega))) only[push_cast,↓reduceIte,Nat.reduceEqDiff,Nat.reduceBEq,Nat.reduceAdd,Nat.reduceSub,Int.reduceToNat, *]<;>with_reducible exact rfl));(focus(simp(disch:=(first|omega|(simp only[push_cast];first|done|omega))) only[push_cast,↓reduceIte,Nat.reduceEqDiff,Nat.reduceBEq,Nat.reduceAdd,Nat.reduceSub,Int.reduceToNat, *]<;>with_reducible exact rfl)))
attribute[push_cast]
 List.take_length
theorem aiG {p:List LS} {q:LS} {x y z:Int} (h:(blL p q x y z).length=0):blC p q x y z=[]∧(blB p q x y z=true→p=[]):=by
 unfold blL at h;unfold blC;split at h
 ·rename_i hB
  have hp:p.length=0:=by
   rcases Nat.eq_zero_or_pos p.length with h0|h0
   ·exact h0
   ·have hall:(p.all fun w=>lQ w q x y)=true:=by unfold blB at hB;rw[Bool.and_eq_true]at hB;exact hB.2
    have:=aeC (q:=q) (x:=x) (y:=y) (p:=p) (k:=p.length) (fun j hj=>by rw[List.getElem?_eq_getElem hj,Option.getD_some];exact List.all_eq_true.1 hall _ (List.getElem_mem hj)) h0
    omega
  rw[if_pos hB,List.eq_nil_of_length_eq_zero hp];exact⟨rfl,fun _=>rfl⟩
 ·rename_i hB
  rw[if_neg hB];exact⟨rfl,fun h=>absurd h hB⟩
theorem amz {p:List LS} {q:LS} {x y z:Int} (h:p.length≤6):(blL p q x y z).length≤360∧(blC p q x y z).length≤6:=by
 unfold blL blC;split
 ·have:=tO p q x y p.length
  rw[uh];omega
 ·simp
end
end Go.Proofs.Ytmmafcjjlbgnkaa
