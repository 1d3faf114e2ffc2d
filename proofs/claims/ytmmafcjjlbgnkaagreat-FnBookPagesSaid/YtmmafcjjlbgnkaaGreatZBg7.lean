/- What the proof rests on, part 7: contracts of functions. No condition beyond what each states. -/
import Derived.Test.YtmmafcjjlbgnkaaGreatZBg6
namespace Go.Proofs.YtmmafcjjlbgnkaaGreat
open Go.RowKit
set_option linter.all false
set_option maxHeartbeats 32000000
noncomputable section
abbrev LS:=List ByteArray
abbrev dSS:Dec (List LS):=dL 1 dSs
section
variable {α β:Type} {n sz sz' f i:Nat} {ob:bC} {k k' fr:Bool} {l:List LS}
theorem aqY {g:LS→β} (h:i<l.length):Option.map g l[i]?=some (g ((l[i]?).getD [])):=by simp[h]
theorem jK {F:PV→Option PV} {g g':α→PV} (h:∀x,F (g x)=some (g' x)):∀{l:List α},(l.map g).mapM F=some (l.map g')
 |[]=>rfl
 |x::l=>by rw[List.map_cons,List.mapM_cons,h x,jK h];rfl
theorem aeM {m:Nat} {p:LS}:reify false m ob (f+2) (.lst k sz (p.map fun s=> .val (.string s)))=some (.lst false sz (p.map fun s=> .val (.string s))):=mJ
theorem sJ {m:Nat} {p:LS}:reify fr m ob (f+2) (.lst true sz (p.map fun s=> .val (.string s)))=some (.lst fr sz (p.map fun s=> .val (.string s))):=by
 cases fr
 ·exact mJ
 ·exact sD
theorem abZ:reify false n ob (f+3) (.lst k sz (l.map fun p=> .lst k' sz' (p.map fun s=> .val (.string s))))=some (.lst false sz (l.map fun p=> .lst false sz' (p.map fun s=> .val (.string s)))):=by show(if false=true∧k=false∧(l.map fun p=>PV.lst k' sz' (p.map fun s=>PV.val (.string s)))≠[]then none else((l.map fun p=>PV.lst k' sz' (p.map fun s=>PV.val (.string s))).mapM (reify false n ob (f+2))).map (PV.lst false sz))=_;rw[jK (g':=fun p=>PV.lst false sz' (p.map fun s=>PV.val (.string s))) fun p=>aeM];simp
theorem aax:reify true n ob (f+3) (.lst true sz (l.map fun p=> .lst true sz' (p.map fun s=> .val (.string s))))=some (.lst true sz (l.map fun p=> .lst true sz' (p.map fun s=> .val (.string s)))):=by show(if true=true∧true=false∧(l.map fun p=>PV.lst true sz' (p.map fun s=>PV.val (.string s)))≠[]then none else((l.map fun p=>PV.lst true sz' (p.map fun s=>PV.val (.string s))).mapM (reify true n ob (f+2))).map (PV.lst true sz))=_;rw[jK (g':=fun p=>PV.lst true sz' (p.map fun s=>PV.val (.string s))) fun p=>sJ];simp
theorem aeI {m T:Nat} (hm:m=l.length):p9 fr (f+2) ob sz 0 m (some (T,sz,l.map fun p=> .lst true sz' (p.map fun s=> .val (.string s))))=some (.lst fr sz (l.map fun p=> .lst fr sz' (p.map fun s=> .val (.string s)))):=by
 subst hm;have e:((l.map fun p=>PV.lst true sz' (p.map fun s=>PV.val (.string s))).drop 0).take l.length=l.map fun p=>PV.lst true sz' (p.map fun s=>PV.val (.string s)):=by rw[List.drop_zero,List.take_of_length_le (by simp)]
 have e2:=jK (l:=l) (F:=reify fr 0 ob (f+2)) (g:=fun p=>PV.lst true sz' (p.map fun s=>PV.val (.string s))) (g':=fun p=>PV.lst fr sz' (p.map fun s=>PV.val (.string s))) fun p=>sJ;simp only[p9,e,e2,Nat.zero_add,List.length_map,Nat.le_refl,and_self,if_true,Option.map_some]
end
attribute[push_cast]
 aqY abZ aax aeI
theorem aaw {α:Type} {d:α} {xs ys:List α} (hl:xs.length=ys.length) (h:∀j,j<xs.length→xs[j]?.getD d=ys[j]?.getD d):xs=ys:=by apply List.ext_getElem hl;intro i h1 h2;have:=h i h1;simpa [h1,h2]using this
abbrev ow (l:LS):Prop:=l.length≤1048576∧∀i:Nat,(l[i]?.getD .empty).size≤1048576
instance (l:LS):Decidable (ow l):=Classical.propDecidable _
theorem jy {α:Type} {d:α} {p:α→Bool} {l:List α} {k:Nat} (h:k<l.length) (hb:p (l[k]?.getD d)=false):l.all p=false:=by rw[List.all_eq_false];exact⟨l[k],List.getElem_mem h,by simp[h]at hb;simp[hb]⟩
theorem fZ {α:Type} {d:α} {p:α→Bool} {l:List α} (h:∀j,j<l.length→p (l[j]?.getD d)=true):l.all p=true:=by rw[List.all_eq_true];intro x hx;obtain⟨j,hj,rfl⟩:=List.getElem_of_mem hx;simpa [hj]using h j hj
def qL (c:Int):Bool:=inB c 97 122
def abm (c:Int):Bool:=inB c 48 57
def abV (s:ByteArray) (k:Nat):Bool:=decide (0<k)&&abm (at8 s (k-1))
def tY (s:ByteArray) (k:Nat):Bool:=qL (at8 s k)||(abm (at8 s k)&& !abV s k)||(decide (at8 s k=46)&&(decide (k=0)||decide (k+1=s.size)))
def anyS (s:ByteArray) (k:Nat):Bool:=(List.range k).any fun j=>qL (at8 s j)
theorem zh (s:ByteArray) (k:Nat):anyS s (k+1)=(anyS s k||qL (at8 s k)):=by simp[anyS,List.range_succ,List.any_append]
def zw (s:ByteArray):Bool:=(List.range s.size).all (tY s)&&(anyS s s.size&&decide (s.size≤12))
theorem afz {s:ByteArray} {k:Nat} (h:k<s.size) (hb:tY s k=false):zw s=false:=by
 have:(List.range s.size).all (tY s)=false:=by rw[List.all_eq_false];exact⟨k,List.mem_range.2 h,by simp[hb]⟩
 simp[zw,this]
theorem ajG {s:ByteArray} (h:∀j,j<s.size→tY s j=true):zw s=(anyS s s.size&&decide (s.size≤12)):=by
 have:(List.range s.size).all (tY s)=true:=by rw[List.all_eq_true];exact fun k hk=>h k (List.mem_range.1 hk)
 simp[zw,this]
def vG:Fun:=F1 dS fun s=>if s.size≤1099511627776 then some (bv (zw s))else none
theorem qp {s:ByteArray} (h:s.size≤1099511627776):vG [.val (.string s)]=some (.val (.bool (zw s))):=
 (iA (A:=dS) s).trans (if_pos h)
theorem jM {s:ByteArray} {k:Nat}:tY s k=true↔(97≤at8 s k∧at8 s k≤122)∨(48≤at8 s k∧at8 s k≤57∧abV s k=false)∨(at8 s k=46∧(k=0∨k+1=s.size)):=by simp[tY,qL,abm,inB,or_assoc,and_assoc]
theorem acG {c:Int} (h:c<97∨122<c):qL c=false:=Bool.eq_false_iff.2 fun h2=>by have:=av.1 h2;omega
theorem al0 {c:Int} (h:c<48∨57<c):abm c=false:=Bool.eq_false_iff.2 fun h2=>by have:=av.1 h2;omega
structure adA (s:ByteArray) (k:Nat) (n:Int):Prop where
 kk:k≤s.size
 n0:0≤n
 n1:n≤k
 all:∀j,j<k→tY s j=true
 any:decide (0<n)=anyS s k
theorem adA.zero (s:ByteArray):adA s 0 0:=⟨Nat.zero_le _,by omega,by omega,fun j hj=>by omega,rfl⟩
theorem adA.letter {s:ByteArray} {k:Nat} {n:Int} (h:adA s k n) (hk:k<s.size) (hs:qL (at8 s k)=true):adA s (k+1) (n+1):=
 ⟨by omega,by have:=h.n0;omega,by have:=h.n1;omega,fun j hj=>by
   by_cases h1:j<k
   ·exact h.all j h1
   ·have:j=k:=by omega
    subst this;simp[tY,hs],by
   rw[zh,hs,Bool.or_true];have:=h.n0;simp;omega⟩
theorem adA.other {s:ByteArray} {k:Nat} {n:Int} (h:adA s k n) (hk:k<s.size) (hp:tY s k=true) (hs:qL (at8 s k)=false):adA s (k+1) n:=
 ⟨by omega,h.n0,by have:=h.n1;omega,fun j hj=>by
   by_cases h1:j<k
   ·exact h.all j h1
   ·have:j=k:=by omega
    subst this;exact hp,by rw[zh,hs,Bool.or_false];exact h.any⟩
theorem adA.done {s:ByteArray} {k:Nat} {n:Int} (h:adA s k n) (hk:¬k<s.size):zw s=(decide (0<n)&&decide (s.size≤12)):=by
 have hk2:=h.kk;have:k=s.size:=by omega
 subst this;rw[ajG h.all,h.any]
theorem pz (s:ByteArray) (k:Nat):abV s (k+1)=abm (at8 s k):=by simp[abV]
theorem je:Sound Tryz.prog 75 vG:=by
 refine au mixed gV Tryz.func75 rfl 57 rfl [.tmp 2] rfl (by kernel_rfl) fun ps r hr=>?_;obtain⟨s,rfl,hq⟩:=bR hr;clear hr;split at hq
 case isFalse=>cases hq
 case isTrue hlen=>
 cases hq;refine⟨by simp,?_⟩;simp only[dIs,dUs,dSs,dx,dA,dz,dF,aS,dD,aT,aU,aR,aV];(refine wlkX ?_;intros);refine aG (α:=Nat×Int) mixed (fun k=>[(0,sv s),(3,iv k.2),(4,bv (abV s k.1)),(5,iv k.1)]) (fun _=>[]) (fun _=>0)
  (fun k=>adA s k.1 k.2) (fun k=>s.size-k.1) (by kernel_rfl) (0,0) (adA.zero s) ?_ trivial rfl ?_
 ·simp only[push_cast,↓reduceIte,Nat.reduceEqDiff,Nat.reduceBEq,Nat.reduceAdd,Nat.reduceSub,Int.reduceToNat]
  rfl
 ·rintro⟨k,n⟩ hi
  dsimp only at hi;have hk:=hi.kk;have hn0:=hi.n0;have hn1:=hi.n1;have hrk:=iM s k;generalize hd:abV s k=d
  repeat' (first|(with_reducible first|apply fM|apply bD|apply cK|apply cZ|apply fJ|apply l6|apply fq|apply fI|apply l7|apply fH|apply fE|apply lY|apply fB|apply fu|apply fK)|((with_reducible apply bg);(simp only[List.map_cons,List.map_nil]<;>exact rfl))|((with_reducible apply dh);(simp only[List.map_cons,List.map_nil]<;>exact rfl);decide+kernel)|((with_reducible apply fA);rfl)|((first|((with_reducible apply i_V);rfl;rfl;rfl)|((first|((with_reducible apply i_E);rfl)|((with_reducible apply i_S);rfl));first|rfl|(simp only[push_cast,↓reduceIte]))|((with_reducible apply lW);rfl;rfl)|((with_reducible apply lX);rfl;rfl;rfl)|(with_reducible first|apply lZ|apply dn));(simp(disch:=(first|omega|(simp only[push_cast];first|done|omega))) only[push_cast,↓reduceIte,Nat.reduceEqDiff,Nat.reduceBEq,Nat.reduceAdd,Nat.reduceSub,Int.reduceToNat, *]<;>with_reducible exact rfl);all_goals try(first|(with_reducible first|refine hyT ?_|refine hyF ?_|exact hyA|exact hyB)|(intro hX;first|(cases hX;done)|((try simp only[decide_eq_true_eq,decide_eq_false_iff_not,Bool.not_eq_true',Bool.not_eq_false']at hX);(try have hXb:=av.1 hX))))))
  all_goals try(refine fnG ?_;try with_reducible exact trivial)
  all_goals try(exfalso;omega)
  all_goals(first
   |(rw[afz (k:=k) (by omega) (Bool.eq_false_iff.2 fun h=>by rcases jM.1 h with h|h|h<;>(first|omega|(simp_all;done)|(simp_all;omega)))];done)
   |exact⟨(k+1,n+1),hi.letter (by omega) (av.2 ⟨by omega,by omega⟩),by dsimp only;omega,by(have hdg:=@al0 (at8 s k) (by omega);simp only[push_cast,↓reduceIte,Nat.reduceEqDiff,Nat.reduceBEq,Nat.reduceAdd,Nat.reduceSub,Int.reduceToNat,pz,hdg]),trivial,rfl⟩
   |exact⟨(k+1,n),hi.other (by omega) (jM.2 (.inr (.inr ⟨by omega,by omega⟩))) (acG (by omega)),by dsimp only;omega,by(have hdg:=@al0 (at8 s k) (by omega);simp only[push_cast,↓reduceIte,Nat.reduceEqDiff,Nat.reduceBEq,Nat.reduceAdd,Nat.reduceSub,Int.reduceToNat,pz,hdg];try exact congrArg (fun z=>PV.val (Value.int .i64 z)) (by omega)),trivial,rfl⟩
   |exact⟨(k+1,n),hi.other (by omega) (jM.2 (.inr (.inl ⟨by omega,by omega,by simp_all⟩))) (acG (by omega)),by dsimp only;omega,by(have hdg:abm (at8 s k)=true:=av.2 ⟨by omega,by omega⟩;simp only[push_cast,↓reduceIte,Nat.reduceEqDiff,Nat.reduceBEq,Nat.reduceAdd,Nat.reduceSub,Int.reduceToNat,pz,hdg]),trivial,rfl⟩
   |(rw[hi.done (by omega)];simp_all;done)
   |(rw[hi.done (by omega)];simp_all;omega))
def aeh:Fun:=F1 dU fun n=>some (bv (inB n 48 57))
theorem acs (n:Int):aeh [.val (.int .u8 n)]=some (.val (.bool (inB n 48 57))):=rfl
theorem u6:Sound Tryz.prog 86 aeh:=by
 refine au mixed gV Tryz.func86 rfl 9 rfl [.tmp 2] rfl (by kernel_rfl) fun ps r hr=>?_;obtain⟨n,rfl,hr⟩:=bR hr;cases hr;refine⟨by simp,?_⟩;simp only[dIs,dUs,dSs,dx,dA,dz,dF,aS,dD,aT,aU,aR,aV];(refine wlkX6 ?_ ?_ ?_ ?_ ?_ ?_<;>intros<;>try with_reducible exact trivial);all_goals(refine fnG ?_;try with_reducible exact trivial)
 all_goals(first|(simp_all [inB];done)|(simp_all [inB];omega))
def GPt:Ctx:={fn:=aY [(85,kM),(86,aeh)],io:=aY []}
theorem ara:ak Tryz.prog GPt:=okΓ (fC Tryz.func85 pG (fC Tryz.func86 u6 aj)) aj
def as4:=ah (Γ:=GPt) (f:=85) (φ:=kM) rfl
def atT:=ah (Γ:=GPt) (f:=86) (φ:=aeh) rfl
theorem mY:Sound Tryz.prog 67 vG:=by
 refine au mixed ara Tryz.func67 rfl 51 rfl [.tmp 2] rfl (by kernel_rfl) fun ps r hr=>?_;obtain⟨s,rfl,hq⟩:=bR hr;clear hr;split at hq
 case isFalse=>cases hq
 case isTrue hlen=>
 cases hq;refine⟨by simp,?_⟩;simp only[dIs,dUs,dSs,dx,dA,dz,dF,aS,dD,aT,aU,aR,aV];have gpt_c85:=as4;have gpt_c86:=atT;have ap:=o9;have ap2:=acs;(refine wlkX ?_;intros);refine aG (α:=Nat×Int) mixed (fun k=>[(0,sv s),(3,iv k.2),(7,iv s.size),(8,iv k.1)]) (fun _=>[]) (fun _=>0)
  (fun k=>adA s k.1 k.2) (fun k=>s.size-k.1) (by kernel_rfl) (0,0) (adA.zero s) ?_ trivial rfl ?_
 ·simp only[push_cast,↓reduceIte,Nat.reduceEqDiff,Nat.reduceBEq,Nat.reduceAdd,Nat.reduceSub,Int.reduceToNat]
 ·rintro⟨k,n⟩ hi
  dsimp only at hi;have hk:=hi.kk;have hn0:=hi.n0;have hn1:=hi.n1;have hrk:=iM s k;have hpd:abV s k=(decide (0<k)&&inB (at8 s (k-1)) 48 57):=rfl;have hsm:inB (at8 s k) 97 122=false→(at8 s k<97∨122<at8 s k):=fun h=>by
   by_cases hh:97≤at8 s k∧at8 s k≤122
   ·rw[av.2 hh]at h;cases h
   ·omega
  have hdgk:inB (at8 s k) 48 57=false→(at8 s k<48∨57<at8 s k):=fun h=>by
   by_cases hh:48≤at8 s k∧at8 s k≤57
   ·rw[av.2 hh]at h;cases h
   ·omega
  have hpd:=Lib.hid hpd;have hsm:=Lib.hid hsm;have hdgk:=Lib.hid hdgk
  repeat' (first|(with_reducible first|apply fM|apply bD|apply cK|apply cZ|apply fJ|apply l6|apply fq|apply fI|apply l7|apply fH|apply fE|apply lY|apply fB|apply fu|apply fK)|((with_reducible apply bg);(simp only[List.map_cons,List.map_nil]<;>exact rfl))|((with_reducible apply dh);(simp only[List.map_cons,List.map_nil]<;>exact rfl);decide+kernel)|((with_reducible apply fA);rfl)|((first|((with_reducible apply i_V);rfl;rfl;rfl)|((first|((with_reducible apply i_E);rfl)|((with_reducible apply i_S);rfl));first|rfl|(simp only[push_cast,↓reduceIte]))|((with_reducible apply lW);rfl;rfl)|((with_reducible apply lX);rfl;rfl;rfl)|(with_reducible first|apply lZ|apply dn));(simp(disch:=(first|omega|(simp only[push_cast];first|done|omega))) only[push_cast,↓reduceIte,Nat.reduceEqDiff,Nat.reduceBEq,Nat.reduceAdd,Nat.reduceSub,Int.reduceToNat, *]<;>with_reducible exact rfl);all_goals try(first|(with_reducible first|refine hyT ?_|refine hyF ?_|exact hyA|exact hyB)|(intro hX;first|(cases hX;done)|((try simp only[decide_eq_true_eq,decide_eq_false_iff_not,Bool.not_eq_true',Bool.not_eq_false']at hX);(try have hXb:=av.1 hX))))))
  all_goals try(refine fnG ?_;try with_reducible exact trivial)
  all_goals try(exfalso;omega)
  all_goals(have hpd1:=hpd.out;have hsm1:=hsm.out;have hdgk1:=hdgk.out)
  all_goals(first
   |(rw[afz (k:=k) (by omega) (Bool.eq_false_iff.2 fun h=>by rcases jM.1 h with h|h|h<;>(first|omega|(simp_all;done)|(simp_all;omega)))];done)
   |exact⟨(k+1,n+1),hi.letter (by omega) (by assumption),by dsimp only;omega,by simp only[push_cast,↓reduceIte,Nat.reduceEqDiff,Nat.reduceBEq,Nat.reduceAdd,Nat.reduceSub,Int.reduceToNat],trivial,rfl⟩
   |exact⟨(k+1,n),hi.other (by omega) (jM.2 (.inr (.inr ⟨by omega,by omega⟩))) (by assumption),by dsimp only;omega,by(simp only[push_cast,↓reduceIte,Nat.reduceEqDiff,Nat.reduceBEq,Nat.reduceAdd,Nat.reduceSub,Int.reduceToNat];try exact congrArg (fun z=>PV.val (Value.int .i64 z)) (by omega)),trivial,rfl⟩
   |exact⟨(k+1,n),hi.other (by omega) (jM.2 (.inr (.inl ⟨by omega,by omega,by simp_all⟩))) (by assumption),by dsimp only;omega,by simp only[push_cast,↓reduceIte,Nat.reduceEqDiff,Nat.reduceBEq,Nat.reduceAdd,Nat.reduceSub,Int.reduceToNat],trivial,rfl⟩
   |(rw[hi.done (by omega)];simp_all;done)
   |(rw[hi.done (by omega)];simp_all;omega))
def bJ (l:LS):Bool:=decide (l.length≤12)&&l.all dM
def jd:Fun:=F1 dSs fun l=>if ow l then some (bv (bJ l))else none
theorem lJ {l:LS} (h:ow l):jd [.lst false 1 (l.map fun s=> .val (.string s))]=some (.val (.bool (bJ l))):=
 (iA (A:=dSs) l).trans (if_pos h)
def ahH:Ctx:={fn:=aY [(74,gJ)],io:=aY []}
theorem aej:ak Tryz.prog ahH:=okΓ (fC Tryz.func74 fV aj) aj
def afm:=ah (Γ:=ahH) (f:=74) (φ:=gJ) rfl
theorem jE:Sound Tryz.prog 60 jd:=by
 refine au mixed aej Tryz.func60 rfl 19 rfl [.tmp 2] rfl (by kernel_rfl) fun ps r hr=>?_;obtain⟨l,rfl,hq⟩:=bR hr;clear hr;split at hq
 case isFalse=>cases hq
 case isTrue hok=>
 cases hq;obtain⟨hlen,hsz⟩:=hok;refine⟨by simp,?_⟩;simp only[dIs,dUs,dSs,dx,dA,dz,dF,aS,dD,aT,aU,aR,aV];have gswords_c74:=afm;(refine wlkX6 ?_ ?_ ?_ ?_ ?_ ?_<;>intros<;>try with_reducible exact trivial);refine aG (α:=Nat) mixed (fun k=>[(0,.lst false 1 (l.map fun s=> .val (.string s))),(3,iv k)]) (fun _=>[]) (fun _=>0)
  (fun k=>k≤l.length∧∀j,j<k→dM (l[j]?.getD .empty)=true) (fun k=>l.length-k) (by kernel_rfl) 0 ⟨Nat.zero_le _,fun j hj=>by omega⟩ ?_ trivial rfl ?_
 ·simp only[push_cast,↓reduceIte,Nat.reduceEqDiff,Nat.reduceBEq,Nat.reduceAdd,Nat.reduceSub,Int.reduceToNat]
 ·intro k ⟨hk,hok⟩
  have ap:=@iJ (l[k]?.getD .empty) (by have:=hsz k;omega);clear hsz;(refine wlkX6 ?_ ?_ ?_ ?_ ?_ ?_<;>intros<;>try with_reducible exact trivial);all_goals try(refine fnG ?_;try with_reducible exact trivial)
  ·rw[show bJ l=false from by(unfold bJ;rw[jy (d:=.empty) (k:=k) (by omega) (by simp_all),Bool.and_false])]
  ·refine⟨k+1,⟨by omega,fun j hj=>?_⟩,by dsimp only;omega,by simp only[push_cast,↓reduceIte,Nat.reduceEqDiff,Nat.reduceBEq,Nat.reduceAdd,Nat.reduceSub,Int.reduceToNat],trivial,rfl⟩
   by_cases h1:j<k
   ·exact hok j h1
   ·have:j=k:=by omega
    subst this;simp_all
  ·rw[show bJ l=decide (l.length≤12)from by(unfold bJ;rw[fZ (d:=.empty) fun j hj=>hok j (by omega),Bool.and_true])]
   simp;omega
def ahV:Ctx:={fn:=aY [(66,gJ)],io:=aY []}
theorem aeT:ak Tryz.prog ahV:=okΓ (fC Tryz.func66 gu aj) aj
def aeP:=ah (Γ:=ahV) (f:=66) (φ:=gJ) rfl
theorem jO:Sound Tryz.prog 49 jd:=by
 refine au mixed aeT Tryz.func49 rfl 18 rfl [.tmp 2] rfl (by kernel_rfl) fun ps r hr=>?_;obtain⟨l,rfl,hq⟩:=bR hr;clear hr;split at hq
 case isFalse=>cases hq
 case isTrue hok=>
 cases hq;obtain⟨hlen,hsz⟩:=hok;refine⟨by simp,?_⟩;simp only[dIs,dUs,dSs,dx,dA,dz,dF,aS,dD,aT,aU,aR,aV];have giwords_c66:=aeP;(refine wlkX6 ?_ ?_ ?_ ?_ ?_ ?_<;>intros<;>try with_reducible exact trivial);refine aG (α:=Nat) mixed (fun k=>[(0,.lst false 1 (l.map fun s=> .val (.string s))),(5,.lst false 1 (l.map fun s=> .val (.string s))),(6,iv l.length),(7,iv k)]) (fun _=>[]) (fun _=>0)
  (fun k=>k≤l.length∧∀j,j<k→dM (l[j]?.getD .empty)=true) (fun k=>l.length-k) (by kernel_rfl) 0 ⟨Nat.zero_le _,fun j hj=>by omega⟩ ?_ trivial rfl ?_
 ·simp only[push_cast,↓reduceIte,Nat.reduceEqDiff,Nat.reduceBEq,Nat.reduceAdd,Nat.reduceSub,Int.reduceToNat]
 ·intro k ⟨hk,hok⟩
  have ap:=@iJ (l[k]?.getD .empty) (by have:=hsz k;omega);clear hsz;(refine wlkX6 ?_ ?_ ?_ ?_ ?_ ?_<;>intros<;>try with_reducible exact trivial);all_goals try(refine fnG ?_;try with_reducible exact trivial)
  ·rw[show bJ l=false from by(unfold bJ;rw[jy (d:=.empty) (k:=k) (by omega) (by simp_all),Bool.and_false])]
  ·refine⟨k+1,⟨by omega,fun j hj=>?_⟩,by dsimp only;omega,by simp only[push_cast,↓reduceIte,Nat.reduceEqDiff,Nat.reduceBEq,Nat.reduceAdd,Nat.reduceSub,Int.reduceToNat],trivial,rfl⟩
   by_cases h1:j<k
   ·exact hok j h1
   ·have:j=k:=by omega
    subst this;simp_all
  ·rw[show bJ l=decide (l.length≤12)from by(unfold bJ;rw[fZ (d:=.empty) fun j hj=>hok j (by omega),Bool.and_true])]
   simp;omega
def bE (l:LS):Bool:=decide (l.length≤20)&&l.all zw
def gQ:Fun:=F1 dSs fun l=>if ow l then some (bv (bE l))else none
theorem iG {l:LS} (h:ow l):gQ [.lst false 1 (l.map fun s=> .val (.string s))]=some (.val (.bool (bE l))):=
 (iA (A:=dSs) l).trans (if_pos h)
def aln:Ctx:={fn:=aY [(75,vG)],io:=aY []}
theorem afT:ak Tryz.prog aln:=okΓ (fC Tryz.func75 je aj) aj
def aip:=ah (Γ:=aln) (f:=75) (φ:=vG) rfl
theorem dP:Sound Tryz.prog 61 gQ:=by
 refine au mixed afT Tryz.func61 rfl 19 rfl [.tmp 2] rfl (by kernel_rfl) fun ps r hr=>?_;obtain⟨l,rfl,hq⟩:=bR hr;clear hr;split at hq
 case isFalse=>cases hq
 case isTrue hok=>
 cases hq;obtain⟨hlen,hsz⟩:=hok;refine⟨by simp,?_⟩;simp only[dIs,dUs,dSs,dx,dA,dz,dF,aS,dD,aT,aU,aR,aV];have gspats_c75:=aip;(refine wlkX6 ?_ ?_ ?_ ?_ ?_ ?_<;>intros<;>try with_reducible exact trivial);refine aG (α:=Nat) mixed (fun k=>[(0,.lst false 1 (l.map fun s=> .val (.string s))),(3,iv k)]) (fun _=>[]) (fun _=>0)
  (fun k=>k≤l.length∧∀j,j<k→zw (l[j]?.getD .empty)=true) (fun k=>l.length-k) (by kernel_rfl) 0 ⟨Nat.zero_le _,fun j hj=>by omega⟩ ?_ trivial rfl ?_
 ·simp only[push_cast,↓reduceIte,Nat.reduceEqDiff,Nat.reduceBEq,Nat.reduceAdd,Nat.reduceSub,Int.reduceToNat]
 ·intro k ⟨hk,hok⟩
  have ap:=@qp (l[k]?.getD .empty) (by have:=hsz k;omega);clear hsz;(refine wlkX6 ?_ ?_ ?_ ?_ ?_ ?_<;>intros<;>try with_reducible exact trivial);all_goals try(refine fnG ?_;try with_reducible exact trivial)
  ·rw[show bE l=false from by(unfold bE;rw[jy (d:=.empty) (k:=k) (by omega) (by simp_all),Bool.and_false])]
  ·refine⟨k+1,⟨by omega,fun j hj=>?_⟩,by dsimp only;omega,by simp only[push_cast,↓reduceIte,Nat.reduceEqDiff,Nat.reduceBEq,Nat.reduceAdd,Nat.reduceSub,Int.reduceToNat],trivial,rfl⟩
   by_cases h1:j<k
   ·exact hok j h1
   ·have:j=k:=by omega
    subst this;simp_all
  ·rw[show bE l=decide (l.length≤20)from by(unfold bE;rw[fZ (d:=.empty) fun j hj=>hok j (by omega),Bool.and_true])]
   simp;omega
def alf:Ctx:={fn:=aY [(67,vG)],io:=aY []}
theorem agl:ak Tryz.prog alf:=okΓ (fC Tryz.func67 mY aj) aj
def aio:=ah (Γ:=alf) (f:=67) (φ:=vG) rfl
theorem dO:Sound Tryz.prog 50 gQ:=by
 refine au mixed agl Tryz.func50 rfl 18 rfl [.tmp 2] rfl (by kernel_rfl) fun ps r hr=>?_;obtain⟨l,rfl,hq⟩:=bR hr;clear hr;split at hq
 case isFalse=>cases hq
 case isTrue hok=>
 cases hq;obtain⟨hlen,hsz⟩:=hok;refine⟨by simp,?_⟩;simp only[dIs,dUs,dSs,dx,dA,dz,dF,aS,dD,aT,aU,aR,aV];have gipats_c67:=aio;(refine wlkX6 ?_ ?_ ?_ ?_ ?_ ?_<;>intros<;>try with_reducible exact trivial);refine aG (α:=Nat) mixed (fun k=>[(0,.lst false 1 (l.map fun s=> .val (.string s))),(5,.lst false 1 (l.map fun s=> .val (.string s))),(6,iv l.length),(7,iv k)]) (fun _=>[]) (fun _=>0)
  (fun k=>k≤l.length∧∀j,j<k→zw (l[j]?.getD .empty)=true) (fun k=>l.length-k) (by kernel_rfl) 0 ⟨Nat.zero_le _,fun j hj=>by omega⟩ ?_ trivial rfl ?_
 ·simp only[push_cast,↓reduceIte,Nat.reduceEqDiff,Nat.reduceBEq,Nat.reduceAdd,Nat.reduceSub,Int.reduceToNat]
 ·intro k ⟨hk,hok⟩
  have ap:=@qp (l[k]?.getD .empty) (by have:=hsz k;omega);clear hsz;(refine wlkX6 ?_ ?_ ?_ ?_ ?_ ?_<;>intros<;>try with_reducible exact trivial);all_goals try(refine fnG ?_;try with_reducible exact trivial)
  ·rw[show bE l=false from by(unfold bE;rw[jy (d:=.empty) (k:=k) (by omega) (by simp_all),Bool.and_false])]
  ·refine⟨k+1,⟨by omega,fun j hj=>?_⟩,by dsimp only;omega,by simp only[push_cast,↓reduceIte,Nat.reduceEqDiff,Nat.reduceBEq,Nat.reduceAdd,Nat.reduceSub,Int.reduceToNat],trivial,rfl⟩
   by_cases h1:j<k
   ·exact hok j h1
   ·have:j=k:=by omega
    subst this;simp_all
  ·rw[show bE l=decide (l.length≤20)from by(unfold bE;rw[fZ (d:=.empty) fun j hj=>hok j (by omega),Bool.and_true])]
   simp;omega
abbrev BK:=List LS×LS×Int×Int×Int
abbrev tq:Dec BK:=dA5 dSS dSs dI dI dI
def asK (w:LS):Bool:=bJ w&& !decide (w.length=0)
def iW (p:List LS) (q:LS) (x y z:Int):Bool:=p.all asK&&(decide (p.length≤6)&&(bE q&&(inB x 0 1000&&(inB y 0 10000&&inB z 1 30))))
abbrev aeW (p:List LS) (q:LS):Prop:=p.length≤1048576∧(∀i:Nat,ow (p[i]?.getD []))∧ow q
instance (p:List LS) (q:LS):Decidable (aeW p q):=Classical.propDecidable _
def mZ:Fun:=F1 tq fun b=>if aeW b.1 b.2.1 then some (bv (iW b.1 b.2.1 b.2.2.1 b.2.2.2.1 b.2.2.2.2))else none
theorem uD {p:List LS} {q:LS} {x y z:Int} (h:aeW p q):mZ [.agg [.lst false 1 (p.map fun p=> .lst false 1 (p.map fun s=> .val (.string s))),.lst false 1 (q.map fun s=> .val (.string s)),.val (.int .i64 x),.val (.int .i64 y),.val (.int .i64 z)]]=some (.val (.bool (iW p q x y z))):=
 (iA (A:=tq) (p,q,x,y,z)).trans (if_pos h)
def nk:Fun:=F1 dI fun n=>some (bv (inB n 0 10000))
theorem lI (n:Int):nk [.val (.int .i64 n)]=some (.val (.bool (inB n 0 10000))):=rfl
def GBd:Ctx:={fn:=aY [(43,φIn)],io:=aY []}
theorem arv:ak Tryz.prog GBd:=okΓ (fC Tryz.func43 pO aj) aj
def atd:=ah (Γ:=GBd) (f:=43) (φ:=φIn) rfl
theorem nZ:Sound Tryz.prog 51 nk:=by refine au mixed arv Tryz.func51 rfl 5 rfl [.tmp 2] rfl (by kernel_rfl) fun ps r hr=>?_;obtain⟨n,rfl,hr⟩:=bR hr;cases hr;refine⟨by simp,?_⟩;simp only[dIs,dUs,dSs,dx,dA,dz,dF,aS,dD,aT,aU,aR,aV];have gbd_c43:=atd;have ap:=bL;(refine wlkX ?_;intros);all_goals(exact fnF)
def GKs:Ctx:={fn:=aY [(60,jd),(61,gQ),(48,φIn)],io:=aY []}
theorem arp:ak Tryz.prog GKs:=okΓ (fC Tryz.func60 jE (fC Tryz.func61 dP (fC Tryz.func48 iq aj))) aj
def ard:=ah (Γ:=GKs) (f:=60) (φ:=jd) rfl
def aqM:=ah (Γ:=GKs) (f:=61) (φ:=gQ) rfl
def auf:=ah (Γ:=GKs) (f:=48) (φ:=φIn) rfl
theorem qc:Sound Tryz.prog 45 mZ:=by
 refine au mixed arp Tryz.func45 rfl 51 rfl [.tmp 2] rfl (by kernel_rfl) fun ps r hr=>?_;obtain⟨⟨p,q,x,y,z⟩,rfl,hq⟩:=bR hr;clear hr;split at hq
 case isFalse=>cases hq
 case isTrue hok=>
 cases hq;dsimp only at hok;obtain⟨hlen,hall,hoq⟩:=hok;have ap2:=iG hoq;clear hoq;refine⟨by simp,?_⟩;simp only[dIs,dUs,dSs,dx,dA,dz,dF,aS,dD,aT,aU,aR,aV];have gks_c60:=ard;have gks_c61:=aqM;have gks_c48:=auf;have ap3:=bL;have ap4:=lI;(refine wlkX6 ?_ ?_ ?_ ?_ ?_ ?_<;>intros<;>try with_reducible exact trivial);refine aG (α:=Nat) mixed (fun k=>[(1,.own 0 5 0 0),(3,iv k)]) (fun _=>[(0,26,5,[.agg [.lst false 1 (p.map fun p=> .lst false 1 (p.map fun s=> .val (.string s))),.lst false 1 (q.map fun s=> .val (.string s)),.val (.int .i64 x),.val (.int .i64 y),.val (.int .i64 z)]])]) (fun _=>1)
  (fun k=>k≤p.length∧∀j,j<k→asK (p[j]?.getD [])=true) (fun k=>p.length-k) (by kernel_rfl) 0 ⟨Nat.zero_le _,fun j hj=>by omega⟩ ?_ ?_ ?_ ?_
 ·simp only[push_cast,↓reduceIte,Nat.reduceEqDiff,Nat.reduceBEq,Nat.reduceAdd,Nat.reduceSub,Int.reduceToNat]
 ·simp only[push_cast,↓reduceIte,Nat.reduceEqDiff,Nat.reduceBEq,Nat.reduceAdd,Nat.reduceSub,Int.reduceToNat]
 ·simp only[push_cast,↓reduceIte,Nat.reduceEqDiff,Nat.reduceBEq,Nat.reduceAdd,Nat.reduceSub,Int.reduceToNat]
 ·intro k ⟨hk,hok⟩
  have ap:=lJ (hall k);have hpl:=(hall k).1;clear hall;have hpb:asK (p[k]?.getD [])=(bJ (p[k]?.getD [])&& !decide ((p[k]?.getD []).length=0)):=rfl;have hpb:=Lib.hid hpb;have hok:=Lib.hid hok
  repeat' (first|(with_reducible first|apply fM|apply bD|apply cK|apply cZ|apply fJ|apply l6|apply fq|apply fI|apply l7|apply fH|apply fE|apply lY|apply fB|apply fu|apply fK)|((with_reducible apply bg);(simp only[List.map_cons,List.map_nil]<;>exact rfl))|((with_reducible apply dh);(simp only[List.map_cons,List.map_nil]<;>exact rfl);decide+kernel)|((with_reducible apply fA);rfl)|((first|((with_reducible apply i_V);rfl;rfl;rfl)|((first|((with_reducible apply i_E);rfl)|((with_reducible apply i_S);rfl));first|rfl|(simp only[push_cast,↓reduceIte]))|((with_reducible apply lW);rfl;rfl)|((with_reducible apply lX);rfl;rfl;rfl)|(with_reducible first|apply lZ|apply dn));(simp(disch:=(first|omega|(simp only[push_cast];first|done|omega))) only[push_cast,↓reduceIte,Nat.reduceEqDiff,Nat.reduceBEq,Nat.reduceAdd,Nat.reduceSub,Int.reduceToNat, *]<;>with_reducible exact rfl);all_goals try(first|(with_reducible first|refine hyT ?_|refine hyF ?_|exact hyA|exact hyB)|(intro hX;first|(cases hX;done)|((try simp only[decide_eq_true_eq,decide_eq_false_iff_not,Bool.not_eq_true',Bool.not_eq_false']at hX);(try have hXb:=av.1 hX))))))
  all_goals try(refine fnG ?_;try with_reducible exact trivial)
  all_goals try(exfalso;omega)
  all_goals have hpb1:=hpb.out
  all_goals(first
   |(rw[show iW p q x y z=false from by(unfold iW;rw[jy (d:=[]) (k:=k) (by omega) (by simp_all),Bool.false_and])];done)
   |(rw[show iW p q x y z=(decide (p.length≤6)&&(bE q&&(inB x 0 1000&&(inB y 0 10000&&inB z 1 30))))from by(unfold iW;rw[fZ (d:=[]) fun j hj=>hok.out j (by omega),Bool.true_and])];simp_all;done)
   |(rw[show iW p q x y z=(decide (p.length≤6)&&(bE q&&(inB x 0 1000&&(inB y 0 10000&&inB z 1 30))))from by(unfold iW;rw[fZ (d:=[]) fun j hj=>hok.out j (by omega),Bool.true_and])];simp_all;omega)
   |(refine⟨k+1,⟨by omega,fun j hj=>?_⟩,by dsimp only;omega,by simp only[push_cast,↓reduceIte,Nat.reduceEqDiff,Nat.reduceBEq,Nat.reduceAdd,Nat.reduceSub,Int.reduceToNat],by simp only[push_cast,↓reduceIte,Nat.reduceEqDiff,Nat.reduceBEq,Nat.reduceAdd,Nat.reduceSub,Int.reduceToNat],rfl⟩
     by_cases h1:j<k
     ·exact hok.out j h1
     ·have:j=k:=by omega
      subst this;simp_all;try omega))
def GKi:Ctx:={fn:=aY [(49,jd),(50,gQ),(43,φIn),(51,nk)],io:=aY []}
theorem asR:ak Tryz.prog GKi:=okΓ (fC Tryz.func49 jO (fC Tryz.func50 dO (fC Tryz.func43 pO (fC Tryz.func51 nZ aj)))) aj
def ark:=ah (Γ:=GKi) (f:=49) (φ:=jd) rfl
def aup:=ah (Γ:=GKi) (f:=50) (φ:=gQ) rfl
def ar7:=ah (Γ:=GKi) (f:=43) (φ:=φIn) rfl
def auI:=ah (Γ:=GKi) (f:=51) (φ:=nk) rfl
theorem p8:Sound Tryz.prog 27 mZ:=by
 refine au mixed asR Tryz.func27 rfl 45 rfl [.tmp 2] rfl (by kernel_rfl) fun ps r hr=>?_;obtain⟨⟨p,q,x,y,z⟩,rfl,hq⟩:=bR hr;clear hr;split at hq
 case isFalse=>cases hq
 case isTrue hok=>
 cases hq;dsimp only at hok;obtain⟨hlen,hall,hoq⟩:=hok;have ap2:=iG hoq;clear hoq;refine⟨by simp,?_⟩;simp only[dIs,dUs,dSs,dx,dA,dz,dF,aS,dD,aT,aU,aR,aV];have gki_c49:=ark;have gki_c50:=aup;have gki_c43:=ar7;have gki_c51:=auI;have ap3:=bL;have ap4:=lI;(refine wlkX6 ?_ ?_ ?_ ?_ ?_ ?_<;>intros<;>try with_reducible exact trivial);refine aG (α:=Nat) mixed (fun k=>[(1,.own 0 5 0 0),(6,.lst false 1 (p.map fun p=> .lst false 1 (p.map fun s=> .val (.string s)))),(7,iv p.length),(8,iv k)]) (fun _=>[(0,26,5,[.agg [.lst false 1 (p.map fun p=> .lst false 1 (p.map fun s=> .val (.string s))),.lst false 1 (q.map fun s=> .val (.string s)),.val (.int .i64 x),.val (.int .i64 y),.val (.int .i64 z)]])]) (fun _=>1)
  (fun k=>k≤p.length∧∀j,j<k→asK (p[j]?.getD [])=true) (fun k=>p.length-k) (by kernel_rfl) 0 ⟨Nat.zero_le _,fun j hj=>by omega⟩ ?_ ?_ ?_ ?_
 ·simp only[push_cast,↓reduceIte,Nat.reduceEqDiff,Nat.reduceBEq,Nat.reduceAdd,Nat.reduceSub,Int.reduceToNat]
 ·simp only[push_cast,↓reduceIte,Nat.reduceEqDiff,Nat.reduceBEq,Nat.reduceAdd,Nat.reduceSub,Int.reduceToNat]
 ·simp only[push_cast,↓reduceIte,Nat.reduceEqDiff,Nat.reduceBEq,Nat.reduceAdd,Nat.reduceSub,Int.reduceToNat]
 ·intro k ⟨hk,hok⟩
  have ap:=lJ (hall k);have hpl:=(hall k).1;clear hall;have hpb:asK (p[k]?.getD [])=(bJ (p[k]?.getD [])&& !decide ((p[k]?.getD []).length=0)):=rfl;have hpb:=Lib.hid hpb;have hok:=Lib.hid hok
  repeat' (first|(with_reducible first|apply fM|apply bD|apply cK|apply cZ|apply fJ|apply l6|apply fq|apply fI|apply l7|apply fH|apply fE|apply lY|apply fB|apply fu|apply fK)|((with_reducible apply bg);(simp only[List.map_cons,List.map_nil]<;>exact rfl))|((with_reducible apply dh);(simp only[List.map_cons,List.map_nil]<;>exact rfl);decide+kernel)|((with_reducible apply fA);rfl)|((first|((with_reducible apply i_V);rfl;rfl;rfl)|((first|((with_reducible apply i_E);rfl)|((with_reducible apply i_S);rfl));first|rfl|(simp only[push_cast,↓reduceIte]))|((with_reducible apply lW);rfl;rfl)|((with_reducible apply lX);rfl;rfl;rfl)|(with_reducible first|apply lZ|apply dn));(simp(disch:=(first|omega|(simp only[push_cast];first|done|omega))) only[push_cast,↓reduceIte,Nat.reduceEqDiff,Nat.reduceBEq,Nat.reduceAdd,Nat.reduceSub,Int.reduceToNat, *]<;>with_reducible exact rfl);all_goals try(first|(with_reducible first|refine hyT ?_|refine hyF ?_|exact hyA|exact hyB)|(intro hX;first|(cases hX;done)|((try simp only[decide_eq_true_eq,decide_eq_false_iff_not,Bool.not_eq_true',Bool.not_eq_false']at hX);(try have hXb:=av.1 hX))))))
  all_goals try(refine fnG ?_;try with_reducible exact trivial)
  all_goals try(exfalso;omega)
  all_goals have hpb1:=hpb.out
  all_goals(first
   |(rw[show iW p q x y z=false from by(unfold iW;rw[jy (d:=[]) (k:=k) (by omega) (by simp_all),Bool.false_and])];done)
   |(rw[show iW p q x y z=(decide (p.length≤6)&&(bE q&&(inB x 0 1000&&(inB y 0 10000&&inB z 1 30))))from by(unfold iW;rw[fZ (d:=[]) fun j hj=>hok.out j (by omega),Bool.true_and])];simp_all;done)
   |(rw[show iW p q x y z=(decide (p.length≤6)&&(bE q&&(inB x 0 1000&&(inB y 0 10000&&inB z 1 30))))from by(unfold iW;rw[fZ (d:=[]) fun j hj=>hok.out j (by omega),Bool.true_and])];simp_all;omega)
   |(refine⟨k+1,⟨by omega,fun j hj=>?_⟩,by dsimp only;omega,by simp only[push_cast,↓reduceIte,Nat.reduceEqDiff,Nat.reduceBEq,Nat.reduceAdd,Nat.reduceSub,Int.reduceToNat],by simp only[push_cast,↓reduceIte,Nat.reduceEqDiff,Nat.reduceBEq,Nat.reduceAdd,Nat.reduceSub,Int.reduceToNat],rfl⟩
     by_cases h1:j<k
     ·exact hok.out j h1
     ·have:j=k:=by omega
      subst this;simp_all;try omega))
def amB (c:Int) (s:ByteArray):Bool:=s.data.toList.any fun b=>decide (c=(b.toNat:Int))
theorem awX {b:UInt8} {c:Int} (h0:0≤c) (h1:c≤255):(b==c.toNat.toUInt8)=decide (c=(b.toNat:Int)):=by
 have e:(c.toNat.toUInt8).toNat=c.toNat:=by show c.toNat % 256=c.toNat;omega
 rw[Bool.eq_iff_iff,beq_iff_eq,decide_eq_true_eq];constructor
 ·intro h
  rw[h,e];omega
 ·intro h
  apply UInt8.toNat_inj.1;rw[e];omega
theorem alo:∀(l:List UInt8) {c:Int},0≤c→c≤255→decide (0≤Lib.indexByte l c.toNat.toUInt8)=l.any fun b=>decide (c=(b.toNat:Int))
 |[],c,_,_=>rfl
 |b::l,c,h0,h1=>by
  have ih:=alo l h0 h1;have hge:=Lib.indexByte_ge l c.toNat.toUInt8;unfold Lib.indexByte;rw[awX h0 h1,List.any_cons];cases hb:decide (c=(b.toNat:Int))with
  |true=>rfl
  |false=>
   rw[Bool.false_or,←ih,if_neg (by decide)];split
   ·rename_i hx
    rw[beq_iff_eq.1 hx]
   ·rename_i hx
    have hx1:¬Lib.indexByte l c.toNat.toUInt8=-1:=fun e=>hx (beq_iff_eq.2 e);exact decide_eq_decide.2 (by omega)
def aai (c:Int):Int:=if c<97∨122<c then 0 else if c=105∨c=106∨c=108 then 3 else if c=102∨c=114∨c=116 then 4 else if c=109∨c=119 then 8 else 5
def nA (a b:Int):Int:=if((a=118∨a=119∨a=121)∧(b=97∨b=101∨b=111))∨(a=114∧(b=110∨b=109))then 1 else 0
def oN (a b:Int):Bool:=decide (a=102∧(b=105∨b=106∨b=108∨b=102))
theorem wM (c:Int):0≤aai c∧aai c≤8:=by
 unfold aai
 repeat' split
 all_goals omega
theorem rQ (a b:Int):0≤nA a b∧nA a b≤1:=by unfold nA;split<;>omega
def ac5:Fun:=F1 dU fun c=>some (iv (aai c))
theorem ahp (c:Int):ac5 [.val (.int .u8 c)]=some (.val (.int .i64 (aai c))):=rfl
def ac8:Fun:=F2 dU dU fun a b=>some (iv (nA a b))
theorem af5 (a b:Int):ac8 [.val (.int .u8 a),.val (.int .u8 b)]=some (.val (.int .i64 (nA a b))):=rfl
def wG:Fun:=F2 dU dU fun a b=>some (bv (oN a b))
theorem aeJ (a b:Int):wG [.val (.int .u8 a),.val (.int .u8 b)]=some (.val (.bool (oN a b))):=rfl
theorem abn:Sound Tryz.prog 111 ac5:=by
 refine au mixed gV Tryz.func111 rfl 39 rfl [.tmp 2] rfl (by kernel_rfl) fun ps r hr=>?_;obtain⟨c,rfl,hr⟩:=bR hr;cases hr;refine⟨by simp,?_⟩;simp only[dIs,dUs,dSs,dx,dA,dz,dF,aS,dD,aT,aU,aR,aV];(repeat' (first|(with_reducible first|apply fM|apply bD|apply cK|apply cZ|apply fJ|apply l6|apply fq|apply fI|apply l7|apply fH|apply fE|apply lY|apply fB|apply fu|apply fK)|((with_reducible apply bg);(simp only[List.map_cons,List.map_nil]<;>exact rfl))|((with_reducible apply dh);(simp only[List.map_cons,List.map_nil]<;>exact rfl);decide+kernel)|((with_reducible apply fA);rfl)|((first|((with_reducible apply i_V);rfl;rfl;rfl)|((first|((with_reducible apply i_E);rfl)|((with_reducible apply i_S);rfl));first|rfl|(simp only[push_cast,↓reduceIte]))|((with_reducible apply lW);rfl;rfl)|((with_reducible apply lX);rfl;rfl;rfl)|(with_reducible first|apply lZ|apply dn));(simp(disch:=(first|omega|(simp only[push_cast];first|done|omega))) only[push_cast,↓reduceIte,Nat.reduceEqDiff,Nat.reduceBEq,Nat.reduceAdd,Nat.reduceSub,Int.reduceToNat, *]<;>with_reducible exact rfl);all_goals try(first|(with_reducible first|refine hyT ?_|refine hyF ?_|exact hyA|exact hyB)|(intro hX;first|(cases hX;done)|((try simp only[decide_eq_true_eq,decide_eq_false_iff_not,Bool.not_eq_true',Bool.not_eq_false']at hX);(try have hXb:=av.1 hX)))))));all_goals try(exfalso;omega)
 all_goals((first|apply adN|apply uM);simp(disch:=(first|omega|(simp only[push_cast];first|done|omega))) only[push_cast,↓reduceIte,Nat.reduceEqDiff,Nat.reduceBEq,Nat.reduceAdd,Nat.reduceSub,Int.reduceToNat, *])
 all_goals((refine congrArg (fun z=>some (PV.val (Value.int IntKind.i64 z))) ?_);unfold aai;repeat' split)
 all_goals omega
theorem abD:Sound Tryz.prog 112 ac8:=by
 refine au mixed gV Tryz.func112 rfl 43 rfl [.tmp 4] rfl (by kernel_rfl) fun ps r hr=>?_;obtain⟨a,b,rfl,hr⟩:=xM hr;cases hr;refine⟨by simp,?_⟩;simp only[dIs,dUs,dSs,dx,dA,dz,dF,aS,dD,aT,aU,aR,aV];(repeat' (first|(with_reducible first|apply fM|apply bD|apply cK|apply cZ|apply fJ|apply l6|apply fq|apply fI|apply l7|apply fH|apply fE|apply lY|apply fB|apply fu|apply fK)|((with_reducible apply bg);(simp only[List.map_cons,List.map_nil]<;>exact rfl))|((with_reducible apply dh);(simp only[List.map_cons,List.map_nil]<;>exact rfl);decide+kernel)|((with_reducible apply fA);rfl)|((first|((with_reducible apply i_V);rfl;rfl;rfl)|((first|((with_reducible apply i_E);rfl)|((with_reducible apply i_S);rfl));first|rfl|(simp only[push_cast,↓reduceIte]))|((with_reducible apply lW);rfl;rfl)|((with_reducible apply lX);rfl;rfl;rfl)|(with_reducible first|apply lZ|apply dn));(simp(disch:=(first|omega|(simp only[push_cast];first|done|omega))) only[push_cast,↓reduceIte,Nat.reduceEqDiff,Nat.reduceBEq,Nat.reduceAdd,Nat.reduceSub,Int.reduceToNat, *]<;>with_reducible exact rfl);all_goals try(first|(with_reducible first|refine hyT ?_|refine hyF ?_|exact hyA|exact hyB)|(intro hX;first|(cases hX;done)|((try simp only[decide_eq_true_eq,decide_eq_false_iff_not,Bool.not_eq_true',Bool.not_eq_false']at hX);(try have hXb:=av.1 hX)))))));all_goals try(exfalso;omega)
 all_goals((first|apply adN|apply uM);simp(disch:=(first|omega|(simp only[push_cast];first|done|omega))) only[push_cast,↓reduceIte,Nat.reduceEqDiff,Nat.reduceBEq,Nat.reduceAdd,Nat.reduceSub,Int.reduceToNat, *])
 all_goals((refine congrArg (fun z=>some (PV.val (Value.int IntKind.i64 z))) ?_);unfold nA;repeat' split)
 all_goals omega
theorem zS:Sound Tryz.prog 122 wG:=by refine au mixed gV Tryz.func122 rfl 23 rfl [.tmp 4] rfl (by kernel_rfl) fun ps r hr=>?_;obtain⟨a,b,rfl,hr⟩:=xM hr;cases hr;refine⟨by simp,?_⟩;simp only[dIs,dUs,dSs,dx,dA,dz,dF,aS,dD,aT,aU,aR,aV];((refine wlk6 ?_ ?_ ?_ ?_ ?_ ?_<;>intros<;>try with_reducible exact trivial)<;>(refine fnG ?_;try with_reducible exact trivial));all_goals((refine congrArg (fun z=>some (PV.val (Value.bool z))) ?_);unfold oN;first|(simp;omega)|simp_all)
def φIb:Fun:=F2 dS dU fun s c=>some (iv (Lib.indexByte s.data.toList c.toNat.toUInt8))
theorem avw:Sound Tryz.prog 118 φIb:=by
 intro w J ps args r hr hJ hT hargs;obtain⟨s,c,rfl,hq⟩:=xM hr;cases hq;simp only[cu]at hargs;obtain⟨v1,vs1,e1,h1,v2,vs2,rfl,h2,rfl⟩:=hargs;obtain rfl:args=#[v1,v2]:=by obtain⟨a⟩:=args;simp only at e1;rw[e1]
 simp only[dS,dU,Rep]at h1 h2;subst h1;subst h2;refine(YtmmafcjjlbgnkaaGreat.strings_IndexByte s c w).mono ?_;rintro e w' ⟨rfl,rfl⟩;exact⟨_,rfl,Below.refl _ _,fun g' _=>by simp only[Rep]⟩
theorem aqr (s:ByteArray) (c:Int):φIb [.val (.string s),.val (.int .u8 c)]=some (.val (.int .i64 (Lib.indexByte s.data.toList c.toNat.toUInt8))):=rfl
def φAm:Fun:=F2 dU dS fun c s=>open Classical in if 0≤c∧c≤255 then some (bv (amB c s))else none
theorem mK {c:Int} (s:ByteArray) (h:0≤c∧c≤255):φAm [.val (.int .u8 c),.val (.string s)]=some (.val (.bool (amB c s))):=(jZ (A:=dU) (B:=dS) c s).trans (if_pos h)
def GAm:Ctx:={fn:=aY [(118,φIb)],io:=aY []}
theorem asS:ak Tryz.prog GAm:=okΓ (fC Tryz.func118 avw aj) aj
def aoX:=ah (Γ:=GAm) (f:=118) (φ:=φIb) rfl
theorem acV:Sound Tryz.prog 105 φAm:=by refine au mixed asS Tryz.func105 rfl 9 rfl [.tmp 4] rfl (by kernel_rfl) fun ps r hr=>?_;obtain⟨c,s,rfl,hpre,rfl⟩:=iF hr;refine⟨by simp,?_⟩;simp only[dIs,dUs,dSs,dx,dA,dz,dF,aS,dD,aT,aU,aR,aV];have e:=alo s.data.toList hpre.1 hpre.2;have hge:=Lib.indexByte_ge s.data.toList c.toNat.toUInt8;have ap:=aqr s c;unfold amB;rw[←e];generalize Lib.indexByte s.data.toList c.toNat.toUInt8=i at*;clear e;have gam_c118:=aoX;exact wlkF
theorem am2 (c a b:Int) (x y:UInt8) (h:(x.toNat:Int)=a) (h2:(y.toNat:Int)=b):amB c ⟨#[x,y]⟩=decide (c=a∨c=b):=by simp[amB,h,h2]
theorem am3 (c a b d:Int) (x y z:UInt8) (h:(x.toNat:Int)=a) (h2:(y.toNat:Int)=b) (h3:(z.toNat:Int)=d):amB c ⟨#[x,y,z]⟩=decide (c=a∨c=b∨c=d):=by simp[amB,h,h2,h3]
theorem am4 (c a b d e:Int) (x y z u:UInt8) (h:(x.toNat:Int)=a) (h2:(y.toNat:Int)=b) (h3:(z.toNat:Int)=d) (h4:(u.toNat:Int)=e):amB c ⟨#[x,y,z,u]⟩=decide (c=a∨c=b∨c=d∨c=e):=by simp[amB,h,h2,h3,h4]
def vB:Fun:=F1 dU fun c=>open Classical in if 0≤c∧c≤255 then some (iv (aai c))else none
theorem adY {c:Int} (h:0≤c∧c≤255):vB [.val (.int .u8 c)]=some (.val (.int .i64 (aai c))):=(iA (A:=dU) c).trans (if_pos h)
def wT:Fun:=F2 dU dU fun a b=>open Classical in if(0≤a∧a≤255)∧0≤b∧b≤255 then some (iv (nA a b))else none
theorem aek {a b:Int} (h:0≤a∧a≤255) (h2:0≤b∧b≤255):wT [.val (.int .u8 a),.val (.int .u8 b)]=some (.val (.int .i64 (nA a b))):=(jZ (A:=dU) (B:=dU) a b).trans (if_pos ⟨h,h2⟩)
def wH:Fun:=F2 dU dU fun a b=>open Classical in if(0≤a∧a≤255)∧0≤b∧b≤255 then some (bv (oN a b))else none
theorem aeA {a b:Int} (h:0≤a∧a≤255) (h2:0≤b∧b≤255):wH [.val (.int .u8 a),.val (.int .u8 b)]=some (.val (.bool (oN a b))):=(jZ (A:=dU) (B:=dU) a b).trans (if_pos ⟨h,h2⟩)
def GLw:Ctx:={fn:=aY [(85,kM),(105,φAm)],io:=aY []}
theorem at7:ak Tryz.prog GLw:=okΓ (fC Tryz.func85 pG (fC Tryz.func105 acV aj)) aj
def atp:=ah (Γ:=GLw) (f:=85) (φ:=kM) rfl
def apD:=ah (Γ:=GLw) (f:=105) (φ:=φAm) rfl
theorem aby:Sound Tryz.prog 89 vB:=by
 refine au mixed at7 Tryz.func89 rfl 16 rfl [.tmp 2] rfl (by kernel_rfl) fun ps r hr=>?_;obtain⟨c,rfl,hpre,rfl⟩:=kQ hr;refine⟨by simp,?_⟩;simp only[dIs,dUs,dSs,dx,dA,dz,dF,aS,dD,aT,aU,aR,aV];have ap1:=o9 c;have ap2:=(mK ⟨#[105,106,108]⟩ hpre).trans (by rw[am3 c 105 106 108 _ _ _ rfl rfl rfl]);have ap3:=(mK ⟨#[102,114,116]⟩ hpre).trans (by rw[am3 c 102 114 116 _ _ _ rfl rfl rfl]);have ap4:=(mK ⟨#[109,119]⟩ hpre).trans (by rw[am2 c 109 119 _ _ rfl rfl]);have glw_c85:=atp;have glw_c105:=apD;((refine wlk6 ?_ ?_ ?_ ?_ ?_ ?_<;>intros<;>try with_reducible exact trivial)<;>(refine fnG ?_;try with_reducible exact trivial));all_goals((refine congrArg (fun z=>some (PV.val (Value.int IntKind.i64 z))) ?_);unfold aai;repeat' split)
 all_goals(first|omega|(simp[inB]at*;omega))
def GNb:Ctx:={fn:=aY [(105,φAm)],io:=aY []}
theorem alK:ak Tryz.prog GNb:=okΓ (fC Tryz.func105 acV aj) aj
def ahB:=ah (Γ:=GNb) (f:=105) (φ:=φAm) rfl
theorem aau:Sound Tryz.prog 90 wT:=by
 refine au mixed alK Tryz.func90 rfl 19 rfl [.tmp 4] rfl (by kernel_rfl) fun ps r hr=>?_;obtain⟨a,b,rfl,hpre,rfl⟩:=iF hr;refine⟨by simp,?_⟩;simp only[dIs,dUs,dSs,dx,dA,dz,dF,aS,dD,aT,aU,aR,aV];have ap1:=(mK ⟨#[118,119,121]⟩ hpre.1).trans (by rw[am3 a 118 119 121 _ _ _ rfl rfl rfl]);have ap2:=(mK ⟨#[97,101,111]⟩ hpre.2).trans (by rw[am3 b 97 101 111 _ _ _ rfl rfl rfl]);have ap3:=(mK ⟨#[110,109]⟩ hpre.2).trans (by rw[am2 b 110 109 _ _ rfl rfl]);have gnb_c105:=ahB;((refine wlk6 ?_ ?_ ?_ ?_ ?_ ?_<;>intros<;>try with_reducible exact trivial)<;>(refine fnG ?_;try with_reducible exact trivial));all_goals((refine congrArg (fun z=>some (PV.val (Value.int IntKind.i64 z))) ?_);unfold nA;repeat' split)
 all_goals omega
theorem zJ:Sound Tryz.prog 104 wH:=by refine au mixed alK Tryz.func104 rfl 11 rfl [.tmp 4] rfl (by kernel_rfl) fun ps r hr=>?_;obtain⟨a,b,rfl,hpre,rfl⟩:=iF hr;refine⟨by simp,?_⟩;simp only[dIs,dUs,dSs,dx,dA,dz,dF,aS,dD,aT,aU,aR,aV];have ap1:=(mK ⟨#[105,106,108,102]⟩ hpre.2).trans (by rw[am4 b 105 106 108 102 _ _ _ _ rfl rfl rfl rfl]);have gnb_c105:=ahB;((refine wlk6 ?_ ?_ ?_ ?_ ?_ ?_<;>intros<;>try with_reducible exact trivial)<;>(refine fnG ?_;try with_reducible exact trivial));all_goals((refine congrArg (fun z=>some (PV.val (Value.bool z))) ?_);unfold oN;first|(simp;omega)|simp_all)
abbrev sgN (s:ByteArray) (i:Nat):Nat:=if i+1<s.size∧oN (at8 s i) (at8 s (i+1))=true then 2 else 1
def sgF (s:ByteArray):Nat→Nat→LS
 |0,_=>[]
 |f+1,i=>if i<s.size then s.extract i (i+sgN s i)::sgF s f (i+sgN s i)else []
def signs (s:ByteArray):LS:=sgF s s.size 0
theorem qA {s:ByteArray} {f i:Nat} (h:i<s.size):sgF s (f+1) i=s.extract i (i+sgN s i)::sgF s f (i+sgN s i):=by rw[sgF,if_pos h]
theorem abH {s:ByteArray} {f i:Nat} (h:s.size≤i):sgF s f i=[]:=by
 cases f with
 |zero=>rfl
 |succ f=>rw[sgF,if_neg (by omega)]
theorem amj (s:ByteArray) (i:Nat):1≤sgN s i∧sgN s i≤2∧(i<s.size→i+sgN s i≤s.size):=by unfold sgN;split<;>omega
theorem afr {s:ByteArray} {a b j:Nat} (h:j<b-a) (hb:b≤s.size):at8 (s.extract a b) j=at8 s (a+j):=by
 unfold at8;have h1:j<(s.extract a b).size:=by rw[ByteArray.size_extract];omega
 rw[getElem?_pos (s.extract a b) j h1,getElem?_pos s (a+j) (by omega)];rw[ByteArray.getElem_extract]
def aqx (x:ByteArray):Prop:=1≤x.size∧x.size≤2∧∀j,j<x.size→97≤at8 x j∧at8 x j≤122
theorem alF {s:ByteArray} (h:∀j,j<s.size→97≤at8 s j∧at8 s j≤122):∀(f i:Nat),(∀x∈sgF s f i,aqx x)∧(sgF s f i).length≤s.size-i
 |0,i=>⟨by simp[sgF],by simp[sgF]⟩
 |f+1,i=>by
  by_cases hi:i<s.size
  ·obtain⟨h1,h2,h3⟩:=amj s i
   obtain⟨i1,i2⟩:=alF h f (i+sgN s i);rw[qA hi];refine⟨fun x hx=>?_,by rw[List.length_cons];have:=h3 hi;omega⟩;rcases List.mem_cons.1 hx with rfl|hx
   ·have hsz:(s.extract i (i+sgN s i)).size=sgN s i:=by rw[ByteArray.size_extract];have:=h3 hi;omega
    refine⟨by omega,by omega,fun j hj=>?_⟩;have h4:=h3 hi;rw[afr (by omega) (by omega)];exact h _ (by omega)
   ·exact i1 x hx
  ·rw[abH (by omega)]
   exact⟨by simp,by simp⟩
theorem aW {s:ByteArray} (h:dM s=true):(∀j,j<s.size→97≤at8 s j∧at8 s j≤122)∧1≤s.size∧s.size≤20:=by unfold dM at h;rw[Bool.and_eq_true,List.all_eq_true]at h;refine⟨fun j hj=>av.1 (h.1 j (List.mem_range.2 hj)),?_⟩;have:=av.1 h.2;omega
theorem nJ {s:ByteArray} (h:dM s=true):(∀x∈signs s,aqx x)∧1≤(signs s).length∧(signs s).length≤20:=by obtain⟨h1,h2,h3⟩:=aW h;obtain⟨i1,i2⟩:=alF h1 s.size 0;refine⟨i1,?_,by unfold signs;omega⟩;unfold signs;obtain⟨n,hn⟩:∃n,s.size=n+1:=⟨s.size-1,by omega⟩;rw[hn,qA (by omega),List.length_cons];omega
theorem xH {s:ByteArray} (h:dM s=true) {k:Nat} (hk:k<(signs s).length):aqx ((signs s)[k]?.getD .empty):=by rw[List.getElem?_eq_getElem hk,Option.getD_some];exact(nJ h).1 _ (List.getElem_mem hk)
def sgW (x:ByteArray):Nat→Int
 |0=>0
 |j+1=>sgW x j+aai (at8 x j)
def wm (g:LS) (k:Nat):Int:=if k+1<g.length then nA (at8 (g[k]?.getD .empty) ((g[k]?.getD .empty).size-1)) (at8 (g[k+1]?.getD .empty) 0)else 0
def wdK (g:LS):Nat→Int
 |0=>0
 |k+1=>wdK g k+sgW (g[k]?.getD .empty) (g[k]?.getD .empty).size-((g[k]?.getD .empty).size-1)-wm g k
def pI (s:ByteArray):Int:=if dM s=true then wdK (signs s) (signs s).length else-1
theorem aa0 {x:ByteArray} (h:aqx x):∀j,j≤x.size→3*(j:Int)≤sgW x j∧sgW x j≤8*j
 |0,_=>⟨by simp[sgW],by simp[sgW]⟩
 |j+1,hj=>by
  have ih:=aa0 h j (by omega);have h1:=wM (at8 x j);have h2:=h.2.2 j (by omega);have h3:3≤aai (at8 x j):=by
   unfold aai;rw[if_neg (by omega)]
   repeat' split
   all_goals omega
  unfold sgW
  push_cast
  omega
theorem ace {x:ByteArray} (h:aqx x):∀j,j≤x.size→0≤sgW x j∧sgW x j≤16:=fun j hj=>by have:=aa0 h j hj;have:=h.2.1;omega
theorem wS {g:LS} (h:∀k,k<g.length→aqx (g[k]?.getD .empty)):∀k,k≤g.length→0≤wdK g k∧wdK g k≤16*k
 |0,_=>⟨by simp[wdK],by simp[wdK]⟩
 |k+1,hk=>by
  have ih:=wS h k (by omega);have h1:=h k (by omega);have h2:=aa0 h1 _ (Nat.le_refl _);have h3:=h1.1;have h4:=h1.2.1;have h5:0≤wm g k∧wm g k≤1:=by
   unfold wm;split
   ·exact rQ _ _
   ·omega
  unfold wdK;generalize wm g k=m at*;generalize sgW (g[k]?.getD .empty) (g[k]?.getD .empty).size=z at*;generalize(g[k]?.getD ByteArray.empty).size=y at*
  push_cast
  omega
theorem aii {s:ByteArray} (h:dM s=true):0≤pI s∧pI s≤320:=by have h1:=wS (fun k hk=>xH h hk) _ (Nat.le_refl _);have h2:=(nJ h).2.2;unfold pI;rw[if_pos h];omega
def iI (p:ByteArray):Nat→ByteArray×List Int×Int
 |0=>(⟨#[]⟩,[],0)
 |k+1=>if abm (at8 p k)=true then((iI p k).1,(iI p k).2.1,at8 p k-48)else((iI p k).1++p.extract k (k+1),(iI p k).2.1++[(iI p k).2.2],0)
def dG (p:ByteArray):ByteArray:=(iI p p.size).1
def eG (p:ByteArray):List Int:=(iI p p.size).2.1++[(iI p p.size).2.2]
theorem qB {p:ByteArray} {k:Nat} (h:abm (at8 p k)=true):iI p (k+1)=((iI p k).1,(iI p k).2.1,at8 p k-48):=by rw[iI,if_pos h]
theorem qw {p:ByteArray} {k:Nat} (h:abm (at8 p k)=false):iI p (k+1)=((iI p k).1++p.extract k (k+1),(iI p k).2.1++[(iI p k).2.2],0):=by rw[iI,if_neg (by rw[h];decide)]
theorem nU (p:ByteArray):∀k,k≤p.size→(iI p k).1.size=(iI p k).2.1.length∧(iI p k).1.size≤k∧(0≤(iI p k).2.2∧(iI p k).2.2≤9)∧∀x∈(iI p k).2.1,0≤x∧x≤9
 |0,_=>⟨rfl,Nat.le_refl _,⟨Int.le_refl _,by show(0:Int)≤9;omega⟩,by simp[iI]⟩
 |k+1,hk=>by
  obtain⟨h1,h2,h3,h4⟩:=nU p k (by omega);cases hd:abm (at8 p k)with
  |true=>rw[qB hd];have:=av.1 hd;exact⟨h1,by dsimp only;omega,by dsimp only;omega,h4⟩
  |false=>
   rw[qw hd];refine⟨?_,?_,⟨Int.le_refl _,by show(0:Int)≤9;omega⟩,fun x hx=>?_⟩
   ·dsimp only
    rw[ByteArray.size_append,ByteArray.size_extract,List.length_append,List.length_singleton];omega
   ·dsimp only
    rw[ByteArray.size_append,ByteArray.size_extract];omega
   ·rcases List.mem_append.1 hx with hx|hx
    ·exact h4 x hx
    ·rw[List.mem_singleton.1 hx]
     exact h3
theorem mQ (p:ByteArray):(eG p).length=(dG p).size+1∧(dG p).size≤p.size∧∀k:Nat,0≤(eG p)[k]?.getD 0∧(eG p)[k]?.getD 0≤9:=by
 obtain⟨h1,h2,h3,h4⟩:=nU p p.size (Nat.le_refl _);refine⟨by unfold eG dG;rw[List.length_append,List.length_singleton];omega,h2,fun k=>?_⟩;by_cases hk:k<(eG p).length
 ·rw[List.getElem?_eq_getElem hk,Option.getD_some]
  have hm:(eG p)[k]∈eG p:=List.getElem_mem hk;rcases List.mem_append.1 hm with hm|hm
  ·exact h4 _ hm
  ·rw[List.mem_singleton.1 hm];exact h3
 ·rw[List.getElem?_eq_none (by omega)]
  decide
def aas (sz a j:Nat) (lv o:List Int):List Int:=if 1≤a+j∧a+j≤sz+1 then o.set (a+j-1) (if lv[j]?.getD 0>o[a+j-1]?.getD 0 then lv[j]?.getD 0 else o[a+j-1]?.getD 0)else o
def lvJ (sz a:Nat) (lv o:List Int):Nat→List Int
 |0=>o
 |j+1=>aas sz a j lv (lvJ sz a lv o j)
open Classical in
noncomputable def lvA (d:ByteArray) (sz:Nat) (lt:ByteArray) (lv o:List Int):Nat→List Int
 |0=>o
 |a+1=>if d.extract a (a+lt.size)=lt then lvJ sz a lv (lvA d sz lt lv o a) lv.length else lvA d sz lt lv o a
def aoS (w:ByteArray):ByteArray:=(⟨#[46]⟩++w)++⟨#[46]⟩
theorem yt (w:ByteArray):(aoS w).size=w.size+2:=by unfold aoS;rw[ByteArray.size_append,ByteArray.size_append,show(⟨#[46]⟩:ByteArray).size=1 from rfl];omega
def lvP (w:ByteArray) (pats:LS):Nat→List Int
 |0=>List.replicate (w.size+1) 0
 |k+1=>lvA (aoS w) w.size (dG (pats[k]?.getD .empty)) (eG (pats[k]?.getD .empty)) (lvP w pats k) (w.size+3-(dG (pats[k]?.getD .empty)).size)
def iL (w:ByteArray) (pats:LS):List Int:=lvP w pats pats.length
def adV (sz:Nat) (o:List Int):Prop:=o.length=sz+1∧∀k:Nat,0≤o[k]?.getD 0∧o[k]?.getD 0≤9
theorem adV.set {sz a j:Nat} {lv o:List Int} (h:adV sz o) (hl:∀k:Nat,0≤lv[k]?.getD 0∧lv[k]?.getD 0≤9):adV sz (aas sz a j lv o):=by
 unfold aas;split
 ·rename_i hc
  refine⟨by rw[List.length_set];exact h.1,fun k=>?_⟩;have h1:=h.2 (a+j-1);have h2:=hl j;have h3:=h.2 k;have h4:=h.1;by_cases hk:a+j-1=k
  ·subst hk
   rw[List.getElem?_set_self (by omega),Option.getD_some];split<;>omega
  ·rw[List.getElem?_set_ne hk]
   exact h3
 ·exact h
theorem adV.lvJ {sz a:Nat} {lv o:List Int} (h:adV sz o) (hl:∀k:Nat,0≤lv[k]?.getD 0∧lv[k]?.getD 0≤9):∀j,adV sz (lvJ sz a lv o j)
 |0=>h
 |j+1=>(adV.lvJ h hl j).set hl
theorem adV.lvA {d lt:ByteArray} {sz:Nat} {lv o:List Int} (h:adV sz o) (hl:∀k:Nat,0≤lv[k]?.getD 0∧lv[k]?.getD 0≤9):∀a,adV sz (lvA d sz lt lv o a)
 |0=>h
 |a+1=>by
  unfold Go.Proofs.YtmmafcjjlbgnkaaGreat.lvA;split
  ·exact(adV.lvA h hl a).lvJ hl _
  ·exact adV.lvA h hl a
theorem aah (w:ByteArray) (pats:LS):∀k,adV w.size (lvP w pats k)
 |0=>⟨by simp[lvP],fun k=>by unfold lvP;rw[List.getElem?_replicate];split<;>decide⟩
 |k+1=>(aah w pats k).lvA (mQ _).2.2 _
def plB (sz:Nat) (lv:List Int) (k:Nat):Bool:=decide (2≤k∧k+3≤sz∧lv[k]?.getD 0 % 2=1)
def plK (sz:Nat) (lv:List Int) (k:Nat):List Int:=((List.range k).filter (plB sz lv)).map fun k:Nat=>(k:Int)
theorem aaG {sz:Nat} {lv:List Int} {k:Nat} (h:plB sz lv k=true):plK sz lv (k+1)=plK sz lv k++[(k:Int)]:=by simp[plK,List.range_succ,List.filter_append,h]
theorem uT {sz:Nat} {lv:List Int} {k:Nat} (h:plB sz lv k=false):plK sz lv (k+1)=plK sz lv k:=by simp[plK,List.range_succ,List.filter_append,h]
theorem apx {sz:Nat} {lv:List Int}:plK sz lv 2=[]:=by rw[uT (by simp[plB]),uT (by simp[plB])];rfl
theorem acn {sz:Nat} {lv:List Int} {k:Nat} (h:sz<k+3):∀n,plK sz lv (k+n)=plK sz lv k
 |0=>rfl
 |n+1=>by rw[←Nat.add_assoc,uT (by simp[plB];omega),acn h n]
theorem ajr {sz:Nat} {lv:List Int} {k:Nat} (h:sz<5):plK sz lv k=[]:=by unfold plK;rw[List.filter_eq_nil_iff.2 fun x _=>by simp[plB];omega];rfl
def jQ (w:ByteArray) (pats:LS):List Int:=plK w.size (iL w pats) (w.size+1)
theorem aiE {sz:Nat} {lv:List Int} {k:Nat}:∀x∈plK sz lv k,2≤x∧x+3≤sz∧x<k:=fun x hx=>by obtain⟨n,hn,rfl⟩:=List.mem_map.1 hx;obtain⟨h1,h2⟩:=List.mem_filter.1 hn;have h3:=List.mem_range.1 h1;have h4:=of_decide_eq_true h2;omega
theorem aaI (sz:Nat) (lv:List Int):∀k,(plK sz lv k).Pairwise (· < ·)
 |0=>List.Pairwise.nil
 |k+1=>by
  cases h:plB sz lv k with
  |true=>rw[aaG h,List.pairwise_append];refine⟨aaI sz lv k,List.pairwise_singleton _ _,fun a ha b hb=>?_⟩;rw[List.mem_singleton.1 hb];exact(aiE a ha).2.2
  |false=>rw[uT h];exact aaI sz lv k
theorem afX (sz:Nat) (lv:List Int) (k:Nat):(plK sz lv k).length≤k:=by unfold plK;rw[List.length_map];exact Nat.le_trans (List.length_filter_le _ _) (by simp)
def frK (pl:List Int) (k:Nat):Int:=if k=0 then 0 else pl[k-1]?.getD 0
def ptF (w:ByteArray) (pl:List Int):Nat→LS
 |0=>[]
 |k+1=>ptF w pl k++[w.extract (frK pl k).toNat (pl[k]?.getD 0).toNat]
def ptR (w:ByteArray) (pl:List Int):LS:=ptF w pl pl.length++[w.extract (frK pl pl.length).toNat w.size]
def zk (w:ByteArray) (pats:LS):LS:=ptR w (jQ w pats)
theorem xK (w:ByteArray) (pl:List Int):∀k,(ptF w pl k).length=k
 |0=>rfl
 |k+1=>by rw[ptF,List.length_append,xK w pl k];rfl
def auW (w:ByteArray) (pl:List Int):Prop:=pl.length≤20∧∀k,k<pl.length→frK pl k<pl[k]?.getD 0∧pl[k]?.getD 0<w.size
theorem xu (pl:List Int) (k:Nat):frK pl (k+1)=pl[k]?.getD 0:=by unfold frK;rw[if_neg (by omega)];rfl
theorem sI {w:ByteArray} {pl:List Int} (h:auW w pl) (hw:1≤w.size):∀k,k≤pl.length→0≤frK pl k∧frK pl k<w.size
 |0,_=>by simp[frK];omega
 |k+1,hk=>by have h1:=sI h hw k (by omega);have h2:=h.2 k (by omega);rw[xu];omega
theorem nE {w:ByteArray} {pats:LS} (hw:dM w=true):auW w (jQ w pats):=by
 obtain⟨-,w1,w2⟩:=aW hw;have ha:=aaI w.size (iL w pats) (w.size+1);have hm:=@aiE w.size (iL w pats) (w.size+1);refine⟨?_,fun k hk=>?_⟩
 ·unfold jQ plK
  rw[List.length_map];have:((List.range (w.size+1)).filter (plB w.size (iL w pats))).length≤((List.range (w.size+1)).filter (fun k=>decide (k<w.size))).length:=by rw[←List.countP_eq_length_filter,←List.countP_eq_length_filter];refine List.countP_mono_left fun x _ hx=>?_;have:=of_decide_eq_true hx;exact decide_eq_true (by omega)
  have h2:((List.range (w.size+1)).filter (fun k=>decide (k<w.size))).length≤w.size:=by rw[List.range_succ,List.filter_append];have h3:=List.length_filter_le (fun k=>decide (k<w.size)) (List.range w.size);rw[List.length_range]at h3;simp;omega
  omega
 ·unfold jQ at hk⊢
  generalize plK w.size (iL w pats) (w.size+1)=pl at*;rw[List.getElem?_eq_getElem hk,Option.getD_some];have h1:=hm _ (List.getElem_mem hk);refine⟨?_,by omega⟩;unfold frK;split
  ·omega
  ·rename_i h0
   rw[List.getElem?_eq_getElem (show k-1<pl.length by omega),Option.getD_some];exact List.pairwise_iff_getElem.1 ha (k-1) k (by omega) hk (by omega)
theorem zx {w:ByteArray} {a b:Nat} (hw:dM w=true) (h1:a<b) (h2:b≤w.size):dM (w.extract a b)=true:=by
 obtain⟨l1,l2,l3⟩:=aW hw;have hs:(w.extract a b).size=b-a:=by rw[ByteArray.size_extract];omega
 rw[sQ fun j hj=>?_,hs]
 ·exact av.2 ⟨by omega,by omega⟩
 ·rw[afr (by omega) h2]
  exact l1 _ (by omega)
theorem adB {w:ByteArray} {pl:List Int} (hw:dM w=true) (h:auW w pl):∀k,k≤pl.length→∀x∈ptF w pl k,dM x=true
 |0,_=>by simp[ptF]
 |k+1,hk=>fun x hx=>by
  rw[ptF]at hx;rcases List.mem_append.1 hx with hx|hx
  ·exact adB hw h k (by omega) x hx
  ·rw[List.mem_singleton.1 hx]
   have h1:=h.2 k (by omega);have h2:=sI h (aW hw).2.1 k (by omega);exact zx hw (by omega) (by omega)
theorem aje {w:ByteArray} {pl:List Int} (hw:dM w=true) (h:auW w pl):∀x∈ptR w pl,dM x=true:=fun x hx=>by
 rcases List.mem_append.1 hx with hx|hx
 ·exact adB hw h _ (Nat.le_refl _) x hx
 ·rw[List.mem_singleton.1 hx]
  have h2:=sI h (aW hw).2.1 _ (Nat.le_refl _);exact zx hw (by omega) (Nat.le_refl _)
theorem agG (w:ByteArray) (pl:List Int):(ptR w pl).length=pl.length+1:=by unfold ptR;rw[List.length_append,xK];rfl
end
end Go.Proofs.YtmmafcjjlbgnkaaGreat
