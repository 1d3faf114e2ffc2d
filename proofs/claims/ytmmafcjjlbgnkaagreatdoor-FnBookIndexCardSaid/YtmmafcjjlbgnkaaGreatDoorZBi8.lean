/- What the proof rests on, part 8: contracts of functions. No condition beyond what each states. -/
import Derived.Test.YtmmafcjjlbgnkaaGreatDoorZBi7
namespace Go.Proofs.YtmmafcjjlbgnkaaGreatDoor
open Go.RowKit
open Nat renaming reduceEqDiff→Rq,reduceBEq→Rb,reduceAdd→Ra,reduceSub→Rs
open Int renaming reduceToNat→Rt
set_option linter.all false
set_option maxHeartbeats 32000000
noncomputable section
abbrev LS:=List ByteArray
abbrev dSS:Dec (List LS):=dL 1 dSs
section
variable {α β:Type} {n sz sz' f i:Nat} {ob:bJ} {k k' fr:Bool} {l:List LS}
theorem aBk {g:LS→β} (h:i<l.length):Option.map g l[i]?=some (g ((l[i]?).getD [])):=by simp[h]
theorem kZ {F:PV→Option PV} {g g':α→PV} (h:∀x,F (g x)=some (g' x)):∀{l:List α},(l.map g).mapM F=some (l.map g')
 |[]=>rfl
 |x::l=>by rw[List.map_cons,List.mapM_cons,h x,kZ h];rfl
theorem ajY {m:Nat} {p:LS}:reify false m ob (f+2) (.lst k sz (p.map fun s=> .val (.string s)))=some (.lst false sz (p.map fun s=> .val (.string s))):=qx
theorem wT {m:Nat} {p:LS}:reify fr m ob (f+2) (.lst true sz (p.map fun s=> .val (.string s)))=some (.lst fr sz (p.map fun s=> .val (.string s))):=by
 cases fr
 ·exact qx
 ·exact xH
theorem afy:reify false n ob (f+3) (.lst k sz (l.map fun p=> .lst k' sz' (p.map fun s=> .val (.string s))))=some (.lst false sz (l.map fun p=> .lst false sz' (p.map fun s=> .val (.string s)))):=by show(if false=true∧k=false∧(l.map fun p=>PV.lst k' sz' (p.map fun s=>PV.val (.string s)))≠[]then none else((l.map fun p=>PV.lst k' sz' (p.map fun s=>PV.val (.string s))).mapM (reify false n ob (f+2))).map (PV.lst false sz))=_;rw[kZ (g':=fun p=>PV.lst false sz' (p.map fun s=>PV.val (.string s))) fun p=>ajY];simp
theorem aeb:reify true n ob (f+3) (.lst true sz (l.map fun p=> .lst true sz' (p.map fun s=> .val (.string s))))=some (.lst true sz (l.map fun p=> .lst true sz' (p.map fun s=> .val (.string s)))):=by show(if true=true∧true=false∧(l.map fun p=>PV.lst true sz' (p.map fun s=>PV.val (.string s)))≠[]then none else((l.map fun p=>PV.lst true sz' (p.map fun s=>PV.val (.string s))).mapM (reify true n ob (f+2))).map (PV.lst true sz))=_;rw[kZ (g':=fun p=>PV.lst true sz' (p.map fun s=>PV.val (.string s))) fun p=>wT];simp
theorem ajH {m T:Nat} (hm:m=l.length):rZ fr (f+2) ob sz 0 m (some (T,sz,l.map fun p=> .lst true sz' (p.map fun s=> .val (.string s))))=some (.lst fr sz (l.map fun p=> .lst fr sz' (p.map fun s=> .val (.string s)))):=by
 subst hm;have e:((l.map fun p=>PV.lst true sz' (p.map fun s=>PV.val (.string s))).drop 0).take l.length=l.map fun p=>PV.lst true sz' (p.map fun s=>PV.val (.string s)):=by rw[List.drop_zero,List.take_of_length_le (by simp)]
 have e2:=kZ (l:=l) (F:=reify fr 0 ob (f+2)) (g:=fun p=>PV.lst true sz' (p.map fun s=>PV.val (.string s))) (g':=fun p=>PV.lst fr sz' (p.map fun s=>PV.val (.string s))) fun p=>wT;simp only[rZ,e,e2,Nat.zero_add,List.length_map,Nat.le_refl,and_self,if_true,Option.map_some]
end
attribute[push_cast]
 aBk afy aeb ajH
theorem ae0 {α:Type} {d:α} {xs ys:List α} (hl:xs.length=ys.length) (h:∀j,j<xs.length→xs[j]?.getD d=ys[j]?.getD d):xs=ys:=by apply List.ext_getElem hl;intro i h1 h2;have:=h i h1;simpa [h1,h2]using this
abbrev rV (l:LS):Prop:=l.length≤1048576∧∀i:Nat,(l[i]?.getD .empty).size≤1048576
instance (l:LS):Decidable (rV l):=Classical.propDecidable _
theorem kN {α:Type} {d:α} {p:α→Bool} {l:List α} {k:Nat} (h:k<l.length) (hb:p (l[k]?.getD d)=false):l.all p=false:=by rw[List.all_eq_false];exact⟨l[k],List.getElem_mem h,by simp[h]at hb;simp[hb]⟩
theorem iD {α:Type} {d:α} {p:α→Bool} {l:List α} (h:∀j,j<l.length→p (l[j]?.getD d)=true):l.all p=true:=by rw[List.all_eq_true];intro x hx;obtain⟨j,hj,rfl⟩:=List.getElem_of_mem hx;simpa [hj]using h j hj
def yw (c:Int):Bool:=inB c 97 122
def aeM (c:Int):Bool:=inB c 48 57
def aek (s:ByteArray) (k:Nat):Bool:=decide (0<k)&&aeM (at8 s (k-1))
def y8 (s:ByteArray) (k:Nat):Bool:=yw (at8 s k)||(aeM (at8 s k)&& !aek s k)||(decide (at8 s k=46)&&(decide (k=0)||decide (k+1=s.size)))
def anyS (s:ByteArray) (k:Nat):Bool:=(List.range k).any fun j=>yw (at8 s j)
theorem acM (s:ByteArray) (k:Nat):anyS s (k+1)=(anyS s k||yw (at8 s k)):=by simp[anyS,List.range_succ,List.any_append]
def acV (s:ByteArray):Bool:=(List.range s.size).all (y8 s)&&(anyS s s.size&&decide (s.size≤12))
theorem amd {s:ByteArray} {k:Nat} (h:k<s.size) (hb:y8 s k=false):acV s=false:=by
 have:(List.range s.size).all (y8 s)=false:=by rw[List.all_eq_false];exact⟨k,List.mem_range.2 h,by simp[hb]⟩
 simp[acV,this]
theorem apG {s:ByteArray} (h:∀j,j<s.size→y8 s j=true):acV s=(anyS s s.size&&decide (s.size≤12)):=by
 have:(List.range s.size).all (y8 s)=true:=by rw[List.all_eq_true];exact fun k hk=>h k (List.mem_range.1 hk)
 simp[acV,this]
def aaF:Fun:=F1 dS fun s=>if s.size≤1099511627776 then some (bv (acV s))else none
theorem vD {s:ByteArray} (h:s.size≤1099511627776):aaF [.val (.string s)]=some (.val (.bool (acV s))):=
 (fM (A:=dS) s).trans (if_pos h)
theorem lF {s:ByteArray} {k:Nat}:y8 s k=true↔(97≤at8 s k∧at8 s k≤122)∨(48≤at8 s k∧at8 s k≤57∧aek s k=false)∨(at8 s k=46∧(k=0∨k+1=s.size)):=by simp[y8,yw,aeM,inB,or_assoc,and_assoc]
theorem ahW {c:Int} (h:c<97∨122<c):yw c=false:=Bool.eq_false_iff.2 fun h2=>by have:=av.1 h2;omega
theorem atM {c:Int} (h:c<48∨57<c):aeM c=false:=Bool.eq_false_iff.2 fun h2=>by have:=av.1 h2;omega
structure afP (s:ByteArray) (k:Nat) (n:Int):Prop where
 kk:k≤s.size
 n0:0≤n
 n1:n≤k
 all:∀j,j<k→y8 s j=true
 any:decide (0<n)=anyS s k
theorem afP.zero (s:ByteArray):afP s 0 0:=⟨Nat.zero_le _,by omega,by omega,fun j hj=>by omega,rfl⟩
theorem afP.letter {s:ByteArray} {k:Nat} {n:Int} (h:afP s k n) (hk:k<s.size) (hs:yw (at8 s k)=true):afP s (k+1) (n+1):=
 ⟨by omega,by have:=h.n0;omega,by have:=h.n1;omega,fun j hj=>by
   by_cases h1:j<k
   ·exact h.all j h1
   ·have:j=k:=by omega
    subst this;simp[y8,hs],by
   rw[acM,hs,Bool.or_true];have:=h.n0;simp;omega⟩
theorem afP.other {s:ByteArray} {k:Nat} {n:Int} (h:afP s k n) (hk:k<s.size) (hp:y8 s k=true) (hs:yw (at8 s k)=false):afP s (k+1) n:=
 ⟨by omega,h.n0,by have:=h.n1;omega,fun j hj=>by
   by_cases h1:j<k
   ·exact h.all j h1
   ·have:j=k:=by omega
    subst this;exact hp,by rw[acM,hs,Bool.or_false];exact h.any⟩
theorem afP.done {s:ByteArray} {k:Nat} {n:Int} (h:afP s k n) (hk:¬k<s.size):acV s=(decide (0<n)&&decide (s.size≤12)):=by
 have hk2:=h.kk;have:k=s.size:=by omega
 subst this;rw[apG h.all,h.any]
theorem sJ (s:ByteArray) (k:Nat):aek s (k+1)=aeM (at8 s k):=by simp[aek]
theorem jW:Sound Tryz.prog 69 aaF:=by
 refine au mixed iL Tryz.func69 rfl 57 rfl [.tmp 2] rfl (by kernel_rfl) fun ps r hr=>?_;obtain⟨s,rfl,hq⟩:=bK hr;clear hr;split at hq
 case isFalse=>cases hq
 case isTrue hlen=>
 cases hq;refine⟨by simp,?_⟩;simp only[dIs,dUs,dSs,dw,dx,dh,dA,aS,dz,aQ,aR,aO,aP];(refine wlkX ?_;intros);refine aD (α:=Nat×Int) mixed (fun k=>[(0,sv s),(3,iv k.2),(4,bv (aek s k.1)),(5,iv k.1)]) (fun _=>[]) (fun _=>0)
  (fun k=>afP s k.1 k.2) (fun k=>s.size-k.1) (by kernel_rfl) (0,0) (afP.zero s) ?_ trivial rfl ?_
 ·simp only[push_cast,↓reduceIte,Rq,Rb,Ra,Rs,Rt]
  rfl
 ·rintro⟨k,n⟩ hi
  dsimp only at hi;have hk:=hi.kk;have hn0:=hi.n0;have hn1:=hi.n1;have hrk:=ji s k;generalize hd:aek s k=d
  repeat' (first|(with_reducible first|apply gu|apply bI|apply dJ|apply dF|apply gG|apply nJ|apply fU|apply fV|apply mY|apply gB|apply gK|apply nK|apply gM|apply fT|apply fZ)|((with_reducible apply bf);(simp only[List.map_cons,List.map_nil]<;>exact rfl))|((with_reducible apply dD);(simp only[List.map_cons,List.map_nil]<;>exact rfl);decide+kernel)|((with_reducible apply gL);rfl)|((first|((with_reducible apply i_V);rfl;rfl;rfl)|((first|((with_reducible apply i_E);rfl)|((with_reducible apply i_S);rfl));first|rfl|(simp only[push_cast,↓reduceIte]))|((with_reducible apply nR);rfl;rfl)|((with_reducible apply nD);rfl;rfl;rfl)|(with_reducible first|apply om|apply dH));(simp(disch:=(first|omega|(simp only[push_cast];first|done|omega))) only[push_cast,↓reduceIte,Rq,Rb,Ra,Rs,Rt, *]<;>with_reducible exact rfl);all_goals try(first|(with_reducible first|refine hyT ?_|refine hyF ?_|exact hyA|exact hyB)|(intro hX;first|(cases hX;done)|((try simp only[decide_eq_true_eq,decide_eq_false_iff_not,Bool.not_eq_true',Bool.not_eq_false']at hX);(try have hXb:=av.1 hX))))))
  all_goals try(refine fnG ?_;try with_reducible exact trivial)
  all_goals try(exfalso;omega)
  all_goals(first
   |(rw[amd (k:=k) (by omega) (Bool.eq_false_iff.2 fun h=>by rcases lF.1 h with h|h|h<;>(first|omega|(simp_all;done)|(simp_all;omega)))];done)
   |exact⟨(k+1,n+1),hi.letter (by omega) (av.2 ⟨by omega,by omega⟩),by dsimp only;omega,by(have hdg:=@atM (at8 s k) (by omega);simp only[push_cast,↓reduceIte,Rq,Rb,Ra,Rs,Rt,sJ,hdg]),trivial,rfl⟩
   |exact⟨(k+1,n),hi.other (by omega) (lF.2 (.inr (.inr ⟨by omega,by omega⟩))) (ahW (by omega)),by dsimp only;omega,by(have hdg:=@atM (at8 s k) (by omega);simp only[push_cast,↓reduceIte,Rq,Rb,Ra,Rs,Rt,sJ,hdg];try exact congrArg (fun z=>PV.val (Value.int .i64 z)) (by omega)),trivial,rfl⟩
   |exact⟨(k+1,n),hi.other (by omega) (lF.2 (.inr (.inl ⟨by omega,by omega,by simp_all⟩))) (ahW (by omega)),by dsimp only;omega,by(have hdg:aeM (at8 s k)=true:=av.2 ⟨by omega,by omega⟩;simp only[push_cast,↓reduceIte,Rq,Rb,Ra,Rs,Rt,sJ,hdg]),trivial,rfl⟩
   |(rw[hi.done (by omega)];simp_all;done)
   |(rw[hi.done (by omega)];simp_all;omega))
def ai7:Fun:=F1 dU fun n=>some (bv (inB n 48 57))
theorem agq (n:Int):ai7 [.val (.int .u8 n)]=some (.val (.bool (inB n 48 57))):=rfl
theorem zD:Sound Tryz.prog 135 ai7:=by
 refine au mixed iL Tryz.func135 rfl 9 rfl [.tmp 2] rfl (by kernel_rfl) fun ps r hr=>?_;obtain⟨n,rfl,hr⟩:=bK hr;cases hr;refine⟨by simp,?_⟩;simp only[dIs,dUs,dSs,dw,dx,dh,dA,aS,dz,aQ,aR,aO,aP];(refine wlkX6 ?_ ?_ ?_ ?_ ?_ ?_<;>intros<;>try with_reducible exact trivial);all_goals(refine fnG ?_;try with_reducible exact trivial)
 all_goals(first|(simp_all [inB];done)|(simp_all [inB];omega))
def GPt:Ctx:={fn:=aT [(111,nZ),(135,ai7)],io:=aT []}
theorem az7:ak Tryz.prog GPt:=okΓ (fC Tryz.func111 sj (fC Tryz.func135 zD aj)) aj
def aw4:=ah (Γ:=GPt) (f:=111) (φ:=nZ) rfl
def awg:=ah (Γ:=GPt) (f:=135) (φ:=ai7) rfl
theorem pK:Sound Tryz.prog 100 aaF:=by
 refine au mixed az7 Tryz.func100 rfl 51 rfl [.tmp 2] rfl (by kernel_rfl) fun ps r hr=>?_;obtain⟨s,rfl,hq⟩:=bK hr;clear hr;split at hq
 case isFalse=>cases hq
 case isTrue hlen=>
 cases hq;refine⟨by simp,?_⟩;simp only[dIs,dUs,dSs,dw,dx,dh,dA,aS,dz,aQ,aR,aO,aP];have gpt_c111:=aw4;have gpt_c135:=awg;have ap:=sG;have ap2:=agq;(refine wlkX ?_;intros);refine aD (α:=Nat×Int) mixed (fun k=>[(0,sv s),(3,iv k.2),(7,iv s.size),(8,iv k.1)]) (fun _=>[]) (fun _=>0)
  (fun k=>afP s k.1 k.2) (fun k=>s.size-k.1) (by kernel_rfl) (0,0) (afP.zero s) ?_ trivial rfl ?_
 ·simp only[push_cast,↓reduceIte,Rq,Rb,Ra,Rs,Rt]
 ·rintro⟨k,n⟩ hi
  dsimp only at hi;have hk:=hi.kk;have hn0:=hi.n0;have hn1:=hi.n1;have hrk:=ji s k;have hpd:aek s k=(decide (0<k)&&inB (at8 s (k-1)) 48 57):=rfl;have hsm:inB (at8 s k) 97 122=false→(at8 s k<97∨122<at8 s k):=fun h=>by
   by_cases hh:97≤at8 s k∧at8 s k≤122
   ·rw[av.2 hh]at h;cases h
   ·omega
  have hdgk:inB (at8 s k) 48 57=false→(at8 s k<48∨57<at8 s k):=fun h=>by
   by_cases hh:48≤at8 s k∧at8 s k≤57
   ·rw[av.2 hh]at h;cases h
   ·omega
  have hpd:=Lib.hid hpd;have hsm:=Lib.hid hsm;have hdgk:=Lib.hid hdgk
  repeat' (first|(with_reducible first|apply gu|apply bI|apply dJ|apply dF|apply gG|apply nJ|apply fU|apply fV|apply mY|apply gB|apply gK|apply nK|apply gM|apply fT|apply fZ)|((with_reducible apply bf);(simp only[List.map_cons,List.map_nil]<;>exact rfl))|((with_reducible apply dD);(simp only[List.map_cons,List.map_nil]<;>exact rfl);decide+kernel)|((with_reducible apply gL);rfl)|((first|((with_reducible apply i_V);rfl;rfl;rfl)|((first|((with_reducible apply i_E);rfl)|((with_reducible apply i_S);rfl));first|rfl|(simp only[push_cast,↓reduceIte]))|((with_reducible apply nR);rfl;rfl)|((with_reducible apply nD);rfl;rfl;rfl)|(with_reducible first|apply om|apply dH));(simp(disch:=(first|omega|(simp only[push_cast];first|done|omega))) only[push_cast,↓reduceIte,Rq,Rb,Ra,Rs,Rt, *]<;>with_reducible exact rfl);all_goals try(first|(with_reducible first|refine hyT ?_|refine hyF ?_|exact hyA|exact hyB)|(intro hX;first|(cases hX;done)|((try simp only[decide_eq_true_eq,decide_eq_false_iff_not,Bool.not_eq_true',Bool.not_eq_false']at hX);(try have hXb:=av.1 hX))))))
  all_goals try(refine fnG ?_;try with_reducible exact trivial)
  all_goals try(exfalso;omega)
  all_goals(have hpd1:=hpd.out;have hsm1:=hsm.out;have hdgk1:=hdgk.out)
  all_goals(first
   |(rw[amd (k:=k) (by omega) (Bool.eq_false_iff.2 fun h=>by rcases lF.1 h with h|h|h<;>(first|omega|(simp_all;done)|(simp_all;omega)))];done)
   |exact⟨(k+1,n+1),hi.letter (by omega) (by assumption),by dsimp only;omega,by simp only[push_cast,↓reduceIte,Rq,Rb,Ra,Rs,Rt],trivial,rfl⟩
   |exact⟨(k+1,n),hi.other (by omega) (lF.2 (.inr (.inr ⟨by omega,by omega⟩))) (by assumption),by dsimp only;omega,by(simp only[push_cast,↓reduceIte,Rq,Rb,Ra,Rs,Rt];try exact congrArg (fun z=>PV.val (Value.int .i64 z)) (by omega)),trivial,rfl⟩
   |exact⟨(k+1,n),hi.other (by omega) (lF.2 (.inr (.inl ⟨by omega,by omega,by simp_all⟩))) (by assumption),by dsimp only;omega,by simp only[push_cast,↓reduceIte,Rq,Rb,Ra,Rs,Rt],trivial,rfl⟩
   |(rw[hi.done (by omega)];simp_all;done)
   |(rw[hi.done (by omega)];simp_all;omega))
def bF (l:LS):Bool:=decide (l.length≤12)&&l.all dn
def jU:Fun:=F1 dSs fun l=>if rV l then some (bv (bF l))else none
theorem oC {l:LS} (h:rV l):jU [.lst false 1 (l.map fun s=> .val (.string s))]=some (.val (.bool (bF l))):=
 (fM (A:=dSs) l).trans (if_pos h)
def aml:Ctx:={fn:=aT [(68,fQ)],io:=aT []}
theorem aiD:ak Tryz.prog aml:=okΓ (fC Tryz.func68 fH aj) aj
def ajq:=ah (Γ:=aml) (f:=68) (φ:=fQ) rfl
theorem lH:Sound Tryz.prog 32 jU:=by
 refine au mixed aiD Tryz.func32 rfl 19 rfl [.tmp 2] rfl (by kernel_rfl) fun ps r hr=>?_;obtain⟨l,rfl,hq⟩:=bK hr;clear hr;split at hq
 case isFalse=>cases hq
 case isTrue hok=>
 cases hq;obtain⟨hlen,hsz⟩:=hok;refine⟨by simp,?_⟩;simp only[dIs,dUs,dSs,dw,dx,dh,dA,aS,dz,aQ,aR,aO,aP];have gswords_c68:=ajq;(refine wlkX6 ?_ ?_ ?_ ?_ ?_ ?_<;>intros<;>try with_reducible exact trivial);refine aD (α:=Nat) mixed (fun k=>[(0,.lst false 1 (l.map fun s=> .val (.string s))),(3,iv k)]) (fun _=>[]) (fun _=>0)
  (fun k=>k≤l.length∧∀j,j<k→dn (l[j]?.getD .empty)=true) (fun k=>l.length-k) (by kernel_rfl) 0 ⟨Nat.zero_le _,fun j hj=>by omega⟩ ?_ trivial rfl ?_
 ·simp only[push_cast,↓reduceIte,Rq,Rb,Ra,Rs,Rt]
 ·intro k ⟨hk,hok⟩
  have ap:=@iA (l[k]?.getD .empty) (by have:=hsz k;omega);clear hsz;(refine wlkX6 ?_ ?_ ?_ ?_ ?_ ?_<;>intros<;>try with_reducible exact trivial);all_goals try(refine fnG ?_;try with_reducible exact trivial)
  ·rw[show bF l=false from by(unfold bF;rw[kN (d:=.empty) (k:=k) (by omega) (by simp_all),Bool.and_false])]
  ·refine⟨k+1,⟨by omega,fun j hj=>?_⟩,by dsimp only;omega,by simp only[push_cast,↓reduceIte,Rq,Rb,Ra,Rs,Rt],trivial,rfl⟩
   by_cases h1:j<k
   ·exact hok j h1
   ·have:j=k:=by omega
    subst this;simp_all
  ·rw[show bF l=decide (l.length≤12)from by(unfold bF;rw[iD (d:=.empty) fun j hj=>hok j (by omega),Bool.and_true])]
   simp;omega
def ani:Ctx:={fn:=aT [(81,fQ)],io:=aT []}
theorem ajt:ak Tryz.prog ani:=okΓ (fC Tryz.func81 fE aj) aj
def ai4:=ah (Γ:=ani) (f:=81) (φ:=fQ) rfl
theorem lu:Sound Tryz.prog 70 jU:=by
 refine au mixed ajt Tryz.func70 rfl 18 rfl [.tmp 2] rfl (by kernel_rfl) fun ps r hr=>?_;obtain⟨l,rfl,hq⟩:=bK hr;clear hr;split at hq
 case isFalse=>cases hq
 case isTrue hok=>
 cases hq;obtain⟨hlen,hsz⟩:=hok;refine⟨by simp,?_⟩;simp only[dIs,dUs,dSs,dw,dx,dh,dA,aS,dz,aQ,aR,aO,aP];have giwords_c81:=ai4;(refine wlkX6 ?_ ?_ ?_ ?_ ?_ ?_<;>intros<;>try with_reducible exact trivial);refine aD (α:=Nat) mixed (fun k=>[(0,.lst false 1 (l.map fun s=> .val (.string s))),(5,.lst false 1 (l.map fun s=> .val (.string s))),(6,iv l.length),(7,iv k)]) (fun _=>[]) (fun _=>0)
  (fun k=>k≤l.length∧∀j,j<k→dn (l[j]?.getD .empty)=true) (fun k=>l.length-k) (by kernel_rfl) 0 ⟨Nat.zero_le _,fun j hj=>by omega⟩ ?_ trivial rfl ?_
 ·simp only[push_cast,↓reduceIte,Rq,Rb,Ra,Rs,Rt]
 ·intro k ⟨hk,hok⟩
  have ap:=@iA (l[k]?.getD .empty) (by have:=hsz k;omega);clear hsz;(refine wlkX6 ?_ ?_ ?_ ?_ ?_ ?_<;>intros<;>try with_reducible exact trivial);all_goals try(refine fnG ?_;try with_reducible exact trivial)
  ·rw[show bF l=false from by(unfold bF;rw[kN (d:=.empty) (k:=k) (by omega) (by simp_all),Bool.and_false])]
  ·refine⟨k+1,⟨by omega,fun j hj=>?_⟩,by dsimp only;omega,by simp only[push_cast,↓reduceIte,Rq,Rb,Ra,Rs,Rt],trivial,rfl⟩
   by_cases h1:j<k
   ·exact hok j h1
   ·have:j=k:=by omega
    subst this;simp_all
  ·rw[show bF l=decide (l.length≤12)from by(unfold bF;rw[iD (d:=.empty) fun j hj=>hok j (by omega),Bool.and_true])]
   simp;omega
def bE (l:LS):Bool:=decide (l.length≤20)&&l.all acV
def iT:Fun:=F1 dSs fun l=>if rV l then some (bv (bE l))else none
theorem jB {l:LS} (h:rV l):iT [.lst false 1 (l.map fun s=> .val (.string s))]=some (.val (.bool (bE l))):=
 (fM (A:=dSs) l).trans (if_pos h)
def att:Ctx:={fn:=aT [(69,aaF)],io:=aT []}
theorem akL:ak Tryz.prog att:=okΓ (fC Tryz.func69 jW aj) aj
def aok:=ah (Γ:=att) (f:=69) (φ:=aaF) rfl
theorem eB:Sound Tryz.prog 33 iT:=by
 refine au mixed akL Tryz.func33 rfl 19 rfl [.tmp 2] rfl (by kernel_rfl) fun ps r hr=>?_;obtain⟨l,rfl,hq⟩:=bK hr;clear hr;split at hq
 case isFalse=>cases hq
 case isTrue hok=>
 cases hq;obtain⟨hlen,hsz⟩:=hok;refine⟨by simp,?_⟩;simp only[dIs,dUs,dSs,dw,dx,dh,dA,aS,dz,aQ,aR,aO,aP];have gspats_c69:=aok;(refine wlkX6 ?_ ?_ ?_ ?_ ?_ ?_<;>intros<;>try with_reducible exact trivial);refine aD (α:=Nat) mixed (fun k=>[(0,.lst false 1 (l.map fun s=> .val (.string s))),(3,iv k)]) (fun _=>[]) (fun _=>0)
  (fun k=>k≤l.length∧∀j,j<k→acV (l[j]?.getD .empty)=true) (fun k=>l.length-k) (by kernel_rfl) 0 ⟨Nat.zero_le _,fun j hj=>by omega⟩ ?_ trivial rfl ?_
 ·simp only[push_cast,↓reduceIte,Rq,Rb,Ra,Rs,Rt]
 ·intro k ⟨hk,hok⟩
  have ap:=@vD (l[k]?.getD .empty) (by have:=hsz k;omega);clear hsz;(refine wlkX6 ?_ ?_ ?_ ?_ ?_ ?_<;>intros<;>try with_reducible exact trivial);all_goals try(refine fnG ?_;try with_reducible exact trivial)
  ·rw[show bE l=false from by(unfold bE;rw[kN (d:=.empty) (k:=k) (by omega) (by simp_all),Bool.and_false])]
  ·refine⟨k+1,⟨by omega,fun j hj=>?_⟩,by dsimp only;omega,by simp only[push_cast,↓reduceIte,Rq,Rb,Ra,Rs,Rt],trivial,rfl⟩
   by_cases h1:j<k
   ·exact hok j h1
   ·have:j=k:=by omega
    subst this;simp_all
  ·rw[show bE l=decide (l.length≤20)from by(unfold bE;rw[iD (d:=.empty) fun j hj=>hok j (by omega),Bool.and_true])]
   simp;omega
def as3:Ctx:={fn:=aT [(100,aaF)],io:=aT []}
theorem alf:ak Tryz.prog as3:=okΓ (fC Tryz.func100 pK aj) aj
def ai1:=ah (Γ:=as3) (f:=100) (φ:=aaF) rfl
theorem eD:Sound Tryz.prog 71 iT:=by
 refine au mixed alf Tryz.func71 rfl 18 rfl [.tmp 2] rfl (by kernel_rfl) fun ps r hr=>?_;obtain⟨l,rfl,hq⟩:=bK hr;clear hr;split at hq
 case isFalse=>cases hq
 case isTrue hok=>
 cases hq;obtain⟨hlen,hsz⟩:=hok;refine⟨by simp,?_⟩;simp only[dIs,dUs,dSs,dw,dx,dh,dA,aS,dz,aQ,aR,aO,aP];have gipats_c100:=ai1;(refine wlkX6 ?_ ?_ ?_ ?_ ?_ ?_<;>intros<;>try with_reducible exact trivial);refine aD (α:=Nat) mixed (fun k=>[(0,.lst false 1 (l.map fun s=> .val (.string s))),(5,.lst false 1 (l.map fun s=> .val (.string s))),(6,iv l.length),(7,iv k)]) (fun _=>[]) (fun _=>0)
  (fun k=>k≤l.length∧∀j,j<k→acV (l[j]?.getD .empty)=true) (fun k=>l.length-k) (by kernel_rfl) 0 ⟨Nat.zero_le _,fun j hj=>by omega⟩ ?_ trivial rfl ?_
 ·simp only[push_cast,↓reduceIte,Rq,Rb,Ra,Rs,Rt]
 ·intro k ⟨hk,hok⟩
  have ap:=@vD (l[k]?.getD .empty) (by have:=hsz k;omega);clear hsz;(refine wlkX6 ?_ ?_ ?_ ?_ ?_ ?_<;>intros<;>try with_reducible exact trivial);all_goals try(refine fnG ?_;try with_reducible exact trivial)
  ·rw[show bE l=false from by(unfold bE;rw[kN (d:=.empty) (k:=k) (by omega) (by simp_all),Bool.and_false])]
  ·refine⟨k+1,⟨by omega,fun j hj=>?_⟩,by dsimp only;omega,by simp only[push_cast,↓reduceIte,Rq,Rb,Ra,Rs,Rt],trivial,rfl⟩
   by_cases h1:j<k
   ·exact hok j h1
   ·have:j=k:=by omega
    subst this;simp_all
  ·rw[show bE l=decide (l.length≤20)from by(unfold bE;rw[iD (d:=.empty) fun j hj=>hok j (by omega),Bool.and_true])]
   simp;omega
abbrev BK:=List LS×LS×Int×Int×Int
abbrev sD:Dec BK:=dA5 dSS dSs dI dI dI
def aza (w:LS):Bool:=bF w&& !decide (w.length=0)
def jg (p:List LS) (q:LS) (x y z:Int):Bool:=p.all aza&&(decide (p.length≤6)&&(bE q&&(inB x 0 1000&&(inB y 0 10000&&inB z 1 30))))
abbrev ab8 (p:List LS) (q:LS):Prop:=p.length≤1048576∧(∀i:Nat,rV (p[i]?.getD []))∧rV q
instance (p:List LS) (q:LS):Decidable (ab8 p q):=Classical.propDecidable _
def pU:Fun:=F1 sD fun b=>if ab8 b.1 b.2.1 then some (bv (jg b.1 b.2.1 b.2.2.1 b.2.2.2.1 b.2.2.2.2))else none
theorem zC {p:List LS} {q:LS} {x y z:Int} (h:ab8 p q):pU [.agg [.lst false 1 (p.map fun p=> .lst false 1 (p.map fun s=> .val (.string s))),.lst false 1 (q.map fun s=> .val (.string s)),.val (.int .i64 x),.val (.int .i64 y),.val (.int .i64 z)]]=some (.val (.bool (jg p q x y z))):=
 (fM (A:=sD) (p,q,x,y,z)).trans (if_pos h)
def qF:Fun:=F1 dI fun n=>some (bv (inB n 0 10000))
theorem oK (n:Int):qF [.val (.int .i64 n)]=some (.val (.bool (inB n 0 10000))):=rfl
def GBd:Ctx:={fn:=aT [(64,φIn)],io:=aT []}
theorem azg:ak Tryz.prog GBd:=okΓ (fC Tryz.func64 qR aj) aj
def aAs:=ah (Γ:=GBd) (f:=64) (φ:=φIn) rfl
theorem qG:Sound Tryz.prog 72 qF:=by refine au mixed azg Tryz.func72 rfl 5 rfl [.tmp 2] rfl (by kernel_rfl) fun ps r hr=>?_;obtain⟨n,rfl,hr⟩:=bK hr;cases hr;refine⟨by simp,?_⟩;simp only[dIs,dUs,dSs,dw,dx,dh,dA,aS,dz,aQ,aR,aO,aP];have gbd_c64:=aAs;have ap:=bM;(refine wlkX ?_;intros);all_goals(exact fnF)
def GKs:Ctx:={fn:=aT [(32,jU),(33,iT),(34,φIn)],io:=aT []}
theorem aAx:ak Tryz.prog GKs:=okΓ (fC Tryz.func32 lH (fC Tryz.func33 eB (fC Tryz.func34 gY aj))) aj
def aBN:=ah (Γ:=GKs) (f:=32) (φ:=jU) rfl
def aBf:=ah (Γ:=GKs) (f:=33) (φ:=iT) rfl
def azF:=ah (Γ:=GKs) (f:=34) (φ:=φIn) rfl
theorem uW:Sound Tryz.prog 9 pU:=by
 refine au mixed aAx Tryz.func9 rfl 51 rfl [.tmp 2] rfl (by kernel_rfl) fun ps r hr=>?_;obtain⟨⟨p,q,x,y,z⟩,rfl,hq⟩:=bK hr;clear hr;split at hq
 case isFalse=>cases hq
 case isTrue hok=>
 cases hq;dsimp only at hok;obtain⟨hlen,hall,hoq⟩:=hok;have ap2:=jB hoq;clear hoq;refine⟨by simp,?_⟩;simp only[dIs,dUs,dSs,dw,dx,dh,dA,aS,dz,aQ,aR,aO,aP];have gks_c32:=aBN;have gks_c33:=aBf;have gks_c34:=azF;have ap3:=bM;have ap4:=oK;(refine wlkX6 ?_ ?_ ?_ ?_ ?_ ?_<;>intros<;>try with_reducible exact trivial);refine aD (α:=Nat) mixed (fun k=>[(1,.own 0 5 0 0),(3,iv k)]) (fun _=>[(0,26,5,[.agg [.lst false 1 (p.map fun p=> .lst false 1 (p.map fun s=> .val (.string s))),.lst false 1 (q.map fun s=> .val (.string s)),.val (.int .i64 x),.val (.int .i64 y),.val (.int .i64 z)]])]) (fun _=>1)
  (fun k=>k≤p.length∧∀j,j<k→aza (p[j]?.getD [])=true) (fun k=>p.length-k) (by kernel_rfl) 0 ⟨Nat.zero_le _,fun j hj=>by omega⟩ ?_ ?_ ?_ ?_
 ·simp only[push_cast,↓reduceIte,Rq,Rb,Ra,Rs,Rt]
 ·simp only[push_cast,↓reduceIte,Rq,Rb,Ra,Rs,Rt]
 ·simp only[push_cast,↓reduceIte,Rq,Rb,Ra,Rs,Rt]
 ·intro k ⟨hk,hok⟩
  have ap:=oC (hall k);have hpl:=(hall k).1;clear hall;have hpb:aza (p[k]?.getD [])=(bF (p[k]?.getD [])&& !decide ((p[k]?.getD []).length=0)):=rfl;have hpb:=Lib.hid hpb;have hok:=Lib.hid hok
  repeat' (first|(with_reducible first|apply gu|apply bI|apply dJ|apply dF|apply gG|apply nJ|apply fU|apply fV|apply mY|apply gB|apply gK|apply nK|apply gM|apply fT|apply fZ)|((with_reducible apply bf);(simp only[List.map_cons,List.map_nil]<;>exact rfl))|((with_reducible apply dD);(simp only[List.map_cons,List.map_nil]<;>exact rfl);decide+kernel)|((with_reducible apply gL);rfl)|((first|((with_reducible apply i_V);rfl;rfl;rfl)|((first|((with_reducible apply i_E);rfl)|((with_reducible apply i_S);rfl));first|rfl|(simp only[push_cast,↓reduceIte]))|((with_reducible apply nR);rfl;rfl)|((with_reducible apply nD);rfl;rfl;rfl)|(with_reducible first|apply om|apply dH));(simp(disch:=(first|omega|(simp only[push_cast];first|done|omega))) only[push_cast,↓reduceIte,Rq,Rb,Ra,Rs,Rt, *]<;>with_reducible exact rfl);all_goals try(first|(with_reducible first|refine hyT ?_|refine hyF ?_|exact hyA|exact hyB)|(intro hX;first|(cases hX;done)|((try simp only[decide_eq_true_eq,decide_eq_false_iff_not,Bool.not_eq_true',Bool.not_eq_false']at hX);(try have hXb:=av.1 hX))))))
  all_goals try(refine fnG ?_;try with_reducible exact trivial)
  all_goals try(exfalso;omega)
  all_goals have hpb1:=hpb.out
  all_goals(first
   |(rw[show jg p q x y z=false from by(unfold jg;rw[kN (d:=[]) (k:=k) (by omega) (by simp_all),Bool.false_and])];done)
   |(rw[show jg p q x y z=(decide (p.length≤6)&&(bE q&&(inB x 0 1000&&(inB y 0 10000&&inB z 1 30))))from by(unfold jg;rw[iD (d:=[]) fun j hj=>hok.out j (by omega),Bool.true_and])];simp_all;done)
   |(rw[show jg p q x y z=(decide (p.length≤6)&&(bE q&&(inB x 0 1000&&(inB y 0 10000&&inB z 1 30))))from by(unfold jg;rw[iD (d:=[]) fun j hj=>hok.out j (by omega),Bool.true_and])];simp_all;omega)
   |(refine⟨k+1,⟨by omega,fun j hj=>?_⟩,by dsimp only;omega,by simp only[push_cast,↓reduceIte,Rq,Rb,Ra,Rs,Rt],by simp only[push_cast,↓reduceIte,Rq,Rb,Ra,Rs,Rt],rfl⟩
     by_cases h1:j<k
     ·exact hok.out j h1
     ·have:j=k:=by omega
      subst this;simp_all;try omega))
def GKi:Ctx:={fn:=aT [(70,jU),(71,iT),(64,φIn),(72,qF)],io:=aT []}
theorem aDT:ak Tryz.prog GKi:=okΓ (fC Tryz.func70 lu (fC Tryz.func71 eD (fC Tryz.func64 qR (fC Tryz.func72 qG aj)))) aj
def aAD:=ah (Γ:=GKi) (f:=70) (φ:=jU) rfl
def aDc:=ah (Γ:=GKi) (f:=71) (φ:=iT) rfl
def aA5:=ah (Γ:=GKi) (f:=64) (φ:=φIn) rfl
def aDJ:=ah (Γ:=GKi) (f:=72) (φ:=qF) rfl
theorem uS:Sound Tryz.prog 36 pU:=by
 refine au mixed aDT Tryz.func36 rfl 45 rfl [.tmp 2] rfl (by kernel_rfl) fun ps r hr=>?_;obtain⟨⟨p,q,x,y,z⟩,rfl,hq⟩:=bK hr;clear hr;split at hq
 case isFalse=>cases hq
 case isTrue hok=>
 cases hq;dsimp only at hok;obtain⟨hlen,hall,hoq⟩:=hok;have ap2:=jB hoq;clear hoq;refine⟨by simp,?_⟩;simp only[dIs,dUs,dSs,dw,dx,dh,dA,aS,dz,aQ,aR,aO,aP];have gki_c70:=aAD;have gki_c71:=aDc;have gki_c64:=aA5;have gki_c72:=aDJ;have ap3:=bM;have ap4:=oK;(refine wlkX6 ?_ ?_ ?_ ?_ ?_ ?_<;>intros<;>try with_reducible exact trivial);refine aD (α:=Nat) mixed (fun k=>[(1,.own 0 5 0 0),(6,.lst false 1 (p.map fun p=> .lst false 1 (p.map fun s=> .val (.string s)))),(7,iv p.length),(8,iv k)]) (fun _=>[(0,26,5,[.agg [.lst false 1 (p.map fun p=> .lst false 1 (p.map fun s=> .val (.string s))),.lst false 1 (q.map fun s=> .val (.string s)),.val (.int .i64 x),.val (.int .i64 y),.val (.int .i64 z)]])]) (fun _=>1)
  (fun k=>k≤p.length∧∀j,j<k→aza (p[j]?.getD [])=true) (fun k=>p.length-k) (by kernel_rfl) 0 ⟨Nat.zero_le _,fun j hj=>by omega⟩ ?_ ?_ ?_ ?_
 ·simp only[push_cast,↓reduceIte,Rq,Rb,Ra,Rs,Rt]
 ·simp only[push_cast,↓reduceIte,Rq,Rb,Ra,Rs,Rt]
 ·simp only[push_cast,↓reduceIte,Rq,Rb,Ra,Rs,Rt]
 ·intro k ⟨hk,hok⟩
  have ap:=oC (hall k);have hpl:=(hall k).1;clear hall;have hpb:aza (p[k]?.getD [])=(bF (p[k]?.getD [])&& !decide ((p[k]?.getD []).length=0)):=rfl;have hpb:=Lib.hid hpb;have hok:=Lib.hid hok
  repeat' (first|(with_reducible first|apply gu|apply bI|apply dJ|apply dF|apply gG|apply nJ|apply fU|apply fV|apply mY|apply gB|apply gK|apply nK|apply gM|apply fT|apply fZ)|((with_reducible apply bf);(simp only[List.map_cons,List.map_nil]<;>exact rfl))|((with_reducible apply dD);(simp only[List.map_cons,List.map_nil]<;>exact rfl);decide+kernel)|((with_reducible apply gL);rfl)|((first|((with_reducible apply i_V);rfl;rfl;rfl)|((first|((with_reducible apply i_E);rfl)|((with_reducible apply i_S);rfl));first|rfl|(simp only[push_cast,↓reduceIte]))|((with_reducible apply nR);rfl;rfl)|((with_reducible apply nD);rfl;rfl;rfl)|(with_reducible first|apply om|apply dH));(simp(disch:=(first|omega|(simp only[push_cast];first|done|omega))) only[push_cast,↓reduceIte,Rq,Rb,Ra,Rs,Rt, *]<;>with_reducible exact rfl);all_goals try(first|(with_reducible first|refine hyT ?_|refine hyF ?_|exact hyA|exact hyB)|(intro hX;first|(cases hX;done)|((try simp only[decide_eq_true_eq,decide_eq_false_iff_not,Bool.not_eq_true',Bool.not_eq_false']at hX);(try have hXb:=av.1 hX))))))
  all_goals try(refine fnG ?_;try with_reducible exact trivial)
  all_goals try(exfalso;omega)
  all_goals have hpb1:=hpb.out
  all_goals(first
   |(rw[show jg p q x y z=false from by(unfold jg;rw[kN (d:=[]) (k:=k) (by omega) (by simp_all),Bool.false_and])];done)
   |(rw[show jg p q x y z=(decide (p.length≤6)&&(bE q&&(inB x 0 1000&&(inB y 0 10000&&inB z 1 30))))from by(unfold jg;rw[iD (d:=[]) fun j hj=>hok.out j (by omega),Bool.true_and])];simp_all;done)
   |(rw[show jg p q x y z=(decide (p.length≤6)&&(bE q&&(inB x 0 1000&&(inB y 0 10000&&inB z 1 30))))from by(unfold jg;rw[iD (d:=[]) fun j hj=>hok.out j (by omega),Bool.true_and])];simp_all;omega)
   |(refine⟨k+1,⟨by omega,fun j hj=>?_⟩,by dsimp only;omega,by simp only[push_cast,↓reduceIte,Rq,Rb,Ra,Rs,Rt],by simp only[push_cast,↓reduceIte,Rq,Rb,Ra,Rs,Rt],rfl⟩
     by_cases h1:j<k
     ·exact hok.out j h1
     ·have:j=k:=by omega
      subst this;simp_all;try omega))
theorem aoi {l:LS} {k:Nat} (h:k<l.length):yY (l.take (k+1))=yY (l.take k)+(l[k]?.getD .empty).size:=by rw[List.take_add_one,List.getElem?_eq_getElem h];simp only[yY,List.map_append,List.sum_append,Option.toList_some,List.map_cons,List.map_nil,List.sum_cons,List.sum_nil,Nat.add_zero,Option.getD_some]
theorem uD (l:LS) (k:Nat):yY (l.take k)≤yY l:=by
 have h:yY l=yY (l.take k)+yY (l.drop k):=by
  conv=>lhs;rw[←List.take_append_drop k l]
  simp only[yY,List.map_append,List.sum_append]
 omega
def amB (c:Int) (s:ByteArray):Bool:=s.data.toList.any fun b=>decide (c=(b.toNat:Int))
theorem aFu {b:UInt8} {c:Int} (h0:0≤c) (h1:c≤255):(b==c.toNat.toUInt8)=decide (c=(b.toNat:Int)):=by
 have e:(c.toNat.toUInt8).toNat=c.toNat:=by show c.toNat % 256=c.toNat;omega
 rw[Bool.eq_iff_iff,beq_iff_eq,decide_eq_true_eq];constructor
 ·intro h
  rw[h,e];omega
 ·intro h
  apply UInt8.toNat_inj.1;rw[e];omega
theorem atl:∀(l:List UInt8) {c:Int},0≤c→c≤255→decide (0≤Lib.indexByte l c.toNat.toUInt8)=l.any fun b=>decide (c=(b.toNat:Int))
 |[],c,_,_=>rfl
 |b::l,c,h0,h1=>by
  have ih:=atl l h0 h1;have hge:=Lib.indexByte_ge l c.toNat.toUInt8;unfold Lib.indexByte;rw[aFu h0 h1,List.any_cons];cases hb:decide (c=(b.toNat:Int))with
  |true=>rfl
  |false=>
   rw[Bool.false_or,←ih,if_neg (by decide)];split
   ·rename_i hx
    rw[beq_iff_eq.1 hx]
   ·rename_i hx
    have hx1:¬Lib.indexByte l c.toNat.toUInt8=-1:=fun e=>hx (beq_iff_eq.2 e);exact decide_eq_decide.2 (by omega)
def adT (c:Int):Int:=if c<97∨122<c then 0 else if c=105∨c=106∨c=108 then 3 else if c=102∨c=114∨c=116 then 4 else if c=109∨c=119 then 8 else 5
def rA (a b:Int):Int:=if((a=118∨a=119∨a=121)∧(b=97∨b=101∨b=111))∨(a=114∧(b=110∨b=109))then 1 else 0
def sS (a b:Int):Bool:=decide (a=102∧(b=105∨b=106∨b=108∨b=102))
theorem aaU (c:Int):0≤adT c∧adT c≤8:=by
 unfold adT
 repeat' split
 all_goals omega
theorem xQ (a b:Int):0≤rA a b∧rA a b≤1:=by unfold rA;split<;>omega
def ahh:Fun:=F1 dU fun c=>some (iv (adT c))
theorem alv (c:Int):ahh [.val (.int .u8 c)]=some (.val (.int .i64 (adT c))):=rfl
def ahB:Fun:=F2 dU dU fun a b=>some (iv (rA a b))
theorem aln (a b:Int):ahB [.val (.int .u8 a),.val (.int .u8 b)]=some (.val (.int .i64 (rA a b))):=rfl
def abF:Fun:=F2 dU dU fun a b=>some (bv (sS a b))
theorem aiX (a b:Int):abF [.val (.int .u8 a),.val (.int .u8 b)]=some (.val (.bool (sS a b))):=rfl
theorem ae6:Sound Tryz.prog 219 ahh:=by
 refine au mixed iL Tryz.func219 rfl 39 rfl [.tmp 2] rfl (by kernel_rfl) fun ps r hr=>?_;obtain⟨c,rfl,hr⟩:=bK hr;cases hr;refine⟨by simp,?_⟩;simp only[dIs,dUs,dSs,dw,dx,dh,dA,aS,dz,aQ,aR,aO,aP];(repeat' (first|(with_reducible first|apply gu|apply bI|apply dJ|apply dF|apply gG|apply nJ|apply fU|apply fV|apply mY|apply gB|apply gK|apply nK|apply gM|apply fT|apply fZ)|((with_reducible apply bf);(simp only[List.map_cons,List.map_nil]<;>exact rfl))|((with_reducible apply dD);(simp only[List.map_cons,List.map_nil]<;>exact rfl);decide+kernel)|((with_reducible apply gL);rfl)|((first|((with_reducible apply i_V);rfl;rfl;rfl)|((first|((with_reducible apply i_E);rfl)|((with_reducible apply i_S);rfl));first|rfl|(simp only[push_cast,↓reduceIte]))|((with_reducible apply nR);rfl;rfl)|((with_reducible apply nD);rfl;rfl;rfl)|(with_reducible first|apply om|apply dH));(simp(disch:=(first|omega|(simp only[push_cast];first|done|omega))) only[push_cast,↓reduceIte,Rq,Rb,Ra,Rs,Rt, *]<;>with_reducible exact rfl);all_goals try(first|(with_reducible first|refine hyT ?_|refine hyF ?_|exact hyA|exact hyB)|(intro hX;first|(cases hX;done)|((try simp only[decide_eq_true_eq,decide_eq_false_iff_not,Bool.not_eq_true',Bool.not_eq_false']at hX);(try have hXb:=av.1 hX)))))));all_goals try(exfalso;omega)
 all_goals((first|apply acY|apply uN);simp(disch:=(first|omega|(simp only[push_cast];first|done|omega))) only[push_cast,↓reduceIte,Rq,Rb,Ra,Rs,Rt, *])
 all_goals((refine congrArg (fun z=>some (PV.val (Value.int IntKind.i64 z))) ?_);unfold adT;repeat' split)
 all_goals omega
theorem ad9:Sound Tryz.prog 220 ahB:=by
 refine au mixed iL Tryz.func220 rfl 43 rfl [.tmp 4] rfl (by kernel_rfl) fun ps r hr=>?_;obtain⟨a,b,rfl,hr⟩:=pO hr;cases hr;refine⟨by simp,?_⟩;simp only[dIs,dUs,dSs,dw,dx,dh,dA,aS,dz,aQ,aR,aO,aP];(repeat' (first|(with_reducible first|apply gu|apply bI|apply dJ|apply dF|apply gG|apply nJ|apply fU|apply fV|apply mY|apply gB|apply gK|apply nK|apply gM|apply fT|apply fZ)|((with_reducible apply bf);(simp only[List.map_cons,List.map_nil]<;>exact rfl))|((with_reducible apply dD);(simp only[List.map_cons,List.map_nil]<;>exact rfl);decide+kernel)|((with_reducible apply gL);rfl)|((first|((with_reducible apply i_V);rfl;rfl;rfl)|((first|((with_reducible apply i_E);rfl)|((with_reducible apply i_S);rfl));first|rfl|(simp only[push_cast,↓reduceIte]))|((with_reducible apply nR);rfl;rfl)|((with_reducible apply nD);rfl;rfl;rfl)|(with_reducible first|apply om|apply dH));(simp(disch:=(first|omega|(simp only[push_cast];first|done|omega))) only[push_cast,↓reduceIte,Rq,Rb,Ra,Rs,Rt, *]<;>with_reducible exact rfl);all_goals try(first|(with_reducible first|refine hyT ?_|refine hyF ?_|exact hyA|exact hyB)|(intro hX;first|(cases hX;done)|((try simp only[decide_eq_true_eq,decide_eq_false_iff_not,Bool.not_eq_true',Bool.not_eq_false']at hX);(try have hXb:=av.1 hX)))))));all_goals try(exfalso;omega)
 all_goals((first|apply acY|apply uN);simp(disch:=(first|omega|(simp only[push_cast];first|done|omega))) only[push_cast,↓reduceIte,Rq,Rb,Ra,Rs,Rt, *])
 all_goals((refine congrArg (fun z=>some (PV.val (Value.int IntKind.i64 z))) ?_);unfold rA;repeat' split)
 all_goals omega
theorem ace:Sound Tryz.prog 238 abF:=by refine au mixed iL Tryz.func238 rfl 23 rfl [.tmp 4] rfl (by kernel_rfl) fun ps r hr=>?_;obtain⟨a,b,rfl,hr⟩:=pO hr;cases hr;refine⟨by simp,?_⟩;simp only[dIs,dUs,dSs,dw,dx,dh,dA,aS,dz,aQ,aR,aO,aP];((refine wlk6 ?_ ?_ ?_ ?_ ?_ ?_<;>intros<;>try with_reducible exact trivial)<;>(refine fnG ?_;try with_reducible exact trivial));all_goals((refine congrArg (fun z=>some (PV.val (Value.bool z))) ?_);unfold sS;first|(simp;omega)|simp_all)
def φIb:Fun:=F2 dS dU fun s c=>some (iv (Lib.indexByte s.data.toList c.toNat.toUInt8))
theorem aE1:Sound Tryz.prog 234 φIb:=by
 intro w J ps args r hr hJ hT hargs;obtain⟨s,c,rfl,hq⟩:=pO hr;cases hq;simp only[cZ]at hargs;obtain⟨v1,vs1,e1,h1,v2,vs2,rfl,h2,rfl⟩:=hargs;obtain rfl:args=#[v1,v2]:=by obtain⟨a⟩:=args;simp only at e1;rw[e1]
 simp only[dS,dU,Rep]at h1 h2;subst h1;subst h2;refine(YtmmafcjjlbgnkaaGreatDoor.strings_IndexByte s c w).mono ?_;rintro e w' ⟨rfl,rfl⟩;exact⟨_,rfl,Below.refl _ _,fun g' _=>by simp only[Rep]⟩
theorem aw3 (s:ByteArray) (c:Int):φIb [.val (.string s),.val (.int .u8 c)]=some (.val (.int .i64 (Lib.indexByte s.data.toList c.toNat.toUInt8))):=rfl
def φAm:Fun:=F2 dU dS fun c s=>open Classical in if 0≤c∧c≤255 then some (bv (amB c s))else none
theorem pW {c:Int} (s:ByteArray) (h:0≤c∧c≤255):φAm [.val (.int .u8 c),.val (.string s)]=some (.val (.bool (amB c s))):=(jA (A:=dU) (B:=dS) c s).trans (if_pos h)
def GAm:Ctx:={fn:=aT [(234,φIb)],io:=aT []}
theorem aDy:ak Tryz.prog GAm:=okΓ (fC Tryz.func234 aE1 aj) aj
def awm:=ah (Γ:=GAm) (f:=234) (φ:=φIb) rfl
theorem agD:Sound Tryz.prog 213 φAm:=by refine au mixed aDy Tryz.func213 rfl 9 rfl [.tmp 4] rfl (by kernel_rfl) fun ps r hr=>?_;obtain⟨c,s,rfl,hpre,rfl⟩:=iK hr;refine⟨by simp,?_⟩;simp only[dIs,dUs,dSs,dw,dx,dh,dA,aS,dz,aQ,aR,aO,aP];have e:=atl s.data.toList hpre.1 hpre.2;have hge:=Lib.indexByte_ge s.data.toList c.toNat.toUInt8;have ap:=aw3 s c;unfold amB;rw[←e];generalize Lib.indexByte s.data.toList c.toNat.toUInt8=i at*;clear e;have gam_c234:=awm;exact wlkF
theorem am2 (c a b:Int) (x y:UInt8) (h:(x.toNat:Int)=a) (h2:(y.toNat:Int)=b):amB c ⟨#[x,y]⟩=decide (c=a∨c=b):=by simp[amB,h,h2]
theorem am3 (c a b d:Int) (x y z:UInt8) (h:(x.toNat:Int)=a) (h2:(y.toNat:Int)=b) (h3:(z.toNat:Int)=d):amB c ⟨#[x,y,z]⟩=decide (c=a∨c=b∨c=d):=by simp[amB,h,h2,h3]
theorem am4 (c a b d e:Int) (x y z u:UInt8) (h:(x.toNat:Int)=a) (h2:(y.toNat:Int)=b) (h3:(z.toNat:Int)=d) (h4:(u.toNat:Int)=e):amB c ⟨#[x,y,z,u]⟩=decide (c=a∨c=b∨c=d∨c=e):=by simp[amB,h,h2,h3,h4]
def abC:Fun:=F1 dU fun c=>open Classical in if 0≤c∧c≤255 then some (iv (adT c))else none
theorem ajW {c:Int} (h:0≤c∧c≤255):abC [.val (.int .u8 c)]=some (.val (.int .i64 (adT c))):=(fM (A:=dU) c).trans (if_pos h)
def aay:Fun:=F2 dU dU fun a b=>open Classical in if(0≤a∧a≤255)∧0≤b∧b≤255 then some (iv (rA a b))else none
theorem aju {a b:Int} (h:0≤a∧a≤255) (h2:0≤b∧b≤255):aay [.val (.int .u8 a),.val (.int .u8 b)]=some (.val (.int .i64 (rA a b))):=(jA (A:=dU) (B:=dU) a b).trans (if_pos ⟨h,h2⟩)
def aaI:Fun:=F2 dU dU fun a b=>open Classical in if(0≤a∧a≤255)∧0≤b∧b≤255 then some (bv (sS a b))else none
theorem aiR {a b:Int} (h:0≤a∧a≤255) (h2:0≤b∧b≤255):aaI [.val (.int .u8 a),.val (.int .u8 b)]=some (.val (.bool (sS a b))):=(jA (A:=dU) (B:=dU) a b).trans (if_pos ⟨h,h2⟩)
def GLw:Ctx:={fn:=aT [(111,nZ),(213,φAm)],io:=aT []}
theorem aBP:ak Tryz.prog GLw:=okΓ (fC Tryz.func111 sj (fC Tryz.func213 agD aj)) aj
def au2:=ah (Γ:=GLw) (f:=111) (φ:=nZ) rfl
def auz:=ah (Γ:=GLw) (f:=213) (φ:=φAm) rfl
theorem adW:Sound Tryz.prog 173 abC:=by
 refine au mixed aBP Tryz.func173 rfl 16 rfl [.tmp 2] rfl (by kernel_rfl) fun ps r hr=>?_;obtain⟨c,rfl,hpre,rfl⟩:=jy hr;refine⟨by simp,?_⟩;simp only[dIs,dUs,dSs,dw,dx,dh,dA,aS,dz,aQ,aR,aO,aP];have ap1:=sG c;have ap2:=(pW ⟨#[105,106,108]⟩ hpre).trans (by rw[am3 c 105 106 108 _ _ _ rfl rfl rfl]);have ap3:=(pW ⟨#[102,114,116]⟩ hpre).trans (by rw[am3 c 102 114 116 _ _ _ rfl rfl rfl]);have ap4:=(pW ⟨#[109,119]⟩ hpre).trans (by rw[am2 c 109 119 _ _ rfl rfl]);have glw_c111:=au2;have glw_c213:=auz;((refine wlk6 ?_ ?_ ?_ ?_ ?_ ?_<;>intros<;>try with_reducible exact trivial)<;>(refine fnG ?_;try with_reducible exact trivial));all_goals((refine congrArg (fun z=>some (PV.val (Value.int IntKind.i64 z))) ?_);unfold adT;repeat' split)
 all_goals(first|omega|(simp[inB]at*;omega))
def GNb:Ctx:={fn:=aT [(213,φAm)],io:=aT []}
theorem atY:ak Tryz.prog GNb:=okΓ (fC Tryz.func213 agD aj) aj
def akT:=ah (Γ:=GNb) (f:=213) (φ:=φAm) rfl
theorem aeI:Sound Tryz.prog 174 aay:=by
 refine au mixed atY Tryz.func174 rfl 19 rfl [.tmp 4] rfl (by kernel_rfl) fun ps r hr=>?_;obtain⟨a,b,rfl,hpre,rfl⟩:=iK hr;refine⟨by simp,?_⟩;simp only[dIs,dUs,dSs,dw,dx,dh,dA,aS,dz,aQ,aR,aO,aP];have ap1:=(pW ⟨#[118,119,121]⟩ hpre.1).trans (by rw[am3 a 118 119 121 _ _ _ rfl rfl rfl]);have ap2:=(pW ⟨#[97,101,111]⟩ hpre.2).trans (by rw[am3 b 97 101 111 _ _ _ rfl rfl rfl]);have ap3:=(pW ⟨#[110,109]⟩ hpre.2).trans (by rw[am2 b 110 109 _ _ rfl rfl]);have gnb_c213:=akT;((refine wlk6 ?_ ?_ ?_ ?_ ?_ ?_<;>intros<;>try with_reducible exact trivial)<;>(refine fnG ?_;try with_reducible exact trivial));all_goals((refine congrArg (fun z=>some (PV.val (Value.int IntKind.i64 z))) ?_);unfold rA;repeat' split)
 all_goals omega
theorem ac5:Sound Tryz.prog 212 aaI:=by refine au mixed atY Tryz.func212 rfl 11 rfl [.tmp 4] rfl (by kernel_rfl) fun ps r hr=>?_;obtain⟨a,b,rfl,hpre,rfl⟩:=iK hr;refine⟨by simp,?_⟩;simp only[dIs,dUs,dSs,dw,dx,dh,dA,aS,dz,aQ,aR,aO,aP];have ap1:=(pW ⟨#[105,106,108,102]⟩ hpre.2).trans (by rw[am4 b 105 106 108 102 _ _ _ _ rfl rfl rfl rfl]);have gnb_c213:=akT;((refine wlk6 ?_ ?_ ?_ ?_ ?_ ?_<;>intros<;>try with_reducible exact trivial)<;>(refine fnG ?_;try with_reducible exact trivial));all_goals((refine congrArg (fun z=>some (PV.val (Value.bool z))) ?_);unfold sS;first|(simp;omega)|simp_all)
abbrev sgN (s:ByteArray) (i:Nat):Nat:=if i+1<s.size∧sS (at8 s i) (at8 s (i+1))=true then 2 else 1
def sgF (s:ByteArray):Nat→Nat→LS
 |0,_=>[]
 |f+1,i=>if i<s.size then s.extract i (i+sgN s i)::sgF s f (i+sgN s i)else []
def signs (s:ByteArray):LS:=sgF s s.size 0
theorem vo {s:ByteArray} {f i:Nat} (h:i<s.size):sgF s (f+1) i=s.extract i (i+sgN s i)::sgF s f (i+sgN s i):=by rw[sgF,if_pos h]
theorem afr {s:ByteArray} {f i:Nat} (h:s.size≤i):sgF s f i=[]:=by
 cases f with
 |zero=>rfl
 |succ f=>rw[sgF,if_neg (by omega)]
theorem avf (s:ByteArray) (i:Nat):1≤sgN s i∧sgN s i≤2∧(i<s.size→i+sgN s i≤s.size):=by unfold sgN;split<;>omega
theorem akU {s:ByteArray} {a b j:Nat} (h:j<b-a) (hb:b≤s.size):at8 (s.extract a b) j=at8 s (a+j):=by
 unfold at8;have h1:j<(s.extract a b).size:=by rw[ByteArray.size_extract];omega
 rw[getElem?_pos (s.extract a b) j h1,getElem?_pos s (a+j) (by omega)];rw[ByteArray.getElem_extract]
def ay5 (x:ByteArray):Prop:=1≤x.size∧x.size≤2∧∀j,j<x.size→97≤at8 x j∧at8 x j≤122
theorem aty {s:ByteArray} (h:∀j,j<s.size→97≤at8 s j∧at8 s j≤122):∀(f i:Nat),(∀x∈sgF s f i,ay5 x)∧(sgF s f i).length≤s.size-i
 |0,i=>⟨by simp[sgF],by simp[sgF]⟩
 |f+1,i=>by
  by_cases hi:i<s.size
  ·obtain⟨h1,h2,h3⟩:=avf s i
   obtain⟨i1,i2⟩:=aty h f (i+sgN s i);rw[vo hi];refine⟨fun x hx=>?_,by rw[List.length_cons];have:=h3 hi;omega⟩;rcases List.mem_cons.1 hx with rfl|hx
   ·have hsz:(s.extract i (i+sgN s i)).size=sgN s i:=by rw[ByteArray.size_extract];have:=h3 hi;omega
    refine⟨by omega,by omega,fun j hj=>?_⟩;have h4:=h3 hi;rw[akU (by omega) (by omega)];exact h _ (by omega)
   ·exact i1 x hx
  ·rw[afr (by omega)]
   exact⟨by simp,by simp⟩
theorem aH {s:ByteArray} (h:dn s=true):(∀j,j<s.size→97≤at8 s j∧at8 s j≤122)∧1≤s.size∧s.size≤20:=by unfold dn at h;rw[Bool.and_eq_true,List.all_eq_true]at h;refine⟨fun j hj=>av.1 (h.1 j (List.mem_range.2 hj)),?_⟩;have:=av.1 h.2;omega
theorem rF {s:ByteArray} (h:dn s=true):(∀x∈signs s,ay5 x)∧1≤(signs s).length∧(signs s).length≤20:=by obtain⟨h1,h2,h3⟩:=aH h;obtain⟨i1,i2⟩:=aty h1 s.size 0;refine⟨i1,?_,by unfold signs;omega⟩;unfold signs;obtain⟨n,hn⟩:∃n,s.size=n+1:=⟨s.size-1,by omega⟩;rw[hn,vo (by omega),List.length_cons];omega
theorem aaQ {s:ByteArray} (h:dn s=true) {k:Nat} (hk:k<(signs s).length):ay5 ((signs s)[k]?.getD .empty):=by rw[List.getElem?_eq_getElem hk,Option.getD_some];exact(rF h).1 _ (List.getElem_mem hk)
def sgW (x:ByteArray):Nat→Int
 |0=>0
 |j+1=>sgW x j+adT (at8 x j)
def aaJ (g:LS) (k:Nat):Int:=if k+1<g.length then rA (at8 (g[k]?.getD .empty) ((g[k]?.getD .empty).size-1)) (at8 (g[k+1]?.getD .empty) 0)else 0
def wdK (g:LS):Nat→Int
 |0=>0
 |k+1=>wdK g k+sgW (g[k]?.getD .empty) (g[k]?.getD .empty).size-((g[k]?.getD .empty).size-1)-aaJ g k
def qb (s:ByteArray):Int:=if dn s=true then wdK (signs s) (signs s).length else-1
theorem aey {x:ByteArray} (h:ay5 x):∀j,j≤x.size→3*(j:Int)≤sgW x j∧sgW x j≤8*j
 |0,_=>⟨by simp[sgW],by simp[sgW]⟩
 |j+1,hj=>by
  have ih:=aey h j (by omega);have h1:=aaU (at8 x j);have h2:=h.2.2 j (by omega);have h3:3≤adT (at8 x j):=by
   unfold adT;rw[if_neg (by omega)]
   repeat' split
   all_goals omega
  unfold sgW
  push_cast
  omega
theorem ah4 {x:ByteArray} (h:ay5 x):∀j,j≤x.size→0≤sgW x j∧sgW x j≤16:=fun j hj=>by have:=aey h j hj;have:=h.2.1;omega
theorem aa0 {g:LS} (h:∀k,k<g.length→ay5 (g[k]?.getD .empty)):∀k,k≤g.length→0≤wdK g k∧wdK g k≤16*k
 |0,_=>⟨by simp[wdK],by simp[wdK]⟩
 |k+1,hk=>by
  have ih:=aa0 h k (by omega);have h1:=h k (by omega);have h2:=aey h1 _ (Nat.le_refl _);have h3:=h1.1;have h4:=h1.2.1;have h5:0≤aaJ g k∧aaJ g k≤1:=by
   unfold aaJ;split
   ·exact xQ _ _
   ·omega
  unfold wdK;generalize aaJ g k=m at*;generalize sgW (g[k]?.getD .empty) (g[k]?.getD .empty).size=z at*;generalize(g[k]?.getD ByteArray.empty).size=y at*
  push_cast
  omega
theorem amK {s:ByteArray} (h:dn s=true):0≤qb s∧qb s≤320:=by have h1:=aa0 (fun k hk=>aaQ h hk) _ (Nat.le_refl _);have h2:=(rF h).2.2;unfold qb;rw[if_pos h];omega
def jo (p:ByteArray):Nat→ByteArray×List Int×Int
 |0=>(⟨#[]⟩,[],0)
 |k+1=>if aeM (at8 p k)=true then((jo p k).1,(jo p k).2.1,at8 p k-48)else((jo p k).1++p.extract k (k+1),(jo p k).2.1++[(jo p k).2.2],0)
def dY (p:ByteArray):ByteArray:=(jo p p.size).1
def fO (p:ByteArray):List Int:=(jo p p.size).2.1++[(jo p p.size).2.2]
theorem vV {p:ByteArray} {k:Nat} (h:aeM (at8 p k)=true):jo p (k+1)=((jo p k).1,(jo p k).2.1,at8 p k-48):=by rw[jo,if_pos h]
theorem vg {p:ByteArray} {k:Nat} (h:aeM (at8 p k)=false):jo p (k+1)=((jo p k).1++p.extract k (k+1),(jo p k).2.1++[(jo p k).2.2],0):=by rw[jo,if_neg (by rw[h];decide)]
theorem qM (p:ByteArray):∀k,k≤p.size→(jo p k).1.size=(jo p k).2.1.length∧(jo p k).1.size≤k∧(0≤(jo p k).2.2∧(jo p k).2.2≤9)∧∀x∈(jo p k).2.1,0≤x∧x≤9
 |0,_=>⟨rfl,Nat.le_refl _,⟨Int.le_refl _,by show(0:Int)≤9;omega⟩,by simp[jo]⟩
 |k+1,hk=>by
  obtain⟨h1,h2,h3,h4⟩:=qM p k (by omega);cases hd:aeM (at8 p k)with
  |true=>rw[vV hd];have:=av.1 hd;exact⟨h1,by dsimp only;omega,by dsimp only;omega,h4⟩
  |false=>
   rw[vg hd];refine⟨?_,?_,⟨Int.le_refl _,by show(0:Int)≤9;omega⟩,fun x hx=>?_⟩
   ·dsimp only
    rw[ByteArray.size_append,ByteArray.size_extract,List.length_append,List.length_singleton];omega
   ·dsimp only
    rw[ByteArray.size_append,ByteArray.size_extract];omega
   ·rcases List.mem_append.1 hx with hx|hx
    ·exact h4 x hx
    ·rw[List.mem_singleton.1 hx]
     exact h3
theorem p8 (p:ByteArray):(fO p).length=(dY p).size+1∧(dY p).size≤p.size∧∀k:Nat,0≤(fO p)[k]?.getD 0∧(fO p)[k]?.getD 0≤9:=by
 obtain⟨h1,h2,h3,h4⟩:=qM p p.size (Nat.le_refl _);refine⟨by unfold fO dY;rw[List.length_append,List.length_singleton];omega,h2,fun k=>?_⟩;by_cases hk:k<(fO p).length
 ·rw[List.getElem?_eq_getElem hk,Option.getD_some]
  have hm:(fO p)[k]∈fO p:=List.getElem_mem hk;rcases List.mem_append.1 hm with hm|hm
  ·exact h4 _ hm
  ·rw[List.mem_singleton.1 hm];exact h3
 ·rw[List.getElem?_eq_none (by omega)]
  decide
def aeV (sz a j:Nat) (lv o:List Int):List Int:=if 1≤a+j∧a+j≤sz+1 then o.set (a+j-1) (if lv[j]?.getD 0>o[a+j-1]?.getD 0 then lv[j]?.getD 0 else o[a+j-1]?.getD 0)else o
def lvJ (sz a:Nat) (lv o:List Int):Nat→List Int
 |0=>o
 |j+1=>aeV sz a j lv (lvJ sz a lv o j)
open Classical in
noncomputable def lvA (d:ByteArray) (sz:Nat) (lt:ByteArray) (lv o:List Int):Nat→List Int
 |0=>o
 |a+1=>if d.extract a (a+lt.size)=lt then lvJ sz a lv (lvA d sz lt lv o a) lv.length else lvA d sz lt lv o a
def avG (w:ByteArray):ByteArray:=(⟨#[46]⟩++w)++⟨#[46]⟩
theorem adz (w:ByteArray):(avG w).size=w.size+2:=by unfold avG;rw[ByteArray.size_append,ByteArray.size_append,show(⟨#[46]⟩:ByteArray).size=1 from rfl];omega
def lvP (w:ByteArray) (pats:LS):Nat→List Int
 |0=>List.replicate (w.size+1) 0
 |k+1=>lvA (avG w) w.size (dY (pats[k]?.getD .empty)) (fO (pats[k]?.getD .empty)) (lvP w pats k) (w.size+3-(dY (pats[k]?.getD .empty)).size)
def jE (w:ByteArray) (pats:LS):List Int:=lvP w pats pats.length
def aiA (sz:Nat) (o:List Int):Prop:=o.length=sz+1∧∀k:Nat,0≤o[k]?.getD 0∧o[k]?.getD 0≤9
theorem aiA.set {sz a j:Nat} {lv o:List Int} (h:aiA sz o) (hl:∀k:Nat,0≤lv[k]?.getD 0∧lv[k]?.getD 0≤9):aiA sz (aeV sz a j lv o):=by
 unfold aeV;split
 ·rename_i hc
  refine⟨by rw[List.length_set];exact h.1,fun k=>?_⟩;have h1:=h.2 (a+j-1);have h2:=hl j;have h3:=h.2 k;have h4:=h.1;by_cases hk:a+j-1=k
  ·subst hk
   rw[List.getElem?_set_self (by omega),Option.getD_some];split<;>omega
  ·rw[List.getElem?_set_ne hk]
   exact h3
 ·exact h
theorem aiA.lvJ {sz a:Nat} {lv o:List Int} (h:aiA sz o) (hl:∀k:Nat,0≤lv[k]?.getD 0∧lv[k]?.getD 0≤9):∀j,aiA sz (lvJ sz a lv o j)
 |0=>h
 |j+1=>(aiA.lvJ h hl j).set hl
theorem aiA.lvA {d lt:ByteArray} {sz:Nat} {lv o:List Int} (h:aiA sz o) (hl:∀k:Nat,0≤lv[k]?.getD 0∧lv[k]?.getD 0≤9):∀a,aiA sz (lvA d sz lt lv o a)
 |0=>h
 |a+1=>by
  unfold Go.Proofs.YtmmafcjjlbgnkaaGreatDoor.lvA;split
  ·exact(aiA.lvA h hl a).lvJ hl _
  ·exact aiA.lvA h hl a
theorem ac7 (w:ByteArray) (pats:LS):∀k,aiA w.size (lvP w pats k)
 |0=>⟨by simp[lvP],fun k=>by unfold lvP;rw[List.getElem?_replicate];split<;>decide⟩
 |k+1=>(ac7 w pats k).lvA (p8 _).2.2 _
def plB (sz:Nat) (lv:List Int) (k:Nat):Bool:=decide (2≤k∧k+3≤sz∧lv[k]?.getD 0 % 2=1)
def plK (sz:Nat) (lv:List Int) (k:Nat):List Int:=((List.range k).filter (plB sz lv)).map fun k:Nat=>(k:Int)
theorem afj {sz:Nat} {lv:List Int} {k:Nat} (h:plB sz lv k=true):plK sz lv (k+1)=plK sz lv k++[(k:Int)]:=by simp[plK,List.range_succ,List.filter_append,h]
theorem zR {sz:Nat} {lv:List Int} {k:Nat} (h:plB sz lv k=false):plK sz lv (k+1)=plK sz lv k:=by simp[plK,List.range_succ,List.filter_append,h]
theorem awP {sz:Nat} {lv:List Int}:plK sz lv 2=[]:=by rw[zR (by simp[plB]),zR (by simp[plB])];rfl
theorem afS {sz:Nat} {lv:List Int} {k:Nat} (h:sz<k+3):∀n,plK sz lv (k+n)=plK sz lv k
 |0=>rfl
 |n+1=>by rw[←Nat.add_assoc,zR (by simp[plB];omega),afS h n]
theorem arJ {sz:Nat} {lv:List Int} {k:Nat} (h:sz<5):plK sz lv k=[]:=by unfold plK;rw[List.filter_eq_nil_iff.2 fun x _=>by simp[plB];omega];rfl
def mJ (w:ByteArray) (pats:LS):List Int:=plK w.size (jE w pats) (w.size+1)
theorem amU {sz:Nat} {lv:List Int} {k:Nat}:∀x∈plK sz lv k,2≤x∧x+3≤sz∧x<k:=fun x hx=>by obtain⟨n,hn,rfl⟩:=List.mem_map.1 hx;obtain⟨h1,h2⟩:=List.mem_filter.1 hn;have h3:=List.mem_range.1 h1;have h4:=of_decide_eq_true h2;omega
theorem aes (sz:Nat) (lv:List Int):∀k,(plK sz lv k).Pairwise (· < ·)
 |0=>List.Pairwise.nil
 |k+1=>by
  cases h:plB sz lv k with
  |true=>rw[afj h,List.pairwise_append];refine⟨aes sz lv k,List.pairwise_singleton _ _,fun a ha b hb=>?_⟩;rw[List.mem_singleton.1 hb];exact(amU a ha).2.2
  |false=>rw[zR h];exact aes sz lv k
theorem akB (sz:Nat) (lv:List Int) (k:Nat):(plK sz lv k).length≤k:=by unfold plK;rw[List.length_map];exact Nat.le_trans (List.length_filter_le _ _) (by simp)
def frK (pl:List Int) (k:Nat):Int:=if k=0 then 0 else pl[k-1]?.getD 0
def ptF (w:ByteArray) (pl:List Int):Nat→LS
 |0=>[]
 |k+1=>ptF w pl k++[w.extract (frK pl k).toNat (pl[k]?.getD 0).toNat]
def ptR (w:ByteArray) (pl:List Int):LS:=ptF w pl pl.length++[w.extract (frK pl pl.length).toNat w.size]
def acz (w:ByteArray) (pats:LS):LS:=ptR w (mJ w pats)
theorem abj (w:ByteArray) (pl:List Int):∀k,(ptF w pl k).length=k
 |0=>rfl
 |k+1=>by rw[ptF,List.length_append,abj w pl k];rfl
def ay8 (w:ByteArray) (pl:List Int):Prop:=pl.length≤20∧∀k,k<pl.length→frK pl k<pl[k]?.getD 0∧pl[k]?.getD 0<w.size
theorem u6 (pl:List Int) (k:Nat):frK pl (k+1)=pl[k]?.getD 0:=by unfold frK;rw[if_neg (by omega)];rfl
theorem qw {w:ByteArray} {pl:List Int} (h:ay8 w pl) (hw:1≤w.size):∀k,k≤pl.length→0≤frK pl k∧frK pl k<w.size
 |0,_=>by simp[frK];omega
 |k+1,hk=>by have h1:=qw h hw k (by omega);have h2:=h.2 k (by omega);rw[u6];omega
theorem mX {w:ByteArray} {pats:LS} (hw:dn w=true):ay8 w (mJ w pats):=by
 obtain⟨-,w1,w2⟩:=aH hw;have ha:=aes w.size (jE w pats) (w.size+1);have hm:=@amU w.size (jE w pats) (w.size+1);refine⟨?_,fun k hk=>?_⟩
 ·unfold mJ plK
  rw[List.length_map];have:((List.range (w.size+1)).filter (plB w.size (jE w pats))).length≤((List.range (w.size+1)).filter (fun k=>decide (k<w.size))).length:=by rw[←List.countP_eq_length_filter,←List.countP_eq_length_filter];refine List.countP_mono_left fun x _ hx=>?_;have:=of_decide_eq_true hx;exact decide_eq_true (by omega)
  have h2:((List.range (w.size+1)).filter (fun k=>decide (k<w.size))).length≤w.size:=by rw[List.range_succ,List.filter_append];have h3:=List.length_filter_le (fun k=>decide (k<w.size)) (List.range w.size);rw[List.length_range]at h3;simp;omega
  omega
 ·unfold mJ at hk⊢
  generalize plK w.size (jE w pats) (w.size+1)=pl at*;rw[List.getElem?_eq_getElem hk,Option.getD_some];have h1:=hm _ (List.getElem_mem hk);refine⟨?_,by omega⟩;unfold frK;split
  ·omega
  ·rename_i h0
   rw[List.getElem?_eq_getElem (show k-1<pl.length by omega),Option.getD_some];exact List.pairwise_iff_getElem.1 ha (k-1) k (by omega) hk (by omega)
theorem aci {w:ByteArray} {a b:Nat} (hw:dn w=true) (h1:a<b) (h2:b≤w.size):dn (w.extract a b)=true:=by
 obtain⟨l1,l2,l3⟩:=aH hw;have hs:(w.extract a b).size=b-a:=by rw[ByteArray.size_extract];omega
 rw[wV fun j hj=>?_,hs]
 ·exact av.2 ⟨by omega,by omega⟩
 ·rw[akU (by omega) h2]
  exact l1 _ (by omega)
theorem ahZ {w:ByteArray} {pl:List Int} (hw:dn w=true) (h:ay8 w pl):∀k,k≤pl.length→∀x∈ptF w pl k,dn x=true
 |0,_=>by simp[ptF]
 |k+1,hk=>fun x hx=>by
  rw[ptF]at hx;rcases List.mem_append.1 hx with hx|hx
  ·exact ahZ hw h k (by omega) x hx
  ·rw[List.mem_singleton.1 hx]
   have h1:=h.2 k (by omega);have h2:=qw h (aH hw).2.1 k (by omega);exact aci hw (by omega) (by omega)
theorem apO {w:ByteArray} {pl:List Int} (hw:dn w=true) (h:ay8 w pl):∀x∈ptR w pl,dn x=true:=fun x hx=>by
 rcases List.mem_append.1 hx with hx|hx
 ·exact ahZ hw h _ (Nat.le_refl _) x hx
 ·rw[List.mem_singleton.1 hx]
  have h2:=qw h (aH hw).2.1 _ (Nat.le_refl _);exact aci hw (by omega) (Nat.le_refl _)
theorem amn (w:ByteArray) (pl:List Int):(ptR w pl).length=pl.length+1:=by unfold ptR;rw[List.length_append,abj];rfl
def ab2 (l:LS):List UInt8:=l.flatMap fun s=>s.data.toList
theorem ag4 (l l':LS):ab2 (l++l')=ab2 l++ab2 l':=by simp[ab2]
theorem ext_list (w:ByteArray) (a b:Nat):(w.extract a b).data.toList=(w.data.toList.take b).drop a:=by rw[ByteArray.data_extract,Array.toList_extract,List.extract_eq_drop_take,List.drop_take]
theorem aj4 {w:ByteArray} {pl:List Int} (h:ay8 w pl) (hw:1≤w.size):∀k,k≤pl.length→ab2 (ptF w pl k)=w.data.toList.take (frK pl k).toNat
 |0,_=>by simp[ptF,ab2,frK]
 |k+1,hk=>by
  have h1:=h.2 k (by omega);have h2:=qw h hw k (by omega);rw[ptF,ag4,aj4 h hw k (by omega),u6];show _++ab2 [_]=_;rw[show ab2 [w.extract (frK pl k).toNat (pl[k]?.getD 0).toNat]=(w.extract (frK pl k).toNat (pl[k]?.getD 0).toNat).data.toList by simp[ab2],ext_list];have e:w.data.toList.take (frK pl k).toNat=(w.data.toList.take (pl[k]?.getD 0).toNat).take (frK pl k).toNat:=by rw[List.take_take,Nat.min_eq_left (by omega)]
  rw[e,List.take_append_drop]
theorem aw8 {w:ByteArray} {pl:List Int} (h:ay8 w pl) (hw:1≤w.size):ab2 (ptR w pl)=w.data.toList:=by have h2:=qw h hw _ (Nat.le_refl _);unfold ptR;rw[ag4,aj4 h hw _ (Nat.le_refl _),show ab2 [w.extract (frK pl pl.length).toNat w.size]=(w.extract (frK pl pl.length).toNat w.size).data.toList by simp[ab2],ext_list];have e:w.data.toList.take w.size=w.data.toList:=List.take_of_length_le (by rw[Array.length_toList];exact Nat.le_refl _);rw[e,List.take_append_drop]
end
end Go.Proofs.YtmmafcjjlbgnkaaGreatDoor
