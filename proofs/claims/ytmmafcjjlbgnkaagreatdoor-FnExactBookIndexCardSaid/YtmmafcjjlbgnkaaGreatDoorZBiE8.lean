/- What the proof rests on, part 8: contracts of functions. No condition beyond what each states. -/
import Derived.Test.YtmmafcjjlbgnkaaGreatDoorZBiE7
namespace Go.Proofs.YtmmafcjjlbgnkaaGreatDoor
open Go.RowKit
open Nat renaming reduceEqDiff→Rq,reduceBEq→Rb,reduceAdd→Ra,reduceSub→Rs
open Int renaming reduceToNat→Rt
set_option linter.all false
set_option maxHeartbeats 32000000
noncomputable section
abbrev LS:=List ByteArray
abbrev dSS:Dec (List LS):=dL 1 dSs
section
variable {α β:Type} {n sz sz' f i:Nat} {ob:bG} {k k' fr:Bool} {l:List LS}
theorem aBA {g:LS→β} (h:i<l.length):Option.map g l[i]?=some (g ((l[i]?).getD [])):=by simp[h]
theorem mJ {F:PV→Option PV} {g g':α→PV} (h:∀x,F (g x)=some (g' x)):∀{l:List α},(l.map g).mapM F=some (l.map g')
 |[]=>rfl
 |x::l=>by rw[List.map_cons,List.mapM_cons,h x,mJ h];rfl
theorem aj4 {m:Nat} {p:LS}:reify false m ob (f+2) (.lst k sz (p.map fun s=> .val (.string s)))=some (.lst false sz (p.map fun s=> .val (.string s))):=lX
theorem oZ {m:Nat} {p:LS}:reify fr m ob (f+2) (.lst true sz (p.map fun s=> .val (.string s)))=some (.lst fr sz (p.map fun s=> .val (.string s))):=by
 cases fr
 ·exact lX
 ·exact xJ
theorem aep:reify false n ob (f+3) (.lst k sz (l.map fun p=> .lst k' sz' (p.map fun s=> .val (.string s))))=some (.lst false sz (l.map fun p=> .lst false sz' (p.map fun s=> .val (.string s)))):=by show(if false=true∧k=false∧(l.map fun p=>PV.lst k' sz' (p.map fun s=>PV.val (.string s)))≠[]then none else((l.map fun p=>PV.lst k' sz' (p.map fun s=>PV.val (.string s))).mapM (reify false n ob (f+2))).map (PV.lst false sz))=_;rw[mJ (g':=fun p=>PV.lst false sz' (p.map fun s=>PV.val (.string s))) fun p=>aj4];simp
theorem aes:reify true n ob (f+3) (.lst true sz (l.map fun p=> .lst true sz' (p.map fun s=> .val (.string s))))=some (.lst true sz (l.map fun p=> .lst true sz' (p.map fun s=> .val (.string s)))):=by show(if true=true∧true=false∧(l.map fun p=>PV.lst true sz' (p.map fun s=>PV.val (.string s)))≠[]then none else((l.map fun p=>PV.lst true sz' (p.map fun s=>PV.val (.string s))).mapM (reify true n ob (f+2))).map (PV.lst true sz))=_;rw[mJ (g':=fun p=>PV.lst true sz' (p.map fun s=>PV.val (.string s))) fun p=>oZ];simp
theorem aaj {m T:Nat} (hm:m=l.length):rW fr (f+2) ob sz 0 m (some (T,sz,l.map fun p=> .lst true sz' (p.map fun s=> .val (.string s))))=some (.lst fr sz (l.map fun p=> .lst fr sz' (p.map fun s=> .val (.string s)))):=by
 subst hm;have e:((l.map fun p=>PV.lst true sz' (p.map fun s=>PV.val (.string s))).drop 0).take l.length=l.map fun p=>PV.lst true sz' (p.map fun s=>PV.val (.string s)):=by rw[List.drop_zero,List.take_of_length_le (by simp)]
 have e2:=mJ (l:=l) (F:=reify fr 0 ob (f+2)) (g:=fun p=>PV.lst true sz' (p.map fun s=>PV.val (.string s))) (g':=fun p=>PV.lst fr sz' (p.map fun s=>PV.val (.string s))) fun p=>oZ;simp only[rW,e,e2,Nat.zero_add,List.length_map,Nat.le_refl,and_self,if_true,Option.map_some]
theorem aok {xs:List α} {z:α} {j:Nat} (h:j<xs.length):(mV xs z j)[j]?=some z:=by
 unfold mV;have hl:(xs.take j).length=j:=by simp;omega
 rw[List.getElem?_append_right (by omega),hl,Nat.sub_self,List.getElem?_replicate,if_pos (by omega)]
end
attribute[push_cast]
 aBA aep aes aaj aok
theorem afu {α:Type} {d:α} {xs ys:List α} (hl:xs.length=ys.length) (h:∀j,j<xs.length→xs[j]?.getD d=ys[j]?.getD d):xs=ys:=by apply List.ext_getElem hl;intro i h1 h2;have:=h i h1;simpa [h1,h2]using this
abbrev oM (l:LS):Prop:=l.length≤1048576∧∀i:Nat,(l[i]?.getD .empty).size≤1048576
instance (l:LS):Decidable (oM l):=Classical.propDecidable _
theorem jX {α:Type} {d:α} {p:α→Bool} {l:List α} {k:Nat} (h:k<l.length) (hb:p (l[k]?.getD d)=false):l.all p=false:=by rw[List.all_eq_false];exact⟨l[k],List.getElem_mem h,by simp[h]at hb;simp[hb]⟩
theorem gF {α:Type} {d:α} {p:α→Bool} {l:List α} (h:∀j,j<l.length→p (l[j]?.getD d)=true):l.all p=true:=by rw[List.all_eq_true];intro x hx;obtain⟨j,hj,rfl⟩:=List.getElem_of_mem hx;simpa [hj]using h j hj
def wI (c:Int):Bool:=inB c 97 122
def aek (c:Int):Bool:=inB c 48 57
def aeC (s:ByteArray) (k:Nat):Bool:=decide (0<k)&&aek (at8 s (k-1))
def y9 (s:ByteArray) (k:Nat):Bool:=wI (at8 s k)||(aek (at8 s k)&& !aeC s k)||(decide (at8 s k=46)&&(decide (k=0)||decide (k+1=s.size)))
def anyS (s:ByteArray) (k:Nat):Bool:=(List.range k).any fun j=>wI (at8 s j)
theorem acH (s:ByteArray) (k:Nat):anyS s (k+1)=(anyS s k||wI (at8 s k)):=by simp[anyS,List.range_succ,List.any_append]
def ace (s:ByteArray):Bool:=(List.range s.size).all (y9 s)&&(anyS s s.size&&decide (s.size≤12))
theorem an9 {s:ByteArray} {k:Nat} (h:k<s.size) (hb:y9 s k=false):ace s=false:=by
 have:(List.range s.size).all (y9 s)=false:=by rw[List.all_eq_false];exact⟨k,List.mem_range.2 h,by simp[hb]⟩
 simp[ace,this]
theorem ase {s:ByteArray} (h:∀j,j<s.size→y9 s j=true):ace s=(anyS s s.size&&decide (s.size≤12)):=by
 have:(List.range s.size).all (y9 s)=true:=by rw[List.all_eq_true];exact fun k hk=>h k (List.mem_range.1 hk)
 simp[ace,this]
def abL:Fun:=F1 dS fun s=>if s.size≤1099511627776 then some (bv (ace s))else none
theorem uU {s:ByteArray} (h:s.size≤1099511627776):abL [.val (.string s)]=some (.val (.bool (ace s))):=
 (dY (A:=dS) s).trans (if_pos h)
theorem kN {s:ByteArray} {k:Nat}:y9 s k=true↔(97≤at8 s k∧at8 s k≤122)∨(48≤at8 s k∧at8 s k≤57∧aeC s k=false)∨(at8 s k=46∧(k=0∨k+1=s.size)):=by simp[y9,wI,aek,inB,or_assoc,and_assoc]
theorem ahX {c:Int} (h:c<97∨122<c):wI c=false:=Bool.eq_false_iff.2 fun h2=>by have:=aD.1 h2;omega
theorem at0 {c:Int} (h:c<48∨57<c):aek c=false:=Bool.eq_false_iff.2 fun h2=>by have:=aD.1 h2;omega
structure afS (s:ByteArray) (k:Nat) (n:Int):Prop where
 kk:k≤s.size
 n0:0≤n
 n1:n≤k
 all:∀j,j<k→y9 s j=true
 any:decide (0<n)=anyS s k
theorem afS.zero (s:ByteArray):afS s 0 0:=⟨Nat.zero_le _,by omega,by omega,fun j hj=>by omega,rfl⟩
theorem afS.letter {s:ByteArray} {k:Nat} {n:Int} (h:afS s k n) (hk:k<s.size) (hs:wI (at8 s k)=true):afS s (k+1) (n+1):=
 ⟨by omega,by have:=h.n0;omega,by have:=h.n1;omega,fun j hj=>by
   by_cases h1:j<k
   ·exact h.all j h1
   ·have:j=k:=by omega
    subst this;simp[y9,hs],by
   rw[acH,hs,Bool.or_true];have:=h.n0;simp;omega⟩
theorem afS.other {s:ByteArray} {k:Nat} {n:Int} (h:afS s k n) (hk:k<s.size) (hp:y9 s k=true) (hs:wI (at8 s k)=false):afS s (k+1) n:=
 ⟨by omega,h.n0,by have:=h.n1;omega,fun j hj=>by
   by_cases h1:j<k
   ·exact h.all j h1
   ·have:j=k:=by omega
    subst this;exact hp,by rw[acH,hs,Bool.or_false];exact h.any⟩
theorem afS.done {s:ByteArray} {k:Nat} {n:Int} (h:afS s k n) (hk:¬k<s.size):ace s=(decide (0<n)&&decide (s.size≤12)):=by
 have hk2:=h.kk;have:k=s.size:=by omega
 subst this;rw[ase h.all,h.any]
theorem tQ (s:ByteArray) (k:Nat):aeC s (k+1)=aek (at8 s k):=by simp[aeC]
theorem jv:Sound Tryz.prog 69 abL:=by
 refine ak mixed bV Tryz.func69 rfl 57 rfl [.tmp 2] rfl (by kernel_rfl) fun ps r hr=>?_;obtain⟨s,rfl,hq⟩:=bC hr;clear hr;split at hq
 case isFalse=>cases hq
 case isTrue hlen=>
 cases hq;refine⟨by simp,?_⟩;simp only[dIs,dUs,dSs,bP,bS,bQ,bT,aP,bR,aQ,aO,aR,aL];(refine wlkX ?_;intros);refine aB (α:=Nat×Int) mixed (fun k=>[(0,sv s),(3,iv k.2),(4,bv (aeC s k.1)),(5,iv k.1)]) (fun _=>[]) (fun _=>0)
  (fun k=>afS s k.1 k.2) (fun k=>s.size-k.1) (by kernel_rfl) (0,0) (afS.zero s) ?_ trivial rfl ?_
 ·simp only[push_cast,↓reduceIte,Rq,Rb,Ra,Rs,Rt]
  rfl
 ·rintro⟨k,n⟩ hi
  dsimp only at hi;have hk:=hi.kk;have hn0:=hi.n0;have hn1:=hi.n1;have hrk:=iM s k;generalize hd:aeC s k=d
  repeat' (first|(with_reducible first|apply rJ|apply gQ|apply jP|apply jQ|apply rP|apply ah9|apply rG|apply qP|apply ahE|apply qU|apply qV|apply ag7|apply qH|apply qj|apply rA)|((with_reducible apply eY);(simp only[List.map_cons,List.map_nil]<;>exact rfl))|((with_reducible apply jM);(simp only[List.map_cons,List.map_nil]<;>exact rfl);decide+kernel)|((with_reducible apply rE);rfl)|((first|((with_reducible apply i_V);rfl;rfl;rfl)|((first|((with_reducible apply i_E);rfl)|((with_reducible apply i_S);rfl));first|rfl|(simp only[push_cast,↓reduceIte]))|((with_reducible apply agG);rfl;rfl)|((with_reducible apply agc);rfl;rfl;rfl)|(with_reducible first|apply ahp|apply jR));(simp(disch:=(first|omega|(simp only[push_cast];first|done|omega))) only[push_cast,↓reduceIte,Rq,Rb,Ra,Rs,Rt, *]<;>with_reducible exact rfl);all_goals try(first|(with_reducible first|refine hyT ?_|refine hyF ?_|exact hyA|exact hyB)|(intro hX;first|(cases hX;done)|((try simp only[decide_eq_true_eq,decide_eq_false_iff_not,Bool.not_eq_true',Bool.not_eq_false']at hX);(try have hXb:=aD.1 hX))))))
  all_goals try(refine fnG ?_;try with_reducible exact trivial)
  all_goals try(exfalso;omega)
  all_goals(first
   |(rw[an9 (k:=k) (by omega) (Bool.eq_false_iff.2 fun h=>by rcases kN.1 h with h|h|h<;>(first|omega|(simp_all;done)|(simp_all;omega)))];done)
   |exact⟨(k+1,n+1),hi.letter (by omega) (aD.2 ⟨by omega,by omega⟩),by dsimp only;omega,by(have hdg:=@at0 (at8 s k) (by omega);simp only[push_cast,↓reduceIte,Rq,Rb,Ra,Rs,Rt,tQ,hdg]),trivial,rfl⟩
   |exact⟨(k+1,n),hi.other (by omega) (kN.2 (.inr (.inr ⟨by omega,by omega⟩))) (ahX (by omega)),by dsimp only;omega,by(have hdg:=@at0 (at8 s k) (by omega);simp only[push_cast,↓reduceIte,Rq,Rb,Ra,Rs,Rt,tQ,hdg];try exact congrArg (fun z=>PV.val (Value.int .i64 z)) (by omega)),trivial,rfl⟩
   |exact⟨(k+1,n),hi.other (by omega) (kN.2 (.inr (.inl ⟨by omega,by omega,by simp_all⟩))) (ahX (by omega)),by dsimp only;omega,by(have hdg:aek (at8 s k)=true:=aD.2 ⟨by omega,by omega⟩;simp only[push_cast,↓reduceIte,Rq,Rb,Ra,Rs,Rt,tQ,hdg]),trivial,rfl⟩
   |(rw[hi.done (by omega)];simp_all;done)
   |(rw[hi.done (by omega)];simp_all;omega))
def ajm:Fun:=F1 dU fun n=>some (bv (inB n 48 57))
theorem agZ (n:Int):ajm [.val (.int .u8 n)]=some (.val (.bool (inB n 48 57))):=rfl
theorem aac:Sound Tryz.prog 135 ajm:=by
 refine ak mixed bV Tryz.func135 rfl 9 rfl [.tmp 2] rfl (by kernel_rfl) fun ps r hr=>?_;obtain⟨n,rfl,hr⟩:=bC hr;cases hr;refine⟨by simp,?_⟩;simp only[dIs,dUs,dSs,bP,bS,bQ,bT,aP,bR,aQ,aO,aR,aL];(refine wlkX6 ?_ ?_ ?_ ?_ ?_ ?_<;>intros<;>try with_reducible exact trivial);all_goals(refine fnG ?_;try with_reducible exact trivial)
 all_goals(first|(simp_all [inB];done)|(simp_all [inB];omega))
def GPt:Ctx:={fn:=aT [(111,nk),(135,ajm)],io:=aT []}
theorem azL:au Tryz.prog GPt:=okΓ (fC Tryz.func111 tq (fC Tryz.func135 aac aj)) aj
def ayZ:=ah (Γ:=GPt) (f:=111) (φ:=nk) rfl
def ayM:=ah (Γ:=GPt) (f:=135) (φ:=ajm) rfl
theorem oV:Sound Tryz.prog 100 abL:=by
 refine ak mixed azL Tryz.func100 rfl 51 rfl [.tmp 2] rfl (by kernel_rfl) fun ps r hr=>?_;obtain⟨s,rfl,hq⟩:=bC hr;clear hr;split at hq
 case isFalse=>cases hq
 case isTrue hlen=>
 cases hq;refine⟨by simp,?_⟩;simp only[dIs,dUs,dSs,bP,bS,bQ,bT,aP,bR,aQ,aO,aR,aL];have gpt_c111:=ayZ;have gpt_c135:=ayM;have ap:=sK;have ap2:=agZ;(refine wlkX ?_;intros);refine aB (α:=Nat×Int) mixed (fun k=>[(0,sv s),(3,iv k.2),(7,iv s.size),(8,iv k.1)]) (fun _=>[]) (fun _=>0)
  (fun k=>afS s k.1 k.2) (fun k=>s.size-k.1) (by kernel_rfl) (0,0) (afS.zero s) ?_ trivial rfl ?_
 ·simp only[push_cast,↓reduceIte,Rq,Rb,Ra,Rs,Rt]
 ·rintro⟨k,n⟩ hi
  dsimp only at hi;have hk:=hi.kk;have hn0:=hi.n0;have hn1:=hi.n1;have hrk:=iM s k;have hpd:aeC s k=(decide (0<k)&&inB (at8 s (k-1)) 48 57):=rfl;have hsm:inB (at8 s k) 97 122=false→(at8 s k<97∨122<at8 s k):=fun h=>by
   by_cases hh:97≤at8 s k∧at8 s k≤122
   ·rw[aD.2 hh]at h;cases h
   ·omega
  have hdgk:inB (at8 s k) 48 57=false→(at8 s k<48∨57<at8 s k):=fun h=>by
   by_cases hh:48≤at8 s k∧at8 s k≤57
   ·rw[aD.2 hh]at h;cases h
   ·omega
  have hpd:=Lib.hid hpd;have hsm:=Lib.hid hsm;have hdgk:=Lib.hid hdgk
  repeat' (first|(with_reducible first|apply rJ|apply gQ|apply jP|apply jQ|apply rP|apply ah9|apply rG|apply qP|apply ahE|apply qU|apply qV|apply ag7|apply qH|apply qj|apply rA)|((with_reducible apply eY);(simp only[List.map_cons,List.map_nil]<;>exact rfl))|((with_reducible apply jM);(simp only[List.map_cons,List.map_nil]<;>exact rfl);decide+kernel)|((with_reducible apply rE);rfl)|((first|((with_reducible apply i_V);rfl;rfl;rfl)|((first|((with_reducible apply i_E);rfl)|((with_reducible apply i_S);rfl));first|rfl|(simp only[push_cast,↓reduceIte]))|((with_reducible apply agG);rfl;rfl)|((with_reducible apply agc);rfl;rfl;rfl)|(with_reducible first|apply ahp|apply jR));(simp(disch:=(first|omega|(simp only[push_cast];first|done|omega))) only[push_cast,↓reduceIte,Rq,Rb,Ra,Rs,Rt, *]<;>with_reducible exact rfl);all_goals try(first|(with_reducible first|refine hyT ?_|refine hyF ?_|exact hyA|exact hyB)|(intro hX;first|(cases hX;done)|((try simp only[decide_eq_true_eq,decide_eq_false_iff_not,Bool.not_eq_true',Bool.not_eq_false']at hX);(try have hXb:=aD.1 hX))))))
  all_goals try(refine fnG ?_;try with_reducible exact trivial)
  all_goals try(exfalso;omega)
  all_goals(have hpd1:=hpd.out;have hsm1:=hsm.out;have hdgk1:=hdgk.out)
  all_goals(first
   |(rw[an9 (k:=k) (by omega) (Bool.eq_false_iff.2 fun h=>by rcases kN.1 h with h|h|h<;>(first|omega|(simp_all;done)|(simp_all;omega)))];done)
   |exact⟨(k+1,n+1),hi.letter (by omega) (by assumption),by dsimp only;omega,by simp only[push_cast,↓reduceIte,Rq,Rb,Ra,Rs,Rt],trivial,rfl⟩
   |exact⟨(k+1,n),hi.other (by omega) (kN.2 (.inr (.inr ⟨by omega,by omega⟩))) (by assumption),by dsimp only;omega,by(simp only[push_cast,↓reduceIte,Rq,Rb,Ra,Rs,Rt];try exact congrArg (fun z=>PV.val (Value.int .i64 z)) (by omega)),trivial,rfl⟩
   |exact⟨(k+1,n),hi.other (by omega) (kN.2 (.inr (.inl ⟨by omega,by omega,by simp_all⟩))) (by assumption),by dsimp only;omega,by simp only[push_cast,↓reduceIte,Rq,Rb,Ra,Rs,Rt],trivial,rfl⟩
   |(rw[hi.done (by omega)];simp_all;done)
   |(rw[hi.done (by omega)];simp_all;omega))
def bD (l:LS):Bool:=decide (l.length≤12)&&l.all bY
def jF:Fun:=F1 dSs fun l=>if oM l then some (bv (bD l))else none
theorem oq {l:LS} (h:oM l):jF [.lst false 1 (l.map fun s=> .val (.string s))]=some (.val (.bool (bD l))):=
 (dY (A:=dSs) l).trans (if_pos h)
def anT:Ctx:={fn:=aT [(68,fu)],io:=aT []}
theorem aiA:au Tryz.prog anT:=okΓ (fC Tryz.func68 eG aj) aj
def aj3:=ah (Γ:=anT) (f:=68) (φ:=fu) rfl
theorem kK:Sound Tryz.prog 32 jF:=by
 refine ak mixed aiA Tryz.func32 rfl 19 rfl [.tmp 2] rfl (by kernel_rfl) fun ps r hr=>?_;obtain⟨l,rfl,hq⟩:=bC hr;clear hr;split at hq
 case isFalse=>cases hq
 case isTrue hok=>
 cases hq;obtain⟨hlen,hsz⟩:=hok;refine⟨by simp,?_⟩;simp only[dIs,dUs,dSs,bP,bS,bQ,bT,aP,bR,aQ,aO,aR,aL];have gswords_c68:=aj3;(refine wlkX6 ?_ ?_ ?_ ?_ ?_ ?_<;>intros<;>try with_reducible exact trivial);refine aB (α:=Nat) mixed (fun k=>[(0,.lst false 1 (l.map fun s=> .val (.string s))),(3,iv k)]) (fun _=>[]) (fun _=>0)
  (fun k=>k≤l.length∧∀j,j<k→bY (l[j]?.getD .empty)=true) (fun k=>l.length-k) (by kernel_rfl) 0 ⟨Nat.zero_le _,fun j hj=>by omega⟩ ?_ trivial rfl ?_
 ·simp only[push_cast,↓reduceIte,Rq,Rb,Ra,Rs,Rt]
 ·intro k ⟨hk,hok⟩
  have ap:=@fV (l[k]?.getD .empty) (by have:=hsz k;omega);clear hsz;(refine wlkX6 ?_ ?_ ?_ ?_ ?_ ?_<;>intros<;>try with_reducible exact trivial);all_goals try(refine fnG ?_;try with_reducible exact trivial)
  ·rw[show bD l=false from by(unfold bD;rw[jX (d:=.empty) (k:=k) (by omega) (by simp_all),Bool.and_false])]
  ·refine⟨k+1,⟨by omega,fun j hj=>?_⟩,by dsimp only;omega,by simp only[push_cast,↓reduceIte,Rq,Rb,Ra,Rs,Rt],trivial,rfl⟩
   by_cases h1:j<k
   ·exact hok j h1
   ·have:j=k:=by omega
    subst this;simp_all
  ·rw[show bD l=decide (l.length≤12)from by(unfold bD;rw[gF (d:=.empty) fun j hj=>hok j (by omega),Bool.and_true])]
   simp;omega
def anp:Ctx:={fn:=aT [(81,fu)],io:=aT []}
theorem aip:au Tryz.prog anp:=okΓ (fC Tryz.func81 d9 aj) aj
def ai3:=ah (Γ:=anp) (f:=81) (φ:=fu) rfl
theorem kY:Sound Tryz.prog 70 jF:=by
 refine ak mixed aip Tryz.func70 rfl 18 rfl [.tmp 2] rfl (by kernel_rfl) fun ps r hr=>?_;obtain⟨l,rfl,hq⟩:=bC hr;clear hr;split at hq
 case isFalse=>cases hq
 case isTrue hok=>
 cases hq;obtain⟨hlen,hsz⟩:=hok;refine⟨by simp,?_⟩;simp only[dIs,dUs,dSs,bP,bS,bQ,bT,aP,bR,aQ,aO,aR,aL];have giwords_c81:=ai3;(refine wlkX6 ?_ ?_ ?_ ?_ ?_ ?_<;>intros<;>try with_reducible exact trivial);refine aB (α:=Nat) mixed (fun k=>[(0,.lst false 1 (l.map fun s=> .val (.string s))),(5,.lst false 1 (l.map fun s=> .val (.string s))),(6,iv l.length),(7,iv k)]) (fun _=>[]) (fun _=>0)
  (fun k=>k≤l.length∧∀j,j<k→bY (l[j]?.getD .empty)=true) (fun k=>l.length-k) (by kernel_rfl) 0 ⟨Nat.zero_le _,fun j hj=>by omega⟩ ?_ trivial rfl ?_
 ·simp only[push_cast,↓reduceIte,Rq,Rb,Ra,Rs,Rt]
 ·intro k ⟨hk,hok⟩
  have ap:=@fV (l[k]?.getD .empty) (by have:=hsz k;omega);clear hsz;(refine wlkX6 ?_ ?_ ?_ ?_ ?_ ?_<;>intros<;>try with_reducible exact trivial);all_goals try(refine fnG ?_;try with_reducible exact trivial)
  ·rw[show bD l=false from by(unfold bD;rw[jX (d:=.empty) (k:=k) (by omega) (by simp_all),Bool.and_false])]
  ·refine⟨k+1,⟨by omega,fun j hj=>?_⟩,by dsimp only;omega,by simp only[push_cast,↓reduceIte,Rq,Rb,Ra,Rs,Rt],trivial,rfl⟩
   by_cases h1:j<k
   ·exact hok j h1
   ·have:j=k:=by omega
    subst this;simp_all
  ·rw[show bD l=decide (l.length≤12)from by(unfold bD;rw[gF (d:=.empty) fun j hj=>hok j (by omega),Bool.and_true])]
   simp;omega
def bA (l:LS):Bool:=decide (l.length≤20)&&l.all ace
def gT:Fun:=F1 dSs fun l=>if oM l then some (bv (bA l))else none
theorem iU {l:LS} (h:oM l):gT [.lst false 1 (l.map fun s=> .val (.string s))]=some (.val (.bool (bA l))):=
 (dY (A:=dSs) l).trans (if_pos h)
def aue:Ctx:={fn:=aT [(69,abL)],io:=aT []}
theorem akv:au Tryz.prog aue:=okΓ (fC Tryz.func69 jv aj) aj
def amq:=ah (Γ:=aue) (f:=69) (φ:=abL) rfl
theorem dM:Sound Tryz.prog 33 gT:=by
 refine ak mixed akv Tryz.func33 rfl 19 rfl [.tmp 2] rfl (by kernel_rfl) fun ps r hr=>?_;obtain⟨l,rfl,hq⟩:=bC hr;clear hr;split at hq
 case isFalse=>cases hq
 case isTrue hok=>
 cases hq;obtain⟨hlen,hsz⟩:=hok;refine⟨by simp,?_⟩;simp only[dIs,dUs,dSs,bP,bS,bQ,bT,aP,bR,aQ,aO,aR,aL];have gspats_c69:=amq;(refine wlkX6 ?_ ?_ ?_ ?_ ?_ ?_<;>intros<;>try with_reducible exact trivial);refine aB (α:=Nat) mixed (fun k=>[(0,.lst false 1 (l.map fun s=> .val (.string s))),(3,iv k)]) (fun _=>[]) (fun _=>0)
  (fun k=>k≤l.length∧∀j,j<k→ace (l[j]?.getD .empty)=true) (fun k=>l.length-k) (by kernel_rfl) 0 ⟨Nat.zero_le _,fun j hj=>by omega⟩ ?_ trivial rfl ?_
 ·simp only[push_cast,↓reduceIte,Rq,Rb,Ra,Rs,Rt]
 ·intro k ⟨hk,hok⟩
  have ap:=@uU (l[k]?.getD .empty) (by have:=hsz k;omega);clear hsz;(refine wlkX6 ?_ ?_ ?_ ?_ ?_ ?_<;>intros<;>try with_reducible exact trivial);all_goals try(refine fnG ?_;try with_reducible exact trivial)
  ·rw[show bA l=false from by(unfold bA;rw[jX (d:=.empty) (k:=k) (by omega) (by simp_all),Bool.and_false])]
  ·refine⟨k+1,⟨by omega,fun j hj=>?_⟩,by dsimp only;omega,by simp only[push_cast,↓reduceIte,Rq,Rb,Ra,Rs,Rt],trivial,rfl⟩
   by_cases h1:j<k
   ·exact hok j h1
   ·have:j=k:=by omega
    subst this;simp_all
  ·rw[show bA l=decide (l.length≤20)from by(unfold bA;rw[gF (d:=.empty) fun j hj=>hok j (by omega),Bool.and_true])]
   simp;omega
def ato:Ctx:={fn:=aT [(100,abL)],io:=aT []}
theorem akk:au Tryz.prog ato:=okΓ (fC Tryz.func100 oV aj) aj
def akb:=ah (Γ:=ato) (f:=100) (φ:=abL) rfl
theorem dK:Sound Tryz.prog 71 gT:=by
 refine ak mixed akk Tryz.func71 rfl 18 rfl [.tmp 2] rfl (by kernel_rfl) fun ps r hr=>?_;obtain⟨l,rfl,hq⟩:=bC hr;clear hr;split at hq
 case isFalse=>cases hq
 case isTrue hok=>
 cases hq;obtain⟨hlen,hsz⟩:=hok;refine⟨by simp,?_⟩;simp only[dIs,dUs,dSs,bP,bS,bQ,bT,aP,bR,aQ,aO,aR,aL];have gipats_c100:=akb;(refine wlkX6 ?_ ?_ ?_ ?_ ?_ ?_<;>intros<;>try with_reducible exact trivial);refine aB (α:=Nat) mixed (fun k=>[(0,.lst false 1 (l.map fun s=> .val (.string s))),(5,.lst false 1 (l.map fun s=> .val (.string s))),(6,iv l.length),(7,iv k)]) (fun _=>[]) (fun _=>0)
  (fun k=>k≤l.length∧∀j,j<k→ace (l[j]?.getD .empty)=true) (fun k=>l.length-k) (by kernel_rfl) 0 ⟨Nat.zero_le _,fun j hj=>by omega⟩ ?_ trivial rfl ?_
 ·simp only[push_cast,↓reduceIte,Rq,Rb,Ra,Rs,Rt]
 ·intro k ⟨hk,hok⟩
  have ap:=@uU (l[k]?.getD .empty) (by have:=hsz k;omega);clear hsz;(refine wlkX6 ?_ ?_ ?_ ?_ ?_ ?_<;>intros<;>try with_reducible exact trivial);all_goals try(refine fnG ?_;try with_reducible exact trivial)
  ·rw[show bA l=false from by(unfold bA;rw[jX (d:=.empty) (k:=k) (by omega) (by simp_all),Bool.and_false])]
  ·refine⟨k+1,⟨by omega,fun j hj=>?_⟩,by dsimp only;omega,by simp only[push_cast,↓reduceIte,Rq,Rb,Ra,Rs,Rt],trivial,rfl⟩
   by_cases h1:j<k
   ·exact hok j h1
   ·have:j=k:=by omega
    subst this;simp_all
  ·rw[show bA l=decide (l.length≤20)from by(unfold bA;rw[gF (d:=.empty) fun j hj=>hok j (by omega),Bool.and_true])]
   simp;omega
def szS (left:Int) (l:LS):Int:=if left-l.length<0 then-1 else j5 (left-l.length) (l.map (·.size))
theorem tC:∀{l:List Nat} {left:Int},0≤left→j5 left l≤left
 |[],left,h=>by simp[j5]
 |n::l,left,h=>by
  unfold j5;split
  ·omega
  ·rename_i h1
   have:=tC (l:=l) (left:=left-n) (by omega);omega
theorem al4 {l:LS} {left:Int} (h:0≤left):szS left l≤left:=by
 unfold szS;split
 ·omega
 ·rename_i h1
  have:=tC (l:=l.map (·.size)) (left:=left-l.length) (by omega);omega
theorem at6 {l:LS} {left:Int} (h:0≤szS left l) (h0:0≤left) (h1:left≤1048576):oM l:=by
 unfold szS at h;split at h
 ·omega
 ·rename_i h2
  have h3:=wU h (by omega);refine⟨by omega,fun i=>?_⟩;by_cases hi:i<l.length
  ·have:=h3 (l[i].size) (List.mem_map.2 ⟨l[i],List.getElem_mem hi,rfl⟩)
   simp only[hi,List.getElem?_eq_getElem,Option.getD_some];omega
  ·rw[List.getElem?_eq_none (by omega)]
   simp
abbrev atY (l:LS):Prop:=l.length≤9223372036854775807∧∀i:Nat,(l[i]?.getD .empty).size≤9223372036854775807
instance (l:LS):Decidable (atY l):=Classical.propDecidable _
def ajs:Fun:=F2 dSs dI fun l left=>if atY l∧0≤left∧left≤1048576 then some (iv (szS left l))else none
theorem ahM {l:LS} {left:Int} (h:atY l) (h0:0≤left) (h1:left≤1048576):ajs [.lst false 1 (l.map fun s=> .val (.string s)),.val (.int .i64 left)]=some (.val (.int .i64 (szS left l))):=
 (fZ (A:=dSs) (B:=dI) l left).trans (if_pos ⟨h,h0,h1⟩)
theorem tY:Sound Tryz.prog 50 ajs:=by
 refine ak mixed bV Tryz.func50 rfl 28 rfl [.tmp 4] rfl (by kernel_rfl) fun ps r hr=>?_;obtain⟨l,left0,rfl,hq⟩:=iD hr;clear hr;split at hq
 case isFalse=>cases hq
 case isTrue hok=>
 cases hq;obtain⟨⟨hlen,hsz⟩,hl0,hl1⟩:=hok;refine⟨by simp,?_⟩;simp only[dIs,dUs,dSs,bP,bS,bQ,bT,aP,bR,aQ,aO,aR,aL];(refine wlkX6 ?_ ?_ ?_ ?_ ?_ ?_<;>intros<;>try with_reducible exact trivial)
 ·(refine fnG ?_;try with_reducible exact trivial)
  simp[szS, *]
 generalize hR:szS left0 l=R;refine aB (α:=Nat×Int) mixed (fun k=>[(0,.lst false 1 (l.map fun s=> .val (.string s))),(1,iv k.2),(5,iv k.1)]) (fun k=>[]) (fun _=>0)
  (fun k=>k.1≤l.length∧0≤k.2∧k.2≤1048576∧R=j5 k.2 ((l.drop k.1).map (·.size))) (fun k=>l.length-k.1) (by kernel_rfl) (0,left0-l.length) ⟨Nat.zero_le _,by dsimp only;omega,by dsimp only;omega,?_⟩ ?_ trivial rfl ?_
 ·subst hR
  simp[szS, *]
 ·simp only[push_cast,↓reduceIte,Rq,Rb,Ra,Rs,Rt]
 ·rintro⟨k,left⟩ ⟨hk,hp0,hp1,hok⟩
  dsimp only at hk hp0 hp1 hok;have hs:=hsz k;have h1:k<l.length→R=if left-((l[k]?.getD .empty).size:Int)<0 then-1 else j5 (left-(l[k]?.getD .empty).size) ((l.drop (k+1)).map (·.size)):=by
   intro hkn;have hd:l.drop k=l[k]?.getD .empty::l.drop (k+1):=by rw[List.drop_eq_getElem_cons hkn];simp[hkn]
   rw[hd,List.map_cons]at hok;exact hok
  have h2:¬k<l.length→R=left:=by intro hkn;rw[List.drop_eq_nil_of_le (by omega)]at hok;simpa [j5]using hok
  clear hsz hok hR;have hh1:=Lib.hid h1;have hh2:=Lib.hid h2;clear h1 h2;(refine wlkX6 ?_ ?_ ?_ ?_ ?_ ?_<;>intros<;>try with_reducible exact trivial);all_goals try(refine fnG ?_;try with_reducible exact trivial)
  ·rw[hh1.out (by omega),if_pos (by assumption)]
  ·have:=hh1.out (by omega)
   rw[if_neg (by assumption)]at this;exact⟨(k+1,left-(l[k]?.getD .empty).size),⟨by dsimp only;omega,by dsimp only;omega,by dsimp only;omega,this⟩,by dsimp only;omega,by simp only[push_cast,↓reduceIte,Rq,Rb,Ra,Rs,Rt],trivial,rfl⟩
  ·rw[hh2.out (by omega)]
def ajh:Fun:=F1 dSs fun l=>if l.length≤1048576 then some (.lst true 1 (l.map fun s=> .val (.string s)))else none
theorem ahB {l:LS} (h:l.length≤1048576):ajh [.lst false 1 (l.map fun s=> .val (.string s))]=some (.lst true 1 (l.map fun s=> .val (.string s))):=
 (dY (A:=dSs) l).trans (if_pos h)
theorem uf:Sound Tryz.prog 52 ajh:=by
 refine ak mixed bV Tryz.func52 rfl 22 rfl [.tmp 2] rfl (by kernel_rfl) fun ps r hr=>?_;obtain⟨l,rfl,hq⟩:=bC hr;clear hr;split at hq
 case isFalse=>cases hq
 case isTrue hlen=>
 cases hq;refine⟨by simp,?_⟩;simp only[dIs,dUs,dSs,bP,bS,bQ,bT,aP,bR,aQ,aO,aR,aL];(refine wlkX ?_;intros);refine aB (α:=Nat) mixed (fun k=>[(0,.lst false 1 (l.map fun s=> .val (.string s))),(3,.row 0 1 0 l.length),(4,iv k)]) (fun k=>[(0,9,1,(mV l .empty k).map fun s=> .val (.string s))]) (fun _=>1)
  (fun k=>k≤l.length) (fun k=>l.length-k) (by kernel_rfl) 0 (Nat.zero_le _) ?_ ?_ ?_ ?_
 ·simp only[push_cast,↓reduceIte,Rq,Rb,Ra,Rs,Rt]
 ·simp only[push_cast,↓reduceIte,Rq,Rb,Ra,Rs,Rt,rX,List.map_replicate]
 ·simp only[push_cast,↓reduceIte,Rq,Rb,Ra,Rs,Rt]
 ·intro k hk
  have hfl:(mV l .empty k).length=l.length:=mG;(refine wlkX6 ?_ ?_ ?_ ?_ ?_ ?_<;>intros<;>try with_reducible exact trivial);all_goals try(refine fnG ?_;try with_reducible exact trivial)
  ·refine⟨k+1,by omega,by dsimp only;omega,by simp only[push_cast,↓reduceIte,Rq,Rb,Ra,Rs,Rt],?_,rfl⟩
   simp only[push_cast,↓reduceIte,Rq,Rb,Ra,Rs,Rt];have h:k<l.length:=by omega
   rw[←wY (y:=l[k]?.getD .empty) h (by simp[h])]
  ·rw[oz (by omega)]
def ahN:Fun:=F1 dSS fun l=>if l.length≤1048576∧l.all (fun p=>decide (p.length≤1048576))=true then some (.lst true 1 (l.map fun p=> .lst true 1 (p.map fun s=> .val (.string s))))else none
theorem aoI {l:List LS} (h:l.length≤1048576) (h2:l.all (fun p=>decide (p.length≤1048576))=true):ahN [.lst false 1 (l.map fun p=> .lst false 1 (p.map fun s=> .val (.string s)))]=some (.lst true 1 (l.map fun p=> .lst true 1 (p.map fun s=> .val (.string s)))):=
 (dY (A:=dSS) l).trans (if_pos ⟨h,h2⟩)
def GTs:Ctx:={fn:=aT [(52,ajh)],io:=aT []}
theorem aAA:au Tryz.prog GTs:=okΓ (fC Tryz.func52 uf aj) aj
def aB5:=ah (Γ:=GTs) (f:=52) (φ:=ajh) rfl
theorem aaQ:Sound Tryz.prog 51 ahN:=by
 refine ak mixed aAA Tryz.func51 rfl 23 rfl [.tmp 2] rfl (by kernel_rfl) fun ps r hr=>?_;obtain⟨l,rfl,hq⟩:=bC hr;clear hr;split at hq
 case isFalse=>cases hq
 case isTrue hlen=>
 cases hq;obtain⟨hlen,hall⟩:=hlen;have hat:∀k,(l[k]?.getD []).length≤1048576:=fun k=>by
  by_cases h:k<l.length
  ·have:=List.all_eq_true.1 hall _ (List.getElem_mem h)
   rw[List.getElem?_eq_getElem h,Option.getD_some];exact of_decide_eq_true this
  ·rw[List.getElem?_eq_none (by omega)]
   exact Nat.zero_le _
 clear hall;refine⟨by simp,?_⟩;simp only[dIs,dUs,dSs,bP,bS,bQ,bT,aP,bR,aQ,aO,aR,aL];have gts_c52:=aB5;(refine wlkX ?_;intros);refine aB (α:=Nat) mixed (fun k=>[(0,.lst false 1 (l.map fun p=> .lst false 1 (p.map fun s=> .val (.string s)))),(3,.row 0 1 0 l.length),(4,iv k)]) (fun k=>[(0,24,1,mV (l.map fun p=> .lst true 1 (p.map fun s=> .val (.string s))) (.val (.slice none 0 0)) k)]) (fun _=>1)
  (fun k=>k≤l.length) (fun k=>l.length-k) (by kernel_rfl) 0 (Nat.zero_le _) ?_ ?_ ?_ ?_
 ·simp only[push_cast,↓reduceIte,Rq,Rb,Ra,Rs,Rt]
 ·simp only[push_cast,↓reduceIte,Rq,Rb,Ra,Rs,Rt,rX]
 ·simp only[push_cast,↓reduceIte,Rq,Rb,Ra,Rs,Rt]
 ·intro k hk
  have ap:=ahB (hat k);clear hat;have hfl:(mV (l.map fun p=>PV.lst true 1 (p.map fun s=> .val (.string s))) (.val (.slice none 0 0)) k).length=l.length:=by rw[mG,List.length_map]
  (refine wlkX6 ?_ ?_ ?_ ?_ ?_ ?_<;>intros<;>try with_reducible exact trivial);all_goals try(refine fnG ?_;try with_reducible exact trivial)
  ·refine⟨k+1,by omega,by dsimp only;omega,by simp only[push_cast,↓reduceIte,Rq,Rb,Ra,Rs,Rt],?_,rfl⟩
   simp only[push_cast,↓reduceIte,Rq,Rb,Ra,Rs,Rt];have h:k<l.length:=by omega
   rw[←wY (y:=PV.lst true 1 ((l[k]?.getD []).map fun s=> .val (.string s))) (by simpa using h) (by simp[h])]
  ·first|(rw[oz (by simp;omega),aaj rfl];done)|(rw[oz (by simp;omega),mJ (g':=fun p=>PV.lst true 1 (p.map fun s=> .val (.string s))) fun p=>oZ];rfl)
def aff:Fun:=F2 dSs dSs fun a b=>if a.length≤1048576∧b.length≤1048576 then some (bv (decide (a=b)))else none
theorem u6 {a b:LS} (h:a.length≤1048576) (h2:b.length≤1048576):aff [.lst false 1 (a.map fun s=> .val (.string s)),.lst false 1 (b.map fun s=> .val (.string s))]=some (.val (.bool (decide (a=b)))):=
 (fZ (A:=dSs) (B:=dSs) a b).trans (if_pos ⟨h,h2⟩)
theorem nL:Sound Tryz.prog 18 aff:=by
 refine ak mixed bV Tryz.func18 rfl 26 rfl [.tmp 4] rfl (by kernel_rfl) fun ps r hr=>?_;obtain⟨xs,ys,rfl,hq⟩:=iD hr;clear hr;split at hq
 case isFalse=>cases hq
 case isTrue hlen=>
 cases hq;obtain⟨hl1,hl2⟩:=hlen;refine⟨by simp,?_⟩;simp only[dIs,dUs,dSs,bP,bS,bQ,bT,aP,bR,aQ,aO,aR,aL];(refine wlkX6 ?_ ?_ ?_ ?_ ?_ ?_<;>intros<;>try with_reducible exact trivial)
 ·(refine fnG ?_;try with_reducible exact trivial)
  have:¬xs=ys:=fun h=>by subst h;simp_all
  simp[this]
 refine aB (α:=Nat) mixed (fun k=>[(0,.lst false 1 (xs.map fun s=> .val (.string s))),(1,.lst false 1 (ys.map fun s=> .val (.string s))),(5,iv k)]) (fun k=>[]) (fun _=>0)
  (fun k=>k≤xs.length∧∀j,j<k→xs[j]?.getD .empty=ys[j]?.getD .empty) (fun k=>xs.length-k) (by kernel_rfl) 0 ⟨Nat.zero_le _,fun j hj=>by omega⟩ ?_ trivial rfl ?_
 ·simp only[push_cast,↓reduceIte,Rq,Rb,Ra,Rs,Rt]
 ·intro k ⟨hk,hok⟩
  (refine wlkX6 ?_ ?_ ?_ ?_ ?_ ?_<;>intros<;>try with_reducible exact trivial);all_goals try(refine fnG ?_;try with_reducible exact trivial)
  ·have:¬xs=ys:=fun h=>by subst h;simp_all
   simp[this]
  ·refine⟨k+1,⟨by omega,fun j hj=>?_⟩,by dsimp only;omega,by simp only[push_cast,↓reduceIte,Rq,Rb,Ra,Rs,Rt],trivial,rfl⟩
   by_cases h1:j<k
   ·exact hok j h1
   ·have:j=k:=by omega
    subst this;assumption
  ·have:xs=ys:=afu (d:=.empty) (by omega) fun j hj=>hok j (by omega)
   simp[this]
def agF:Fun:=F2 dSS dSS fun a b=>if a=b∧a.length≤1048576∧a.all (fun p=>decide (p.length≤1048576))=true then some (bv true)else none
theorem ana {a:List LS} (h:a.length≤1048576) (h2:a.all (fun p=>decide (p.length≤1048576))=true):agF [(.lst false 1 (a.map fun p=> .lst false 1 (p.map fun s=> .val (.string s)))),(.lst false 1 (a.map fun p=> .lst false 1 (p.map fun s=> .val (.string s))))]=some (.val (.bool true)):=
 (fZ (A:=dSS) (B:=dSS) a a).trans (if_pos ⟨rfl,h,h2⟩)
def GEs:Ctx:={fn:=aT [(18,aff)],io:=aT []}
theorem aA5:au Tryz.prog GEs:=okΓ (fC Tryz.func18 nL aj) aj
def az5:=ah (Γ:=GEs) (f:=18) (φ:=aff) rfl
theorem aaJ:Sound Tryz.prog 53 agF:=by
 refine ak mixed aA5 Tryz.func53 rfl 27 rfl [.tmp 4] rfl (by kernel_rfl) fun ps r hr=>?_;obtain⟨l,ys,rfl,hq⟩:=iD hr;clear hr;split at hq
 case isFalse=>cases hq
 case isTrue hlen=>
 cases hq;obtain⟨rfl,hlen,hall⟩:=hlen;have hat:∀k,(l[k]?.getD []).length≤1048576:=fun k=>by
  by_cases h:k<l.length
  ·have:=List.all_eq_true.1 hall _ (List.getElem_mem h)
   rw[List.getElem?_eq_getElem h,Option.getD_some];exact of_decide_eq_true this
  ·rw[List.getElem?_eq_none (by omega)]
   exact Nat.zero_le _
 clear hall;refine⟨by simp,?_⟩;simp only[dIs,dUs,dSs,bP,bS,bQ,bT,aP,bR,aQ,aO,aR,aL];have ges_c18:=az5;(refine wlkX ?_;intros);refine aB (α:=Nat) mixed (fun k=>[(0,.lst false 1 (l.map fun p=> .lst false 1 (p.map fun s=> .val (.string s)))),(1,.lst false 1 (l.map fun p=> .lst false 1 (p.map fun s=> .val (.string s)))),(5,iv k)]) (fun k=>[]) (fun _=>0)
  (fun k=>k≤l.length) (fun k=>l.length-k) (by kernel_rfl) 0 (Nat.zero_le _) ?_ trivial rfl ?_
 ·simp only[push_cast,↓reduceIte,Rq,Rb,Ra,Rs,Rt]
 ·intro k hk
  have ap:=u6 (hat k) (hat k);rw[decide_eq_true rfl]at ap;clear hat;(refine wlkX6 ?_ ?_ ?_ ?_ ?_ ?_<;>intros<;>try with_reducible exact trivial);all_goals try(exact fnF)
  all_goals try(exfalso;omega)
  all_goals exact⟨k+1,by omega,by dsimp only;omega,by simp only[push_cast,↓reduceIte,Rq,Rb,Ra,Rs,Rt],trivial,rfl⟩
abbrev BK:=List LS×LS×Int×Int×Int
abbrev iy:Dec BK:=dA5 dSS dSs dI dI dI
abbrev yO (l:List LS):Prop:=l.length≤1048576∧l.all (fun p=>decide (p.length≤1048576))=true
def vW:Fun:=F1 iy fun b=>if yO b.1∧b.2.1.length≤1048576 then some (.agg [.lst true 1 (b.1.map fun p=> .lst true 1 (p.map fun s=> .val (.string s))),.lst true 1 (b.2.1.map fun s=> .val (.string s)),.val (.int .i64 b.2.2.1),.val (.int .i64 b.2.2.2.1),.val (.int .i64 b.2.2.2.2)])else none
theorem aeh {p:List LS} {q:LS} {x y z:Int} (h:yO p) (h2:q.length≤1048576):vW [.agg [.lst false 1 (p.map fun p=> .lst false 1 (p.map fun s=> .val (.string s))),.lst false 1 (q.map fun s=> .val (.string s)),.val (.int .i64 x),.val (.int .i64 y),.val (.int .i64 z)]]=some (.agg [.lst true 1 (p.map fun p=> .lst true 1 (p.map fun s=> .val (.string s))),.lst true 1 (q.map fun s=> .val (.string s)),.val (.int .i64 x),.val (.int .i64 y),.val (.int .i64 z)]):=
 (dY (A:=iy) (p,q,x,y,z)).trans (if_pos ⟨h,h2⟩)
def GTk:Ctx:={fn:=aT [(51,ahN),(52,ajh)],io:=aT []}
theorem azC:au Tryz.prog GTk:=okΓ (fC Tryz.func51 aaQ (fC Tryz.func52 uf aj)) aj
def aCR:=ah (Γ:=GTk) (f:=51) (φ:=ahN) rfl
def aCE:=ah (Γ:=GTk) (f:=52) (φ:=ajh) rfl
theorem aoN:Sound Tryz.prog 17 vW:=by
 refine ak mixed azC Tryz.func17 rfl 22 rfl [.cell 2 26] rfl (by kernel_rfl) fun ps r hr=>?_;obtain⟨⟨p,q,x,y,z⟩,rfl,hq⟩:=bC hr;clear hr;split at hq
 case isFalse=>cases hq
 case isTrue hlen=>
 cases hq;dsimp only at hlen;have ap:=aoI hlen.1.1 hlen.1.2;have ap2:=ahB hlen.2;clear hlen;refine⟨by simp,?_⟩;simp only[dIs,dUs,dSs,bP,bS,bQ,bT,aP,bR,aQ,aO,aR,aL];have gtk_c51:=aCR;have gtk_c52:=aCE;(refine wlkX ?_;intros);all_goals(exact fnF)
def ag2:Fun:=F2 iy iy fun a b=>if a=b∧yO a.1∧a.2.1.length≤1048576 then some (bv true)else none
theorem xw {p:List LS} {q:LS} {x y z:Int} (h:yO p) (h2:q.length≤1048576):ag2 [.agg [.lst false 1 (p.map fun p=> .lst false 1 (p.map fun s=> .val (.string s))),.lst false 1 (q.map fun s=> .val (.string s)),.val (.int .i64 x),.val (.int .i64 y),.val (.int .i64 z)],.agg [.lst false 1 (p.map fun p=> .lst false 1 (p.map fun s=> .val (.string s))),.lst false 1 (q.map fun s=> .val (.string s)),.val (.int .i64 x),.val (.int .i64 y),.val (.int .i64 z)]]=some (.val (.bool true)):=
 (fZ (A:=iy) (B:=iy) (p,q,x,y,z) (p,q,x,y,z)).trans (if_pos ⟨rfl,h,h2⟩)
def GEk:Ctx:={fn:=aT [(53,agF),(18,aff)],io:=aT []}
theorem aCh:au Tryz.prog GEk:=okΓ (fC Tryz.func53 aaJ (fC Tryz.func18 nL aj)) aj
def aDd:=ah (Γ:=GEk) (f:=53) (φ:=agF) rfl
def aCw:=ah (Γ:=GEk) (f:=18) (φ:=aff) rfl
theorem acL:Sound Tryz.prog 19 ag2:=by
 refine ak mixed aCh Tryz.func19 rfl 32 rfl [.tmp 4] rfl (by kernel_rfl) fun ps r hr=>?_;obtain⟨⟨p,q,x,y,z⟩,b,rfl,hq⟩:=iD hr;clear hr;split at hq
 case isFalse=>cases hq
 case isTrue hlen=>
 cases hq;obtain⟨rfl,hlen⟩:=hlen;dsimp only at hlen;have ap:=ana hlen.1.1 hlen.1.2;have ap2:=u6 hlen.2 hlen.2;rw[decide_eq_true rfl]at ap2;clear hlen;refine⟨by simp,?_⟩;simp only[dIs,dUs,dSs,bP,bS,bQ,bT,aP,bR,aQ,aO,aR,aL];have gek_c53:=aDd;have gek_c18:=aCw;(refine wlkX ?_;intros);all_goals(exact fnF)
def sM:Int→List LS→Int
 |left,[]=>left
 |left,p::t=>if szS left p<0 then-1 else sM (szS left p) t
def aj9 (left:Int) (l:List LS):Int:=if left-l.length<0 then-1 else sM (left-l.length) l
theorem agD:∀{l:List LS} {left:Int},0≤left→sM left l≤left
 |[],left,h=>by simp[sM]
 |p::l,left,h=>by
  unfold sM;split
  ·omega
  ·rename_i h1
   have:=agD (l:=l) (left:=szS left p) (by omega);have:=al4 (l:=p) h;omega
theorem afZ:∀{l:List LS} {left:Int},0≤sM left l→0≤left→left≤1048576→∀p∈l,oM p
 |[],left,h,h0,h1,p,hp=>by simp at hp
 |q::l,left,h,h0,h1,p,hp=>by
  unfold sM at h;split at h
  ·omega
  ·rename_i h2
   rcases List.mem_cons.1 hp with rfl|h3
   ·exact at6 (by omega) h0 h1
   ·have:=al4 (l:=q) h0
    exact afZ h (by omega) (by omega) p h3
abbrev aeL (l:List LS):Prop:=l.length≤9223372036854775807∧∀i:Nat,atY (l[i]?.getD [])
instance (l:List LS):Decidable (aeL l):=Classical.propDecidable _
def agM:Fun:=F2 dSS dI fun l left=>if aeL l∧left=1048576 then some (iv (aj9 left l))else none
theorem aoe {l:List LS} (h:aeL l):agM [.lst false 1 (l.map fun p=> .lst false 1 (p.map fun s=> .val (.string s))),.val (.int .i64 1048576)]=some (.val (.int .i64 (aj9 1048576 l))):=
 (fZ (A:=dSS) (B:=dI) l 1048576).trans (if_pos ⟨h,rfl⟩)
def GSs:Ctx:={fn:=aT [(50,ajs)],io:=aT []}
theorem aBn:au Tryz.prog GSs:=okΓ (fC Tryz.func50 tY aj) aj
def aCu:=ah (Γ:=GSs) (f:=50) (φ:=ajs) rfl
theorem abw:Sound Tryz.prog 49 agM:=by
 refine ak mixed aBn Tryz.func49 rfl 27 rfl [.tmp 4] rfl (by kernel_rfl) fun ps r hr=>?_;obtain⟨l,left0,rfl,hq⟩:=iD hr;clear hr;split at hq
 case isFalse=>cases hq
 case isTrue hok=>
 cases hq;obtain⟨⟨hlen,hsz⟩,rfl⟩:=hok;refine⟨by simp,?_⟩;simp only[dIs,dUs,dSs,bP,bS,bQ,bT,aP,bR,aQ,aO,aR,aL];have gss_c50:=aCu;(refine wlkX6 ?_ ?_ ?_ ?_ ?_ ?_<;>intros<;>try with_reducible exact trivial)
 ·(refine fnG ?_;try with_reducible exact trivial)
  simp[aj9, *]
 generalize hR:aj9 1048576 l=R;refine aB (α:=Nat×Int) mixed (fun k=>[(0,.lst false 1 (l.map fun p=> .lst false 1 (p.map fun s=> .val (.string s)))),(1,iv k.2),(5,iv k.1)]) (fun k=>[]) (fun _=>0)
  (fun k=>k.1≤l.length∧0≤k.2∧k.2≤1048576∧R=sM k.2 (l.drop k.1)) (fun k=>l.length-k.1) (by kernel_rfl) (0,1048576-l.length) ⟨Nat.zero_le _,by dsimp only;omega,by dsimp only;omega,?_⟩ ?_ trivial rfl ?_
 ·subst hR
  simp[aj9, *]
 ·simp only[push_cast,↓reduceIte,Rq,Rb,Ra,Rs,Rt]
 ·rintro⟨k,left⟩ ⟨hk,hp0,hp1,hok⟩
  dsimp only at hk hp0 hp1 hok;have ap:=ahM (hsz k) hp0 hp1;have hle:=al4 (l:=l[k]?.getD []) hp0;have h1:k<l.length→R=if szS left (l[k]?.getD [])<0 then-1 else sM (szS left (l[k]?.getD [])) (l.drop (k+1)):=by
   intro hkn;have hd:l.drop k=l[k]?.getD []::l.drop (k+1):=by rw[List.drop_eq_getElem_cons hkn];simp[hkn]
   rw[hd]at hok;exact hok
  have h2:¬k<l.length→R=left:=by intro hkn;rw[List.drop_eq_nil_of_le (by omega)]at hok;simpa [sM]using hok
  clear hsz hok hR;have hh1:=Lib.hid h1;have hh2:=Lib.hid h2;clear h1 h2;(refine wlkX6 ?_ ?_ ?_ ?_ ?_ ?_<;>intros<;>try with_reducible exact trivial);all_goals try(refine fnG ?_;try with_reducible exact trivial)
  ·rw[hh1.out (by omega),if_pos (by assumption)]
  ·have:=hh1.out (by omega)
   rw[if_neg (by assumption)]at this;exact⟨(k+1,szS left (l[k]?.getD [])),⟨by dsimp only;omega,by dsimp only;omega,by dsimp only;omega,this⟩,by dsimp only;omega,by simp only[push_cast,↓reduceIte,Rq,Rb,Ra,Rs,Rt],trivial,rfl⟩
  ·rw[hh2.out (by omega)]
def atp (p:List LS) (q:LS):Int:=if aj9 1048576 p<0 then-1 else if szS (aj9 1048576 p) q<0 then-1 else szS (aj9 1048576 p) q
theorem alF {l:List LS}:aj9 1048576 l≤1048576:=by
 unfold aj9;split
 ·omega
 ·have:=agD (l:=l) (left:=1048576-l.length) (by omega)
  omega
def vM:Fun:=F2 iy dI fun b left=>if aeL b.1∧atY b.2.1∧left=1048576 then some (iv (atp b.1 b.2.1))else none
theorem aei {p:List LS} {q:LS} {x y z:Int} (h:aeL p) (h2:atY q):vM [.agg [.lst false 1 (p.map fun p=> .lst false 1 (p.map fun s=> .val (.string s))),.lst false 1 (q.map fun s=> .val (.string s)),.val (.int .i64 x),.val (.int .i64 y),.val (.int .i64 z)],.val (.int .i64 1048576)]=some (.val (.int .i64 (atp p q))):=
 (fZ (A:=iy) (B:=dI) (p,q,x,y,z) 1048576).trans (if_pos ⟨h,h2,rfl⟩)
def GSk:Ctx:={fn:=aT [(50,ajs),(49,agM)],io:=aT []}
theorem aB1:au Tryz.prog GSk:=okΓ (fC Tryz.func50 tY (fC Tryz.func49 abw aj)) aj
def auc:=ah (Γ:=GSk) (f:=50) (φ:=ajs) rfl
def at5:=ah (Γ:=GSk) (f:=49) (φ:=agM) rfl
theorem aoy:Sound Tryz.prog 16 vM:=by
 refine ak mixed aB1 Tryz.func16 rfl 18 rfl [.tmp 4] rfl (by kernel_rfl) fun ps r hr=>?_;obtain⟨⟨p,q,x,y,z⟩,left,rfl,hq⟩:=iD hr;clear hr;split at hq
 case isFalse=>cases hq
 case isTrue hok=>
 cases hq;obtain⟨hok1,hok2,rfl⟩:=hok;dsimp only at hok1 hok2;have ap:=aoe hok1;have hle:=alF (l:=p);have ap2:0≤aj9 1048576 p→_:=fun h=>ahM hok2 h hle;clear hok1 hok2;refine⟨by simp,?_⟩;simp only[dIs,dUs,dSs,bP,bS,bQ,bT,aP,bR,aQ,aO,aR,aL];by_cases hn:aj9 1048576 p<0
 ·clear ap2
  have gsk_c50:=auc;have gsk_c49:=at5;(refine wlkX ?_;intros);all_goals(refine fnG ?_;try with_reducible exact trivial)
  all_goals simp[atp,hn]
 ·have ap3:=ap2 (by omega)
  clear ap2;have gsk_c50:=auc;have gsk_c49:=at5;(refine wlkX6 ?_ ?_ ?_ ?_ ?_ ?_<;>intros<;>try with_reducible exact trivial);all_goals(refine fnG ?_;try with_reducible exact trivial)
  all_goals simp[atp, *]
def azg (w:LS):Bool:=bD w&& !decide (w.length=0)
def iC (p:List LS) (q:LS) (x y z:Int):Bool:=p.all azg&&(decide (p.length≤6)&&(bA q&&(inB x 0 1000&&(inB y 0 10000&&inB z 1 30))))
abbrev aaI (p:List LS) (q:LS):Prop:=p.length≤1048576∧(∀i:Nat,oM (p[i]?.getD []))∧oM q
instance (p:List LS) (q:LS):Decidable (aaI p q):=Classical.propDecidable _
def o9:Fun:=F1 iy fun b=>if aaI b.1 b.2.1 then some (bv (iC b.1 b.2.1 b.2.2.1 b.2.2.2.1 b.2.2.2.2))else none
theorem zA {p:List LS} {q:LS} {x y z:Int} (h:aaI p q):o9 [.agg [.lst false 1 (p.map fun p=> .lst false 1 (p.map fun s=> .val (.string s))),.lst false 1 (q.map fun s=> .val (.string s)),.val (.int .i64 x),.val (.int .i64 y),.val (.int .i64 z)]]=some (.val (.bool (iC p q x y z))):=
 (dY (A:=iy) (p,q,x,y,z)).trans (if_pos h)
def qN:Fun:=F1 dI fun n=>some (bv (inB n 0 10000))
theorem oh (n:Int):qN [.val (.int .i64 n)]=some (.val (.bool (inB n 0 10000))):=rfl
def GBd:Ctx:={fn:=aT [(64,φIn)],io:=aT []}
theorem aD4:au Tryz.prog GBd:=okΓ (fC Tryz.func64 sD aj) aj
def aCW:=ah (Γ:=GBd) (f:=64) (φ:=φIn) rfl
theorem qZ:Sound Tryz.prog 72 qN:=by refine ak mixed aD4 Tryz.func72 rfl 5 rfl [.tmp 2] rfl (by kernel_rfl) fun ps r hr=>?_;obtain⟨n,rfl,hr⟩:=bC hr;cases hr;refine⟨by simp,?_⟩;simp only[dIs,dUs,dSs,bP,bS,bQ,bT,aP,bR,aQ,aO,aR,aL];have gbd_c64:=aCW;have ap:=bI;(refine wlkX ?_;intros);all_goals(exact fnF)
def GKs:Ctx:={fn:=aT [(32,jF),(33,gT),(34,φIn)],io:=aT []}
theorem az2:au Tryz.prog GKs:=okΓ (fC Tryz.func32 kK (fC Tryz.func33 dM (fC Tryz.func34 fK aj))) aj
def az4:=ah (Γ:=GKs) (f:=32) (φ:=jF) rfl
def aBX:=ah (Γ:=GKs) (f:=33) (φ:=gT) rfl
def aBN:=ah (Γ:=GKs) (f:=34) (φ:=φIn) rfl
theorem uS:Sound Tryz.prog 9 o9:=by
 refine ak mixed az2 Tryz.func9 rfl 51 rfl [.tmp 2] rfl (by kernel_rfl) fun ps r hr=>?_;obtain⟨⟨p,q,x,y,z⟩,rfl,hq⟩:=bC hr;clear hr;split at hq
 case isFalse=>cases hq
 case isTrue hok=>
 cases hq;dsimp only at hok;obtain⟨hlen,hall,hoq⟩:=hok;have ap2:=iU hoq;clear hoq;refine⟨by simp,?_⟩;simp only[dIs,dUs,dSs,bP,bS,bQ,bT,aP,bR,aQ,aO,aR,aL];have gks_c32:=az4;have gks_c33:=aBX;have gks_c34:=aBN;have ap3:=bI;have ap4:=oh;(refine wlkX6 ?_ ?_ ?_ ?_ ?_ ?_<;>intros<;>try with_reducible exact trivial);refine aB (α:=Nat) mixed (fun k=>[(1,.own 0 5 0 0),(3,iv k)]) (fun _=>[(0,26,5,[.agg [.lst false 1 (p.map fun p=> .lst false 1 (p.map fun s=> .val (.string s))),.lst false 1 (q.map fun s=> .val (.string s)),.val (.int .i64 x),.val (.int .i64 y),.val (.int .i64 z)]])]) (fun _=>1)
  (fun k=>k≤p.length∧∀j,j<k→azg (p[j]?.getD [])=true) (fun k=>p.length-k) (by kernel_rfl) 0 ⟨Nat.zero_le _,fun j hj=>by omega⟩ ?_ ?_ ?_ ?_
 ·simp only[push_cast,↓reduceIte,Rq,Rb,Ra,Rs,Rt]
 ·simp only[push_cast,↓reduceIte,Rq,Rb,Ra,Rs,Rt]
 ·simp only[push_cast,↓reduceIte,Rq,Rb,Ra,Rs,Rt]
 ·intro k ⟨hk,hok⟩
  have ap:=oq (hall k);have hpl:=(hall k).1;clear hall;have hpb:azg (p[k]?.getD [])=(bD (p[k]?.getD [])&& !decide ((p[k]?.getD []).length=0)):=rfl;have hpb:=Lib.hid hpb;have hok:=Lib.hid hok
  repeat' (first|(with_reducible first|apply rJ|apply gQ|apply jP|apply jQ|apply rP|apply ah9|apply rG|apply qP|apply ahE|apply qU|apply qV|apply ag7|apply qH|apply qj|apply rA)|((with_reducible apply eY);(simp only[List.map_cons,List.map_nil]<;>exact rfl))|((with_reducible apply jM);(simp only[List.map_cons,List.map_nil]<;>exact rfl);decide+kernel)|((with_reducible apply rE);rfl)|((first|((with_reducible apply i_V);rfl;rfl;rfl)|((first|((with_reducible apply i_E);rfl)|((with_reducible apply i_S);rfl));first|rfl|(simp only[push_cast,↓reduceIte]))|((with_reducible apply agG);rfl;rfl)|((with_reducible apply agc);rfl;rfl;rfl)|(with_reducible first|apply ahp|apply jR));(simp(disch:=(first|omega|(simp only[push_cast];first|done|omega))) only[push_cast,↓reduceIte,Rq,Rb,Ra,Rs,Rt, *]<;>with_reducible exact rfl);all_goals try(first|(with_reducible first|refine hyT ?_|refine hyF ?_|exact hyA|exact hyB)|(intro hX;first|(cases hX;done)|((try simp only[decide_eq_true_eq,decide_eq_false_iff_not,Bool.not_eq_true',Bool.not_eq_false']at hX);(try have hXb:=aD.1 hX))))))
  all_goals try(refine fnG ?_;try with_reducible exact trivial)
  all_goals try(exfalso;omega)
  all_goals have hpb1:=hpb.out
  all_goals(first
   |(rw[show iC p q x y z=false from by(unfold iC;rw[jX (d:=[]) (k:=k) (by omega) (by simp_all),Bool.false_and])];done)
   |(rw[show iC p q x y z=(decide (p.length≤6)&&(bA q&&(inB x 0 1000&&(inB y 0 10000&&inB z 1 30))))from by(unfold iC;rw[gF (d:=[]) fun j hj=>hok.out j (by omega),Bool.true_and])];simp_all;done)
   |(rw[show iC p q x y z=(decide (p.length≤6)&&(bA q&&(inB x 0 1000&&(inB y 0 10000&&inB z 1 30))))from by(unfold iC;rw[gF (d:=[]) fun j hj=>hok.out j (by omega),Bool.true_and])];simp_all;omega)
   |(refine⟨k+1,⟨by omega,fun j hj=>?_⟩,by dsimp only;omega,by simp only[push_cast,↓reduceIte,Rq,Rb,Ra,Rs,Rt],by simp only[push_cast,↓reduceIte,Rq,Rb,Ra,Rs,Rt],rfl⟩
     by_cases h1:j<k
     ·exact hok.out j h1
     ·have:j=k:=by omega
      subst this;simp_all;try omega))
def GKi:Ctx:={fn:=aT [(70,jF),(71,gT),(64,φIn),(72,qN)],io:=aT []}
theorem aAq:au Tryz.prog GKi:=okΓ (fC Tryz.func70 kY (fC Tryz.func71 dK (fC Tryz.func64 sD (fC Tryz.func72 qZ aj)))) aj
def aAe:=ah (Γ:=GKi) (f:=70) (φ:=jF) rfl
def aCf:=ah (Γ:=GKi) (f:=71) (φ:=gT) rfl
def aDF:=ah (Γ:=GKi) (f:=64) (φ:=φIn) rfl
def aCo:=ah (Γ:=GKi) (f:=72) (φ:=qN) rfl
theorem uO:Sound Tryz.prog 36 o9:=by
 refine ak mixed aAq Tryz.func36 rfl 45 rfl [.tmp 2] rfl (by kernel_rfl) fun ps r hr=>?_;obtain⟨⟨p,q,x,y,z⟩,rfl,hq⟩:=bC hr;clear hr;split at hq
 case isFalse=>cases hq
 case isTrue hok=>
 cases hq;dsimp only at hok;obtain⟨hlen,hall,hoq⟩:=hok;have ap2:=iU hoq;clear hoq;refine⟨by simp,?_⟩;simp only[dIs,dUs,dSs,bP,bS,bQ,bT,aP,bR,aQ,aO,aR,aL];have gki_c70:=aAe;have gki_c71:=aCf;have gki_c64:=aDF;have gki_c72:=aCo;have ap3:=bI;have ap4:=oh;(refine wlkX6 ?_ ?_ ?_ ?_ ?_ ?_<;>intros<;>try with_reducible exact trivial);refine aB (α:=Nat) mixed (fun k=>[(1,.own 0 5 0 0),(6,.lst false 1 (p.map fun p=> .lst false 1 (p.map fun s=> .val (.string s)))),(7,iv p.length),(8,iv k)]) (fun _=>[(0,26,5,[.agg [.lst false 1 (p.map fun p=> .lst false 1 (p.map fun s=> .val (.string s))),.lst false 1 (q.map fun s=> .val (.string s)),.val (.int .i64 x),.val (.int .i64 y),.val (.int .i64 z)]])]) (fun _=>1)
  (fun k=>k≤p.length∧∀j,j<k→azg (p[j]?.getD [])=true) (fun k=>p.length-k) (by kernel_rfl) 0 ⟨Nat.zero_le _,fun j hj=>by omega⟩ ?_ ?_ ?_ ?_
 ·simp only[push_cast,↓reduceIte,Rq,Rb,Ra,Rs,Rt]
 ·simp only[push_cast,↓reduceIte,Rq,Rb,Ra,Rs,Rt]
 ·simp only[push_cast,↓reduceIte,Rq,Rb,Ra,Rs,Rt]
 ·intro k ⟨hk,hok⟩
  have ap:=oq (hall k);have hpl:=(hall k).1;clear hall;have hpb:azg (p[k]?.getD [])=(bD (p[k]?.getD [])&& !decide ((p[k]?.getD []).length=0)):=rfl;have hpb:=Lib.hid hpb;have hok:=Lib.hid hok
  repeat' (first|(with_reducible first|apply rJ|apply gQ|apply jP|apply jQ|apply rP|apply ah9|apply rG|apply qP|apply ahE|apply qU|apply qV|apply ag7|apply qH|apply qj|apply rA)|((with_reducible apply eY);(simp only[List.map_cons,List.map_nil]<;>exact rfl))|((with_reducible apply jM);(simp only[List.map_cons,List.map_nil]<;>exact rfl);decide+kernel)|((with_reducible apply rE);rfl)|((first|((with_reducible apply i_V);rfl;rfl;rfl)|((first|((with_reducible apply i_E);rfl)|((with_reducible apply i_S);rfl));first|rfl|(simp only[push_cast,↓reduceIte]))|((with_reducible apply agG);rfl;rfl)|((with_reducible apply agc);rfl;rfl;rfl)|(with_reducible first|apply ahp|apply jR));(simp(disch:=(first|omega|(simp only[push_cast];first|done|omega))) only[push_cast,↓reduceIte,Rq,Rb,Ra,Rs,Rt, *]<;>with_reducible exact rfl);all_goals try(first|(with_reducible first|refine hyT ?_|refine hyF ?_|exact hyA|exact hyB)|(intro hX;first|(cases hX;done)|((try simp only[decide_eq_true_eq,decide_eq_false_iff_not,Bool.not_eq_true',Bool.not_eq_false']at hX);(try have hXb:=aD.1 hX))))))
  all_goals try(refine fnG ?_;try with_reducible exact trivial)
  all_goals try(exfalso;omega)
  all_goals have hpb1:=hpb.out
  all_goals(first
   |(rw[show iC p q x y z=false from by(unfold iC;rw[jX (d:=[]) (k:=k) (by omega) (by simp_all),Bool.false_and])];done)
   |(rw[show iC p q x y z=(decide (p.length≤6)&&(bA q&&(inB x 0 1000&&(inB y 0 10000&&inB z 1 30))))from by(unfold iC;rw[gF (d:=[]) fun j hj=>hok.out j (by omega),Bool.true_and])];simp_all;done)
   |(rw[show iC p q x y z=(decide (p.length≤6)&&(bA q&&(inB x 0 1000&&(inB y 0 10000&&inB z 1 30))))from by(unfold iC;rw[gF (d:=[]) fun j hj=>hok.out j (by omega),Bool.true_and])];simp_all;omega)
   |(refine⟨k+1,⟨by omega,fun j hj=>?_⟩,by dsimp only;omega,by simp only[push_cast,↓reduceIte,Rq,Rb,Ra,Rs,Rt],by simp only[push_cast,↓reduceIte,Rq,Rb,Ra,Rs,Rt],rfl⟩
     by_cases h1:j<k
     ·exact hok.out j h1
     ·have:j=k:=by omega
      subst this;simp_all;try omega))
theorem amk {l:LS} {k:Nat} (h:k<l.length):zi (l.take (k+1))=zi (l.take k)+(l[k]?.getD .empty).size:=by rw[List.take_add_one,List.getElem?_eq_getElem h];simp only[zi,List.map_append,List.sum_append,Option.toList_some,List.map_cons,List.map_nil,List.sum_cons,List.sum_nil,Nat.add_zero,Option.getD_some]
theorem uE (l:LS) (k:Nat):zi (l.take k)≤zi l:=by
 have h:zi l=zi (l.take k)+zi (l.drop k):=by
  conv=>lhs;rw[←List.take_append_drop k l]
  simp only[zi,List.map_append,List.sum_append]
 omega
def amB (c:Int) (s:ByteArray):Bool:=s.data.toList.any fun b=>decide (c=(b.toNat:Int))
theorem aGm {b:UInt8} {c:Int} (h0:0≤c) (h1:c≤255):(b==c.toNat.toUInt8)=decide (c=(b.toNat:Int)):=by
 have e:(c.toNat.toUInt8).toNat=c.toNat:=by show c.toNat % 256=c.toNat;omega
 rw[Bool.eq_iff_iff,beq_iff_eq,decide_eq_true_eq];constructor
 ·intro h
  rw[h,e];omega
 ·intro h
  apply UInt8.toNat_inj.1;rw[e];omega
theorem atT:∀(l:List UInt8) {c:Int},0≤c→c≤255→decide (0≤Lib.indexByte l c.toNat.toUInt8)=l.any fun b=>decide (c=(b.toNat:Int))
 |[],c,_,_=>rfl
 |b::l,c,h0,h1=>by
  have ih:=atT l h0 h1;have hge:=Lib.indexByte_ge l c.toNat.toUInt8;unfold Lib.indexByte;rw[aGm h0 h1,List.any_cons];cases hb:decide (c=(b.toNat:Int))with
  |true=>rfl
  |false=>
   rw[Bool.false_or,←ih,if_neg (by decide)];split
   ·rename_i hx
    rw[beq_iff_eq.1 hx]
   ·rename_i hx
    have hx1:¬Lib.indexByte l c.toNat.toUInt8=-1:=fun e=>hx (beq_iff_eq.2 e);exact decide_eq_decide.2 (by omega)
def adU (c:Int):Int:=if c<97∨122<c then 0 else if c=105∨c=106∨c=108 then 3 else if c=102∨c=114∨c=116 then 4 else if c=109∨c=119 then 8 else 5
def qh (a b:Int):Int:=if((a=118∨a=119∨a=121)∧(b=97∨b=101∨b=111))∨(a=114∧(b=110∨b=109))then 1 else 0
def tF (a b:Int):Bool:=decide (a=102∧(b=105∨b=106∨b=108∨b=102))
theorem aaD (c:Int):0≤adU c∧adU c≤8:=by
 unfold adU
 repeat' split
 all_goals omega
theorem wR (a b:Int):0≤qh a b∧qh a b≤1:=by unfold qh;split<;>omega
def afY:Fun:=F1 dU fun c=>some (iv (adU c))
theorem aoV (c:Int):afY [.val (.int .u8 c)]=some (.val (.int .i64 (adU c))):=rfl
def aga:Fun:=F2 dU dU fun a b=>some (iv (qh a b))
theorem anb (a b:Int):aga [.val (.int .u8 a),.val (.int .u8 b)]=some (.val (.int .i64 (qh a b))):=rfl
def aaA:Fun:=F2 dU dU fun a b=>some (bv (tF a b))
theorem aiz (a b:Int):aaA [.val (.int .u8 a),.val (.int .u8 b)]=some (.val (.bool (tF a b))):=rfl
theorem afs:Sound Tryz.prog 219 afY:=by
 refine ak mixed bV Tryz.func219 rfl 39 rfl [.tmp 2] rfl (by kernel_rfl) fun ps r hr=>?_;obtain⟨c,rfl,hr⟩:=bC hr;cases hr;refine⟨by simp,?_⟩;simp only[dIs,dUs,dSs,bP,bS,bQ,bT,aP,bR,aQ,aO,aR,aL];(repeat' (first|(with_reducible first|apply rJ|apply gQ|apply jP|apply jQ|apply rP|apply ah9|apply rG|apply qP|apply ahE|apply qU|apply qV|apply ag7|apply qH|apply qj|apply rA)|((with_reducible apply eY);(simp only[List.map_cons,List.map_nil]<;>exact rfl))|((with_reducible apply jM);(simp only[List.map_cons,List.map_nil]<;>exact rfl);decide+kernel)|((with_reducible apply rE);rfl)|((first|((with_reducible apply i_V);rfl;rfl;rfl)|((first|((with_reducible apply i_E);rfl)|((with_reducible apply i_S);rfl));first|rfl|(simp only[push_cast,↓reduceIte]))|((with_reducible apply agG);rfl;rfl)|((with_reducible apply agc);rfl;rfl;rfl)|(with_reducible first|apply ahp|apply jR));(simp(disch:=(first|omega|(simp only[push_cast];first|done|omega))) only[push_cast,↓reduceIte,Rq,Rb,Ra,Rs,Rt, *]<;>with_reducible exact rfl);all_goals try(first|(with_reducible first|refine hyT ?_|refine hyF ?_|exact hyA|exact hyB)|(intro hX;first|(cases hX;done)|((try simp only[decide_eq_true_eq,decide_eq_false_iff_not,Bool.not_eq_true',Bool.not_eq_false']at hX);(try have hXb:=aD.1 hX)))))));all_goals try(exfalso;omega)
 all_goals((first|apply ad8|apply zW);simp(disch:=(first|omega|(simp only[push_cast];first|done|omega))) only[push_cast,↓reduceIte,Rq,Rb,Ra,Rs,Rt, *])
 all_goals((refine congrArg (fun z=>some (PV.val (Value.int IntKind.i64 z))) ?_);unfold adU;repeat' split)
 all_goals omega
theorem aeE:Sound Tryz.prog 220 aga:=by
 refine ak mixed bV Tryz.func220 rfl 43 rfl [.tmp 4] rfl (by kernel_rfl) fun ps r hr=>?_;obtain⟨a,b,rfl,hr⟩:=iD hr;cases hr;refine⟨by simp,?_⟩;simp only[dIs,dUs,dSs,bP,bS,bQ,bT,aP,bR,aQ,aO,aR,aL];(repeat' (first|(with_reducible first|apply rJ|apply gQ|apply jP|apply jQ|apply rP|apply ah9|apply rG|apply qP|apply ahE|apply qU|apply qV|apply ag7|apply qH|apply qj|apply rA)|((with_reducible apply eY);(simp only[List.map_cons,List.map_nil]<;>exact rfl))|((with_reducible apply jM);(simp only[List.map_cons,List.map_nil]<;>exact rfl);decide+kernel)|((with_reducible apply rE);rfl)|((first|((with_reducible apply i_V);rfl;rfl;rfl)|((first|((with_reducible apply i_E);rfl)|((with_reducible apply i_S);rfl));first|rfl|(simp only[push_cast,↓reduceIte]))|((with_reducible apply agG);rfl;rfl)|((with_reducible apply agc);rfl;rfl;rfl)|(with_reducible first|apply ahp|apply jR));(simp(disch:=(first|omega|(simp only[push_cast];first|done|omega))) only[push_cast,↓reduceIte,Rq,Rb,Ra,Rs,Rt, *]<;>with_reducible exact rfl);all_goals try(first|(with_reducible first|refine hyT ?_|refine hyF ?_|exact hyA|exact hyB)|(intro hX;first|(cases hX;done)|((try simp only[decide_eq_true_eq,decide_eq_false_iff_not,Bool.not_eq_true',Bool.not_eq_false']at hX);(try have hXb:=aD.1 hX)))))));all_goals try(exfalso;omega)
 all_goals((first|apply ad8|apply zW);simp(disch:=(first|omega|(simp only[push_cast];first|done|omega))) only[push_cast,↓reduceIte,Rq,Rb,Ra,Rs,Rt, *])
 all_goals((refine congrArg (fun z=>some (PV.val (Value.int IntKind.i64 z))) ?_);unfold qh;repeat' split)
 all_goals omega
theorem acI:Sound Tryz.prog 238 aaA:=by refine ak mixed bV Tryz.func238 rfl 23 rfl [.tmp 4] rfl (by kernel_rfl) fun ps r hr=>?_;obtain⟨a,b,rfl,hr⟩:=iD hr;cases hr;refine⟨by simp,?_⟩;simp only[dIs,dUs,dSs,bP,bS,bQ,bT,aP,bR,aQ,aO,aR,aL];((refine wlk6 ?_ ?_ ?_ ?_ ?_ ?_<;>intros<;>try with_reducible exact trivial)<;>(refine fnG ?_;try with_reducible exact trivial));all_goals((refine congrArg (fun z=>some (PV.val (Value.bool z))) ?_);unfold tF;first|(simp;omega)|simp_all)
def φIb:Fun:=F2 dS dU fun s c=>some (iv (Lib.indexByte s.data.toList c.toNat.toUInt8))
theorem aF0:Sound Tryz.prog 234 φIb:=by
 intro w J ps args r hr hJ hT hargs;obtain⟨s,c,rfl,hq⟩:=iD hr;cases hq;simp only[bL]at hargs;obtain⟨v1,vs1,e1,h1,v2,vs2,rfl,h2,rfl⟩:=hargs;obtain rfl:args=#[v1,v2]:=by obtain⟨a⟩:=args;simp only at e1;rw[e1]
 simp only[dS,dU,Rep]at h1 h2;subst h1;subst h2;refine(YtmmafcjjlbgnkaaGreatDoor.strings_IndexByte s c w).mono ?_;rintro e w' ⟨rfl,rfl⟩;exact⟨_,rfl,Below.refl _ _,fun g' _=>by simp only[Rep]⟩
theorem av1 (s:ByteArray) (c:Int):φIb [.val (.string s),.val (.int .u8 c)]=some (.val (.int .i64 (Lib.indexByte s.data.toList c.toNat.toUInt8))):=rfl
def φAm:Fun:=F2 dU dS fun c s=>open Classical in if 0≤c∧c≤255 then some (bv (amB c s))else none
theorem pO {c:Int} (s:ByteArray) (h:0≤c∧c≤255):φAm [.val (.int .u8 c),.val (.string s)]=some (.val (.bool (amB c s))):=(fZ (A:=dU) (B:=dS) c s).trans (if_pos h)
def GAm:Ctx:={fn:=aT [(234,φIb)],io:=aT []}
theorem aBf:au Tryz.prog GAm:=okΓ (fC Tryz.func234 aF0 aj) aj
def awu:=ah (Γ:=GAm) (f:=234) (φ:=φIb) rfl
theorem ahn:Sound Tryz.prog 213 φAm:=by refine ak mixed aBf Tryz.func213 rfl 9 rfl [.tmp 4] rfl (by kernel_rfl) fun ps r hr=>?_;obtain⟨c,s,rfl,hpre,rfl⟩:=gN hr;refine⟨by simp,?_⟩;simp only[dIs,dUs,dSs,bP,bS,bQ,bT,aP,bR,aQ,aO,aR,aL];have e:=atT s.data.toList hpre.1 hpre.2;have hge:=Lib.indexByte_ge s.data.toList c.toNat.toUInt8;have ap:=av1 s c;unfold amB;rw[←e];generalize Lib.indexByte s.data.toList c.toNat.toUInt8=i at*;clear e;have gam_c234:=awu;exact wlkF
theorem am2 (c a b:Int) (x y:UInt8) (h:(x.toNat:Int)=a) (h2:(y.toNat:Int)=b):amB c ⟨#[x,y]⟩=decide (c=a∨c=b):=by simp[amB,h,h2]
theorem am3 (c a b d:Int) (x y z:UInt8) (h:(x.toNat:Int)=a) (h2:(y.toNat:Int)=b) (h3:(z.toNat:Int)=d):amB c ⟨#[x,y,z]⟩=decide (c=a∨c=b∨c=d):=by simp[amB,h,h2,h3]
theorem am4 (c a b d e:Int) (x y z u:UInt8) (h:(x.toNat:Int)=a) (h2:(y.toNat:Int)=b) (h3:(z.toNat:Int)=d) (h4:(u.toNat:Int)=e):amB c ⟨#[x,y,z,u]⟩=decide (c=a∨c=b∨c=d∨c=e):=by simp[amB,h,h2,h3,h4]
def abj:Fun:=F1 dU fun c=>open Classical in if 0≤c∧c≤255 then some (iv (adU c))else none
theorem ajA {c:Int} (h:0≤c∧c≤255):abj [.val (.int .u8 c)]=some (.val (.int .i64 (adU c))):=(dY (A:=dU) c).trans (if_pos h)
def abE:Fun:=F2 dU dU fun a b=>open Classical in if(0≤a∧a≤255)∧0≤b∧b≤255 then some (iv (qh a b))else none
theorem aiv {a b:Int} (h:0≤a∧a≤255) (h2:0≤b∧b≤255):abE [.val (.int .u8 a),.val (.int .u8 b)]=some (.val (.int .i64 (qh a b))):=(fZ (A:=dU) (B:=dU) a b).trans (if_pos ⟨h,h2⟩)
def abT:Fun:=F2 dU dU fun a b=>open Classical in if(0≤a∧a≤255)∧0≤b∧b≤255 then some (bv (tF a b))else none
theorem ajx {a b:Int} (h:0≤a∧a≤255) (h2:0≤b∧b≤255):abT [.val (.int .u8 a),.val (.int .u8 b)]=some (.val (.bool (tF a b))):=(fZ (A:=dU) (B:=dU) a b).trans (if_pos ⟨h,h2⟩)
def GLw:Ctx:={fn:=aT [(111,nk),(213,φAm)],io:=aT []}
theorem aEb:au Tryz.prog GLw:=okΓ (fC Tryz.func111 tq (fC Tryz.func213 ahn aj)) aj
def awN:=ah (Γ:=GLw) (f:=111) (φ:=nk) rfl
def axN:=ah (Γ:=GLw) (f:=213) (φ:=φAm) rfl
theorem aew:Sound Tryz.prog 173 abj:=by
 refine ak mixed aEb Tryz.func173 rfl 16 rfl [.tmp 2] rfl (by kernel_rfl) fun ps r hr=>?_;obtain⟨c,rfl,hpre,rfl⟩:=je hr;refine⟨by simp,?_⟩;simp only[dIs,dUs,dSs,bP,bS,bQ,bT,aP,bR,aQ,aO,aR,aL];have ap1:=sK c;have ap2:=(pO ⟨#[105,106,108]⟩ hpre).trans (by rw[am3 c 105 106 108 _ _ _ rfl rfl rfl]);have ap3:=(pO ⟨#[102,114,116]⟩ hpre).trans (by rw[am3 c 102 114 116 _ _ _ rfl rfl rfl]);have ap4:=(pO ⟨#[109,119]⟩ hpre).trans (by rw[am2 c 109 119 _ _ rfl rfl]);have glw_c111:=awN;have glw_c213:=axN;((refine wlk6 ?_ ?_ ?_ ?_ ?_ ?_<;>intros<;>try with_reducible exact trivial)<;>(refine fnG ?_;try with_reducible exact trivial));all_goals((refine congrArg (fun z=>some (PV.val (Value.int IntKind.i64 z))) ?_);unfold adU;repeat' split)
 all_goals(first|omega|(simp[inB]at*;omega))
def GNb:Ctx:={fn:=aT [(213,φAm)],io:=aT []}
theorem auG:au Tryz.prog GNb:=okΓ (fC Tryz.func213 ahn aj) aj
def akt:=ah (Γ:=GNb) (f:=213) (φ:=φAm) rfl
theorem aeT:Sound Tryz.prog 174 abE:=by
 refine ak mixed auG Tryz.func174 rfl 19 rfl [.tmp 4] rfl (by kernel_rfl) fun ps r hr=>?_;obtain⟨a,b,rfl,hpre,rfl⟩:=gN hr;refine⟨by simp,?_⟩;simp only[dIs,dUs,dSs,bP,bS,bQ,bT,aP,bR,aQ,aO,aR,aL];have ap1:=(pO ⟨#[118,119,121]⟩ hpre.1).trans (by rw[am3 a 118 119 121 _ _ _ rfl rfl rfl]);have ap2:=(pO ⟨#[97,101,111]⟩ hpre.2).trans (by rw[am3 b 97 101 111 _ _ _ rfl rfl rfl]);have ap3:=(pO ⟨#[110,109]⟩ hpre.2).trans (by rw[am2 b 110 109 _ _ rfl rfl]);have gnb_c213:=akt;((refine wlk6 ?_ ?_ ?_ ?_ ?_ ?_<;>intros<;>try with_reducible exact trivial)<;>(refine fnG ?_;try with_reducible exact trivial));all_goals((refine congrArg (fun z=>some (PV.val (Value.int IntKind.i64 z))) ?_);unfold qh;repeat' split)
 all_goals omega
theorem acF:Sound Tryz.prog 212 abT:=by refine ak mixed auG Tryz.func212 rfl 11 rfl [.tmp 4] rfl (by kernel_rfl) fun ps r hr=>?_;obtain⟨a,b,rfl,hpre,rfl⟩:=gN hr;refine⟨by simp,?_⟩;simp only[dIs,dUs,dSs,bP,bS,bQ,bT,aP,bR,aQ,aO,aR,aL];have ap1:=(pO ⟨#[105,106,108,102]⟩ hpre.2).trans (by rw[am4 b 105 106 108 102 _ _ _ _ rfl rfl rfl rfl]);have gnb_c213:=akt;((refine wlk6 ?_ ?_ ?_ ?_ ?_ ?_<;>intros<;>try with_reducible exact trivial)<;>(refine fnG ?_;try with_reducible exact trivial));all_goals((refine congrArg (fun z=>some (PV.val (Value.bool z))) ?_);unfold tF;first|(simp;omega)|simp_all)
abbrev sgN (s:ByteArray) (i:Nat):Nat:=if i+1<s.size∧tF (at8 s i) (at8 s (i+1))=true then 2 else 1
def sgF (s:ByteArray):Nat→Nat→LS
 |0,_=>[]
 |f+1,i=>if i<s.size then s.extract i (i+sgN s i)::sgF s f (i+sgN s i)else []
def signs (s:ByteArray):LS:=sgF s s.size 0
theorem vT {s:ByteArray} {f i:Nat} (h:i<s.size):sgF s (f+1) i=s.extract i (i+sgN s i)::sgF s f (i+sgN s i):=by rw[sgF,if_pos h]
theorem afC {s:ByteArray} {f i:Nat} (h:s.size≤i):sgF s f i=[]:=by
 cases f with
 |zero=>rfl
 |succ f=>rw[sgF,if_neg (by omega)]
theorem avI (s:ByteArray) (i:Nat):1≤sgN s i∧sgN s i≤2∧(i<s.size→i+sgN s i≤s.size):=by unfold sgN;split<;>omega
theorem amW {s:ByteArray} {a b j:Nat} (h:j<b-a) (hb:b≤s.size):at8 (s.extract a b) j=at8 s (a+j):=by
 unfold at8;have h1:j<(s.extract a b).size:=by rw[ByteArray.size_extract];omega
 rw[getElem?_pos (s.extract a b) j h1,getElem?_pos s (a+j) (by omega)];rw[ByteArray.getElem_extract]
def azi (x:ByteArray):Prop:=1≤x.size∧x.size≤2∧∀j,j<x.size→97≤at8 x j∧at8 x j≤122
theorem atC {s:ByteArray} (h:∀j,j<s.size→97≤at8 s j∧at8 s j≤122):∀(f i:Nat),(∀x∈sgF s f i,azi x)∧(sgF s f i).length≤s.size-i
 |0,i=>⟨by simp[sgF],by simp[sgF]⟩
 |f+1,i=>by
  by_cases hi:i<s.size
  ·obtain⟨h1,h2,h3⟩:=avI s i
   obtain⟨i1,i2⟩:=atC h f (i+sgN s i);rw[vT hi];refine⟨fun x hx=>?_,by rw[List.length_cons];have:=h3 hi;omega⟩;rcases List.mem_cons.1 hx with rfl|hx
   ·have hsz:(s.extract i (i+sgN s i)).size=sgN s i:=by rw[ByteArray.size_extract];have:=h3 hi;omega
    refine⟨by omega,by omega,fun j hj=>?_⟩;have h4:=h3 hi;rw[amW (by omega) (by omega)];exact h _ (by omega)
   ·exact i1 x hx
  ·rw[afC (by omega)]
   exact⟨by simp,by simp⟩
theorem aG {s:ByteArray} (h:bY s=true):(∀j,j<s.size→97≤at8 s j∧at8 s j≤122)∧1≤s.size∧s.size≤20:=by unfold bY at h;rw[Bool.and_eq_true,List.all_eq_true]at h;refine⟨fun j hj=>aD.1 (h.1 j (List.mem_range.2 hj)),?_⟩;have:=aD.1 h.2;omega
theorem ru {s:ByteArray} (h:bY s=true):(∀x∈signs s,azi x)∧1≤(signs s).length∧(signs s).length≤20:=by obtain⟨h1,h2,h3⟩:=aG h;obtain⟨i1,i2⟩:=atC h1 s.size 0;refine⟨i1,?_,by unfold signs;omega⟩;unfold signs;obtain⟨n,hn⟩:∃n,s.size=n+1:=⟨s.size-1,by omega⟩;rw[hn,vT (by omega),List.length_cons];omega
theorem aas {s:ByteArray} (h:bY s=true) {k:Nat} (hk:k<(signs s).length):azi ((signs s)[k]?.getD .empty):=by rw[List.getElem?_eq_getElem hk,Option.getD_some];exact(ru h).1 _ (List.getElem_mem hk)
def sgW (x:ByteArray):Nat→Int
 |0=>0
 |j+1=>sgW x j+adU (at8 x j)
def abH (g:LS) (k:Nat):Int:=if k+1<g.length then qh (at8 (g[k]?.getD .empty) ((g[k]?.getD .empty).size-1)) (at8 (g[k+1]?.getD .empty) 0)else 0
def wdK (g:LS):Nat→Int
 |0=>0
 |k+1=>wdK g k+sgW (g[k]?.getD .empty) (g[k]?.getD .empty).size-((g[k]?.getD .empty).size-1)-abH g k
def pV (s:ByteArray):Int:=if bY s=true then wdK (signs s) (signs s).length else-1
theorem aeK {x:ByteArray} (h:azi x):∀j,j≤x.size→3*(j:Int)≤sgW x j∧sgW x j≤8*j
 |0,_=>⟨by simp[sgW],by simp[sgW]⟩
 |j+1,hj=>by
  have ih:=aeK h j (by omega);have h1:=aaD (at8 x j);have h2:=h.2.2 j (by omega);have h3:3≤adU (at8 x j):=by
   unfold adU;rw[if_neg (by omega)]
   repeat' split
   all_goals omega
  unfold sgW
  push_cast
  omega
theorem ahb {x:ByteArray} (h:azi x):∀j,j≤x.size→0≤sgW x j∧sgW x j≤16:=fun j hj=>by have:=aeK h j hj;have:=h.2.1;omega
theorem aay {g:LS} (h:∀k,k<g.length→azi (g[k]?.getD .empty)):∀k,k≤g.length→0≤wdK g k∧wdK g k≤16*k
 |0,_=>⟨by simp[wdK],by simp[wdK]⟩
 |k+1,hk=>by
  have ih:=aay h k (by omega);have h1:=h k (by omega);have h2:=aeK h1 _ (Nat.le_refl _);have h3:=h1.1;have h4:=h1.2.1;have h5:0≤abH g k∧abH g k≤1:=by
   unfold abH;split
   ·exact wR _ _
   ·omega
  unfold wdK;generalize abH g k=m at*;generalize sgW (g[k]?.getD .empty) (g[k]?.getD .empty).size=z at*;generalize(g[k]?.getD ByteArray.empty).size=y at*
  push_cast
  omega
theorem anM {s:ByteArray} (h:bY s=true):0≤pV s∧pV s≤320:=by have h1:=aay (fun k hk=>aas h hk) _ (Nat.le_refl _);have h2:=(ru h).2.2;unfold pV;rw[if_pos h];omega
end
end Go.Proofs.YtmmafcjjlbgnkaaGreatDoor
