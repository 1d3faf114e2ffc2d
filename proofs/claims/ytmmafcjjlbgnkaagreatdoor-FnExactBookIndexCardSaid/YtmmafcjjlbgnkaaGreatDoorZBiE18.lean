/- What the proof rests on, part 18: contracts of functions. No condition beyond what each states. -/
import Derived.Test.YtmmafcjjlbgnkaaGreatDoorZBiE17
namespace Go.Proofs.YtmmafcjjlbgnkaaGreatDoor
open Go.RowKit
open Nat renaming reduceEqDiff→Rq,reduceBEq→Rb,reduceAdd→Ra,reduceSub→Rs
open Int renaming reduceToNat→Rt
set_option linter.all false
set_option maxHeartbeats 32000000
noncomputable section
section
variable {P:Program} {N B:Nat} {w00:World}
theorem Rel.anew {io:IoS} {w0 w:World} {bk bk':Nat→Prop} {g g':Gh} {s s':AS} {a:Act} (hr:Rel io w0 N g s a w) (hC:HzC io w00 w0 B bk) (hg:g.le g') (hnx:g'.nx=s'.nx)
 (htm:∀t,Rep g' w (s'.tm t) (a.tmps.getD t undef)) (hob:∀o c,s'.ob o=some c→(s.ob o).isSome∧pX g' w o c)
 (hI:∀k i,g'.I k i→(∀o,(s'.ob o).isSome→i≠g.β o)∧i<w.heap.size∧¬bk' i) (hIt:∀i,g'.I true i→B≤i) (hO:∀o,(s'.ob o).isSome→¬bk' (g.β o))
 (h2:∀i,bk i→bk' i) (hbl:∀i,bk' i→i<w.heap.size) (hbB:∀i,bk' i→bk i∨B≤i):∃io',Rel io' w N g' s' a w∧HzC io' w00 w B bk':=by
 have hsz:B≤w.heap.size:=Nat.le_trans hC.sz hr.fr.size;have hoD:∀o,(s.ob o).isSome→g.D o:=fun o ho=>by obtain⟨c,hc⟩:=Option.isSome_iff_exists.1 ho;exact(hr.ob o c hc).1
 have hs:∀o,(s'.ob o).isSome→(s.ob o).isSome:=fun o ho=>by obtain⟨c,hc⟩:=Option.isSome_iff_exists.1 ho;exact(hob o c hc).1
 have hβ:∀o,(s'.ob o).isSome→g'.β o=g.β o:=fun o ho=>hg.β o (hoD o (hs o ho));have hap:∀o,(s'.ob o).isSome→g.β o<w.heap.size∧B≤g.β o:=fun o ho=>by obtain⟨c,hc⟩:=Option.isSome_iff_exists.1 (hs o ho);have:=hC.eF hr hc;exact⟨this.1,this.2.2⟩
 have htk:∀t∈tks,¬bk' t:=fun t ht e=>by
  rcases hbB t e with e|e
  ·exact(hC.tk t ht).2 e
  ·have:=(hC.tk t ht).1
   omega
 refine⟨{wr:=fun i=>∃o,(s'.ob o).isSome∧i=g.β o,im:=g'.I false,m:=0,β0:=fun _=>0,κ0:=fun _=>0,it:=g'.I true},⟨hr.nt,hr.df,htm,fun o c ho=>?_,fun o o' ho ho' he=>?_,hnx,fun kk i hi=>(hI kk i hi).2.1,fun i hi=> .inr hi,Fr.refl _ _,fun i hi=>hi,⟨fun o ho=>(Nat.not_lt_zero o ho).elim,fun o ho=>(Nat.not_lt_zero o ho).elim⟩,fun o ho=>False.elim ho,?_⟩,⟨fun i hi=>?_,fun i hi=>?_,fun i hi=>?_,hbl,hsz,?_,fun t ht=>⟨(hC.tk t ht).1,htk t ht⟩⟩⟩
 ·have hso:(s'.ob o).isSome:=by rw[ho];rfl
  refine⟨hg.D o (hoD o (hs o hso)),.inr ⟨o,hso,hβ o hso⟩,fun k hk=>(hI k _ hk).1 o hso (hβ o hso),(hob o c ho).2⟩
 ·rw[hβ o ho,hβ o' ho']at he
  exact hr.inj o o' (hs o ho) (hs o' ho') he
 ·refine hr.tab.keep hr.fr ?_
  rintro t ht ⟨o,ho,rfl⟩;have:=(hap o ho).2;have:=(hC.tk _ ht).1;omega
 ·rcases hi with⟨o,ho,rfl⟩|hi|hi
  ·exact hO o ho
  ·exact(hI _ i hi).2.2
  ·exact(hI _ i hi).2.2
 ·rcases hi with⟨o,ho,rfl⟩|hi
  ·exact(hap o ho).2
  ·exact hIt i hi
 ·obtain⟨o,ho,rfl⟩:=hi
  exact(hap o ho).1
 ·have hf1:Fr (fun i=>bk' i∨B≤i) w0 w:=⟨hr.fr.os,hr.fr.tape,hr.fr.output,hr.fr.size,fun i hi hn=>hr.fr.block i hi fun q=>hn (.inr (hC.lo i (.inl q)))⟩
  refine⟨hf1.os.trans hC.fr.os,hf1.tape.trans hC.fr.tape,hf1.output.trans hC.fr.output,Nat.le_trans hC.fr.size hf1.size,fun i hi hn=>?_⟩;exact(hf1.block i (Nat.lt_of_lt_of_le hi hC.fr.size) hn).trans (hC.fr.block i hi fun q=>hn (q.imp (h2 i) id))
theorem HzC.aGU {io:IoS} {w0:World} {bk:Nat→Prop} (h:HzC io w00 w0 B bk) {g:Gh} {s:AS} {a:Act} {w:World} (hr:Rel io w0 N g s a w) {i:Nat} (hi:g.I true i):B≤i:=by
 rcases hr.new i hi with⟨q,_⟩|q
 ·exact Nat.le_trans h.sz q
 ·exact h.lo i (.inr q)
theorem Zt.give {s:AS} {σ:Fgn} {a:Act} {w:World} (h:Zt P N B w00 s σ a w) {o T sz:Nat} {es:List PV} (ho:s.ob o=some (T,sz,es)):
 ∃g b arr,B≤b∧b<w.heap.size∧¬σ.bk b∧w.heap[b]?=some (.cells arr T (0,0))∧es.length*sz≤arr.size∧bB g w sz es b 0∧
  (∀i n v,Rep g w (.row o sz i n) v→∃c,v=.slice (some ⟨b,i*sz,none⟩) n c∧n≤c∧c≤9223372036854775807∧(i+c)*sz≤arr.size)∧(∀x:Operand,Rep g w (look s.tm x) (a.eval x))∧
  ∀σ':Fgn,(∀i,σ'.bk i↔σ.bk i∨i=b)→σ'.at_ w→Zt P N B w00 ⟨s.tm,upd s.ob o none,s.nx⟩ σ' a w:=by
 obtain⟨⟨io,w0,g,hr,hC⟩,hM⟩:=h;obtain⟨k1,k2,k3,⟨arr,k4,k5⟩,k6,k7⟩:=hr.ob o _ ho;obtain⟨q1,q2,q3⟩:=hC.eF hr ho;dsimp only at k4 k6 k7;refine⟨g,g.β o,arr,q3,q1,q2,k4,by rw[k5];exact k6,k7,fun i n v hv=>?_,fun x=>hr.look x,fun σ' hb hat=>?_⟩
 ·simp only[Rep]at hv
  obtain⟨c,h1,h2,h3,h4,_⟩:=hv;exact⟨c,h1,h2,h3,by rw[k5];exact h4⟩
 ·have hsub:∀o' c,upd s.ob o none o'=some c→o'≠o∧s.ob o'=some c:=fun o' c hc=>by
   unfold upd at hc;split at hc
   ·cases hc
   ·rename_i hne;exact⟨hne,hc⟩
  have hsubS:∀o',(upd s.ob o none o').isSome→o'≠o∧(s.ob o').isSome:=fun o' hc=>by obtain⟨c,hc⟩:=Option.isSome_iff_exists.1 hc;exact⟨(hsub o' c hc).1,by rw[(hsub o' c hc).2];rfl⟩
  have hlt:∀i,σ'.bk i→i<w.heap.size:=fun i hi=>by
   rcases(hb i).1 hi with hi|rfl
   ·exact Nat.lt_of_lt_of_le (hC.hb i hi) hr.fr.size
   ·exact q1
  have key:∃io',Rel io' w N g ⟨s.tm,upd s.ob o none,s.nx⟩ a w∧HzC io' w00 w B σ'.bk:=by
   refine hr.anew (s':=⟨s.tm,upd s.ob o none,s.nx⟩) (g':=g) (bk':=σ'.bk) hC (Gh.le_refl g) hr.nx hr.tm (fun o' c hc=>⟨by rw[(hsub o' c hc).2];rfl,(hr.ob o' c (hsub o' c hc).2).2.2.2⟩) (fun k i hi=>⟨fun o' ho' e=>?_,(hC.l9 hr hi).1,fun e=>?_⟩) (fun i hi=>hC.aGU hr hi) (fun o' ho' e=>?_) (fun i hi=>(hb i).2 (.inl hi)) hlt (fun i hi=>((hb i).1 hi).imp id fun e=>by rw[e];exact q3)
   ·obtain⟨c,hc⟩:=Option.isSome_iff_exists.1 (hsubS o' ho').2
    exact(hr.ob o' c hc).2.2.1 k (e▸hi)
   ·rcases(hb i).1 e with e|rfl
    ·exact(hC.l9 hr hi).2 e
    ·exact k3 k hi
   ·obtain⟨c,hc⟩:=Option.isSome_iff_exists.1 (hsubS o' ho').2
    rcases(hb _).1 e with e|e
    ·exact(hC.eF hr hc).2.1 e
    ·exact(hsubS o' ho').1 (hr.inj o' o (by rw[hc];rfl) (by rw[ho];rfl) e)
  obtain⟨io',h1,h2⟩:=key;exact⟨⟨io',w,g,h1,h2⟩,hat⟩
theorem Zt.sV {s:AS} {σ:Fgn} {a:Act} {w:World} (h:Zt P N B w00 s σ a w) {o x T sz T2 sz2 n:Nat} {es l:List PV} (ho:s.ob o=some (T,sz,es)) (hx:s.ob x=some (T2,sz2,l++[.row o sz 0 n])) (hn:n=es.length) (hne:x≠o):
 Zt P N B w00 ⟨s.tm,upd (upd s.ob o none) x (some (T2,sz2,l++[.lst true sz es])),s.nx⟩ σ a w:=by
 subst hn;obtain⟨⟨io,w0,g,hr,hC⟩,hM⟩:=h;obtain⟨k1,k2,k3,⟨arr,k4,k5⟩,k6,k7⟩:=hr.ob o _ ho;obtain⟨q1,q2,q3⟩:=hC.eF hr ho;dsimp only at k4 k6 k7
 let g':Gh:={g with I:=fun k b=>g.I k b∨(k=true∧b=g.β o)}
 have hle:g.le g':=⟨fun _ _ h=> .inl h,fun _ h=>h,fun _ _=>rfl,fun _ _=>rfl⟩;have hsub:∀o' c,upd (upd s.ob o none) x (some (T2,sz2,l++[PV.lst true sz es])) o'=some c→o'≠o∧((o'=x∧c=(T2,sz2,l++[PV.lst true sz es]))∨s.ob o'=some c):=fun o' c hc=>by
  unfold upd at hc;split at hc
  ·rename_i e
   cases hc;exact⟨e▸hne,.inl ⟨e,rfl⟩⟩
  ·split at hc
   ·cases hc
   ·rename_i e;exact⟨e,.inr hc⟩
 have hsubS:∀o',(upd (upd s.ob o none) x (some (T2,sz2,l++[PV.lst true sz es])) o').isSome→o'≠o∧(s.ob o').isSome:=fun o' hc=>by
  obtain⟨c,hc⟩:=Option.isSome_iff_exists.1 hc;obtain⟨e,e2⟩:=hsub o' c hc;refine⟨e,?_⟩;rcases e2 with⟨rfl,_⟩|e2
  ·rw[hx];rfl
  ·rw[e2];rfl
 have key:∃io',Rel io' w N g' ⟨s.tm,upd (upd s.ob o none) x (some (T2,sz2,l++[PV.lst true sz es])),s.nx⟩ a w∧HzC io' w00 w B σ.bk:=by
  refine hr.anew (s':=⟨s.tm,upd (upd s.ob o none) x (some (T2,sz2,l++[PV.lst true sz es])),s.nx⟩) (g':=g') (bk':=σ.bk) hC hle hr.nx (fun t=>(hr.tm t).mono hle fun _ _ _=>rfl) (fun o' c hc=>?_) (fun k i hi=>⟨fun o' ho' e=>?_,?_,fun e=>?_⟩) (fun i hi=>?_) (fun o' ho' e=>?_) (fun i hi=>hi) (fun i hi=>Nat.lt_of_lt_of_le (hC.hb i hi) hr.fr.size) (fun i hi=> .inl hi)
  ·refine⟨(hsubS o' (Option.isSome_iff_exists.2 ⟨c,hc⟩)).2,?_⟩
   rcases(hsub o' c hc).2 with⟨rfl,rfl⟩|e
   ·obtain⟨p1,p2,p3,p4,p5,p6⟩:=hr.ob o' _ hx
    refine⟨p4,by simpa using p5,?_⟩;refine bB.of fun i e he=>?_;dsimp only at p6 he;rcases Nat.lt_trichotomy i l.length with hi|hi|hi
    ·rw[List.getElem?_append_left hi]at he
     obtain⟨u,m1,m2,m3⟩:=p6.get (i:=i) (e:=e) (by rw[List.getElem?_append_left hi];exact he);exact⟨u,m1.mono hle (fun _ _ _=>rfl),m2,m3⟩
    ·subst hi
     obtain⟨u,m1,m2,m3⟩:=p6.get (i:=l.length) (e:=.row o sz 0 es.length) (by simp);have he:e=.lst true sz es:=by simpa using he.symm
     subst he;refine⟨u,?_,m2,m3⟩;simp only[Rep]at m1⊢;obtain⟨c,c1,c2,c3,c4,c5⟩:=m1;refine⟨_,c,c1,c2,c3,.inr ⟨g.β o,0,by simp,.inr ⟨rfl,rfl⟩,bB.mono hle (fun _ _ _=>rfl) _ _ _ _ rfl k7⟩⟩
    ·rw[List.getElem?_eq_none (by simp;omega)]at he
     cases he
   ·exact(hr.ob o' c e).2.2.2.mono hle (hr.ob o' c e).1 (fun _ _ _=>rfl) rfl
  ·obtain⟨c,hc⟩:=Option.isSome_iff_exists.1 (hsubS o' ho').2
   rcases hi with hi|⟨_,hi⟩
   ·exact(hr.ob o' c hc).2.2.1 k (e▸hi)
   ·exact(hsubS o' ho').1 (hr.inj o' o (by rw[hc];rfl) (by rw[ho];rfl) (e.symm.trans hi))
  ·rcases hi with hi|⟨_,hi⟩
   ·exact(hC.l9 hr hi).1
   ·rw[hi];exact q1
  ·rcases hi with hi|⟨_,hi⟩
   ·exact(hC.l9 hr hi).2 e
   ·rw[hi]at e;exact q2 e
  ·rcases hi with hi|⟨_,hi⟩
   ·exact hC.aGU hr hi
   ·rw[hi];exact q3
  ·obtain⟨c,hc⟩:=Option.isSome_iff_exists.1 (hsubS o' ho').2
   exact(hC.eF hr hc).2.1 e
 obtain⟨io',h1,h2⟩:=key;exact⟨⟨io',w,g',h1,h2⟩,hM⟩
theorem HZ.sV {c:Code} {K:X→AS→Fgn→Prop} {s:AS} {σ:Fgn} {o x T sz T2 sz2 n:Nat} {es l:List PV} (ho:s.ob o=some (T,sz,es)) (hx:s.ob x=some (T2,sz2,l++[.row o sz 0 n])) (hn:n=es.length) (hne:x≠o)
 (h:HZ P N B w00 c K ⟨s.tm,upd (upd s.ob o none) x (some (T2,sz2,l++[.lst true sz es])),s.nx⟩ σ):HZ P N B w00 c K s σ:=HZ.mk fun a w hs Q hQ=>h.go a w (hs.sV ho hx hn hne) Q hQ
end
abbrev eB (x:LS):PV:=.lst true 1 (x.map fun s=> .val (.string s))
abbrev aAt (x:LS):PV:=.lst false 1 (x.map fun s=> .val (.string s))
theorem anV {l:List LS} {k:Nat} (h:k<l.length):(l.take (k+1)).map eB=(l.take k).map eB++[eB (l[k]?.getD [])]:=by rw[List.take_succ_eq_append_getElem h,List.map_append,List.getElem?_eq_getElem h,Option.getD_some];rfl
def φOr:Fun:=F1 (dL 1 dSs) fun l=>open Classical in if l.length≤1048576∧∀i:Nat,oM (l[i]?.getD [])then some (.lst true 1 (l.map eB))else none
theorem auY {l:List LS} (h:l.length≤1048576) (h2:∀i:Nat,oM (l[i]?.getD [])):φOr [.lst false 1 (l.map fun p=> .lst false 1 (p.map fun s=> .val (.string s)))]=some (.lst true 1 (l.map eB)):=(dY (A:=dL 1 dSs) l).trans (if_pos ⟨h,h2⟩)
theorem ajP:Sound Tryz.prog 65 φOr:=by
 refine HZ.sound (N:=22) (rs:=[.tmp 2]) Tryz.func65 rfl rfl rfl fun ps r hr=>?_;obtain⟨l,rfl,hq⟩:=bC hr;clear hr;split at hq
 case isFalse=>cases hq
 case isTrue hpre=>
 cases hq;obtain⟨hlen,hall⟩:=hpre;refine⟨by simp,fun B w00=>HZ.start ?_⟩;simp only[dIs,dUs,dSs,bP,bS,bQ,bT,aP,bR,aQ,aO,aR,aL];show HZ _ _ _ _ _ _ ⟨(bX [.lst false 1 (l.map aAt)]).tm,fun _=>none,0⟩ _;refine HZ.seq (HZ.eng mixed bV (by kernel_rfl) ?_);(try dsimp only);(refine wlk ?_;intros);refine HZ.seq (HZ.eng mixed bV (by kernel_rfl) ?_);(try dsimp only);(refine wlk ?_;intros);refine HZ.seq (HZ.seq (HZ.eng mixed bV (by kernel_rfl) ?_));(try dsimp only);(refine wlk ?_;intros);(try dsimp only);refine HZ.block (HZ.uR (α:=Nat×Nat×Nat) (fun i=>[(0,.lst false 1 (l.map aAt)),(3,.row i.2.1 1 0 i.1),(4,iv i.1)]) (fun i=>[(i.2.1,24,1,(l.take i.1).map eB)]) (fun i=>i.2.2)
  (fun i σ=>(i.1≤l.length∧i.2.1<i.2.2)∧σ=Fgn.no) (fun i=>l.length-i.1) (0,0,1) ⟨⟨Nat.zero_le _,by decide⟩,rfl⟩ ?_ ?_ rfl ?_)
 ·(try dsimp only)
  exact agr;try rfl
 ·(try dsimp only)
  exact agr;try rfl
 rintro⟨k,o,y⟩ σ ⟨⟨hk,hoy⟩,rfl⟩;dsimp only at hk hoy;by_cases hkl:k<l.length
 ·have hok:=hall k
  have ht:=anV hkl;have htl:((l.take k).map eB).length=k:=by rw[List.length_map,List.length_take];omega
  replace ht:=Lib.hid ht;refine HZ.seq (HZ.eng mixed bV (by kernel_rfl) ?_);(try dsimp only);(refine wlk ?_;intros);(try dsimp only);generalize(l.take k).map eB=R at*;refine HZ.seq (HZ.block (HZ.eng mixed bV (by kernel_rfl) ?_));(try dsimp only);clear hall;(refine wlk ?_;intros);(try dsimp only[X.out]);refine HZ.sV (o:=y+1) (x:=y+3) (T:=9) (sz:=1) (T2:=24) (sz2:=1) (n:=(l[k]?.getD []).length) (es:=(l[k]?.getD []).map fun s=> .val (.string s)) (l:=R) (by(exact sr)) (by(exact sr)) (by simp) (by omega) ?_;refine HZ.eng mixed bV (by kernel_rfl) ?_;(try dsimp only);(refine wlk ?_;intros);(try dsimp only);refine⟨(k+1,y+3,y+4),⟨⟨by dsimp only;omega,by dsimp only;omega⟩,rfl⟩,by dsimp only;omega,?_,?_,rfl⟩
  ·(try dsimp only)
   exact agi
  ·(try dsimp only)
   rw[ht.out];exact agr
 ·obtain rfl:k=l.length:=by omega
  rw[List.take_length];refine HZ.seq (HZ.eng mixed bV (by kernel_rfl) ?_);(try dsimp only);clear hall;(refine wlk ?_;intros);(try simp only[X.out,↓reduceIte]);refine HZ.eng mixed bV (by kernel_rfl) ?_;(try dsimp only);(refine wlk ?_;intros);(try dsimp only);refine⟨.inr rfl,⟨_,fun g w v h=>h,by(exact sr)⟩,fun i e=>False.elim e⟩
def φOb:Fun:=F1 iy fun b=>if aaI b.1 b.2.1 then some (.agg [.lst true 1 (b.1.map eB),.lst true 1 (b.2.1.map fun s=> .val (.string s)),.val (.int .i64 b.2.2.1),.val (.int .i64 b.2.2.2.1),.val (.int .i64 b.2.2.2.2)])else none
theorem ax8 {p:List LS} {q:LS} {x y z:Int} (h:aaI p q):φOb [.agg [.lst false 1 (p.map fun p=> .lst false 1 (p.map fun s=> .val (.string s))),.lst false 1 (q.map fun s=> .val (.string s)),.val (.int .i64 x),.val (.int .i64 y),.val (.int .i64 z)]]=some (.agg [.lst true 1 (p.map eB),.lst true 1 (q.map fun s=> .val (.string s)),.val (.int .i64 x),.val (.int .i64 y),.val (.int .i64 z)]):=
 (dY (A:=iy) (p,q,x,y,z)).trans (if_pos h)
def GOb:Ctx:={fn:=aT [(65,φOr)],io:=aT []}
theorem azR:au Tryz.prog GOb:=okΓ (fC Tryz.func65 ajP aj) aj
def aDr:=ah (Γ:=GOb) (f:=65) (φ:=φOr) rfl
theorem aiU:Sound Tryz.prog 28 φOb:=by refine ak mixed azR Tryz.func28 rfl 15 rfl [.cell 2 26] rfl (by kernel_rfl) fun ps r hr=>?_;obtain⟨⟨p,q,x,y,z⟩,rfl,hpre,rfl⟩:=je hr;refine⟨by simp,?_⟩;simp only[dIs,dUs,dSs,bP,bS,bQ,bT,aP,bR,aQ,aO,aR,aL];(try dsimp only at hpre⊢);obtain⟨hlen,hall,hoq⟩:=hpre;have ap:=auY hlen hall;clear hall;have gob_c65:=aDr;exact wlkF
def tH (p:List LS) (q:LS) (x y:Int):List Nat:=p.map fun w=>(mF w q x y).length
theorem apK (p:List LS) (q:LS) (x y:Int):(tH p q x y).length=p.length:=by unfold tH;rw[List.length_map]
theorem ak3 {p:List LS} {q:LS} {x y:Int} {k:Nat} (hk:k<(tH p q x y).length):(tH p q x y)[k]=(mF (p[k]?.getD []) q x y).length:=by
 have hp:k<p.length:=by rw[←apK p q x y];exact hk
 have h0:(tH p q x y)[k]?=some (mF (p[k]?.getD []) q x y).length:=by unfold tH;rw[List.getElem?_map,List.getElem?_eq_getElem hp];rfl
 rw[List.getElem?_eq_getElem hk]at h0;exact Option.some.inj h0
theorem alJ (p:List LS) (q:LS) (x y:Int):∀k,k≤p.length→bcK p q x y k=zN ((tH p q x y).take k)
 |0,_=>rfl
 |k+1,h=>by
  have hk:k<(tH p q x y).length:=by unfold tH;rw[List.length_map];omega
  rw[bcK,alJ p q x y k (by omega),List.take_succ_eq_append_getElem hk];unfold zN;rw[List.map_append,ak3 hk];rfl
theorem apm (p:List LS) (q:LS) (x y:Int):bcK p q x y p.length=zN (tH p q x y):=by rw[alJ p q x y p.length (Nat.le_refl _),List.take_of_length_le (by unfold tH;rw[List.length_map];exact Nat.le_refl _)]
theorem akJ (p:List LS) (q:LS) (x y:Int):∀k,k≤p.length→(blK p q x y k).length=((tH p q x y).take k).sum
 |0,_=>rfl
 |k+1,h=>by
  have hk:k<(tH p q x y).length:=by unfold tH;rw[List.length_map];omega
  rw[blK,List.length_append,akJ p q x y k (by omega),af0 hk];rw[List.getElem?_eq_getElem hk,Option.getD_some,ak3 hk]
theorem ar0 (p:List LS) (q:LS) (x y:Int):(blK p q x y p.length).length=(tH p q x y).sum:=by rw[akJ p q x y p.length (Nat.le_refl _),List.take_of_length_le (by unfold tH;rw[List.length_map];exact Nat.le_refl _)]
def jZ (p:List LS) (q:LS) (x y:Int):List Bool:=dQ (tH p q x y)
def bpB (p:List LS) (q:LS) (x y z:Int):Bool:=blB p q x y z&&(decide ((blL p q x y z).length≤30)&&ab9 (jZ p q x y) z.toNat)
def bpV (p:List LS) (q:LS) (x y z:Int):List LS:=if bpB p q x y z=true then lF (blL p q x y z) 0 (ku (jZ p q x y) z.toNat)else []
theorem ahd {p:List LS} {q:LS} {x y z:Int} (h:blB p q x y z=true) (h30:(blL p q x y z).length≤30):aus (tH p q x y)∧blC p q x y z=zN (tH p q x y)∧(jZ p q x y).length=(blL p q x y z).length∧1≤z∧z≤30:=by
 have hL:blL p q x y z=blK p q x y p.length:=if_pos h;have hC:blC p q x y z=bcK p q x y p.length:=if_pos h;have hs:=ar0 p q x y;refine⟨⟨fun m hm=>?_,by rw[←hs,←hL];exact h30⟩,by rw[hC];exact apm p q x y,by unfold jZ;rw[qb,hL,hs],?_⟩
 ·unfold tH at hm
  obtain⟨w,hw,rfl⟩:=List.mem_map.1 hm;refine aeY ?_;unfold blB at h;rw[Bool.and_eq_true]at h;exact List.all_eq_true.1 h.2 w hw
 ·unfold blB iC at h
  simp only[Bool.and_eq_true]at h;exact aD.1 h.1.2.2.2.2.2
def φBp:Fun:=F1 iy fun b=>if aaI b.1 b.2.1 then some (.tup [.lst true 1 ((bpV b.1 b.2.1 b.2.2.1 b.2.2.2.1 b.2.2.2.2).map eB),bv (bpB b.1 b.2.1 b.2.2.1 b.2.2.2.1 b.2.2.2.2)])else none
theorem aoH {p:List LS} {q:LS} {x y z:Int} (h:aaI p q):φBp [.agg [.lst false 1 (p.map fun p=> .lst false 1 (p.map fun s=> .val (.string s))),.lst false 1 (q.map fun s=> .val (.string s)),.val (.int .i64 x),.val (.int .i64 y),.val (.int .i64 z)]]=some (.tup [.lst true 1 ((bpV p q x y z).map eB),.val (.bool (bpB p q x y z))]):=
 (dY (A:=iy) (p,q,x,y,z)).trans (if_pos h)
def pR (e:List Nat) (k:Nat):Nat:=((e.take k).getLast?).getD 0
theorem yR {e:List Nat} {k:Nat} (h:k<e.length):pR e (k+1)=e[k]?.getD 0:=by unfold pR;rw[List.take_succ_eq_append_getElem h,List.getLast?_append,List.getElem?_eq_getElem h];simp
theorem agj {α:Type} {l:List α} {e:List Nat} {k:Nat} (h:k<e.length):lF l 0 (e.take (k+1))=lF l 0 (e.take k)++[(l.drop (pR e k)).take (e[k]?.getD 0-pR e k)]:=by rw[List.take_succ_eq_append_getElem h,ahU,List.getElem?_eq_getElem h,Option.getD_some];rfl
theorem aBy:∀{ks:List Bool} {h p:Nat} {r:List Nat},ChP ks h p r→∀k,k<r.length→(if k=0 then p else r[k-1]?.getD 0)<r[k]?.getD 0∧r[k]?.getD 0≤ks.length
 |ks,h,p,[],_,k,hk=>by simp at hk
 |ks,h,p,q::r,hc,0,_=>⟨hc.1.1,hc.1.2.1⟩
 |ks,h,p,q::r,hc,k+1,hk=>by
  have:=aBy hc.2 k (by simpa using hk);rw[if_neg (by omega)];cases k with
  |zero=>simpa using this
  |succ k=>simpa using this
theorem aeX {ks:List Bool} {h:Nat} {e:List Nat} (hc:ChP ks h 0 e) {k:Nat} (hk:k<e.length):pR e k<e[k]?.getD 0∧e[k]?.getD 0≤ks.length:=by
 have:=aBy hc k hk;cases k with
 |zero=>exact this
 |succ k=>rw[yR (by omega)];simpa using this
theorem aoG {p:List LS} {q:LS} {x y z:Int} (h:bpB p q x y z=false):bpV p q x y z=[]:=if_neg (by rw[h];decide)
theorem axE {p:List LS} {q:LS} {x y z:Int} (h:(blL p q x y z).length=0):bpV p q x y z=[]:=by
 unfold bpV;split
 ·rename_i hb
  unfold bpB at hb;rw[Bool.and_eq_true,Bool.and_eq_true]at hb;have hc:=ahd hb.1 (of_decide_eq_true hb.2.1);have hl:=xg (zY hb.2.2);have he:(ku (jZ p q x y) z.toNat).length=0:=by have:=hc.2.2.1;omega
  rw[List.eq_nil_of_length_eq_zero he];rfl
 ·rfl
theorem arW {q:LS} {x y z:Int} (h:blB [] q x y z=true):bpB [] q x y z=true∧ab9 [] z.toNat=true∧ku [] z.toNat=[]:=by
 have h1:ab9 [] z.toNat=true:=rfl;have hL:(blL [] q x y z).length=0:=by unfold blL;rw[if_pos h];rfl
 refine⟨?_,h1,?_⟩
 ·unfold bpB
  rw[h,hL,show jZ [] q x y=[]from rfl,h1];rfl
 ·unfold ku
  rw[if_pos h1];rfl
def ahu:Fun:=ayt 1 aaS
theorem alK {c:List Nat} (h:aus c):ahu [.lst false 1 ((zN c).map fun n=> .val (.int .i64 n)),.val (.int .i64 1)]=some (.lst true 4 ((dQ c).map fF)):=vI h
theorem ajd:ahu [.val (.slice none 0 0),.val (.int .i64 1)]=some (.lst true 4 []):=vI (c:=[]) ⟨by simp,by decide⟩
abbrev bkP (p:List LS) (q:LS) (x y z:Int):PV:=.agg [.lst false 1 (p.map fun p=> .lst false 1 (p.map fun s=> .val (.string s))),.lst false 1 (q.map fun s=> .val (.string s)),.val (.int .i64 x),.val (.int .i64 y),.val (.int .i64 z)]
def aEk:Ctx:={fn:=aT [(25,aoQ),(27,ahu),(26,yZ)],io:=aT []}
theorem bN:au Tryz.prog aEk:=okΓ (fC Tryz.func25 ant (fC Tryz.func27 (aju.nil 1) (fC Tryz.func26 ajv aj))) aj
def xO:=ah (Γ:=aEk) (f:=25) (φ:=aoQ) rfl
def wJ:=ah (Γ:=aEk) (f:=27) (φ:=ahu) rfl
def yP:=ah (Γ:=aEk) (f:=26) (φ:=yZ) rfl
theorem amy:Sound Tryz.prog 7 φBp:=by
 refine HZ.sound (N:=52) (rs:=[.tmp 2,.tmp 3]) Tryz.func7 rfl rfl rfl fun ps r hr=>?_;obtain⟨⟨p,q,x,y,z⟩,rfl,hq⟩:=bC hr;clear hr;split at hq
 case isFalse=>cases hq
 case isTrue hpre=>
 cases hq;refine⟨by simp,fun B w00=>HZ.start ?_⟩;simp only[dIs,dUs,dSs,bP,bS,bQ,bT,aP,bR,aQ,aO,aR,aL];(try dsimp only at hpre⊢);show HZ _ _ _ _ _ _ ⟨(bX [bkP p q x y z]).tm,fun _=>none,0⟩ _;by_cases h0:(blL p q x y z).length=0
 ·have ap1:=ar4 hpre h0
  obtain⟨hc0,hp0⟩:=asq h0;rw[axE h0,List.map_nil];clear hpre h0 hc0;cases hB:blB p q x y z with
  |false=>
   rw[hB]at ap1;have hb:bpB p q x y z=false:=by unfold bpB;rw[hB];rfl
   rw[hb];clear hp0 hB hb;have gbgi_c25:=xO;have gbgi_c27:=wJ;have gbgi_c26:=yP;refine HZ.eng mixed bN (by kernel_rfl) ?_;(try dsimp only);(refine wlk ?_;intros);(try dsimp only);refine⟨.inr rfl,⟨_,fun g w v h=>?_,by(exact sr)⟩,fun i e=>False.elim e⟩;exact iG g w v h
  |true=>
   obtain rfl:=hp0 hB;obtain⟨e1,e2,e3⟩:=arW hB;rw[hB]at ap1;have hz:1≤z∧z≤30:=by unfold blB iC at hB;simp only[Bool.and_eq_true]at hB;exact aD.1 hB.1.2.2.2.2.2
   have hzz:((z.toNat:Nat):Int)=z:=by omega
   have ap2:=ajd;have ap3:=vw (ks:=[]) (h:=z.toNat) (by decide) (by omega) (by omega);rw[e2,e3,hzz,List.map_nil,List.map_nil,List.map_nil]at ap3;rw[e1];simp only[List.map_nil]at ap1;clear hp0 hB e1 e2 e3 hzz;have gbgi_c25:=xO;have gbgi_c27:=wJ;have gbgi_c26:=yP;refine HZ.eng mixed bN (by kernel_rfl) ?_;(try dsimp only);(refine wlk ?_;intros);(try dsimp only);refine aB (α:=Unit) mixed (fun _=>[(8,.val (.slice none 0 0)),(36,iv 0),(37,iv 0)]) (fun _=>[]) (fun _=>1) (fun _=>True) (fun _=>0) (by kernel_rfl) () trivial ?_ trivial rfl ?_
   ·exact agr
   rintro _ _;(refine wlk ?_;intros);(try dsimp only);refine⟨.inr rfl,⟨_,fun g w v h=>?_,by(exact sr)⟩,fun i e=>False.elim e⟩;exact iG g w v h
 ·have hB:blB p q x y z=true:=by
   cases hB:blB p q x y z with
   |true=>rfl
   |false=>unfold blL at h0;rw[if_neg (by rw[hB];decide)]at h0;simp at h0
  have ap1:=anK (x:=x) (y:=y) (z:=z) hpre (by omega);rw[hB]at ap1;have hl60:=aku (p:=p) (q:=q) (x:=x) (y:=y) (z:=z) (by unfold blB iC at hB;simp only[Bool.and_eq_true,decide_eq_true_eq]at hB;exact hB.1.2.1)
  by_cases h30:(blL p q x y z).length≤30
  ·obtain⟨k1,k2,k3,k4,k5⟩:=ahd hB h30
   have hzz:((z.toNat:Nat):Int)=z:=by omega
   have ap2:=alK k1;have ap3:=vw (ks:=jZ p q x y) (h:=z.toNat) (by omega) (by omega) (by omega);rw[hzz]at ap3;rw[k2]at ap1;have hV:bpV p q x y z=if bpB p q x y z=true then lF (blL p q x y z) 0 (ku (jZ p q x y) z.toNat)else []:=rfl;have hb:bpB p q x y z=ab9 (jZ p q x y) z.toNat:=by unfold bpB;rw[hB,decide_eq_true h30];rfl
   rw[hb]at hV;rw[hV,hb];have hch:=fun h=>zY (ks:=jZ p q x y) (h:=z.toNat) h;rw[show dQ (tH p q x y)=jZ p q x y from rfl]at ap2;clear hpre hB h0 hV hb k1 k2 hzz;generalize blL p q x y z=BL at*;generalize zN (tH p q x y)=CN at*;generalize jZ p q x y=KS at*;cases hG:ab9 KS z.toNat with
   |false=>rw[hG]at ap3;rw[if_neg (by decide),List.map_nil];clear hch hG;have gbgi_c25:=xO;have gbgi_c27:=wJ;have gbgi_c26:=yP;refine HZ.eng mixed bN (by kernel_rfl) ?_;(try dsimp only);(refine wlk ?_;intros);(try dsimp only);refine⟨.inr rfl,⟨_,fun g w v h=>?_,by(exact sr)⟩,fun i e=>False.elim e⟩;exact iG g w v h
   |true=>
    rw[hG]at ap3;have hc:=hch hG;rw[if_pos rfl];have hct:=fun k h=>agj (l:=BL) (e:=ku KS z.toNat) (k:=k) h;have hfl:=fun k h=>aeX hc (k:=k) h;have hfs:=fun k h=>yR (e:=ku KS z.toNat) (k:=k) h;have hel:=xg hc;have hfull:(ku KS z.toNat).take (ku KS z.toNat).length=ku KS z.toNat:=List.take_length;have hze:=fun k h=>asC (c:=ku KS z.toNat) (k:=k) h;have hzl:(zN (ku KS z.toNat)).length=(ku KS z.toNat).length:=by simp
    rw[show(ku KS z.toNat).map (fun n:Nat=>(n:Int))=zN (ku KS z.toNat)from rfl]at ap3;clear hch hG hc;generalize ku KS z.toNat=E at*;generalize zN E=ZE at*;have gbgi_c25:=xO;have gbgi_c27:=wJ;have gbgi_c26:=yP;refine HZ.seq (HZ.eng mixed bN (by kernel_rfl) ?_);(try dsimp only);(refine wlk ?_;intros);(try dsimp only[X.out]);(try simp only[↓reduceIte]);refine HZ.seq (HZ.eng mixed bN (by kernel_rfl) ?_);(try dsimp only);(refine wlk ?_;intros);(try dsimp only[X.out]);(try simp only[↓reduceIte]);refine HZ.seq (HZ.eng mixed bN (by kernel_rfl) ?_);(try dsimp only);(refine wlk ?_;intros);(try dsimp only[X.out]);(try simp only[↓reduceIte]);refine HZ.seq (HZ.eng mixed bN (by kernel_rfl) ?_);(try dsimp only);(refine wlk ?_;intros);(try dsimp only[X.out]);(try simp only[↓reduceIte]);refine HZ.seq (HZ.eng mixed bN (by kernel_rfl) ?_);(try dsimp only);(refine wlk ?_;intros);(try dsimp only[X.out]);(try simp only[↓reduceIte]);refine HZ.seq (HZ.eng mixed bN (by kernel_rfl) ?_);(try dsimp only);(refine wlk ?_;intros);(try dsimp only[X.out]);(try simp only[↓reduceIte]);refine HZ.seq (HZ.eng mixed bN (by kernel_rfl) ?_);(try dsimp only);(refine wlk ?_;intros);(try dsimp only[X.out]);(try simp only[↓reduceIte]);refine HZ.seq (HZ.seq (HZ.eng mixed bN (by kernel_rfl) ?_));(try dsimp only);(refine wlk ?_;intros);(try dsimp only[X.out]);(try simp only[↓reduceIte]);refine HZ.block (HZ.uR (α:=Nat×Nat×Nat) (fun i=>[(4,.lst true 1 (BL.map fun s=> .val (.string s))),(8,nP 1 ((lF BL 0 (E.take i.1)).map eB) i.2.1),(9,iv (pR E i.1)),(35,.lst true 1 (ZE.map fun n=> .val (.int .i64 n))),(36,iv E.length),(37,iv i.1)]) (fun i=>nO 24 1 ((lF BL 0 (E.take i.1)).map eB) i.2.1) (fun i=>i.2.2)
     (fun i σ=>(i.1≤E.length∧(0<i.1→i.2.1<i.2.2))∧σ=Fgn.no) (fun i=>E.length-i.1) (0,0,1) ⟨⟨Nat.zero_le _,fun h=>absurd h (Nat.lt_irrefl 0)⟩,rfl⟩ ?_ ?_ rfl ?_)
    ·have z0:(lF BL 0 (E.take 0)).map eB=[]:=rfl
     have z1:pR E 0=0:=rfl;(try dsimp only);rw[z0,bW,z1];exact agr
    ·have z0:(lF BL 0 (E.take 0)).map eB=[]:=rfl
     (try dsimp only);rw[z0,bU];exact agr
    rintro⟨k,o,y⟩ σ ⟨⟨hk,hoy⟩,rfl⟩;dsimp only at hk hoy;clear ap1 ap2 ap3;by_cases hkl:k<E.length
    ·have h1:=hct k hkl
     have h2:=hfl k hkl;have h3:=hfs k hkl;have h4:=hze k hkl;have hcl:((lF BL 0 (E.take k)).map eB).length=k:=by rw[List.length_map,pJ,List.length_take];omega
     clear hct hfl hfs hze hfull;have hkz:k<ZE.length:=by omega
     have h5:E[k]?.getD 0≤BL.length:=by omega
     have h1:(lF BL 0 (E.take (k+1))).map eB=(lF BL 0 (E.take k)).map eB++[eB ((BL.drop (pR E k)).take (E[k]?.getD 0-pR E k))]:=by rw[h1,List.map_append];rfl
     replace h1:=Lib.hid h1;replace h3:=Lib.hid h3;generalize E[k]?.getD 0=e at*;generalize pR E k=f at*;generalize(lF BL 0 (E.take k)).map eB=R at*;by_cases h0:k=0
     ·obtain rfl:R=[]:=List.eq_nil_of_length_eq_zero (by omega)
      subst h0;(try dsimp only[bW,bU]);refine HZ.seq (HZ.eng mixed bN (by kernel_rfl) ?_);(try dsimp only);(refine wlk ?_;intros);(try dsimp only[X.out]);(try simp only[↓reduceIte]);refine HZ.seq (HZ.eng mixed bN (by kernel_rfl) ?_);(try dsimp only);(refine wlk ?_;intros);(try dsimp only[X.out]);(try simp only[↓reduceIte]);refine HZ.seq (HZ.block (HZ.seq (HZ.eng mixed bN (by kernel_rfl) ?_)));(try dsimp only);(refine wlk ?_;intros);(try dsimp only[X.out]);(try simp only[↓reduceIte]);refine HZ.seq (HZ.eng mixed bN (by kernel_rfl) ?_);(try dsimp only);(refine wlk ?_;intros);(try dsimp only[X.out]);(try simp only[↓reduceIte]);refine HZ.sV (o:=y) (x:=y+1+1) (T:=9) (sz:=1) (T2:=24) (sz2:=1) (n:=e-f) (es:=((BL.drop f).take (e-f)).map fun s=> .val (.string s)) (l:=[]) (by(exact sr)) (by(exact sr)) (by rw[List.length_map,List.length_take,List.length_drop];omega) (by omega) ?_;refine HZ.eng mixed bN (by kernel_rfl) ?_;(try dsimp only);(refine wlk ?_;intros);(try dsimp only[X.out]);(try simp only[↓reduceIte]);refine HZ.eng mixed bN (by kernel_rfl) ?_;(try dsimp only);(refine wlk ?_;intros);(try dsimp only[X.out]);(try simp only[↓reduceIte]);refine⟨(0+1,y+1+1,y+1+1+1),⟨⟨by dsimp only;omega,fun _=>by dsimp only;omega⟩,by trivial⟩,by dsimp only;omega,?_,?_,rfl⟩
      ·(try dsimp only)
       rw[h1.out,h3.out,av (by simp),List.length_append];exact agi
      ·(try dsimp only)
       rw[h1.out,ay (by simp)];exact agr
     ·rw[av (by omega),ay (by omega)]
      refine HZ.seq (HZ.eng mixed bN (by kernel_rfl) ?_);(try dsimp only);(refine wlk ?_;intros);(try dsimp only[X.out]);(try simp only[↓reduceIte]);refine HZ.seq (HZ.eng mixed bN (by kernel_rfl) ?_);(try dsimp only);(refine wlk ?_;intros);(try dsimp only[X.out]);(try simp only[↓reduceIte]);refine HZ.seq (HZ.block (HZ.seq (HZ.eng mixed bN (by kernel_rfl) ?_)));(try dsimp only);(refine wlk ?_;intros);(try dsimp only[X.out]);(try simp only[↓reduceIte]);refine HZ.seq (HZ.eng mixed bN (by kernel_rfl) ?_);(try dsimp only);(refine wlk ?_;intros);(try dsimp only[X.out]);(try simp only[↓reduceIte]);refine HZ.sV (o:=y) (x:=y+1+1) (T:=9) (sz:=1) (T2:=24) (sz2:=1) (n:=e-f) (es:=((BL.drop f).take (e-f)).map fun s=> .val (.string s)) (l:=R) (by(exact sr)) (by(exact sr)) (by rw[List.length_map,List.length_take,List.length_drop];omega) (by omega) ?_;refine HZ.eng mixed bN (by kernel_rfl) ?_;(try dsimp only);(refine wlk ?_;intros);(try dsimp only[X.out]);(try simp only[↓reduceIte]);refine HZ.eng mixed bN (by kernel_rfl) ?_;(try dsimp only);(refine wlk ?_;intros);(try dsimp only[X.out]);(try simp only[↓reduceIte]);refine⟨(k+1,y+1+1,y+1+1+1),⟨⟨by dsimp only;omega,fun _=>by dsimp only;omega⟩,by trivial⟩,by dsimp only;omega,?_,?_,rfl⟩
      ·(try dsimp only)
       rw[h1.out,h3.out,av (by simp),List.length_append];exact agi
      ·(try dsimp only)
       rw[h1.out,ay (by simp)];exact agr
    ·obtain rfl:k=E.length:=by omega
     rw[hfull];clear hct hfl hfs hze hfull;by_cases h0:E.length=0
     ·obtain rfl:E=[]:=List.eq_nil_of_length_eq_zero h0
      have z0:(lF BL 0 []).map eB=[]:=rfl;rw[z0,bW,bU];refine HZ.seq (HZ.eng mixed bN (by kernel_rfl) ?_);(try dsimp only);(refine wlk ?_;intros);(try dsimp only[X.out]);(try simp only[↓reduceIte]);refine HZ.seq (HZ.eng mixed bN (by kernel_rfl) ?_);(try dsimp only);(refine wlk ?_;intros);(try dsimp only[X.out]);(try simp only[↓reduceIte]);refine HZ.eng mixed bN (by kernel_rfl) ?_;(try dsimp only);(refine wlk ?_;intros);(try dsimp only[X.out]);(try simp only[↓reduceIte]);refine⟨by simp,⟨_,fun g w v h=>?_,by(exact sr)⟩,fun i e=>False.elim e⟩;exact iG g w v h
     ·have hcl:(lF BL 0 E).length=E.length:=pJ
      generalize lF BL 0 E=L at*;rw[av (by rw[List.length_map];omega),ay (by rw[List.length_map];omega)];refine HZ.seq (HZ.eng mixed bN (by kernel_rfl) ?_);(try dsimp only);(refine wlk ?_;intros);(try dsimp only[X.out]);(try simp only[↓reduceIte]);refine HZ.seq (HZ.eng mixed bN (by kernel_rfl) ?_);(try dsimp only);(refine wlk ?_;intros);(try dsimp only[X.out]);(try simp only[↓reduceIte]);refine HZ.eng mixed bN (by kernel_rfl) ?_;(try dsimp only);(refine wlk ?_;intros);(try dsimp only[X.out]);(try simp only[↓reduceIte]);refine⟨by simp,⟨_,fun g w v h=>h,by(exact sr)⟩,fun i e=>False.elim e⟩
  ·have hb:bpB p q x y z=false:=by unfold bpB;rw[decide_eq_false h30,Bool.false_and,Bool.and_false]
   rw[aoG hb,hb,List.map_nil];clear hpre hB h0 hb;generalize blL p q x y z=BL at*;generalize blC p q x y z=BC at*;have gbgi_c25:=xO;have gbgi_c27:=wJ;have gbgi_c26:=yP;refine HZ.eng mixed bN (by kernel_rfl) ?_;(try dsimp only);(refine wlk ?_;intros);(try dsimp only);refine⟨.inr rfl,⟨_,fun g w v h=>?_,by(exact sr)⟩,fun i e=>False.elim e⟩;exact iG g w v h
theorem aqw {ks:List Bool} {h:Nat} {E:Nat→Int} {p:Nat} {B:Int} (hh:h≤30) (hB:0≤B) (hE:∀q,E q≤B) (m:Nat) (hm:p+m≤ks.length):-1≤(upP ks h E p m).1∧(upP ks h E p m).1≤900+B∧(upP ks h E p m).2≤ks.length:=by
 have hb:=abM (ks:=ks) (h:=h) (E:=E) (p:=p) m;by_cases c:(upP ks h E p m).1<0
 ·rw[(hb.no c).1]
  refine⟨?_,?_,?_⟩
  ·show(-1:Int)≤-1
   omega
  ·show(-1:Int)≤900+B
   omega
  ·show 0≤ks.length
   omega
 ·obtain⟨q1,q2,q3,q4⟩:=hb.yes (by omega)
  have h1:=xW q2.1 hh;have h2:=hE (upP ks h E p m).2;rw[uV]at q3;exact⟨by omega,by omega,by omega⟩
def aFp:Ctx:={fn:=aT [(67,wo),(34,φIn)],io:=aT []}
theorem av7:au Tryz.prog aFp:=okΓ (fC Tryz.func67 aez (fC Tryz.func34 fK aj)) aj
def axJ:=ah (Γ:=aFp) (f:=67) (φ:=wo) rfl
def awO:=ah (Γ:=aFp) (f:=34) (φ:=φIn) rfl
theorem aj2:Sound Tryz.prog 30 yZ:=by
 refine gB mixed av7 Tryz.func30 rfl 135 rfl [.tmp 4,.tmp 5] rfl (by kernel_rfl) fun ps r hr=>?_;obtain⟨ks,h,rfl,⟨h1,h2,h3⟩,rfl⟩:=zu hr;clear hr;refine⟨by simp,?_⟩;have apa:=acA (l:=ks) (by omega);rw[decide_eq_true h1]at apa;have api:=bI;have hin:inB (h:Int) 1 1000=true:=aD.2 ⟨by omega,by omega⟩;have gbps_c67:=axJ;have gbps_c34:=awO;(refine wlk ?_;intros);clear hin api;refine aB (α:=Nat) mixed (fun k=>[(0,.lst false 4 (ks.map fF)),(1,iv h),(6,.row 0 1 0 0),(7,iv ks.length),(8,.row 1 1 0 (ks.length+1)),(9,.row 2 1 0 (ks.length+1)),(10,.val (.int .i64 ((ks.length:Int)-1-k)))])
  (fun k=>[(0,3,1,[]),(1,3,1,aav ks.length (fun x=>(tbP ks h k x).1)),(2,3,1,aav ks.length (fun x=>((tbP ks h k x).2:Int)))]) (fun _=>3) (fun k=>k≤ks.length) (fun k=>ks.length-k) (by kernel_rfl) 0 (Nat.zero_le _) ?_ ?_ rfl ?_
 ·exact agi
 ·simp(disch:=(first|omega|(simp only[push_cast];first|done|omega))) only[push_cast,↓reduceIte,Rq,Rb,Ra,Rs,Rt,List.length_append, *]
  try exact⟨rfl,rfl⟩
 intro k hk;have hbd:=nJ (ks:=ks) h3 k hk;by_cases hkl:k<ks.length
 ·obtain⟨e1,e2⟩:=af4 (h:=h) hkl
  have hlow:=aea (ks:=ks) (h:=h) (k:=k) (x:=ks.length-(k+1)) hk (by omega);have hp:(ks.length:Int)-1-k=((ks.length-(k+1):Nat):Int):=by omega
  rw[hp];replace hp:=Lib.hid hp;have hup:=fun m hm=>aqw (ks:=ks) (h:=h) (E:=fun q=>(tbP ks h k q).1) (p:=ks.length-(k+1)) (B:=900*k) h3 (by omega) (fun q=>(hbd q).2.1) m hm;have hN0:((tbP ks h k (ks.length-(k+1))).2:Int)=0:=by rw[hlow];rfl
  have hEb:∀x,-1≤(fun x=>(tbP ks h k x).1) x∧(fun x=>(tbP ks h k x).1) x≤27000:=fun x=>by have:=hbd x;exact⟨this.1,by dsimp only;omega⟩
  replace hN0:(fun x=>((tbP ks h k x).2:Int)) (ks.length-(k+1))=0:=hN0;have hpk:ks.length-(k+1)<ks.length:=by omega
  clear hbd hlow;generalize hEe:(fun x=>(tbP ks h k x).1)=E at*;generalize hNe:(fun x=>((tbP ks h k x).2:Int))=Nx at*;replace e1:=Lib.hid e1;replace e2:=Lib.hid e2;clear hEe hNe;generalize ks.length-(k+1)=p at*;have hov:ovr Nx p ((upP ks h E p 0).2:Int)=Nx:=by rw[show((upP ks h E p 0).2:Int)=Nx p from hN0.symm];exact auD
  replace hov:=Lib.hid hov;replace hN0:=Lib.hid hN0;(refine wlk ?_;intros);refine aB (α:=Nat) mixed (fun m=>[(0,.lst false 4 (ks.map fF)),(1,iv h),(6,.row 0 1 0 0),(7,iv ks.length),(8,.row 1 1 0 (ks.length+1)),(9,.row 2 1 0 (ks.length+1)),(10,iv p),(11,iv m),(12,.val (.int .i64 ((p:Int)+1+m)))])
   (fun m=>[(0,3,1,[]),(1,3,1,aav ks.length (ovr E p (upP ks h E p m).1)),(2,3,1,aav ks.length (ovr Nx p ((upP ks h E p m).2:Int)))]) (fun _=>3) (fun m=>m≤ks.length-p) (fun m=>ks.length-p-m) (by kernel_rfl) 0 (Nat.zero_le _) ?_ ?_ rfl ?_
  ·exact agi
  ·(try dsimp only)
   rw[hov.out];simp(disch:=(first|omega|(simp only[push_cast];first|done|omega))) only[push_cast,↓reduceIte,Rq,Rb,Ra,Rs,Rt,List.length_append, *];try rfl
  intro m hm;have hsb:=hup m (by omega);by_cases hml:m<ks.length-p
  ·have hq:(p:Int)+1+m=((p+m+1:Nat):Int):=by omega
   have hst:upP ks h E p (m+1)=ab1 ks h E p (p+m+1) (upP ks h E p m):=rfl;have hue:=fun hm'=>azp (ks:=ks) (h:=h) (E:=E) (p:=p) (m:=m) hm' (by omega) (by omega);have hpq:p<p+m+1:=by omega
   have hqn:p+m+1≤ks.length:=by omega
   have hqm:((p+m+1:Nat):Int)=(p:Int)+m+1:=by omega
   have hEq:=hEb (p+m+1);(try dsimp only);rw[hq];replace hq:=Lib.hid hq;replace hqm:=Lib.hid hqm;have hq1:p+m+1-1=p+m:=by omega
   have hmay:aiR ks h p (p+m+1)↔m+1≤h∧¬(p+m+1<ks.length∧ajc ks (p+m+1-1)=true):=⟨fun e=>⟨by have:=e.2.2.1;omega,e.2.2.2⟩,fun e=>⟨hpq,hqn,by omega,e.2⟩⟩;have hpc:pcB ks h p (p+m+1)=if p+m+1=ks.length then 0 else((h:Int)-((m:Int)+1))*((h:Int)-((m:Int)+1)):=by unfold pcB;rw[hqm.out,show(p:Int)+m+1-p=(m:Int)+1 by omega]
   unfold ajc at hmay;clear hq1;generalize hqq:p+m+1=q at*;replace hqq:=Lib.hid hqq;generalize upP ks h E p m=s at*;have ea:ovr E p s.1 q=E q:=atS (by omega);have eb:ovr E p s.1 p=s.1:=atW;have eo:∀v,ovr (ovr E p s.1) p v=ovr E p v:=fun v=>abx;have eo2:∀v,ovr (ovr Nx p (s.2:Int)) p v=ovr Nx p v:=fun v=>abx;unfold ab1 okQ at hst;rw[uV]at hst;clear hEb hN0 hov hup;by_cases hmh:m+1≤h
   ·clear hue
    by_cases hE0:E q<0
    ·have hst2:upP ks h E p (m+1)=s:=by rw[hst];exact if_neg fun e=>by have:=e.1.2;omega
     replace hst2:=Lib.hid hst2;clear hst hmay hpc;(refine wlk ?_;intros);refine⟨m+1,by omega,by dsimp only;omega,?_,?_,rfl⟩
     ·have hq:=hq.out
      exact agi
     ·(try dsimp only)
      rw[hst2.out];exact agr
    ·by_cases hqe:q=ks.length
     ·subst hqe
      have hm1:aiR ks h p ks.length:=hmay.2 ⟨hmh,fun e=>by omega⟩;rw[if_pos rfl]at hpc;rw[hpc,Int.zero_add]at hst;clear hmay hpc;by_cases hs0:s.1<0
      ·have hst2:upP ks h E p (m+1)=(E ks.length,ks.length):=by rw[hst];exact if_pos ⟨⟨hm1,by omega⟩,.inl hs0⟩
       replace hst2:=Lib.hid hst2;clear hst hm1;(refine wlk ?_;intros);refine⟨m+1,by omega,by dsimp only;omega,?_,?_,rfl⟩
       ·have hq:=hq.out
        exact agi
       ·(try dsimp only)
        rw[hst2.out];exact agr
      ·by_cases hlt:E ks.length≤s.1
       ·have hst2:upP ks h E p (m+1)=(E ks.length,ks.length):=by rw[hst];exact if_pos ⟨⟨hm1,by omega⟩,.inr hlt⟩
        replace hst2:=Lib.hid hst2;clear hst hm1;(refine wlk ?_;intros);refine⟨m+1,by omega,by dsimp only;omega,?_,?_,rfl⟩
        ·have hq:=hq.out
         exact agi
        ·(try dsimp only)
         rw[hst2.out];exact agr
       ·have hst2:upP ks h E p (m+1)=s:=by rw[hst];exact if_neg fun e=>e.2.elim hs0 hlt
        replace hst2:=Lib.hid hst2;clear hst hm1;(refine wlk ?_;intros);refine⟨m+1,by omega,by dsimp only;omega,?_,?_,rfl⟩
        ·have hq:=hq.out
         exact agi
        ·(try dsimp only)
         rw[hst2.out];exact agr
     ·have hqlt:q<ks.length:=by omega
      cases hkp:ks[q-1]?.getD false with
      |true=>
       have hst2:upP ks h E p (m+1)=s:=by rw[hst];exact if_neg fun e=>(hmay.1 e.1.1).2 ⟨hqlt,hkp⟩
       replace hst2:=Lib.hid hst2;clear hst hmay hpc;(refine wlk ?_;intros);refine⟨m+1,by omega,by dsimp only;omega,?_,?_,rfl⟩
       ·have hq:=hq.out
        exact agi
       ·(try dsimp only)
        rw[hst2.out];exact agr
      |false=>
       have hm1:aiR ks h p q:=hmay.2 ⟨hmh,fun e=>by rw[hkp]at e;cases e.2⟩;rw[if_neg hqe]at hpc;obtain⟨d,hd⟩:∃d:Nat,(h:Int)-((m:Int)+1)=d:=⟨h-(m+1),by omega⟩;have hd2:d≤30:=by omega
       have hdd:d*d≤30*30:=Nat.mul_le_mul hd2 hd2;have hdc:(d:Int)*d=((d*d:Nat):Int):=by simp
       have hc0:0≤((h:Int)-((m:Int)+1))*((h:Int)-((m:Int)+1))∧((h:Int)-((m:Int)+1))*((h:Int)-((m:Int)+1))≤900:=by rw[hd,hdc];omega
       have w1:=dD (n:=((h:Int)-((m:Int)+1))*((h:Int)-((m:Int)+1))) (by omega) (by omega);rw[hpc,Int.add_comm _ (E q)]at hst;clear hd hd2 hdd hdc hmay hpc;generalize hcc:((h:Int)-((m:Int)+1))*((h:Int)-((m:Int)+1))=c at*;by_cases hs0:s.1<0
       ·have hst2:upP ks h E p (m+1)=(E q+c,q):=by rw[hst];exact if_pos ⟨⟨hm1,by omega⟩,.inl hs0⟩
        replace hst2:=Lib.hid hst2;clear hst hm1;(refine wlk ?_;intros);refine⟨m+1,by omega,by dsimp only;omega,?_,?_,rfl⟩
        ·have hq:=hq.out
         exact agi
        ·(try dsimp only)
         rw[hst2.out];exact agr
       ·by_cases hlt:E q+c≤s.1
        ·have hst2:upP ks h E p (m+1)=(E q+c,q):=by rw[hst];exact if_pos ⟨⟨hm1,by omega⟩,.inr hlt⟩
         replace hst2:=Lib.hid hst2;clear hst hm1;(refine wlk ?_;intros);refine⟨m+1,by omega,by dsimp only;omega,?_,?_,rfl⟩
         ·have hq:=hq.out
          exact agi
         ·(try dsimp only)
          rw[hst2.out];exact agr
        ·have hst2:upP ks h E p (m+1)=s:=by rw[hst];exact if_neg fun e=>e.2.elim hs0 hlt
         replace hst2:=Lib.hid hst2;clear hst hm1;(refine wlk ?_;intros);refine⟨m+1,by omega,by dsimp only;omega,?_,?_,rfl⟩
         ·have hq:=hq.out
          exact agi
         ·(try dsimp only)
          rw[hst2.out];exact agr
   ·have hue2:=hue (by omega)
    replace hue2:=Lib.hid hue2;clear hue hst hmay hpc;(refine wlk ?_;intros);refine⟨k+1,by omega,by dsimp only;omega,?_,?_,rfl⟩
    ·have hp:=hp.out
     exact agi
    ·(try dsimp only)
     rw[e1.out,e2.out,←hue2.out];exact agr
  ·obtain rfl:m=ks.length-p:=by omega
   have hm2:(p:Int)+1+((ks.length-p:Nat):Int)=(ks.length:Int)+1:=by omega
   have hue2:=aBs (ks:=ks) (h:=h) (E:=E) (p:=p) (by omega);(try dsimp only);rw[hm2];clear hm2;generalize upP ks h E p (ks.length-p)=s at*;replace hue2:=Lib.hid hue2;(refine wlk ?_;intros);refine⟨k+1,by omega,by dsimp only;omega,?_,?_,rfl⟩
   ·have hp:=hp.out
    exact agi
   ·(try dsimp only)
    rw[e1.out,e2.out,←hue2.out];exact agr
 ·obtain rfl:k=ks.length:=by omega
  (try dsimp only);rw[show(ks.length:Int)-1-(ks.length:Int)=-1 by omega,show(fun x=>(tbP ks h ks.length x).1)=dN ks h from rfl,show(fun x=>((tbP ks h ks.length x).2:Int))=fun x=>(lC ks h x:Int)from rfl];have hb0:-1≤dN ks h 0∧dN ks h 0≤27000:=by have:=hbd 0;exact⟨this.1,by unfold dN;omega⟩
  clear hbd;cases hB:ab9 ks h with
  |false=>
   have hl0:dN ks h 0<0:=by unfold ab9 at hB;simpa using hB
   have hE0:ku ks h=[]:=by unfold ku;rw[if_neg (by rw[hB];decide)]
   rw[hE0,List.map_nil,List.map_nil];clear hB hE0;generalize dN ks h=L at*;generalize(fun x=>(lC ks h x:Int))=Nx at*;(refine wlk ?_;intros);all_goals((with_reducible apply cO (by first|exact .inl rfl|exact .inr rfl));(exact sr))
   all_goals exact PV.le_refl _
  |true=>
   have hl0:=abQ.1 hB;have hE0:ku ks h=oJ ks h ks.length 0:=if_pos hB;have hch:=xg (zY hB);have hnm:=fun p h1 h2=>aao (ks:=ks) (h:=h) (p:=p) h1 h2;have hpe:=fun f=>ah0 (ks:=ks) (h:=h) (f:=f);have hpS:∀f p,p<ks.length→oJ ks h (f+1) p=lC ks h p::oJ ks h f (lC ks h p):=fun f p hp=>if_pos hp;have hNb:∀p,lC ks h p≤ks.length:=fun p=>by
    by_cases hp:p<ks.length
    ·exact(yj (ks:=ks) (h:=h) (E:=dN ks h) (p:=p) (by omega))|>fun hb=>by
      have e:=aeR (h:=h) hp;by_cases c:(bq ks h (dN ks h) p).1<0
      ·unfold lC
       rw[e,(hb.no c).1];exact Nat.zero_le _
      ·unfold lC
       rw[e];exact(hb.yes (by omega)).1.2
    ·have:=(nJ (ks:=ks) h3 ks.length (Nat.le_refl _) p).2.2
     exact this
   rw[hE0]at hch;rw[hE0];clear hB hE0;generalize hLL:dN ks h=L at*;generalize hNN:lC ks h=Nx at*;generalize hZ:(oJ ks h ks.length 0).map (fun n:Nat=>(n:Int))=Z at*;have hZl:Z.length≤ks.length:=by rw[←hZ,List.length_map];exact hch
   (refine wlk ?_;intros);refine aB (α:=List Int×Nat×Nat×Nat) mixed (fun i=>[(6,.row i.2.2.1 1 0 i.1.length),(7,iv ks.length),(9,.row 2 1 0 (ks.length+1)),(14,iv i.2.1)])
    (fun i=>[(2,3,1,aav ks.length (fun x=>(Nx x:Int))),(i.2.2.1,3,1,i.1.map fun n=> .val (.int .i64 n))]) (fun i=>i.2.2.2)
    (fun i=>(i.2.1≤ks.length∧0≤L i.2.1)∧(¬2=i.2.2.1∧i.2.2.1<i.2.2.2∧2<i.2.2.2)∧∃f,ks.length-i.2.1≤f∧i.1++(oJ ks h f i.2.1).map (fun n:Nat=>(n:Int))=Z) (fun i=>ks.length-i.2.1) (by kernel_rfl) ([],0,0,3) ⟨⟨Nat.zero_le _,hl0⟩,⟨by decide,by decide,by decide⟩,ks.length,by dsimp only;omega,by rw[List.nil_append];exact hZ⟩ ?_ ?_ rfl ?_
   ·(try dsimp only)
    exact agi;try rfl
   ·(try dsimp only)
    exact agr;try rfl
   rintro⟨OUT,p,o,y⟩ ⟨⟨hp,hLp⟩,⟨hoo,hoy,hy⟩,f,hf,hout⟩;dsimp only at hp hLp hoo hoy hy hf hout⊢;have hoo2:¬o=2:=fun e=>hoo e.symm;by_cases hpl:p<ks.length
   ·obtain⟨f,rfl⟩:∃g,f=g+1:=⟨f-1,by omega⟩
    obtain⟨hm1,hm2⟩:=hnm p hpl hLp;have hn1:=hm1.1;have hn2:=hm1.2.1;rw[hpS f p hpl,List.map_cons]at hout;have hout2:(OUT++[(Nx p:Int)])++(oJ ks h f (Nx p)).map (fun n:Nat=>(n:Int))=Z:=by rw[List.append_assoc];exact hout
    have hol:OUT.length+1≤ks.length:=by have:=congrArg List.length hout2;simp only[List.length_append,List.length_singleton]at this;omega
    clear hout hnm hpe hpS hm1 hLL hNN hZ hch;replace hout2:=Lib.hid hout2;replace hm2:=Lib.hid hm2;(refine wlk ?_;intros);refine⟨(OUT++[(Nx p:Int)],Nx p,y+1,y+2),⟨⟨by dsimp only;omega,hm2.out⟩,⟨by dsimp only;omega,by dsimp only;omega,by dsimp only;omega⟩,f,by dsimp only;omega,hout2.out⟩,by dsimp only;omega,?_,?_,rfl⟩
    ·(try dsimp only)
     exact agi
    ·(try dsimp only)
     exact agr
   ·obtain rfl:p=ks.length:=by omega
    rw[hpe f,List.map_nil,List.append_nil]at hout;subst hout;clear hnm hpe hpS hLL hNN hZ hch hNb;(refine wlk ?_;intros);all_goals((with_reducible apply cO (by first|exact .inl rfl|exact .inr rfl));(exact sr))
    all_goals exact PV.le_refl _
def aAH:Ctx:={fn:=aT [(28,φOb),(29,φBl),(31,aaS),(30,yZ)],io:=aT []}
theorem eX:au Tryz.prog aAH:=okΓ (fC Tryz.func28 aiU (fC Tryz.func29 alu (fC Tryz.func31 aiT (fC Tryz.func30 aj2 aj)))) aj
def aaP:=ah (Γ:=aAH) (f:=28) (φ:=φOb) rfl
def abp:=ah (Γ:=aAH) (f:=29) (φ:=φBl) rfl
def aaK:=ah (Γ:=aAH) (f:=31) (φ:=aaS) rfl
def abD:=ah (Γ:=aAH) (f:=30) (φ:=yZ) rfl
theorem akp:Sound Tryz.prog 8 φBp:=by
 refine HZ.sound (N:=63) (rs:=[.tmp 2,.tmp 3]) Tryz.func8 rfl rfl rfl fun ps r hr=>?_;obtain⟨⟨p,q,x,y,z⟩,rfl,hq⟩:=bC hr;clear hr;split at hq
 case isFalse=>cases hq
 case isTrue hpre=>
 cases hq;refine⟨by simp,fun B w00=>HZ.start ?_⟩;simp only[dIs,dUs,dSs,bP,bS,bQ,bT,aP,bR,aQ,aO,aR,aL];(try dsimp only at hpre⊢);show HZ _ _ _ _ _ _ ⟨(bX [bkP p q x y z]).tm,fun _=>none,0⟩ _;have ap0:=ax8 (x:=x) (y:=y) (z:=z) hpre;have ap1:=aw0 (x:=x) (y:=y) (z:=z) hpre;cases hB:blB p q x y z with
 |false=>
  have hb:bpB p q x y z=false:=by unfold bpB;rw[hB];rfl
  rw[aoG hb,hb,List.map_nil];rw[hB]at ap1;clear hpre hB hb;generalize blL p q x y z=BL at*;generalize blC p q x y z=BC at*;have gbgs_c28:=aaP;have gbgs_c29:=abp;have gbgs_c31:=aaK;have gbgs_c30:=abD;refine HZ.eng mixed eX (by kernel_rfl) ?_;(try dsimp only);(refine wlk ?_;intros);(try dsimp only);refine⟨by simp,⟨_,fun g w v h=>h,by(exact sr)⟩,fun i e=>False.elim e⟩
 |true=>
  rw[hB]at ap1;have hl60:=aku (p:=p) (q:=q) (x:=x) (y:=y) (z:=z) (by unfold blB iC at hB;simp only[Bool.and_eq_true,decide_eq_true_eq]at hB;exact hB.1.2.1)
  by_cases h30:(blL p q x y z).length≤30
  ·obtain⟨k1,k2,k3,k4,k5⟩:=ahd hB h30
   have hzz:((z.toNat:Nat):Int)=z:=by omega
   have ap2:=vI k1;have ap3:=vw (ks:=jZ p q x y) (h:=z.toNat) (by omega) (by omega) (by omega);rw[hzz]at ap3;rw[k2]at ap1;have hV:bpV p q x y z=if bpB p q x y z=true then lF (blL p q x y z) 0 (ku (jZ p q x y) z.toNat)else []:=rfl;have hb:bpB p q x y z=ab9 (jZ p q x y) z.toNat:=by unfold bpB;rw[hB,decide_eq_true h30];rfl
   rw[hb]at hV;rw[hV,hb];have hch:=fun h=>zY (ks:=jZ p q x y) (h:=z.toNat) h;rw[show dQ (tH p q x y)=jZ p q x y from rfl]at ap2;clear hpre hB hV hb k1 k2 hzz;generalize blL p q x y z=BL at*;generalize zN (tH p q x y)=CN at*;generalize jZ p q x y=KS at*;cases hG:ab9 KS z.toNat with
   |false=>rw[hG]at ap3;rw[if_neg (by decide),List.map_nil];clear hch hG;have gbgs_c28:=aaP;have gbgs_c29:=abp;have gbgs_c31:=aaK;have gbgs_c30:=abD;refine HZ.eng mixed eX (by kernel_rfl) ?_;(try dsimp only);(refine wlk ?_;intros);(try dsimp only);refine⟨by simp,⟨_,fun g w v h=>h,by(exact sr)⟩,fun i e=>False.elim e⟩
   |true=>
    rw[hG]at ap3;have hc:=hch hG;rw[if_pos rfl];have hct:=fun k h=>agj (l:=BL) (e:=ku KS z.toNat) (k:=k) h;have hfl:=fun k h=>aeX hc (k:=k) h;have hfs:=fun k h=>yR (e:=ku KS z.toNat) (k:=k) h;have hel:=xg hc;have hfull:(ku KS z.toNat).take (ku KS z.toNat).length=ku KS z.toNat:=List.take_length;have hze:=fun k h=>asC (c:=ku KS z.toNat) (k:=k) h;have hzl:(zN (ku KS z.toNat)).length=(ku KS z.toNat).length:=by simp
    rw[show(ku KS z.toNat).map (fun n:Nat=>(n:Int))=zN (ku KS z.toNat)from rfl]at ap3;clear hch hG hc;generalize ku KS z.toNat=E at*;generalize zN E=ZE at*;have gbgs_c28:=aaP;have gbgs_c29:=abp;have gbgs_c31:=aaK;have gbgs_c30:=abD;refine HZ.seq (HZ.eng mixed eX (by kernel_rfl) ?_);(try dsimp only);(refine wlk ?_;intros);(try dsimp only[X.out]);(try simp only[↓reduceIte]);refine HZ.seq (HZ.eng mixed eX (by kernel_rfl) ?_);(try dsimp only);(refine wlk ?_;intros);(try dsimp only[X.out]);(try simp only[↓reduceIte]);refine HZ.seq (HZ.eng mixed eX (by kernel_rfl) ?_);(try dsimp only);(refine wlk ?_;intros);(try dsimp only[X.out]);(try simp only[↓reduceIte]);refine HZ.seq (HZ.eng mixed eX (by kernel_rfl) ?_);(try dsimp only);(refine wlk ?_;intros);(try dsimp only[X.out]);(try simp only[↓reduceIte]);refine HZ.seq (HZ.eng mixed eX (by kernel_rfl) ?_);(try dsimp only);(refine wlk ?_;intros);(try dsimp only[X.out]);(try simp only[↓reduceIte]);refine HZ.seq (HZ.eng mixed eX (by kernel_rfl) ?_);(try dsimp only);(refine wlk ?_;intros);(try dsimp only[X.out]);(try simp only[↓reduceIte]);refine HZ.seq (HZ.eng mixed eX (by kernel_rfl) ?_);(try dsimp only);(refine wlk ?_;intros);(try dsimp only[X.out]);(try simp only[↓reduceIte]);refine HZ.seq (HZ.eng mixed eX (by kernel_rfl) ?_);(try dsimp only);(refine wlk ?_;intros);(try dsimp only[X.out]);(try simp only[↓reduceIte]);refine HZ.seq (HZ.seq (HZ.eng mixed eX (by kernel_rfl) ?_));(try dsimp only);(refine wlk ?_;intros);(try dsimp only[X.out]);(try simp only[↓reduceIte]);refine HZ.block (HZ.uR (α:=Nat×Nat×Nat) (fun i=>[(4,.row i.2.1 1 0 i.1),(5,.lst true 1 (BL.map fun s=> .val (.string s))),(8,.lst true 1 (ZE.map fun n=> .val (.int .i64 n))),(10,iv (pR E i.1)),(11,iv i.1)]) (fun i=>[(i.2.1,24,1,(lF BL 0 (E.take i.1)).map eB)]) (fun i=>i.2.2)
     (fun i σ=>(i.1≤E.length∧i.2.1<i.2.2)∧σ=Fgn.no) (fun i=>E.length-i.1) (0,1,2) ⟨⟨Nat.zero_le _,by decide⟩,rfl⟩ ?_ ?_ rfl ?_)
    ·have z1:pR E 0=0:=rfl
     (try dsimp only);rw[z1];exact agr
    ·have z0:(lF BL 0 (E.take 0)).map eB=[]:=rfl
     (try dsimp only);rw[z0];exact agr
    rintro⟨k,o,y⟩ σ ⟨⟨hk,hoy⟩,rfl⟩;dsimp only at hk hoy;clear ap0 ap1 ap2 ap3;by_cases hkl:k<E.length
    ·have h1:=hct k hkl
     have h2:=hfl k hkl;have h3:=hfs k hkl;have h4:=hze k hkl;have hcl:((lF BL 0 (E.take k)).map eB).length=k:=by rw[List.length_map,pJ,List.length_take];omega
     clear hct hfl hfs hze hfull;have hkz:k<ZE.length:=by omega
     have h5:E[k]?.getD 0≤BL.length:=by omega
     have h1:(lF BL 0 (E.take (k+1))).map eB=(lF BL 0 (E.take k)).map eB++[eB ((BL.drop (pR E k)).take (E[k]?.getD 0-pR E k))]:=by rw[h1,List.map_append];rfl
     replace h1:=Lib.hid h1;replace h3:=Lib.hid h3;generalize E[k]?.getD 0=e at*;generalize pR E k=f at*;generalize(lF BL 0 (E.take k)).map eB=R at*;refine HZ.seq (HZ.eng mixed eX (by kernel_rfl) ?_);(try dsimp only);(refine wlk ?_;intros);(try dsimp only[X.out]);(try simp only[↓reduceIte]);refine HZ.seq (HZ.block (HZ.seq (HZ.eng mixed eX (by kernel_rfl) ?_)));(try dsimp only);(refine wlk ?_;intros);(try dsimp only[X.out]);(try simp only[↓reduceIte]);refine HZ.sV (o:=y+1) (x:=y+1+1+1) (T:=9) (sz:=1) (T2:=24) (sz2:=1) (n:=e-f) (es:=((BL.drop f).take (e-f)).map fun s=> .val (.string s)) (l:=R) (by(exact sr)) (by(exact sr)) (by rw[List.length_map,List.length_take,List.length_drop];omega) (by omega) ?_;refine HZ.eng mixed eX (by kernel_rfl) ?_;(try dsimp only);(refine wlk ?_;intros);(try dsimp only[X.out]);(try simp only[↓reduceIte]);refine HZ.eng mixed eX (by kernel_rfl) ?_;(try dsimp only);(refine wlk ?_;intros);(try dsimp only[X.out]);(try simp only[↓reduceIte]);refine⟨(k+1,y+1+1+1,y+1+1+1+1),⟨⟨by dsimp only;omega,by dsimp only;omega⟩,by trivial⟩,by dsimp only;omega,?_,?_,rfl⟩
     ·(try dsimp only)
      rw[h3.out];exact agi
     ·(try dsimp only)
      rw[h1.out];exact agr
    ·obtain rfl:k=E.length:=by omega
     rw[hfull];clear hct hfl hfs hze hfull;have hcl:(lF BL 0 E).length=E.length:=pJ;generalize lF BL 0 E=L at*;refine HZ.seq (HZ.eng mixed eX (by kernel_rfl) ?_);(try dsimp only);(refine wlk ?_;intros);(try dsimp only[X.out]);(try simp only[↓reduceIte]);refine HZ.eng mixed eX (by kernel_rfl) ?_;(try dsimp only);(refine wlk ?_;intros);(try dsimp only[X.out]);(try simp only[↓reduceIte]);refine⟨by simp,⟨_,fun g w v h=>h,by(exact sr)⟩,fun i e=>False.elim e⟩
  ·have hb:bpB p q x y z=false:=by unfold bpB;rw[decide_eq_false h30,Bool.false_and,Bool.and_false]
   rw[aoG hb,hb,List.map_nil];clear hpre hB hb;generalize blL p q x y z=BL at*;generalize blC p q x y z=BC at*;have gbgs_c28:=aaP;have gbgs_c29:=abp;have gbgs_c31:=aaK;have gbgs_c30:=abD;refine HZ.eng mixed eX (by kernel_rfl) ?_;(try dsimp only);(refine wlk ?_;intros);(try dsimp only);refine⟨by simp,⟨_,fun g w v h=>h,by(exact sr)⟩,fun i e=>False.elim e⟩
structure BpF (BL:LS) (z:Int) (V:List LS) (E C:List Nat):Prop where
 len:V.length=E.length
 e30:E.length≤30
 row:∀k,k<E.length→1≤(V[k]?.getD []).length∧((V[k]?.getD []).length:Int)≤z
 sum:∀k,k<E.length→((V.take (k+1)).flatten).length=E[k]?.getD 0
 flat:V.flatten=BL
 b30:BL.length≤30
 ee:∀k,k<E.length→E[k]?.getD 0≤30
 cs:∀j,(C.take j).sum≤30
 brk:∀k j,k+1<E.length→j<C.length→1<C[j]?.getD 0→¬E[k]?.getD 0=(C.take j).sum+1∧¬E[k]?.getD 0+1=(C.take j).sum+C[j]?.getD 0
theorem apU {p:List LS} {q:LS} {x y z:Int} (hb:bpB p q x y z=true):blB p q x y z=true∧blC p q x y z=zN (tH p q x y)∧BpF (blL p q x y z) z (bpV p q x y z) (ku (jZ p q x y) z.toNat) (tH p q x y):=by
 have hV:bpV p q x y z=lF (blL p q x y z) 0 (ku (jZ p q x y) z.toNat):=if_pos hb;unfold bpB at hb;rw[Bool.and_eq_true,Bool.and_eq_true]at hb;obtain⟨hB,h30,hG⟩:=hb;have h30:=of_decide_eq_true h30;obtain⟨k1,k2,k3,k4,k5⟩:=ahd hB h30;have hc:=zY hG;have hl:=xg hc;rw[hV];refine⟨hB,k2,pJ,by omega,fun k hk=>?_,fun k hk=>?_,?_,h30,fun k hk=>?_,fun j=>?_,fun k j hk hj h1=>?_⟩
 ·have hk2:k<(lF (blL p q x y z) 0 (ku (jZ p q x y) z.toNat)).length:=by rw[pJ];exact hk
  have hm:=aoA k3.symm hc _ (List.getElem_mem hk2);rw[List.getElem?_eq_getElem hk2,Option.getD_some];exact⟨hm.1,by have:=hm.2;omega⟩
 ·have:=amS k3.symm hc k hk
  omega
 ·exact(ahJ k3.symm hc).trans (List.drop_zero ..)
 ·have:=(aeX hc hk).2
  omega
 ·have:=wW (tH p q x y) j
  have:=k1.2;omega
 ·obtain⟨p',hm⟩:=ath hc k (by omega)
  exact aqu hm (an7 hc k hk) hj h1
abbrev BL:=Op.bytesLess
theorem atm:∀x:List UInt8,BL x x=false
 |[]=>rfl
 |a::x=>by unfold BL Op.bytesLess;have:=atm x;unfold BL at this;rw[this];simp
theorem anc (x:List UInt8):BL x []=false:=by cases x<;>rfl
theorem aeN {a b:UInt8} {x y:List UInt8}:BL (a::x) (b::y)=true↔a.toNat<b.toNat∨(a.toNat=b.toNat∧BL x y=true):=by
 unfold BL
 conv=>lhs;unfold Op.bytesLess
 rw[Bool.or_eq_true,Bool.and_eq_true,decide_eq_true_eq,beq_iff_eq,UInt8.lt_iff_toNat_lt,←UInt8.toNat_inj]
theorem agU:∀{x y z:List UInt8},BL x y=true→BL y z=true→BL x z=true
 |_,[],_,h,_=>by rw[anc]at h;cases h
 |_,_::_,[],_,h=>by rw[anc]at h;cases h
 |[],_::_,_::_,_,_=>rfl
 |a::x,b::y,c::z,h1,h2=>by
  rw[aeN]at h1 h2⊢;rcases h1 with h1|⟨h1,h3⟩<;>rcases h2 with h2|⟨h2,h4⟩
  ·left;omega
  ·left;omega
  ·left;omega
  ·right;exact⟨by omega,agU h3 h4⟩
theorem auk:∀x y:List UInt8,BL x y=true∨x=y∨BL y x=true
 |[],[]=> .inr (.inl rfl)
 |[],_::_=> .inl rfl
 |_::_,[]=> .inr (.inr rfl)
 |a::x,b::y=>by
  rw[aeN,aeN];rcases Nat.lt_trichotomy a.toNat b.toNat with h|h|h
  ·exact .inl (.inl h)
  ·rcases auk x y with h2|h2|h2
   ·exact .inl (.inr ⟨h,h2⟩)
   ·exact .inr (.inl (by rw[h2,UInt8.toNat_inj.1 h]))
   ·exact .inr (.inr (.inr ⟨h.symm,h2⟩))
  ·exact .inr (.inr (.inl h))
def ltB (a b:ByteArray):Bool:=BL a.data.toList b.data.toList
theorem sW (a:ByteArray):ltB a a=false:=atm _
theorem rD {a b c:ByteArray} (h:ltB a b=true) (h2:ltB b c=true):ltB a c=true:=agU h h2
theorem ae3 (a b:ByteArray):ltB a b=true∨a=b∨ltB b a=true:=by
 rcases auk a.data.toList b.data.toList with h|h|h
 ·exact .inl h
 ·refine .inr (.inl ?_)
  obtain⟨⟨x⟩⟩:=a;obtain⟨⟨y⟩⟩:=b;simpa using h
 ·exact .inr (.inr h)
theorem xP {a b:ByteArray} (h:ltB a b=true):ltB b a=false:=by
 cases h2:ltB b a with
 |false=>rfl
 |true=>have:=rD h h2;rw[sW]at this;cases this
theorem aAU {a b:ByteArray} (h:ltB a b=true):¬a=b:=fun e=>by rw[e,sW]at h;cases h
theorem rV {α:Type} {R:α→α→Prop} (irr:∀a,¬R a a) (tr:∀a b c,R a b→R b c→R a c):∀{l l':List α},l.Pairwise R→l'.Pairwise R→(∀x,x∈l↔x∈l')→l=l'
 |[],[],_,_,_=>rfl
 |[],b::l',_,_,h=>by have:=(h b).2 (by simp);simp at this
 |a::l,[],_,_,h=>by have:=(h a).1 (by simp);simp at this
 |a::l,b::l',h1,h2,h=>by
  obtain⟨a1,a2⟩:=List.pairwise_cons.1 h1;obtain⟨b1,b2⟩:=List.pairwise_cons.1 h2;have hab:a=b:=by
   rcases List.mem_cons.1 ((h a).1 (by simp))with e|e
   ·exact e
   ·rcases List.mem_cons.1 ((h b).2 (by simp))with e2|e2
    ·exact e2.symm
    ·exact absurd (tr _ _ _ (a1 b e2) (b1 a e)) (irr a)
  subst hab;refine congrArg (a:: ·) (rV irr tr a2 b2 fun x=>⟨fun hx=>?_,fun hx=>?_⟩)
  ·rcases List.mem_cons.1 ((h x).1 (by simp[hx]))with e|e
   ·subst e;exact absurd (a1 x hx) (irr x)
   ·exact e
  ·rcases List.mem_cons.1 ((h x).2 (by simp[hx]))with e|e
   ·subst e;exact absurd (b1 x hx) (irr x)
   ·exact e
section
variable {P:Program} {t:Nat} {x y:Operand}
theorem zK (a b:ByteArray):Op.bytesLess a.toList b.toList=ltB a b:=by rw[Go.ByteArray.toList_eq,Go.ByteArray.toList_eq];rfl
theorem apV {a b:ByteArray}:aA P (do eqGuard .lss t x y (.string a) (.string b);binOp .lss t (.string a) (.string b))=some (.bool (Op.bytesLess a.toList b.toList)):=by simp[eqGuard,binOp,Op.stringOp,bind,Sem.bind,pure,aA]
theorem asf {a b:ByteArray}:aA P (do eqGuard .gtr t x y (.string a) (.string b);binOp .gtr t (.string a) (.string b))=some (.bool (!(Op.bytesLess a.toList b.toList||a.toList==b.toList))):=by simp[eqGuard,binOp,Op.stringOp,bind,Sem.bind,pure,aA]
theorem axQ {a b:ByteArray}:mq P .lss t x y (some (.string a)) (some (.string b))=some (.val (.bool (ltB a b))):=by simp only[mq,apV,zK,Option.map_some]
theorem axY {a b:ByteArray}:mq P .gtr t x y (some (.string a)) (some (.string b))=some (.val (.bool (ltB b a))):=by
 simp only[mq,asf,zK,yC,Option.map_some];have:(!(ltB a b||decide (a=b)))=ltB b a:=by
  rcases ae3 a b with h|h|h
  ·rw[h,xP h];rfl
  ·subst h;rw[sW];simp
  ·have h2:=xP h
   have h3:¬a=b:=fun e=>aAU h e.symm;rw[h,h2];simp[h3]
 rw[this]
end
attribute[push_cast]
 axQ axY
theorem afn (w:World) (k:Nat) (os:Array Obj):Below w.heap.size w (Sort.grow (w.drewN k) os):=
 ⟨rfl,rfl,rfl,by simp[Sort.grow,World.drewN],fun b hb=>by simp[Sort.grow,World.drewN,Array.getElem?_append_left hb]⟩
def jr (n:Int):ByteArray:=⟨(Lib.itoa n).toArray⟩
theorem aq6 {w:World} {io:Nat→Prop} (hT:kr w io):Lib.TabIs Tryz.prog w "internal/strconv.uint64pow10" .u64 Lib.pow10Tab:=by obtain⟨T,k,h⟩:=hT.at_ _ (List.mem_cons_self ..);unfold Lib.TabIs World.var?;rw[show Tryz.prog.globalNamed "internal/strconv.uint64pow10" =some _ by kernel_rfl,Option.bind_some,h]
def agn:Fun:=F1 dI fun n=>if okI n then some (.val (.string (jr n)))else none
theorem acJ {n:Int} (h:okI n):agn [.val (.int .i64 n)]=some (.val (.string (jr n))):=(dY (A:=dI) n).trans (if_pos h)
theorem ayK:Sound Tryz.prog 39 agn:=by
 intro w J ps args r hr hJ hT hargs;obtain⟨n,rfl,hq⟩:=bC hr;split at hq
 case isFalse=>cases hq
 case isTrue hok=>
 cases hq;have hargs:=hargs;simp only[bL]at hargs;obtain⟨v1,vs1,e1,h1,rfl⟩:=hargs;obtain rfl:args=#[v1]:=by obtain⟨a⟩:=args;simp only at e1;rw[e1]
 simp only[dI,Rep]at h1;subst h1;refine(YtmmafcjjlbgnkaaGreatDoor.strconv_Itoa n hok.1 hok.2 w (aq6 hT)).mono ?_;rintro e w' ⟨rfl,k,os,rfl⟩;exact⟨_,rfl,afn w k os,fun g' _=>by simp only[Rep];rfl⟩
def akc (n m:Int) (out:ByteArray):Prop:=Lib.decDigits n.toNat=(if m<10 then []else Lib.decDigits (m/10).toNat)++out.data.toList
theorem adw {m:Int} (h0:0≤m) (h:m<10):Lib.decDigits m.toNat=[UInt8.ofNat (48+(m % 10).toNat)]:=by rw[Lib.decDigits,dif_pos (by omega)];congr 2;omega
theorem amx {m:Int} (h:¬m<10):Lib.decDigits m.toNat=Lib.decDigits (m/10).toNat++[UInt8.ofNat (48+(m % 10).toNat)]:=by rw[Lib.decDigits,dif_neg (by omega),show m.toNat/10=(m/10).toNat by omega,show m.toNat % 10=(m % 10).toNat by omega]
abbrev ati (m:Int):ByteArray:=bytesOf [IntKind.u8.wrap (48+m % 10)]
theorem xL (m:Int):(ati m).data.toList=[UInt8.ofNat (48+(m % 10).toNat)]:=by
 have e:IntKind.u8.wrap (48+m % 10)=48+m % 10:=by rw[IntKind.wrap_u8];omega
 have e2:(48+m % 10).toNat=48+(m % 10).toNat:=by omega
 unfold ati bytesOf;rw[e];simp[e2]
theorem akc.start {n:Int} (h:0≤n):akc n n (ati n):=by
 unfold akc;split
 ·rw[adw h (by assumption),xL];rfl
 ·rw[amx (by assumption),xL]
theorem akc.step {n m:Int} {out:ByteArray} (h:akc n m out) (h0:9<m):akc n (m/10) (ati (m/10)++out):=by
 unfold akc at h⊢;rw[if_neg (by omega)]at h;rw[h];have e:(ati (m/10)++out).data.toList=[UInt8.ofNat (48+(m/10 % 10).toNat)]++out.data.toList:=by rw[ByteArray.data_append,Array.toList_append,xL]
 rw[e,←List.append_assoc];congr 1;split
 ·rw[adw (by omega) (by assumption)];rfl
 ·rw[amx (by assumption)]
theorem akc.stop {n m:Int} {out:ByteArray} (h:akc n m out) (hn:0≤n) (h0:¬9<m):out=jr n:=by unfold akc at h;rw[if_pos (by omega),List.nil_append]at h;unfold jr Lib.itoa;rw[if_neg (by omega),h]
theorem arA:∀(u:Nat),∃b r,Lib.decDigits u=b::r∧48≤b.toNat:=fun u=>by
 induction u using Nat.strongRecOn with
 |_ u ih=>
  by_cases h:u<10
  ·refine⟨_,[],by rw[Lib.decDigits,dif_pos h],?_⟩
   show 48≤(48+u) % 256;omega
  ·obtain⟨b,r,h1,h2⟩:=ih (u/10) (by omega)
   exact⟨b,r++[UInt8.ofNat (48+u % 10)],by rw[Lib.decDigits,dif_neg h,h1];rfl,h2⟩
theorem aiy {n:Int} (h:0≤n):0<(jr n).size∧48≤at8 (jr n) 0:=by
 obtain⟨b,r,h1,h2⟩:=arA n.toNat;have e:(jr n).data.toList=b::r:=by unfold jr Lib.itoa;rw[if_neg (by omega),h1]
 have hl:(jr n).data.toList.length=(jr n).size:=Array.length_toList;have h3:0<(jr n).data.toList.length:=by rw[e];simp
 refine⟨by omega,?_⟩;rw[aCp h3];have:(jr n).data.toList[0]=b:=by simp only[e,List.getElem_cons_zero]
 rw[this];omega
def arJ:Fun:=F1 dI fun n=>if 0≤n∧n≤1099511627776 then some (.val (.string (jr n)))else none
theorem ahA {n:Int} (h:0≤n) (h2:n≤1099511627776):arJ [.val (.int .i64 n)]=some (.val (.string (jr n))):=(dY (A:=dI) n).trans (if_pos ⟨h,h2⟩)
theorem aAy:Sound Tryz.prog 119 arJ:=by
 refine ak mixed bV Tryz.func119 rfl 23 rfl [.tmp 2] rfl (by kernel_rfl) fun ps r hr=>?_;obtain⟨n,rfl,hpre,rfl⟩:=je hr;refine⟨by simp,?_⟩;simp only[dIs,dUs,dSs,bP,bS,bQ,bT,aP,bR,aQ,aO,aR,aL];obtain⟨h0,h1⟩:=hpre;have hst:=Lib.hid (akc.start h0);have hd9:0≤n % 10∧n % 10≤9:=by omega
 (refine wlk ?_;intros);refine aB (α:=Int×ByteArray×Nat) mixed (fun s=>[(0,iv s.1),(3,.val (.string s.2.1))])
  (fun s=>[]) (fun s=>s.2.2)
  (fun s=>0≤s.1∧s.1≤1099511627776∧akc n s.1 s.2.1∧(s.2.1.size:Int)+s.1≤1099511627780∧0<s.2.2) (fun s=>s.1.toNat) (by kernel_rfl) (n,ati n,1) ⟨h0,h1,hst.out,by dsimp only;have:(ati n).size=1:=jJ _;omega,by simp⟩ ?_ ?_ rfl ?_
 ·exact agr
 ·exact agr
 rintro⟨m,out,y⟩ ⟨m0,m1,hI,hsz,hy⟩;dsimp only at m0 m1 hI hsz hy;replace hI:=Lib.hid hI;by_cases h9:9<m
 ·have hst:=Lib.hid (hI.out.step h9)
  (refine wlk ?_;intros);refine⟨(m/10,ati (m/10)++out,y+1),⟨by dsimp only;omega,by dsimp only;omega,hst.out,by dsimp only;rw[ByteArray.size_append,jJ];simp only[List.length_cons,List.length_nil];omega,by dsimp only;omega⟩,by dsimp only;omega,?_,?_,rfl⟩
  ·exact agr
  ·exact agr
 ·have hst:=hI.out.stop h0 h9
  subst hst;exact wlkF
abbrev Rn:=Int×Int
def r9 (R:List Rn) (n:Int):List Rn:=match R.getLast? with
 |some r=>if r.2+1=n then R.dropLast++[(r.1,n)]else R++[(n,n)]
 |none=>[(n,n)]
def gH (l:List Int):List Rn:=l.foldl r9 []
def runT (r:Rn):ByteArray:=if r.1=r.2 then jr r.1 else(jr r.1++⟨#[45]⟩)++jr r.2
def csB:ByteArray:=⟨#[44,32]⟩
def mK (l:List Int):ByteArray:=lN ((gH l).map runT) csB
def mh (l:List Int):ByteArray:=if iA l=true then mK l else⟨#[]⟩
theorem jl (l:List Int) (n:Int):gH (l++[n])=r9 (gH l) n:=by simp[gH,List.foldl_append]
theorem iW (R:List Rn) (r:Rn) (n:Int):r9 (R++[r]) n=if r.2+1=n then R++[(r.1,n)]else R++[r]++[(n,n)]:=by unfold r9;rw[List.getLast?_append];simp
theorem nK:∀(l:List Int) (n:Int),∃R a,gH (l++[n])=R++[(a,n)]:=fun l n=>by
 rw[jl];rcases List.eq_nil_or_concat (gH l)with h|⟨R,r,h⟩
 ·rw[h];exact⟨[],n,rfl⟩
 ·rw[h,List.concat_eq_append,iW]
  split
  ·exact⟨R,r.1,rfl⟩
  ·exact⟨R++[r],n,rfl⟩
theorem fP {l:List Int} {k:Nat} (h:k<l.length):l.take (k+1)=l.take k++[l[k]?.getD 0]:=by rw[List.take_succ_eq_append_getElem h,List.getElem?_eq_getElem h];rfl
theorem arP {l:List Int} {k:Nat} (hk:k<l.length) (hb:0<k→¬l[k-1]?.getD 0+1=l[k]?.getD 0):∀e,k≤e→e<l.length→(∀j,k≤j→j<e→l[j+1]?.getD 0=l[j]?.getD 0+1)→
 gH (l.take (e+1))=gH (l.take k)++[(l[k]?.getD 0,l[e]?.getD 0)]:=by
 intro e
 induction e with
 |zero=>
  intro h1 _ _;obtain rfl:k=0:=by omega
  rw[fP hk];rfl
 |succ e ih=>
  intro h1 h2 h3;by_cases he:k=e+1
  ·subst he
   rw[fP h2,jl];have hb:=hb (by omega);rw[show e+1-1=e by omega]at hb;obtain⟨R,a,hR⟩:=nK (l.take e) (l[e]?.getD 0);rw[fP (show e<l.length by omega),hR,iW,if_neg hb]
  ·have hR:=ih (by omega) (by omega) fun j h4 h5=>h3 j h4 (by omega)
   rw[fP h2,jl,hR,iW,if_pos (by rw[h3 e (by omega) (by omega)])]
theorem ajS {l:LS} (h:0<l.length) (z sep:ByteArray):lN (l++[z]) sep=(lN l sep++sep)++z:=by
 cases l with
 |nil=>simp at h
 |cons x r=>refine aaf ?_;rw[ByteArray.data_append,Array.toList_append,ByteArray.data_append,Array.toList_append];show Lib.join ((x::(r++[z])).map (·.data.toList)) sep.data.toList=Lib.join ((x::r).map (·.data.toList)) sep.data.toList++sep.data.toList++z.data.toList;rw[List.map_cons,List.map_cons,Lib.join_cons,Lib.join_cons];simp[Lib.joinTail]
theorem alB (z sep:ByteArray):lN [z] sep=z:=aaf (by show Lib.join [z.data.toList] sep.data.toList=z.data.toList;rw[Lib.join_one])
theorem amR {l:List Int} {k e:Nat} (hk:k<l.length) (hb:0<k→¬l[k-1]?.getD 0+1=l[k]?.getD 0) (h1:k≤e) (h2:e<l.length) (h3:∀j,k≤j→j<e→l[j+1]?.getD 0=l[j]?.getD 0+1):
 mK (l.take (e+1))=(if k=0 then⟨#[]⟩else mK (l.take k)++csB)++runT (l[k]?.getD 0,l[e]?.getD 0):=by
 unfold mK;rw[arP hk hb e h1 h2 h3,List.map_append,List.map_singleton];split
 ·rename_i h
  subst h;show lN [_] csB=_;rw[alB];exact aaf (by rw[ByteArray.data_append,Array.toList_append];rfl)
 ·rename_i h
  obtain⟨R,a,hR⟩:=nK (l.take (k-1)) (l[k-1]?.getD 0);rw[←fP (show k-1<l.length by omega),show k-1+1=k by omega]at hR;rw[ajS (by rw[hR];simp)]
theorem amD {l:List Int} {k:Nat} (h0:0<k) (hk:k≤l.length) (hp:∀j,j<l.length→0≤l[j]?.getD 0):0<(mK (l.take k)).size:=by
 obtain⟨R,a,hR⟩:=nK (l.take (k-1)) (l[k-1]?.getD 0);rw[←fP (show k-1<l.length by omega),show k-1+1=k by omega]at hR;unfold mK;rw[zC,hR,List.map_append,List.map_singleton];have hz:0<(runT (a,l[k-1]?.getD 0)).size:=by
  have:=(aiy (hp (k-1) (by omega))).1;unfold runT;split
  ·rename_i h;simp only at h;rw[h];exact this
  ·rw[ByteArray.size_append];dsimp only;omega
 have:(runT (a,l[k-1]?.getD 0)).size≤zi (R.map runT++[runT (a,l[k-1]?.getD 0)]):=by unfold zi;rw[List.map_append,List.sum_append];simp
 omega
end
end Go.Proofs.YtmmafcjjlbgnkaaGreatDoor
