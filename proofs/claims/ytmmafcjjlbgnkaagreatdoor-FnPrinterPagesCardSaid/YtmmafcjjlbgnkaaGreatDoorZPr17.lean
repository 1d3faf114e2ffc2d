/- What the proof rests on, part 17: contracts of functions. No condition beyond what each states. -/
import Derived.Test.YtmmafcjjlbgnkaaGreatDoorZPr15
import Derived.Test.YtmmafcjjlbgnkaaGreatDoorZPr16
namespace Go.Proofs.YtmmafcjjlbgnkaaGreatDoor
open Go.RowKit
set_option linter.all false
set_option maxHeartbeats 32000000
noncomputable section
section
variable {P:Program} {N B:Nat} {w00:World} {c:Code}
theorem alo {fn:Func} {ps:List PV} {args:Array Value} {w:World} {Jm:Nat→Prop} (hJ:∀b,Jm b→b<w.heap.size) (hT:qF w (fun _=>False)) (hargs:bX (aaN Jm) w ps args.toList) (hle:ps.length≤fn.ntmps):
 Rel ⟨fun _=>False,Jm,0,fun _=>0,fun _=>0,fun _=>False,fun _=>False⟩ w fn.ntmps (aaN Jm) (bY ps) {tmps:=args++Array.replicate (fn.ntmps-args.size) undef,defers:=[]} w:=by
 have hsz:args.size=ps.length:=by simpa using hargs.get.1
 refine⟨by simp;omega,rfl,fun t=>?_,fun o c ho=>(by cases ho),fun o o' ho=>(by cases ho),rfl,fun k b hi=>hJ b hi.2,fun b hi=>(by cases hi.1),Fr.refl _ _,fun b hi=>hi.2,⟨fun o ho=>(Nat.not_lt_zero o ho).elim,fun o ho=>(Nat.not_lt_zero o ho).elim⟩,fun o ho=>False.elim ho,hT⟩;simp only[bY];cases hp:ps[t]? with
 |none=>
  have hge:ps.length≤t:=by simpa using hp
  have:(args++Array.replicate (fn.ntmps-args.size) undef).getD t undef=undef:=by simp only[Array.getD_eq_getD_getElem?];rw[Array.getElem?_append_right (by omega)];simp only[Array.getElem?_replicate];split<;>rfl
  rw[this];simp[Rep]
 |some p=>
  obtain⟨v,hv,hrep⟩:=hargs.get.2 t p hp;have hlt:t<args.size:=by have:=(List.getElem?_eq_some_iff.1 hp).1;omega
  have:(args++Array.replicate (fn.ntmps-args.size) undef).getD t undef=v:=by
   simp only[Array.getD_eq_getD_getElem?];rw[Array.getElem?_append_left hlt];have:args[t]?=some v:=by simpa using hv
   simp[this]
  rw[this];exact hrep
theorem apV {w:World} {io:Nat→Prop} (hT:qF w io):∀t∈tks,t<w.heap.size:=fun t ht=>hT.lt t ht
theorem HZ.sound {f:Nat} {fn:Func} {rs:List ResultVar} {φ:Fun} (hf:P.funcs[f]?=some fn) (hb:fn.body=some c) (hN:fn.ntmps=N) (hrs:fn.results.toList=rs)
 (h:∀ps r,φ ps=some r→ps.length≤N∧∀B w00,HZ P N B w00 c (fun x s' σ'=>(x=.normal∨x=.ret)∧(∃r',(∀(g:Gh) (w:World) (v:Value),Rep g w r' v→Rep g w r v)∧((fF P s' rs).bind fun qs=>reify true 0 s'.ob fuel (gL qs))=some r')∧∀i,σ'.bk i→B≤i) (bY ps) Fgn.no):Sound P f φ:=by
 intro w Jm ps args r hr hJ hT hargs;subst hN hrs;obtain⟨hlen,h⟩:=h ps r hr;refine calls_of_wp hf hb (CWp.wp ((h w.heap.size w).go _ _ ⟨⟨_,w,_,alo hJ hT hargs hlen,⟨fun i hi e=>e,fun i hi=>?_,fun i hi=>False.elim hi,fun b' e=>False.elim e,Nat.le_refl _,Fr.refl _ _,fun t ht=>⟨apV hT t ht,fun e=>e⟩⟩⟩,trivial⟩ _ fun x s' σ' a' w' hs' hk=>?_))
 ·rcases hi with hi|hi<;>exact False.elim hi
 ·obtain⟨hx,⟨r',hle,hres⟩,hbb⟩:=hk
  obtain⟨⟨io,w0,g,hrel,hC⟩,hM'⟩:=hs';rw[Option.bind_eq_some_iff]at hres;obtain⟨qs,hres,hreify⟩:=hres;have hbel:Below w.heap.size w w':=by have hf1:Fr (fun i=>w.heap.size≤i) w0 w':=⟨hrel.fr.os,hrel.fr.tape,hrel.fr.output,hrel.fr.size,fun i hi hn=>hrel.fr.block i hi fun q=>hn (hC.lo i (.inl q))⟩;refine⟨hf1.os.trans hC.fr.os,hf1.tape.trans hC.fr.tape,hf1.output.trans hC.fr.output,Nat.le_trans hC.fr.size hf1.size,fun i hi=>?_⟩;refine(hf1.block i (Nat.lt_of_lt_of_le hi hC.fr.size) (by omega)).trans (hC.fr.block i hi fun q=>q.elim (fun q=>?_) fun q=>by omega);have:=hbb i q;omega
  have hend:a'.defers=[]∧∃v,(results fn a'.tmps).run P w'=.ok v w'∧((∃v',Ending.returned v=.returned v'∧Below w.heap.size w w'∧∀g'':Gh,(∀b,w.heap.size≤b→b<w'.heap.size→g''.I true b)→Rep g'' w' r v')):=by
   obtain⟨v,h1,h2⟩:=iU hrel hres;refine⟨hrel.df,v,h1,v,rfl,hbel,fun g'' hg=>hle _ _ _ ?_⟩;refine Rep.seen (fun o c ho=>(hrel.ob o c ho).2.2.2) ⟨fun hh=>(by cases hh),fun _=>⟨fun b hb=>hg b ?_ (hrel.lt true b hb),fun o ho _=>?_⟩⟩ fuel _ _ _ h2 hreify
   ·rcases hrel.new b hb with⟨q,_⟩|q
    ·exact Nat.le_trans hC.sz q
    ·exact hC.lo b (.inr q)
   ·obtain⟨c,hc⟩:=Option.isSome_iff_exists.1 ho
    obtain⟨q1,q2,q3⟩:=hC.iW hrel hc;exact hg _ q3 q1
  rcases hx with rfl|rfl<;>exact hend
end
section
variable {P:Program} {N B:Nat} {w00:World}
theorem Rel.anew {io:IoS} {w0 w:World} {bk bk':Nat→Prop} {g g':Gh} {s s':AS} {a:Act} (hr:Rel io w0 N g s a w) (hC:HzC io w00 w0 B bk) (hg:g.le g') (hnx:g'.nx=s'.nx)
 (htm:∀t,Rep g' w (s'.tm t) (a.tmps.getD t undef)) (hob:∀o c,s'.ob o=some c→(s.ob o).isSome∧oV g' w o c)
 (hI:∀k i,g'.I k i→(∀o,(s'.ob o).isSome→i≠g.β o)∧i<w.heap.size∧¬bk' i) (hIt:∀i,g'.I true i→B≤i) (hO:∀o,(s'.ob o).isSome→¬bk' (g.β o))
 (h2:∀i,bk i→bk' i) (hbl:∀i,bk' i→i<w.heap.size) (hbB:∀i,bk' i→bk i∨B≤i):∃io',Rel io' w N g' s' a w∧HzC io' w00 w B bk':=by
 have hsz:B≤w.heap.size:=Nat.le_trans hC.sz hr.fr.size;have hoD:∀o,(s.ob o).isSome→g.D o:=fun o ho=>by obtain⟨c,hc⟩:=Option.isSome_iff_exists.1 ho;exact(hr.ob o c hc).1
 have hs:∀o,(s'.ob o).isSome→(s.ob o).isSome:=fun o ho=>by obtain⟨c,hc⟩:=Option.isSome_iff_exists.1 ho;exact(hob o c hc).1
 have hβ:∀o,(s'.ob o).isSome→g'.β o=g.β o:=fun o ho=>hg.β o (hoD o (hs o ho));have hap:∀o,(s'.ob o).isSome→g.β o<w.heap.size∧B≤g.β o:=fun o ho=>by obtain⟨c,hc⟩:=Option.isSome_iff_exists.1 (hs o ho);have:=hC.iW hr hc;exact⟨this.1,this.2.2⟩
 have htk:∀t∈tks,¬bk' t:=fun t ht e=>by
  rcases hbB t e with e|e
  ·exact(hC.tk t ht).2 e
  ·have:=(hC.tk t ht).1
   omega
 refine⟨{wr:=fun i=>∃o,(s'.ob o).isSome∧i=g.β o,im:=g'.I false,m:=0,β0:=fun _=>0,κ0:=fun _=>0,it:=g'.I true},⟨hr.nt,hr.df,htm,fun o c ho=>?_,fun o o' ho ho' he=>?_,hnx,fun kk i hi=>(hI kk i hi).2.1,fun i hi=> .inr hi,Fr.refl _ _,fun i hi=>hi,⟨fun o ho=>(Nat.not_lt_zero o ho).elim,fun o ho=>(Nat.not_lt_zero o ho).elim⟩,fun o ho=>False.elim ho,?_⟩,⟨fun i hi=>?_,fun i hi=>?_,fun i hi=>?_,hbl,hsz,?_,fun t ht=>⟨(hC.tk t ht).1,htk t ht⟩⟩⟩
 ·have hso:(s'.ob o).isSome:=by rw[ho];rfl
  refine⟨hg.D o (hoD o (hs o hso)),.inr ⟨o,hso,hβ o hso⟩,fun k hk=>(hI k _ hk).1 o hso (hβ o hso),(hob o c ho).2⟩
 ·rw[hβ o ho,hβ o' ho']at he
  exact hr.inj o o' (hs o ho) (hs o' ho') he
 ·refine hr.tab.keep hr.fr ?_
  rintro t ht ⟨o,ho,rfl⟩;have:=(hap o ho).2;have:=(hC.tk _ ht).1;omega
 ·rcases hi with⟨o,ho,rfl⟩|hi|hi
  ·exact hO o ho
  ·exact(hI _ i hi).2.2
  ·exact(hI _ i hi).2.2
 ·rcases hi with⟨o,ho,rfl⟩|hi
  ·exact(hap o ho).2
  ·exact hIt i hi
 ·obtain⟨o,ho,rfl⟩:=hi
  exact(hap o ho).1
 ·have hf1:Fr (fun i=>bk' i∨B≤i) w0 w:=⟨hr.fr.os,hr.fr.tape,hr.fr.output,hr.fr.size,fun i hi hn=>hr.fr.block i hi fun q=>hn (.inr (hC.lo i (.inl q)))⟩
  refine⟨hf1.os.trans hC.fr.os,hf1.tape.trans hC.fr.tape,hf1.output.trans hC.fr.output,Nat.le_trans hC.fr.size hf1.size,fun i hi hn=>?_⟩;exact(hf1.block i (Nat.lt_of_lt_of_le hi hC.fr.size) hn).trans (hC.fr.block i hi fun q=>hn (q.imp (h2 i) id))
theorem HzC.azi {io:IoS} {w0:World} {bk:Nat→Prop} (h:HzC io w00 w0 B bk) {g:Gh} {s:AS} {a:Act} {w:World} (hr:Rel io w0 N g s a w) {i:Nat} (hi:g.I true i):B≤i:=by
 rcases hr.new i hi with⟨q,_⟩|q
 ·exact Nat.le_trans h.sz q
 ·exact h.lo i (.inr q)
theorem Zt.lQ {s:AS} {σ:Fgn} {a:Act} {w:World} (h:Zt P N B w00 s σ a w) {o x T sz T2 sz2 n:Nat} {es l:List PV} (ho:s.ob o=some (T,sz,es)) (hx:s.ob x=some (T2,sz2,l++[.row o sz 0 n])) (hn:n=es.length) (hne:x≠o):
 Zt P N B w00 ⟨s.tm,upd (upd s.ob o none) x (some (T2,sz2,l++[.lst true sz es])),s.nx⟩ σ a w:=by
 subst hn;obtain⟨⟨io,w0,g,hr,hC⟩,hM⟩:=h;obtain⟨k1,k2,k3,⟨arr,k4,k5⟩,k6,k7⟩:=hr.ob o _ ho;obtain⟨q1,q2,q3⟩:=hC.iW hr ho;dsimp only at k4 k6 k7
 let g':Gh:={g with I:=fun k b=>g.I k b∨(k=true∧b=g.β o)}
 have hle:g.le g':=⟨fun _ _ h=> .inl h,fun _ h=>h,fun _ _=>rfl,fun _ _=>rfl⟩;have hsub:∀o' c,upd (upd s.ob o none) x (some (T2,sz2,l++[PV.lst true sz es])) o'=some c→o'≠o∧((o'=x∧c=(T2,sz2,l++[PV.lst true sz es]))∨s.ob o'=some c):=fun o' c hc=>by
  unfold upd at hc;split at hc
  ·rename_i e
   cases hc;exact⟨e▸hne,.inl ⟨e,rfl⟩⟩
  ·split at hc
   ·cases hc
   ·rename_i e;exact⟨e,.inr hc⟩
 have hsubS:∀o',(upd (upd s.ob o none) x (some (T2,sz2,l++[PV.lst true sz es])) o').isSome→o'≠o∧(s.ob o').isSome:=fun o' hc=>by
  obtain⟨c,hc⟩:=Option.isSome_iff_exists.1 hc;obtain⟨e,e2⟩:=hsub o' c hc;refine⟨e,?_⟩;rcases e2 with⟨rfl,_⟩|e2
  ·rw[hx];rfl
  ·rw[e2];rfl
 have key:∃io',Rel io' w N g' ⟨s.tm,upd (upd s.ob o none) x (some (T2,sz2,l++[PV.lst true sz es])),s.nx⟩ a w∧HzC io' w00 w B σ.bk:=by
  refine hr.anew (s':=⟨s.tm,upd (upd s.ob o none) x (some (T2,sz2,l++[PV.lst true sz es])),s.nx⟩) (g':=g') (bk':=σ.bk) hC hle hr.nx (fun t=>(hr.tm t).mono hle fun _ _ _=>rfl) (fun o' c hc=>?_) (fun k i hi=>⟨fun o' ho' e=>?_,?_,fun e=>?_⟩) (fun i hi=>?_) (fun o' ho' e=>?_) (fun i hi=>hi) (fun i hi=>Nat.lt_of_lt_of_le (hC.hb i hi) hr.fr.size) (fun i hi=> .inl hi)
  ·refine⟨(hsubS o' (Option.isSome_iff_exists.2 ⟨c,hc⟩)).2,?_⟩
   rcases(hsub o' c hc).2 with⟨rfl,rfl⟩|e
   ·obtain⟨p1,p2,p3,p4,p5,p6⟩:=hr.ob o' _ hx
    refine⟨p4,by simpa using p5,?_⟩;refine bM.of fun i e he=>?_;dsimp only at p6 he;rcases Nat.lt_trichotomy i l.length with hi|hi|hi
    ·rw[List.getElem?_append_left hi]at he
     obtain⟨u,m1,m2,m3⟩:=p6.get (i:=i) (e:=e) (by rw[List.getElem?_append_left hi];exact he);exact⟨u,m1.mono hle (fun _ _ _=>rfl),m2,m3⟩
    ·subst hi
     obtain⟨u,m1,m2,m3⟩:=p6.get (i:=l.length) (e:=.row o sz 0 es.length) (by simp);have he:e=.lst true sz es:=by simpa using he.symm
     subst he;refine⟨u,?_,m2,m3⟩;simp only[Rep]at m1⊢;obtain⟨c,c1,c2,c3,c4,c5⟩:=m1;refine⟨_,c,c1,c2,c3,.inr ⟨g.β o,0,by simp,.inr ⟨rfl,rfl⟩,bM.mono hle (fun _ _ _=>rfl) _ _ _ _ rfl k7⟩⟩
    ·rw[List.getElem?_eq_none (by simp;omega)]at he
     cases he
   ·exact(hr.ob o' c e).2.2.2.mono hle (hr.ob o' c e).1 (fun _ _ _=>rfl) rfl
  ·obtain⟨c,hc⟩:=Option.isSome_iff_exists.1 (hsubS o' ho').2
   rcases hi with hi|⟨_,hi⟩
   ·exact(hr.ob o' c hc).2.2.1 k (e▸hi)
   ·exact(hsubS o' ho').1 (hr.inj o' o (by rw[hc];rfl) (by rw[ho];rfl) (e.symm.trans hi))
  ·rcases hi with hi|⟨_,hi⟩
   ·exact(hC.sG hr hi).1
   ·rw[hi];exact q1
  ·rcases hi with hi|⟨_,hi⟩
   ·exact(hC.sG hr hi).2 e
   ·rw[hi]at e;exact q2 e
  ·rcases hi with hi|⟨_,hi⟩
   ·exact hC.azi hr hi
   ·rw[hi];exact q3
  ·obtain⟨c,hc⟩:=Option.isSome_iff_exists.1 (hsubS o' ho').2
   exact(hC.iW hr hc).2.1 e
 obtain⟨io',h1,h2⟩:=key;exact⟨⟨io',w,g',h1,h2⟩,hM⟩
theorem HZ.lQ {c:Code} {K:X→AS→Fgn→Prop} {s:AS} {σ:Fgn} {o x T sz T2 sz2 n:Nat} {es l:List PV} (ho:s.ob o=some (T,sz,es)) (hx:s.ob x=some (T2,sz2,l++[.row o sz 0 n])) (hn:n=es.length) (hne:x≠o)
 (h:HZ P N B w00 c K ⟨s.tm,upd (upd s.ob o none) x (some (T2,sz2,l++[.lst true sz es])),s.nx⟩ σ):HZ P N B w00 c K s σ:=HZ.mk fun a w hs Q hQ=>h.go a w (hs.lQ ho hx hn hne) Q hQ
end
abbrev dY (x:LS):PV:=.lst true 1 (x.map fun s=> .val (.string s))
abbrev atX (x:LS):PV:=.lst false 1 (x.map fun s=> .val (.string s))
theorem ag2 {l:List LS} {k:Nat} (h:k<l.length):(l.take (k+1)).map dY=(l.take k).map dY++[dY (l[k]?.getD [])]:=by rw[List.take_succ_eq_append_getElem h,List.map_append,List.getElem?_eq_getElem h,Option.getD_some];rfl
def φOr:Fun:=F1 (dL 1 dSs) fun l=>open Classical in if l.length≤1048576∧∀i:Nat,oo (l[i]?.getD [])then some (.lst true 1 (l.map dY))else none
theorem anO {l:List LS} (h:l.length≤1048576) (h2:∀i:Nat,oo (l[i]?.getD [])):φOr [.lst false 1 (l.map fun p=> .lst false 1 (p.map fun s=> .val (.string s)))]=some (.lst true 1 (l.map dY)):=(gu (A:=dL 1 dSs) l).trans (if_pos ⟨h,h2⟩)
theorem afS:Sound Tryz.prog 65 φOr:=by
 refine HZ.sound (N:=22) (rs:=[.tmp 2]) Tryz.func65 rfl rfl rfl fun ps r hr=>?_;obtain⟨l,rfl,hq⟩:=bQ hr;clear hr;split at hq
 case isFalse=>cases hq
 case isTrue hpre=>
 cases hq;obtain⟨hlen,hall⟩:=hpre;refine⟨by simp,fun B w00=>HZ.start ?_⟩;simp only[dIs,dUs,dSs,dz,dF,dx,dG,aR,dD,aU,aV,aS,aT];show HZ _ _ _ _ _ _ ⟨(bY [.lst false 1 (l.map atX)]).tm,fun _=>none,0⟩ _;refine HZ.seq (HZ.eng mixed bJ (by kernel_rfl) ?_);(try dsimp only);(refine wlk ?_;intros);refine HZ.seq (HZ.eng mixed bJ (by kernel_rfl) ?_);(try dsimp only);(refine wlk ?_;intros);refine HZ.seq (HZ.seq (HZ.eng mixed bJ (by kernel_rfl) ?_));(try dsimp only);(refine wlk ?_;intros);(try dsimp only);refine HZ.block (HZ.aap (α:=Nat×Nat×Nat) (fun i=>[(0,.lst false 1 (l.map atX)),(3,.row i.2.1 1 0 i.1),(4,iv i.1)]) (fun i=>[(i.2.1,24,1,(l.take i.1).map dY)]) (fun i=>i.2.2)
  (fun i σ=>(i.1≤l.length∧i.2.1<i.2.2)∧σ=Fgn.no) (fun i=>l.length-i.1) (0,0,1) ⟨⟨Nat.zero_le _,by decide⟩,rfl⟩ ?_ ?_ rfl ?_)
 ·(try dsimp only)
  exact agr;try rfl
 ·(try dsimp only)
  exact agr;try rfl
 rintro⟨k,o,y⟩ σ ⟨⟨hk,hoy⟩,rfl⟩;dsimp only at hk hoy;by_cases hkl:k<l.length
 ·have hok:=hall k
  have ht:=ag2 hkl;have htl:((l.take k).map dY).length=k:=by rw[List.length_map,List.length_take];omega
  replace ht:=Lib.hid ht;refine HZ.seq (HZ.eng mixed bJ (by kernel_rfl) ?_);(try dsimp only);(refine wlk ?_;intros);(try dsimp only);generalize(l.take k).map dY=R at*;refine HZ.seq (HZ.block (HZ.eng mixed bJ (by kernel_rfl) ?_));(try dsimp only);clear hall;(refine wlk ?_;intros);(try dsimp only[X.out]);refine HZ.lQ (o:=y+1) (x:=y+3) (T:=9) (sz:=1) (T2:=24) (sz2:=1) (n:=(l[k]?.getD []).length) (es:=(l[k]?.getD []).map fun s=> .val (.string s)) (l:=R) (by(simp(disch:=(first|omega|(simp only[push_cast];first|done|omega))) only[push_cast,↓reduceIte,Nat.reduceEqDiff,Nat.reduceBEq,Nat.reduceAdd,Nat.reduceSub,Int.reduceToNat, *]<;>with_reducible exact rfl)) (by(simp(disch:=(first|omega|(simp only[push_cast];first|done|omega))) only[push_cast,↓reduceIte,Nat.reduceEqDiff,Nat.reduceBEq,Nat.reduceAdd,Nat.reduceSub,Int.reduceToNat, *]<;>with_reducible exact rfl)) (by simp) (by omega) ?_;refine HZ.eng mixed bJ (by kernel_rfl) ?_;(try dsimp only);(refine wlk ?_;intros);(try dsimp only);refine⟨(k+1,y+3,y+4),⟨⟨by dsimp only;omega,by dsimp only;omega⟩,rfl⟩,by dsimp only;omega,?_,?_,rfl⟩
  ·(try dsimp only)
   exact agi
  ·(try dsimp only)
   rw[ht.out];exact agr
 ·obtain rfl:k=l.length:=by omega
  rw[List.take_length];refine HZ.seq (HZ.eng mixed bJ (by kernel_rfl) ?_);(try dsimp only);clear hall;(refine wlk ?_;intros);(try simp only[X.out,↓reduceIte]);refine HZ.eng mixed bJ (by kernel_rfl) ?_;(try dsimp only);(refine wlk ?_;intros);(try dsimp only);refine⟨.inr rfl,⟨_,fun g w v h=>h,by(simp(disch:=(first|omega|(simp only[push_cast];first|done|omega))) only[push_cast,↓reduceIte,Nat.reduceEqDiff,Nat.reduceBEq,Nat.reduceAdd,Nat.reduceSub,Int.reduceToNat, *]<;>with_reducible exact rfl)⟩,fun i e=>False.elim e⟩
def φOb:Fun:=F1 kD fun b=>if wF b.1 b.2.1 then some (.agg [.lst true 1 (b.1.map dY),.lst true 1 (b.2.1.map fun s=> .val (.string s)),.val (.int .i64 b.2.2.1),.val (.int .i64 b.2.2.2.1),.val (.int .i64 b.2.2.2.2)])else none
theorem aqX {p:List LS} {q:LS} {x y z:Int} (h:wF p q):φOb [.agg [.lst false 1 (p.map fun p=> .lst false 1 (p.map fun s=> .val (.string s))),.lst false 1 (q.map fun s=> .val (.string s)),.val (.int .i64 x),.val (.int .i64 y),.val (.int .i64 z)]]=some (.agg [.lst true 1 (p.map dY),.lst true 1 (q.map fun s=> .val (.string s)),.val (.int .i64 x),.val (.int .i64 y),.val (.int .i64 z)]):=
 (gu (A:=kD) (p,q,x,y,z)).trans (if_pos h)
def GOb:Ctx:={fn:=aY [(65,φOr)],io:=aY []}
theorem avF:ak Tryz.prog GOb:=okΓ (fC Tryz.func65 afS aj) aj
def avn:=ah (Γ:=GOb) (f:=65) (φ:=φOr) rfl
theorem aeK:Sound Tryz.prog 28 φOb:=by refine au mixed avF Tryz.func28 rfl 15 rfl [.cell 2 26] rfl (by kernel_rfl) fun ps r hr=>?_;obtain⟨⟨p,q,x,y,z⟩,rfl,hpre,rfl⟩:=jQ hr;refine⟨by simp,?_⟩;simp only[dIs,dUs,dSs,dz,dF,dx,dG,aR,dD,aU,aV,aS,aT];(try dsimp only at hpre⊢);obtain⟨hlen,hall,hoq⟩:=hpre;have ap:=anO hlen hall;clear hall;have gob_c65:=avn;exact wlkF
def qj (p:List LS) (q:LS) (x y:Int):List Nat:=p.map fun w=>(mR w q x y).length
theorem akA (p:List LS) (q:LS) (x y:Int):(qj p q x y).length=p.length:=by unfold qj;rw[List.length_map]
theorem ahp {p:List LS} {q:LS} {x y:Int} {k:Nat} (hk:k<(qj p q x y).length):(qj p q x y)[k]=(mR (p[k]?.getD []) q x y).length:=by
 have hp:k<p.length:=by rw[←akA p q x y];exact hk
 have h0:(qj p q x y)[k]?=some (mR (p[k]?.getD []) q x y).length:=by unfold qj;rw[List.getElem?_map,List.getElem?_eq_getElem hp];rfl
 rw[List.getElem?_eq_getElem hk]at h0;exact Option.some.inj h0
theorem aic (p:List LS) (q:LS) (x y:Int):∀k,k≤p.length→bcK p q x y k=zN ((qj p q x y).take k)
 |0,_=>rfl
 |k+1,h=>by
  have hk:k<(qj p q x y).length:=by unfold qj;rw[List.length_map];omega
  rw[bcK,aic p q x y k (by omega),List.take_succ_eq_append_getElem hk];unfold zN;rw[List.map_append,ahp hk];rfl
theorem amb (p:List LS) (q:LS) (x y:Int):bcK p q x y p.length=zN (qj p q x y):=by rw[aic p q x y p.length (Nat.le_refl _),List.take_of_length_le (by unfold qj;rw[List.length_map];exact Nat.le_refl _)]
theorem ahA (p:List LS) (q:LS) (x y:Int):∀k,k≤p.length→(blK p q x y k).length=((qj p q x y).take k).sum
 |0,_=>rfl
 |k+1,h=>by
  have hk:k<(qj p q x y).length:=by unfold qj;rw[List.length_map];omega
  rw[blK,List.length_append,ahA p q x y k (by omega),acP hk];rw[List.getElem?_eq_getElem hk,Option.getD_some,ahp hk]
theorem aks (p:List LS) (q:LS) (x y:Int):(blK p q x y p.length).length=(qj p q x y).sum:=by rw[ahA p q x y p.length (Nat.le_refl _),List.take_of_length_le (by unfold qj;rw[List.length_map];exact Nat.le_refl _)]
def jC (p:List LS) (q:LS) (x y:Int):List Bool:=dX (qj p q x y)
def bpB (p:List LS) (q:LS) (x y z:Int):Bool:=blB p q x y z&&(decide ((blL p q x y z).length≤30)&&ze (jC p q x y) z.toNat)
def bpV (p:List LS) (q:LS) (x y z:Int):List LS:=if bpB p q x y z=true then jV (blL p q x y z) 0 (jD (jC p q x y) z.toNat)else []
theorem aei {p:List LS} {q:LS} {x y z:Int} (h:blB p q x y z=true) (h30:(blL p q x y z).length≤30):anr (qj p q x y)∧blC p q x y z=zN (qj p q x y)∧(jC p q x y).length=(blL p q x y z).length∧1≤z∧z≤30:=by
 have hL:blL p q x y z=blK p q x y p.length:=if_pos h;have hC:blC p q x y z=bcK p q x y p.length:=if_pos h;have hs:=aks p q x y;refine⟨⟨fun m hm=>?_,by rw[←hs,←hL];exact h30⟩,by rw[hC];exact amb p q x y,by unfold jC;rw[oC,hL,hs],?_⟩
 ·unfold qj at hm
  obtain⟨w,hw,rfl⟩:=List.mem_map.1 hm;refine abl ?_;unfold blB at h;rw[Bool.and_eq_true]at h;exact List.all_eq_true.1 h.2 w hw
 ·unfold blB fA at h
  simp only[Bool.and_eq_true]at h;exact av.1 h.1.2.2.2.2.2
def φBp:Fun:=F1 kD fun b=>if wF b.1 b.2.1 then some (.tup [.lst true 1 ((bpV b.1 b.2.1 b.2.2.1 b.2.2.2.1 b.2.2.2.2).map dY),bv (bpB b.1 b.2.1 b.2.2.1 b.2.2.2.1 b.2.2.2.2)])else none
theorem aa1 {p:List LS} {q:LS} {x y z:Int} (h:wF p q):φBp [.agg [.lst false 1 (p.map fun p=> .lst false 1 (p.map fun s=> .val (.string s))),.lst false 1 (q.map fun s=> .val (.string s)),.val (.int .i64 x),.val (.int .i64 y),.val (.int .i64 z)]]=some (.tup [.lst true 1 ((bpV p q x y z).map dY),.val (.bool (bpB p q x y z))]):=
 (gu (A:=kD) (p,q,x,y,z)).trans (if_pos h)
def ng (e:List Nat) (k:Nat):Nat:=((e.take k).getLast?).getD 0
theorem rM {e:List Nat} {k:Nat} (h:k<e.length):ng e (k+1)=e[k]?.getD 0:=by unfold ng;rw[List.take_succ_eq_append_getElem h,List.getLast?_append,List.getElem?_eq_getElem h];simp
theorem adE {α:Type} {l:List α} {e:List Nat} {k:Nat} (h:k<e.length):jV l 0 (e.take (k+1))=jV l 0 (e.take k)++[(l.drop (ng e k)).take (e[k]?.getD 0-ng e k)]:=by rw[List.take_succ_eq_append_getElem h,aea,List.getElem?_eq_getElem h,Option.getD_some];rfl
theorem asM:∀{ks:List Bool} {h p:Nat} {r:List Nat},ChP ks h p r→∀k,k<r.length→(if k=0 then p else r[k-1]?.getD 0)<r[k]?.getD 0∧r[k]?.getD 0≤ks.length
 |ks,h,p,[],_,k,hk=>by simp at hk
 |ks,h,p,q::r,hc,0,_=>⟨hc.1.1,hc.1.2.1⟩
 |ks,h,p,q::r,hc,k+1,hk=>by
  have:=asM hc.2 k (by simpa using hk);rw[if_neg (by omega)];cases k with
  |zero=>simpa using this
  |succ k=>simpa using this
theorem aa9 {ks:List Bool} {h:Nat} {e:List Nat} (hc:ChP ks h 0 e) {k:Nat} (hk:k<e.length):ng e k<e[k]?.getD 0∧e[k]?.getD 0≤ks.length:=by
 have:=asM hc k hk;cases k with
 |zero=>exact this
 |succ k=>rw[rM (by omega)];simpa using this
theorem acI {p:List LS} {q:LS} {x y z:Int} (h:bpB p q x y z=false):bpV p q x y z=[]:=if_neg (by rw[h];decide)
theorem ahP {p:List LS} {q:LS} {x y z:Int} (h:(blL p q x y z).length=0):bpV p q x y z=[]:=by
 unfold bpV;split
 ·rename_i hb
  unfold bpB at hb;rw[Bool.and_eq_true,Bool.and_eq_true]at hb;have hc:=aei hb.1 (of_decide_eq_true hb.2.1);have hl:=rU (vX hb.2.2);have he:(jD (jC p q x y) z.toNat).length=0:=by have:=hc.2.2.1;omega
  rw[List.eq_nil_of_length_eq_zero he];rfl
 ·rfl
theorem alv {q:LS} {x y z:Int} (h:blB [] q x y z=true):bpB [] q x y z=true∧ze [] z.toNat=true∧jD [] z.toNat=[]:=by
 have h1:ze [] z.toNat=true:=rfl;have hL:(blL [] q x y z).length=0:=by unfold blL;rw[if_pos h];rfl
 refine⟨?_,h1,?_⟩
 ·unfold bpB
  rw[h,hL,show jC [] q x y=[]from rfl,h1];rfl
 ·unfold jD
  rw[if_pos h1];rfl
def adT:Fun:=ayd 1 wN
theorem agV {c:List Nat} (h:anr c):adT [.lst false 1 ((zN c).map fun n=> .val (.int .i64 n)),.val (.int .i64 1)]=some (.lst true 4 ((dX c).map fu)):=qL h
theorem afJ:adT [.val (.slice none 0 0),.val (.int .i64 1)]=some (.lst true 4 []):=qL (c:=[]) ⟨by simp,by decide⟩
abbrev bkP (p:List LS) (q:LS) (x y z:Int):PV:=.agg [.lst false 1 (p.map fun p=> .lst false 1 (p.map fun s=> .val (.string s))),.lst false 1 (q.map fun s=> .val (.string s)),.val (.int .i64 x),.val (.int .i64 y),.val (.int .i64 z)]
def awY:Ctx:={fn:=aY [(25,af9),(27,adT),(26,vw)],io:=aY []}
theorem bP:ak Tryz.prog awY:=okΓ (fC Tryz.func25 ais (fC Tryz.func27 (afP.nil 1) (fC Tryz.func26 afG aj))) aj
def uQ:=ah (Γ:=awY) (f:=25) (φ:=af9) rfl
def rY:=ah (Γ:=awY) (f:=27) (φ:=adT) rfl
def uU:=ah (Γ:=awY) (f:=26) (φ:=vw) rfl
theorem uo:Sound Tryz.prog 7 φBp:=by
 refine HZ.sound (N:=52) (rs:=[.tmp 2,.tmp 3]) Tryz.func7 rfl rfl rfl fun ps r hr=>?_;obtain⟨⟨p,q,x,y,z⟩,rfl,hq⟩:=bQ hr;clear hr;split at hq
 case isFalse=>cases hq
 case isTrue hpre=>
 cases hq;refine⟨by simp,fun B w00=>HZ.start ?_⟩;simp only[dIs,dUs,dSs,dz,dF,dx,dG,aR,dD,aU,aV,aS,aT];(try dsimp only at hpre⊢);show HZ _ _ _ _ _ _ ⟨(bY [bkP p q x y z]).tm,fun _=>none,0⟩ _;by_cases h0:(blL p q x y z).length=0
 ·have ap1:=ajS hpre h0
  obtain⟨hc0,hp0⟩:=akr h0;rw[ahP h0,List.map_nil];clear hpre h0 hc0;cases hB:blB p q x y z with
  |false=>
   rw[hB]at ap1;have hb:bpB p q x y z=false:=by unfold bpB;rw[hB];rfl
   rw[hb];clear hp0 hB hb;have gbgi_c25:=uQ;have gbgi_c27:=rY;have gbgi_c26:=uU;refine HZ.eng mixed bP (by kernel_rfl) ?_;(try dsimp only);(refine wlk ?_;intros);(try dsimp only);refine⟨.inr rfl,⟨_,fun g w v h=>?_,by(simp(disch:=(first|omega|(simp only[push_cast];first|done|omega))) only[push_cast,↓reduceIte,Nat.reduceEqDiff,Nat.reduceBEq,Nat.reduceAdd,Nat.reduceSub,Int.reduceToNat, *]<;>with_reducible exact rfl)⟩,fun i e=>False.elim e⟩;exact iE g w v h
  |true=>
   obtain rfl:=hp0 hB;obtain⟨e1,e2,e3⟩:=alv hB;rw[hB]at ap1;have hz:1≤z∧z≤30:=by unfold blB fA at hB;simp only[Bool.and_eq_true]at hB;exact av.1 hB.1.2.2.2.2.2
   have hzz:((z.toNat:Nat):Int)=z:=by omega
   have ap2:=afJ;have ap3:=qN (ks:=[]) (h:=z.toNat) (by decide) (by omega) (by omega);rw[e2,e3,hzz,List.map_nil,List.map_nil,List.map_nil]at ap3;rw[e1];simp only[List.map_nil]at ap1;clear hp0 hB e1 e2 e3 hzz;have gbgi_c25:=uQ;have gbgi_c27:=rY;have gbgi_c26:=uU;refine HZ.eng mixed bP (by kernel_rfl) ?_;(try dsimp only);(refine wlk ?_;intros);(try dsimp only);refine aG (α:=Unit) mixed (fun _=>[(8,.val (.slice none 0 0)),(36,iv 0),(37,iv 0)]) (fun _=>[]) (fun _=>1) (fun _=>True) (fun _=>0) (by kernel_rfl) () trivial ?_ trivial rfl ?_
   ·exact agr
   rintro _ _;(refine wlk ?_;intros);(try dsimp only);refine⟨.inr rfl,⟨_,fun g w v h=>?_,by(simp(disch:=(first|omega|(simp only[push_cast];first|done|omega))) only[push_cast,↓reduceIte,Nat.reduceEqDiff,Nat.reduceBEq,Nat.reduceAdd,Nat.reduceSub,Int.reduceToNat, *]<;>with_reducible exact rfl)⟩,fun i e=>False.elim e⟩;exact iE g w v h
 ·have hB:blB p q x y z=true:=by
   cases hB:blB p q x y z with
   |true=>rfl
   |false=>unfold blL at h0;rw[if_neg (by rw[hB];decide)]at h0;simp at h0
  have ap1:=ajq (x:=x) (y:=y) (z:=z) hpre (by omega);rw[hB]at ap1;have hl60:=agD (p:=p) (q:=q) (x:=x) (y:=y) (z:=z) (by unfold blB fA at hB;simp only[Bool.and_eq_true,decide_eq_true_eq]at hB;exact hB.1.2.1)
  by_cases h30:(blL p q x y z).length≤30
  ·obtain⟨k1,k2,k3,k4,k5⟩:=aei hB h30
   have hzz:((z.toNat:Nat):Int)=z:=by omega
   have ap2:=agV k1;have ap3:=qN (ks:=jC p q x y) (h:=z.toNat) (by omega) (by omega) (by omega);rw[hzz]at ap3;rw[k2]at ap1;have hV:bpV p q x y z=if bpB p q x y z=true then jV (blL p q x y z) 0 (jD (jC p q x y) z.toNat)else []:=rfl;have hb:bpB p q x y z=ze (jC p q x y) z.toNat:=by unfold bpB;rw[hB,decide_eq_true h30];rfl
   rw[hb]at hV;rw[hV,hb];have hch:=fun h=>vX (ks:=jC p q x y) (h:=z.toNat) h;rw[show dX (qj p q x y)=jC p q x y from rfl]at ap2;clear hpre hB h0 hV hb k1 k2 hzz;generalize blL p q x y z=BL at*;generalize zN (qj p q x y)=CN at*;generalize jC p q x y=KS at*;cases hG:ze KS z.toNat with
   |false=>rw[hG]at ap3;rw[if_neg (by decide),List.map_nil];clear hch hG;have gbgi_c25:=uQ;have gbgi_c27:=rY;have gbgi_c26:=uU;refine HZ.eng mixed bP (by kernel_rfl) ?_;(try dsimp only);(refine wlk ?_;intros);(try dsimp only);refine⟨.inr rfl,⟨_,fun g w v h=>?_,by(simp(disch:=(first|omega|(simp only[push_cast];first|done|omega))) only[push_cast,↓reduceIte,Nat.reduceEqDiff,Nat.reduceBEq,Nat.reduceAdd,Nat.reduceSub,Int.reduceToNat, *]<;>with_reducible exact rfl)⟩,fun i e=>False.elim e⟩;exact iE g w v h
   |true=>
    rw[hG]at ap3;have hc:=hch hG;rw[if_pos rfl];have hct:=fun k h=>adE (l:=BL) (e:=jD KS z.toNat) (k:=k) h;have hfl:=fun k h=>aa9 hc (k:=k) h;have hfs:=fun k h=>rM (e:=jD KS z.toNat) (k:=k) h;have hel:=rU hc;have hfull:(jD KS z.toNat).take (jD KS z.toNat).length=jD KS z.toNat:=List.take_length;have hze:=fun k h=>ako (c:=jD KS z.toNat) (k:=k) h;have hzl:(zN (jD KS z.toNat)).length=(jD KS z.toNat).length:=by simp
    rw[show(jD KS z.toNat).map (fun n:Nat=>(n:Int))=zN (jD KS z.toNat)from rfl]at ap3;clear hch hG hc;generalize jD KS z.toNat=E at*;generalize zN E=ZE at*;have gbgi_c25:=uQ;have gbgi_c27:=rY;have gbgi_c26:=uU;refine HZ.seq (HZ.eng mixed bP (by kernel_rfl) ?_);(try dsimp only);(refine wlk ?_;intros);(try dsimp only[X.out]);(try simp only[↓reduceIte]);refine HZ.seq (HZ.eng mixed bP (by kernel_rfl) ?_);(try dsimp only);(refine wlk ?_;intros);(try dsimp only[X.out]);(try simp only[↓reduceIte]);refine HZ.seq (HZ.eng mixed bP (by kernel_rfl) ?_);(try dsimp only);(refine wlk ?_;intros);(try dsimp only[X.out]);(try simp only[↓reduceIte]);refine HZ.seq (HZ.eng mixed bP (by kernel_rfl) ?_);(try dsimp only);(refine wlk ?_;intros);(try dsimp only[X.out]);(try simp only[↓reduceIte]);refine HZ.seq (HZ.eng mixed bP (by kernel_rfl) ?_);(try dsimp only);(refine wlk ?_;intros);(try dsimp only[X.out]);(try simp only[↓reduceIte]);refine HZ.seq (HZ.eng mixed bP (by kernel_rfl) ?_);(try dsimp only);(refine wlk ?_;intros);(try dsimp only[X.out]);(try simp only[↓reduceIte]);refine HZ.seq (HZ.eng mixed bP (by kernel_rfl) ?_);(try dsimp only);(refine wlk ?_;intros);(try dsimp only[X.out]);(try simp only[↓reduceIte]);refine HZ.seq (HZ.seq (HZ.eng mixed bP (by kernel_rfl) ?_));(try dsimp only);(refine wlk ?_;intros);(try dsimp only[X.out]);(try simp only[↓reduceIte]);refine HZ.block (HZ.aap (α:=Nat×Nat×Nat) (fun i=>[(4,.lst true 1 (BL.map fun s=> .val (.string s))),(8,nP 1 ((jV BL 0 (E.take i.1)).map dY) i.2.1),(9,iv (ng E i.1)),(35,.lst true 1 (ZE.map fun n=> .val (.int .i64 n))),(36,iv E.length),(37,iv i.1)]) (fun i=>nO 24 1 ((jV BL 0 (E.take i.1)).map dY) i.2.1) (fun i=>i.2.2)
     (fun i σ=>(i.1≤E.length∧(0<i.1→i.2.1<i.2.2))∧σ=Fgn.no) (fun i=>E.length-i.1) (0,0,1) ⟨⟨Nat.zero_le _,fun h=>absurd h (Nat.lt_irrefl 0)⟩,rfl⟩ ?_ ?_ rfl ?_)
    ·have z0:(jV BL 0 (E.take 0)).map dY=[]:=rfl
     have z1:ng E 0=0:=rfl;(try dsimp only);rw[z0,eO,z1];exact agr
    ·have z0:(jV BL 0 (E.take 0)).map dY=[]:=rfl
     (try dsimp only);rw[z0,dO];exact agr
    rintro⟨k,o,y⟩ σ ⟨⟨hk,hoy⟩,rfl⟩;dsimp only at hk hoy;clear ap1 ap2 ap3;by_cases hkl:k<E.length
    ·have h1:=hct k hkl
     have h2:=hfl k hkl;have h3:=hfs k hkl;have h4:=hze k hkl;have hcl:((jV BL 0 (E.take k)).map dY).length=k:=by rw[List.length_map,nI,List.length_take];omega
     clear hct hfl hfs hze hfull;have hkz:k<ZE.length:=by omega
     have h5:E[k]?.getD 0≤BL.length:=by omega
     have h1:(jV BL 0 (E.take (k+1))).map dY=(jV BL 0 (E.take k)).map dY++[dY ((BL.drop (ng E k)).take (E[k]?.getD 0-ng E k))]:=by rw[h1,List.map_append];rfl
     replace h1:=Lib.hid h1;replace h3:=Lib.hid h3;generalize E[k]?.getD 0=e at*;generalize ng E k=f at*;generalize(jV BL 0 (E.take k)).map dY=R at*;by_cases h0:k=0
     ·obtain rfl:R=[]:=List.eq_nil_of_length_eq_zero (by omega)
      subst h0;(try dsimp only[eO,dO]);refine HZ.seq (HZ.eng mixed bP (by kernel_rfl) ?_);(try dsimp only);(refine wlk ?_;intros);(try dsimp only[X.out]);(try simp only[↓reduceIte]);refine HZ.seq (HZ.eng mixed bP (by kernel_rfl) ?_);(try dsimp only);(refine wlk ?_;intros);(try dsimp only[X.out]);(try simp only[↓reduceIte]);refine HZ.seq (HZ.block (HZ.seq (HZ.eng mixed bP (by kernel_rfl) ?_)));(try dsimp only);(refine wlk ?_;intros);(try dsimp only[X.out]);(try simp only[↓reduceIte]);refine HZ.seq (HZ.eng mixed bP (by kernel_rfl) ?_);(try dsimp only);(refine wlk ?_;intros);(try dsimp only[X.out]);(try simp only[↓reduceIte]);refine HZ.lQ (o:=y) (x:=y+1+1) (T:=9) (sz:=1) (T2:=24) (sz2:=1) (n:=e-f) (es:=((BL.drop f).take (e-f)).map fun s=> .val (.string s)) (l:=[]) (by(simp(disch:=(first|omega|(simp only[push_cast];first|done|omega))) only[push_cast,↓reduceIte,Nat.reduceEqDiff,Nat.reduceBEq,Nat.reduceAdd,Nat.reduceSub,Int.reduceToNat, *]<;>with_reducible exact rfl)) (by(simp(disch:=(first|omega|(simp only[push_cast];first|done|omega))) only[push_cast,↓reduceIte,Nat.reduceEqDiff,Nat.reduceBEq,Nat.reduceAdd,Nat.reduceSub,Int.reduceToNat, *]<;>with_reducible exact rfl)) (by rw[List.length_map,List.length_take,List.length_drop];omega) (by omega) ?_;refine HZ.eng mixed bP (by kernel_rfl) ?_;(try dsimp only);(refine wlk ?_;intros);(try dsimp only[X.out]);(try simp only[↓reduceIte]);refine HZ.eng mixed bP (by kernel_rfl) ?_;(try dsimp only);(refine wlk ?_;intros);(try dsimp only[X.out]);(try simp only[↓reduceIte]);refine⟨(0+1,y+1+1,y+1+1+1),⟨⟨by dsimp only;omega,fun _=>by dsimp only;omega⟩,by trivial⟩,by dsimp only;omega,?_,?_,rfl⟩
      ·(try dsimp only)
       rw[h1.out,h3.out,aA (by simp),List.length_append];exact agi
      ·(try dsimp only)
       rw[h1.out,aB (by simp)];exact agr
     ·rw[aA (by omega),aB (by omega)]
      refine HZ.seq (HZ.eng mixed bP (by kernel_rfl) ?_);(try dsimp only);(refine wlk ?_;intros);(try dsimp only[X.out]);(try simp only[↓reduceIte]);refine HZ.seq (HZ.eng mixed bP (by kernel_rfl) ?_);(try dsimp only);(refine wlk ?_;intros);(try dsimp only[X.out]);(try simp only[↓reduceIte]);refine HZ.seq (HZ.block (HZ.seq (HZ.eng mixed bP (by kernel_rfl) ?_)));(try dsimp only);(refine wlk ?_;intros);(try dsimp only[X.out]);(try simp only[↓reduceIte]);refine HZ.seq (HZ.eng mixed bP (by kernel_rfl) ?_);(try dsimp only);(refine wlk ?_;intros);(try dsimp only[X.out]);(try simp only[↓reduceIte]);refine HZ.lQ (o:=y) (x:=y+1+1) (T:=9) (sz:=1) (T2:=24) (sz2:=1) (n:=e-f) (es:=((BL.drop f).take (e-f)).map fun s=> .val (.string s)) (l:=R) (by(simp(disch:=(first|omega|(simp only[push_cast];first|done|omega))) only[push_cast,↓reduceIte,Nat.reduceEqDiff,Nat.reduceBEq,Nat.reduceAdd,Nat.reduceSub,Int.reduceToNat, *]<;>with_reducible exact rfl)) (by(simp(disch:=(first|omega|(simp only[push_cast];first|done|omega))) only[push_cast,↓reduceIte,Nat.reduceEqDiff,Nat.reduceBEq,Nat.reduceAdd,Nat.reduceSub,Int.reduceToNat, *]<;>with_reducible exact rfl)) (by rw[List.length_map,List.length_take,List.length_drop];omega) (by omega) ?_;refine HZ.eng mixed bP (by kernel_rfl) ?_;(try dsimp only);(refine wlk ?_;intros);(try dsimp only[X.out]);(try simp only[↓reduceIte]);refine HZ.eng mixed bP (by kernel_rfl) ?_;(try dsimp only);(refine wlk ?_;intros);(try dsimp only[X.out]);(try simp only[↓reduceIte]);refine⟨(k+1,y+1+1,y+1+1+1),⟨⟨by dsimp only;omega,fun _=>by dsimp only;omega⟩,by trivial⟩,by dsimp only;omega,?_,?_,rfl⟩
      ·(try dsimp only)
       rw[h1.out,h3.out,aA (by simp),List.length_append];exact agi
      ·(try dsimp only)
       rw[h1.out,aB (by simp)];exact agr
    ·obtain rfl:k=E.length:=by omega
     rw[hfull];clear hct hfl hfs hze hfull;by_cases h0:E.length=0
     ·obtain rfl:E=[]:=List.eq_nil_of_length_eq_zero h0
      have z0:(jV BL 0 []).map dY=[]:=rfl;rw[z0,eO,dO];refine HZ.seq (HZ.eng mixed bP (by kernel_rfl) ?_);(try dsimp only);(refine wlk ?_;intros);(try dsimp only[X.out]);(try simp only[↓reduceIte]);refine HZ.seq (HZ.eng mixed bP (by kernel_rfl) ?_);(try dsimp only);(refine wlk ?_;intros);(try dsimp only[X.out]);(try simp only[↓reduceIte]);refine HZ.eng mixed bP (by kernel_rfl) ?_;(try dsimp only);(refine wlk ?_;intros);(try dsimp only[X.out]);(try simp only[↓reduceIte]);refine⟨by simp,⟨_,fun g w v h=>?_,by(simp(disch:=(first|omega|(simp only[push_cast];first|done|omega))) only[push_cast,↓reduceIte,Nat.reduceEqDiff,Nat.reduceBEq,Nat.reduceAdd,Nat.reduceSub,Int.reduceToNat, *]<;>with_reducible exact rfl)⟩,fun i e=>False.elim e⟩;exact iE g w v h
     ·have hcl:(jV BL 0 E).length=E.length:=nI
      generalize jV BL 0 E=L at*;rw[aA (by rw[List.length_map];omega),aB (by rw[List.length_map];omega)];refine HZ.seq (HZ.eng mixed bP (by kernel_rfl) ?_);(try dsimp only);(refine wlk ?_;intros);(try dsimp only[X.out]);(try simp only[↓reduceIte]);refine HZ.seq (HZ.eng mixed bP (by kernel_rfl) ?_);(try dsimp only);(refine wlk ?_;intros);(try dsimp only[X.out]);(try simp only[↓reduceIte]);refine HZ.eng mixed bP (by kernel_rfl) ?_;(try dsimp only);(refine wlk ?_;intros);(try dsimp only[X.out]);(try simp only[↓reduceIte]);refine⟨by simp,⟨_,fun g w v h=>h,by(simp(disch:=(first|omega|(simp only[push_cast];first|done|omega))) only[push_cast,↓reduceIte,Nat.reduceEqDiff,Nat.reduceBEq,Nat.reduceAdd,Nat.reduceSub,Int.reduceToNat, *]<;>with_reducible exact rfl)⟩,fun i e=>False.elim e⟩
  ·have hb:bpB p q x y z=false:=by unfold bpB;rw[decide_eq_false h30,Bool.false_and,Bool.and_false]
   rw[acI hb,hb,List.map_nil];clear hpre hB h0 hb;generalize blL p q x y z=BL at*;generalize blC p q x y z=BC at*;have gbgi_c25:=uQ;have gbgi_c27:=rY;have gbgi_c26:=uU;refine HZ.eng mixed bP (by kernel_rfl) ?_;(try dsimp only);(refine wlk ?_;intros);(try dsimp only);refine⟨.inr rfl,⟨_,fun g w v h=>?_,by(simp(disch:=(first|omega|(simp only[push_cast];first|done|omega))) only[push_cast,↓reduceIte,Nat.reduceEqDiff,Nat.reduceBEq,Nat.reduceAdd,Nat.reduceSub,Int.reduceToNat, *]<;>with_reducible exact rfl)⟩,fun i e=>False.elim e⟩;exact iE g w v h
abbrev bkT (p:List LS) (q:LS) (x y z:Int):PV:=.agg [.lst true 1 (p.map dY),.lst true 1 (q.map fun s=> .val (.string s)),.val (.int .i64 x),.val (.int .i64 y),.val (.int .i64 z)]
def aw1 (p:List LS) (q:LS):Prop:=wF p q∧∀k,k<p.length→0<(p[k]?.getD []).length
open Classical in
noncomputable def φCl:Fun:=F1 kD fun b=>if aw1 b.1 b.2.1 then some (bkT b.1 b.2.1 b.2.2.1 b.2.2.2.1 b.2.2.2.2)else none
open Classical in
theorem ahL {p:List LS} {q:LS} {x y z:Int} (h:aw1 p q):φCl [bkP p q x y z]=some (bkT p q x y z):=(gu (A:=kD) (p,q,x,y,z)).trans (if_pos h)
theorem aiy {e sz by_ nx:Nat} {ob:bD} {c:Option (Nat×Nat×List PV)} {es2:List PV} (h:es2.length=0):acM e sz by_ nx ob (.val (.slice none 0 0)) c (some es2)=some (.val (.slice none 0 0),ob,nx):=by obtain rfl:es2=[]:=List.eq_nil_of_length_eq_zero h;simp[acM,isNil]
open Classical in
set_option maxHeartbeats 16000000 in
theorem adX:Sound Tryz.prog 38 φCl:=by
 refine HZ.sound (N:=26) (rs:=[.cell 2 26]) Tryz.func38 rfl rfl rfl fun ps r hr=>?_;obtain⟨⟨p,q,x,y,z⟩,rfl,hpre,rfl⟩:=jQ hr;clear hr;refine⟨by simp,fun B w00=>HZ.start ?_⟩;simp only[dIs,dUs,dSs,dz,dF,dx,dG,aR,dD,aU,aV,aS,aT];(try dsimp only at hpre⊢);show HZ _ _ _ _ _ _ ⟨(bY [bkP p q x y z]).tm,fun _=>none,0⟩ _;obtain⟨⟨hlen,hin,hq,_⟩,hne⟩:=hpre;have hat:∀k:Nat,(p[k]?.getD []).length≤1048576:=fun k=>(hin k).1;clear hin;have hap0:=fun(e sz by_ nx:Nat) (ob:bD) (c:Option (Nat×Nat×List PV)) (h:(q.map fun s=>PV.val (.string s)).length=0)=>aiy (e:=e) (sz:=sz) (by_:=by_) (nx:=nx) (ob:=ob) (c:=c) h;have hcn:bS (.val (.slice none 0 0))=some [.val (.slice none 0 0)]:=rfl;replace hne:=Lib.hid hne;replace hat:=Lib.hid hat;(refine HZ.seq (HZ.eng mixed bJ (by kernel_rfl) ?_);(try dsimp only);((refine wlk ?_;intros));(try dsimp only[X.out]);(try simp only[↓reduceIte]));(refine HZ.seq (HZ.eng mixed bJ (by kernel_rfl) ?_);(try dsimp only);((refine wlk ?_;intros));(try dsimp only[X.out]);(try simp only[↓reduceIte]));(refine HZ.seq (HZ.seq (HZ.eng mixed bJ (by kernel_rfl) ?_));(try dsimp only);((refine wlk ?_;intros));(try dsimp only[X.out]);(try simp only[↓reduceIte]));refine HZ.block (HZ.aap (α:=Nat×Nat×Nat) (fun i=>[(1,.own 0 5 0 0),(2,.own 1 5 0 0),(3,nP 1 ((p.take i.1).map dY) i.2.1),(7,lsP p),(8,iv p.length),(9,iv i.1)]) (fun i=>(0,26,5,[bkP p q x y z])::(1,26,5,[.agg [.val (.slice none 0 0),.val (.slice none 0 0),.val (.int .i64 0),.val (.int .i64 0),.val (.int .i64 0)]])::nO 24 1 ((p.take i.1).map dY) i.2.1) (fun i=>i.2.2)
  (fun i σ=>(i.1≤p.length∧1<i.2.2∧(0<i.1→1<i.2.1∧i.2.1<i.2.2))∧σ=Fgn.no) (fun i=>p.length-i.1) (0,0,2) ⟨⟨Nat.zero_le _,by decide,fun h=>absurd h (Nat.lt_irrefl 0)⟩,rfl⟩ ?_ ?_ rfl ?_)
 ·(try dsimp only)
  rw[List.take_zero,List.map_nil,eO];exact agr;try rfl
 ·(try dsimp only)
  rw[List.take_zero,List.map_nil,dO];exact agr;try rfl
 rintro⟨k,o,y'⟩ σ ⟨⟨hk,hy1,hoy⟩,rfl⟩;dsimp only at hk hoy hy1;by_cases hkl:k<p.length
 ·have h4:=hne.out k hkl
  have h5:=hat.out k;have h1:(p.take (k+1)).map dY=(p.take k).map dY++[dY (p[k]?.getD [])]:=by rw[List.take_succ_eq_append_getElem hkl,List.map_append,List.getElem?_eq_getElem hkl,Option.getD_some];rfl
  have hcl:((p.take k).map dY).length=k:=by rw[List.length_map,List.length_take];omega
  replace h1:=Lib.hid h1;generalize(p.take k).map dY=R at*;by_cases h0:k=0
  ·obtain rfl:R=[]:=List.eq_nil_of_length_eq_zero (by omega)
   subst h0;(try dsimp only[eO,dO]);(refine HZ.seq (HZ.eng mixed bJ (by kernel_rfl) ?_);(try dsimp only);((refine wlk ?_;intros));(try dsimp only[X.out]);(try simp only[↓reduceIte]));(refine HZ.seq (HZ.eng mixed bJ (by kernel_rfl) ?_);(try dsimp only);((refine wlk ?_;intros));(try dsimp only[X.out]);(try simp only[↓reduceIte]));(refine HZ.seq (HZ.block (HZ.seq (HZ.eng mixed bJ (by kernel_rfl) ?_)));(try dsimp only);((refine wlk ?_;intros));(try dsimp only[X.out]);(try simp only[↓reduceIte]));(refine HZ.eng mixed bJ (by kernel_rfl) ?_;(try dsimp only);((refine wlk ?_;intros));(try dsimp only[X.out]);(try simp only[↓reduceIte]));refine HZ.lQ (o:=y') (x:=y'+1+1) (T:=9) (sz:=1) (T2:=24) (sz2:=1) (n:=(p[0]?.getD []).length) (es:=(p[0]?.getD []).map fun s=> .val (.string s)) (l:=[]) (by(simp(disch:=(first|omega|(simp only[push_cast];first|done|omega))) only[push_cast,↓reduceIte,Nat.reduceEqDiff,Nat.reduceBEq,Nat.reduceAdd,Nat.reduceSub,Int.reduceToNat, *]<;>with_reducible exact rfl)) (by(simp(disch:=(first|omega|(simp only[push_cast];first|done|omega))) only[push_cast,↓reduceIte,Nat.reduceEqDiff,Nat.reduceBEq,Nat.reduceAdd,Nat.reduceSub,Int.reduceToNat, *]<;>with_reducible exact rfl)) (by rw[List.length_map]) (by omega) ?_;(refine HZ.eng mixed bJ (by kernel_rfl) ?_;(try dsimp only);((refine wlk ?_;intros));(try dsimp only[X.out]);(try simp only[↓reduceIte]));refine⟨(0+1,y'+1+1,y'+1+1+1),⟨⟨by dsimp only;omega,by dsimp only;omega,fun _=>⟨by dsimp only;omega,by dsimp only;omega⟩⟩,by trivial⟩,by dsimp only;omega,?_,?_,rfl⟩
   ·(try dsimp only)
    rw[h1.out,aA (by simp),List.length_append];exact agi
   ·(try dsimp only)
    rw[h1.out,aB (by simp)];exact agr
  ·obtain⟨ho1,ho2⟩:=hoy (by omega)
   rw[aA (by omega),aB (by omega)];(refine HZ.seq (HZ.eng mixed bJ (by kernel_rfl) ?_);(try dsimp only);((refine wlk ?_;intros));(try dsimp only[X.out]);(try simp only[↓reduceIte]));(refine HZ.seq (HZ.eng mixed bJ (by kernel_rfl) ?_);(try dsimp only);((refine wlk ?_;intros));(try dsimp only[X.out]);(try simp only[↓reduceIte]));(refine HZ.seq (HZ.block (HZ.seq (HZ.eng mixed bJ (by kernel_rfl) ?_)));(try dsimp only);((refine wlk ?_;intros));(try dsimp only[X.out]);(try simp only[↓reduceIte]));(refine HZ.eng mixed bJ (by kernel_rfl) ?_;(try dsimp only);((refine wlk ?_;intros));(try dsimp only[X.out]);(try simp only[↓reduceIte]));refine HZ.lQ (o:=y') (x:=y'+1+1) (T:=9) (sz:=1) (T2:=24) (sz2:=1) (n:=(p[k]?.getD []).length) (es:=(p[k]?.getD []).map fun s=> .val (.string s)) (l:=R) (by(simp(disch:=(first|omega|(simp only[push_cast];first|done|omega))) only[push_cast,↓reduceIte,Nat.reduceEqDiff,Nat.reduceBEq,Nat.reduceAdd,Nat.reduceSub,Int.reduceToNat, *]<;>with_reducible exact rfl)) (by(simp(disch:=(first|omega|(simp only[push_cast];first|done|omega))) only[push_cast,↓reduceIte,Nat.reduceEqDiff,Nat.reduceBEq,Nat.reduceAdd,Nat.reduceSub,Int.reduceToNat, *]<;>with_reducible exact rfl)) (by rw[List.length_map]) (by omega) ?_;(refine HZ.eng mixed bJ (by kernel_rfl) ?_;(try dsimp only);((refine wlk ?_;intros));(try dsimp only[X.out]);(try simp only[↓reduceIte]));refine⟨(k+1,y'+1+1,y'+1+1+1),⟨⟨by dsimp only;omega,by dsimp only;omega,fun _=>⟨by dsimp only;omega,by dsimp only;omega⟩⟩,by trivial⟩,by dsimp only;omega,?_,?_,rfl⟩
   ·(try dsimp only)
    rw[h1.out,aA (by simp),List.length_append];exact agi
   ·(try dsimp only)
    rw[h1.out,aB (by simp)];exact agr
 ·obtain rfl:k=p.length:=by omega
  rw[List.take_length];by_cases hp0:p.length=0
  ·obtain rfl:p=[]:=List.eq_nil_of_length_eq_zero hp0
   rw[List.map_nil,eO,dO];by_cases hq0:q.length=0
   ·have hap0:=fun e sz by_ nx ob c=>hap0 e sz by_ nx ob c (by rw[List.length_map];exact hq0)
    (refine HZ.seq (HZ.eng mixed bJ (by kernel_rfl) ?_);(try dsimp only);((refine wlk ?_;intros));(try dsimp only[X.out]);(try simp only[↓reduceIte]));(refine HZ.seq (HZ.eng mixed bJ (by kernel_rfl) ?_);(try dsimp only);((refine wlk ?_;intros));(try dsimp only[X.out]);(try simp only[↓reduceIte]));(refine HZ.seq (HZ.eng mixed bJ (by kernel_rfl) ?_);(try dsimp only);((refine wlk ?_;intros));(try dsimp only[X.out]);(try simp only[↓reduceIte]));(refine HZ.seq (HZ.eng mixed bJ (by kernel_rfl) ?_);(try dsimp only);((refine wlk ?_;intros));(try dsimp only[X.out]);(try simp only[↓reduceIte]));(refine HZ.seq (HZ.eng mixed bJ (by kernel_rfl) ?_);(try dsimp only);((refine wlk ?_;intros));(try dsimp only[X.out]);(try simp only[↓reduceIte]));(refine HZ.eng mixed bJ (by kernel_rfl) ?_;(try dsimp only);((refine wlk ?_;intros));(try dsimp only[X.out]);(try simp only[↓reduceIte]));obtain rfl:q=[]:=List.eq_nil_of_length_eq_zero hq0;exact⟨by simp,⟨_,adl (ps:=[.val (.slice none 0 0),.val (.slice none 0 0),.val (.int .i64 x),.val (.int .i64 y),.val (.int .i64 z)]) ⟨nil_le _ _,nil_le _ _,PV.le_refl _,PV.le_refl _,PV.le_refl _,trivial⟩,by(simp(disch:=(first|omega|(simp only[push_cast];first|done|omega))) only[push_cast,↓reduceIte,Nat.reduceEqDiff,Nat.reduceBEq,Nat.reduceAdd,Nat.reduceSub,Int.reduceToNat, *]<;>with_reducible exact rfl)⟩,fun i e=>False.elim e⟩
   ·(refine HZ.seq (HZ.eng mixed bJ (by kernel_rfl) ?_);(try dsimp only);((refine wlk ?_;intros));(try dsimp only[X.out]);(try simp only[↓reduceIte]))
    (refine HZ.seq (HZ.eng mixed bJ (by kernel_rfl) ?_);(try dsimp only);((refine wlk ?_;intros));(try dsimp only[X.out]);(try simp only[↓reduceIte]));(refine HZ.seq (HZ.eng mixed bJ (by kernel_rfl) ?_);(try dsimp only);((refine wlk ?_;intros));(try dsimp only[X.out]);(try simp only[↓reduceIte]));(refine HZ.seq (HZ.eng mixed bJ (by kernel_rfl) ?_);(try dsimp only);((refine wlk ?_;intros));(try dsimp only[X.out]);(try simp only[↓reduceIte]));(refine HZ.seq (HZ.eng mixed bJ (by kernel_rfl) ?_);(try dsimp only);((refine wlk ?_;intros));(try dsimp only[X.out]);(try simp only[↓reduceIte]));(refine HZ.eng mixed bJ (by kernel_rfl) ?_;(try dsimp only);((refine wlk ?_;intros));(try dsimp only[X.out]);(try simp only[↓reduceIte]));exact⟨by simp,⟨_,adl (ps:=[.val (.slice none 0 0),.lst true 1 (q.map fun s=> .val (.string s)),.val (.int .i64 x),.val (.int .i64 y),.val (.int .i64 z)]) ⟨nil_le _ _,PV.le_refl _,PV.le_refl _,PV.le_refl _,PV.le_refl _,trivial⟩,by(simp(disch:=(first|omega|(simp only[push_cast];first|done|omega))) only[push_cast,↓reduceIte,Nat.reduceEqDiff,Nat.reduceBEq,Nat.reduceAdd,Nat.reduceSub,Int.reduceToNat, *]<;>with_reducible exact rfl)⟩,fun i e=>False.elim e⟩
  ·obtain⟨ho1,ho2⟩:=hoy (by omega)
   have hml:(p.map dY).length=p.length:=List.length_map ..;rw[aA (by omega),aB (by omega)];by_cases hq0:q.length=0
   ·have hap0:=fun e sz by_ nx ob c=>hap0 e sz by_ nx ob c (by rw[List.length_map];exact hq0)
    (refine HZ.seq (HZ.eng mixed bJ (by kernel_rfl) ?_);(try dsimp only);((refine wlk ?_;intros));(try dsimp only[X.out]);(try simp only[↓reduceIte]));(refine HZ.seq (HZ.eng mixed bJ (by kernel_rfl) ?_);(try dsimp only);((refine wlk ?_;intros));(try dsimp only[X.out]);(try simp only[↓reduceIte]));(refine HZ.seq (HZ.eng mixed bJ (by kernel_rfl) ?_);(try dsimp only);((refine wlk ?_;intros));(try dsimp only[X.out]);(try simp only[↓reduceIte]));(refine HZ.seq (HZ.eng mixed bJ (by kernel_rfl) ?_);(try dsimp only);((refine wlk ?_;intros));(try dsimp only[X.out]);(try simp only[↓reduceIte]));(refine HZ.seq (HZ.eng mixed bJ (by kernel_rfl) ?_);(try dsimp only);((refine wlk ?_;intros));(try dsimp only[X.out]);(try simp only[↓reduceIte]));(refine HZ.eng mixed bJ (by kernel_rfl) ?_;(try dsimp only);((refine wlk ?_;intros));(try dsimp only[X.out]);(try simp only[↓reduceIte]));obtain rfl:q=[]:=List.eq_nil_of_length_eq_zero hq0;exact⟨by simp,⟨_,adl (ps:=[.lst true 1 (p.map dY),.val (.slice none 0 0),.val (.int .i64 x),.val (.int .i64 y),.val (.int .i64 z)]) ⟨PV.le_refl _,nil_le _ _,PV.le_refl _,PV.le_refl _,PV.le_refl _,trivial⟩,by(simp(disch:=(first|omega|(simp only[push_cast];first|done|omega))) only[push_cast,↓reduceIte,Nat.reduceEqDiff,Nat.reduceBEq,Nat.reduceAdd,Nat.reduceSub,Int.reduceToNat, *]<;>with_reducible exact rfl)⟩,fun i e=>False.elim e⟩
   ·(refine HZ.seq (HZ.eng mixed bJ (by kernel_rfl) ?_);(try dsimp only);((refine wlk ?_;intros));(try dsimp only[X.out]);(try simp only[↓reduceIte]))
    (refine HZ.seq (HZ.eng mixed bJ (by kernel_rfl) ?_);(try dsimp only);((refine wlk ?_;intros));(try dsimp only[X.out]);(try simp only[↓reduceIte]));(refine HZ.seq (HZ.eng mixed bJ (by kernel_rfl) ?_);(try dsimp only);((refine wlk ?_;intros));(try dsimp only[X.out]);(try simp only[↓reduceIte]));(refine HZ.seq (HZ.eng mixed bJ (by kernel_rfl) ?_);(try dsimp only);((refine wlk ?_;intros));(try dsimp only[X.out]);(try simp only[↓reduceIte]));(refine HZ.seq (HZ.eng mixed bJ (by kernel_rfl) ?_);(try dsimp only);((refine wlk ?_;intros));(try dsimp only[X.out]);(try simp only[↓reduceIte]));(refine HZ.eng mixed bJ (by kernel_rfl) ?_;(try dsimp only);((refine wlk ?_;intros));(try dsimp only[X.out]);(try simp only[↓reduceIte]));exact⟨by simp,⟨_,fun g w v h=>h,by(simp(disch:=(first|omega|(simp only[push_cast];first|done|omega))) only[push_cast,↓reduceIte,Nat.reduceEqDiff,Nat.reduceBEq,Nat.reduceAdd,Nat.reduceSub,Int.reduceToNat, *]<;>with_reducible exact rfl)⟩,fun i e=>False.elim e⟩
theorem akH {ks:List Bool} {h:Nat} {E:Nat→Int} {p:Nat} {B:Int} (hh:h≤30) (hB:0≤B) (hE:∀q,E q≤B) (m:Nat) (hm:p+m≤ks.length):-1≤(upP ks h E p m).1∧(upP ks h E p m).1≤900+B∧(upP ks h E p m).2≤ks.length:=by
 have hb:=wZ (ks:=ks) (h:=h) (E:=E) (p:=p) m;by_cases c:(upP ks h E p m).1<0
 ·rw[(hb.no c).1]
  refine⟨?_,?_,?_⟩
  ·show(-1:Int)≤-1
   omega
  ·show(-1:Int)≤900+B
   omega
  ·show 0≤ks.length
   omega
 ·obtain⟨q1,q2,q3,q4⟩:=hb.yes (by omega)
  have h1:=rR q2.1 hh;have h2:=hE (upP ks h E p m).2;rw[qR]at q3;exact⟨by omega,by omega,by omega⟩
def ayu:Ctx:={fn:=aY [(67,uh),(34,φIn)],io:=aY []}
theorem arF:ak Tryz.prog ayu:=okΓ (fC Tryz.func67 ab2 (fC Tryz.func34 iy aj)) aj
def aru:=ah (Γ:=ayu) (f:=67) (φ:=uh) rfl
def apT:=ah (Γ:=ayu) (f:=34) (φ:=φIn) rfl
theorem ae0:Sound Tryz.prog 30 vw:=by
 refine gM mixed arF Tryz.func30 rfl 135 rfl [.tmp 4,.tmp 5] rfl (by kernel_rfl) fun ps r hr=>?_;obtain⟨ks,h,rfl,⟨h1,h2,h3⟩,rfl⟩:=vT hr;clear hr;refine⟨by simp,?_⟩;have apa:=zJ (l:=ks) (by omega);rw[decide_eq_true h1]at apa;have api:=bK;have hin:inB (h:Int) 1 1000=true:=av.2 ⟨by omega,by omega⟩;have gbps_c67:=aru;have gbps_c34:=apT;(refine wlk ?_;intros);clear hin api;refine aG (α:=Nat) mixed (fun k=>[(0,.lst false 4 (ks.map fu)),(1,iv h),(6,.row 0 1 0 0),(7,iv ks.length),(8,.row 1 1 0 (ks.length+1)),(9,.row 2 1 0 (ks.length+1)),(10,.val (.int .i64 ((ks.length:Int)-1-k)))])
  (fun k=>[(0,3,1,[]),(1,3,1,wQ ks.length (fun x=>(tbP ks h k x).1)),(2,3,1,wQ ks.length (fun x=>((tbP ks h k x).2:Int)))]) (fun _=>3) (fun k=>k≤ks.length) (fun k=>ks.length-k) (by kernel_rfl) 0 (Nat.zero_le _) ?_ ?_ rfl ?_
 ·exact agi
 ·simp(disch:=(first|omega|(simp only[push_cast];first|done|omega))) only[push_cast,↓reduceIte,Nat.reduceEqDiff,Nat.reduceBEq,Nat.reduceAdd,Nat.reduceSub,Int.reduceToNat,List.length_append, *]
  try exact⟨rfl,rfl⟩
 intro k hk;have hbd:=lI (ks:=ks) h3 k hk;by_cases hkl:k<ks.length
 ·obtain⟨e1,e2⟩:=adw (h:=h) hkl
  have hlow:=aaS (ks:=ks) (h:=h) (k:=k) (x:=ks.length-(k+1)) hk (by omega);have hp:(ks.length:Int)-1-k=((ks.length-(k+1):Nat):Int):=by omega
  rw[hp];replace hp:=Lib.hid hp;have hup:=fun m hm=>akH (ks:=ks) (h:=h) (E:=fun q=>(tbP ks h k q).1) (p:=ks.length-(k+1)) (B:=900*k) h3 (by omega) (fun q=>(hbd q).2.1) m hm;have hN0:((tbP ks h k (ks.length-(k+1))).2:Int)=0:=by rw[hlow];rfl
  have hEb:∀x,-1≤(fun x=>(tbP ks h k x).1) x∧(fun x=>(tbP ks h k x).1) x≤27000:=fun x=>by have:=hbd x;exact⟨this.1,by dsimp only;omega⟩
  replace hN0:(fun x=>((tbP ks h k x).2:Int)) (ks.length-(k+1))=0:=hN0;have hpk:ks.length-(k+1)<ks.length:=by omega
  clear hbd hlow;generalize hEe:(fun x=>(tbP ks h k x).1)=E at*;generalize hNe:(fun x=>((tbP ks h k x).2:Int))=Nx at*;replace e1:=Lib.hid e1;replace e2:=Lib.hid e2;clear hEe hNe;generalize ks.length-(k+1)=p at*;have hov:ovr Nx p ((upP ks h E p 0).2:Int)=Nx:=by rw[show((upP ks h E p 0).2:Int)=Nx p from hN0.symm];exact amS
  replace hov:=Lib.hid hov;replace hN0:=Lib.hid hN0;(refine wlk ?_;intros);refine aG (α:=Nat) mixed (fun m=>[(0,.lst false 4 (ks.map fu)),(1,iv h),(6,.row 0 1 0 0),(7,iv ks.length),(8,.row 1 1 0 (ks.length+1)),(9,.row 2 1 0 (ks.length+1)),(10,iv p),(11,iv m),(12,.val (.int .i64 ((p:Int)+1+m)))])
   (fun m=>[(0,3,1,[]),(1,3,1,wQ ks.length (ovr E p (upP ks h E p m).1)),(2,3,1,wQ ks.length (ovr Nx p ((upP ks h E p m).2:Int)))]) (fun _=>3) (fun m=>m≤ks.length-p) (fun m=>ks.length-p-m) (by kernel_rfl) 0 (Nat.zero_le _) ?_ ?_ rfl ?_
  ·exact agi
  ·(try dsimp only)
   rw[hov.out];simp(disch:=(first|omega|(simp only[push_cast];first|done|omega))) only[push_cast,↓reduceIte,Nat.reduceEqDiff,Nat.reduceBEq,Nat.reduceAdd,Nat.reduceSub,Int.reduceToNat,List.length_append, *];try rfl
  intro m hm;have hsb:=hup m (by omega);by_cases hml:m<ks.length-p
  ·have hq:(p:Int)+1+m=((p+m+1:Nat):Int):=by omega
   have hst:upP ks h E p (m+1)=xY ks h E p (p+m+1) (upP ks h E p m):=rfl;have hue:=fun hm'=>asJ (ks:=ks) (h:=h) (E:=E) (p:=p) (m:=m) hm' (by omega) (by omega);have hpq:p<p+m+1:=by omega
   have hqn:p+m+1≤ks.length:=by omega
   have hqm:((p+m+1:Nat):Int)=(p:Int)+m+1:=by omega
   have hEq:=hEb (p+m+1);(try dsimp only);rw[hq];replace hq:=Lib.hid hq;replace hqm:=Lib.hid hqm;have hq1:p+m+1-1=p+m:=by omega
   have hmay:afY ks h p (p+m+1)↔m+1≤h∧¬(p+m+1<ks.length∧afe ks (p+m+1-1)=true):=⟨fun e=>⟨by have:=e.2.2.1;omega,e.2.2.2⟩,fun e=>⟨hpq,hqn,by omega,e.2⟩⟩;have hpc:pcB ks h p (p+m+1)=if p+m+1=ks.length then 0 else((h:Int)-((m:Int)+1))*((h:Int)-((m:Int)+1)):=by unfold pcB;rw[hqm.out,show(p:Int)+m+1-p=(m:Int)+1 by omega]
   unfold afe at hmay;clear hq1;generalize hqq:p+m+1=q at*;replace hqq:=Lib.hid hqq;generalize upP ks h E p m=s at*;have ea:ovr E p s.1 q=E q:=amX (by omega);have eb:ovr E p s.1 p=s.1:=amH;have eo:∀v,ovr (ovr E p s.1) p v=ovr E p v:=fun v=>yY;have eo2:∀v,ovr (ovr Nx p (s.2:Int)) p v=ovr Nx p v:=fun v=>yY;unfold xY okQ at hst;rw[qR]at hst;clear hEb hN0 hov hup;by_cases hmh:m+1≤h
   ·clear hue
    by_cases hE0:E q<0
    ·have hst2:upP ks h E p (m+1)=s:=by rw[hst];exact if_neg fun e=>by have:=e.1.2;omega
     replace hst2:=Lib.hid hst2;clear hst hmay hpc;(refine wlk ?_;intros);refine⟨m+1,by omega,by dsimp only;omega,?_,?_,rfl⟩
     ·have hq:=hq.out
      exact agi
     ·(try dsimp only)
      rw[hst2.out];exact agr
    ·by_cases hqe:q=ks.length
     ·subst hqe
      have hm1:afY ks h p ks.length:=hmay.2 ⟨hmh,fun e=>by omega⟩;rw[if_pos rfl]at hpc;rw[hpc,Int.zero_add]at hst;clear hmay hpc;by_cases hs0:s.1<0
      ·have hst2:upP ks h E p (m+1)=(E ks.length,ks.length):=by rw[hst];exact if_pos ⟨⟨hm1,by omega⟩,.inl hs0⟩
       replace hst2:=Lib.hid hst2;clear hst hm1;(refine wlk ?_;intros);refine⟨m+1,by omega,by dsimp only;omega,?_,?_,rfl⟩
       ·have hq:=hq.out
        exact agi
       ·(try dsimp only)
        rw[hst2.out];exact agr
      ·by_cases hlt:E ks.length≤s.1
       ·have hst2:upP ks h E p (m+1)=(E ks.length,ks.length):=by rw[hst];exact if_pos ⟨⟨hm1,by omega⟩,.inr hlt⟩
        replace hst2:=Lib.hid hst2;clear hst hm1;(refine wlk ?_;intros);refine⟨m+1,by omega,by dsimp only;omega,?_,?_,rfl⟩
        ·have hq:=hq.out
         exact agi
        ·(try dsimp only)
         rw[hst2.out];exact agr
       ·have hst2:upP ks h E p (m+1)=s:=by rw[hst];exact if_neg fun e=>e.2.elim hs0 hlt
        replace hst2:=Lib.hid hst2;clear hst hm1;(refine wlk ?_;intros);refine⟨m+1,by omega,by dsimp only;omega,?_,?_,rfl⟩
        ·have hq:=hq.out
         exact agi
        ·(try dsimp only)
         rw[hst2.out];exact agr
     ·have hqlt:q<ks.length:=by omega
      cases hkp:ks[q-1]?.getD false with
      |true=>
       have hst2:upP ks h E p (m+1)=s:=by rw[hst];exact if_neg fun e=>(hmay.1 e.1.1).2 ⟨hqlt,hkp⟩
       replace hst2:=Lib.hid hst2;clear hst hmay hpc;(refine wlk ?_;intros);refine⟨m+1,by omega,by dsimp only;omega,?_,?_,rfl⟩
       ·have hq:=hq.out
        exact agi
       ·(try dsimp only)
        rw[hst2.out];exact agr
      |false=>
       have hm1:afY ks h p q:=hmay.2 ⟨hmh,fun e=>by rw[hkp]at e;cases e.2⟩;rw[if_neg hqe]at hpc;obtain⟨d,hd⟩:∃d:Nat,(h:Int)-((m:Int)+1)=d:=⟨h-(m+1),by omega⟩;have hd2:d≤30:=by omega
       have hdd:d*d≤30*30:=Nat.mul_le_mul hd2 hd2;have hdc:(d:Int)*d=((d*d:Nat):Int):=by simp
       have hc0:0≤((h:Int)-((m:Int)+1))*((h:Int)-((m:Int)+1))∧((h:Int)-((m:Int)+1))*((h:Int)-((m:Int)+1))≤900:=by rw[hd,hdc];omega
       have w1:=dA (n:=((h:Int)-((m:Int)+1))*((h:Int)-((m:Int)+1))) (by omega) (by omega);rw[hpc,Int.add_comm _ (E q)]at hst;clear hd hd2 hdd hdc hmay hpc;generalize hcc:((h:Int)-((m:Int)+1))*((h:Int)-((m:Int)+1))=c at*;by_cases hs0:s.1<0
       ·have hst2:upP ks h E p (m+1)=(E q+c,q):=by rw[hst];exact if_pos ⟨⟨hm1,by omega⟩,.inl hs0⟩
        replace hst2:=Lib.hid hst2;clear hst hm1;(refine wlk ?_;intros);refine⟨m+1,by omega,by dsimp only;omega,?_,?_,rfl⟩
        ·have hq:=hq.out
         exact agi
        ·(try dsimp only)
         rw[hst2.out];exact agr
       ·by_cases hlt:E q+c≤s.1
        ·have hst2:upP ks h E p (m+1)=(E q+c,q):=by rw[hst];exact if_pos ⟨⟨hm1,by omega⟩,.inr hlt⟩
         replace hst2:=Lib.hid hst2;clear hst hm1;(refine wlk ?_;intros);refine⟨m+1,by omega,by dsimp only;omega,?_,?_,rfl⟩
         ·have hq:=hq.out
          exact agi
         ·(try dsimp only)
          rw[hst2.out];exact agr
        ·have hst2:upP ks h E p (m+1)=s:=by rw[hst];exact if_neg fun e=>e.2.elim hs0 hlt
         replace hst2:=Lib.hid hst2;clear hst hm1;(refine wlk ?_;intros);refine⟨m+1,by omega,by dsimp only;omega,?_,?_,rfl⟩
         ·have hq:=hq.out
          exact agi
         ·(try dsimp only)
          rw[hst2.out];exact agr
   ·have hue2:=hue (by omega)
    replace hue2:=Lib.hid hue2;clear hue hst hmay hpc;(refine wlk ?_;intros);refine⟨k+1,by omega,by dsimp only;omega,?_,?_,rfl⟩
    ·have hp:=hp.out
     exact agi
    ·(try dsimp only)
     rw[e1.out,e2.out,←hue2.out];exact agr
  ·obtain rfl:m=ks.length-p:=by omega
   have hm2:(p:Int)+1+((ks.length-p:Nat):Int)=(ks.length:Int)+1:=by omega
   have hue2:=aut (ks:=ks) (h:=h) (E:=E) (p:=p) (by omega);(try dsimp only);rw[hm2];clear hm2;generalize upP ks h E p (ks.length-p)=s at*;replace hue2:=Lib.hid hue2;(refine wlk ?_;intros);refine⟨k+1,by omega,by dsimp only;omega,?_,?_,rfl⟩
   ·have hp:=hp.out
    exact agi
   ·(try dsimp only)
    rw[e1.out,e2.out,←hue2.out];exact agr
 ·obtain rfl:k=ks.length:=by omega
  (try dsimp only);rw[show(ks.length:Int)-1-(ks.length:Int)=-1 by omega,show(fun x=>(tbP ks h ks.length x).1)=dW ks h from rfl,show(fun x=>((tbP ks h ks.length x).2:Int))=fun x=>(jL ks h x:Int)from rfl];have hb0:-1≤dW ks h 0∧dW ks h 0≤27000:=by have:=hbd 0;exact⟨this.1,by unfold dW;omega⟩
  clear hbd;cases hB:ze ks h with
  |false=>
   have hl0:dW ks h 0<0:=by unfold ze at hB;simpa using hB
   have hE0:jD ks h=[]:=by unfold jD;rw[if_neg (by rw[hB];decide)]
   rw[hE0,List.map_nil,List.map_nil];clear hB hE0;generalize dW ks h=L at*;generalize(fun x=>(jL ks h x:Int))=Nx at*;(refine wlk ?_;intros);all_goals((with_reducible apply dw (by first|exact .inl rfl|exact .inr rfl));(simp(disch:=(first|omega|(simp only[push_cast];first|done|omega))) only[push_cast,↓reduceIte,Nat.reduceEqDiff,Nat.reduceBEq,Nat.reduceAdd,Nat.reduceSub,Int.reduceToNat, *]<;>with_reducible exact rfl))
   all_goals exact PV.le_refl _
  |true=>
   have hl0:=yL.1 hB;have hE0:jD ks h=mF ks h ks.length 0:=if_pos hB;have hch:=rU (vX hB);have hnm:=fun p h1 h2=>yM (ks:=ks) (h:=h) (p:=p) h1 h2;have hpe:=fun f=>ac7 (ks:=ks) (h:=h) (f:=f);have hpS:∀f p,p<ks.length→mF ks h (f+1) p=jL ks h p::mF ks h f (jL ks h p):=fun f p hp=>if_pos hp;have hNb:∀p,jL ks h p≤ks.length:=fun p=>by
    by_cases hp:p<ks.length
    ·exact(tH (ks:=ks) (h:=h) (E:=dW ks h) (p:=p) (by omega))|>fun hb=>by
      have e:=abP (h:=h) hp;by_cases c:(bq ks h (dW ks h) p).1<0
      ·unfold jL
       rw[e,(hb.no c).1];exact Nat.zero_le _
      ·unfold jL
       rw[e];exact(hb.yes (by omega)).1.2
    ·have:=(lI (ks:=ks) h3 ks.length (Nat.le_refl _) p).2.2
     exact this
   rw[hE0]at hch;rw[hE0];clear hB hE0;generalize hLL:dW ks h=L at*;generalize hNN:jL ks h=Nx at*;generalize hZ:(mF ks h ks.length 0).map (fun n:Nat=>(n:Int))=Z at*;have hZl:Z.length≤ks.length:=by rw[←hZ,List.length_map];exact hch
   (refine wlk ?_;intros);refine aG (α:=List Int×Nat×Nat×Nat) mixed (fun i=>[(6,.row i.2.2.1 1 0 i.1.length),(7,iv ks.length),(9,.row 2 1 0 (ks.length+1)),(14,iv i.2.1)])
    (fun i=>[(2,3,1,wQ ks.length (fun x=>(Nx x:Int))),(i.2.2.1,3,1,i.1.map fun n=> .val (.int .i64 n))]) (fun i=>i.2.2.2)
    (fun i=>(i.2.1≤ks.length∧0≤L i.2.1)∧(¬2=i.2.2.1∧i.2.2.1<i.2.2.2∧2<i.2.2.2)∧∃f,ks.length-i.2.1≤f∧i.1++(mF ks h f i.2.1).map (fun n:Nat=>(n:Int))=Z) (fun i=>ks.length-i.2.1) (by kernel_rfl) ([],0,0,3) ⟨⟨Nat.zero_le _,hl0⟩,⟨by decide,by decide,by decide⟩,ks.length,by dsimp only;omega,by rw[List.nil_append];exact hZ⟩ ?_ ?_ rfl ?_
   ·(try dsimp only)
    exact agi;try rfl
   ·(try dsimp only)
    exact agr;try rfl
   rintro⟨OUT,p,o,y⟩ ⟨⟨hp,hLp⟩,⟨hoo,hoy,hy⟩,f,hf,hout⟩;dsimp only at hp hLp hoo hoy hy hf hout⊢;have hoo2:¬o=2:=fun e=>hoo e.symm;by_cases hpl:p<ks.length
   ·obtain⟨f,rfl⟩:∃g,f=g+1:=⟨f-1,by omega⟩
    obtain⟨hm1,hm2⟩:=hnm p hpl hLp;have hn1:=hm1.1;have hn2:=hm1.2.1;rw[hpS f p hpl,List.map_cons]at hout;have hout2:(OUT++[(Nx p:Int)])++(mF ks h f (Nx p)).map (fun n:Nat=>(n:Int))=Z:=by rw[List.append_assoc];exact hout
    have hol:OUT.length+1≤ks.length:=by have:=congrArg List.length hout2;simp only[List.length_append,List.length_singleton]at this;omega
    clear hout hnm hpe hpS hm1 hLL hNN hZ hch;replace hout2:=Lib.hid hout2;replace hm2:=Lib.hid hm2;(refine wlk ?_;intros);refine⟨(OUT++[(Nx p:Int)],Nx p,y+1,y+2),⟨⟨by dsimp only;omega,hm2.out⟩,⟨by dsimp only;omega,by dsimp only;omega,by dsimp only;omega⟩,f,by dsimp only;omega,hout2.out⟩,by dsimp only;omega,?_,?_,rfl⟩
    ·(try dsimp only)
     exact agi
    ·(try dsimp only)
     exact agr
   ·obtain rfl:p=ks.length:=by omega
    rw[hpe f,List.map_nil,List.append_nil]at hout;subst hout;clear hnm hpe hpS hLL hNN hZ hch hNb;(refine wlk ?_;intros);all_goals((with_reducible apply dw (by first|exact .inl rfl|exact .inr rfl));(simp(disch:=(first|omega|(simp only[push_cast];first|done|omega))) only[push_cast,↓reduceIte,Nat.reduceEqDiff,Nat.reduceBEq,Nat.reduceAdd,Nat.reduceSub,Int.reduceToNat, *]<;>with_reducible exact rfl))
    all_goals exact PV.le_refl _
def auB:Ctx:={fn:=aY [(28,φOb),(29,φBl),(31,wN),(30,vw)],io:=aY []}
theorem eP:ak Tryz.prog auB:=okΓ (fC Tryz.func28 aeK (fC Tryz.func29 ajk (fC Tryz.func31 aeW (fC Tryz.func30 ae0 aj)))) aj
def xL:=ah (Γ:=auB) (f:=28) (φ:=φOb) rfl
def xu:=ah (Γ:=auB) (f:=29) (φ:=φBl) rfl
def wI:=ah (Γ:=auB) (f:=31) (φ:=wN) rfl
def yF:=ah (Γ:=auB) (f:=30) (φ:=vw) rfl
theorem aiL:Sound Tryz.prog 8 φBp:=by
 refine HZ.sound (N:=63) (rs:=[.tmp 2,.tmp 3]) Tryz.func8 rfl rfl rfl fun ps r hr=>?_;obtain⟨⟨p,q,x,y,z⟩,rfl,hq⟩:=bQ hr;clear hr;split at hq
 case isFalse=>cases hq
 case isTrue hpre=>
 cases hq;refine⟨by simp,fun B w00=>HZ.start ?_⟩;simp only[dIs,dUs,dSs,dz,dF,dx,dG,aR,dD,aU,aV,aS,aT];(try dsimp only at hpre⊢);show HZ _ _ _ _ _ _ ⟨(bY [bkP p q x y z]).tm,fun _=>none,0⟩ _;have ap0:=aqX (x:=x) (y:=y) (z:=z) hpre;have ap1:=aoD (x:=x) (y:=y) (z:=z) hpre;cases hB:blB p q x y z with
 |false=>
  have hb:bpB p q x y z=false:=by unfold bpB;rw[hB];rfl
  rw[acI hb,hb,List.map_nil];rw[hB]at ap1;clear hpre hB hb;generalize blL p q x y z=BL at*;generalize blC p q x y z=BC at*;have gbgs_c28:=xL;have gbgs_c29:=xu;have gbgs_c31:=wI;have gbgs_c30:=yF;refine HZ.eng mixed eP (by kernel_rfl) ?_;(try dsimp only);(refine wlk ?_;intros);(try dsimp only);refine⟨by simp,⟨_,fun g w v h=>h,by(simp(disch:=(first|omega|(simp only[push_cast];first|done|omega))) only[push_cast,↓reduceIte,Nat.reduceEqDiff,Nat.reduceBEq,Nat.reduceAdd,Nat.reduceSub,Int.reduceToNat, *]<;>with_reducible exact rfl)⟩,fun i e=>False.elim e⟩
 |true=>
  rw[hB]at ap1;have hl60:=agD (p:=p) (q:=q) (x:=x) (y:=y) (z:=z) (by unfold blB fA at hB;simp only[Bool.and_eq_true,decide_eq_true_eq]at hB;exact hB.1.2.1)
  by_cases h30:(blL p q x y z).length≤30
  ·obtain⟨k1,k2,k3,k4,k5⟩:=aei hB h30
   have hzz:((z.toNat:Nat):Int)=z:=by omega
   have ap2:=qL k1;have ap3:=qN (ks:=jC p q x y) (h:=z.toNat) (by omega) (by omega) (by omega);rw[hzz]at ap3;rw[k2]at ap1;have hV:bpV p q x y z=if bpB p q x y z=true then jV (blL p q x y z) 0 (jD (jC p q x y) z.toNat)else []:=rfl;have hb:bpB p q x y z=ze (jC p q x y) z.toNat:=by unfold bpB;rw[hB,decide_eq_true h30];rfl
   rw[hb]at hV;rw[hV,hb];have hch:=fun h=>vX (ks:=jC p q x y) (h:=z.toNat) h;rw[show dX (qj p q x y)=jC p q x y from rfl]at ap2;clear hpre hB hV hb k1 k2 hzz;generalize blL p q x y z=BL at*;generalize zN (qj p q x y)=CN at*;generalize jC p q x y=KS at*;cases hG:ze KS z.toNat with
   |false=>rw[hG]at ap3;rw[if_neg (by decide),List.map_nil];clear hch hG;have gbgs_c28:=xL;have gbgs_c29:=xu;have gbgs_c31:=wI;have gbgs_c30:=yF;refine HZ.eng mixed eP (by kernel_rfl) ?_;(try dsimp only);(refine wlk ?_;intros);(try dsimp only);refine⟨by simp,⟨_,fun g w v h=>h,by(simp(disch:=(first|omega|(simp only[push_cast];first|done|omega))) only[push_cast,↓reduceIte,Nat.reduceEqDiff,Nat.reduceBEq,Nat.reduceAdd,Nat.reduceSub,Int.reduceToNat, *]<;>with_reducible exact rfl)⟩,fun i e=>False.elim e⟩
   |true=>
    rw[hG]at ap3;have hc:=hch hG;rw[if_pos rfl];have hct:=fun k h=>adE (l:=BL) (e:=jD KS z.toNat) (k:=k) h;have hfl:=fun k h=>aa9 hc (k:=k) h;have hfs:=fun k h=>rM (e:=jD KS z.toNat) (k:=k) h;have hel:=rU hc;have hfull:(jD KS z.toNat).take (jD KS z.toNat).length=jD KS z.toNat:=List.take_length;have hze:=fun k h=>ako (c:=jD KS z.toNat) (k:=k) h;have hzl:(zN (jD KS z.toNat)).length=(jD KS z.toNat).length:=by simp
    rw[show(jD KS z.toNat).map (fun n:Nat=>(n:Int))=zN (jD KS z.toNat)from rfl]at ap3;clear hch hG hc;generalize jD KS z.toNat=E at*;generalize zN E=ZE at*;have gbgs_c28:=xL;have gbgs_c29:=xu;have gbgs_c31:=wI;have gbgs_c30:=yF;refine HZ.seq (HZ.eng mixed eP (by kernel_rfl) ?_);(try dsimp only);(refine wlk ?_;intros);(try dsimp only[X.out]);(try simp only[↓reduceIte]);refine HZ.seq (HZ.eng mixed eP (by kernel_rfl) ?_);(try dsimp only);(refine wlk ?_;intros);(try dsimp only[X.out]);(try simp only[↓reduceIte]);refine HZ.seq (HZ.eng mixed eP (by kernel_rfl) ?_);(try dsimp only);(refine wlk ?_;intros);(try dsimp only[X.out]);(try simp only[↓reduceIte]);refine HZ.seq (HZ.eng mixed eP (by kernel_rfl) ?_);(try dsimp only);(refine wlk ?_;intros);(try dsimp only[X.out]);(try simp only[↓reduceIte]);refine HZ.seq (HZ.eng mixed eP (by kernel_rfl) ?_);(try dsimp only);(refine wlk ?_;intros);(try dsimp only[X.out]);(try simp only[↓reduceIte]);refine HZ.seq (HZ.eng mixed eP (by kernel_rfl) ?_);(try dsimp only);(refine wlk ?_;intros);(try dsimp only[X.out]);(try simp only[↓reduceIte]);refine HZ.seq (HZ.eng mixed eP (by kernel_rfl) ?_);(try dsimp only);(refine wlk ?_;intros);(try dsimp only[X.out]);(try simp only[↓reduceIte]);refine HZ.seq (HZ.eng mixed eP (by kernel_rfl) ?_);(try dsimp only);(refine wlk ?_;intros);(try dsimp only[X.out]);(try simp only[↓reduceIte]);refine HZ.seq (HZ.seq (HZ.eng mixed eP (by kernel_rfl) ?_));(try dsimp only);(refine wlk ?_;intros);(try dsimp only[X.out]);(try simp only[↓reduceIte]);refine HZ.block (HZ.aap (α:=Nat×Nat×Nat) (fun i=>[(4,.row i.2.1 1 0 i.1),(5,.lst true 1 (BL.map fun s=> .val (.string s))),(8,.lst true 1 (ZE.map fun n=> .val (.int .i64 n))),(10,iv (ng E i.1)),(11,iv i.1)]) (fun i=>[(i.2.1,24,1,(jV BL 0 (E.take i.1)).map dY)]) (fun i=>i.2.2)
     (fun i σ=>(i.1≤E.length∧i.2.1<i.2.2)∧σ=Fgn.no) (fun i=>E.length-i.1) (0,1,2) ⟨⟨Nat.zero_le _,by decide⟩,rfl⟩ ?_ ?_ rfl ?_)
    ·have z1:ng E 0=0:=rfl
     (try dsimp only);rw[z1];exact agr
    ·have z0:(jV BL 0 (E.take 0)).map dY=[]:=rfl
     (try dsimp only);rw[z0];exact agr
    rintro⟨k,o,y⟩ σ ⟨⟨hk,hoy⟩,rfl⟩;dsimp only at hk hoy;clear ap0 ap1 ap2 ap3;by_cases hkl:k<E.length
    ·have h1:=hct k hkl
     have h2:=hfl k hkl;have h3:=hfs k hkl;have h4:=hze k hkl;have hcl:((jV BL 0 (E.take k)).map dY).length=k:=by rw[List.length_map,nI,List.length_take];omega
     clear hct hfl hfs hze hfull;have hkz:k<ZE.length:=by omega
     have h5:E[k]?.getD 0≤BL.length:=by omega
     have h1:(jV BL 0 (E.take (k+1))).map dY=(jV BL 0 (E.take k)).map dY++[dY ((BL.drop (ng E k)).take (E[k]?.getD 0-ng E k))]:=by rw[h1,List.map_append];rfl
     replace h1:=Lib.hid h1;replace h3:=Lib.hid h3;generalize E[k]?.getD 0=e at*;generalize ng E k=f at*;generalize(jV BL 0 (E.take k)).map dY=R at*;refine HZ.seq (HZ.eng mixed eP (by kernel_rfl) ?_);(try dsimp only);(refine wlk ?_;intros);(try dsimp only[X.out]);(try simp only[↓reduceIte]);refine HZ.seq (HZ.block (HZ.seq (HZ.eng mixed eP (by kernel_rfl) ?_)));(try dsimp only);(refine wlk ?_;intros);(try dsimp only[X.out]);(try simp only[↓reduceIte]);refine HZ.lQ (o:=y+1) (x:=y+1+1+1) (T:=9) (sz:=1) (T2:=24) (sz2:=1) (n:=e-f) (es:=((BL.drop f).take (e-f)).map fun s=> .val (.string s)) (l:=R) (by(simp(disch:=(first|omega|(simp only[push_cast];first|done|omega))) only[push_cast,↓reduceIte,Nat.reduceEqDiff,Nat.reduceBEq,Nat.reduceAdd,Nat.reduceSub,Int.reduceToNat, *]<;>with_reducible exact rfl)) (by(simp(disch:=(first|omega|(simp only[push_cast];first|done|omega))) only[push_cast,↓reduceIte,Nat.reduceEqDiff,Nat.reduceBEq,Nat.reduceAdd,Nat.reduceSub,Int.reduceToNat, *]<;>with_reducible exact rfl)) (by rw[List.length_map,List.length_take,List.length_drop];omega) (by omega) ?_;refine HZ.eng mixed eP (by kernel_rfl) ?_;(try dsimp only);(refine wlk ?_;intros);(try dsimp only[X.out]);(try simp only[↓reduceIte]);refine HZ.eng mixed eP (by kernel_rfl) ?_;(try dsimp only);(refine wlk ?_;intros);(try dsimp only[X.out]);(try simp only[↓reduceIte]);refine⟨(k+1,y+1+1+1,y+1+1+1+1),⟨⟨by dsimp only;omega,by dsimp only;omega⟩,by trivial⟩,by dsimp only;omega,?_,?_,rfl⟩
     ·(try dsimp only)
      rw[h3.out];exact agi
     ·(try dsimp only)
      rw[h1.out];exact agr
    ·obtain rfl:k=E.length:=by omega
     rw[hfull];clear hct hfl hfs hze hfull;have hcl:(jV BL 0 E).length=E.length:=nI;generalize jV BL 0 E=L at*;refine HZ.seq (HZ.eng mixed eP (by kernel_rfl) ?_);(try dsimp only);(refine wlk ?_;intros);(try dsimp only[X.out]);(try simp only[↓reduceIte]);refine HZ.eng mixed eP (by kernel_rfl) ?_;(try dsimp only);(refine wlk ?_;intros);(try dsimp only[X.out]);(try simp only[↓reduceIte]);refine⟨by simp,⟨_,fun g w v h=>h,by(simp(disch:=(first|omega|(simp only[push_cast];first|done|omega))) only[push_cast,↓reduceIte,Nat.reduceEqDiff,Nat.reduceBEq,Nat.reduceAdd,Nat.reduceSub,Int.reduceToNat, *]<;>with_reducible exact rfl)⟩,fun i e=>False.elim e⟩
  ·have hb:bpB p q x y z=false:=by unfold bpB;rw[decide_eq_false h30,Bool.false_and,Bool.and_false]
   rw[acI hb,hb,List.map_nil];clear hpre hB hb;generalize blL p q x y z=BL at*;generalize blC p q x y z=BC at*;have gbgs_c28:=xL;have gbgs_c29:=xu;have gbgs_c31:=wI;have gbgs_c30:=yF;refine HZ.eng mixed eP (by kernel_rfl) ?_;(try dsimp only);(refine wlk ?_;intros);(try dsimp only);refine⟨by simp,⟨_,fun g w v h=>h,by(simp(disch:=(first|omega|(simp only[push_cast];first|done|omega))) only[push_cast,↓reduceIte,Nat.reduceEqDiff,Nat.reduceBEq,Nat.reduceAdd,Nat.reduceSub,Int.reduceToNat, *]<;>with_reducible exact rfl)⟩,fun i e=>False.elim e⟩
end
end Go.Proofs.YtmmafcjjlbgnkaaGreatDoor
