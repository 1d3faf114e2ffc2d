/- What the proof rests on, part 20: contracts of functions. No condition beyond what each states. -/
import Derived.Test.YtmmafcjjlbgnkaaGreatDoorZBi19
namespace Go.Proofs.YtmmafcjjlbgnkaaGreatDoor
open Go.RowKit
open Nat renaming reduceEqDiff→Rq,reduceBEq→Rb,reduceAdd→Ra,reduceSub→Rs
open Int renaming reduceToNat→Rt
set_option linter.all false
set_option maxHeartbeats 32000000
noncomputable section
section
variable {P:Program} {N B:Nat} {w00:World}
theorem Rel.anew {io:IoS} {w0 w:World} {bk bk':Nat→Prop} {g g':Gh} {s s':AS} {a:Act} (hr:Rel io w0 N g s a w) (hC:HzC io w00 w0 B bk) (hg:g.le g') (hnx:g'.nx=s'.nx)
 (htm:∀t,Rep g' w (s'.tm t) (a.tmps.getD t undef)) (hob:∀o c,s'.ob o=some c→(s.ob o).isSome∧qm g' w o c)
 (hI:∀k i,g'.I k i→(∀o,(s'.ob o).isSome→i≠g.β o)∧i<w.heap.size∧¬bk' i) (hIt:∀i,g'.I true i→B≤i) (hO:∀o,(s'.ob o).isSome→¬bk' (g.β o))
 (h2:∀i,bk i→bk' i) (hbl:∀i,bk' i→i<w.heap.size) (hbB:∀i,bk' i→bk i∨B≤i):∃io',Rel io' w N g' s' a w∧HzC io' w00 w B bk':=by
 have hsz:B≤w.heap.size:=Nat.le_trans hC.sz hr.fr.size;have hoD:∀o,(s.ob o).isSome→g.D o:=fun o ho=>by obtain⟨c,hc⟩:=Option.isSome_iff_exists.1 ho;exact(hr.ob o c hc).1
 have hs:∀o,(s'.ob o).isSome→(s.ob o).isSome:=fun o ho=>by obtain⟨c,hc⟩:=Option.isSome_iff_exists.1 ho;exact(hob o c hc).1
 have hβ:∀o,(s'.ob o).isSome→g'.β o=g.β o:=fun o ho=>hg.β o (hoD o (hs o ho));have hap:∀o,(s'.ob o).isSome→g.β o<w.heap.size∧B≤g.β o:=fun o ho=>by obtain⟨c,hc⟩:=Option.isSome_iff_exists.1 (hs o ho);have:=hC.gJ hr hc;exact⟨this.1,this.2.2⟩
 have htk:∀t∈tks,¬bk' t:=fun t ht e=>by
  rcases hbB t e with e|e
  ·exact(hC.tk t ht).2 e
  ·have:=(hC.tk t ht).1
   omega
 refine⟨{wr:=fun i=>∃o,(s'.ob o).isSome∧i=g.β o,im:=g'.I false,m:=0,β0:=fun _=>0,κ0:=fun _=>0,it:=g'.I true},⟨hr.nt,hr.df,htm,fun o c ho=>?_,fun o o' ho ho' he=>?_,hnx,fun kk i hi=>(hI kk i hi).2.1,fun i hi=> .inr hi,Fr.refl _ _,fun i hi=>hi,⟨fun o ho=>(Nat.not_lt_zero o ho).elim,fun o ho=>(Nat.not_lt_zero o ho).elim⟩,fun o ho=>False.elim ho,?_⟩,⟨fun i hi=>?_,fun i hi=>?_,fun i hi=>?_,hbl,hsz,?_,fun t ht=>⟨(hC.tk t ht).1,htk t ht⟩⟩⟩
 ·have hso:(s'.ob o).isSome:=by rw[ho];rfl
  refine⟨hg.D o (hoD o (hs o hso)),.inr ⟨o,hso,hβ o hso⟩,fun k hk=>(hI k _ hk).1 o hso (hβ o hso),(hob o c ho).2⟩
 ·rw[hβ o ho,hβ o' ho']at he
  exact hr.inj o o' (hs o ho) (hs o' ho') he
 ·refine hr.tab.keep hr.fr ?_
  rintro t ht ⟨o,ho,rfl⟩;have:=(hap o ho).2;have:=(hC.tk _ ht).1;omega
 ·rcases hi with⟨o,ho,rfl⟩|hi|hi
  ·exact hO o ho
  ·exact(hI _ i hi).2.2
  ·exact(hI _ i hi).2.2
 ·rcases hi with⟨o,ho,rfl⟩|hi
  ·exact(hap o ho).2
  ·exact hIt i hi
 ·obtain⟨o,ho,rfl⟩:=hi
  exact(hap o ho).1
 ·have hf1:Fr (fun i=>bk' i∨B≤i) w0 w:=⟨hr.fr.os,hr.fr.tape,hr.fr.output,hr.fr.size,fun i hi hn=>hr.fr.block i hi fun q=>hn (.inr (hC.lo i (.inl q)))⟩
  refine⟨hf1.os.trans hC.fr.os,hf1.tape.trans hC.fr.tape,hf1.output.trans hC.fr.output,Nat.le_trans hC.fr.size hf1.size,fun i hi hn=>?_⟩;exact(hf1.block i (Nat.lt_of_lt_of_le hi hC.fr.size) hn).trans (hC.fr.block i hi fun q=>hn (q.imp (h2 i) id))
theorem HzC.aGX {io:IoS} {w0:World} {bk:Nat→Prop} (h:HzC io w00 w0 B bk) {g:Gh} {s:AS} {a:Act} {w:World} (hr:Rel io w0 N g s a w) {i:Nat} (hi:g.I true i):B≤i:=by
 rcases hr.new i hi with⟨q,_⟩|q
 ·exact Nat.le_trans h.sz q
 ·exact h.lo i (.inr q)
theorem Zt.tX {s:AS} {σ:Fgn} {a:Act} {w:World} (h:Zt P N B w00 s σ a w) {o x T sz T2 sz2 n:Nat} {es l:List PV} (ho:s.ob o=some (T,sz,es)) (hx:s.ob x=some (T2,sz2,l++[.row o sz 0 n])) (hn:n=es.length) (hne:x≠o):
 Zt P N B w00 ⟨s.tm,upd (upd s.ob o none) x (some (T2,sz2,l++[.lst true sz es])),s.nx⟩ σ a w:=by
 subst hn;obtain⟨⟨io,w0,g,hr,hC⟩,hM⟩:=h;obtain⟨k1,k2,k3,⟨arr,k4,k5⟩,k6,k7⟩:=hr.ob o _ ho;obtain⟨q1,q2,q3⟩:=hC.gJ hr ho;dsimp only at k4 k6 k7
 let g':Gh:={g with I:=fun k b=>g.I k b∨(k=true∧b=g.β o)}
 have hle:g.le g':=⟨fun _ _ h=> .inl h,fun _ h=>h,fun _ _=>rfl,fun _ _=>rfl⟩;have hsub:∀o' c,upd (upd s.ob o none) x (some (T2,sz2,l++[PV.lst true sz es])) o'=some c→o'≠o∧((o'=x∧c=(T2,sz2,l++[PV.lst true sz es]))∨s.ob o'=some c):=fun o' c hc=>by
  unfold upd at hc;split at hc
  ·rename_i e
   cases hc;exact⟨e▸hne,.inl ⟨e,rfl⟩⟩
  ·split at hc
   ·cases hc
   ·rename_i e;exact⟨e,.inr hc⟩
 have hsubS:∀o',(upd (upd s.ob o none) x (some (T2,sz2,l++[PV.lst true sz es])) o').isSome→o'≠o∧(s.ob o').isSome:=fun o' hc=>by
  obtain⟨c,hc⟩:=Option.isSome_iff_exists.1 hc;obtain⟨e,e2⟩:=hsub o' c hc;refine⟨e,?_⟩;rcases e2 with⟨rfl,_⟩|e2
  ·rw[hx];rfl
  ·rw[e2];rfl
 have key:∃io',Rel io' w N g' ⟨s.tm,upd (upd s.ob o none) x (some (T2,sz2,l++[PV.lst true sz es])),s.nx⟩ a w∧HzC io' w00 w B σ.bk:=by
  refine hr.anew (s':=⟨s.tm,upd (upd s.ob o none) x (some (T2,sz2,l++[PV.lst true sz es])),s.nx⟩) (g':=g') (bk':=σ.bk) hC hle hr.nx (fun t=>(hr.tm t).mono hle fun _ _ _=>rfl) (fun o' c hc=>?_) (fun k i hi=>⟨fun o' ho' e=>?_,?_,fun e=>?_⟩) (fun i hi=>?_) (fun o' ho' e=>?_) (fun i hi=>hi) (fun i hi=>Nat.lt_of_lt_of_le (hC.hb i hi) hr.fr.size) (fun i hi=> .inl hi)
  ·refine⟨(hsubS o' (Option.isSome_iff_exists.2 ⟨c,hc⟩)).2,?_⟩
   rcases(hsub o' c hc).2 with⟨rfl,rfl⟩|e
   ·obtain⟨p1,p2,p3,p4,p5,p6⟩:=hr.ob o' _ hx
    refine⟨p4,by simpa using p5,?_⟩;refine bO.of fun i e he=>?_;dsimp only at p6 he;rcases Nat.lt_trichotomy i l.length with hi|hi|hi
    ·rw[List.getElem?_append_left hi]at he
     obtain⟨u,m1,m2,m3⟩:=p6.get (i:=i) (e:=e) (by rw[List.getElem?_append_left hi];exact he);exact⟨u,m1.mono hle (fun _ _ _=>rfl),m2,m3⟩
    ·subst hi
     obtain⟨u,m1,m2,m3⟩:=p6.get (i:=l.length) (e:=.row o sz 0 es.length) (by simp);have he:e=.lst true sz es:=by simpa using he.symm
     subst he;refine⟨u,?_,m2,m3⟩;simp only[Rep]at m1⊢;obtain⟨c,c1,c2,c3,c4,c5⟩:=m1;refine⟨_,c,c1,c2,c3,.inr ⟨g.β o,0,by simp,.inr ⟨rfl,rfl⟩,bO.mono hle (fun _ _ _=>rfl) _ _ _ _ rfl k7⟩⟩
    ·rw[List.getElem?_eq_none (by simp;omega)]at he
     cases he
   ·exact(hr.ob o' c e).2.2.2.mono hle (hr.ob o' c e).1 (fun _ _ _=>rfl) rfl
  ·obtain⟨c,hc⟩:=Option.isSome_iff_exists.1 (hsubS o' ho').2
   rcases hi with hi|⟨_,hi⟩
   ·exact(hr.ob o' c hc).2.2.1 k (e▸hi)
   ·exact(hsubS o' ho').1 (hr.inj o' o (by rw[hc];rfl) (by rw[ho];rfl) (e.symm.trans hi))
  ·rcases hi with hi|⟨_,hi⟩
   ·exact(hC.pJ hr hi).1
   ·rw[hi];exact q1
  ·rcases hi with hi|⟨_,hi⟩
   ·exact(hC.pJ hr hi).2 e
   ·rw[hi]at e;exact q2 e
  ·rcases hi with hi|⟨_,hi⟩
   ·exact hC.aGX hr hi
   ·rw[hi];exact q3
  ·obtain⟨c,hc⟩:=Option.isSome_iff_exists.1 (hsubS o' ho').2
   exact(hC.gJ hr hc).2.1 e
 obtain⟨io',h1,h2⟩:=key;exact⟨⟨io',w,g',h1,h2⟩,hM⟩
theorem HZ.tX {c:Code} {K:X→AS→Fgn→Prop} {s:AS} {σ:Fgn} {o x T sz T2 sz2 n:Nat} {es l:List PV} (ho:s.ob o=some (T,sz,es)) (hx:s.ob x=some (T2,sz2,l++[.row o sz 0 n])) (hn:n=es.length) (hne:x≠o)
 (h:HZ P N B w00 c K ⟨s.tm,upd (upd s.ob o none) x (some (T2,sz2,l++[.lst true sz es])),s.nx⟩ σ):HZ P N B w00 c K s σ:=HZ.mk fun a w hs Q hQ=>h.go a w (hs.tX ho hx hn hne) Q hQ
end
abbrev fB (x:LS):PV:=.lst true 1 (x.map fun s=> .val (.string s))
abbrev azR (x:LS):PV:=.lst false 1 (x.map fun s=> .val (.string s))
theorem anM {l:List LS} {k:Nat} (h:k<l.length):(l.take (k+1)).map fB=(l.take k).map fB++[fB (l[k]?.getD [])]:=by rw[List.take_succ_eq_append_getElem h,List.map_append,List.getElem?_eq_getElem h,Option.getD_some];rfl
def φOr:Fun:=F1 (dL 1 dSs) fun l=>open Classical in if l.length≤1048576∧∀i:Nat,rV (l[i]?.getD [])then some (.lst true 1 (l.map fB))else none
theorem ayN {l:List LS} (h:l.length≤1048576) (h2:∀i:Nat,rV (l[i]?.getD [])):φOr [.lst false 1 (l.map fun p=> .lst false 1 (p.map fun s=> .val (.string s)))]=some (.lst true 1 (l.map fB)):=(fM (A:=dL 1 dSs) l).trans (if_pos ⟨h,h2⟩)
theorem aiV:Sound Tryz.prog 65 φOr:=by
 refine HZ.sound (N:=22) (rs:=[.tmp 2]) Tryz.func65 rfl rfl rfl fun ps r hr=>?_;obtain⟨l,rfl,hq⟩:=bK hr;clear hr;split at hq
 case isFalse=>cases hq
 case isTrue hpre=>
 cases hq;obtain⟨hlen,hall⟩:=hpre;refine⟨by simp,fun B w00=>HZ.start ?_⟩;simp only[dIs,dUs,dSs,dw,dx,dh,dA,aS,dz,aQ,aR,aO,aP];show HZ _ _ _ _ _ _ ⟨(dG [.lst false 1 (l.map azR)]).tm,fun _=>none,0⟩ _;refine HZ.seq (HZ.eng mixed iL (by kernel_rfl) ?_);(try dsimp only);(refine wlk ?_;intros);refine HZ.seq (HZ.eng mixed iL (by kernel_rfl) ?_);(try dsimp only);(refine wlk ?_;intros);refine HZ.seq (HZ.seq (HZ.eng mixed iL (by kernel_rfl) ?_));(try dsimp only);(refine wlk ?_;intros);(try dsimp only);refine HZ.block (HZ.zf (α:=Nat×Nat×Nat) (fun i=>[(0,.lst false 1 (l.map azR)),(3,.row i.2.1 1 0 i.1),(4,iv i.1)]) (fun i=>[(i.2.1,24,1,(l.take i.1).map fB)]) (fun i=>i.2.2)
  (fun i σ=>(i.1≤l.length∧i.2.1<i.2.2)∧σ=Fgn.no) (fun i=>l.length-i.1) (0,0,1) ⟨⟨Nat.zero_le _,by decide⟩,rfl⟩ ?_ ?_ rfl ?_)
 ·(try dsimp only)
  exact agr;try rfl
 ·(try dsimp only)
  exact agr;try rfl
 rintro⟨k,o,y⟩ σ ⟨⟨hk,hoy⟩,rfl⟩;dsimp only at hk hoy;by_cases hkl:k<l.length
 ·have hok:=hall k
  have ht:=anM hkl;have htl:((l.take k).map fB).length=k:=by rw[List.length_map,List.length_take];omega
  replace ht:=Lib.hid ht;refine HZ.seq (HZ.eng mixed iL (by kernel_rfl) ?_);(try dsimp only);(refine wlk ?_;intros);(try dsimp only);generalize(l.take k).map fB=R at*;refine HZ.seq (HZ.block (HZ.eng mixed iL (by kernel_rfl) ?_));(try dsimp only);clear hall;(refine wlk ?_;intros);(try dsimp only[X.out]);refine HZ.tX (o:=y+1) (x:=y+3) (T:=9) (sz:=1) (T2:=24) (sz2:=1) (n:=(l[k]?.getD []).length) (es:=(l[k]?.getD []).map fun s=> .val (.string s)) (l:=R) (by(exact sr)) (by(exact sr)) (by simp) (by omega) ?_;refine HZ.eng mixed iL (by kernel_rfl) ?_;(try dsimp only);(refine wlk ?_;intros);(try dsimp only);refine⟨(k+1,y+3,y+4),⟨⟨by dsimp only;omega,by dsimp only;omega⟩,rfl⟩,by dsimp only;omega,?_,?_,rfl⟩
  ·(try dsimp only)
   exact agi
  ·(try dsimp only)
   rw[ht.out];exact agr
 ·obtain rfl:k=l.length:=by omega
  rw[List.take_length];refine HZ.seq (HZ.eng mixed iL (by kernel_rfl) ?_);(try dsimp only);clear hall;(refine wlk ?_;intros);(try simp only[X.out,↓reduceIte]);refine HZ.eng mixed iL (by kernel_rfl) ?_;(try dsimp only);(refine wlk ?_;intros);(try dsimp only);refine⟨.inr rfl,⟨_,fun g w v h=>h,by(exact sr)⟩,fun i e=>False.elim e⟩
def φOb:Fun:=F1 sD fun b=>if ab8 b.1 b.2.1 then some (.agg [.lst true 1 (b.1.map fB),.lst true 1 (b.2.1.map fun s=> .val (.string s)),.val (.int .i64 b.2.2.1),.val (.int .i64 b.2.2.2.1),.val (.int .i64 b.2.2.2.2)])else none
theorem ax0 {p:List LS} {q:LS} {x y z:Int} (h:ab8 p q):φOb [.agg [.lst false 1 (p.map fun p=> .lst false 1 (p.map fun s=> .val (.string s))),.lst false 1 (q.map fun s=> .val (.string s)),.val (.int .i64 x),.val (.int .i64 y),.val (.int .i64 z)]]=some (.agg [.lst true 1 (p.map fB),.lst true 1 (q.map fun s=> .val (.string s)),.val (.int .i64 x),.val (.int .i64 y),.val (.int .i64 z)]):=
 (fM (A:=sD) (p,q,x,y,z)).trans (if_pos h)
def GOb:Ctx:={fn:=aT [(65,φOr)],io:=aT []}
theorem aAU:ak Tryz.prog GOb:=okΓ (fC Tryz.func65 aiV aj) aj
def aBV:=ah (Γ:=GOb) (f:=65) (φ:=φOr) rfl
theorem aii:Sound Tryz.prog 28 φOb:=by refine au mixed aAU Tryz.func28 rfl 15 rfl [.cell 2 26] rfl (by kernel_rfl) fun ps r hr=>?_;obtain⟨⟨p,q,x,y,z⟩,rfl,hpre,rfl⟩:=jy hr;refine⟨by simp,?_⟩;simp only[dIs,dUs,dSs,dw,dx,dh,dA,aS,dz,aQ,aR,aO,aP];(try dsimp only at hpre⊢);obtain⟨hlen,hall,hoq⟩:=hpre;have ap:=ayN hlen hall;clear hall;have gob_c65:=aBV;exact wlkF
def sK (p:List LS) (q:LS) (x y:Int):List Nat:=p.map fun w=>(mR w q x y).length
theorem arD (p:List LS) (q:LS) (x y:Int):(sK p q x y).length=p.length:=by unfold sK;rw[List.length_map]
theorem aof {p:List LS} {q:LS} {x y:Int} {k:Nat} (hk:k<(sK p q x y).length):(sK p q x y)[k]=(mR (p[k]?.getD []) q x y).length:=by
 have hp:k<p.length:=by rw[←arD p q x y];exact hk
 have h0:(sK p q x y)[k]?=some (mR (p[k]?.getD []) q x y).length:=by unfold sK;rw[List.getElem?_map,List.getElem?_eq_getElem hp];rfl
 rw[List.getElem?_eq_getElem hk]at h0;exact Option.some.inj h0
theorem anu (p:List LS) (q:LS) (x y:Int):∀k,k≤p.length→bcK p q x y k=zN ((sK p q x y).take k)
 |0,_=>rfl
 |k+1,h=>by
  have hk:k<(sK p q x y).length:=by unfold sK;rw[List.length_map];omega
  rw[bcK,anu p q x y k (by omega),List.take_succ_eq_append_getElem hk];unfold zN;rw[List.map_append,aof hk];rfl
theorem ar7 (p:List LS) (q:LS) (x y:Int):bcK p q x y p.length=zN (sK p q x y):=by rw[anu p q x y p.length (Nat.le_refl _),List.take_of_length_le (by unfold sK;rw[List.length_map];exact Nat.le_refl _)]
theorem anh (p:List LS) (q:LS) (x y:Int):∀k,k≤p.length→(blK p q x y k).length=((sK p q x y).take k).sum
 |0,_=>rfl
 |k+1,h=>by
  have hk:k<(sK p q x y).length:=by unfold sK;rw[List.length_map];omega
  rw[blK,List.length_append,anh p q x y k (by omega),agR hk];rw[List.getElem?_eq_getElem hk,Option.getD_some,aof hk]
theorem ar2 (p:List LS) (q:LS) (x y:Int):(blK p q x y p.length).length=(sK p q x y).sum:=by rw[anh p q x y p.length (Nat.le_refl _),List.take_of_length_le (by unfold sK;rw[List.length_map];exact Nat.le_refl _)]
def kQ (p:List LS) (q:LS) (x y:Int):List Bool:=eO (sK p q x y)
def bpB (p:List LS) (q:LS) (x y z:Int):Bool:=blB p q x y z&&(decide ((blL p q x y z).length≤30)&&ab7 (kQ p q x y) z.toNat)
def bpV (p:List LS) (q:LS) (x y z:Int):List LS:=if bpB p q x y z=true then lY (blL p q x y z) 0 (kW (kQ p q x y) z.toNat)else []
theorem ahD {p:List LS} {q:LS} {x y z:Int} (h:blB p q x y z=true) (h30:(blL p q x y z).length≤30):atE (sK p q x y)∧blC p q x y z=zN (sK p q x y)∧(kQ p q x y).length=(blL p q x y z).length∧1≤z∧z≤30:=by
 have hL:blL p q x y z=blK p q x y p.length:=if_pos h;have hC:blC p q x y z=bcK p q x y p.length:=if_pos h;have hs:=ar2 p q x y;refine⟨⟨fun m hm=>?_,by rw[←hs,←hL];exact h30⟩,by rw[hC];exact ar7 p q x y,by unfold kQ;rw[qQ,hL,hs],?_⟩
 ·unfold sK at hm
  obtain⟨w,hw,rfl⟩:=List.mem_map.1 hm;refine adX ?_;unfold blB at h;rw[Bool.and_eq_true]at h;exact List.all_eq_true.1 h.2 w hw
 ·unfold blB jg at h
  simp only[Bool.and_eq_true]at h;exact av.1 h.1.2.2.2.2.2
def φBp:Fun:=F1 sD fun b=>if ab8 b.1 b.2.1 then some (.tup [.lst true 1 ((bpV b.1 b.2.1 b.2.2.1 b.2.2.2.1 b.2.2.2.2).map fB),bv (bpB b.1 b.2.1 b.2.2.1 b.2.2.2.1 b.2.2.2.2)])else none
theorem alI {p:List LS} {q:LS} {x y z:Int} (h:ab8 p q):φBp [.agg [.lst false 1 (p.map fun p=> .lst false 1 (p.map fun s=> .val (.string s))),.lst false 1 (q.map fun s=> .val (.string s)),.val (.int .i64 x),.val (.int .i64 y),.val (.int .i64 z)]]=some (.tup [.lst true 1 ((bpV p q x y z).map fB),.val (.bool (bpB p q x y z))]):=
 (fM (A:=sD) (p,q,x,y,z)).trans (if_pos h)
def ql (e:List Nat) (k:Nat):Nat:=((e.take k).getLast?).getD 0
theorem yj {e:List Nat} {k:Nat} (h:k<e.length):ql e (k+1)=e[k]?.getD 0:=by unfold ql;rw[List.take_succ_eq_append_getElem h,List.getLast?_append,List.getElem?_eq_getElem h];simp
theorem ag7 {α:Type} {l:List α} {e:List Nat} {k:Nat} (h:k<e.length):lY l 0 (e.take (k+1))=lY l 0 (e.take k)++[(l.drop (ql e k)).take (e[k]?.getD 0-ql e k)]:=by rw[List.take_succ_eq_append_getElem h,af7,List.getElem?_eq_getElem h,Option.getD_some];rfl
theorem aDA:∀{ks:List Bool} {h p:Nat} {r:List Nat},ChP ks h p r→∀k,k<r.length→(if k=0 then p else r[k-1]?.getD 0)<r[k]?.getD 0∧r[k]?.getD 0≤ks.length
 |ks,h,p,[],_,k,hk=>by simp at hk
 |ks,h,p,q::r,hc,0,_=>⟨hc.1.1,hc.1.2.1⟩
 |ks,h,p,q::r,hc,k+1,hk=>by
  have:=aDA hc.2 k (by simpa using hk);rw[if_neg (by omega)];cases k with
  |zero=>simpa using this
  |succ k=>simpa using this
theorem afD {ks:List Bool} {h:Nat} {e:List Nat} (hc:ChP ks h 0 e) {k:Nat} (hk:k<e.length):ql e k<e[k]?.getD 0∧e[k]?.getD 0≤ks.length:=by
 have:=aDA hc k hk;cases k with
 |zero=>exact this
 |succ k=>rw[yj (by omega)];simpa using this
theorem aj6 {p:List LS} {q:LS} {x y z:Int} (h:bpB p q x y z=false):bpV p q x y z=[]:=if_neg (by rw[h];decide)
theorem axv {p:List LS} {q:LS} {x y z:Int} (h:(blL p q x y z).length=0):bpV p q x y z=[]:=by
 unfold bpV;split
 ·rename_i hb
  unfold bpB at hb;rw[Bool.and_eq_true,Bool.and_eq_true]at hb;have hc:=ahD hb.1 (of_decide_eq_true hb.2.1);have hl:=xZ (zJ hb.2.2);have he:(kW (kQ p q x y) z.toNat).length=0:=by have:=hc.2.2.1;omega
  rw[List.eq_nil_of_length_eq_zero he];rfl
 ·rfl
theorem apI {q:LS} {x y z:Int} (h:blB [] q x y z=true):bpB [] q x y z=true∧ab7 [] z.toNat=true∧kW [] z.toNat=[]:=by
 have h1:ab7 [] z.toNat=true:=rfl;have hL:(blL [] q x y z).length=0:=by unfold blL;rw[if_pos h];rfl
 refine⟨?_,h1,?_⟩
 ·unfold bpB
  rw[h,hL,show kQ [] q x y=[]from rfl,h1];rfl
 ·unfold kW
  rw[if_pos h1];rfl
def ag5:Fun:=axr 1 aaq
theorem alo {c:List Nat} (h:atE c):ag5 [.lst false 1 ((zN c).map fun n=> .val (.int .i64 n)),.val (.int .i64 1)]=some (.lst true 4 ((eO c).map gN)):=vv h
theorem aif:ag5 [.val (.slice none 0 0),.val (.int .i64 1)]=some (.lst true 4 []):=vv (c:=[]) ⟨by simp,by decide⟩
abbrev bkP (p:List LS) (q:LS) (x y z:Int):PV:=.agg [.lst false 1 (p.map fun p=> .lst false 1 (p.map fun s=> .val (.string s))),.lst false 1 (q.map fun s=> .val (.string s)),.val (.int .i64 x),.val (.int .i64 y),.val (.int .i64 z)]
def aEp:Ctx:={fn:=aT [(25,akJ),(27,ag5),(26,y9)],io:=aT []}
theorem bU:ak Tryz.prog aEp:=okΓ (fC Tryz.func25 akG (fC Tryz.func27 (ajk.nil 1) (fC Tryz.func26 aiG aj))) aj
def wP:=ah (Γ:=aEp) (f:=25) (φ:=akJ) rfl
def yE:=ah (Γ:=aEp) (f:=27) (φ:=ag5) rfl
def xA:=ah (Γ:=aEp) (f:=26) (φ:=y9) rfl
theorem anW:Sound Tryz.prog 7 φBp:=by
 refine HZ.sound (N:=52) (rs:=[.tmp 2,.tmp 3]) Tryz.func7 rfl rfl rfl fun ps r hr=>?_;obtain⟨⟨p,q,x,y,z⟩,rfl,hq⟩:=bK hr;clear hr;split at hq
 case isFalse=>cases hq
 case isTrue hpre=>
 cases hq;refine⟨by simp,fun B w00=>HZ.start ?_⟩;simp only[dIs,dUs,dSs,dw,dx,dh,dA,aS,dz,aQ,aR,aO,aP];(try dsimp only at hpre⊢);show HZ _ _ _ _ _ _ ⟨(dG [bkP p q x y z]).tm,fun _=>none,0⟩ _;by_cases h0:(blL p q x y z).length=0
 ·have ap1:=aqa hpre h0
  obtain⟨hc0,hp0⟩:=aqI h0;rw[axv h0,List.map_nil];clear hpre h0 hc0;cases hB:blB p q x y z with
  |false=>
   rw[hB]at ap1;have hb:bpB p q x y z=false:=by unfold bpB;rw[hB];rfl
   rw[hb];clear hp0 hB hb;have gbgi_c25:=wP;have gbgi_c27:=yE;have gbgi_c26:=xA;refine HZ.eng mixed bU (by kernel_rfl) ?_;(try dsimp only);(refine wlk ?_;intros);(try dsimp only);refine⟨.inr rfl,⟨_,fun g w v h=>?_,by(exact sr)⟩,fun i e=>False.elim e⟩;exact gy g w v h
  |true=>
   obtain rfl:=hp0 hB;obtain⟨e1,e2,e3⟩:=apI hB;rw[hB]at ap1;have hz:1≤z∧z≤30:=by unfold blB jg at hB;simp only[Bool.and_eq_true]at hB;exact av.1 hB.1.2.2.2.2.2
   have hzz:((z.toNat:Nat):Int)=z:=by omega
   have ap2:=aif;have ap3:=vw (ks:=[]) (h:=z.toNat) (by decide) (by omega) (by omega);rw[e2,e3,hzz,List.map_nil,List.map_nil,List.map_nil]at ap3;rw[e1];simp only[List.map_nil]at ap1;clear hp0 hB e1 e2 e3 hzz;have gbgi_c25:=wP;have gbgi_c27:=yE;have gbgi_c26:=xA;refine HZ.eng mixed bU (by kernel_rfl) ?_;(try dsimp only);(refine wlk ?_;intros);(try dsimp only);refine aD (α:=Unit) mixed (fun _=>[(8,.val (.slice none 0 0)),(36,iv 0),(37,iv 0)]) (fun _=>[]) (fun _=>1) (fun _=>True) (fun _=>0) (by kernel_rfl) () trivial ?_ trivial rfl ?_
   ·exact agr
   rintro _ _;(refine wlk ?_;intros);(try dsimp only);refine⟨.inr rfl,⟨_,fun g w v h=>?_,by(exact sr)⟩,fun i e=>False.elim e⟩;exact gy g w v h
 ·have hB:blB p q x y z=true:=by
   cases hB:blB p q x y z with
   |true=>rfl
   |false=>unfold blL at h0;rw[if_neg (by rw[hB];decide)]at h0;simp at h0
  have ap1:=amX (x:=x) (y:=y) (z:=z) hpre (by omega);rw[hB]at ap1;have hl60:=aj3 (p:=p) (q:=q) (x:=x) (y:=y) (z:=z) (by unfold blB jg at hB;simp only[Bool.and_eq_true,decide_eq_true_eq]at hB;exact hB.1.2.1)
  by_cases h30:(blL p q x y z).length≤30
  ·obtain⟨k1,k2,k3,k4,k5⟩:=ahD hB h30
   have hzz:((z.toNat:Nat):Int)=z:=by omega
   have ap2:=alo k1;have ap3:=vw (ks:=kQ p q x y) (h:=z.toNat) (by omega) (by omega) (by omega);rw[hzz]at ap3;rw[k2]at ap1;have hV:bpV p q x y z=if bpB p q x y z=true then lY (blL p q x y z) 0 (kW (kQ p q x y) z.toNat)else []:=rfl;have hb:bpB p q x y z=ab7 (kQ p q x y) z.toNat:=by unfold bpB;rw[hB,decide_eq_true h30];rfl
   rw[hb]at hV;rw[hV,hb];have hch:=fun h=>zJ (ks:=kQ p q x y) (h:=z.toNat) h;rw[show eO (sK p q x y)=kQ p q x y from rfl]at ap2;clear hpre hB h0 hV hb k1 k2 hzz;generalize blL p q x y z=BL at*;generalize zN (sK p q x y)=CN at*;generalize kQ p q x y=KS at*;cases hG:ab7 KS z.toNat with
   |false=>rw[hG]at ap3;rw[if_neg (by decide),List.map_nil];clear hch hG;have gbgi_c25:=wP;have gbgi_c27:=yE;have gbgi_c26:=xA;refine HZ.eng mixed bU (by kernel_rfl) ?_;(try dsimp only);(refine wlk ?_;intros);(try dsimp only);refine⟨.inr rfl,⟨_,fun g w v h=>?_,by(exact sr)⟩,fun i e=>False.elim e⟩;exact gy g w v h
   |true=>
    rw[hG]at ap3;have hc:=hch hG;rw[if_pos rfl];have hct:=fun k h=>ag7 (l:=BL) (e:=kW KS z.toNat) (k:=k) h;have hfl:=fun k h=>afD hc (k:=k) h;have hfs:=fun k h=>yj (e:=kW KS z.toNat) (k:=k) h;have hel:=xZ hc;have hfull:(kW KS z.toNat).take (kW KS z.toNat).length=kW KS z.toNat:=List.take_length;have hze:=fun k h=>aq1 (c:=kW KS z.toNat) (k:=k) h;have hzl:(zN (kW KS z.toNat)).length=(kW KS z.toNat).length:=by simp
    rw[show(kW KS z.toNat).map (fun n:Nat=>(n:Int))=zN (kW KS z.toNat)from rfl]at ap3;clear hch hG hc;generalize kW KS z.toNat=E at*;generalize zN E=ZE at*;have gbgi_c25:=wP;have gbgi_c27:=yE;have gbgi_c26:=xA;refine HZ.seq (HZ.eng mixed bU (by kernel_rfl) ?_);(try dsimp only);(refine wlk ?_;intros);(try dsimp only[X.out]);(try simp only[↓reduceIte]);refine HZ.seq (HZ.eng mixed bU (by kernel_rfl) ?_);(try dsimp only);(refine wlk ?_;intros);(try dsimp only[X.out]);(try simp only[↓reduceIte]);refine HZ.seq (HZ.eng mixed bU (by kernel_rfl) ?_);(try dsimp only);(refine wlk ?_;intros);(try dsimp only[X.out]);(try simp only[↓reduceIte]);refine HZ.seq (HZ.eng mixed bU (by kernel_rfl) ?_);(try dsimp only);(refine wlk ?_;intros);(try dsimp only[X.out]);(try simp only[↓reduceIte]);refine HZ.seq (HZ.eng mixed bU (by kernel_rfl) ?_);(try dsimp only);(refine wlk ?_;intros);(try dsimp only[X.out]);(try simp only[↓reduceIte]);refine HZ.seq (HZ.eng mixed bU (by kernel_rfl) ?_);(try dsimp only);(refine wlk ?_;intros);(try dsimp only[X.out]);(try simp only[↓reduceIte]);refine HZ.seq (HZ.eng mixed bU (by kernel_rfl) ?_);(try dsimp only);(refine wlk ?_;intros);(try dsimp only[X.out]);(try simp only[↓reduceIte]);refine HZ.seq (HZ.seq (HZ.eng mixed bU (by kernel_rfl) ?_));(try dsimp only);(refine wlk ?_;intros);(try dsimp only[X.out]);(try simp only[↓reduceIte]);refine HZ.block (HZ.zf (α:=Nat×Nat×Nat) (fun i=>[(4,.lst true 1 (BL.map fun s=> .val (.string s))),(8,nP 1 ((lY BL 0 (E.take i.1)).map fB) i.2.1),(9,iv (ql E i.1)),(35,.lst true 1 (ZE.map fun n=> .val (.int .i64 n))),(36,iv E.length),(37,iv i.1)]) (fun i=>nO 24 1 ((lY BL 0 (E.take i.1)).map fB) i.2.1) (fun i=>i.2.2)
     (fun i σ=>(i.1≤E.length∧(0<i.1→i.2.1<i.2.2))∧σ=Fgn.no) (fun i=>E.length-i.1) (0,0,1) ⟨⟨Nat.zero_le _,fun h=>absurd h (Nat.lt_irrefl 0)⟩,rfl⟩ ?_ ?_ rfl ?_)
    ·have z0:(lY BL 0 (E.take 0)).map fB=[]:=rfl
     have z1:ql E 0=0:=rfl;(try dsimp only);rw[z0,dM,z1];exact agr
    ·have z0:(lY BL 0 (E.take 0)).map fB=[]:=rfl
     (try dsimp only);rw[z0,cO];exact agr
    rintro⟨k,o,y⟩ σ ⟨⟨hk,hoy⟩,rfl⟩;dsimp only at hk hoy;clear ap1 ap2 ap3;by_cases hkl:k<E.length
    ·have h1:=hct k hkl
     have h2:=hfl k hkl;have h3:=hfs k hkl;have h4:=hze k hkl;have hcl:((lY BL 0 (E.take k)).map fB).length=k:=by rw[List.length_map,qj,List.length_take];omega
     clear hct hfl hfs hze hfull;have hkz:k<ZE.length:=by omega
     have h5:E[k]?.getD 0≤BL.length:=by omega
     have h1:(lY BL 0 (E.take (k+1))).map fB=(lY BL 0 (E.take k)).map fB++[fB ((BL.drop (ql E k)).take (E[k]?.getD 0-ql E k))]:=by rw[h1,List.map_append];rfl
     replace h1:=Lib.hid h1;replace h3:=Lib.hid h3;generalize E[k]?.getD 0=e at*;generalize ql E k=f at*;generalize(lY BL 0 (E.take k)).map fB=R at*;by_cases h0:k=0
     ·obtain rfl:R=[]:=List.eq_nil_of_length_eq_zero (by omega)
      subst h0;(try dsimp only[dM,cO]);refine HZ.seq (HZ.eng mixed bU (by kernel_rfl) ?_);(try dsimp only);(refine wlk ?_;intros);(try dsimp only[X.out]);(try simp only[↓reduceIte]);refine HZ.seq (HZ.eng mixed bU (by kernel_rfl) ?_);(try dsimp only);(refine wlk ?_;intros);(try dsimp only[X.out]);(try simp only[↓reduceIte]);refine HZ.seq (HZ.block (HZ.seq (HZ.eng mixed bU (by kernel_rfl) ?_)));(try dsimp only);(refine wlk ?_;intros);(try dsimp only[X.out]);(try simp only[↓reduceIte]);refine HZ.seq (HZ.eng mixed bU (by kernel_rfl) ?_);(try dsimp only);(refine wlk ?_;intros);(try dsimp only[X.out]);(try simp only[↓reduceIte]);refine HZ.tX (o:=y) (x:=y+1+1) (T:=9) (sz:=1) (T2:=24) (sz2:=1) (n:=e-f) (es:=((BL.drop f).take (e-f)).map fun s=> .val (.string s)) (l:=[]) (by(exact sr)) (by(exact sr)) (by rw[List.length_map,List.length_take,List.length_drop];omega) (by omega) ?_;refine HZ.eng mixed bU (by kernel_rfl) ?_;(try dsimp only);(refine wlk ?_;intros);(try dsimp only[X.out]);(try simp only[↓reduceIte]);refine HZ.eng mixed bU (by kernel_rfl) ?_;(try dsimp only);(refine wlk ?_;intros);(try dsimp only[X.out]);(try simp only[↓reduceIte]);refine⟨(0+1,y+1+1,y+1+1+1),⟨⟨by dsimp only;omega,fun _=>by dsimp only;omega⟩,by trivial⟩,by dsimp only;omega,?_,?_,rfl⟩
      ·(try dsimp only)
       rw[h1.out,h3.out,ay (by simp),List.length_append];exact agi
      ·(try dsimp only)
       rw[h1.out,aB (by simp)];exact agr
     ·rw[ay (by omega),aB (by omega)]
      refine HZ.seq (HZ.eng mixed bU (by kernel_rfl) ?_);(try dsimp only);(refine wlk ?_;intros);(try dsimp only[X.out]);(try simp only[↓reduceIte]);refine HZ.seq (HZ.eng mixed bU (by kernel_rfl) ?_);(try dsimp only);(refine wlk ?_;intros);(try dsimp only[X.out]);(try simp only[↓reduceIte]);refine HZ.seq (HZ.block (HZ.seq (HZ.eng mixed bU (by kernel_rfl) ?_)));(try dsimp only);(refine wlk ?_;intros);(try dsimp only[X.out]);(try simp only[↓reduceIte]);refine HZ.seq (HZ.eng mixed bU (by kernel_rfl) ?_);(try dsimp only);(refine wlk ?_;intros);(try dsimp only[X.out]);(try simp only[↓reduceIte]);refine HZ.tX (o:=y) (x:=y+1+1) (T:=9) (sz:=1) (T2:=24) (sz2:=1) (n:=e-f) (es:=((BL.drop f).take (e-f)).map fun s=> .val (.string s)) (l:=R) (by(exact sr)) (by(exact sr)) (by rw[List.length_map,List.length_take,List.length_drop];omega) (by omega) ?_;refine HZ.eng mixed bU (by kernel_rfl) ?_;(try dsimp only);(refine wlk ?_;intros);(try dsimp only[X.out]);(try simp only[↓reduceIte]);refine HZ.eng mixed bU (by kernel_rfl) ?_;(try dsimp only);(refine wlk ?_;intros);(try dsimp only[X.out]);(try simp only[↓reduceIte]);refine⟨(k+1,y+1+1,y+1+1+1),⟨⟨by dsimp only;omega,fun _=>by dsimp only;omega⟩,by trivial⟩,by dsimp only;omega,?_,?_,rfl⟩
      ·(try dsimp only)
       rw[h1.out,h3.out,ay (by simp),List.length_append];exact agi
      ·(try dsimp only)
       rw[h1.out,aB (by simp)];exact agr
    ·obtain rfl:k=E.length:=by omega
     rw[hfull];clear hct hfl hfs hze hfull;by_cases h0:E.length=0
     ·obtain rfl:E=[]:=List.eq_nil_of_length_eq_zero h0
      have z0:(lY BL 0 []).map fB=[]:=rfl;rw[z0,dM,cO];refine HZ.seq (HZ.eng mixed bU (by kernel_rfl) ?_);(try dsimp only);(refine wlk ?_;intros);(try dsimp only[X.out]);(try simp only[↓reduceIte]);refine HZ.seq (HZ.eng mixed bU (by kernel_rfl) ?_);(try dsimp only);(refine wlk ?_;intros);(try dsimp only[X.out]);(try simp only[↓reduceIte]);refine HZ.eng mixed bU (by kernel_rfl) ?_;(try dsimp only);(refine wlk ?_;intros);(try dsimp only[X.out]);(try simp only[↓reduceIte]);refine⟨by simp,⟨_,fun g w v h=>?_,by(exact sr)⟩,fun i e=>False.elim e⟩;exact gy g w v h
     ·have hcl:(lY BL 0 E).length=E.length:=qj
      generalize lY BL 0 E=L at*;rw[ay (by rw[List.length_map];omega),aB (by rw[List.length_map];omega)];refine HZ.seq (HZ.eng mixed bU (by kernel_rfl) ?_);(try dsimp only);(refine wlk ?_;intros);(try dsimp only[X.out]);(try simp only[↓reduceIte]);refine HZ.seq (HZ.eng mixed bU (by kernel_rfl) ?_);(try dsimp only);(refine wlk ?_;intros);(try dsimp only[X.out]);(try simp only[↓reduceIte]);refine HZ.eng mixed bU (by kernel_rfl) ?_;(try dsimp only);(refine wlk ?_;intros);(try dsimp only[X.out]);(try simp only[↓reduceIte]);refine⟨by simp,⟨_,fun g w v h=>h,by(exact sr)⟩,fun i e=>False.elim e⟩
  ·have hb:bpB p q x y z=false:=by unfold bpB;rw[decide_eq_false h30,Bool.false_and,Bool.and_false]
   rw[aj6 hb,hb,List.map_nil];clear hpre hB h0 hb;generalize blL p q x y z=BL at*;generalize blC p q x y z=BC at*;have gbgi_c25:=wP;have gbgi_c27:=yE;have gbgi_c26:=xA;refine HZ.eng mixed bU (by kernel_rfl) ?_;(try dsimp only);(refine wlk ?_;intros);(try dsimp only);refine⟨.inr rfl,⟨_,fun g w v h=>?_,by(exact sr)⟩,fun i e=>False.elim e⟩;exact gy g w v h
theorem aqV {ks:List Bool} {h:Nat} {E:Nat→Int} {p:Nat} {B:Int} (hh:h≤30) (hB:0≤B) (hE:∀q,E q≤B) (m:Nat) (hm:p+m≤ks.length):-1≤(upP ks h E p m).1∧(upP ks h E p m).1≤900+B∧(upP ks h E p m).2≤ks.length:=by
 have hb:=abk (ks:=ks) (h:=h) (E:=E) (p:=p) m;by_cases c:(upP ks h E p m).1<0
 ·rw[(hb.no c).1]
  refine⟨?_,?_,?_⟩
  ·show(-1:Int)≤-1
   omega
  ·show(-1:Int)≤900+B
   omega
  ·show 0≤ks.length
   omega
 ·obtain⟨q1,q2,q3,q4⟩:=hb.yes (by omega)
  have h1:=wh q2.1 hh;have h2:=hE (upP ks h E p m).2;rw[vk]at q3;exact⟨by omega,by omega,by omega⟩
def aFC:Ctx:={fn:=aT [(67,yu),(34,φIn)],io:=aT []}
theorem avw:ak Tryz.prog aFC:=okΓ (fC Tryz.func67 aeD (fC Tryz.func34 gY aj)) aj
def ayM:=ah (Γ:=aFC) (f:=67) (φ:=yu) rfl
def axi:=ah (Γ:=aFC) (f:=34) (φ:=φIn) rfl
theorem ah9:Sound Tryz.prog 30 y9:=by
 refine gD mixed avw Tryz.func30 rfl 135 rfl [.tmp 4,.tmp 5] rfl (by kernel_rfl) fun ps r hr=>?_;obtain⟨ks,h,rfl,⟨h1,h2,h3⟩,rfl⟩:=zn hr;clear hr;refine⟨by simp,?_⟩;have apa:=acF (l:=ks) (by omega);rw[decide_eq_true h1]at apa;have api:=bM;have hin:inB (h:Int) 1 1000=true:=av.2 ⟨by omega,by omega⟩;have gbps_c67:=ayM;have gbps_c34:=axi;(refine wlk ?_;intros);clear hin api;refine aD (α:=Nat) mixed (fun k=>[(0,.lst false 4 (ks.map gN)),(1,iv h),(6,.row 0 1 0 0),(7,iv ks.length),(8,.row 1 1 0 (ks.length+1)),(9,.row 2 1 0 (ks.length+1)),(10,.val (.int .i64 ((ks.length:Int)-1-k)))])
  (fun k=>[(0,3,1,[]),(1,3,1,aa1 ks.length (fun x=>(tbP ks h k x).1)),(2,3,1,aa1 ks.length (fun x=>((tbP ks h k x).2:Int)))]) (fun _=>3) (fun k=>k≤ks.length) (fun k=>ks.length-k) (by kernel_rfl) 0 (Nat.zero_le _) ?_ ?_ rfl ?_
 ·exact agi
 ·simp(disch:=(first|omega|(simp only[push_cast];first|done|omega))) only[push_cast,↓reduceIte,Rq,Rb,Ra,Rs,Rt,List.length_append, *]
  try exact⟨rfl,rfl⟩
 intro k hk;have hbd:=nM (ks:=ks) h3 k hk;by_cases hkl:k<ks.length
 ·obtain⟨e1,e2⟩:=ag2 (h:=h) hkl
  have hlow:=aea (ks:=ks) (h:=h) (k:=k) (x:=ks.length-(k+1)) hk (by omega);have hp:(ks.length:Int)-1-k=((ks.length-(k+1):Nat):Int):=by omega
  rw[hp];replace hp:=Lib.hid hp;have hup:=fun m hm=>aqV (ks:=ks) (h:=h) (E:=fun q=>(tbP ks h k q).1) (p:=ks.length-(k+1)) (B:=900*k) h3 (by omega) (fun q=>(hbd q).2.1) m hm;have hN0:((tbP ks h k (ks.length-(k+1))).2:Int)=0:=by rw[hlow];rfl
  have hEb:∀x,-1≤(fun x=>(tbP ks h k x).1) x∧(fun x=>(tbP ks h k x).1) x≤27000:=fun x=>by have:=hbd x;exact⟨this.1,by dsimp only;omega⟩
  replace hN0:(fun x=>((tbP ks h k x).2:Int)) (ks.length-(k+1))=0:=hN0;have hpk:ks.length-(k+1)<ks.length:=by omega
  clear hbd hlow;generalize hEe:(fun x=>(tbP ks h k x).1)=E at*;generalize hNe:(fun x=>((tbP ks h k x).2:Int))=Nx at*;replace e1:=Lib.hid e1;replace e2:=Lib.hid e2;clear hEe hNe;generalize ks.length-(k+1)=p at*;have hov:ovr Nx p ((upP ks h E p 0).2:Int)=Nx:=by rw[show((upP ks h E p 0).2:Int)=Nx p from hN0.symm];exact atx
  replace hov:=Lib.hid hov;replace hN0:=Lib.hid hN0;(refine wlk ?_;intros);refine aD (α:=Nat) mixed (fun m=>[(0,.lst false 4 (ks.map gN)),(1,iv h),(6,.row 0 1 0 0),(7,iv ks.length),(8,.row 1 1 0 (ks.length+1)),(9,.row 2 1 0 (ks.length+1)),(10,iv p),(11,iv m),(12,.val (.int .i64 ((p:Int)+1+m)))])
   (fun m=>[(0,3,1,[]),(1,3,1,aa1 ks.length (ovr E p (upP ks h E p m).1)),(2,3,1,aa1 ks.length (ovr Nx p ((upP ks h E p m).2:Int)))]) (fun _=>3) (fun m=>m≤ks.length-p) (fun m=>ks.length-p-m) (by kernel_rfl) 0 (Nat.zero_le _) ?_ ?_ rfl ?_
  ·exact agi
  ·(try dsimp only)
   rw[hov.out];simp(disch:=(first|omega|(simp only[push_cast];first|done|omega))) only[push_cast,↓reduceIte,Rq,Rb,Ra,Rs,Rt,List.length_append, *];try rfl
  intro m hm;have hsb:=hup m (by omega);by_cases hml:m<ks.length-p
  ·have hq:(p:Int)+1+m=((p+m+1:Nat):Int):=by omega
   have hst:upP ks h E p (m+1)=aaK ks h E p (p+m+1) (upP ks h E p m):=rfl;have hue:=fun hm'=>aDU (ks:=ks) (h:=h) (E:=E) (p:=p) (m:=m) hm' (by omega) (by omega);have hpq:p<p+m+1:=by omega
   have hqn:p+m+1≤ks.length:=by omega
   have hqm:((p+m+1:Nat):Int)=(p:Int)+m+1:=by omega
   have hEq:=hEb (p+m+1);(try dsimp only);rw[hq];replace hq:=Lib.hid hq;replace hqm:=Lib.hid hqm;have hq1:p+m+1-1=p+m:=by omega
   have hmay:aiK ks h p (p+m+1)↔m+1≤h∧¬(p+m+1<ks.length∧ai0 ks (p+m+1-1)=true):=⟨fun e=>⟨by have:=e.2.2.1;omega,e.2.2.2⟩,fun e=>⟨hpq,hqn,by omega,e.2⟩⟩;have hpc:pcB ks h p (p+m+1)=if p+m+1=ks.length then 0 else((h:Int)-((m:Int)+1))*((h:Int)-((m:Int)+1)):=by unfold pcB;rw[hqm.out,show(p:Int)+m+1-p=(m:Int)+1 by omega]
   unfold ai0 at hmay;clear hq1;generalize hqq:p+m+1=q at*;replace hqq:=Lib.hid hqq;generalize upP ks h E p m=s at*;have ea:ovr E p s.1 q=E q:=atQ (by omega);have eb:ovr E p s.1 p=s.1:=as9;have eo:∀v,ovr (ovr E p s.1) p v=ovr E p v:=fun v=>aaW;have eo2:∀v,ovr (ovr Nx p (s.2:Int)) p v=ovr Nx p v:=fun v=>aaW;unfold aaK okQ at hst;rw[vk]at hst;clear hEb hN0 hov hup;by_cases hmh:m+1≤h
   ·clear hue
    by_cases hE0:E q<0
    ·have hst2:upP ks h E p (m+1)=s:=by rw[hst];exact if_neg fun e=>by have:=e.1.2;omega
     replace hst2:=Lib.hid hst2;clear hst hmay hpc;(refine wlk ?_;intros);refine⟨m+1,by omega,by dsimp only;omega,?_,?_,rfl⟩
     ·have hq:=hq.out
      exact agi
     ·(try dsimp only)
      rw[hst2.out];exact agr
    ·by_cases hqe:q=ks.length
     ·subst hqe
      have hm1:aiK ks h p ks.length:=hmay.2 ⟨hmh,fun e=>by omega⟩;rw[if_pos rfl]at hpc;rw[hpc,Int.zero_add]at hst;clear hmay hpc;by_cases hs0:s.1<0
      ·have hst2:upP ks h E p (m+1)=(E ks.length,ks.length):=by rw[hst];exact if_pos ⟨⟨hm1,by omega⟩,.inl hs0⟩
       replace hst2:=Lib.hid hst2;clear hst hm1;(refine wlk ?_;intros);refine⟨m+1,by omega,by dsimp only;omega,?_,?_,rfl⟩
       ·have hq:=hq.out
        exact agi
       ·(try dsimp only)
        rw[hst2.out];exact agr
      ·by_cases hlt:E ks.length≤s.1
       ·have hst2:upP ks h E p (m+1)=(E ks.length,ks.length):=by rw[hst];exact if_pos ⟨⟨hm1,by omega⟩,.inr hlt⟩
        replace hst2:=Lib.hid hst2;clear hst hm1;(refine wlk ?_;intros);refine⟨m+1,by omega,by dsimp only;omega,?_,?_,rfl⟩
        ·have hq:=hq.out
         exact agi
        ·(try dsimp only)
         rw[hst2.out];exact agr
       ·have hst2:upP ks h E p (m+1)=s:=by rw[hst];exact if_neg fun e=>e.2.elim hs0 hlt
        replace hst2:=Lib.hid hst2;clear hst hm1;(refine wlk ?_;intros);refine⟨m+1,by omega,by dsimp only;omega,?_,?_,rfl⟩
        ·have hq:=hq.out
         exact agi
        ·(try dsimp only)
         rw[hst2.out];exact agr
     ·have hqlt:q<ks.length:=by omega
      cases hkp:ks[q-1]?.getD false with
      |true=>
       have hst2:upP ks h E p (m+1)=s:=by rw[hst];exact if_neg fun e=>(hmay.1 e.1.1).2 ⟨hqlt,hkp⟩
       replace hst2:=Lib.hid hst2;clear hst hmay hpc;(refine wlk ?_;intros);refine⟨m+1,by omega,by dsimp only;omega,?_,?_,rfl⟩
       ·have hq:=hq.out
        exact agi
       ·(try dsimp only)
        rw[hst2.out];exact agr
      |false=>
       have hm1:aiK ks h p q:=hmay.2 ⟨hmh,fun e=>by rw[hkp]at e;cases e.2⟩;rw[if_neg hqe]at hpc;obtain⟨d,hd⟩:∃d:Nat,(h:Int)-((m:Int)+1)=d:=⟨h-(m+1),by omega⟩;have hd2:d≤30:=by omega
       have hdd:d*d≤30*30:=Nat.mul_le_mul hd2 hd2;have hdc:(d:Int)*d=((d*d:Nat):Int):=by simp
       have hc0:0≤((h:Int)-((m:Int)+1))*((h:Int)-((m:Int)+1))∧((h:Int)-((m:Int)+1))*((h:Int)-((m:Int)+1))≤900:=by rw[hd,hdc];omega
       have w1:=dV (n:=((h:Int)-((m:Int)+1))*((h:Int)-((m:Int)+1))) (by omega) (by omega);rw[hpc,Int.add_comm _ (E q)]at hst;clear hd hd2 hdd hdc hmay hpc;generalize hcc:((h:Int)-((m:Int)+1))*((h:Int)-((m:Int)+1))=c at*;by_cases hs0:s.1<0
       ·have hst2:upP ks h E p (m+1)=(E q+c,q):=by rw[hst];exact if_pos ⟨⟨hm1,by omega⟩,.inl hs0⟩
        replace hst2:=Lib.hid hst2;clear hst hm1;(refine wlk ?_;intros);refine⟨m+1,by omega,by dsimp only;omega,?_,?_,rfl⟩
        ·have hq:=hq.out
         exact agi
        ·(try dsimp only)
         rw[hst2.out];exact agr
       ·by_cases hlt:E q+c≤s.1
        ·have hst2:upP ks h E p (m+1)=(E q+c,q):=by rw[hst];exact if_pos ⟨⟨hm1,by omega⟩,.inr hlt⟩
         replace hst2:=Lib.hid hst2;clear hst hm1;(refine wlk ?_;intros);refine⟨m+1,by omega,by dsimp only;omega,?_,?_,rfl⟩
         ·have hq:=hq.out
          exact agi
         ·(try dsimp only)
          rw[hst2.out];exact agr
        ·have hst2:upP ks h E p (m+1)=s:=by rw[hst];exact if_neg fun e=>e.2.elim hs0 hlt
         replace hst2:=Lib.hid hst2;clear hst hm1;(refine wlk ?_;intros);refine⟨m+1,by omega,by dsimp only;omega,?_,?_,rfl⟩
         ·have hq:=hq.out
          exact agi
         ·(try dsimp only)
          rw[hst2.out];exact agr
   ·have hue2:=hue (by omega)
    replace hue2:=Lib.hid hue2;clear hue hst hmay hpc;(refine wlk ?_;intros);refine⟨k+1,by omega,by dsimp only;omega,?_,?_,rfl⟩
    ·have hp:=hp.out
     exact agi
    ·(try dsimp only)
     rw[e1.out,e2.out,←hue2.out];exact agr
  ·obtain rfl:m=ks.length-p:=by omega
   have hm2:(p:Int)+1+((ks.length-p:Nat):Int)=(ks.length:Int)+1:=by omega
   have hue2:=aBC (ks:=ks) (h:=h) (E:=E) (p:=p) (by omega);(try dsimp only);rw[hm2];clear hm2;generalize upP ks h E p (ks.length-p)=s at*;replace hue2:=Lib.hid hue2;(refine wlk ?_;intros);refine⟨k+1,by omega,by dsimp only;omega,?_,?_,rfl⟩
   ·have hp:=hp.out
    exact agi
   ·(try dsimp only)
    rw[e1.out,e2.out,←hue2.out];exact agr
 ·obtain rfl:k=ks.length:=by omega
  (try dsimp only);rw[show(ks.length:Int)-1-(ks.length:Int)=-1 by omega,show(fun x=>(tbP ks h ks.length x).1)=eT ks h from rfl,show(fun x=>((tbP ks h ks.length x).2:Int))=fun x=>(lC ks h x:Int)from rfl];have hb0:-1≤eT ks h 0∧eT ks h 0≤27000:=by have:=hbd 0;exact⟨this.1,by unfold eT;omega⟩
  clear hbd;cases hB:ab7 ks h with
  |false=>
   have hl0:eT ks h 0<0:=by unfold ab7 at hB;simpa using hB
   have hE0:kW ks h=[]:=by unfold kW;rw[if_neg (by rw[hB];decide)]
   rw[hE0,List.map_nil,List.map_nil];clear hB hE0;generalize eT ks h=L at*;generalize(fun x=>(lC ks h x:Int))=Nx at*;(refine wlk ?_;intros);all_goals((with_reducible apply bV (by first|exact .inl rfl|exact .inr rfl));(exact sr))
   all_goals exact PV.le_refl _
  |true=>
   have hl0:=aaL.1 hB;have hE0:kW ks h=o7 ks h ks.length 0:=if_pos hB;have hch:=xZ (zJ hB);have hnm:=fun p h1 h2=>aao (ks:=ks) (h:=h) (p:=p) h1 h2;have hpe:=fun f=>agN (ks:=ks) (h:=h) (f:=f);have hpS:∀f p,p<ks.length→o7 ks h (f+1) p=lC ks h p::o7 ks h f (lC ks h p):=fun f p hp=>if_pos hp;have hNb:∀p,lC ks h p≤ks.length:=fun p=>by
    by_cases hp:p<ks.length
    ·exact(wR (ks:=ks) (h:=h) (E:=eT ks h) (p:=p) (by omega))|>fun hb=>by
      have e:=aer (h:=h) hp;by_cases c:(bq ks h (eT ks h) p).1<0
      ·unfold lC
       rw[e,(hb.no c).1];exact Nat.zero_le _
      ·unfold lC
       rw[e];exact(hb.yes (by omega)).1.2
    ·have:=(nM (ks:=ks) h3 ks.length (Nat.le_refl _) p).2.2
     exact this
   rw[hE0]at hch;rw[hE0];clear hB hE0;generalize hLL:eT ks h=L at*;generalize hNN:lC ks h=Nx at*;generalize hZ:(o7 ks h ks.length 0).map (fun n:Nat=>(n:Int))=Z at*;have hZl:Z.length≤ks.length:=by rw[←hZ,List.length_map];exact hch
   (refine wlk ?_;intros);refine aD (α:=List Int×Nat×Nat×Nat) mixed (fun i=>[(6,.row i.2.2.1 1 0 i.1.length),(7,iv ks.length),(9,.row 2 1 0 (ks.length+1)),(14,iv i.2.1)])
    (fun i=>[(2,3,1,aa1 ks.length (fun x=>(Nx x:Int))),(i.2.2.1,3,1,i.1.map fun n=> .val (.int .i64 n))]) (fun i=>i.2.2.2)
    (fun i=>(i.2.1≤ks.length∧0≤L i.2.1)∧(¬2=i.2.2.1∧i.2.2.1<i.2.2.2∧2<i.2.2.2)∧∃f,ks.length-i.2.1≤f∧i.1++(o7 ks h f i.2.1).map (fun n:Nat=>(n:Int))=Z) (fun i=>ks.length-i.2.1) (by kernel_rfl) ([],0,0,3) ⟨⟨Nat.zero_le _,hl0⟩,⟨by decide,by decide,by decide⟩,ks.length,by dsimp only;omega,by rw[List.nil_append];exact hZ⟩ ?_ ?_ rfl ?_
   ·(try dsimp only)
    exact agi;try rfl
   ·(try dsimp only)
    exact agr;try rfl
   rintro⟨OUT,p,o,y⟩ ⟨⟨hp,hLp⟩,⟨hoo,hoy,hy⟩,f,hf,hout⟩;dsimp only at hp hLp hoo hoy hy hf hout⊢;have hoo2:¬o=2:=fun e=>hoo e.symm;by_cases hpl:p<ks.length
   ·obtain⟨f,rfl⟩:∃g,f=g+1:=⟨f-1,by omega⟩
    obtain⟨hm1,hm2⟩:=hnm p hpl hLp;have hn1:=hm1.1;have hn2:=hm1.2.1;rw[hpS f p hpl,List.map_cons]at hout;have hout2:(OUT++[(Nx p:Int)])++(o7 ks h f (Nx p)).map (fun n:Nat=>(n:Int))=Z:=by rw[List.append_assoc];exact hout
    have hol:OUT.length+1≤ks.length:=by have:=congrArg List.length hout2;simp only[List.length_append,List.length_singleton]at this;omega
    clear hout hnm hpe hpS hm1 hLL hNN hZ hch;replace hout2:=Lib.hid hout2;replace hm2:=Lib.hid hm2;(refine wlk ?_;intros);refine⟨(OUT++[(Nx p:Int)],Nx p,y+1,y+2),⟨⟨by dsimp only;omega,hm2.out⟩,⟨by dsimp only;omega,by dsimp only;omega,by dsimp only;omega⟩,f,by dsimp only;omega,hout2.out⟩,by dsimp only;omega,?_,?_,rfl⟩
    ·(try dsimp only)
     exact agi
    ·(try dsimp only)
     exact agr
   ·obtain rfl:p=ks.length:=by omega
    rw[hpe f,List.map_nil,List.append_nil]at hout;subst hout;clear hnm hpe hpS hLL hNN hZ hch hNb;(refine wlk ?_;intros);all_goals((with_reducible apply bV (by first|exact .inl rfl|exact .inr rfl));(exact sr))
    all_goals exact PV.le_refl _
def aB2:Ctx:={fn:=aT [(28,φOb),(29,φBl),(31,aaq),(30,y9)],io:=aT []}
theorem fK:ak Tryz.prog aB2:=okΓ (fC Tryz.func28 aii (fC Tryz.func29 alV (fC Tryz.func31 ajd (fC Tryz.func30 ah9 aj)))) aj
def aaO:=ah (Γ:=aB2) (f:=28) (φ:=φOb) rfl
def aaV:=ah (Γ:=aB2) (f:=29) (φ:=φBl) rfl
def aas:=ah (Γ:=aB2) (f:=31) (φ:=aaq) rfl
def abo:=ah (Γ:=aB2) (f:=30) (φ:=y9) rfl
theorem amE:Sound Tryz.prog 8 φBp:=by
 refine HZ.sound (N:=63) (rs:=[.tmp 2,.tmp 3]) Tryz.func8 rfl rfl rfl fun ps r hr=>?_;obtain⟨⟨p,q,x,y,z⟩,rfl,hq⟩:=bK hr;clear hr;split at hq
 case isFalse=>cases hq
 case isTrue hpre=>
 cases hq;refine⟨by simp,fun B w00=>HZ.start ?_⟩;simp only[dIs,dUs,dSs,dw,dx,dh,dA,aS,dz,aQ,aR,aO,aP];(try dsimp only at hpre⊢);show HZ _ _ _ _ _ _ ⟨(dG [bkP p q x y z]).tm,fun _=>none,0⟩ _;have ap0:=ax0 (x:=x) (y:=y) (z:=z) hpre;have ap1:=awJ (x:=x) (y:=y) (z:=z) hpre;cases hB:blB p q x y z with
 |false=>
  have hb:bpB p q x y z=false:=by unfold bpB;rw[hB];rfl
  rw[aj6 hb,hb,List.map_nil];rw[hB]at ap1;clear hpre hB hb;generalize blL p q x y z=BL at*;generalize blC p q x y z=BC at*;have gbgs_c28:=aaO;have gbgs_c29:=aaV;have gbgs_c31:=aas;have gbgs_c30:=abo;refine HZ.eng mixed fK (by kernel_rfl) ?_;(try dsimp only);(refine wlk ?_;intros);(try dsimp only);refine⟨by simp,⟨_,fun g w v h=>h,by(exact sr)⟩,fun i e=>False.elim e⟩
 |true=>
  rw[hB]at ap1;have hl60:=aj3 (p:=p) (q:=q) (x:=x) (y:=y) (z:=z) (by unfold blB jg at hB;simp only[Bool.and_eq_true,decide_eq_true_eq]at hB;exact hB.1.2.1)
  by_cases h30:(blL p q x y z).length≤30
  ·obtain⟨k1,k2,k3,k4,k5⟩:=ahD hB h30
   have hzz:((z.toNat:Nat):Int)=z:=by omega
   have ap2:=vv k1;have ap3:=vw (ks:=kQ p q x y) (h:=z.toNat) (by omega) (by omega) (by omega);rw[hzz]at ap3;rw[k2]at ap1;have hV:bpV p q x y z=if bpB p q x y z=true then lY (blL p q x y z) 0 (kW (kQ p q x y) z.toNat)else []:=rfl;have hb:bpB p q x y z=ab7 (kQ p q x y) z.toNat:=by unfold bpB;rw[hB,decide_eq_true h30];rfl
   rw[hb]at hV;rw[hV,hb];have hch:=fun h=>zJ (ks:=kQ p q x y) (h:=z.toNat) h;rw[show eO (sK p q x y)=kQ p q x y from rfl]at ap2;clear hpre hB hV hb k1 k2 hzz;generalize blL p q x y z=BL at*;generalize zN (sK p q x y)=CN at*;generalize kQ p q x y=KS at*;cases hG:ab7 KS z.toNat with
   |false=>rw[hG]at ap3;rw[if_neg (by decide),List.map_nil];clear hch hG;have gbgs_c28:=aaO;have gbgs_c29:=aaV;have gbgs_c31:=aas;have gbgs_c30:=abo;refine HZ.eng mixed fK (by kernel_rfl) ?_;(try dsimp only);(refine wlk ?_;intros);(try dsimp only);refine⟨by simp,⟨_,fun g w v h=>h,by(exact sr)⟩,fun i e=>False.elim e⟩
   |true=>
    rw[hG]at ap3;have hc:=hch hG;rw[if_pos rfl];have hct:=fun k h=>ag7 (l:=BL) (e:=kW KS z.toNat) (k:=k) h;have hfl:=fun k h=>afD hc (k:=k) h;have hfs:=fun k h=>yj (e:=kW KS z.toNat) (k:=k) h;have hel:=xZ hc;have hfull:(kW KS z.toNat).take (kW KS z.toNat).length=kW KS z.toNat:=List.take_length;have hze:=fun k h=>aq1 (c:=kW KS z.toNat) (k:=k) h;have hzl:(zN (kW KS z.toNat)).length=(kW KS z.toNat).length:=by simp
    rw[show(kW KS z.toNat).map (fun n:Nat=>(n:Int))=zN (kW KS z.toNat)from rfl]at ap3;clear hch hG hc;generalize kW KS z.toNat=E at*;generalize zN E=ZE at*;have gbgs_c28:=aaO;have gbgs_c29:=aaV;have gbgs_c31:=aas;have gbgs_c30:=abo;refine HZ.seq (HZ.eng mixed fK (by kernel_rfl) ?_);(try dsimp only);(refine wlk ?_;intros);(try dsimp only[X.out]);(try simp only[↓reduceIte]);refine HZ.seq (HZ.eng mixed fK (by kernel_rfl) ?_);(try dsimp only);(refine wlk ?_;intros);(try dsimp only[X.out]);(try simp only[↓reduceIte]);refine HZ.seq (HZ.eng mixed fK (by kernel_rfl) ?_);(try dsimp only);(refine wlk ?_;intros);(try dsimp only[X.out]);(try simp only[↓reduceIte]);refine HZ.seq (HZ.eng mixed fK (by kernel_rfl) ?_);(try dsimp only);(refine wlk ?_;intros);(try dsimp only[X.out]);(try simp only[↓reduceIte]);refine HZ.seq (HZ.eng mixed fK (by kernel_rfl) ?_);(try dsimp only);(refine wlk ?_;intros);(try dsimp only[X.out]);(try simp only[↓reduceIte]);refine HZ.seq (HZ.eng mixed fK (by kernel_rfl) ?_);(try dsimp only);(refine wlk ?_;intros);(try dsimp only[X.out]);(try simp only[↓reduceIte]);refine HZ.seq (HZ.eng mixed fK (by kernel_rfl) ?_);(try dsimp only);(refine wlk ?_;intros);(try dsimp only[X.out]);(try simp only[↓reduceIte]);refine HZ.seq (HZ.eng mixed fK (by kernel_rfl) ?_);(try dsimp only);(refine wlk ?_;intros);(try dsimp only[X.out]);(try simp only[↓reduceIte]);refine HZ.seq (HZ.seq (HZ.eng mixed fK (by kernel_rfl) ?_));(try dsimp only);(refine wlk ?_;intros);(try dsimp only[X.out]);(try simp only[↓reduceIte]);refine HZ.block (HZ.zf (α:=Nat×Nat×Nat) (fun i=>[(4,.row i.2.1 1 0 i.1),(5,.lst true 1 (BL.map fun s=> .val (.string s))),(8,.lst true 1 (ZE.map fun n=> .val (.int .i64 n))),(10,iv (ql E i.1)),(11,iv i.1)]) (fun i=>[(i.2.1,24,1,(lY BL 0 (E.take i.1)).map fB)]) (fun i=>i.2.2)
     (fun i σ=>(i.1≤E.length∧i.2.1<i.2.2)∧σ=Fgn.no) (fun i=>E.length-i.1) (0,1,2) ⟨⟨Nat.zero_le _,by decide⟩,rfl⟩ ?_ ?_ rfl ?_)
    ·have z1:ql E 0=0:=rfl
     (try dsimp only);rw[z1];exact agr
    ·have z0:(lY BL 0 (E.take 0)).map fB=[]:=rfl
     (try dsimp only);rw[z0];exact agr
    rintro⟨k,o,y⟩ σ ⟨⟨hk,hoy⟩,rfl⟩;dsimp only at hk hoy;clear ap0 ap1 ap2 ap3;by_cases hkl:k<E.length
    ·have h1:=hct k hkl
     have h2:=hfl k hkl;have h3:=hfs k hkl;have h4:=hze k hkl;have hcl:((lY BL 0 (E.take k)).map fB).length=k:=by rw[List.length_map,qj,List.length_take];omega
     clear hct hfl hfs hze hfull;have hkz:k<ZE.length:=by omega
     have h5:E[k]?.getD 0≤BL.length:=by omega
     have h1:(lY BL 0 (E.take (k+1))).map fB=(lY BL 0 (E.take k)).map fB++[fB ((BL.drop (ql E k)).take (E[k]?.getD 0-ql E k))]:=by rw[h1,List.map_append];rfl
     replace h1:=Lib.hid h1;replace h3:=Lib.hid h3;generalize E[k]?.getD 0=e at*;generalize ql E k=f at*;generalize(lY BL 0 (E.take k)).map fB=R at*;refine HZ.seq (HZ.eng mixed fK (by kernel_rfl) ?_);(try dsimp only);(refine wlk ?_;intros);(try dsimp only[X.out]);(try simp only[↓reduceIte]);refine HZ.seq (HZ.block (HZ.seq (HZ.eng mixed fK (by kernel_rfl) ?_)));(try dsimp only);(refine wlk ?_;intros);(try dsimp only[X.out]);(try simp only[↓reduceIte]);refine HZ.tX (o:=y+1) (x:=y+1+1+1) (T:=9) (sz:=1) (T2:=24) (sz2:=1) (n:=e-f) (es:=((BL.drop f).take (e-f)).map fun s=> .val (.string s)) (l:=R) (by(exact sr)) (by(exact sr)) (by rw[List.length_map,List.length_take,List.length_drop];omega) (by omega) ?_;refine HZ.eng mixed fK (by kernel_rfl) ?_;(try dsimp only);(refine wlk ?_;intros);(try dsimp only[X.out]);(try simp only[↓reduceIte]);refine HZ.eng mixed fK (by kernel_rfl) ?_;(try dsimp only);(refine wlk ?_;intros);(try dsimp only[X.out]);(try simp only[↓reduceIte]);refine⟨(k+1,y+1+1+1,y+1+1+1+1),⟨⟨by dsimp only;omega,by dsimp only;omega⟩,by trivial⟩,by dsimp only;omega,?_,?_,rfl⟩
     ·(try dsimp only)
      rw[h3.out];exact agi
     ·(try dsimp only)
      rw[h1.out];exact agr
    ·obtain rfl:k=E.length:=by omega
     rw[hfull];clear hct hfl hfs hze hfull;have hcl:(lY BL 0 E).length=E.length:=qj;generalize lY BL 0 E=L at*;refine HZ.seq (HZ.eng mixed fK (by kernel_rfl) ?_);(try dsimp only);(refine wlk ?_;intros);(try dsimp only[X.out]);(try simp only[↓reduceIte]);refine HZ.eng mixed fK (by kernel_rfl) ?_;(try dsimp only);(refine wlk ?_;intros);(try dsimp only[X.out]);(try simp only[↓reduceIte]);refine⟨by simp,⟨_,fun g w v h=>h,by(exact sr)⟩,fun i e=>False.elim e⟩
  ·have hb:bpB p q x y z=false:=by unfold bpB;rw[decide_eq_false h30,Bool.false_and,Bool.and_false]
   rw[aj6 hb,hb,List.map_nil];clear hpre hB hb;generalize blL p q x y z=BL at*;generalize blC p q x y z=BC at*;have gbgs_c28:=aaO;have gbgs_c29:=aaV;have gbgs_c31:=aas;have gbgs_c30:=abo;refine HZ.eng mixed fK (by kernel_rfl) ?_;(try dsimp only);(refine wlk ?_;intros);(try dsimp only);refine⟨by simp,⟨_,fun g w v h=>h,by(exact sr)⟩,fun i e=>False.elim e⟩
structure BpF (BL:LS) (z:Int) (V:List LS) (E C:List Nat):Prop where
 len:V.length=E.length
 e30:E.length≤30
 row:∀k,k<E.length→1≤(V[k]?.getD []).length∧((V[k]?.getD []).length:Int)≤z
 sum:∀k,k<E.length→((V.take (k+1)).flatten).length=E[k]?.getD 0
 flat:V.flatten=BL
 b30:BL.length≤30
 ee:∀k,k<E.length→E[k]?.getD 0≤30
 cs:∀j,(C.take j).sum≤30
 brk:∀k j,k+1<E.length→j<C.length→1<C[j]?.getD 0→¬E[k]?.getD 0=(C.take j).sum+1∧¬E[k]?.getD 0+1=(C.take j).sum+C[j]?.getD 0
theorem asw {p:List LS} {q:LS} {x y z:Int} (hb:bpB p q x y z=true):blB p q x y z=true∧blC p q x y z=zN (sK p q x y)∧BpF (blL p q x y z) z (bpV p q x y z) (kW (kQ p q x y) z.toNat) (sK p q x y):=by
 have hV:bpV p q x y z=lY (blL p q x y z) 0 (kW (kQ p q x y) z.toNat):=if_pos hb;unfold bpB at hb;rw[Bool.and_eq_true,Bool.and_eq_true]at hb;obtain⟨hB,h30,hG⟩:=hb;have h30:=of_decide_eq_true h30;obtain⟨k1,k2,k3,k4,k5⟩:=ahD hB h30;have hc:=zJ hG;have hl:=xZ hc;rw[hV];refine⟨hB,k2,qj,by omega,fun k hk=>?_,fun k hk=>?_,?_,h30,fun k hk=>?_,fun j=>?_,fun k j hk hj h1=>?_⟩
 ·have hk2:k<(lY (blL p q x y z) 0 (kW (kQ p q x y) z.toNat)).length:=by rw[qj];exact hk
  have hm:=anb k3.symm hc _ (List.getElem_mem hk2);rw[List.getElem?_eq_getElem hk2,Option.getD_some];exact⟨hm.1,by have:=hm.2;omega⟩
 ·have:=aku k3.symm hc k hk
  omega
 ·exact(agh k3.symm hc).trans (List.drop_zero ..)
 ·have:=(afD hc hk).2
  omega
 ·have:=xS (sK p q x y) j
  have:=k1.2;omega
 ·obtain⟨p',hm⟩:=atC hc k (by omega)
  exact aoW hm (akN hc k hk) hj h1
abbrev BL:=Op.bytesLess
theorem atV:∀x:List UInt8,BL x x=false
 |[]=>rfl
 |a::x=>by unfold BL Op.bytesLess;have:=atV x;unfold BL at this;rw[this];simp
theorem agH (x:List UInt8):BL x []=false:=by cases x<;>rfl
theorem sU {a b:UInt8} {x y:List UInt8}:BL (a::x) (b::y)=true↔a.toNat<b.toNat∨(a.toNat=b.toNat∧BL x y=true):=by
 unfold BL
 conv=>lhs;unfold Op.bytesLess
 rw[Bool.or_eq_true,Bool.and_eq_true,decide_eq_true_eq,beq_iff_eq,UInt8.lt_iff_toNat_lt,←UInt8.toNat_inj]
theorem ahX:∀{x y z:List UInt8},BL x y=true→BL y z=true→BL x z=true
 |_,[],_,h,_=>by rw[agH]at h;cases h
 |_,_::_,[],_,h=>by rw[agH]at h;cases h
 |[],_::_,_::_,_,_=>rfl
 |a::x,b::y,c::z,h1,h2=>by
  rw[sU]at h1 h2⊢;rcases h1 with h1|⟨h1,h3⟩<;>rcases h2 with h2|⟨h2,h4⟩
  ·left;omega
  ·left;omega
  ·left;omega
  ·right;exact⟨by omega,ahX h3 h4⟩
theorem atg:∀x y:List UInt8,BL x y=true∨x=y∨BL y x=true
 |[],[]=> .inr (.inl rfl)
 |[],_::_=> .inl rfl
 |_::_,[]=> .inr (.inr rfl)
 |a::x,b::y=>by
  rw[sU,sU];rcases Nat.lt_trichotomy a.toNat b.toNat with h|h|h
  ·exact .inl (.inl h)
  ·rcases atg x y with h2|h2|h2
   ·exact .inl (.inr ⟨h,h2⟩)
   ·exact .inr (.inl (by rw[h2,UInt8.toNat_inj.1 h]))
   ·exact .inr (.inr (.inr ⟨h.symm,h2⟩))
  ·exact .inr (.inr (.inl h))
def ltB (a b:ByteArray):Bool:=BL a.data.toList b.data.toList
theorem tu (a:ByteArray):ltB a a=false:=atV _
theorem rQ {a b c:ByteArray} (h:ltB a b=true) (h2:ltB b c=true):ltB a c=true:=ahX h h2
theorem ad2 (a b:ByteArray):ltB a b=true∨a=b∨ltB b a=true:=by
 rcases atg a.data.toList b.data.toList with h|h|h
 ·exact .inl h
 ·refine .inr (.inl ?_)
  obtain⟨⟨x⟩⟩:=a;obtain⟨⟨y⟩⟩:=b;simpa using h
 ·exact .inr (.inr h)
theorem yI {a b:ByteArray} (h:ltB a b=true):ltB b a=false:=by
 cases h2:ltB b a with
 |false=>rfl
 |true=>have:=rQ h h2;rw[tu]at this;cases this
theorem aCk {a b:ByteArray} (h:ltB a b=true):¬a=b:=fun e=>by rw[e,tu]at h;cases h
theorem uf {α:Type} {R:α→α→Prop} (irr:∀a,¬R a a) (tr:∀a b c,R a b→R b c→R a c):∀{l l':List α},l.Pairwise R→l'.Pairwise R→(∀x,x∈l↔x∈l')→l=l'
 |[],[],_,_,_=>rfl
 |[],b::l',_,_,h=>by have:=(h b).2 (by simp);simp at this
 |a::l,[],_,_,h=>by have:=(h a).1 (by simp);simp at this
 |a::l,b::l',h1,h2,h=>by
  obtain⟨a1,a2⟩:=List.pairwise_cons.1 h1;obtain⟨b1,b2⟩:=List.pairwise_cons.1 h2;have hab:a=b:=by
   rcases List.mem_cons.1 ((h a).1 (by simp))with e|e
   ·exact e
   ·rcases List.mem_cons.1 ((h b).2 (by simp))with e2|e2
    ·exact e2.symm
    ·exact absurd (tr _ _ _ (a1 b e2) (b1 a e)) (irr a)
  subst hab;refine congrArg (a:: ·) (uf irr tr a2 b2 fun x=>⟨fun hx=>?_,fun hx=>?_⟩)
  ·rcases List.mem_cons.1 ((h x).1 (by simp[hx]))with e|e
   ·subst e;exact absurd (a1 x hx) (irr x)
   ·exact e
  ·rcases List.mem_cons.1 ((h x).2 (by simp[hx]))with e|e
   ·subst e;exact absurd (b1 x hx) (irr x)
   ·exact e
section
variable {P:Program} {t:Nat} {x y:Operand}
theorem sM (a b:ByteArray):Op.bytesLess a.toList b.toList=ltB a b:=by rw[Go.ByteArray.toList_eq,Go.ByteArray.toList_eq];rfl
theorem arl {a b:ByteArray}:aA P (do eqGuard .lss t x y (.string a) (.string b);binOp .lss t (.string a) (.string b))=some (.bool (Op.bytesLess a.toList b.toList)):=by simp[eqGuard,binOp,Op.stringOp,bind,Sem.bind,pure,aA]
theorem aqr {a b:ByteArray}:aA P (do eqGuard .gtr t x y (.string a) (.string b);binOp .gtr t (.string a) (.string b))=some (.bool (!(Op.bytesLess a.toList b.toList||a.toList==b.toList))):=by simp[eqGuard,binOp,Op.stringOp,bind,Sem.bind,pure,aA]
theorem asr {a b:ByteArray}:aA P (do eqGuard .geq t x y (.string a) (.string b);binOp .geq t (.string a) (.string b))=some (.bool (!Op.bytesLess a.toList b.toList)):=by simp[eqGuard,binOp,Op.stringOp,bind,Sem.bind,pure,aA]
theorem avA {a b:ByteArray}:lX P .lss t x y (some (.string a)) (some (.string b))=some (.val (.bool (ltB a b))):=by simp only[lX,arl,sM,Option.map_some]
theorem auS {a b:ByteArray}:lX P .gtr t x y (some (.string a)) (some (.string b))=some (.val (.bool (ltB b a))):=by
 simp only[lX,aqr,sM,yK,Option.map_some];have:(!(ltB a b||decide (a=b)))=ltB b a:=by
  rcases ad2 a b with h|h|h
  ·rw[h,yI h];rfl
  ·subst h;rw[tu];simp
  ·have h2:=yI h
   have h3:¬a=b:=fun e=>aCk h e.symm;rw[h,h2];simp[h3]
 rw[this]
theorem avl {a b:ByteArray}:lX P .geq t x y (some (.string a)) (some (.string b))=some (.val (.bool (!ltB a b))):=by simp only[lX,asr,sM,Option.map_some]
end
attribute[push_cast]
 avA auS avl
theorem aep (w:World) (k:Nat) (os:Array Obj):Below w.heap.size w (Sort.grow (w.drewN k) os):=
 ⟨rfl,rfl,rfl,by simp[Sort.grow,World.drewN],fun b hb=>by simp[Sort.grow,World.drewN,Array.getElem?_append_left hb]⟩
def jR (n:Int):ByteArray:=⟨(Lib.itoa n).toArray⟩
theorem aq8 {w:World} {io:Nat→Prop} (hT:tZ w io):Lib.TabIs Tryz.prog w "internal/strconv.uint64pow10" .u64 Lib.pow10Tab:=by obtain⟨T,k,h⟩:=hT.at_ _ (List.mem_cons_self ..);unfold Lib.TabIs World.var?;rw[show Tryz.prog.globalNamed "internal/strconv.uint64pow10" =some _ by kernel_rfl,Option.bind_some,h]
def ag3:Fun:=F1 dI fun n=>if okI n then some (.val (.string (jR n)))else none
theorem adF {n:Int} (h:okI n):ag3 [.val (.int .i64 n)]=some (.val (.string (jR n))):=(fM (A:=dI) n).trans (if_pos h)
theorem axK:Sound Tryz.prog 39 ag3:=by
 intro w J ps args r hr hJ hT hargs;obtain⟨n,rfl,hq⟩:=bK hr;split at hq
 case isFalse=>cases hq
 case isTrue hok=>
 cases hq;have hargs:=hargs;simp only[cZ]at hargs;obtain⟨v1,vs1,e1,h1,rfl⟩:=hargs;obtain rfl:args=#[v1]:=by obtain⟨a⟩:=args;simp only at e1;rw[e1]
 simp only[dI,Rep]at h1;subst h1;refine(YtmmafcjjlbgnkaaGreatDoor.strconv_Itoa n hok.1 hok.2 w (aq8 hT)).mono ?_;rintro e w' ⟨rfl,k,os,rfl⟩;exact⟨_,rfl,aep w k os,fun g' _=>by simp only[Rep];rfl⟩
def aj2 (n m:Int) (out:ByteArray):Prop:=Lib.decDigits n.toNat=(if m<10 then []else Lib.decDigits (m/10).toNat)++out.data.toList
theorem acN {m:Int} (h0:0≤m) (h:m<10):Lib.decDigits m.toNat=[UInt8.ofNat (48+(m % 10).toNat)]:=by rw[Lib.decDigits,dif_pos (by omega)];congr 2;omega
theorem akM {m:Int} (h:¬m<10):Lib.decDigits m.toNat=Lib.decDigits (m/10).toNat++[UInt8.ofNat (48+(m % 10).toNat)]:=by rw[Lib.decDigits,dif_neg (by omega),show m.toNat/10=(m/10).toNat by omega,show m.toNat % 10=(m % 10).toNat by omega]
abbrev atf (m:Int):ByteArray:=bytesOf [IntKind.u8.wrap (48+m % 10)]
theorem xY (m:Int):(atf m).data.toList=[UInt8.ofNat (48+(m % 10).toNat)]:=by
 have e:IntKind.u8.wrap (48+m % 10)=48+m % 10:=by rw[IntKind.wrap_u8];omega
 have e2:(48+m % 10).toNat=48+(m % 10).toNat:=by omega
 unfold atf bytesOf;rw[e];simp[e2]
theorem aj2.start {n:Int} (h:0≤n):aj2 n n (atf n):=by
 unfold aj2;split
 ·rw[acN h (by assumption),xY];rfl
 ·rw[akM (by assumption),xY]
theorem aj2.step {n m:Int} {out:ByteArray} (h:aj2 n m out) (h0:9<m):aj2 n (m/10) (atf (m/10)++out):=by
 unfold aj2 at h⊢;rw[if_neg (by omega)]at h;rw[h];have e:(atf (m/10)++out).data.toList=[UInt8.ofNat (48+(m/10 % 10).toNat)]++out.data.toList:=by rw[ByteArray.data_append,Array.toList_append,xY]
 rw[e,←List.append_assoc];congr 1;split
 ·rw[acN (by omega) (by assumption)];rfl
 ·rw[akM (by assumption)]
theorem aj2.stop {n m:Int} {out:ByteArray} (h:aj2 n m out) (hn:0≤n) (h0:¬9<m):out=jR n:=by unfold aj2 at h;rw[if_pos (by omega),List.nil_append]at h;unfold jR Lib.itoa;rw[if_neg (by omega),h]
theorem asB:∀(u:Nat),∃b r,Lib.decDigits u=b::r∧48≤b.toNat:=fun u=>by
 induction u using Nat.strongRecOn with
 |_ u ih=>
  by_cases h:u<10
  ·refine⟨_,[],by rw[Lib.decDigits,dif_pos h],?_⟩
   show 48≤(48+u) % 256;omega
  ·obtain⟨b,r,h1,h2⟩:=ih (u/10) (by omega)
   exact⟨b,r++[UInt8.ofNat (48+u % 10)],by rw[Lib.decDigits,dif_neg h,h1];rfl,h2⟩
theorem ajA {n:Int} (h:0≤n):0<(jR n).size∧48≤at8 (jR n) 0:=by
 obtain⟨b,r,h1,h2⟩:=asB n.toNat;have e:(jR n).data.toList=b::r:=by unfold jR Lib.itoa;rw[if_neg (by omega),h1]
 have hl:(jR n).data.toList.length=(jR n).size:=Array.length_toList;have h3:0<(jR n).data.toList.length:=by rw[e];simp
 refine⟨by omega,?_⟩;rw[aAu h3];have:(jR n).data.toList[0]=b:=by simp only[e,List.getElem_cons_zero]
 rw[this];omega
def aqG:Fun:=F1 dI fun n=>if 0≤n∧n≤1099511627776 then some (.val (.string (jR n)))else none
theorem agp {n:Int} (h:0≤n) (h2:n≤1099511627776):aqG [.val (.int .i64 n)]=some (.val (.string (jR n))):=(fM (A:=dI) n).trans (if_pos ⟨h,h2⟩)
theorem az8:Sound Tryz.prog 119 aqG:=by
 refine au mixed iL Tryz.func119 rfl 23 rfl [.tmp 2] rfl (by kernel_rfl) fun ps r hr=>?_;obtain⟨n,rfl,hpre,rfl⟩:=jy hr;refine⟨by simp,?_⟩;simp only[dIs,dUs,dSs,dw,dx,dh,dA,aS,dz,aQ,aR,aO,aP];obtain⟨h0,h1⟩:=hpre;have hst:=Lib.hid (aj2.start h0);have hd9:0≤n % 10∧n % 10≤9:=by omega
 (refine wlk ?_;intros);refine aD (α:=Int×ByteArray×Nat) mixed (fun s=>[(0,iv s.1),(3,.val (.string s.2.1))])
  (fun s=>[]) (fun s=>s.2.2)
  (fun s=>0≤s.1∧s.1≤1099511627776∧aj2 n s.1 s.2.1∧(s.2.1.size:Int)+s.1≤1099511627780∧0<s.2.2) (fun s=>s.1.toNat) (by kernel_rfl) (n,atf n,1) ⟨h0,h1,hst.out,by dsimp only;have:(atf n).size=1:=kH _;omega,by simp⟩ ?_ ?_ rfl ?_
 ·exact agr
 ·exact agr
 rintro⟨m,out,y⟩ ⟨m0,m1,hI,hsz,hy⟩;dsimp only at m0 m1 hI hsz hy;replace hI:=Lib.hid hI;by_cases h9:9<m
 ·have hst:=Lib.hid (hI.out.step h9)
  (refine wlk ?_;intros);refine⟨(m/10,atf (m/10)++out,y+1),⟨by dsimp only;omega,by dsimp only;omega,hst.out,by dsimp only;rw[ByteArray.size_append,kH];simp only[List.length_cons,List.length_nil];omega,by dsimp only;omega⟩,by dsimp only;omega,?_,?_,rfl⟩
  ·exact agr
  ·exact agr
 ·have hst:=hI.out.stop h0 h9
  subst hst;exact wlkF
abbrev Rn:=Int×Int
def sQ (R:List Rn) (n:Int):List Rn:=match R.getLast? with
 |some r=>if r.2+1=n then R.dropLast++[(r.1,n)]else R++[(n,n)]
 |none=>[(n,n)]
def iF (l:List Int):List Rn:=l.foldl sQ []
def runT (r:Rn):ByteArray:=if r.1=r.2 then jR r.1 else(jR r.1++⟨#[45]⟩)++jR r.2
def csB:ByteArray:=⟨#[44,32]⟩
def mW (l:List Int):ByteArray:=mg ((iF l).map runT) csB
def lK (l:List Int):ByteArray:=if iX l=true then mW l else⟨#[]⟩
theorem jJ (l:List Int) (n:Int):iF (l++[n])=sQ (iF l) n:=by simp[iF,List.foldl_append]
theorem jr (R:List Rn) (r:Rn) (n:Int):sQ (R++[r]) n=if r.2+1=n then R++[(r.1,n)]else R++[r]++[(n,n)]:=by unfold sQ;rw[List.getLast?_append];simp
theorem nV:∀(l:List Int) (n:Int),∃R a,iF (l++[n])=R++[(a,n)]:=fun l n=>by
 rw[jJ];rcases List.eq_nil_or_concat (iF l)with h|⟨R,r,h⟩
 ·rw[h];exact⟨[],n,rfl⟩
 ·rw[h,List.concat_eq_append,jr]
  split
  ·exact⟨R,r.1,rfl⟩
  ·exact⟨R++[r],n,rfl⟩
theorem iq {l:List Int} {k:Nat} (h:k<l.length):l.take (k+1)=l.take k++[l[k]?.getD 0]:=by rw[List.take_succ_eq_append_getElem h,List.getElem?_eq_getElem h];rfl
theorem aoP {l:List Int} {k:Nat} (hk:k<l.length) (hb:0<k→¬l[k-1]?.getD 0+1=l[k]?.getD 0):∀e,k≤e→e<l.length→(∀j,k≤j→j<e→l[j+1]?.getD 0=l[j]?.getD 0+1)→
 iF (l.take (e+1))=iF (l.take k)++[(l[k]?.getD 0,l[e]?.getD 0)]:=by
 intro e
 induction e with
 |zero=>
  intro h1 _ _;obtain rfl:k=0:=by omega
  rw[iq hk];rfl
 |succ e ih=>
  intro h1 h2 h3;by_cases he:k=e+1
  ·subst he
   rw[iq h2,jJ];have hb:=hb (by omega);rw[show e+1-1=e by omega]at hb;obtain⟨R,a,hR⟩:=nV (l.take e) (l[e]?.getD 0);rw[iq (show e<l.length by omega),hR,jr,if_neg hb]
  ·have hR:=ih (by omega) (by omega) fun j h4 h5=>h3 j h4 (by omega)
   rw[iq h2,jJ,hR,jr,if_pos (by rw[h3 e (by omega) (by omega)])]
theorem ai6 {l:LS} (h:0<l.length) (z sep:ByteArray):mg (l++[z]) sep=(mg l sep++sep)++z:=by
 cases l with
 |nil=>simp at h
 |cons x r=>refine zY ?_;rw[ByteArray.data_append,Array.toList_append,ByteArray.data_append,Array.toList_append];show Lib.join ((x::(r++[z])).map (·.data.toList)) sep.data.toList=Lib.join ((x::r).map (·.data.toList)) sep.data.toList++sep.data.toList++z.data.toList;rw[List.map_cons,List.map_cons,Lib.join_cons,Lib.join_cons];simp[Lib.joinTail]
theorem anl (z sep:ByteArray):mg [z] sep=z:=zY (by show Lib.join [z.data.toList] sep.data.toList=z.data.toList;rw[Lib.join_one])
theorem aow {l:List Int} {k e:Nat} (hk:k<l.length) (hb:0<k→¬l[k-1]?.getD 0+1=l[k]?.getD 0) (h1:k≤e) (h2:e<l.length) (h3:∀j,k≤j→j<e→l[j+1]?.getD 0=l[j]?.getD 0+1):
 mW (l.take (e+1))=(if k=0 then⟨#[]⟩else mW (l.take k)++csB)++runT (l[k]?.getD 0,l[e]?.getD 0):=by
 unfold mW;rw[aoP hk hb e h1 h2 h3,List.map_append,List.map_singleton];split
 ·rename_i h
  subst h;show mg [_] csB=_;rw[anl];exact zY (by rw[ByteArray.data_append,Array.toList_append];rfl)
 ·rename_i h
  obtain⟨R,a,hR⟩:=nV (l.take (k-1)) (l[k-1]?.getD 0);rw[←iq (show k-1<l.length by omega),show k-1+1=k by omega]at hR;rw[ai6 (by rw[hR];simp)]
theorem aov {l:List Int} {k:Nat} (h0:0<k) (hk:k≤l.length) (hp:∀j,j<l.length→0≤l[j]?.getD 0):0<(mW (l.take k)).size:=by
 obtain⟨R,a,hR⟩:=nV (l.take (k-1)) (l[k-1]?.getD 0);rw[←iq (show k-1<l.length by omega),show k-1+1=k by omega]at hR;unfold mW;rw[aac,hR,List.map_append,List.map_singleton];have hz:0<(runT (a,l[k-1]?.getD 0)).size:=by
  have:=(ajA (hp (k-1) (by omega))).1;unfold runT;split
  ·rename_i h;simp only at h;rw[h];exact this
  ·rw[ByteArray.size_append];dsimp only;omega
 have:(runT (a,l[k-1]?.getD 0)).size≤yY (R.map runT++[runT (a,l[k-1]?.getD 0)]):=by unfold yY;rw[List.map_append,List.sum_append];simp
 omega
end
end Go.Proofs.YtmmafcjjlbgnkaaGreatDoor
