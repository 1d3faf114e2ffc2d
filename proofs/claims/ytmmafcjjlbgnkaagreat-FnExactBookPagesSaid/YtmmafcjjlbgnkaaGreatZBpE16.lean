/- What the proof rests on, part 16: contracts of functions. No condition beyond what each states. -/
import Derived.Test.YtmmafcjjlbgnkaaGreatZBpE15
namespace Go.Proofs.YtmmafcjjlbgnkaaGreat
open Go.RowKit
set_option linter.all false
set_option maxHeartbeats 32000000
noncomputable section
section
variable {P:Program} {N B:Nat} {w00:World} {s:AS} {σ:Fgn} {ops:Array Oper} {J:AS→Fgn→Prop} {j:Nat} {o:Oper} {l:List Oper}
theorem Zt.weak {a:Act} {w:World} {t:Nat} {p:PV} (h:Zt P N B w00 s σ a w) (hp:∀(g:Gh) (w:World) (v:Value),Rep g w (s.tm t) v→Rep g w p v):Zt P N B w00 ⟨upd s.tm t p,s.ob,s.nx⟩ σ a w:=by
 obtain⟨⟨io,w0,g,hr,hC⟩,hM⟩:=h;refine⟨⟨io,w0,g,⟨hr.nt,hr.df,fun t'=>?_,hr.ob,hr.inj,hr.nx,hr.lt,hr.new,hr.fr,hr.old,hr.fix,hr.hl,hr.tab⟩,hC⟩,hM⟩;show Rep g w (upd s.tm t p t') _;unfold upd;split
 ·rename_i e
  subst e;exact hp g w _ (hr.tm t')
 ·exact hr.tm t'
theorem ZO.weak {t:Nat} {p:PV} (hp:∀(g:Gh) (w:World) (v:Value),Rep g w (s.tm t) v→Rep g w p v) (h:ZO P N B w00 ops j l J ⟨upd s.tm t p,s.ob,s.nx⟩ σ):ZO P N B w00 ops j l J s σ:=ZO.mk fun hl a w hs Q hQ=>h.go hl a w (hs.weak hp) Q hQ
theorem Zt.asC {f d:Nat} {c:Call} {φ:Fun} {ps:List PV} {u:Value} (ho:o.op=.call c) (hc:c.callee=.value (.func f)) (hf:Fnd P f) (hdst:o.dst=some d) (hd:d<N) (hs:Sound P f φ) (hφ:φ ps=some (.val u)) {a:Act} {w:World} (hst:Zt P N B w00 s σ a w) {Jm:Nat→Prop} (hJ:∀i,Jm i→i<w.heap.size) (hargs:bI (kG Jm) w ps (c.args.map a.eval).toList) {Kn:Act→World→Prop} {Q:Exit→Act→World→Prop} (h:∀a' w',Zt P N B w00 (s.put (some d) (.val u)) σ a' w'→Kn a' w'):o.wp P a w Kn Q:=by
 have hst0:=hst;obtain⟨⟨io,w0,g,hr,hC⟩,hM⟩:=hst0;obtain⟨fn,hfn,hname,hbody⟩:=hf;have hrun:(execOp a.eval o).run P w=.ok (.enter f (c.args.map a.eval)) w:=by unfold execOp;simp only[ho,resolve,hc,Act.eval,Deferred.ofValue,Sem.run_bind,Sem.run_pure,Result.andThen_ok,invoke,callFunc,run_program,hfn];simp[hname,hbody]
 unfold Oper.wp;rw[hrun,Oper.upon_enter];refine(hs w Jm ps (c.args.map a.eval) _ hφ hJ ((hr.tab.keep hr.fr fun t ht=>(hr.tab.apart t ht)).io fun _ _ q=>False.elim q) hargs).mono ?_;rintro e w' ⟨v,rfl,hb,hv⟩;have hv1:=hv ⟨fun _ _=>True,fun _=>0,fun _=>0,0,fun _=>False⟩ fun _ _ _=>trivial;simp only[Rep]at hv1;subst hv1;rw[hdst];exact h _ _ ((hst.mZ (σ':=σ) ⟨hb.os,hb.tape,hb.output,hb.size,fun i hi _=>hb.block i hi⟩ (fun _ _ q=>q) (fun _ q=>q) (fun b' q=>Nat.lt_of_lt_of_le (hC.hb b' q) (Nat.le_trans hr.fr.size hb.size)) (σ.keep w w' (fun i hi=>hb.block i (Nat.lt_of_lt_of_le (hC.hb i hi) hr.fr.size)) hM)).put (fun x e=>by cases e;exact hd) fun g w=>by simp[Rep])
theorem ahA.rep {T1 T2:Nat} {vo vp:Value} {vs:List Value} {p:List LS} {q:LS} {x y z:Int} {w:World} (h:ahA T1 T2 vo vs vp p q w):Rep (kG fun i=>i<w.heap.size) w (ahv p q x y z) (bkV vo vp x y z):=by refine⟨_,rfl,_,_,rfl,h.ss.rep fun i hi=>h.ss.lt hi,_,_,rfl,h.row.axR fun g hg=>h.row.lt hg,?_⟩;simp[bI,Rep]
theorem aqy {vo vp:Value} {x y z:Int} (g:Gh) (w:World) (v:Value) (h:Rep g w (.val (bkV vo vp x y z)) v):Rep g w (bkQ vo vp x y z) v:=by simp only[Rep]at h;subst h;simp[Rep,bI]
theorem vJ {vo vp:Value} {x y z:Int} {g:Gh} {w:World} {v:Value} (h:Rep g w (bkQ vo vp x y z) v):v=bkV vo vp x y z:=by simp only[Rep,bI]at h;obtain⟨l,rfl,v1,l1,h1,rfl,v2,l2,rfl,rfl,v3,l3,rfl,rfl,v4,l4,rfl,rfl,v5,l5,rfl,rfl,rfl⟩:=h;obtain⟨ll⟩:=l;simp only at h1;rw[h1]
end
theorem aoJ {l:LS} {left:Int} (h:0≤szS left l) (h0:0≤left):szS left l+l.length≤left:=by
 unfold szS at h⊢;split at h
 ·omega
 ·rename_i h1
  rw[if_neg h1];have:=pE (l:=l.map (·.size)) (left:=left-l.length) (by omega);omega
theorem zB:∀{l:List LS} {left:Int},0≤oO left l→0≤left→(jV l:Int)≤left
 |[],left,h,h0=>by simp[jV];exact h0
 |p::l,left,h,h0=>by
  unfold oO at h;split at h
  ·omega
  ·rename_i h1
   have h2:=aoJ (l:=p) (left:=left) (by omega) h0;have h3:=zB (l:=l) h (by omega);unfold jV at h3⊢;simp only[List.map_cons,List.sum_cons];omega
theorem akh {p:List LS} {q:LS} (h:0≤alT p q):o7 p∧acP p q∧jV p≤1048576:=by
 unfold alT at h;split at h
 ·omega
 ·split at h
  ·omega
  ·rename_i h1 h2
   have h3:=ag1 (l:=p);have hq:lX q:=amz (by omega) (by omega) h3;have h4:p.length≤1048576∧0≤oO (1048576-p.length) p:=by
    unfold aex at h1;split at h1
    ·omega
    ·exact⟨by omega,by omega⟩
   have h5:=aci h4.2 (by omega) (by omega);have h6:∀i:Nat,lX (p[i]?.getD []):=fun i=>by
    by_cases hi:i<p.length
    ·rw[List.getElem?_eq_getElem hi,Option.getD_some]
     exact h5 _ (List.getElem_mem hi)
    ·rw[List.getElem?_eq_none (by omega)]
     exact⟨Nat.zero_le _,fun i=>by simp⟩
   have h7:=zB h4.2 (by omega);exact⟨⟨h4.1,List.all_eq_true.2 fun w hw=>decide_eq_true (h5 w hw).1⟩,⟨h4.1,h6,hq⟩,by omega⟩
def avD (σ τ:Fgn):Fgn:=⟨fun i=>σ.bk i∨τ.bk i,fun w=>(σ.at_ w∧τ.at_ w)∧∀i,σ.bk i→¬τ.bk i,fun w w' h hM=>⟨⟨σ.keep w w' (fun i hi=>h i (.inl hi)) hM.1.1,τ.keep w w' (fun i hi=>h i (.inr hi)) hM.1.2⟩,hM.2⟩⟩
section
variable {P:Program} {N B:Nat} {w00:World} {s:AS} {σ:Fgn} {ops:Array Oper} {J:AS→Fgn→Prop} {j:Nat} {o:Oper} {l:List Oper}
theorem ZO.oneG (hg:eH ops s o=some true) (h:∀a w,Zt P N B w00 s σ a w→∀(Kn:Act→World→Prop) (Q:Exit→Act→World→Prop),(∀s' σ' a' w',Zt P N B w00 s' σ' a' w'→ZO P N B w00 ops (j+1) l J s' σ'→Kn a' w')→o.wp P a w Kn Q):ZO P N B w00 ops j (o::l) J s σ:=ZO.mk fun hl a w hs Q hQ=>by
 have hk:ops.toList[j]?=some o:=by have:=congrArg (·[0]?) hl;simpa using this
 have hk':ops[j]?=some o:=by simpa using hk
 have hl':ops.toList.drop (j+1)=l:=by rw[←List.drop_drop,hl];rfl
 simp only[List.length_cons,List.range'_succ];rw[wpOps_cons];unfold wpOp;simp only[hk'];have hw:Region.wanted o (yielded ops a.tmps)=true:=by obtain⟨⟨io,w0,g,hr,hC⟩,hM⟩:=hs;exact sj hr hg
 rw[hw];simp only[if_true];left;exact h a w hs _ _ fun s' σ' a' w' hs' hh=>hh.go hl' a' w' hs' Q hQ
theorem ZO.ald {f d:Nat} {c:Call} {φ:Fun} {ps:List PV} {u:Value} (ho:o.op=.call c) (hc:c.callee=.value (.func f)) (hf:Fnd P f) (hdst:o.dst=some d) (hd:d<N) (hs:Sound P f φ) (hφ:φ ps=some (.val u)) (hg:eH ops s o=some true)
 (hargs:∀a w,Zt P N B w00 s σ a w→bI (kG fun i=>i<w.heap.size) w ps (c.args.map a.eval).toList) (h:ZO P N B w00 ops (j+1) l J (s.put (some d) (.val u)) σ):ZO P N B w00 ops j (o::l) J s σ:=
 ZO.oneG hg fun a w hst Kn Q hK=>Zt.asC ho hc hf hdst hd hs hφ hst (fun i hi=>hi) (hargs a w hst) fun a' w' hz=>hK _ _ a' w' hz h
end
section
variable {P:Program} {N B:Nat} {w00:World} {s:AS} {σ:Fgn} {o:Oper}
theorem Zt.get {a:Act} {w:World} (h:Zt P N B w00 s σ a w):∃g:Gh,(∀x:Operand,Rep g w (look s.tm x) (a.eval x))∧(∀(x:Operand) (q:PV),reify false 0 s.ob fuel (look s.tm x)=some q→Rep (kG fun i=>i<w.heap.size) w q (a.eval x))∧σ.at_ w:=by obtain⟨⟨io,w0,g,hr,hC⟩,hM⟩:=h;exact⟨g,fun x=>hr.look x,fun x q hq=>hr.avt hq,hM⟩
theorem Zt.ax8 {t d:Nat} {x:Operand} {b:Bool} (ho:o.op=.unOp .not t x) (hdst:o.dst=some d) (hd:d<N) (hx:look s.tm x=.val (.bool b)) {a:Act} {w:World} (hst:Zt P N B w00 s σ a w) {Kn:Act→World→Prop} {Q:Exit→Act→World→Prop} (h:∀a' w',Zt P N B w00 (s.put (some d) (.val (.bool !b))) σ a' w'→Kn a' w'):o.wp P a w Kn Q:=by
 have hst0:=hst;obtain⟨⟨io,w0,g,hr,hC⟩,hM⟩:=hst0;have hX:=hr.look x;rw[hx]at hX;simp only[Rep]at hX;have hrun:(execOp a.eval o).run P w=.ok (.value (.bool !b)) w:=by simp[execOp,ho,hX,Op.unary]
 unfold Oper.wp;rw[hrun,Oper.upon_value,hdst];exact h _ _ (hst.put (d:=some d) (fun y hy=>by cases hy;exact hd) fun g w=>by simp[Rep])
end
structure ql (T2:Nat) (vs:List Value) (ls:List LS) (w:World):Prop where
 len:vs.length=ls.length
 inn:∀(j:Nat) (u:Value) (l:LS),vs[j]?=some u→ls[j]?=some l→dZ T2 u (bY l) w
 dis:∀(i j:Nat) (x y:Value),i≠j→vs[i]?=some x→vs[j]?=some y→x.ownBlock=none∨x.ownBlock≠y.ownBlock
 one:∀u∈vs,aeS u
def afI (T2:Nat) (vs:List Value) (ls:List LS):Fgn:=⟨fun i=>∃u∈vs,u.ownBlock=some i,ql T2 vs ls,fun w w' h hM=>⟨hM.len,fun j u l h1 h2=>(hM.inn j u l h1 h2).same fun g hg=>h g ⟨u,List.mem_of_getElem? h1,hg⟩,hM.dis,hM.one⟩⟩
theorem ql.nil {T2:Nat} {w:World}:ql T2 [] [] w:=⟨rfl,fun j u l h=>by simp at h,fun i j x y _ h=>by simp at h,fun u hu=>by simp at hu⟩
theorem ql.snoc {T2:Nat} {vs:List Value} {ls:List LS} {w:World} {u:Value} {z:LS} {b:Nat} (h:ql T2 vs ls w) (hu:dZ T2 u (bY z) w) (hb:u.ownBlock=some b) (hn:∀v∈vs,v.ownBlock≠some b) (h1:aeS u):ql T2 (vs++[u]) (ls++[z]) w:=by
 have hget:∀(j:Nat) (x:Value),(vs++[u])[j]?=some x→(j<vs.length∧vs[j]?=some x)∨(j=vs.length∧x=u):=fun j x hj=>by
  rcases Nat.lt_trichotomy j vs.length with q|q|q
  ·rw[List.getElem?_append_left q]at hj;exact .inl ⟨q,hj⟩
  ·subst q;exact .inr ⟨rfl,by simpa using hj.symm⟩
  ·rw[List.getElem?_eq_none (by simp;omega)]at hj;cases hj
 refine⟨by simp[h.len],fun j x l hj hl=>?_,fun i j x y hij hi hj=>?_,fun x hx=>?_⟩
 ·rcases hget j x hj with⟨q,e⟩|⟨rfl,rfl⟩
  ·rw[List.getElem?_append_left (by rw[←h.len];exact q)]at hl
   exact h.inn j x l e hl
  ·rw[h.len]at hl
   have:z=l:=by simpa using hl
   exact this▸hu
 ·rcases hget i x hi with⟨q,e⟩|⟨rfl,rfl⟩<;>rcases hget j y hj with⟨q2,e2⟩|⟨rfl,rfl⟩
  ·exact h.dis i j x y hij e e2
  ·exact .inr (by rw[hb];exact hn x (List.mem_of_getElem? e))
  ·exact .inr (by rw[hb];exact(hn y (List.mem_of_getElem? e2)).symm)
  ·exact absurd rfl hij
 ·rcases List.mem_append.1 hx with q|q
  ·exact h.one x q
  ·rw[List.mem_singleton]at q;exact q▸h1
section
variable {P:Program} {N B:Nat} {w00:World}
theorem Zt.akX {s:AS} {a:Act} {w:World} {T1 T2:Nat} {vs:List Value} {ls:List LS} (h:Zt P N B w00 s (afI T2 vs ls) a w) {o x n:Nat} {z:LS} {l:List PV} (ho:s.ob o=some (T2,1,z.map fun s=> .val (.string s))) (hx:s.ob x=some (T1,1,l++[.row o 1 0 n])) (hn:n=z.length) (hne:x≠o):
 ∃b c,B≤b∧Zt P N B w00 ⟨s.tm,upd (upd s.ob o none) x (some (T1,1,l++[.val (.slice (some ⟨b,0,none⟩) z.length c)])),s.nx⟩ (afI T2 (vs++[.slice (some ⟨b,0,none⟩) z.length c]) (ls++[z])) a w:=by
 subst hn;obtain⟨⟨io,w0,g,hr,hC⟩,hM⟩:=h;have hM:ql T2 vs ls w:=hM;obtain⟨k1,k2,k3,⟨arr,k4,k5⟩,k6,k7⟩:=hr.ob o _ ho;obtain⟨q1,q2,q3⟩:=hC.dQ hr ho;dsimp only at k4 k6 k7;obtain⟨_,_,_,p4,p5,p6⟩:=hr.ob x _ hx;obtain⟨u,m1,m2,m3⟩:=p6.get (i:=l.length) (e:=.row o 1 0 z.length) (by simp);simp only[Rep]at m1;obtain⟨c,m1,c2,c3,c4,_⟩:=m1;have m1:u=.slice (some ⟨g.β o,0,none⟩) z.length c:=by simpa using m1
 have hes:(z.map fun s=>PV.val (.string s))=(bY z).map PV.val:=by unfold bY;rw[List.map_map];rfl
 rw[hes]at k7;obtain⟨hrow,hblk⟩:=om (T:=T2) (v:=u) (n:=z.length) ⟨c,by rw[m1,Nat.zero_mul],c2,c3,by rw[k5];exact c4⟩ (by simp[bY]) k4 k7 (fun u hu=>by unfold bY at hu;obtain⟨s,_,rfl⟩:=List.mem_map.1 hu;exact iN s)
 subst m1;refine⟨g.β o,c,q3,?_⟩;have hb':∀i,(afI T2 (vs++[Value.slice (some ⟨g.β o,0,none⟩) z.length c]) (ls++[z])).bk i↔(afI T2 vs ls).bk i∨i=g.β o:=fun i=>by
  constructor
  ·rintro⟨v,hv,e⟩
   rcases List.mem_append.1 hv with q|q
   ·exact .inl ⟨v,q,e⟩
   ·rw[List.mem_singleton]at q
    subst q;rw[hblk]at e;cases e;exact .inr rfl
  ·rintro(⟨v,hv,e⟩|rfl)
   ·exact⟨v,List.mem_append_left _ hv,e⟩
   ·exact⟨_,List.mem_append_right _ (List.mem_singleton.2 rfl),hblk⟩
 have hat:ql T2 (vs++[Value.slice (some ⟨g.β o,0,none⟩) z.length c]) (ls++[z]) w:=hM.snoc hrow hblk (fun v hv e=>q2 ⟨v,hv,e⟩) (gH _ _ _);have hsub:∀o' cc,upd (upd s.ob o none) x (some (T1,1,l++[PV.val (Value.slice (some ⟨g.β o,0,none⟩) z.length c)])) o'=some cc→o'≠o∧((o'=x∧cc=(T1,1,l++[PV.val (Value.slice (some ⟨g.β o,0,none⟩) z.length c)]))∨s.ob o'=some cc):=fun o' cc hc=>by
  unfold upd at hc;split at hc
  ·rename_i e
   cases hc;exact⟨e▸hne,.inl ⟨e,rfl⟩⟩
  ·split at hc
   ·cases hc
   ·rename_i e;exact⟨e,.inr hc⟩
 have hsubS:∀o',(upd (upd s.ob o none) x (some (T1,1,l++[PV.val (Value.slice (some ⟨g.β o,0,none⟩) z.length c)])) o').isSome→o'≠o∧(s.ob o').isSome:=fun o' hc=>by
  obtain⟨cc,hc⟩:=Option.isSome_iff_exists.1 hc;obtain⟨e,e2⟩:=hsub o' cc hc;refine⟨e,?_⟩;rcases e2 with⟨rfl,_⟩|e2
  ·rw[hx];rfl
  ·rw[e2];rfl
 have hlt:∀i,(afI T2 (vs++[Value.slice (some ⟨g.β o,0,none⟩) z.length c]) (ls++[z])).bk i→i<w.heap.size:=fun i hi=>by
  rcases(hb' i).1 hi with hi|rfl
  ·exact Nat.lt_of_lt_of_le (hC.hb i hi) hr.fr.size
  ·exact q1
 have key:∃io',Rel io' w N g ⟨s.tm,upd (upd s.ob o none) x (some (T1,1,l++[PV.val (Value.slice (some ⟨g.β o,0,none⟩) z.length c)])),s.nx⟩ a w∧HzC io' w00 w B (afI T2 (vs++[Value.slice (some ⟨g.β o,0,none⟩) z.length c]) (ls++[z])).bk:=by
  refine hr.anew (s':=⟨s.tm,upd (upd s.ob o none) x (some (T1,1,l++[PV.val (Value.slice (some ⟨g.β o,0,none⟩) z.length c)])),s.nx⟩) (g':=g) (bk':=(afI T2 (vs++[Value.slice (some ⟨g.β o,0,none⟩) z.length c]) (ls++[z])).bk) hC (Gh.le_refl g) hr.nx hr.tm (fun o' cc hc=>?_) (fun k i hi=>⟨fun o' ho' e=>?_,(hC.iO hr hi).1,fun e=>?_⟩) (fun i hi=>hC.awG hr hi) (fun o' ho' e=>?_) (fun i hi=>(hb' i).2 (.inl hi)) hlt (fun i hi=>((hb' i).1 hi).imp id fun e=>by rw[e];exact q3)
  ·refine⟨(hsubS o' (Option.isSome_iff_exists.2 ⟨cc,hc⟩)).2,?_⟩
   rcases(hsub o' cc hc).2 with⟨rfl,rfl⟩|e
   ·refine⟨p4,by simpa using p5,?_⟩
    refine bf.of fun i e he=>?_;dsimp only at p6 he;rcases Nat.lt_trichotomy i l.length with hi|hi|hi
    ·rw[List.getElem?_append_left hi]at he
     obtain⟨u,m1,m2,m3⟩:=p6.get (i:=i) (e:=e) (by rw[List.getElem?_append_left hi];exact he);exact⟨u,m1,m2,m3⟩
    ·subst hi
     have he:e=.val (.slice (some ⟨g.β o,0,none⟩) z.length c):=by simpa using he.symm
     subst he;exact⟨_,by simp[Rep],m2,m3⟩
    ·rw[List.getElem?_eq_none (by simp;omega)]at he
     cases he
   ·exact(hr.ob o' cc e).2.2.2
  ·obtain⟨cc,hc⟩:=Option.isSome_iff_exists.1 (hsubS o' ho').2
   exact(hr.ob o' cc hc).2.2.1 k (e▸hi)
  ·rcases(hb' i).1 e with e|rfl
   ·exact(hC.iO hr hi).2 e
   ·exact k3 k hi
  ·obtain⟨cc,hc⟩:=Option.isSome_iff_exists.1 (hsubS o' ho').2
   rcases(hb' _).1 e with e|e
   ·exact(hC.dQ hr hc).2.1 e
   ·exact(hsubS o' ho').1 (hr.inj o' o (by rw[hc];rfl) (by rw[ho];rfl) e)
 obtain⟨io',h1,h2⟩:=key;exact⟨⟨io',w,g,h1,h2⟩,hat⟩
theorem HZ.akX {c:Code} {K:X→AS→Fgn→Prop} {s:AS} {T1 T2:Nat} {vs:List Value} {ls:List LS} {o x n:Nat} {z:LS} {l:List PV} (ho:s.ob o=some (T2,1,z.map fun s=> .val (.string s))) (hx:s.ob x=some (T1,1,l++[.row o 1 0 n])) (hn:n=z.length) (hne:x≠o)
 (h:∀b c',B≤b→HZ P N B w00 c K ⟨s.tm,upd (upd s.ob o none) x (some (T1,1,l++[.val (.slice (some ⟨b,0,none⟩) z.length c')])),s.nx⟩ (afI T2 (vs++[.slice (some ⟨b,0,none⟩) z.length c']) (ls++[z]))):HZ P N B w00 c K s (afI T2 vs ls):=HZ.mk fun a w hs Q hQ=>by
 obtain⟨b,c',h1,h2⟩:=hs.akX ho hx hn hne;exact(h b c' h1).go a w h2 Q hQ
theorem HZ.ayy {c:Code} {K:X→AS→Fgn→Prop} {s:AS} {σ:Fgn} (σ':Fgn) (hb:∀i,σ'.bk i↔σ.bk i) (ha:∀w,σ.at_ w→σ'.at_ w) (h:HZ P N B w00 c K s σ'):HZ P N B w00 c K s σ:=HZ.mk fun a w hs Q hQ=>by refine h.go a w ?_ Q hQ;have he:σ'.bk=σ.bk:=funext fun i=>propext (hb i);obtain⟨⟨io,w0,g,hr,hC⟩,hM⟩:=hs;exact⟨⟨io,w0,g,hr,he▸hC⟩,ha w hM⟩
end
theorem ql.ss {T1 T2:Nat} {v:Value} {vs:List Value} {ls:List LS} {w:World} {b:Nat} (h:ql T2 vs ls w) (hv:dZ T1 v vs w) (hb:v.ownBlock=some b) (hn:∀u∈vs,u.ownBlock≠some b):iM T1 T2 v vs ls w:=⟨hv,h.len,h.inn,h.dis,fun u hu=> .inr (by rw[hb];exact hn u hu)⟩
theorem iM.none {T1 T2:Nat} {w:World}:iM T1 T2 yx [] [] w:=⟨.inl ⟨rfl,rfl⟩,rfl,fun j u l h=>by simp at h,fun i j x y _ h=>by simp at h,fun u hu=>by simp at hu⟩
theorem oz {i:Nat}:¬mI yx [] i:=fun h=>by
 rcases h with h|⟨u,hu,_⟩
 ·cases h
 ·simp at hu
theorem dZ.avs {T:Nat} {v:Value} {vs:List Value} {w:World} {g0:Gh} {k:Bool} {es:List PV} (h:dZ T v vs w) (hJ:∀g,v.ownBlock=some g→g0.I k g) (hl:es.length=vs.length) (he:∀(j:Nat) (e:PV) (u:Value),es[j]?=some e→vs[j]?=some u→Rep g0 w e u∧aeS u):Rep g0 w (.lst k 1 es) v:=by
 rcases h with⟨rfl,rfl⟩|⟨g,cap,arr,rfl,h1,h2,h3,h4,h5⟩
 ·have:es=[]:=List.eq_nil_of_length_eq_zero hl
  subst this;simp only[Rep];exact⟨none,0,rfl,Nat.le_refl _,by decide,.inl (by simp)⟩
 ·simp only[Rep]
  exact⟨some ⟨g,0,none⟩,cap,by rw[hl],by omega,h2,.inr ⟨g,0,rfl,hJ g rfl,dZ.zD h3 h5 hl he⟩⟩
theorem iM.avs {T1 T2:Nat} {v:Value} {vs:List Value} {ls:List LS} {w:World} {g0:Gh} {k:Bool} (h:iM T1 T2 v vs ls w) (hJ:∀i,mI v vs i→g0.I k i):Rep g0 w (.lst k 1 (ls.map fun l=> .lst k 1 (l.map fun s=> .val (.string s)))) v:=
 h.out.avs (fun g hg=>hJ g (.inl hg)) (by rw[List.length_map,h.len]) fun j e u h1 h2=>by rw[List.getElem?_map,Option.map_eq_some_iff]at h1;obtain⟨l,q1,rfl⟩:=h1;refine⟨(h.inn j u l h2 q1).avs (fun g hg=>hJ g (.inr ⟨u,List.mem_of_getElem? h2,hg⟩)) (by simp[bY]) fun j e u h1 h2=>?_,h.one u (List.mem_of_getElem? h2)⟩;unfold bY at h2;rw[List.getElem?_map,Option.map_eq_some_iff]at h1 h2;obtain⟨s,q1,rfl⟩:=h1;obtain⟨s',q2,rfl⟩:=h2;rw[q1]at q2;cases q2;exact⟨by simp[Rep],iN s⟩
def ael (ks:List Bool) (i:Nat):Bool:=ks[i]?.getD false
def aeA (ks:List Bool) (h p q:Nat):Prop:=p<q∧q≤ks.length∧q≤p+h∧¬(q<ks.length∧ael ks (q-1)=true)
instance (ks:List Bool) (h p q:Nat):Decidable (aeA ks h p q):=by unfold aeA;infer_instance
def okQ (ks:List Bool) (h:Nat) (E:Nat→Int) (p q:Nat):Prop:=aeA ks h p q∧0≤E q
instance (ks:List Bool) (h:Nat) (E:Nat→Int) (p q:Nat):Decidable (okQ ks h E p q):=by unfold okQ;infer_instance
def jM (ks:List Bool) (h:Nat) (E:Nat→Int) (p q:Nat):Int:=(if q=ks.length then 0 else((h:Int)-((q:Int)-p))*((h:Int)-((q:Int)-p)))+E q
theorem acj {ks:List Bool} {h:Nat} {E:Nat→Int} {p q:Nat} (ho:okQ ks h E p q):0≤jM ks h E p q:=by obtain⟨⟨h1,h2,h3,h4⟩,h5⟩:=ho;unfold jM;have:0≤((h:Int)-((q:Int)-p))*((h:Int)-((q:Int)-p)):=Int.mul_nonneg (by omega) (by omega);split<;>omega
def aaT (ks:List Bool) (h:Nat) (E:Nat→Int) (p q:Nat) (s:Int×Nat):Int×Nat:=if okQ ks h E p q∧(s.1<0∨jM ks h E p q<s.1)then(jM ks h E p q,q)else s
def wP (ks:List Bool) (h:Nat) (E:Nat→Int) (p q:Nat) (s:Int×Nat):Int×Nat:=if okQ ks h E p q∧(s.1<0∨jM ks h E p q≤s.1)then(jM ks h E p q,q)else s
def dnP (ks:List Bool) (h:Nat) (E:Nat→Int) (p:Nat):Nat→Int×Nat
 |0=>(-1,0)
 |m+1=>aaT ks h E p (ks.length-m) (dnP ks h E p m)
def upP (ks:List Bool) (h:Nat) (E:Nat→Int) (p:Nat):Nat→Int×Nat
 |0=>(-1,0)
 |m+1=>wP ks h E p (p+m+1) (upP ks h E p m)
structure jq (ks:List Bool) (h:Nat) (E:Nat→Int) (p:Nat) (Q:Nat→Prop) (s:Int×Nat):Prop where
 no:s.1<0→s=(-1,0)∧∀q,Q q→¬okQ ks h E p q
 yes:0≤s.1→Q s.2∧okQ ks h E p s.2∧s.1=jM ks h E p s.2∧∀q,Q q→okQ ks h E p q→jM ks h E p s.2≤jM ks h E p q∧(jM ks h E p q=jM ks h E p s.2→q≤s.2)
section
variable {ks:List Bool} {h:Nat} {E E':Nat→Int} {p:Nat} {Q Q':Nat→Prop} {s s':Int×Nat}
theorem jq.uniq (h1:jq ks h E p Q s) (h2:jq ks h E p Q s'):s=s':=by
 by_cases c1:s.1<0
 ·obtain⟨e1,n1⟩:=h1.no c1
  by_cases c2:s'.1<0
  ·rw[e1,(h2.no c2).1]
  ·obtain⟨q1,q2,_⟩:=h2.yes (by omega)
   exact absurd q2 (n1 _ q1)
 ·obtain⟨q1,q2,q3,q4⟩:=h1.yes (by omega)
  by_cases c2:s'.1<0
  ·exact absurd q2 ((h2.no c2).2 _ q1)
  ·obtain⟨r1,r2,r3,r4⟩:=h2.yes (by omega)
   have a1:=q4 _ r1 r2;have a2:=r4 _ q1 q2;have e:jM ks h E p s'.2=jM ks h E p s.2:=by omega
   have b1:=a1.2 e;have b2:=a2.2 e.symm;have e2:s.2=s'.2:=by omega
   exact Prod.ext (by rw[q3,r3,e]) e2
theorem jq.avm (hq:∀q,Q q↔Q' q) (h1:jq ks h E p Q s):jq ks h E p Q' s:=
 ⟨fun c=>⟨(h1.no c).1,fun q hh=>(h1.no c).2 q ((hq q).2 hh)⟩,fun c=>⟨(hq _).1 (h1.yes c).1,(h1.yes c).2.1,(h1.yes c).2.2.1,fun q hh=>(h1.yes c).2.2.2 q ((hq q).2 hh)⟩⟩
theorem jq.aaT {q0:Nat} (h1:jq ks h E p Q s) (hlt:∀q,Q q→q0<q):jq ks h E p (fun q=>Q q∨q=q0) (aaT ks h E p q0 s):=by
 unfold Proofs.YtmmafcjjlbgnkaaGreat.aaT;split
 ·rename_i hc
  obtain⟨hok,hc⟩:=hc;have hnn:=acj hok;refine⟨fun c=>?_,fun _=>⟨.inr rfl,hok,rfl,fun q hq hqo=>?_⟩⟩
  ·dsimp only at c;omega
  ·dsimp only
   rcases hq with hq|rfl
   ·by_cases c1:s.1<0
    ·exact absurd hqo ((h1.no c1).2 q hq)
    ·obtain⟨q1,q2,q3,q4⟩:=h1.yes (by omega)
     have:=(q4 q hq hqo).1;omega
   ·exact⟨Int.le_refl _,fun _=>Nat.le_refl _⟩
 ·rename_i hc
  refine⟨fun c=>⟨(h1.no c).1,fun q hq hqo=>?_⟩,fun c=>?_⟩
  ·rcases hq with hq|rfl
   ·exact(h1.no c).2 q hq hqo
   ·exact hc ⟨hqo,.inl c⟩
  ·obtain⟨q1,q2,q3,q4⟩:=h1.yes c
   refine⟨.inl q1,q2,q3,fun q hq hqo=>?_⟩;rcases hq with hq|rfl
   ·exact q4 q hq hqo
   ·have h5:¬jM ks h E p q<s.1:=fun e=>hc ⟨hqo,.inr e⟩
    have:=hlt _ q1;exact⟨by omega,fun _=>by omega⟩
theorem jq.wP {q0:Nat} (h1:jq ks h E p Q s) (hlt:∀q,Q q→q<q0):jq ks h E p (fun q=>Q q∨q=q0) (wP ks h E p q0 s):=by
 unfold Proofs.YtmmafcjjlbgnkaaGreat.wP;split
 ·rename_i hc
  obtain⟨hok,hc⟩:=hc;have hnn:=acj hok;refine⟨fun c=>?_,fun _=>⟨.inr rfl,hok,rfl,fun q hq hqo=>?_⟩⟩
  ·dsimp only at c;omega
  ·dsimp only
   rcases hq with hq|rfl
   ·by_cases c1:s.1<0
    ·exact absurd hqo ((h1.no c1).2 q hq)
    ·obtain⟨q1,q2,q3,q4⟩:=h1.yes (by omega)
     have:=(q4 q hq hqo).1;have:=hlt _ hq;exact⟨by omega,fun _=>by omega⟩
   ·exact⟨Int.le_refl _,fun _=>Nat.le_refl _⟩
 ·rename_i hc
  refine⟨fun c=>⟨(h1.no c).1,fun q hq hqo=>?_⟩,fun c=>?_⟩
  ·rcases hq with hq|rfl
   ·exact(h1.no c).2 q hq hqo
   ·exact hc ⟨hqo,.inl c⟩
  ·obtain⟨q1,q2,q3,q4⟩:=h1.yes c
   refine⟨.inl q1,q2,q3,fun q hq hqo=>?_⟩;rcases hq with hq|rfl
   ·exact q4 q hq hqo
   ·have h5:¬jM ks h E p q≤s.1:=fun e=>hc ⟨hqo,.inr e⟩
    exact⟨by omega,fun _=>by omega⟩
theorem jq.zero (hQ:∀q,¬Q q):jq ks h E p Q (-1,0):=⟨fun _=>⟨rfl,fun q hq=>absurd hq (hQ q)⟩,fun c=>by dsimp only at c;omega⟩
theorem qG:∀m,m≤ks.length→jq ks h E p (fun q=>ks.length-m<q∧q≤ks.length) (dnP ks h E p m)
 |0,_=>jq.zero fun q hq=>by omega
 |m+1,hm=>by refine((qG m (by omega)).aaT (q0:=ks.length-m) fun q hq=>by omega).avm fun q=>?_;omega
theorem yj:∀m,jq ks h E p (fun q=>p<q∧q≤p+m) (upP ks h E p m)
 |0=>jq.zero fun q hq=>by omega
 |m+1=>by refine((yj m).wP (q0:=p+m+1) fun q hq=>by omega).avm fun q=>?_;omega
def bq (ks:List Bool) (h:Nat) (E:Nat→Int) (p:Nat):Int×Nat:=dnP ks h E p (ks.length-p)
theorem atu (hp:p≤ks.length):upP ks h E p (ks.length-p)=bq ks h E p:=by refine(yj (ks.length-p)).uniq (((qG (ks.length-p) (by omega))).avm fun q=>?_);omega
theorem sD (hp:p≤ks.length):jq ks h E p (fun q=>p<q∧q≤ks.length) (bq ks h E p):=
 (qG (ks.length-p) (by omega)).avm fun q=>by omega
theorem ahY:∀d m,h≤m→upP ks h E p (m+d)=upP ks h E p m
 |0,m,_=>rfl
 |d+1,m,hm=>by show wP ks h E p (p+(m+d)+1) (upP ks h E p (m+d))=_;rw[ahY d m hm];unfold Proofs.YtmmafcjjlbgnkaaGreat.wP;rw[if_neg];rintro⟨⟨⟨_,_,h3,_⟩,_⟩,_⟩;omega
theorem asE {m:Nat} (hm:h≤m) (hmn:m≤ks.length-p) (hp:p≤ks.length):upP ks h E p m=bq ks h E p:=by rw[←atu hp,←ahY (ks.length-p-m) m hm];congr 1;omega
theorem als (hE:∀q,p<q→q≤ks.length→E q=E' q) (hp:p≤ks.length):bq ks h E p=bq ks h E' p:=by
 have ok:∀q,p<q→q≤ks.length→(okQ ks h E p q↔okQ ks h E' p q)∧jM ks h E p q=jM ks h E' p q:=fun q h1 h2=>by unfold okQ jM;rw[hE q h1 h2];exact⟨Iff.rfl,rfl⟩
 have hb:=sD (ks:=ks) (h:=h) (E:=E) hp;refine jq.uniq (Q:=fun q=>p<q∧q≤ks.length) ⟨fun c=>⟨(hb.no c).1,fun q hq hqo=>(hb.no c).2 q hq ((ok q hq.1 hq.2).1.2 hqo)⟩,fun c=>?_⟩ (sD hp);obtain⟨q1,q2,q3,q4⟩:=hb.yes c;refine⟨q1,(ok _ q1.1 q1.2).1.1 q2,by rw[←(ok _ q1.1 q1.2).2];exact q3,fun q hq hqo=>?_⟩;rw[←(ok _ q1.1 q1.2).2,←(ok _ hq.1 hq.2).2];exact q4 q hq ((ok q hq.1 hq.2).1.2 hqo)
end
def tbP (ks:List Bool) (h:Nat):Nat→Nat→Int×Nat
 |0=>fun _=>(0,0)
 |k+1=>fun x=>if x=ks.length-(k+1)then bq ks h (fun q=>(tbP ks h k q).1) (ks.length-(k+1))else tbP ks h k x
section
variable {ks:List Bool} {h:Nat}
theorem ab2:∀{k x:Nat},k≤ks.length→x+k<ks.length→tbP ks h k x=(0,0)
 |0,x,_,_=>rfl
 |k+1,x,hk,hx=>by show(if x=ks.length-(k+1)then _ else tbP ks h k x)=_;rw[if_neg (by omega)];exact ab2 (by omega) (by omega)
theorem vQ {x:Nat}:∀{d k:Nat},k+d≤ks.length→ks.length≤x+k→tbP ks h (k+d) x=tbP ks h k x
 |0,k,_,_=>rfl
 |d+1,k,hk,hx=>by show(if x=ks.length-(k+d+1)then _ else tbP ks h (k+d) x)=_;rw[if_neg (by omega)];exact vQ (by omega) hx
def dA (ks:List Bool) (h p:Nat):Int:=(tbP ks h ks.length p).1
def jD (ks:List Bool) (h p:Nat):Nat:=(tbP ks h ks.length p).2
theorem abJ {p:Nat} (hp:p<ks.length):tbP ks h ks.length p=bq ks h (dA ks h) p:=by
 have e1:tbP ks h ks.length p=tbP ks h (ks.length-p) p:=by
  have:=vQ (ks:=ks) (h:=h) (x:=p) (d:=p) (k:=ks.length-p) (by omega) (by omega)
  rwa[show ks.length-p+p=ks.length by omega]at this
 have e2:tbP ks h (ks.length-p) p=bq ks h (fun q=>(tbP ks h (ks.length-p-1) q).1) p:=by obtain⟨k,hk⟩:∃k,ks.length-p=k+1:=⟨ks.length-p-1,by omega⟩;rw[hk,Nat.add_sub_cancel];show(if p=ks.length-(k+1)then bq ks h _ (ks.length-(k+1))else _)=_;rw[if_pos (by omega),show ks.length-(k+1)=p by omega]
 rw[e1,e2];refine als (fun q h1 h2=>?_) (by omega);unfold dA;have:=vQ (ks:=ks) (h:=h) (x:=q) (d:=p+1) (k:=ks.length-p-1) (by omega) (by omega);rw[show ks.length-p-1+(p+1)=ks.length by omega]at this;rw[this]
theorem xK {p:Nat} (hp:p<ks.length) (h0:0≤dA ks h p):aeA ks h p (jD ks h p)∧0≤dA ks h (jD ks h p):=by have hb:=sD (ks:=ks) (h:=h) (E:=dA ks h) (p:=p) (by omega);rw[←abJ hp]at hb;exact(hb.yes h0).2.1
def lM (ks:List Bool) (h:Nat):Nat→Nat→List Nat
 |0,_=>[]
 |f+1,p=>if p<ks.length then jD ks h p::lM ks h f (jD ks h p)else []
theorem acY {f:Nat}:lM ks h f ks.length=[]:=by
 cases f with
 |zero=>rfl
 |succ f=>show(if ks.length<ks.length then _ else _)=_;rw[if_neg (by omega)]
def auM (ks:List Bool) (h:Nat):List Nat:=lM ks h ks.length 0
def ChP (ks:List Bool) (h:Nat):Nat→List Nat→Prop
 |p,[]=>p=ks.length
 |p,q::r=>aeA ks h p q∧ChP ks h q r
theorem ahm:∀{f p:Nat},ks.length≤p+f→p≤ks.length→0≤dA ks h p→ChP ks h p (lM ks h f p)
 |0,p,h1,h2,_=>by show p=ks.length;omega
 |f+1,p,h1,h2,h3=>by
  show ChP ks h p (if p<ks.length then _ else _);split
  ·rename_i hp
   obtain⟨k1,k2⟩:=xK hp h3;exact⟨k1,ahm (by have:=k1.1;omega) k1.2.1 k2⟩
  ·show p=ks.length
   omega
theorem anR (h0:0≤dA ks h 0):ChP ks h 0 (auM ks h):=ahm (by omega) (by omega) h0
theorem rM:∀{p:Nat} {l:List Nat},ChP ks h p l→l.length+p≤ks.length
 |p,[],hc=>by have:p=ks.length:=hc;simp;omega
 |p,q::r,hc=>by have:=rM hc.2;have:=hc.1.1;simp only[List.length_cons];omega
def mJ {α:Type} (l:List α):Nat→List Nat→List (List α)
 |_,[]=>[]
 |p,q::r=>(l.drop p).take (q-p)::mJ l q r
theorem oM {α:Type} {l:List α}:∀{p:Nat} {r:List Nat},(mJ l p r).length=r.length
 |_,[]=>rfl
 |p,q::r=>by show(mJ l q r).length+1=_;rw[oM];rfl
theorem acE {α:Type} {l:List α} (hl:l.length=ks.length):∀{p:Nat} {r:List Nat},ChP ks h p r→(mJ l p r).flatten=l.drop p
 |p,[],hc=>by have:p=ks.length:=hc;rw[this,←hl,List.drop_length];rfl
 |p,q::r,hc=>by show((l.drop p).take (q-p)::mJ l q r).flatten=_;rw[List.flatten_cons,acE hl hc.2];have h1:=hc.1.1;rw[show l.drop q=(l.drop p).drop (q-p) by rw[List.drop_drop];congr 1;omega,List.take_append_drop]
theorem acT {α:Type} {l:List α}:∀{p:Nat} {r:List Nat} {q:Nat},mJ l p (r++[q])=mJ l p r++[(l.drop ((r.getLast?).getD p)).take (q-(r.getLast?).getD p)]
 |p,[],q=>rfl
 |p,x::r,q=>by
  show(l.drop p).take (x-p)::mJ l x (r++[q])=_;rw[acT];have:((x::r).getLast?).getD p=(r.getLast?).getD x:=by
   cases r with
   |nil=>rfl
   |cons y r=>simp[List.getLast?_cons]
  rw[this];rfl
end
def xH (n:Nat) (f:Nat→Int):List PV:=(List.range (n+1)).map fun x=>PV.val (.int .i64 (f x))
def ovr {α:Type} (f:Nat→α) (p:Nat) (v:α):Nat→α:=fun x=>if x=p then v else f x
theorem qL {n:Nat} {f:Nat→Int}:(xH n f).length=n+1:=by simp[xH]
theorem aj1 {n i:Nat} {f:Nat→Int} (h:i≤n):(xH n f)[i]?=some (.val (.int .i64 (f i))):=by unfold xH;rw[List.getElem?_map,List.getElem?_range (by omega)];rfl
theorem ajl {n i:Nat} {f:Nat→Int} {v:Int}:(xH n f).set i (.val (.int .i64 v))=xH n (ovr f i v):=by
 apply List.ext_getElem?;intro j;rw[List.getElem?_set,qL];by_cases hj:j<n+1
 ·unfold xH ovr
  by_cases h:i=j
  ·subst h
   rw[if_pos rfl,if_pos hj,List.getElem?_map,List.getElem?_range hj,Option.map_some,if_pos rfl]
  ·rw[if_neg h,List.getElem?_map,List.getElem?_map,List.getElem?_range hj,Option.map_some,Option.map_some,if_neg (fun e=>h e.symm)]
 ·rw[List.getElem?_eq_none (by rw[qL];omega),List.getElem?_eq_none (by rw[qL];omega)]
  split<;>(try split)<;>first|rfl|omega
theorem yu {α:Type} {f:Nat→α} {p:Nat} {v v':α}:ovr (ovr f p v) p v'=ovr f p v':=by funext x;unfold ovr;split<;>rfl
theorem amn {α:Type} {f:Nat→α} {p:Nat} {v:α}:ovr f p v p=v:=by simp[ovr]
theorem alV {α:Type} {f:Nat→α} {p x:Nat} {v:α} (h:¬x=p):ovr f p v x=f x:=by simp[ovr,h]
theorem amL {α:Type} {f:Nat→α} {p:Nat}:ovr f p (f p)=f:=by
 funext x;unfold ovr;split
 ·rename_i e;rw[e]
 ·rfl
theorem apz {n:Nat}:List.replicate (n+1) (PV.val (.int .i64 0))=xH n (fun _=>0):=by unfold xH;symm;rw[List.eq_replicate_iff];exact⟨by rw[List.length_map,List.length_range],fun b hb=>by obtain⟨x,-,rfl⟩:=List.mem_map.1 hb;rfl⟩
attribute[push_cast]
 qL aj1 ajl apz
def kp (n j:Nat):Bool:=(decide (j=0)&&decide (2≤n))||(decide (j+2=n)&&decide (3≤n))
theorem aul {n j:Nat} (h:(j=0∧2≤n)∨(j+2=n∧3≤n)):kp n j=true:=by unfold kp;simpa using h
theorem awM {n j:Nat} (h:¬((j=0∧2≤n)∨(j+2=n∧3≤n))):kp n j=false:=by
 cases e:kp n j with
 |false=>rfl
 |true=>unfold kp at e;exact absurd (by simpa using e) h
def kpN (n m:Nat):List Bool:=(List.range m).map (kp n)
def dF (c:List Nat):List Bool:=(c.map fun n=>kpN n n).flatten
theorem vS (n m:Nat):kpN n (m+1)=kpN n m++[kp n m]:=by simp[kpN,List.range_succ]
theorem iU (n:Nat):kpN n 0=[]:=rfl
theorem ko (n m:Nat):(kpN n m).length=m:=by simp[kpN]
theorem nu (c:List Nat):(dF c).length=c.sum:=by unfold dF;rw[List.length_flatten,List.map_map];congr 1;rw[List.map_congr_left (g:=id) (fun n _=>by simp[ko]),List.map_id]
theorem pG {c:List Nat} {k:Nat} (h:k<c.length):dF (c.take (k+1))=dF (c.take k)++kpN (c[k]?.getD 0) (c[k]?.getD 0):=by unfold dF;rw[List.take_succ_eq_append_getElem h,List.map_append,List.flatten_append,List.getElem?_eq_getElem h,Option.getD_some];simp
theorem adJ {c:List Nat} {k:Nat} (h:k<c.length):(c.take (k+1)).sum=(c.take k).sum+c[k]?.getD 0:=by rw[List.take_succ_eq_append_getElem h,List.sum_append,List.getElem?_eq_getElem h,Option.getD_some];simp
theorem sF (c:List Nat) (k:Nat):(c.take k).sum≤c.sum:=by
 conv=>rhs;rw[←List.take_append_drop k c,List.sum_append]
 omega
theorem acS {c:List Nat} {k i:Nat} (h:k<c.length) (hi:i<c[k]?.getD 0):ael (dF c) ((c.take k).sum+i)=kp (c[k]?.getD 0) i:=by
 have e:dF c=dF (c.take (k+1))++dF (c.drop (k+1)):=by unfold dF;rw[←List.flatten_append,←List.map_append,List.take_append_drop]
 unfold ael;rw[e,pG h,List.append_assoc,List.getElem?_append_right (by rw[nu];omega),nu,Nat.add_sub_cancel_left,List.getElem?_append_left (by rw[ko];exact hi)];unfold kpN;rw[List.getElem?_map,List.getElem?_range hi];rfl
theorem ak1 {c:List Nat} {h p q:Nat} (hm:aeA (dF c) h p q) (hq:q<(dF c).length) {k:Nat} (hk:k<c.length) (h2:1<c[k]?.getD 0):¬q=(c.take k).sum+1∧¬q+1=(c.take k).sum+c[k]?.getD 0:=by
 have hno:=hm.2.2.2;constructor
 ·rintro rfl
  refine hno ⟨hq,?_⟩;have:=acS hk (i:=0) (by omega);rw[Nat.add_sub_cancel];rw[Nat.add_zero]at this;rw[this];exact aul (.inl ⟨rfl,by omega⟩)
 ·intro e
  refine hno ⟨hq,?_⟩;have h3:=acS hk (i:=c[k]?.getD 0-2) (by omega);rw[show q-1=(c.take k).sum+(c[k]?.getD 0-2) by omega,h3];refine aul ?_;omega
def yw (ks:List Bool) (h:Nat):Bool:=decide (0≤dA ks h 0)
def jh (ks:List Bool) (h:Nat):List Nat:=if yw ks h=true then auM ks h else []
theorem wZ {ks:List Bool} {h:Nat}:yw ks h=true↔0≤dA ks h 0:=by simp[yw]
theorem uH {ks:List Bool} {h:Nat} (hb:yw ks h=true):ChP ks h 0 (jh ks h):=by unfold jh;rw[if_pos hb];exact anR (wZ.1 hb)
theorem agP {α:Type} {ks:List Bool} {h:Nat} {l:List α} (hl:l.length=ks.length):∀{p:Nat} {r:List Nat},ChP ks h p r→∀x∈mJ l p r,1≤x.length∧x.length≤h
 |p,[],_,x,hx=>by cases hx
 |p,q::r,hc,x,hx=>by
  rcases List.mem_cons.1 hx with rfl|hx
  ·obtain⟨h1,h2,h3,_⟩:=hc.1
   rw[List.length_take,List.length_drop];omega
  ·exact agP hl hc.2 x hx
theorem ahb {α:Type} {ks:List Bool} {h:Nat} {l:List α} (hl:l.length=ks.length):∀{p:Nat} {r:List Nat},ChP ks h p r→∀k,k<r.length→p+(((mJ l p r).take (k+1)).flatten).length=r[k]?.getD 0
 |p,[],_,k,hk=>by simp at hk
 |p,q::r,hc,k,hk=>by
  obtain⟨h1,h2,h3,_⟩:=hc.1;show p+((((l.drop p).take (q-p)::mJ l q r).take (k+1)).flatten).length=_;rw[List.take_succ_cons,List.flatten_cons,List.length_append,List.length_take,List.length_drop];cases k with
  |zero=>simp;omega
  |succ k=>have:=ahb hl hc.2 k (by simpa using hk);rw[List.getElem?_cons_succ,←this];omega
theorem amH:∀{ks:List Bool} {h p:Nat} {r:List Nat},ChP ks h p r→∀k,k<r.length→∃p',aeA ks h p' (r[k]?.getD 0)
 |ks,h,p,[],_,k,hk=>by simp at hk
 |ks,h,p,q::r,hc,0,_=>⟨p,hc.1⟩
 |ks,h,p,q::r,hc,k+1,hk=>by have:=amH hc.2 k (by simpa using hk);simpa using this
theorem ahC:∀{ks:List Bool} {h p:Nat} {r:List Nat},ChP ks h p r→∀k,k+1<r.length→r[k]?.getD 0<ks.length
 |ks,h,p,[],_,k,hk=>by simp at hk
 |ks,h,p,[q],_,k,hk=>by simp at hk
 |ks,h,p,q::q2::r,hc,0,_=>by have h1:=hc.2.1.1;have h2:=hc.2.1.2.1;show q<_;omega
 |ks,h,p,q::q2::r,hc,k+1,hk=>by have:=ahC hc.2 k (by simpa using hk);simpa using this
abbrev eu (b:Bool):PV:=.agg [.val (.int .i64 1),.val (.bool b),.val (.int .i64 0),.val (.int .i64 0)]
def dRw:Dec Bool where
 d:=fun| .agg [.val (.int .i64 h),.val (.bool b),.val (.int .i64 n),.val (.int .i64 f)]=>if h=1∧n=0∧f=0 then some b else none|_=>none
 e:=eu
 h:=fun p a h=>by
  split at h
  ·split at h
   ·rename_i hc
    obtain⟨rfl,rfl,rfl⟩:=hc;cases h;rfl
   ·cases h
  ·cases h
 h':=fun a=>rfl
theorem aeQ:dRw.e=eu:=rfl
abbrev aq3:Dec (List Bool):=dL 4 dRw
def abM:Fun:=F1 dRw fun _=>some (bv true)
theorem acN {b:Bool}:abM [.agg [.val (.int .i64 1),.val (.bool b),.val (.int .i64 0),.val (.int .i64 0)]]=some (.val (.bool true)):=fM (A:=dRw) b
def pY:Fun:=F1 dI fun h=>some (bv (inB h 1 1000))
theorem sZ {h:Int}:pY [.val (.int .i64 h)]=some (.val (.bool (inB h 1 1000))):=fM (A:=dI) h
def axX:Ctx:={fn:=aT [(43,φIn)],io:=aT []}
theorem apO:au Tryz.prog axX:=okΓ (fC Tryz.func43 qd aj) aj
def aoh:=ah (Γ:=axX) (f:=43) (φ:=φIn) rfl
theorem agu:Sound Tryz.prog 42 pY:=by refine ak mixed apO Tryz.func42 rfl 5 rfl [.tmp 2] rfl (by kernel_rfl) fun ps r hr=>?_;obtain⟨h,rfl,hr⟩:=bG hr;cases hr;refine⟨by simp,?_⟩;simp only[dIs,dUs,dSs,bR,bV,bT,bU,aI,bW,aL,aO,aH,aJ];have gish_c43:=aoh;have ap:=bJ;exact wlkF
def awc:Ctx:={fn:=aT [(43,φIn),(42,pY)],io:=aT []}
theorem anF:au Tryz.prog awc:=okΓ (fC Tryz.func43 qd (fC Tryz.func42 agu aj)) aj
def ani:=ah (Γ:=awc) (f:=43) (φ:=φIn) rfl
def aoU:=ah (Γ:=awc) (f:=42) (φ:=pY) rfl
theorem afe:Sound Tryz.prog 73 abM:=by
 refine ak mixed anF Tryz.func73 rfl 16 rfl [.tmp 2] rfl (by kernel_rfl) fun ps r hr=>?_;obtain⟨b,rfl,hq⟩:=bG hr;clear hr;cases hq;refine⟨by simp,?_⟩;have grwi_c43:=ani;have grwi_c42:=aoU;have ap:=bJ;have ap2:=@sZ;have h1:inB 1 1 1000=true:=by decide
 have h0:inB 0 0 1000=true:=by decide
 (try simp only[aeQ]);exact wlkF
def ax6:Ctx:={fn:=aT [(48,φIn)],io:=aT []}
theorem aoZ:au Tryz.prog ax6:=okΓ (fC Tryz.func48 gB aj) aj
def aqO:=ah (Γ:=ax6) (f:=48) (φ:=φIn) rfl
theorem aez:Sound Tryz.prog 65 abM:=by
 refine ak mixed aoZ Tryz.func65 rfl 16 rfl [.tmp 2] rfl (by kernel_rfl) fun ps r hr=>?_;obtain⟨b,rfl,hq⟩:=bG hr;clear hr;cases hq;refine⟨by simp,?_⟩;have grws_c48:=aqO;have ap:=bJ;have h1:inB 1 1 1000=true:=by decide
 have h0:inB 0 0 1000=true:=by decide
 (try simp only[aeQ]);exact wlkF
def sG:Fun:=F1 aq3 fun l=>if l.length≤1000 then some (bv (decide (l.length≤30)))else none
theorem zP {l:List Bool} (h:l.length≤1000):sG [.lst false 4 (l.map eu)]=some (.val (.bool (decide (l.length≤30)))):=(fM (A:=aq3) l).trans (if_pos h)
def au2:Ctx:={fn:=aT [(73,abM)],io:=aT []}
theorem akv:au Tryz.prog au2:=okΓ (fC Tryz.func73 afe aj) aj
def ajd:=ah (Γ:=au2) (f:=73) (φ:=abM) rfl
theorem abT:Sound Tryz.prog 58 sG:=by
 refine ak mixed akv Tryz.func58 rfl 18 rfl [.tmp 2] rfl (by kernel_rfl) fun ps r hr=>?_;obtain⟨l,rfl,hpre,rfl⟩:=kW hr;refine⟨by simp,?_⟩;simp only[dIs,dUs,dSs,bR,bV,bT,bU,aI,bW,aL,aO,aH,aJ];(try simp only[aeQ]);have hdec:decide ((l.length:Int)≤30)=decide (l.length≤30):=decide_eq_decide.2 (by omega);have grwsi_c73:=ajd;have ap:=@acN;(refine wlk ?_;intros);refine aF (α:=Nat×Nat) mixed (fun i=>[(0,.lst false 4 (l.map eu)),(5,.lst false 4 (l.map eu)),(6,iv l.length),(7,iv i.1)]) (fun i=>[]) (fun i=>i.2)
  (fun i=>i.1≤l.length) (fun i=>l.length-i.1) (by kernel_rfl) (0,0) (Nat.zero_le _) ?_ trivial rfl ?_
 ·exact agr
 rintro⟨k,y⟩ hk;dsimp only at hk;by_cases hkl:k<l.length
 ·(refine wlk ?_;intros)
  refine⟨(k+1,_),by dsimp only;omega,by dsimp only;omega,?_,trivial,rfl⟩;exact agr
 ·exact wlkF
def auT:Ctx:={fn:=aT [(65,abM)],io:=aT []}
theorem ak7:au Tryz.prog auT:=okΓ (fC Tryz.func65 aez aj) aj
def alL:=ah (Γ:=auT) (f:=65) (φ:=abM) rfl
theorem abz:Sound Tryz.prog 47 sG:=by
 refine ak mixed ak7 Tryz.func47 rfl 19 rfl [.tmp 2] rfl (by kernel_rfl) fun ps r hr=>?_;obtain⟨l,rfl,hpre,rfl⟩:=kW hr;refine⟨by simp,?_⟩;simp only[dIs,dUs,dSs,bR,bV,bT,bU,aI,bW,aL,aO,aH,aJ];(try simp only[aeQ]);have hdec:decide ((l.length:Int)≤30)=decide (l.length≤30):=decide_eq_decide.2 (by omega);have grwss_c65:=alL;have ap:=@acN;(refine wlk ?_;intros);refine aF (α:=Nat) mixed (fun i=>[(0,.lst false 4 (l.map eu)),(3,iv i)]) (fun i=>[]) (fun i=>0)
  (fun i=>i≤l.length) (fun i=>l.length-i) (by kernel_rfl) 0 (Nat.zero_le _) ?_ trivial rfl ?_
 ·exact agr
 intro k hk;by_cases hkl:k<l.length
 ·(refine wlk ?_;intros)
  refine⟨k+1,by omega,by dsimp only;omega,?_,trivial,rfl⟩;exact agr
 ·exact wlkF
def akq:Fun:=F1 aq3 fun l=>if l.length≤1000 then some (iv l.length)else none
theorem aj7 {l:List Bool} (h:l.length≤1000):akq [.lst false 4 (l.map eu)]=some (.val (.int .i64 l.length)):=(fM (A:=aq3) l).trans (if_pos h)
theorem abp:Sound Tryz.prog 59 akq:=by
 refine ak mixed bL Tryz.func59 rfl 18 rfl [.tmp 2] rfl (by kernel_rfl) fun ps r hr=>?_;obtain⟨l,rfl,hpre,rfl⟩:=kW hr;refine⟨by simp,?_⟩;simp only[dIs,dUs,dSs,bR,bV,bT,bU,aI,bW,aL,aO,aH,aJ];(try simp only[aeQ]);(refine wlk ?_;intros);refine aF (α:=Nat×Nat) mixed (fun i=>[(3,iv i.1),(6,.lst false 4 (l.map eu)),(7,iv l.length),(8,iv i.1)]) (fun i=>[]) (fun i=>i.2)
  (fun i=>i.1≤l.length) (fun i=>l.length-i.1) (by kernel_rfl) (0,0) (Nat.zero_le _) ?_ trivial rfl ?_
 ·exact agr
 rintro⟨k,y⟩ hk;dsimp only at hk;by_cases hkl:k<l.length
 ·(refine wlk ?_;intros)
  refine⟨(k+1,_),by dsimp only;omega,by dsimp only;omega,?_,trivial,rfl⟩;exact agr
 ·obtain rfl:k=l.length:=by omega
  exact wlkF
def ajq:Fun:=F2 aq3 dI fun l h=>if l.length≤1000 then some (bv (decide (l.length≤30)&&inB h 1 1000))else none
theorem aje {l:List Bool} {h:Int} (hl:l.length≤1000):ajq [.lst false 4 (l.map eu),.val (.int .i64 h)]=some (.val (.bool (decide (l.length≤30)&&inB h 1 1000))):=(gY (A:=aq3) (B:=dI) l h).trans (if_pos hl)
def GPa:Ctx:={fn:=aT [(58,sG),(42,pY)],io:=aT []}
theorem auy:au Tryz.prog GPa:=okΓ (fC Tryz.func58 abT (fC Tryz.func42 agu aj)) aj
def asP:=ah (Γ:=GPa) (f:=58) (φ:=sG) rfl
def arw:=ah (Γ:=GPa) (f:=42) (φ:=pY) rfl
theorem aeI:Sound Tryz.prog 40 ajq:=by
 refine ak mixed auy Tryz.func40 rfl 11 rfl [.tmp 4] rfl (by kernel_rfl) fun ps r hr=>?_;obtain⟨l,h,rfl,hpre,rfl⟩:=gy hr;refine⟨by simp,?_⟩;simp only[dIs,dUs,dSs,bR,bV,bT,bU,aI,bW,aL,aO,aH,aJ];(try simp only[aeQ]);have gpa_c58:=asP;have gpa_c42:=arw;have ap:=@zP;have ap2:=@sZ;cases h1:inB h 1 1000 with
 |true=>by_cases h2:l.length≤30
        ·exact wlkF
        ·exact wlkF
 |false=>by_cases h2:l.length≤30
         ·exact wlkF
         ·exact wlkF
def pcB (ks:List Bool) (h p q:Nat):Int:=if q=ks.length then 0 else((h:Int)-((q:Int)-p))*((h:Int)-((q:Int)-p))
def pcR (ks:List Bool) (h p q:Nat):Int:=if aeA ks h p q then pcB ks h p q else-1
theorem qJ {ks:List Bool} {h:Nat} {E:Nat→Int} {p q:Nat}:jM ks h E p q=pcB ks h p q+E q:=rfl
theorem sQ {ks:List Bool} {h p q:Nat} (hm:aeA ks h p q) (hh:h≤30):0≤pcB ks h p q∧pcB ks h p q≤900:=by
 obtain⟨h1,h2,h3,h4⟩:=hm;unfold pcB;split
 ·omega
 ·obtain⟨d,hd⟩:∃d:Nat,(h:Int)-((q:Int)-p)=d:=⟨h-(q-p),by omega⟩
  have hd2:d≤30:=by omega
  have:d*d≤30*30:=Nat.mul_le_mul hd2 hd2;rw[hd];have e:(d:Int)*d=((d*d:Nat):Int):=by simp
  omega
def aaS:Fun:=fun ps=>open Classical in if hx:∃(ks:List Bool) (h p q:Nat),ps=[.lst false 4 (ks.map eu),.val (.int .i64 h),.val (.int .i64 p),.val (.int .i64 q)]∧ks.length≤30∧h≤30∧p<q∧q≤ks.length then some (iv (pcR hx.choose hx.choose_spec.choose hx.choose_spec.choose_spec.choose hx.choose_spec.choose_spec.choose_spec.choose))else none
theorem amk {a b:List Bool} (h:a.map eu=b.map eu):a=b:=(List.map_inj_right fun x y e=>by simpa using e).1 h
theorem ado {ks:List Bool} {h p q:Nat} (h1:ks.length≤30) (h2:h≤30) (h3:p<q) (h4:q≤ks.length):aaS [.lst false 4 (ks.map eu),.val (.int .i64 h),.val (.int .i64 p),.val (.int .i64 q)]=some (.val (.int .i64 (pcR ks h p q))):=by have hx:∃(ks':List Bool) (h' p' q':Nat),[PV.lst false 4 (ks.map eu),.val (.int .i64 h),.val (.int .i64 p),.val (.int .i64 q)]=[.lst false 4 (ks'.map eu),.val (.int .i64 h'),.val (.int .i64 p'),.val (.int .i64 q')]∧ks'.length≤30∧h'≤30∧p'<q'∧q'≤ks'.length:=⟨ks,h,p,q,rfl,h1,h2,h3,h4⟩;unfold aaS;rw[dif_pos hx];have e:=hx.choose_spec.choose_spec.choose_spec.choose_spec.1;generalize hx.choose_spec.choose_spec.choose_spec.choose=q' at*;generalize hx.choose_spec.choose_spec.choose=p' at*;generalize hx.choose_spec.choose=h' at*;generalize hx.choose=ks' at*;simp only[List.cons.injEq,PV.lst.injEq,PV.val.injEq,Value.int.injEq,true_and,and_true,Int.natCast_inj]at e;obtain⟨e1,e2,e3,e4⟩:=e;rw[amk e1,e2,e3,e4]
theorem adO {ps:List PV} {r:PV} (h:aaS ps=some r):∃(ks:List Bool) (h p q:Nat),ps=[.lst false 4 (ks.map eu),.val (.int .i64 h),.val (.int .i64 p),.val (.int .i64 q)]∧(ks.length≤30∧h≤30∧p<q∧q≤ks.length)∧r=iv (pcR ks h p q):=by
 have h0:=h;unfold aaS at h;split at h
 ·rename_i hx
  obtain⟨ks,hh,p,q,rfl,h1,h2,h3,h4⟩:=hx;rw[ado h1 h2 h3 h4]at h0;exact⟨ks,hh,p,q,rfl,⟨h1,h2,h3,h4⟩,(Option.some.inj h0).symm⟩
 ·cases h
def GPc:Ctx:={fn:=aT [(59,akq)],io:=aT []}
theorem ark:au Tryz.prog GPc:=okΓ (fC Tryz.func59 abp aj) aj
def ac9:=ah (Γ:=GPc) (f:=59) (φ:=akq) rfl
theorem aas:Sound Tryz.prog 41 aaS:=by
 refine ak mixed ark Tryz.func41 rfl 47 rfl [.tmp 8] rfl (by kernel_rfl) fun ps r hr=>?_;obtain⟨ks,h,p,q,rfl,⟨h1,h2,h3,h4⟩,rfl⟩:=adO hr;clear hr;refine⟨by simp,?_⟩;have hsl:((ks.drop p).take (q-p)).length=q-p:=by rw[List.length_take,List.length_drop];omega
 have aph:=aj7 (l:=(ks.drop p).take (q-p)) (by omega);rw[hsl]at aph;have hqp:((q-p:Nat):Int)=(q:Int)-p:=by omega
 by_cases hneg:(h:Int)-((q:Int)-p)<0
 ·have hR:pcR ks h p q=-1:=if_neg fun hm=>by have:=hm.2.2.1;omega
  rw[hR];have gpc_c59:=ac9;exact wlkF
 ·obtain⟨d,hd⟩:∃d:Nat,(h:Int)-((q:Int)-p)=d:=⟨h-(q-p),by omega⟩
  have hd2:d≤30:=by omega
  have hdd:d*d≤30*30:=Nat.mul_le_mul hd2 hd2;have hdc:(d:Int)*d=((d*d:Nat):Int):=by simp
  have w1:=bZ (n:=((h:Int)-((q:Int)-p))*((h:Int)-((q:Int)-p))) (by rw[hd,hdc];omega) (by rw[hd,hdc];omega);clear hd hd2 hdd hdc;by_cases hqn:q=ks.length
  ·subst hqn
   have hR:pcR ks h p ks.length=0:=by unfold pcR;rw[if_pos ⟨h3,h4,by omega,fun e=>by omega⟩];exact if_pos rfl
   rw[hR];have gpc_c59:=ac9;exact wlkF
  ·cases hkp:ks[q-1]?.getD false with
   |true=>have hR:pcR ks h p q=-1:=if_neg fun hm=>hm.2.2.2 ⟨by omega,hkp⟩;rw[hR];have gpc_c59:=ac9;exact wlkF
   |false=>
    have hR:pcR ks h p q=((h:Int)-((q:Int)-p))*((h:Int)-((q:Int)-p)):=by unfold pcR;rw[if_pos ⟨h3,h4,by omega,fun e=>by rw[show ael ks (q-1)=ks[q-1]?.getD false from rfl,hkp]at e;cases e.2⟩];exact if_neg hqn
    rw[hR];have gpc_c59:=ac9;exact wlkF
theorem acy {ks:List Bool} {h:Nat} {E:Nat→Int} {p:Nat} {B:Int} (hp:p≤ks.length) (hh:h≤30) (hB:0≤B) (hE:∀q,E q≤B):∀m,m≤ks.length→-1≤(dnP ks h E p m).1∧(dnP ks h E p m).1≤900+B∧(dnP ks h E p m).2≤ks.length:=fun m hm=>by
 have hb:=qG (ks:=ks) (h:=h) (E:=E) (p:=p) m hm;by_cases c:(dnP ks h E p m).1<0
 ·rw[(hb.no c).1]
  refine⟨?_,?_,?_⟩
  ·show(-1:Int)≤-1
   omega
  ·show(-1:Int)≤900+B
   omega
  ·show 0≤ks.length
   omega
 ·obtain⟨q1,q2,q3,q4⟩:=hb.yes (by omega)
  have h1:=sQ q2.1 hh;have h2:=hE (dnP ks h E p m).2;rw[qJ]at q3;exact⟨by omega,by omega,q1.2⟩
theorem kJ {ks:List Bool} {h:Nat} (hh:h≤30):∀k,k≤ks.length→∀x,-1≤(tbP ks h k x).1∧(tbP ks h k x).1≤900*k∧(tbP ks h k x).2≤ks.length
 |0,_,x=>⟨by show(-1:Int)≤0;omega,by show(0:Int)≤900*0;omega,Nat.zero_le _⟩
 |k+1,hk,x=>by
  have ih:=kJ (ks:=ks) hh k (by omega);show-1≤(if x=ks.length-(k+1)then bq ks h (fun q=>(tbP ks h k q).1) (ks.length-(k+1))else tbP ks h k x).1∧(if x=ks.length-(k+1)then bq ks h (fun q=>(tbP ks h k q).1) (ks.length-(k+1))else tbP ks h k x).1≤900*((k+1:Nat):Int)∧(if x=ks.length-(k+1)then bq ks h (fun q=>(tbP ks h k q).1) (ks.length-(k+1))else tbP ks h k x).2≤ks.length;split
  ·have:=acy (ks:=ks) (h:=h) (E:=fun q=>(tbP ks h k q).1) (p:=ks.length-(k+1)) (B:=900*k) (by omega) hh (by omega) (fun q=>(ih q).2.1) (ks.length-(ks.length-(k+1))) (by omega)
   unfold bq;refine⟨this.1,by omega,this.2.2⟩
  ·have:=ih x
   exact⟨this.1,by omega,this.2.2⟩
theorem acH {ks:List Bool} {h k:Nat} (hk:k<ks.length):(fun x=>(tbP ks h (k+1) x).1)=ovr (fun x=>(tbP ks h k x).1) (ks.length-(k+1)) (bq ks h (fun q=>(tbP ks h k q).1) (ks.length-(k+1))).1∧(fun x=>((tbP ks h (k+1) x).2:Int))=ovr (fun x=>((tbP ks h k x).2:Int)) (ks.length-(k+1)) ((bq ks h (fun q=>(tbP ks h k q).1) (ks.length-(k+1))).2:Int):=by
 constructor<;>(funext x;show _=if x=_ then _ else _;split)
 ·rename_i e;subst e;show(if ks.length-(k+1)=ks.length-(k+1)then _ else _:Int×Nat).1=_;rw[if_pos rfl]
 ·rename_i e;show(if x=ks.length-(k+1)then _ else _:Int×Nat).1=_;rw[if_neg e]
 ·rename_i e;subst e;show((if ks.length-(k+1)=ks.length-(k+1)then _ else _:Int×Nat).2:Int)=_;rw[if_pos rfl]
 ·rename_i e;show((if x=ks.length-(k+1)then _ else _:Int×Nat).2:Int)=_;rw[if_neg e]
def tZ:Fun:=fun ps=>open Classical in if hx:∃(ks:List Bool) (h:Nat),ps=[.lst false 4 (ks.map eu),.val (.int .i64 h)]∧ks.length≤30∧1≤h∧h≤30 then some (.tup [.lst true 1 (((jh hx.choose hx.choose_spec.choose).map fun n:Nat=>(n:Int)).map fun n=> .val (.int .i64 n)),bv (yw hx.choose hx.choose_spec.choose)])else none
theorem qM {ks:List Bool} {h:Nat} (h1:ks.length≤30) (h2:1≤h) (h3:h≤30):tZ [.lst false 4 (ks.map eu),.val (.int .i64 h)]=some (.tup [.lst true 1 (((jh ks h).map fun n:Nat=>(n:Int)).map fun n=> .val (.int .i64 n)),.val (.bool (yw ks h))]):=by have hx:∃(ks':List Bool) (h':Nat),[PV.lst false 4 (ks.map eu),.val (.int .i64 h)]=[.lst false 4 (ks'.map eu),.val (.int .i64 h')]∧ks'.length≤30∧1≤h'∧h'≤30:=⟨ks,h,rfl,h1,h2,h3⟩;unfold tZ;rw[dif_pos hx];have e:=hx.choose_spec.choose_spec.1;generalize hx.choose_spec.choose=h' at*;generalize hx.choose=ks' at*;simp only[List.cons.injEq,PV.lst.injEq,PV.val.injEq,Value.int.injEq,true_and,and_true,Int.natCast_inj]at e;obtain⟨e1,e2⟩:=e;rw[amk e1,e2]
theorem uV {ps:List PV} {r:PV} (h:tZ ps=some r):∃(ks:List Bool) (h:Nat),ps=[.lst false 4 (ks.map eu),.val (.int .i64 h)]∧(ks.length≤30∧1≤h∧h≤30)∧r=.tup [.lst true 1 (((jh ks h).map fun n:Nat=>(n:Int)).map fun n=> .val (.int .i64 n)),bv (yw ks h)]:=by
 have h0:=h;unfold tZ at h;split at h
 ·rename_i hx
  obtain⟨ks,hh,rfl,h1,h2,h3⟩:=hx;rw[qM h1 h2 h3]at h0;exact⟨ks,hh,rfl,⟨h1,h2,h3⟩,(Option.some.inj h0).symm⟩
 ·cases h
def axd:Ctx:={fn:=aT [(40,ajq),(41,aaS)],io:=aT []}
theorem aob:au Tryz.prog axd:=okΓ (fC Tryz.func40 aeI (fC Tryz.func41 aas aj)) aj
def aqn:=ah (Γ:=axd) (f:=40) (φ:=ajq) rfl
def aoH:=ah (Γ:=axd) (f:=41) (φ:=aaS) rfl
theorem aff:Sound Tryz.prog 20 tZ:=by
 refine fU mixed aob Tryz.func20 rfl 105 rfl [.tmp 4,.tmp 5] rfl (by kernel_rfl) fun ps r hr=>?_;obtain⟨ks,h,rfl,⟨h1,h2,h3⟩,rfl⟩:=uV hr;clear hr;refine⟨by simp,?_⟩;have apa:=aje (l:=ks) (h:=h) (by omega);rw[decide_eq_true h1,show inB (h:Int) 1 1000=true from ay.2 ⟨by omega,by omega⟩]at apa;have gbpi_c40:=aqn;have gbpi_c41:=aoH;(refine wlk ?_;intros);refine aF (α:=Nat) mixed (fun k=>[(0,.lst false 4 (ks.map eu)),(1,iv h),(6,iv ks.length),(7,.row 0 1 0 (ks.length+1)),(8,.row 1 1 0 (ks.length+1)),(9,.val (.int .i64 ((ks.length:Int)-1-k)))])
  (fun k=>[(0,3,1,xH ks.length (fun x=>(tbP ks h k x).1)),(1,3,1,xH ks.length (fun x=>((tbP ks h k x).2:Int)))]) (fun _=>2) (fun k=>k≤ks.length) (fun k=>ks.length-k) (by kernel_rfl) 0 (Nat.zero_le _) ?_ ?_ rfl ?_
 ·exact agi
 ·simp(disch:=(first|omega|(simp only[push_cast];first|done|omega))) only[push_cast,↓reduceIte,Nat.reduceEqDiff,Nat.reduceBEq,Nat.reduceAdd,Nat.reduceSub,Int.reduceToNat,List.length_append, *]
  try exact⟨rfl,rfl⟩
 intro k hk;have hbd:=kJ (ks:=ks) h3 k hk;by_cases hkl:k<ks.length
 ·obtain⟨e1,e2⟩:=acH (h:=h) hkl
  have hlow:=ab2 (ks:=ks) (h:=h) (k:=k) (x:=ks.length-(k+1)) hk (by omega);have hp:(ks.length:Int)-1-k=((ks.length-(k+1):Nat):Int):=by omega
  rw[hp];replace hp:=Lib.hid hp;have hdn:=fun m hm=>acy (ks:=ks) (h:=h) (E:=fun q=>(tbP ks h k q).1) (p:=ks.length-(k+1)) (B:=900*k) (by omega) h3 (by omega) (fun q=>(hbd q).2.1) m hm;have hbq:bq ks h (fun q=>(tbP ks h k q).1) (ks.length-(k+1))=dnP ks h (fun q=>(tbP ks h k q).1) (ks.length-(k+1)) (ks.length-(ks.length-(k+1))):=rfl;rw[hbq]at e1 e2;clear hbq;have hN0:((tbP ks h k (ks.length-(k+1))).2:Int)=0:=by rw[hlow];rfl
  have hEb:∀x,-1≤(fun x=>(tbP ks h k x).1) x∧(fun x=>(tbP ks h k x).1) x≤27000:=fun x=>by have:=hbd x;exact⟨this.1,by dsimp only;omega⟩
  replace hN0:(fun x=>((tbP ks h k x).2:Int)) (ks.length-(k+1))=0:=hN0;have hpk:ks.length-(k+1)<ks.length:=by omega
  clear hbd hlow;generalize hEe:(fun x=>(tbP ks h k x).1)=E at*;generalize hNe:(fun x=>((tbP ks h k x).2:Int))=Nx at*;replace e1:=Lib.hid e1;replace e2:=Lib.hid e2;clear hEe hNe;generalize ks.length-(k+1)=p at*;have hov:ovr Nx p ((dnP ks h E p 0).2:Int)=Nx:=by rw[show((dnP ks h E p 0).2:Int)=Nx p from hN0.symm];exact amL
  replace hov:=Lib.hid hov;replace hN0:=Lib.hid hN0;(refine wlk ?_;intros);refine aF (α:=Nat) mixed (fun m=>[(0,.lst false 4 (ks.map eu)),(1,iv h),(6,iv ks.length),(7,.row 0 1 0 (ks.length+1)),(8,.row 1 1 0 (ks.length+1)),(9,iv p),(10,.val (.int .i64 ((ks.length:Int)-m)))])
   (fun m=>[(0,3,1,xH ks.length (ovr E p (dnP ks h E p m).1)),(1,3,1,xH ks.length (ovr Nx p ((dnP ks h E p m).2:Int)))]) (fun _=>2) (fun m=>m≤ks.length-p) (fun m=>ks.length-p-m) (by kernel_rfl) 0 (Nat.zero_le _) ?_ ?_ rfl ?_
  ·exact agi
  ·(try dsimp only)
   rw[hov.out];simp(disch:=(first|omega|(simp only[push_cast];first|done|omega))) only[push_cast,↓reduceIte,Nat.reduceEqDiff,Nat.reduceBEq,Nat.reduceAdd,Nat.reduceSub,Int.reduceToNat,List.length_append, *];try rfl
  intro m hm;have hsb:=hdn m (by omega);by_cases hml:m<ks.length-p
  ·have hq:(ks.length:Int)-m=((ks.length-m:Nat):Int):=by omega
   have hst:dnP ks h E p (m+1)=aaT ks h E p (ks.length-m) (dnP ks h E p m):=rfl;have hpq:p<ks.length-m:=by omega
   have hqn:ks.length-m≤ks.length:=by omega
   have hEq:=hEb (ks.length-m);(try dsimp only);rw[hq];replace hq:=Lib.hid hq;generalize ks.length-m=q at*;have apc:=ado (ks:=ks) (h:=h) (p:=p) (q:=q) h1 h3 hpq hqn;have hpm:=fun hm=>sQ (ks:=ks) (h:=h) (p:=p) (q:=q) hm h3;generalize dnP ks h E p m=s at*;have ea:ovr E p s.1 q=E q:=alV (by omega);have eb:ovr E p s.1 p=s.1:=amn;have eo:∀v,ovr (ovr E p s.1) p v=ovr E p v:=fun v=>yu;have eo2:∀v,ovr (ovr Nx p (s.2:Int)) p v=ovr Nx p v:=fun v=>yu;unfold aaT okQ at hst;rw[qJ]at hst;clear hEb hN0 hov hdn e1 e2 hp;by_cases hok:aeA ks h p q
   ·have hpc:pcR ks h p q=pcB ks h p q:=if_pos hok
    obtain⟨hc0,hc1⟩:=hpm hok;rw[hpc]at apc;clear hpm hpc;by_cases hE0:E q<0
    ·have hst2:dnP ks h E p (m+1)=s:=by rw[hst];exact if_neg fun e=>by have:=e.1.2;omega
     replace hst2:=Lib.hid hst2;clear hst;generalize pcB ks h p q=c at*;(refine wlk ?_;intros);refine⟨m+1,by omega,by dsimp only;omega,?_,?_,rfl⟩
     ·have hq:=hq.out
      exact agi
     ·(try dsimp only)
      rw[hst2.out];exact agr
    ·by_cases hs0:s.1<0
     ·have hst2:dnP ks h E p (m+1)=(pcB ks h p q+E q,q):=by rw[hst];exact if_pos ⟨⟨hok,by omega⟩,.inl hs0⟩
      replace hst2:=Lib.hid hst2;clear hst;generalize pcB ks h p q=c at*;(refine wlk ?_;intros);refine⟨m+1,by omega,by dsimp only;omega,?_,?_,rfl⟩
      ·have hq:=hq.out
       exact agi
      ·(try dsimp only)
       rw[hst2.out];exact agr
     ·by_cases hlt:pcB ks h p q+E q<s.1
      ·have hst2:dnP ks h E p (m+1)=(pcB ks h p q+E q,q):=by rw[hst];exact if_pos ⟨⟨hok,by omega⟩,.inr hlt⟩
       replace hst2:=Lib.hid hst2;clear hst;generalize pcB ks h p q=c at*;(refine wlk ?_;intros);refine⟨m+1,by omega,by dsimp only;omega,?_,?_,rfl⟩
       ·have hq:=hq.out
        exact agi
       ·(try dsimp only)
        rw[hst2.out];exact agr
      ·have hst2:dnP ks h E p (m+1)=s:=by rw[hst];exact if_neg fun e=>e.2.elim hs0 hlt
       replace hst2:=Lib.hid hst2;clear hst;generalize pcB ks h p q=c at*;(refine wlk ?_;intros);refine⟨m+1,by omega,by dsimp only;omega,?_,?_,rfl⟩
       ·have hq:=hq.out
        exact agi
       ·(try dsimp only)
        rw[hst2.out];exact agr
   ·have hpc:pcR ks h p q=-1:=if_neg hok
    rw[hpc]at apc;have hst2:dnP ks h E p (m+1)=s:=by rw[hst];exact if_neg fun e=>hok e.1.1
    replace hst2:=Lib.hid hst2;clear hst hpm hpc;(refine wlk ?_;intros);refine⟨m+1,by omega,by dsimp only;omega,?_,?_,rfl⟩
    ·have hq:=hq.out
     exact agi
    ·(try dsimp only)
     rw[hst2.out];exact agr
  ·obtain rfl:m=ks.length-p:=by omega
   have hm2:(ks.length:Int)-((ks.length-p:Nat):Int)=p:=by omega
   (try dsimp only);rw[hm2];clear hm2;generalize dnP ks h E p (ks.length-p)=s at*;(refine wlk ?_;intros);refine⟨k+1,by omega,by dsimp only;omega,?_,?_,rfl⟩
   ·have hp:=hp.out
    exact agi
   ·(try dsimp only)
    rw[e1.out,e2.out];exact agr
 ·obtain rfl:k=ks.length:=by omega
  (try dsimp only);rw[show(ks.length:Int)-1-(ks.length:Int)=-1 by omega,show(fun x=>(tbP ks h ks.length x).1)=dA ks h from rfl,show(fun x=>((tbP ks h ks.length x).2:Int))=fun x=>(jD ks h x:Int)from rfl];have hb0:-1≤dA ks h 0∧dA ks h 0≤27000:=by have:=hbd 0;exact⟨this.1,by unfold dA;omega⟩
  clear hbd;cases hB:yw ks h with
  |false=>
   have hl0:dA ks h 0<0:=by unfold yw at hB;simpa using hB
   have hE0:jh ks h=[]:=by unfold jh;rw[if_neg (by rw[hB];decide)]
   rw[hE0,List.map_nil,List.map_nil];clear hB hE0;generalize dA ks h=L at*;generalize(fun x=>(jD ks h x:Int))=Nx at*;(refine wlk ?_;intros);all_goals((with_reducible apply bS (by first|exact .inl rfl|exact .inr rfl));(simp(disch:=(first|omega|(simp only[push_cast];first|done|omega))) only[push_cast,↓reduceIte,Nat.reduceEqDiff,Nat.reduceBEq,Nat.reduceAdd,Nat.reduceSub,Int.reduceToNat, *]<;>with_reducible exact rfl))
   all_goals exact oD ⟨nil_le _ _,PV.le_refl _,trivial⟩
  |true=>
   have hl0:=wZ.1 hB;have hE0:jh ks h=lM ks h ks.length 0:=if_pos hB;have hch:=rM (uH hB);have hnm:=fun p h1 h2=>xK (ks:=ks) (h:=h) (p:=p) h1 h2;have hpe:=fun f=>acY (ks:=ks) (h:=h) (f:=f);have hpS:∀f p,p<ks.length→lM ks h (f+1) p=jD ks h p::lM ks h f (jD ks h p):=fun f p hp=>if_pos hp;have hNb:∀p,jD ks h p≤ks.length:=fun p=>by
    by_cases hp:p<ks.length
    ·exact(sD (ks:=ks) (h:=h) (E:=dA ks h) (p:=p) (by omega))|>fun hb=>by
      have e:=abJ (h:=h) hp;by_cases c:(bq ks h (dA ks h) p).1<0
      ·unfold jD
       rw[e,(hb.no c).1];exact Nat.zero_le _
      ·unfold jD
       rw[e];exact(hb.yes (by omega)).1.2
    ·have:=(kJ (ks:=ks) h3 ks.length (Nat.le_refl _) p).2.2
     exact this
   rw[hE0]at hch;rw[hE0];clear hB hE0;generalize hLL:dA ks h=L at*;generalize hNN:jD ks h=Nx at*;generalize hZ:(lM ks h ks.length 0).map (fun n:Nat=>(n:Int))=Z at*;have hZl:Z.length≤ks.length:=by rw[←hZ,List.length_map];exact hch
   (refine wlk ?_;intros);refine aF (α:=List Int×Nat×Nat×Nat) mixed (fun i=>[(6,iv ks.length),(8,.row 1 1 0 (ks.length+1)),(12,nP 1 (i.1.map fun n=> .val (.int .i64 n)) i.2.2.1),(13,iv i.2.1)])
    (fun i=>[(1,3,1,xH ks.length (fun x=>(Nx x:Int)))]++nO 3 1 (i.1.map fun n=> .val (.int .i64 n)) i.2.2.1) (fun i=>i.2.2.2)
    (fun i=>(i.2.1≤ks.length∧0≤L i.2.1)∧(2≤i.2.2.2∧(0<i.1.length→2≤i.2.2.1∧i.2.2.1<i.2.2.2))∧∃f,ks.length-i.2.1≤f∧i.1++(lM ks h f i.2.1).map (fun n:Nat=>(n:Int))=Z) (fun i=>ks.length-i.2.1) (by kernel_rfl) ([],0,0,2) ⟨⟨Nat.zero_le _,hl0⟩,⟨Nat.le_refl _,fun e=>absurd e (Nat.lt_irrefl 0)⟩,ks.length,by dsimp only;omega,by rw[List.nil_append];exact hZ⟩ ?_ ?_ rfl ?_
   ·(try dsimp only)
    rw[List.map_nil,eG];exact agi
   ·(try dsimp only)
    rw[List.map_nil,dM];simp(disch:=(first|omega|(simp only[push_cast];first|done|omega))) only[push_cast,↓reduceIte,Nat.reduceEqDiff,Nat.reduceBEq,Nat.reduceAdd,Nat.reduceSub,Int.reduceToNat,List.cons_append,List.nil_append,List.append_nil, *]
   rintro⟨OUT,p,o,y⟩ ⟨⟨hp,hLp⟩,⟨hy,hoy⟩,f,hf,hout⟩;dsimp only at hp hLp hy hoy hf hout⊢;by_cases hpl:p<ks.length
   ·obtain⟨f,rfl⟩:∃g,f=g+1:=⟨f-1,by omega⟩
    obtain⟨hm1,hm2⟩:=hnm p hpl hLp;have hn1:=hm1.1;have hn2:=hm1.2.1;rw[hpS f p hpl,List.map_cons]at hout;have hout2:(OUT++[(Nx p:Int)])++(lM ks h f (Nx p)).map (fun n:Nat=>(n:Int))=Z:=by rw[List.append_assoc];exact hout
    have hol:OUT.length+1≤ks.length:=by have:=congrArg List.length hout2;simp only[List.length_append,List.length_singleton]at this;omega
    clear hout hnm hpe hpS hm1 hLL hNN hZ hch;replace hout2:=Lib.hid hout2;replace hm2:=Lib.hid hm2;by_cases hO:OUT.length=0
    ·obtain rfl:OUT=[]:=List.eq_nil_of_length_eq_zero hO
     rw[List.map_nil,eG,dM,List.append_nil];clear hO hoy;(refine wlk ?_;intros);refine⟨([(Nx p:Int)],Nx p,y+1,y+2),⟨⟨by dsimp only;omega,hm2.out⟩,⟨by dsimp only;omega,fun _=>⟨by dsimp only;omega,by dsimp only;omega⟩⟩,f,by dsimp only;omega,hout2.out⟩,by dsimp only;omega,?_,?_,rfl⟩
     ·(try dsimp only)
      rw[aA (by simp)];exact agi
     ·(try dsimp only)
      rw[aD (by simp)];simp(disch:=(first|omega|(simp only[push_cast];first|done|omega))) only[push_cast,↓reduceIte,Nat.reduceEqDiff,Nat.reduceBEq,Nat.reduceAdd,Nat.reduceSub,Int.reduceToNat,List.cons_append,List.nil_append,List.append_nil, *]
    ·obtain⟨ho1,ho2⟩:=hoy (by omega)
     rw[aA (es:=OUT.map fun n=> .val (.int .i64 n)) (by rw[List.length_map];omega),aD (es:=OUT.map fun n=> .val (.int .i64 n)) (by rw[List.length_map];omega)];simp only[List.cons_append,List.nil_append,List.length_map];(refine wlk ?_;intros);refine⟨(OUT++[(Nx p:Int)],Nx p,y+1,y+2),⟨⟨by dsimp only;omega,hm2.out⟩,⟨by dsimp only;omega,fun _=>⟨by dsimp only;omega,by dsimp only;omega⟩⟩,f,by dsimp only;omega,hout2.out⟩,by dsimp only;omega,?_,?_,rfl⟩
     ·(try dsimp only)
      rw[aA (by simp)];exact agi
     ·(try dsimp only)
      rw[aD (by simp)];simp(disch:=(first|omega|(simp only[push_cast];first|done|omega))) only[push_cast,↓reduceIte,Nat.reduceEqDiff,Nat.reduceBEq,Nat.reduceAdd,Nat.reduceSub,Int.reduceToNat,List.cons_append,List.nil_append,List.append_nil, *]
   ·obtain rfl:p=ks.length:=by omega
    rw[hpe f,List.map_nil,List.append_nil]at hout;subst hout;clear hnm hpe hpS hLL hNN hZ hch hNb;by_cases hO:OUT.length=0
    ·obtain rfl:OUT=[]:=List.eq_nil_of_length_eq_zero hO
     rw[List.map_nil,eG,dM,List.append_nil];clear hO hoy;(refine wlk ?_;intros);all_goals((with_reducible apply bS (by first|exact .inl rfl|exact .inr rfl));(simp(disch:=(first|omega|(simp only[push_cast];first|done|omega))) only[push_cast,↓reduceIte,Nat.reduceEqDiff,Nat.reduceBEq,Nat.reduceAdd,Nat.reduceSub,Int.reduceToNat, *]<;>with_reducible exact rfl))
     all_goals exact oD ⟨nil_le _ _,PV.le_refl _,trivial⟩
    ·obtain⟨ho1,ho2⟩:=hoy (by omega)
     rw[aA (es:=OUT.map fun n=> .val (.int .i64 n)) (by rw[List.length_map];omega),aD (es:=OUT.map fun n=> .val (.int .i64 n)) (by rw[List.length_map];omega)];simp only[List.cons_append,List.nil_append,List.length_map];(refine wlk ?_;intros);all_goals((with_reducible apply bS (by first|exact .inl rfl|exact .inr rfl));(simp(disch:=(first|omega|(simp only[push_cast];first|done|omega))) only[push_cast,↓reduceIte,Nat.reduceEqDiff,Nat.reduceBEq,Nat.reduceAdd,Nat.reduceSub,Int.reduceToNat, *]<;>with_reducible exact rfl))
     all_goals exact PV.le_refl _
end
end Go.Proofs.YtmmafcjjlbgnkaaGreat
