/- What the proof rests on, part 12: contracts of functions. No condition beyond what each states. -/
import Derived.Test.YtmmafcjjlbgnkaaGreatZBg11
namespace Go.Proofs.YtmmafcjjlbgnkaaGreat
open Go.RowKit
set_option linter.all false
set_option maxHeartbeats 32000000
noncomputable section
theorem anr:Tryz.prog.underlying 92=some (.map 96 98):=by kernel_rfl
theorem avU:(96:TypeId)<Tryz.prog.types.size:=of_decide_eq_true (by kernel_rfl)
theorem ase:(match Tryz.prog.underlying 96 with|some (.array _ _)|some (.struct _)=>true|_=>false)=true:=by kernel_rfl
set_option maxRecDepth 100000 in
theorem arn:laidOutB Tryz.prog=true:=by kernel_rfl
set_option maxRecDepth 100000 in
theorem axM:Tryz.prog.keyTypeAt 3 96=true:=by kernel_rfl
theorem aex {P:Program} {k:TypeId} (hl:laidOutB P=true) (hrow:k<P.types.size) (hk:P.keyTypeAt 3 k=true) (hwide:(match P.underlying k with|some (.array _ _)|some (.struct _)=>true|_=>false)=true):Go.Maps.Keyed P k:=Go.Maps.Keyed.of_law (deep_law_laid hl (m:=3) (by omega) hrow hk hwide)
set_option maxRecDepth 100000 in
theorem abF:Go.Maps.Keyed Tryz.prog 96:=aex arn avU axM ase
abbrev aeK (n:Int) (mk:Bool) (lk:Int):Value:=.agg #[.int .i64 n,.bool mk,.int .i64 lk]
def kl1 (n:Int):Option (List Lit):=if IntKind.i64=.i64∧(Lit.int .i64 n).wf=true then some [.int .i64 n]else none
set_option maxRecDepth 100000 in
theorem ad4 (n lk:Int) (mk:Bool):Tryz.prog.keyLits (Tryz.prog.types.size+1) 96 (aeK n mk lk).cells.toList=(do let a←kl1 n;let b←some [Lit.bool mk];let c←kl1 lk;pure [a,b,c]:Option (List (List Lit))).map List.flatten:=by kernel_rfl
theorem xL {n lk:Int} {mk:Bool} (h1:okI n) (h2:okI lk):∃l,keyOf Tryz.prog 96 (aeK n mk lk)=some l:=by
 have hk:Tryz.prog.keyType 96=true:=by kernel_rfl
 have hf:(aeK n mk lk).formed Tryz.prog 96=true:=by
  obtain⟨fs,hu⟩:∃fs,Tryz.prog.underlying 96=some (.struct fs):=⟨_,asu⟩;have hc:Tryz.prog.cellsOf 96=3:=by kernel_rfl
  simp[Value.formed,hu,hc]
 have w1:(Lit.int .i64 n).wf=true:=by show(decide (-9223372036854775808≤n)&&decide (n≤9223372036854775807))=true;simp[h1.1,h1.2]
 have w2:(Lit.int .i64 lk).wf=true:=by show(decide (-9223372036854775808≤lk)&&decide (lk≤9223372036854775807))=true;simp[h2.1,h2.2]
 unfold keyOf;rw[asu];dsimp only
 rw[hk,hf,Bool.and_self,if_pos rfl];rw[ad4];unfold kl1;rw[if_pos ⟨rfl,w1⟩,if_pos ⟨rfl,w2⟩];exact⟨_,rfl⟩
theorem an4:bf Tryz.prog 94 0=some 0:=by kernel_rfl
theorem anD:bf Tryz.prog 94 1=some 1:=by kernel_rfl
theorem aoh:bf Tryz.prog 94 2=some 2:=by kernel_rfl
theorem anV:bf Tryz.prog 94 3=some 3:=by kernel_rfl
theorem aul:bn Tryz.prog 92=some 1:=by kernel_rfl
theorem atl:jC Tryz.prog 92=some false:=by kernel_rfl
attribute[push_cast]
 an4 anD aoh anV aul atl
abbrev mkA (l:List It) (a:Nat):Bool:=if a=0 then false else(gI l (a-1)).2.2.2.2.2.2
def chV (l:List It) (a:Nat) (r:Option Ch):Value:=if a=l.length then .agg #[.int .i64 0,.int .i64 0,.bool false,.int .i64 0]else match r with
 |none=> .agg #[.int .i64 (-1),.int .i64 0,.bool false,.int .i64 0]
 |some x=> .agg #[.int .i64 x.1,.int .i64 x.2.1,.bool (gI l x.2.1).2.2.2.2.2.2,.int .i64 x.2.2]
def chP (l:List It) (a:Nat) (r:Option Ch):PV:=if a=l.length then .agg [iv 0,iv 0,bv false,iv 0]else match r with
 |none=> .agg [iv (-1),iv 0,bv false,iv 0]
 |some x=> .agg [iv x.1,iv x.2.1,bv (gI l x.2.1).2.2.2.2.2.2,iv x.2.2]
theorem qh (l:List It) (a:Nat) (r:Option Ch):toVal (chP l a r)=some (chV l a r):=by
 unfold chP chV;split
 ·rfl
 ·cases r<;>rfl
abbrev ahr (l:List It) (wd most:Int) (b:Nat):PV:=.ptr false (.agg [fT l,iv wd,iv most,.val (.map (some b))]) 0
def qd (l:List It) (wd most:Int) (L:VL):Prop:=∀p∈L,∃(a:Nat) (lk:Int),a<l.length∧(0≤lk∧lk≤3)∧p.1=aeK ((a:Int)-1) (mkA l a) lk∧p.2=chV l a (aJ l wd most a lk)
def aC (r:Option Ch):Int:=match r with|none=>-1|some x=>x.1
def aN (r:Option Ch):Int:=match r with|none=>0|some x=>x.2.1
def aM (l:List It) (r:Option Ch):Bool:=match r with|none=>false|some x=>(gI l x.2.1).2.2.2.2.2.2
def aK (r:Option Ch):Int:=match r with|none=>0|some x=>x.2.2
theorem zM {l:List It} {a:Nat} {r:Option Ch} (h:¬a=l.length):chP l a r=.agg [iv (aC r),iv (aN r),bv (aM l r),iv (aK r)]:=by unfold chP;rw[if_neg h];cases r<;>rfl
theorem ajt (l:List It) (a:Nat) (lk wd most:Int):∃c n m k,chP l a (aJ l wd most a lk)=.agg [iv c,iv n,bv m,iv k]∧((aJ l wd most a lk=none∧c=-1)∨∃r,aJ l wd most a lk=some r∧c=r.1):=by
 by_cases h:a=l.length
 ·subst h
  exact⟨0,0,false,0,if_pos rfl,.inr ⟨_,nY _ _ _ _,rfl⟩⟩
 ·refine⟨_,_,_,_,zM h,?_⟩
  cases hr:aJ l wd most a lk with
  |none=>exact .inl ⟨rfl,rfl⟩
  |some r=>exact .inr ⟨r,rfl,rfl⟩
theorem akT {n:Nat} {ob:bC} (l:List It) (wd most:Int) (b:Nat):reify false n ob 8 (ahr l wd most b)=some (ahr l wd most b):=by
 have h1:reify false n ob 6 (fT l)=some (fT l):=by(simp(disch:=(first|omega|(simp only[push_cast];first|done|omega))) only[push_cast,↓reduceIte,Nat.reduceEqDiff,Nat.reduceBEq,Nat.reduceAdd,Nat.reduceSub,Int.reduceToNat, *]<;>with_reducible exact rfl)
 show(if false=true∧false=false then none else(([fT l,iv wd,iv most,.val (.map (some b))].mapM (reify false n ob 6)).map PV.agg).map (PV.ptr false · 0))=_;rw[if_neg (by decide)];simp only[List.mapM_cons,List.mapM_nil,h1];rfl
attribute[push_cast]
 akT
theorem HY.awF {P:Program} {k:TypeId} {N B:Nat} {w00:World} {Γ:Ctx} {K:X→AS→Sg→Prop} {s:AS} {b:Nat} {L:VL} {id:Nat} (n:Nat) {os pre:List Oper} {t e:TypeId} {x y z:Operand} {ty:Nat} {pos:String} {af:Array Edge} (hm:P.follows .mixedOrders=true) (hΓ:ak P Γ) (Ky:Go.Maps.Keyed P k) (ht:P.underlying t=some (.map k e))
 (h1:os.take n=pre) (h2:os.drop n=[{dst:=none,op:=.mapUpdate t x y z,type:=ty,pos:=pos,after:=af,guard:=none}]) {gs:List (Option Nat)} (hgs:os.map (·.dst)=gs) (hd:os.toArray.all (jA N)=true) (hok:om Γ (aly true os.toArray) os.toArray=true) (hlast:(List.range n).all (fun i=>aak os.toArray os.toArray.size i n)=true) (hn:pre.length=n)
 (hp:wq P Γ (aly true os.toArray) gs pre (fun s1=>∃key val kl,look s1.tm x=.val (.map (some b))∧toVal (look s1.tm y)=some key∧toVal (look s1.tm z)=some val∧keyOf P k key=some kl∧∀L',Upd L key val L'→K .normal s1 (some (b,L'))) s.tm s.ob s.nx):HY P k N B w00 (.region id os.toArray true) K s (some (b,L)):=
 HY.axz hm hΓ Ky ht hd hok hlast (show os=pre++_ by rw[←h1,←h2,List.take_append_drop]) hn rfl rfl rfl hgs hp
theorem qd.upd {l:List It} {wd most:Int} {L L':VL} {a:Nat} {lk:Int} (h:qd l wd most L) (ha:a<l.length) (hk:0≤lk∧lk≤3) (hu:Upd L (aeK ((a:Int)-1) (mkA l a) lk) (chV l a (aJ l wd most a lk)) L'):qd l wd most L':=by
 cases hu with
 |new h1=>
  intro p hp;rcases List.mem_append.1 hp with hp|hp
  ·exact h p hp
  ·rw[List.mem_singleton.1 hp]
   exact⟨a,lk,ha,hk,rfl,rfl⟩
 |old h1=>
  subst h1;intro p hp;rcases List.mem_append.1 hp with hp|hp
  ·exact h p (List.mem_append.2 (.inl hp))
  ·rcases List.mem_cons.1 hp with rfl|hp
   ·exact⟨a,lk,ha,hk,rfl,rfl⟩
   ·exact h p (List.mem_append.2 (.inr (List.mem_cons_of_mem _ hp)))
def auT:Ctx:={fn:=aY [(92,φLc)],io:=aY []}
theorem bX:ak Tryz.prog auT:=okΓ (fC Tryz.func92 ag0 aj) aj
def am5:=ah (Γ:=auT) (f:=92) (φ:=φLc) rfl
set_option maxRecDepth 100000 in
theorem aj1 {l:List It} {wd most:Int} (hl:aX l=true) (hpos:0<l.length) (hw:0≤wd∧wd≤1000) (hm:0≤most∧most≤10000):∀(n a:Nat) (lk:Int),l.length-a=n→a≤l.length→(0≤lk∧lk≤3)→∀(b:Nat) (L:VL),qd l wd most L→
 ∀(w:World) (Jm:Nat→Prop) (args:Array Value),(∀i,Jm i→i<w.heap.size∧i≠b)→cu (aam Jm) w [ahr l wd most b,aqQ ((a:Int)-1,mkA l a,lk)] args.toList→l5 Tryz.prog 96 w b L→qF w (fun i=>i=b)→
 Calls Tryz.prog 71 args w fun e w'=>∃p v L',e=.returned v∧(∀(g:Gh) (w:World),Rep g w p v)∧w.grownBy w' (some b)∧l5 Tryz.prog 96 w' b L'∧(p=chP l a (aJ l wd most a lk)∧qd l wd most L'):=by
 intro n
 induction n using Nat.strongRecOn with
 |_ n ih=>
 intro a lk hn ha hlk b L hL w Jm args hJ hargs hM hT;have hlen:=bG hl;refine HY.calls (N:=99) (rs:=[.cell 4 98]) (R:=fun p L'=>p=chP l a (aJ l wd most a lk)∧qd l wd most L') Tryz.func71 rfl rfl rfl (by simp) hJ hargs hM hT (HY.start ?_);refine HY.seq (HY.eng mixed bX (by kernel_rfl) ?_);(try dsimp only);(refine wlk ?_;intros);refine HY.seq (HY.eng mixed bX (by kernel_rfl) ?_);(try dsimp only);have hll:((l.map gB).length:Int)=(l.length:Int):=by simp
 have IH:=Lib.hid ih;have HL:=Lib.hid hL;clear ih hL hJ hargs hM hT;by_cases han:a=l.length
 ·have hch:chP l a (aJ l wd most a lk)=.agg [iv 0,iv 0,bv false,iv 0]:=if_pos han
  have hv:=qh l a (aJ l wd most a lk);generalize mkA l a=mk;subst han;(refine wlk ?_;intros);dsimp only
  refine⟨.inr rfl,_,_,L,?_,hv,rfl,rfl,HL.out⟩;rw[hch];clear hv hch;exact agr
 have hal:a<l.length:=by omega
 have hkn:okI ((a:Int)-1):=by omega
 have hkk:okI lk:=by omega
 obtain⟨c0,n0,m0,k0,hch⟩:∃c n m k,chP l a (aJ l wd most a lk)=.agg [iv c,iv n,bv m,iv k]:=by unfold chP;rw[if_neg han];cases aJ l wd most a lk<;>exact⟨_,_,_,_,rfl⟩
 have hv:=qh l a (aJ l wd most a lk);rw[hch]at hv;by_cases hit:∃v,(aeK ((a:Int)-1) (mkA l a) lk,v)∈L
 ·obtain⟨v,hin⟩:=hit
  obtain⟨a',lk',h1,h2,h3,h4⟩:=HL.out _ hin;obtain⟨rfl,rfl⟩:a'=a∧lk'=lk:=by simp only[aeK,Value.agg.injEq]at h3;have:=congrArg Array.toList h3;simp at this;omega
  have h4':v=chV l a' (aJ l wd most a' lk'):=h4;subst h4';clear h1 h2 h3 h4;have HIN:=Lib.hid hin;have HCH:=Lib.hid hch;have HV:=Lib.hid hv;clear hin hch hv;generalize mkA l a'=mk at*;(refine wlk ?_;intros);dsimp only
  have hlk:=alN (Γ:=auT) (t:=92) (b:=b) (c:=true) (k0:=aeK ((a':Int)-1) mk lk') (p:=.tup [.agg [iv c0,iv n0,bv m0,iv k0],bv true]);refine HY.seq (HY.see (M:=⟨92,b,uL true (aeK ((a':Int)-1) mk lk') (.tup [.agg [iv c0,iv n0,bv m0,iv k0],bv true])⟩) mixed bX rfl ?_ (by kernel_rfl) ?_)
  ·intro key c p hp w1 g1 hM1
   obtain⟨rfl,rfl,rfl⟩:=rY hp;obtain⟨kl,hkl⟩:=xL (mk:=mk) hkn hkk;refine⟨_,hM1.ab5 abF anr true hkl HIN.out,?_⟩;exact adb (sF HV.out) (by simp[Rep])
  (try dsimp only);(refine wlk ?_;intros);refine lQ 9 (by simp only[List.map_cons,List.map_nil]<;>exact rfl) (by simp only[List.take_succ_cons,List.take_zero]<;>exact rfl) (by simp only[List.drop_succ_cons,List.drop_zero]<;>exact rfl) afa (by kernel_rfl) (by kernel_rfl) ?_;(refine wlk ?_;intros);refine aqu (by(simp(disch:=(first|omega|(simp only[push_cast];first|done|omega))) only[push_cast,↓reduceIte,Nat.reduceEqDiff,Nat.reduceBEq,Nat.reduceAdd,Nat.reduceSub,Int.reduceToNat, *]<;>with_reducible exact rfl)) ?_;(refine wlk ?_;intros);dsimp only
  refine⟨.inr rfl,_,_,L,?_,HV.out,rfl,HCH.out.symm,HL.out⟩;exact agr
 ·have hmiss:∀p∈L,p.1≠aeK ((a:Int)-1) (mkA l a) lk:=fun p hp e=>hit ⟨p.2,by rw[←e];exact hp⟩
  have HMI:=Lib.hid hmiss;have HCH:=Lib.hid hch;have HV:=Lib.hid hv;clear hit hch hv hmiss;obtain⟨mk,hmk⟩:∃mk,mk=mkA l a:=⟨_,rfl⟩;rw[←hmk]at HMI⊢;have HMK:=Lib.hid hmk;clear hmk;(refine wlk ?_;intros);dsimp only
  have hlk:=alN (Γ:=auT) (t:=92) (b:=b) (c:=true) (k0:=aeK ((a:Int)-1) mk lk) (p:=.tup [.agg [iv 0,iv 0,bv false,iv 0],bv false]);refine HY.seq (HY.see (M:=⟨92,b,uL true (aeK ((a:Int)-1) mk lk) (.tup [.agg [iv 0,iv 0,bv false,iv 0],bv false])⟩) mixed bX rfl ?_ (by kernel_rfl) ?_)
  ·intro key c p hp w1 g1 hM1
   obtain⟨rfl,rfl,rfl⟩:=rY hp;obtain⟨kl,hkl⟩:=xL (mk:=mk) hkn hkk;refine⟨_,hM1.apP abF anr true hkl (lK afa w1) HMI.out,?_⟩;exact adb (sF rfl) (by simp[Rep])
  (try dsimp only);(refine wlk ?_;intros);refine lQ 9 (by simp only[List.map_cons,List.map_nil]<;>exact rfl) (by simp only[List.take_succ_cons,List.take_zero]<;>exact rfl) (by simp only[List.drop_succ_cons,List.drop_zero]<;>exact rfl) afa (by kernel_rfl) (by kernel_rfl) ?_;(refine wlk ?_;intros);refine aqu (by(simp(disch:=(first|omega|(simp only[push_cast];first|done|omega))) only[push_cast,↓reduceIte,Nat.reduceEqDiff,Nat.reduceBEq,Nat.reduceAdd,Nat.reduceSub,Int.reduceToNat, *]<;>with_reducible exact rfl)) ?_;(refine wlk ?_;intros);dsimp only
  clear hlk;refine HY.cut (Lf:=[(0,ahr l wd most b),(3,.own 0 3 0 0),(4,.own 1 4 0 0)]) (O:=[(0,96,3,[.agg [iv ((a:Int)-1),bv mk,iv lk]]),(1,98,4,[.agg [iv 0,iv 0,bv false,iv 0]])]) (x:=3) (by exact agr) (by exact agr) rfl ?_;refine HY.seq (HY.eng mixed bX (by kernel_rfl) ?_);dsimp only
  (refine wlk ?_;intros);dsimp only
  refine HY.seq (HY.seq (HY.eng mixed bX (by kernel_rfl) ?_));dsimp only
  (refine wlk ?_;intros);dsimp only
  refine HY.block (HY.aaB (α:=Nat×Nat) (fun i=>[(0,ahr l wd most b),(3,.own 0 3 0 0),(4,.own 1 4 0 0),(7,.own 3 4 0 0),(8,iv ((l.length:Int)-1-i.1))])
   (fun i=>[(0,96,3,[.agg [iv ((a:Int)-1),bv mk,iv lk]]),(1,98,4,[.agg [iv 0,iv 0,bv false,iv 0]]),(3,98,4,[.agg [iv (aC (bB l wd most a lk (aJ l wd most) i.1)),iv (aN (bB l wd most a lk (aJ l wd most) i.1)),bv (aM l (bB l wd most a lk (aJ l wd most) i.1)),iv (aK (bB l wd most a lk (aJ l wd most) i.1))]])])
   (fun i=>i.2) (fun i σ=>i.1≤l.length-a∧4≤i.2∧∃L',σ=some (b,L')∧qd l wd most L') (fun i=>l.length-a-i.1) (0,4) ⟨Nat.zero_le _,Nat.le_refl _,L,rfl,HL.out⟩ ?_ ?_ rfl ?_)
  ·exact agi
  ·simp only[bB,aC,aN,aM,aK]
   exact agr
  ·rintro⟨j,y⟩ σ ⟨hj,hy,L',rfl,hL'⟩
   dsimp only at hj hy;have HL2:=Lib.hid hL';clear hL';by_cases hja:j<l.length-a
   ·refine HY.seq (HY.eng mixed bX (by kernel_rfl) ?_)
    obtain⟨en,hen⟩:∃en:Nat,en+1+j=l.length:=⟨l.length-1-j,by omega⟩;have he8:(l.length:Int)-1-(j:Int)=(en:Int):=by omega
    dsimp only
    rw[he8];generalize hR:bB l wd most a lk (aJ l wd most) j=R at*;have HR:=Lib.hid hR;clear hR he8;have hap:avD l wd most ((a:Int)-1,mk,lk) en:=⟨⟨hl,by dsimp only;omega,by dsimp only;omega,by omega⟩,hw,hm,hlk,fun h0=>by have:=HMK.out;dsimp only at h0⊢;rw[this];unfold mkA;rw[if_neg (by omega),show((a:Int)-1).toNat=a-1 by omega]⟩
    have ap:=am0 hap;clear hap;generalize hE:lcR l wd most a en lk=E at*;obtain⟨c9,e9,m9,k9⟩:=E;have HE:=Lib.hid hE;clear hE;dsimp only at ap;have hy1:¬y=0:=by omega
    have hy2:¬y=1:=by omega
    have hy3:¬y=3:=by omega
    have gbst_c92:=am5;(refine wlk ?_;intros);dsimp only
    refine HY.seq (HY.block (HY.seq (HY.eng mixed bX (by kernel_rfl) ?_)));dsimp only
    (refine wlk ?_;intros);refine lQ 18 (by simp only[List.map_cons,List.map_nil]<;>exact rfl) (by simp only[List.take_succ_cons,List.take_zero]<;>exact rfl) (by simp only[List.drop_succ_cons,List.drop_zero]<;>exact rfl) aeg (by kernel_rfl) (by kernel_rfl) ?_;(refine wlk ?_;intros);refine aqu (by(simp(disch:=(first|omega|(simp only[push_cast];first|done|omega))) only[push_cast,↓reduceIte,Nat.reduceEqDiff,Nat.reduceBEq,Nat.reduceAdd,Nat.reduceSub,Int.reduceToNat, *]<;>with_reducible exact rfl)) ?_;(refine wlk ?_;intros);dsimp only
    refine HY.cut (Lf:=[(0,ahr l wd most b),(3,.own 0 3 0 0),(4,.own 1 4 0 0),(7,.own 3 4 0 0),(8,iv (en:Int)),(9,iv c9),(10,.own y 3 0 0)]) (O:=[(0,96,3,[.agg [iv ((a:Int)-1),bv mk,iv lk]]),(1,98,4,[.agg [iv 0,iv 0,bv false,iv 0]]),(3,98,4,[.agg [iv (aC R),iv (aN R),bv (aM l R),iv (aK R)]]),(y,96,3,[.agg [iv e9,bv m9,iv k9]])]) (x:=y+1) (by exact agr) (by exact agr) rfl ?_;have hbn:∀z,iD l wd most a lk (aJ l wd most) R en=z→bB l wd most a lk (aJ l wd most) (j+1)=z:=fun z hz=>by rw[bB,show l.length-(j+1)=en by omega,HR.out,hz]
    clear ap;cases hL:iP l wd most a en with
    |none=>
     have hE2:=HE.out;unfold lcR at hE2;rw[hL]at hE2;cases hE2;have hN:=Lib.hid (hbn _ (iN hL));clear hbn hL;refine HY.seq (HY.eng mixed bX (by kernel_rfl) ?_);(refine wlk ?_;intros);refine HY.eng mixed bX (by kernel_rfl) ?_;dsimp only
     (refine wlk ?_;intros);(try dsimp only);refine⟨(j+1,y+1),⟨by dsimp only;omega,by dsimp only;omega,L',rfl,HL2.out⟩,by dsimp only;omega,?_,?_,rfl⟩
     ·dsimp only
      exact agi
     ·dsimp only
      rw[hN.out];exact agr
    |some ck=>
     obtain⟨c,k⟩:=ck;have hE2:=HE.out;unfold lcR at hE2;rw[hL]at hE2;obtain⟨⟨-,-⟩,g2,g3⟩:=nu hl hm.2 hL;have g4:=lC l a en lk k;dsimp only at hE2 g2 g3;have hmn:mkA l (en+1)=(l[en]?.getD it0).2.2.2.2.2.2:=rfl;have IHn:=IH.out (l.length-(en+1)) (by omega) (en+1) k rfl (by omega) g3 b L' HL2.out;rw[show((en+1:Nat):Int)-1=(en:Int) by omega,hmn]at IHn;simp only[Prod.mk.injEq]at hE2;obtain⟨rfl,rfl,rfl,rfl⟩:=hE2;have hc9:0≤c+iT l a en lk k∧c+iT l a en lk k≤400000000:=by omega
     have hbs:=fun r (h2:aJ l wd most (en+1) k=some r)=>hbn _ (jV hL h2);have hbd:=fun(h2:aJ l wd most (en+1) k=none)=>hbn _ (kg hL h2);have hbr:=fun r (h2:aJ l wd most (en+1) k=some r)=>dJ hl hm.2 (show en+1≤l.length by omega) h2;have hRr:∀x,R=some x→0≤x.1∧x.1≤20000000000:=fun x hx=>(oZ (a:=a) hl hm.2 hal (HR.out.trans hx)).1;have hcp:=ajt l (en+1) k wd most;clear hbn g2 g4;generalize hc8:c+iT l a en lk k=c9 at*;generalize hme:(l[en]?.getD it0).2.2.2.2.2.2=m9 at*;generalize aJ l wd most (en+1) k=rr at*;have HME:=Lib.hid hme;have HB:=Lib.hid (And.intro hbs (And.intro hbd (And.intro hbr hRr)));have HIH:=Lib.hid IHn;clear hc8 hL HE hme hbs hbd hbr hRr IHn hmn;obtain⟨c2,n2,m2,k2,hp2,hc2⟩:=hcp;have HC2:=Lib.hid hc2;have HP2:=Lib.hid hp2;clear hc2 hp2;refine HY.seq (HY.eng mixed bX (by kernel_rfl) ?_);(refine wlk ?_;intros);refine HY.seq (HY.each (HO.pre (imm:=⟨[],[],[]⟩) 2 bX (by kernel_rfl) (by simp only[List.take_succ_cons,List.take_zero]<;>exact rfl) (by simp only[List.drop_succ_cons,List.drop_zero]<;>exact rfl) (by simp only[List.map_cons,List.map_nil]<;>exact rfl) ?_));(refine wlk ?_;intros);refine HO.call (ps:=[ahr l wd most b,.agg [iv (en:Int),bv m9,iv k]]) (R:=fun p L'=>p=chP l (en+1) rr∧qd l wd most L') rfl rfl ⟨_,Tryz.func71,rfl,rfl⟩ rfl ?_ ?_ HIH.out ?_
     ·intro x e
      cases e;decide
     ·dsimp only
      (simp(disch:=(first|omega|(simp only[push_cast];first|done|omega))) only[push_cast,↓reduceIte,Nat.reduceEqDiff,Nat.reduceBEq,Nat.reduceAdd,Nat.reduceSub,Int.reduceToNat, *]<;>with_reducible exact rfl)
     ·rintro p L3 ⟨rfl,hL3⟩
      rw[HP2.out];have HL3:=Lib.hid hL3;clear hL3;refine HO.pre (imm:=⟨[],[],[]⟩) 2 bX (by kernel_rfl) (by simp only[List.take_succ_cons,List.take_zero]<;>exact rfl) (by simp only[List.drop_succ_cons,List.drop_zero]<;>exact rfl) (by simp only[List.map_cons,List.map_nil]<;>exact rfl) ?_;dsimp only[AS.put];(refine wlk ?_;intros);refine HO.nil ?_;refine HY.cut (Lf:=[(0,ahr l wd most b),(3,.own 0 3 0 0),(4,.own 1 4 0 0),(7,.own 3 4 0 0),(8,iv (en:Int)),(9,iv c9),(10,.own y 3 0 0),(11,.own (y+1) 4 0 0)]) (O:=[(0,96,3,[.agg [iv ((a:Int)-1),bv mk,iv lk]]),(1,98,4,[.agg [iv 0,iv 0,bv false,iv 0]]),(3,98,4,[.agg [iv (aC R),iv (aN R),bv (aM l R),iv (aK R)]]),(y,96,3,[.agg [iv (en:Int),bv m9,iv k]]),(y+1,98,4,[.agg [iv c2,iv n2,bv m2,iv k2]])]) (x:=y+2) (by exact agr) (by exact agr) rfl ?_;rcases HC2.out with⟨hr,rfl⟩|⟨r,hr,rfl⟩
      ·have hN:=Lib.hid (HB.out.2.1 hr)
       clear hr;refine HY.eng mixed bX (by kernel_rfl) ?_;(refine wlk ?_;intros);refine HY.eng mixed bX (by kernel_rfl) ?_;dsimp only
       (refine wlk ?_;intros);(try dsimp only);refine⟨(j+1,y+2),⟨by dsimp only;omega,by dsimp only;omega,L3,rfl,HL3.out⟩,by dsimp only;omega,?_,?_,rfl⟩
       ·dsimp only
        exact agi
       ·dsimp only
        rw[hN.out];(try simp only[aC,aN,aM,aK,HME.out]);exact agr
      ·have hN1:=HB.out.1 r hr
       have hr1:=(HB.out.2.2.1 r hr).1;have hRR:=HB.out.2.2.2;clear hr;generalize r.1=r1 at*;cases R with
       |none=>
        have hN:=Lib.hid (hN1.trans (if_pos rfl));clear hN1 hRR;dsimp only[aC,aN,aM,aK];refine HY.eng mixed bX (by kernel_rfl) ?_;(refine wlk ?_;intros);refine HY.eng mixed bX (by kernel_rfl) ?_;dsimp only
        (refine wlk ?_;intros);(try dsimp only);refine⟨(j+1,y+2),⟨by dsimp only;omega,by dsimp only;omega,L3,rfl,HL3.out⟩,by dsimp only;omega,?_,?_,rfl⟩
        ·dsimp only
         exact agi
        ·dsimp only
         rw[hN.out];(try simp only[aC,aN,aM,aK,HME.out]);exact agr
       |some x=>
        have hx1:=hRR x rfl;clear hRR;obtain⟨x1,x2,x3⟩:=x;dsimp only at hx1;dsimp only[aC,aN,aM,aK];by_cases hlt:c9+r1<x1
        ·have hN:=Lib.hid (hN1.trans (if_pos (by simpa using hlt)))
         clear hN1;refine HY.eng mixed bX (by kernel_rfl) ?_;(refine wlk ?_;intros);refine HY.eng mixed bX (by kernel_rfl) ?_;dsimp only
         (refine wlk ?_;intros);(try dsimp only);refine⟨(j+1,y+2),⟨by dsimp only;omega,by dsimp only;omega,L3,rfl,HL3.out⟩,by dsimp only;omega,?_,?_,rfl⟩
         ·dsimp only
          exact agi
         ·dsimp only
          rw[hN.out];(try simp only[aC,aN,aM,aK,HME.out]);exact agr
        ·have hN:=Lib.hid (hN1.trans (if_neg (by simpa using hlt)))
         clear hN1;refine HY.eng mixed bX (by kernel_rfl) ?_;(refine wlk ?_;intros);refine HY.eng mixed bX (by kernel_rfl) ?_;dsimp only
         (refine wlk ?_;intros);(try dsimp only);refine⟨(j+1,y+2),⟨by dsimp only;omega,by dsimp only;omega,L3,rfl,HL3.out⟩,by dsimp only;omega,?_,?_,rfl⟩
         ·dsimp only
          exact agi
         ·dsimp only
          rw[hN.out];(try simp only[aC,aN,aM,aK,HME.out]);exact agr
   ·refine HY.seq (HY.eng mixed bX (by kernel_rfl) ?_)
    obtain rfl:j=l.length-a:=by omega
    have hR:=(lH (wd:=wd) (most:=most) (lk:=lk) hal).symm;dsimp only
    rw[hR,show(l.length:Int)-1-((l.length-a:Nat):Int)=(a:Int)-1 by omega];generalize hrr:aJ l wd most a lk=R at*;have HRR:=Lib.hid hrr;clear hR hrr;obtain⟨kl,hkl⟩:=xL (mk:=mk) hkn hkk;have HKL:=Lib.hid hkl;clear hkl;(refine wlk ?_;intros);refine HY.seq (HY.awF 6 mixed bX abF anr (by simp only[List.take_succ_cons,List.take_zero]<;>exact rfl) (by simp only[List.drop_succ_cons,List.drop_zero]<;>exact rfl) (by simp only[List.map_cons,List.map_nil]<;>exact rfl) (by kernel_rfl) (by kernel_rfl) (by kernel_rfl) rfl ?_);(try dsimp only);(refine wlk ?_;intros);refine⟨aeK ((a:Int)-1) mk lk,chV l a R,kl,by(simp(disch:=(first|omega|(simp only[push_cast];first|done|omega))) only[push_cast,↓reduceIte,Nat.reduceEqDiff,Nat.reduceBEq,Nat.reduceAdd,Nat.reduceSub,Int.reduceToNat, *]<;>with_reducible exact rfl),?_,?_,HKL.out,fun L9 hu=>?_⟩
    ·refine Eq.trans (congrArg toVal (show _=PV.agg [iv ((a:Int)-1),bv mk,iv lk] by(simp(disch:=(first|omega|(simp only[push_cast];first|done|omega))) only[push_cast,↓reduceIte,Nat.reduceEqDiff,Nat.reduceBEq,Nat.reduceAdd,Nat.reduceSub,Int.reduceToNat, *]<;>with_reducible exact rfl))) rfl
    ·refine Eq.trans (congrArg toVal (show _=chP l a R by rw[zM han];(simp(disch:=(first|omega|(simp only[push_cast];first|done|omega))) only[push_cast,↓reduceIte,Nat.reduceEqDiff,Nat.reduceBEq,Nat.reduceAdd,Nat.reduceSub,Int.reduceToNat, *]<;>with_reducible exact rfl))) (qh l a R)
    have hG:qd l wd most L9:=HL2.out.upd hal hlk (by rw[←HMK.out,HRR.out];exact hu);replace hG:=Lib.hid hG;clear hu;(try dsimp only);refine HY.seq (HY.eng mixed bX (by kernel_rfl) ?_);(try dsimp only);(refine wlk ?_;intros);refine HY.eng mixed bX (by kernel_rfl) ?_;(refine wlk ?_;intros);(try dsimp only);refine⟨.inr rfl,_,_,L9,?_,qh l a R,rfl,rfl,hG.out⟩;rw[zM han];exact agr
def φBb:Fun:=F3 mg dI dI fun l wd most=>if aey l then some (.tup [.lst true 1 ((am9 l wd most).map fun n=> .val (.int .i64 n)),bv (jH l wd most)])else none
theorem ag8 {l:List It} {wd most:Int} (h:aey l):φBb [fT l,.val (.int .i64 wd),.val (.int .i64 most)]=some (.tup [.lst true 1 ((am9 l wd most).map fun n=> .val (.int .i64 n)),.val (.bool (jH l wd most))]):=(zm (A:=mg) (B:=dI) (C:=dI) l wd most).trans (if_pos h)
theorem ko {l:List It} {wd most:Int} {a j en:Nat} (he:l.length-(j+1)=en) (h:iP l wd most a en=none) (k:Int):bB l wd most a k (aJ l wd most) (j+1)=bB l wd most a k (aJ l wd most) j:=by rw[bB,he,iN h]
theorem rT {l:List It} {wd most:Int} {a j en:Nat} {x:Int×Int} (he:l.length-(j+1)=en) (h:iP l wd most a en=some x) (h2:aJ l wd most (en+1) x.2=none) (k:Int):bB l wd most a k (aJ l wd most) (j+1)=bB l wd most a k (aJ l wd most) j:=by rw[bB,he,kg h h2]
theorem tK {l:List It} {wd most:Int} {a j en:Nat} {x:Int×Int} {r:Ch} (he:l.length-(j+1)=en) (h:iP l wd most a en=some x) (h2:aJ l wd most (en+1) x.2=some r) (k:Int):
 bB l wd most a k (aJ l wd most) (j+1)=if(bB l wd most a k (aJ l wd most) j).all (fun y=>decide (x.1+iT l a en k x.2+r.1<y.1))=true then some (x.1+iT l a en k x.2+r.1,en,x.2)else bB l wd most a k (aJ l wd most) j:=by
 rw[bB,he,jV h h2]
theorem zf {l:List It} {wd most:Int} {a en:Nat} (h:eu l a en=true) (h2:0≤(iK l wd a en).1∧(iK l wd a en).1≤most):iP l wd most a en=some (kR (iK l wd a en).1 (gI l en).cost,gF (iK l wd a en).2 (iK l wd a en).1):=if_pos ⟨h,h2⟩
def g0 (n k:Nat):Nat→Nat→Bool:=fun i j=>decide (i=n∧j<k)
theorem an1 (n:Nat):tab n (g0 n 0)=tab n (fun _ _=>false):=iH fun i j _ _=>by simp[g0]
theorem apy (n k:Nat):tab n (uF (g0 n k) n k true)=tab n (g0 n (k+1)):=iH fun i j _ _=>by
 unfold uF g0;by_cases h:i=n∧j=k
 ·rw[if_pos h,decide_eq_true (by omega)]
 ·rw[if_neg h]
  congr 1;apply propext;omega
theorem axQ (l:List It) (wd most:Int):tab l.length (tB (tbA l wd most l.length))=tab l.length (fun _ _=>0)∧tab l.length (tG (tbA l wd most l.length))=tab l.length (g0 l.length 4)∧tab l.length (tN (tbA l wd most l.length))=tab l.length (fun _ _=>0):=
 ⟨iH fun i k h1 h2=>by
   unfold tB;rw[aaK i k h1 h2];split<;>rfl,
   iH fun i k h1 h2=>by
    unfold tG;rw[aaK i k h1 h2];unfold g0;split
    ·rw[decide_eq_true (by omega)];rfl
    ·rw[decide_eq_false (by omega)];rfl,
   iH fun i k h1 h2=>by unfold tN;rw[aaK i k h1 h2];split<;>rfl⟩
theorem yI {l:List It} {wd most:Int} {a en:Nat} (h:eu l a en=false):iP l wd most a en=none:=if_neg fun q=>by rw[h]at q;cases q.1
theorem aac {l:List It} {wd most:Int} {a en:Nat} (h:¬(0≤(iK l wd a en).1∧(iK l wd a en).1≤most)):iP l wd most a en=none:=if_neg fun q=>h q.2
def GBb:Ctx:={fn:=aY [(77,vI),(48,φIn),(78,φBq),(79,φLq),(80,φBd),(81,φLk),(82,φCo),(83,φBw)],io:=aY []}
theorem arM:ak Tryz.prog GBb:=okΓ (fC Tryz.func77 aeV (fC Tryz.func48 iq (fC Tryz.func78 yg (fC Tryz.func79 agW (fC Tryz.func80 ahN (fC Tryz.func81 ahu (fC Tryz.func82 afZ (fC Tryz.func83 ah2 aj)))))))) aj
def yV:=ah (Γ:=GBb) (f:=77) (φ:=vI) rfl
def yN:=ah (Γ:=GBb) (f:=48) (φ:=φIn) rfl
def yP:=ah (Γ:=GBb) (f:=78) (φ:=φBq) rfl
def ze:=ah (Γ:=GBb) (f:=79) (φ:=φLq) rfl
def aag:=ah (Γ:=GBb) (f:=80) (φ:=φBd) rfl
def zA:=ah (Γ:=GBb) (f:=81) (φ:=φLk) rfl
def yu:=ah (Γ:=GBb) (f:=82) (φ:=φCo) rfl
def zu:=ah (Γ:=GBb) (f:=83) (φ:=φBw) rfl
theorem agc:Sound Tryz.prog 63 φBb:=by
 refine au mixed arM Tryz.func63 rfl 218 rfl [.tmp 6,.tmp 7] rfl (by kernel_rfl) fun ps r hr=>?_;obtain⟨l,wd,most,rfl,hpre,rfl⟩:=vZ hr;refine⟨by simp,?_⟩;simp only[dIs,dUs,dSs,dx,dA,dz,dF,aS,dD,aT,aU,aR,aV];have apv:=xG hpre;have api:=bL;have hl0:l.length≤1000:=hpre;show pq _ _ _ _ _ (bZ [fT l,.val (.int .i64 wd),.val (.int .i64 most)]).tm _ _;unfold am9;by_cases hg:aX l=true∧0<l.length∧(0≤wd∧wd≤1000)∧(0≤most∧most≤10000)
 ·obtain⟨hB,hn,hw,hm⟩:=hg
  have hl:=bG hB;have hok:jH l wd most=(aJ l wd most 0 1).isSome:=by unfold jH;rw[hB,decide_eq_true hn,av.2 hw,av.2 hm];rfl
  rw[hok];clear hok hpre;rw[hB]at apv;have api1:inB wd 0 1000=true:=av.2 hw;have api2:inB most 0 10000=true:=av.2 hm;have gbb_c77:=yV;have gbb_c48:=yN;have gbb_c78:=yP;have gbb_c79:=ze;have gbb_c80:=aag;have gbb_c81:=zA;have gbb_c82:=yu;have gbb_c83:=zu;(refine wlk ?_;intros);obtain⟨t1,t2,t3⟩:=axQ l wd most;refine aG (α:=Nat) mixed (fun k=>[(0,fT l),(1,iv wd),(2,iv most),(8,.row 0 1 0 0),(9,iv l.length),(10,.row 1 4 0 (l.length+1)),(11,.row 2 4 0 (l.length+1)),(12,.row 3 4 0 (l.length+1)),(13,iv k)])
   (fun k=>[(0,3,1,[]),(1,110,4,(tab l.length fun _ _=>0).map aaj),(2,104,4,(tab l.length (g0 l.length k)).map ajN),(3,110,4,(tab l.length fun _ _=>0).map aaj)]) (fun _=>4)
   (fun k=>k≤4) (fun k=>4-k) (by kernel_rfl) 0 (Nat.zero_le _) ?_ ?_ rfl ?_
  ·exact agr
  ·simp(disch:=(first|omega|(simp only[push_cast];first|done|omega))) only[push_cast,↓reduceIte,Nat.reduceEqDiff,Nat.reduceBEq,Nat.reduceAdd,Nat.reduceSub,Int.reduceToNat,an1, *]
  intro k hk;by_cases hk4:k<4
  ·have hs:=apy l.length k
   clear t1 t2 t3;(refine wlk ?_;intros);refine⟨k+1,by omega,by dsimp only;omega,?_,?_,rfl⟩
   ·exact agr
   ·exact agr
  obtain rfl:k=4:=by omega
  (refine wlk ?_;intros);refine aG (α:=Nat×Int) mixed (fun z=>[(0,fT l),(1,iv wd),(2,iv most),(8,.row 0 1 0 0),(9,iv l.length),(10,.row 1 4 0 (l.length+1)),(11,.row 2 4 0 (l.length+1)),(12,.row 3 4 0 (l.length+1)),(14,iv z.2)])
   (fun z=>[(0,3,1,[]),(1,110,4,(tab l.length (tB (tbA l wd most z.1))).map aaj),(2,104,4,(tab l.length (tG (tbA l wd most z.1))).map ajN),(3,110,4,(tab l.length (tN (tbA l wd most z.1))).map aaj)]) (fun _=>4)
   (fun z=>z.1≤l.length∧z.2=(z.1:Int)-2) (fun z=>z.1) (by kernel_rfl) (l.length,(l.length:Int)-2) ⟨Nat.le_refl _,rfl⟩ ?_ ?_ rfl ?_
  ·exact agr
  ·exact agr
  clear t1 t2 t3 hk hk4;rintro⟨m,v⟩ ⟨hml,hv⟩;dsimp only at hml hv;by_cases h1:1≤m
  ·obtain⟨a,rfl⟩:∃a,m=a+1:=⟨m-1,by omega⟩
   obtain rfl:v=(a:Int)-1:=by omega
   clear hv h1;have hal:a<l.length:=by omega
   have hcan:(a:Int)-1+1=a:=by omega
   by_cases hskip:0<a∧mH l (a-1)=false
   ·obtain⟨ha0,hbq⟩:=hskip
    have apq:=vD (n:=a-1) hB (by omega);rw[hbq,show((a-1:Nat):Int)=(a:Int)-1 by omega]at apq;have hE:=Lib.hid (bI (ajC (wd:=wd) (most:=most) hal ha0 hbq));clear hbq;(refine wlk ?_;intros);refine⟨(a,(a:Int)-1-1),⟨by dsimp only;omega,by dsimp only;omega⟩,by dsimp only;omega,?_,?_,rfl⟩
    ·exact agr
    ·obtain⟨e1,e2,e3⟩:=hE.out
     exact agr
   ·have hgo:0<a→φBq [fT l,.val (.int .i64 ((a:Int)-1))]=some (.val (.bool true)):=fun ha0=>by
     have apq:=vD (n:=a-1) hB (by omega);rw[show((a-1:Nat):Int)=(a:Int)-1 by omega]at apq;rw[apq];cases hb:mH l (a-1)with
     |true=>rfl
     |false=>exact absurd ⟨ha0,hb⟩ hskip
    clear hskip;by_cases ha0:0<a
    ·have apq:=hgo ha0
     clear hgo;(refine wlk ?_;intros);refine aG (α:=Nat×Int) mixed (fun z=>[(0,fT l),(1,iv wd),(2,iv most),(8,.row 0 1 0 0),(9,iv l.length),(10,.row 1 4 0 (l.length+1)),(11,.row 2 4 0 (l.length+1)),(12,.row 3 4 0 (l.length+1)),(14,iv ((a:Int)-1)),(15,iv z.2)])
      (fun z=>[(0,3,1,[]),(1,110,4,(tab l.length (tB (tbJ l wd most a z.1))).map aaj),(2,104,4,(tab l.length (tG (tbJ l wd most a z.1))).map ajN),(3,110,4,(tab l.length (tN (tbJ l wd most a z.1))).map aaj)]) (fun _=>4)
      (fun z=>z.1+a≤l.length∧z.2=(l.length:Int)-1-z.1) (fun z=>l.length-z.1) (by kernel_rfl) (0,(l.length:Int)-1) ⟨by dsimp only;omega,by simp⟩ ?_ ?_ rfl ?_
     ·exact agr
     ·obtain⟨e1,e2,e3⟩:=bI (acu (l:=l) (wd:=wd) (most:=most) (a:=a))
      exact agr
     rintro⟨j,u⟩ ⟨hj,hu⟩;dsimp only at hj hu;by_cases h2:j+a<l.length
     ·obtain⟨en,rfl⟩:∃en:Nat,u=en:=⟨u.toNat,by omega⟩
      have he:l.length-(j+1)=en:=by omega
      have hu1:(en:Int)≤l.length-1-j:=by omega
      have hu2:(l.length:Int)-1-j≤en:=by omega
      replace he:=Lib.hid he;clear hu;have hae:a≤en:=by omega
      have hel:en<l.length:=by omega
      have apl:=ahC hB hae hel;have hskip:(∀k:Int,bB l wd most a k (aJ l wd most) (j+1)=bB l wd most a k (aJ l wd most) j)→tab l.length (tB (tbJ l wd most a j))=tab l.length (tB (tbJ l wd most a (j+1)))∧tab l.length (tG (tbJ l wd most a j))=tab l.length (tG (tbJ l wd most a (j+1)))∧tab l.length (tN (tbJ l wd most a j))=tab l.length (tN (tbJ l wd most a (j+1))):=fun h=>bI (acA h);cases hq:eu l a en with
      |false=>
       rw[hq]at apl;have hE:=Lib.hid (hskip (ko he.out (yI hq)));clear hskip hq;(refine wlk ?_;intros);refine⟨(j+1,(en:Int)-1),⟨by dsimp only;omega,by dsimp only;omega⟩,by dsimp only;omega,?_,?_,rfl⟩
       ·exact agr
       ·obtain⟨e1,e2,e3⟩:=hE.out
        exact agr
      |true=>
      rw[hq]at apl;have hst:=(fP.1 hq).2.2.2.1;have apb:=aaR hB hae hel hw hst;by_cases hb:0≤(iK l wd a en).1∧(iK l wd a en).1≤most
      ·have hcst:ahA (l[en]?.getD it0).2.2.2.2.2.1:=(gM hB hel).cost
       have hL:iP l wd most a en=some (kR (iK l wd a en).1 (l[en]?.getD it0).2.2.2.2.2.1,gF (iK l wd a en).2 (iK l wd a en).1):=zf hq hb;clear hq hst;generalize iK l wd a en=bd at*;obtain⟨bad,st⟩:=bd;dsimp only at hb hL apb;have apk:=xA (s:=st) (bad:=bad) ⟨hb.1,by omega⟩;have apc:=aaP (bad:=bad) ⟨hb.1,by omega⟩ hcst;have hcr:=oo (bad:=bad) ⟨hb.1,by omega⟩ hcst;have hkr:=lT st bad;obtain⟨kk,hkk⟩:∃kk:Nat,gF st bad=kk:=⟨(gF st bad).toNat,by omega⟩;rw[hkk]at hL apk hkr;clear hkk hcst;cases hr:aJ l wd most (en+1) kk with
       |none=>
        have hG:tG (tbJ l wd most a j) (en+1) kk=false:=by unfold tG;rw[jD (by omega),hr];rfl
        have hE:=Lib.hid (hskip (rT he.out hL hr));clear hskip hL hr;(refine wlk ?_;intros);refine⟨(j+1,(en:Int)-1),⟨by dsimp only;omega,by dsimp only;omega⟩,by dsimp only;omega,?_,?_,rfl⟩
        ·exact agr
        ·obtain⟨e1,e2,e3⟩:=hE.out
         exact agr
       |some r=>
        have hG:tG (tbJ l wd most a j) (en+1) kk=true:=by unfold tG;rw[jD (by omega),hr];rfl
        have hBv:tB (tbJ l wd most a j) (en+1) kk=r.1:=by unfold tB;rw[jD (by omega),hr];rfl
        have hrr:=(dJ hB hm.2 (by omega) hr).1;have hlive:=fun k=>tK he.out hL hr k;clear hskip hL hr;generalize hyy:l[en]?.getD it0=yy at*;obtain⟨y1,y2,y3,y4,y5,y6,y7⟩:=yy;dsimp only at apc hcr hlive;generalize kR bad y6=co at*;obtain⟨rc,rn,rk⟩:=r;dsimp only at hBv hrr hlive;replace hlive:=Lib.hid hlive;(refine wlk ?_;intros);refine aG (α:=Nat) mixed (fun b=>[(0,fT l),(1,iv wd),(2,iv most),(8,.row 0 1 0 0),(9,iv l.length),(10,.row 1 4 0 (l.length+1)),(11,.row 2 4 0 (l.length+1)),(12,.row 3 4 0 (l.length+1)),(14,iv ((a:Int)-1)),(15,iv en),(18,iv kk),(19,iv (co+rc)),(20,iv b)])
         (fun b=>[(0,3,1,[]),(1,110,4,(tab l.length (tB (tbK l wd most a j b))).map aaj),(2,104,4,(tab l.length (tG (tbK l wd most a j b))).map ajN),(3,110,4,(tab l.length (tN (tbK l wd most a j b))).map aaj)]) (fun _=>4)
         (fun b=>b≤4) (fun b=>4-b) (by kernel_rfl) 0 (Nat.zero_le _) ?_ ?_ rfl ?_
        ·exact agr
        ·obtain⟨e1,e2,e3⟩:=bI (ady (l:=l) (wd:=wd) (most:=most) (a:=a) (j:=j))
         exact agr
        clear hG hBv apc apk apb apl;intro b hb4;by_cases hb3:b<4
        ·have apw:=aiu (be:=(b:Int)) (lk:=(kk:Int)) hB hae hel ⟨by omega,by omega⟩ ⟨by omega,by omega⟩
         have hbw:=lC l a en b kk;have hx:=hlive.out (b:Int);generalize iT l a en b kk=bw at*;cases hacc:bB l wd most a b (aJ l wd most) j with
         |none=>
          rw[hacc]at hx;replace hx:_=some _:=hx;have hG:tG (tbK l wd most a j b) a b=false:=by unfold tG;rw[lM,hacc];rfl
          have hE:=Lib.hid (bI (qo hx));clear hx hacc;(refine wlk ?_;intros);refine⟨b+1,by omega,by dsimp only;omega,?_,?_,rfl⟩
          ·exact agr
          ·have hE2:=hE.out
           rw[←ado,←adt,←acZ]at hE2;obtain⟨e1,e2,e3⟩:=hE2;dsimp only at e1 e2 e3;rw[show co+bw+rc=co+rc+bw by omega]at e1;exact agr
         |some y=>
          rw[hacc]at hx;have hG:tG (tbK l wd most a j b) a b=true:=by unfold tG;rw[lM,hacc];rfl
          have hB2:tB (tbK l wd most a j b) a b=y.1:=by unfold tB;rw[lM,hacc];rfl
          have hyr:=(oZ hB hm.2 hal hacc).1;by_cases hlt:co+rc+bw<y.1
          ·rw[if_pos (show(some y).all (fun y=>decide (co+bw+rc<y.1))=true from decide_eq_true (show co+bw+rc<y.1 by omega))]at hx
           have hE:=Lib.hid (bI (qo hx));clear hx hacc;generalize y.1=yc at*;(refine wlk ?_;intros);refine⟨b+1,by omega,by dsimp only;omega,?_,?_,rfl⟩
           ·exact agr
           ·have hE2:=hE.out
            rw[←ado,←adt,←acZ]at hE2;obtain⟨e1,e2,e3⟩:=hE2;dsimp only at e1 e2 e3;rw[show co+bw+rc=co+rc+bw by omega]at e1;exact agr
          ·rw[if_neg (show¬(some y).all (fun y=>decide (co+bw+rc<y.1))=true from fun q=>hlt (by have:=of_decide_eq_true (show decide (co+bw+rc<y.1)=true from q);omega))]at hx
           have hE:=Lib.hid (bI (ac9 (hx.trans hacc.symm)));clear hx hacc;generalize y.1=yc at*;(refine wlk ?_;intros);refine⟨b+1,by omega,by dsimp only;omega,?_,?_,rfl⟩
           ·exact agr
           ·obtain⟨e1,e2,e3⟩:=hE.out
            exact agr
        ·obtain rfl:b=4:=by omega
         have hE:=Lib.hid (bI (afU (l:=l) (wd:=wd) (most:=most) (a:=a) (j:=j)));clear hlive;(refine wlk ?_;intros);refine⟨(j+1,(en:Int)-1),⟨by dsimp only;omega,by dsimp only;omega⟩,by dsimp only;omega,?_,?_,rfl⟩
         ·exact agr
         ·obtain⟨e1,e2,e3⟩:=hE.out
          exact agr
      ·have hE:=Lib.hid (hskip (ko he.out (aac hb)))
       clear hskip hq;generalize iK l wd a en=bd at*;obtain⟨bad,st⟩:=bd;dsimp only at hb apb;by_cases hb0:bad<0
       ·clear hb
        (refine wlk ?_;intros);refine⟨(j+1,(en:Int)-1),⟨by dsimp only;omega,by dsimp only;omega⟩,by dsimp only;omega,?_,?_,rfl⟩
        ·exact agr
        ·obtain⟨e1,e2,e3⟩:=hE.out
         exact agr
       ·have hb1:most<bad:=by omega
        clear hb;(refine wlk ?_;intros);refine⟨(j+1,(en:Int)-1),⟨by dsimp only;omega,by dsimp only;omega⟩,by dsimp only;omega,?_,?_,rfl⟩
        ·exact agr
        ·obtain⟨e1,e2,e3⟩:=hE.out
         exact agr
     ·obtain rfl:j=l.length-a:=by omega
      have hE:=Lib.hid (bI (aiv (wd:=wd) (most:=most) hal));(refine wlk ?_;intros);refine⟨(a,(a:Int)-1-1),⟨by dsimp only;omega,by dsimp only;omega⟩,by dsimp only;omega,?_,?_,rfl⟩
      ·exact agr
      ·obtain⟨e1,e2,e3⟩:=hE.out
       exact agr
    ·clear hgo
     (refine wlk ?_;intros);refine aG (α:=Nat×Int) mixed (fun z=>[(0,fT l),(1,iv wd),(2,iv most),(8,.row 0 1 0 0),(9,iv l.length),(10,.row 1 4 0 (l.length+1)),(11,.row 2 4 0 (l.length+1)),(12,.row 3 4 0 (l.length+1)),(14,iv ((a:Int)-1)),(15,iv z.2)])
      (fun z=>[(0,3,1,[]),(1,110,4,(tab l.length (tB (tbJ l wd most a z.1))).map aaj),(2,104,4,(tab l.length (tG (tbJ l wd most a z.1))).map ajN),(3,110,4,(tab l.length (tN (tbJ l wd most a z.1))).map aaj)]) (fun _=>4)
      (fun z=>z.1+a≤l.length∧z.2=(l.length:Int)-1-z.1) (fun z=>l.length-z.1) (by kernel_rfl) (0,(l.length:Int)-1) ⟨by dsimp only;omega,by simp⟩ ?_ ?_ rfl ?_
     ·exact agr
     ·obtain⟨e1,e2,e3⟩:=bI (acu (l:=l) (wd:=wd) (most:=most) (a:=a))
      exact agr
     rintro⟨j,u⟩ ⟨hj,hu⟩;dsimp only at hj hu;by_cases h2:j+a<l.length
     ·obtain⟨en,rfl⟩:∃en:Nat,u=en:=⟨u.toNat,by omega⟩
      have he:l.length-(j+1)=en:=by omega
      have hu1:(en:Int)≤l.length-1-j:=by omega
      have hu2:(l.length:Int)-1-j≤en:=by omega
      replace he:=Lib.hid he;clear hu;have hae:a≤en:=by omega
      have hel:en<l.length:=by omega
      have apl:=ahC hB hae hel;have hskip:(∀k:Int,bB l wd most a k (aJ l wd most) (j+1)=bB l wd most a k (aJ l wd most) j)→tab l.length (tB (tbJ l wd most a j))=tab l.length (tB (tbJ l wd most a (j+1)))∧tab l.length (tG (tbJ l wd most a j))=tab l.length (tG (tbJ l wd most a (j+1)))∧tab l.length (tN (tbJ l wd most a j))=tab l.length (tN (tbJ l wd most a (j+1))):=fun h=>bI (acA h);cases hq:eu l a en with
      |false=>
       rw[hq]at apl;have hE:=Lib.hid (hskip (ko he.out (yI hq)));clear hskip hq;(refine wlk ?_;intros);refine⟨(j+1,(en:Int)-1),⟨by dsimp only;omega,by dsimp only;omega⟩,by dsimp only;omega,?_,?_,rfl⟩
       ·exact agr
       ·obtain⟨e1,e2,e3⟩:=hE.out
        exact agr
      |true=>
      rw[hq]at apl;have hst:=(fP.1 hq).2.2.2.1;have apb:=aaR hB hae hel hw hst;by_cases hb:0≤(iK l wd a en).1∧(iK l wd a en).1≤most
      ·have hcst:ahA (l[en]?.getD it0).2.2.2.2.2.1:=(gM hB hel).cost
       have hL:iP l wd most a en=some (kR (iK l wd a en).1 (l[en]?.getD it0).2.2.2.2.2.1,gF (iK l wd a en).2 (iK l wd a en).1):=zf hq hb;clear hq hst;generalize iK l wd a en=bd at*;obtain⟨bad,st⟩:=bd;dsimp only at hb hL apb;have apk:=xA (s:=st) (bad:=bad) ⟨hb.1,by omega⟩;have apc:=aaP (bad:=bad) ⟨hb.1,by omega⟩ hcst;have hcr:=oo (bad:=bad) ⟨hb.1,by omega⟩ hcst;have hkr:=lT st bad;obtain⟨kk,hkk⟩:∃kk:Nat,gF st bad=kk:=⟨(gF st bad).toNat,by omega⟩;rw[hkk]at hL apk hkr;clear hkk hcst;cases hr:aJ l wd most (en+1) kk with
       |none=>
        have hG:tG (tbJ l wd most a j) (en+1) kk=false:=by unfold tG;rw[jD (by omega),hr];rfl
        have hE:=Lib.hid (hskip (rT he.out hL hr));clear hskip hL hr;(refine wlk ?_;intros);refine⟨(j+1,(en:Int)-1),⟨by dsimp only;omega,by dsimp only;omega⟩,by dsimp only;omega,?_,?_,rfl⟩
        ·exact agr
        ·obtain⟨e1,e2,e3⟩:=hE.out
         exact agr
       |some r=>
        have hG:tG (tbJ l wd most a j) (en+1) kk=true:=by unfold tG;rw[jD (by omega),hr];rfl
        have hBv:tB (tbJ l wd most a j) (en+1) kk=r.1:=by unfold tB;rw[jD (by omega),hr];rfl
        have hrr:=(dJ hB hm.2 (by omega) hr).1;have hlive:=fun k=>tK he.out hL hr k;clear hskip hL hr;generalize hyy:l[en]?.getD it0=yy at*;obtain⟨y1,y2,y3,y4,y5,y6,y7⟩:=yy;dsimp only at apc hcr hlive;generalize kR bad y6=co at*;obtain⟨rc,rn,rk⟩:=r;dsimp only at hBv hrr hlive;replace hlive:=Lib.hid hlive;(refine wlk ?_;intros);refine aG (α:=Nat) mixed (fun b=>[(0,fT l),(1,iv wd),(2,iv most),(8,.row 0 1 0 0),(9,iv l.length),(10,.row 1 4 0 (l.length+1)),(11,.row 2 4 0 (l.length+1)),(12,.row 3 4 0 (l.length+1)),(14,iv ((a:Int)-1)),(15,iv en),(18,iv kk),(19,iv (co+rc)),(20,iv b)])
         (fun b=>[(0,3,1,[]),(1,110,4,(tab l.length (tB (tbK l wd most a j b))).map aaj),(2,104,4,(tab l.length (tG (tbK l wd most a j b))).map ajN),(3,110,4,(tab l.length (tN (tbK l wd most a j b))).map aaj)]) (fun _=>4)
         (fun b=>b≤4) (fun b=>4-b) (by kernel_rfl) 0 (Nat.zero_le _) ?_ ?_ rfl ?_
        ·exact agr
        ·obtain⟨e1,e2,e3⟩:=bI (ady (l:=l) (wd:=wd) (most:=most) (a:=a) (j:=j))
         exact agr
        clear hG hBv apc apk apb apl;intro b hb4;by_cases hb3:b<4
        ·have apw:=aiu (be:=(b:Int)) (lk:=(kk:Int)) hB hae hel ⟨by omega,by omega⟩ ⟨by omega,by omega⟩
         have hbw:=lC l a en b kk;have hx:=hlive.out (b:Int);generalize iT l a en b kk=bw at*;cases hacc:bB l wd most a b (aJ l wd most) j with
         |none=>
          rw[hacc]at hx;replace hx:_=some _:=hx;have hG:tG (tbK l wd most a j b) a b=false:=by unfold tG;rw[lM,hacc];rfl
          have hE:=Lib.hid (bI (qo hx));clear hx hacc;(refine wlk ?_;intros);refine⟨b+1,by omega,by dsimp only;omega,?_,?_,rfl⟩
          ·exact agr
          ·have hE2:=hE.out
           rw[←ado,←adt,←acZ]at hE2;obtain⟨e1,e2,e3⟩:=hE2;dsimp only at e1 e2 e3;rw[show co+bw+rc=co+rc+bw by omega]at e1;exact agr
         |some y=>
          rw[hacc]at hx;have hG:tG (tbK l wd most a j b) a b=true:=by unfold tG;rw[lM,hacc];rfl
          have hB2:tB (tbK l wd most a j b) a b=y.1:=by unfold tB;rw[lM,hacc];rfl
          have hyr:=(oZ hB hm.2 hal hacc).1;by_cases hlt:co+rc+bw<y.1
          ·rw[if_pos (show(some y).all (fun y=>decide (co+bw+rc<y.1))=true from decide_eq_true (show co+bw+rc<y.1 by omega))]at hx
           have hE:=Lib.hid (bI (qo hx));clear hx hacc;generalize y.1=yc at*;(refine wlk ?_;intros);refine⟨b+1,by omega,by dsimp only;omega,?_,?_,rfl⟩
           ·exact agr
           ·have hE2:=hE.out
            rw[←ado,←adt,←acZ]at hE2;obtain⟨e1,e2,e3⟩:=hE2;dsimp only at e1 e2 e3;rw[show co+bw+rc=co+rc+bw by omega]at e1;exact agr
          ·rw[if_neg (show¬(some y).all (fun y=>decide (co+bw+rc<y.1))=true from fun q=>hlt (by have:=of_decide_eq_true (show decide (co+bw+rc<y.1)=true from q);omega))]at hx
           have hE:=Lib.hid (bI (ac9 (hx.trans hacc.symm)));clear hx hacc;generalize y.1=yc at*;(refine wlk ?_;intros);refine⟨b+1,by omega,by dsimp only;omega,?_,?_,rfl⟩
           ·exact agr
           ·obtain⟨e1,e2,e3⟩:=hE.out
            exact agr
        ·obtain rfl:b=4:=by omega
         have hE:=Lib.hid (bI (afU (l:=l) (wd:=wd) (most:=most) (a:=a) (j:=j)));clear hlive;(refine wlk ?_;intros);refine⟨(j+1,(en:Int)-1),⟨by dsimp only;omega,by dsimp only;omega⟩,by dsimp only;omega,?_,?_,rfl⟩
         ·exact agr
         ·obtain⟨e1,e2,e3⟩:=hE.out
          exact agr
      ·have hE:=Lib.hid (hskip (ko he.out (aac hb)))
       clear hskip hq;generalize iK l wd a en=bd at*;obtain⟨bad,st⟩:=bd;dsimp only at hb apb;by_cases hb0:bad<0
       ·clear hb
        (refine wlk ?_;intros);refine⟨(j+1,(en:Int)-1),⟨by dsimp only;omega,by dsimp only;omega⟩,by dsimp only;omega,?_,?_,rfl⟩
        ·exact agr
        ·obtain⟨e1,e2,e3⟩:=hE.out
         exact agr
       ·have hb1:most<bad:=by omega
        clear hb;(refine wlk ?_;intros);refine⟨(j+1,(en:Int)-1),⟨by dsimp only;omega,by dsimp only;omega⟩,by dsimp only;omega,?_,?_,rfl⟩
        ·exact agr
        ·obtain⟨e1,e2,e3⟩:=hE.out
         exact agr
     ·obtain rfl:j=l.length-a:=by omega
      have hE:=Lib.hid (bI (aiv (wd:=wd) (most:=most) hal));(refine wlk ?_;intros);refine⟨(a,(a:Int)-1-1),⟨by dsimp only;omega,by dsimp only;omega⟩,by dsimp only;omega,?_,?_,rfl⟩
      ·exact agr
      ·obtain⟨e1,e2,e3⟩:=hE.out
       exact agr
  ·obtain rfl:m=0:=by omega
   have hG:tG (tbA l wd most 0) 0 1=(aJ l wd most 0 1).isSome:=by unfold tG;rw[ab6];rfl
   have hbl:(dX l wd most).length≤l.length:=aaz hB hm.2 _ _ _ (Nat.zero_le _);have hb0:dX l wd most=[]++bkF l wd most (l.length+1) 0 ((1:Nat):Int):=rfl;cases hs:aJ l wd most 0 1 with
   |none=>rw[hs]at hG;simp only[Option.isSome_none]at hG⊢;rw[if_neg (by decide)];clear hb0 hbl;exact wlkF
   |some r0=>
    rw[hs]at hG;simp only[Option.isSome_some]at hG⊢;rw[show(if True then dX l wd most else [])=dX l wd most from if_pos trivial];generalize dX l wd most=res at*;replace hb0:=Lib.hid hb0;have hs0:(aJ l wd most 0 ((1:Nat):Int)).isSome=true:=by show(aJ l wd most 0 1).isSome=true;rw[hs];rfl
    replace hs0:=Lib.hid hs0;clear hs;(refine wlk ?_;intros);clear hG;refine aG (α:=Nat×Int×Nat×LI×Nat×Nat×Nat) mixed (fun z=>[(0,fT l),(1,iv wd),(2,iv most),(8,.row z.2.2.2.2.1 1 0 z.2.2.2.1.length),(9,iv l.length),(12,.row 3 4 0 (l.length+1)),(22,iv z.2.1),(23,iv z.2.2.1)])
     (fun z=>[(3,110,4,(tab l.length (tN (tbA l wd most 0))).map aaj),(z.2.2.2.2.1,3,1,z.2.2.2.1.map pvN)]) (fun z=>z.2.2.2.2.2.1)
     (fun z=>z.1≤l.length∧z.2.1=(z.1:Int)-1∧z.2.2.1<4∧(aJ l wd most z.1 (z.2.2.1:Int)).isSome=true∧z.2.2.2.1.length≤z.1∧(¬z.2.2.2.2.1=3∧z.2.2.2.2.1<z.2.2.2.2.2.1∧4≤z.2.2.2.2.2.1)∧l.length+1≤z.2.2.2.2.2.2+z.1∧res=z.2.2.2.1++bkF l wd most z.2.2.2.2.2.2 z.1 (z.2.2.1:Int)) (fun z=>l.length-z.1) (by kernel_rfl)
     (0,-1,1,[],0,4,l.length+1) ⟨Nat.zero_le _,rfl,by simp,hs0.out,Nat.le_refl _,by simp,by simp,hb0.out⟩ ?_ ?_ rfl ?_
    ·exact agi
    ·exact agr
    rintro⟨a,v,kk,out,x,y,f⟩ ⟨hal,hv,hkk,hs,hol,⟨hx3,hxy,hy4⟩,hf,hres⟩;dsimp only at hal hv hkk hs hol hx3 hxy hy4 hf hres;have hx3':¬3=x:=fun q=>hx3 q.symm;subst hv;clear hs0 hb0;by_cases hlt:a<l.length
    ·obtain⟨r,hr⟩:∃r,aJ l wd most a (kk:Int)=some r:=Option.isSome_iff_exists.1 hs
     obtain⟨f',rfl⟩:∃f',f=f'+1:=⟨f-1,by omega⟩;rw[nN (by omega) hr]at hres;have hN:tN (tbA l wd most 0) a kk=(r.2.1:Int):=by unfold tN;rw[ab6,hr];rfl
     obtain⟨-,hb2⟩:=dJ hB hm.2 hal hr;obtain⟨⟨ha1,ha2⟩,hk0,hk3⟩:=hb2 hlt;obtain⟨x',c0,hx',hL⟩:=oQ hlt hr;obtain⟨hq,hbd,hpair⟩:=pK hL;have hlk:r.2.2=gF (iK l wd a r.2.1).2 (iK l wd a r.2.1).1:=congrArg Prod.snd hpair;obtain⟨-,-,-,hst,-⟩:=fP.1 hq;have apb:=aaR hB ha1 ha2 hw hst;have apk:=xA (s:=(iK l wd a r.2.1).2) (bad:=(iK l wd a r.2.1).1) ⟨hbd.1,by omega⟩;rw[←hlk]at apk;clear hL hpair hlk hq hst hr hs hb2;obtain⟨rc,en,rk⟩:=r;dsimp only at hres hN ha1 ha2 hk0 hk3 hx' hbd apb apk;obtain⟨k2,rfl⟩:∃k2:Nat,rk=k2:=⟨rk.toNat,by omega⟩;generalize iK l wd a en=bd at*;obtain⟨bad,st⟩:=bd;dsimp only at hbd apb apk;have hcan:(a:Int)-1+1=a:=by omega
     replace hres:=Lib.hid hres;replace hx':=Lib.hid hx';have hkk2:k2<4:=by omega
     (refine wlk ?_;intros);refine⟨(en+1,(en:Int),k2,out++[(en:Int)],y+1,y+2,f'),⟨by dsimp only;omega,by dsimp only;omega,hkk2,by dsimp only;rw[hx'.out];rfl,by simp;omega,⟨by dsimp only;omega,by dsimp only;omega,by dsimp only;omega⟩,by dsimp only;omega,by dsimp only;rw[hres.out];simp⟩,by dsimp only;omega,?_,?_,rfl⟩
     ·exact agr
     ·exact agr
    ·obtain rfl:a=l.length:=by omega
     rw[wz,List.append_nil]at hres;subst hres;clear hs;exact wlkF
 ·have hok:jH l wd most=false:=Bool.eq_false_iff.2 fun q=>by obtain⟨q1,q2,q3,q4,-⟩:=gU.1 q;exact hg ⟨q1,q2,q3,q4⟩
  rw[hok,if_neg (by decide)];clear hok hpre;cases hB:aX l with
  |false=>rw[hB]at apv;clear hg hB;have gbb_c77:=yV;have gbb_c48:=yN;have gbb_c78:=yP;have gbb_c79:=ze;have gbb_c80:=aag;have gbb_c81:=zA;have gbb_c82:=yu;have gbb_c83:=zu;exact wlkF
  |true=>
  rw[hB]at apv;by_cases hw:0≤wd∧wd≤1000
  ·have api1:inB wd 0 1000=true:=av.2 hw
   by_cases hm:0≤most∧most≤10000
   ·have api2:inB most 0 10000=true:=av.2 hm
    have hl0:l.length<1:=by
     by_cases h:l.length<1
     ·exact h
     ·exact absurd ⟨hB,by omega,hw,hm⟩ hg
    clear hg hB;have gbb_c77:=yV;have gbb_c48:=yN;have gbb_c78:=yP;have gbb_c79:=ze;have gbb_c80:=aag;have gbb_c81:=zA;have gbb_c82:=yu;have gbb_c83:=zu;exact wlkF
   ·have api2:inB most 0 10000=false:=Bool.eq_false_iff.2 fun q=>hm (av.1 q)
    clear hg hB hm;have gbb_c77:=yV;have gbb_c48:=yN;have gbb_c78:=yP;have gbb_c79:=ze;have gbb_c80:=aag;have gbb_c81:=zA;have gbb_c82:=yu;have gbb_c83:=zu;exact wlkF
  ·have api1:inB wd 0 1000=false:=Bool.eq_false_iff.2 fun q=>hw (av.1 q)
   clear hg hB hw;have gbb_c77:=yV;have gbb_c48:=yN;have gbb_c78:=yP;have gbb_c79:=ze;have gbb_c80:=aag;have gbb_c81:=zA;have gbb_c82:=yu;have gbb_c83:=zu;exact wlkF
structure BkI (l:List It) (wd most:Int) (a:Nat) (lk:Int) (br:List Int):Prop where
 le:a≤l.length
 lk0:0≤lk∧lk≤3
 len:br.length≤a
 pos:0<a→0<br.length
 ok:(aJ l wd most a lk).isSome=(aJ l wd most 0 1).isSome
 go:(aJ l wd most 0 1).isSome=true→dX l wd most=br++bkF l wd most (l.length+1-br.length) a lk
theorem BkI.start (l:List It) (wd most:Int):BkI l wd most 0 0 []:=⟨Nat.zero_le _,by decide,Nat.le_refl _,fun h=>by omega,by rw[rV 0 1],fun _=>by show dX l wd most=bkF l wd most (l.length+1) 0 0;unfold dX;rw[bkF,bkF,rV 1 0]⟩
theorem BkI.next {l:List It} {wd most:Int} {a:Nat} {lk:Int} {br:List Int} {r:Ch} (h:BkI l wd most a lk br) (hl:aX l=true) (hm:most≤10000) (ha:a<l.length) (hr:aJ l wd most a lk=some r):BkI l wd most (r.2.1+1) r.2.2 (br++[(r.2.1:Int)]):=by obtain⟨h1,h2⟩:=dJ hl hm h.le hr;obtain⟨h3,h4⟩:=h2 ha;obtain⟨x,c0,h5,h6⟩:=oQ ha hr;have hok:=h.ok;rw[hr]at hok;have h7:=h.len;refine⟨by omega,h4,by rw[List.length_append,List.length_singleton];omega,fun _=>by simp,by rw[h5,←hok];rfl,fun hs=>?_⟩;rw[h.go hs,show l.length+1-br.length=(l.length-br.length)+1 by omega,nN (by omega) hr];simp
theorem BkI.last {l:List It} {wd most:Int} {lk:Int} {br:List Int} (h:BkI l wd most l.length lk br):(aJ l wd most 0 1).isSome=true∧dX l wd most=br:=by have h1:=h.ok;rw[nY]at h1;have h2:(aJ l wd most 0 1).isSome=true:=h1.symm;refine⟨h2,?_⟩;rw[h.go h2,wz,List.append_nil]
theorem avH:zeroOf Tryz.prog 94=some (.agg #[.slice none 0 0,.int .i64 0,.int .i64 0,.map none]):=by kernel_rfl
theorem avC:bV Tryz.prog 94=some #[(0,1),(1,1),(2,1),(3,1)]:=by kernel_rfl
theorem awD (ps:List (Nat×PV)):eX Tryz.prog 94 ps=(jX (plF [(0,1),(1,1),(2,1),(3,1)]) [.val (.slice none 0 0),.val (.int .i64 0),.val (.int .i64 0),.val (.map none)] ps).map .agg:=aad avH rfl avC ps
theorem aae {ob:bC} {l:List It} {wd most:Int} {b:Nat} (h:ob 0=some (94,4,[.agg [fT l,iv wd,iv most,.val (.map (some b))]])):reify false 0 ob 8 (.own 0 4 0 0)=some (ahr l wd most b):=by
 have h1:reify false 0 ob 6 (fT l)=some (fT l):=by(simp(disch:=(first|omega|(simp only[push_cast];first|done|omega))) only[push_cast,↓reduceIte,Nat.reduceEqDiff,Nat.reduceBEq,Nat.reduceAdd,Nat.reduceSub,Int.reduceToNat, *]<;>with_reducible exact rfl)
 have h2:reify false 0 ob 7 (.agg [fT l,iv wd,iv most,.val (.map (some b))])=some (.agg [fT l,iv wd,iv most,.val (.map (some b))]):=by show([fT l,iv wd,iv most,.val (.map (some b))].mapM (reify false 0 ob 6)).map PV.agg=_;simp only[List.mapM_cons,List.mapM_nil,h1];rfl
 show(if false=true∧0<0 then none else match ob 0 with
  |some (_,sz',es)=>if 4=sz' then(es[0]?).bind fun e=>(reify false 0 ob 7 e).map (PV.ptr false · 0)else none
  |none=>none)=_
 rw[if_neg (by decide),h];dsimp only
 rw[if_pos rfl];show(reify false 0 ob 7 (.agg [fT l,iv wd,iv most,.val (.map (some b))])).map (PV.ptr false · 0)=_;rw[h2];rfl
theorem asw (m:Option Nat):bU (.val (.map m))=some [.val (.map m)]:=rfl
attribute[push_cast]
 awD asw
def axk:Ctx:={fn:=aY [(70,φLa)],io:=aY []}
theorem dH:ak Tryz.prog axk:=okΓ (fC Tryz.func70 agn aj) aj
def afD:=ah (Γ:=axk) (f:=70) (φ:=φLa) rfl
set_option maxRecDepth 100000 in
theorem ah9:Sound Tryz.prog 53 φBb:=by
 refine HY.sound (k:=96) (N:=44) (rs:=[.tmp 6,.tmp 7]) Tryz.func53 rfl rfl rfl fun ps r hr=>?_;obtain⟨l,wd,most,rfl,hpre,rfl⟩:=vZ hr;refine⟨by simp,?_⟩;simp only[dIs,dUs,dSs,dx,dA,dz,dF,aS,dD,aT,aU,aR,aV];intro B w00;show HY _ _ _ _ _ _ _ (bZ [fT l,.val (.int .i64 wd),.val (.int .i64 most)]) _;refine HY.start ?_;have apa:=ame (wd:=wd) (most:=most) hpre;have hl0:l.length≤1000:=hpre;clear hpre;have hll:((l.map gB).length:Int)=(l.length:Int):=by simp
 unfold am9;refine HY.seq (HY.eng mixed dH (by kernel_rfl) ?_);by_cases hg:aX l=true∧0<l.length∧(0≤wd∧wd≤1000)∧(0≤most∧most≤10000)
 ·obtain⟨hB,hpos,hw,hm⟩:=hg
  have hok:jH l wd most=(aJ l wd most 0 1).isSome:=by unfold jH;rw[hB,decide_eq_true hpos,av.2 hw,av.2 hm];simp
  rw[hok];rw[hB,decide_eq_true hpos,av.2 hw,av.2 hm]at apa;simp only[Bool.and_self]at apa;clear hok;have gbki_c70:=afD;(refine wlk ?_;intros);refine HY.seq (HY.eng mixed dH (by kernel_rfl) ?_);dsimp only
  (refine wlk ?_;intros);refine HY.seq (HY.each (HO.pre (imm:=⟨[],[],[]⟩) 3 dH (by kernel_rfl) (by simp only[List.take_succ_cons,List.take_zero]<;>exact rfl) (by simp only[List.drop_succ_cons,List.drop_zero]<;>exact rfl) (by simp only[List.map_cons,List.map_nil]<;>exact rfl) ?_));dsimp only
  (refine wlk ?_;intros);refine HO.make rfl rfl (by decide) rfl fun b hb=>?_;dsimp only[AS.put];refine HO.pre (imm:=⟨[],[],[]⟩) 3 dH (by kernel_rfl) (by simp only[List.take_succ_cons,List.take_zero]<;>exact rfl) (by simp only[List.drop_succ_cons,List.drop_zero]<;>exact rfl) (by simp only[List.map_cons,List.map_nil]<;>exact rfl) ?_;dsimp only
  (refine wlk ?_;intros);refine HO.nil ?_;refine HY.seq (HY.eng mixed dH (by kernel_rfl) ?_);(try dsimp only);(refine wlk ?_;intros);refine HY.seq (HY.eng mixed dH (by kernel_rfl) ?_);(try dsimp only);(refine wlk ?_;intros);(try dsimp only);refine HY.seq (HY.block (HY.aaB (α:=Nat×Int×List Int×Nat×Nat) (fun i=>[(0,fT l),(8,.own 0 4 0 0),(9,.own 1 3 0 0),(10,nP 1 (i.2.2.1.map pvN) i.2.2.2.1)])
   (fun i=>[(0,94,4,[.agg [fT l,iv wd,iv most,.val (.map (some b))]]),(1,96,3,[.agg [iv ((i.1:Int)-1),bv (mkA l i.1),iv i.2.1]])]++nO 3 1 (i.2.2.1.map pvN) i.2.2.2.1)
   (fun i=>i.2.2.2.2) (fun i σ=>BkI l wd most i.1 i.2.1 i.2.2.1∧(2≤i.2.2.2.2∧(i.2.2.1≠[]→2≤i.2.2.2.1∧i.2.2.2.1<i.2.2.2.2))∧∃L',σ=some (b,L')∧qd l wd most L') (fun i=>l.length-i.1) (0,0,[],0,2) ⟨BkI.start l wd most,⟨by decide,fun h=>absurd rfl h⟩,[],rfl,fun p hp=>by cases hp⟩ ?_ ?_ rfl ?_))
  ·dsimp only
   exact agi
  ·dsimp only
   rw[show((0:Nat):Int)-1=-1 from rfl,show mkA l 0=false from rfl];simp(disch:=(first|omega|(simp only[push_cast];first|done|omega))) only[push_cast,↓reduceIte,Nat.reduceEqDiff,Nat.reduceBEq,Nat.reduceAdd,Nat.reduceSub,Int.reduceToNat,List.map_nil,List.append_nil, *]
  rintro⟨a,lk,br,x,y⟩ σ ⟨hI,⟨hy,hx⟩,L',rfl,hG⟩;dsimp only at hI hy hx;have HI:=Lib.hid hI;have HG:=Lib.hid hG;have hle:=hI.le;have hlk:=hI.lk0;have hbl:=hI.len;clear hI hG;have ih:=fun(h:a≤l.length)=>aj1 hB hpos hw hm (l.length-a) a lk rfl h hlk b L' HG.out;have IH:=Lib.hid (ih hle);clear ih;dsimp only
  refine HY.seq (HY.eng mixed dH (by kernel_rfl) ?_);by_cases hal:a<l.length
  ·by_cases hnil:br=[]
   ·skip
    subst hnil;simp only[List.map_nil,eZ,eF,List.append_nil];(refine wlk ?_;intros);refine HY.block (HY.seq (HY.each (HO.pre (imm:=⟨[],[],[]⟩) 2 dH (by kernel_rfl) (by simp only[List.take_succ_cons,List.take_zero]<;>exact rfl) (by simp only[List.drop_succ_cons,List.drop_zero]<;>exact rfl) (by simp only[List.map_cons,List.map_nil]<;>exact rfl) ?_)));(try dsimp only);(refine wlk ?_;intros);refine HO.call (ps:=[ahr l wd most b,.agg [iv ((a:Int)-1),bv (mkA l a),iv lk]]) (R:=fun p L'=>p=chP l a (aJ l wd most a lk)∧qd l wd most L') rfl rfl ⟨_,Tryz.func71,rfl,rfl⟩ rfl ?_ ?_ IH.out ?_
    ·intro x e
     cases e;decide
    ·(try dsimp only)
     simp(disch:=(first|omega|(simp only[push_cast];first|done|omega))) only[push_cast,↓reduceIte,Nat.reduceEqDiff,Nat.reduceBEq,Nat.reduceAdd,Nat.reduceSub,Int.reduceToNat,aae (l:=l) (wd:=wd) (most:=most) (b:=b), *]
    rintro p L3 ⟨rfl,hL3⟩;rw[zM (show¬a=l.length by omega)];have HL3:=Lib.hid hL3;clear hL3;cases hr:aJ l wd most a lk with
    |none=>
     have hno:(aJ l wd most 0 1).isSome=false:=by rw[←HI.out.ok,hr];rfl
     rw[hno,if_neg (by decide)];dsimp only[aC,aN,aM,aK,AS.put];refine HO.pre (imm:=⟨[],[],[]⟩) 2 dH (by kernel_rfl) (by simp only[List.take_succ_cons,List.take_zero]<;>exact rfl) (by simp only[List.drop_succ_cons,List.drop_zero]<;>exact rfl) (by simp only[List.map_cons,List.map_nil]<;>exact rfl) ?_;(try dsimp only);(refine wlk ?_;intros);refine HO.nil ?_;refine HY.seq (HY.eng mixed dH (by kernel_rfl) ?_);(try dsimp only);(refine wlk ?_;intros);refine⟨by simp,⟨_,nL (ps:=[.val (.slice none 0 0),bv false]) ⟨nil_le _ _,PV.le_refl _,trivial⟩,?_⟩,fun b2 L2 e=>by cases e;exact hb⟩;(simp(disch:=(first|omega|(simp only[push_cast];first|done|omega))) only[push_cast,↓reduceIte,Nat.reduceEqDiff,Nat.reduceBEq,Nat.reduceAdd,Nat.reduceSub,Int.reduceToNat, *]<;>with_reducible exact rfl)
    |some r=>
     have hn:=HI.out.next hB hm.2 hal hr
     replace hn:=Lib.hid hn;have hr1:=(dJ hB hm.2 hle hr).1;have hr2:=((dJ hB hm.2 hle hr).2 hal).1;clear hr;obtain⟨r1,r2,r3⟩:=r;dsimp only at hr1 hr2;dsimp only[aC,aN,aM,aK,AS.put];refine HO.pre (imm:=⟨[],[],[]⟩) 2 dH (by kernel_rfl) (by simp only[List.take_succ_cons,List.take_zero]<;>exact rfl) (by simp only[List.drop_succ_cons,List.drop_zero]<;>exact rfl) (by simp only[List.map_cons,List.map_nil]<;>exact rfl) ?_;(try dsimp only);(refine wlk ?_;intros);refine HO.nil ?_;refine HY.seq (HY.eng mixed dH (by kernel_rfl) ?_);(try dsimp only);(refine wlk ?_;intros);refine HY.eng mixed dH (by kernel_rfl) ?_;(try dsimp only);(refine wlk ?_;intros);(try dsimp only);show∃j:Nat×Int×List Int×Nat×Nat,_;refine⟨(r2+1,r3,[(r2:Int)],y+2,y+3),⟨hn.out,⟨by dsimp only;omega,fun _=>⟨by dsimp only;omega,by dsimp only;omega⟩⟩,L3,rfl,HL3.out⟩,by dsimp only;omega,?_,?_,rfl⟩
     ·dsimp only
      rw[aB (by simp)];exact agi
     ·dsimp only
      rw[aF (by simp),show mkA l (r2+1)=(gI l r2).2.2.2.2.2.2 from rfl];simp(disch:=(first|omega|(simp only[push_cast];first|done|omega))) only[push_cast,↓reduceIte,Nat.reduceEqDiff,Nat.reduceBEq,Nat.reduceAdd,Nat.reduceSub,Int.reduceToNat,List.cons_append,List.nil_append, *]
   ·skip
    have hbp:0<(br.map pvN).length:=by rw[List.length_map];exact List.length_pos_iff.2 hnil
    obtain⟨hx2,hxy⟩:=hx hnil;rw[aB hbp,aF hbp,List.length_map];simp only[List.cons_append,List.nil_append];have hx0:¬x=0:=by omega
    have hx1:¬x=1:=by omega
    have hxy2:¬x=y:=by omega
    have hyx:¬y=x:=by omega
    (refine wlk ?_;intros);refine HY.block (HY.seq (HY.each (HO.pre (imm:=⟨[],[],[]⟩) 2 dH (by kernel_rfl) (by simp only[List.take_succ_cons,List.take_zero]<;>exact rfl) (by simp only[List.drop_succ_cons,List.drop_zero]<;>exact rfl) (by simp only[List.map_cons,List.map_nil]<;>exact rfl) ?_)));(try dsimp only);(refine wlk ?_;intros);refine HO.call (ps:=[ahr l wd most b,.agg [iv ((a:Int)-1),bv (mkA l a),iv lk]]) (R:=fun p L'=>p=chP l a (aJ l wd most a lk)∧qd l wd most L') rfl rfl ⟨_,Tryz.func71,rfl,rfl⟩ rfl ?_ ?_ IH.out ?_
    ·intro x e
     cases e;decide
    ·(try dsimp only)
     simp(disch:=(first|omega|(simp only[push_cast];first|done|omega))) only[push_cast,↓reduceIte,Nat.reduceEqDiff,Nat.reduceBEq,Nat.reduceAdd,Nat.reduceSub,Int.reduceToNat,aae (l:=l) (wd:=wd) (most:=most) (b:=b), *]
    rintro p L3 ⟨rfl,hL3⟩;rw[zM (show¬a=l.length by omega)];have HL3:=Lib.hid hL3;clear hL3;cases hr:aJ l wd most a lk with
    |none=>
     have hno:(aJ l wd most 0 1).isSome=false:=by rw[←HI.out.ok,hr];rfl
     rw[hno,if_neg (by decide)];dsimp only[aC,aN,aM,aK,AS.put];refine HO.pre (imm:=⟨[],[],[]⟩) 2 dH (by kernel_rfl) (by simp only[List.take_succ_cons,List.take_zero]<;>exact rfl) (by simp only[List.drop_succ_cons,List.drop_zero]<;>exact rfl) (by simp only[List.map_cons,List.map_nil]<;>exact rfl) ?_;(try dsimp only);(refine wlk ?_;intros);refine HO.nil ?_;refine HY.seq (HY.eng mixed dH (by kernel_rfl) ?_);(try dsimp only);(refine wlk ?_;intros);refine⟨by simp,⟨_,nL (ps:=[.val (.slice none 0 0),bv false]) ⟨nil_le _ _,PV.le_refl _,trivial⟩,?_⟩,fun b2 L2 e=>by cases e;exact hb⟩;(simp(disch:=(first|omega|(simp only[push_cast];first|done|omega))) only[push_cast,↓reduceIte,Nat.reduceEqDiff,Nat.reduceBEq,Nat.reduceAdd,Nat.reduceSub,Int.reduceToNat, *]<;>with_reducible exact rfl)
    |some r=>
     have hn:=HI.out.next hB hm.2 hal hr
     replace hn:=Lib.hid hn;have hr1:=(dJ hB hm.2 hle hr).1;have hr2:=((dJ hB hm.2 hle hr).2 hal).1;clear hr;obtain⟨r1,r2,r3⟩:=r;dsimp only at hr1 hr2;dsimp only[aC,aN,aM,aK,AS.put];refine HO.pre (imm:=⟨[],[],[]⟩) 2 dH (by kernel_rfl) (by simp only[List.take_succ_cons,List.take_zero]<;>exact rfl) (by simp only[List.drop_succ_cons,List.drop_zero]<;>exact rfl) (by simp only[List.map_cons,List.map_nil]<;>exact rfl) ?_;(try dsimp only);(refine wlk ?_;intros);refine HO.nil ?_;refine HY.seq (HY.eng mixed dH (by kernel_rfl) ?_);(try dsimp only);(refine wlk ?_;intros);refine HY.eng mixed dH (by kernel_rfl) ?_;(try dsimp only);(refine wlk ?_;intros);(try dsimp only);show∃j:Nat×Int×List Int×Nat×Nat,_;refine⟨(r2+1,r3,br++[(r2:Int)],y+2,y+3),⟨hn.out,⟨by dsimp only;omega,fun _=>⟨by dsimp only;omega,by dsimp only;omega⟩⟩,L3,rfl,HL3.out⟩,by dsimp only;omega,?_,?_,rfl⟩
     ·dsimp only
      rw[aB (by simp)];exact agi
     ·dsimp only
      rw[aF (by simp),show mkA l (r2+1)=(gI l r2).2.2.2.2.2.2 from rfl];simp(disch:=(first|omega|(simp only[push_cast];first|done|omega))) only[push_cast,↓reduceIte,Nat.reduceEqDiff,Nat.reduceBEq,Nat.reduceAdd,Nat.reduceSub,Int.reduceToNat,List.cons_append,List.nil_append, *]
  ·obtain rfl:a=l.length:=by omega
   obtain⟨hs,hbr⟩:=HI.out.last;rw[hs,if_pos rfl,hbr];have hne:br≠[]:=fun h=>by have:=HI.out.pos hpos;rw[h]at this;simp at this
   have hbp:0<(br.map pvN).length:=by rw[List.length_map];exact List.length_pos_iff.2 hne
   obtain⟨hx2,hxy⟩:=hx hne;rw[aB hbp,aF hbp,List.length_map];simp only[List.cons_append,List.nil_append];have hx0:¬x=0:=by omega
   have hx1:¬x=1:=by omega
   clear hbr hs;(refine wlk ?_;intros);refine HY.seq (HY.eng mixed dH (by kernel_rfl) ?_);(try dsimp only);(refine wlk ?_;intros);refine HY.ret ?_;refine⟨by simp,⟨_,PV.le_refl _,?_⟩,fun b2 L2 e=>by cases e;exact hb⟩;(try dsimp only);(simp(disch:=(first|omega|(simp only[push_cast];first|done|omega))) only[push_cast,↓reduceIte,Nat.reduceEqDiff,Nat.reduceBEq,Nat.reduceAdd,Nat.reduceSub,Int.reduceToNat, *]<;>with_reducible exact rfl)
 ·have hno:jH l wd most=false:=by
   cases h:jH l wd most with
   |false=>rfl
   |true=>obtain⟨h1,h2,h3,h4,-⟩:=gU.1 h;exact absurd ⟨h1,h2,h3,h4⟩ hg
  have hno2:(aX l&&(decide (0<l.length)&&(inB wd 0 1000&&inB most 0 10000)))=false:=by
   cases h:(aX l&&(decide (0<l.length)&&(inB wd 0 1000&&inB most 0 10000)))with
   |false=>rfl
   |true=>simp only[Bool.and_eq_true,decide_eq_true_eq,av]at h;exact absurd h hg
  rw[hno,if_neg (by decide)];rw[hno2]at apa;clear hno hno2 hg;have gbki_c70:=afD;(refine wlk ?_;intros);refine HY.seq (HY.eng mixed dH (by kernel_rfl) ?_);(try dsimp only);(refine wlk ?_;intros);refine⟨by simp,⟨_,nL (ps:=[.val (.slice none 0 0),bv false]) ⟨nil_le _ _,PV.le_refl _,trivial⟩,?_⟩,fun b2 L2 e=>by cases e⟩;(simp(disch:=(first|omega|(simp only[push_cast];first|done|omega))) only[push_cast,↓reduceIte,Nat.reduceEqDiff,Nat.reduceBEq,Nat.reduceAdd,Nat.reduceSub,Int.reduceToNat, *]<;>with_reducible exact rfl)
def aao (ws pats:LS):Bool:=bJ ws&&(bE pats&&decide (0<ws.length))
def akf:Fun:=F2 dSs dSs fun ws pats=>if ow ws∧ow pats then some (.tup [.lst true 7 ((if aao ws pats=true then piR ws pats else []).map gB),.lst true 1 ((if aao ws pats=true then txR ws pats else []).map fun s=> .val (.string s)),bv (oO ws pats)])else none
theorem ajk {ws pats:LS} (h:ow ws∧ow pats):akf [.lst false 1 (ws.map fun s=> .val (.string s)),.lst false 1 (pats.map fun s=> .val (.string s))]=some (.tup [.lst true 7 ((if aao ws pats=true then piR ws pats else []).map gB),.lst true 1 ((if aao ws pats=true then txR ws pats else []).map fun s=> .val (.string s)),.val (.bool (oO ws pats))]):=(jZ (A:=dSs) (B:=dSs) ws pats).trans (if_pos h)
theorem yF {w:ByteArray} {pats:LS} (h1:dM w=true) (h2:bE pats=true):0<(bW w pats).length:=by unfold bW;rw[if_pos (j4.2 ⟨h1,h2⟩)];unfold zk;rw[agG];omega
theorem ahS {ws pats:LS} (h1:bJ ws=true) (h2:bE pats=true):∀k,k≤ws.length→0<k→0<(txK ws pats k).length
 |0,_,h=>by omega
 |k+1,hk,_=>by have:=yF (pats:=pats) (adj h1 (k:=k) (by omega)) h2;rw[txK,List.length_append];omega
theorem ap7 {ws pats:LS} (h1:bJ ws=true) (h2:bE pats=true) {k:Nat} (hk:k≤ws.length) (h:0<k):0<(piK ws pats k).length:=by have h3:=ahS h1 h2 k hk h;rw[←aoR]at h3;exact Nat.lt_of_lt_of_le h3 (List.length_filter_le _ _)
end
end Go.Proofs.YtmmafcjjlbgnkaaGreat
