/- What the proof rests on, part 14: contracts of functions. No condition beyond what each states. -/
import Derived.Test.YtmmafcjjlbgnkaaGreatDoorZBiE12
import Derived.Test.YtmmafcjjlbgnkaaGreatDoorZBiE13
namespace Go.Proofs.YtmmafcjjlbgnkaaGreatDoor
open Go.RowKit
open Nat renaming reduceEqDiff→Rq,reduceBEq→Rb,reduceAdd→Ra,reduceSub→Rs
open Int renaming reduceToNat→Rt
set_option linter.all false
set_option maxHeartbeats 32000000
noncomputable section
theorem awi:Tryz.prog.underlying 141=some (.map 145 147):=by kernel_rfl
theorem aFI:(145:TypeId)<Tryz.prog.types.size:=of_decide_eq_true (by kernel_rfl)
theorem aCN:(match Tryz.prog.underlying 145 with|some (.array _ _)|some (.struct _)=>true|_=>false)=true:=by kernel_rfl
set_option maxRecDepth 100000 in
theorem azT:laidOutB Tryz.prog=true:=by kernel_rfl
set_option maxRecDepth 100000 in
theorem aGY:Tryz.prog.keyTypeAt 3 145=true:=by kernel_rfl
theorem aiG {P:Program} {k:TypeId} (hl:laidOutB P=true) (hrow:k<P.types.size) (hk:P.keyTypeAt 3 k=true) (hwide:(match P.underlying k with|some (.array _ _)|some (.struct _)=>true|_=>false)=true):Go.Maps.Keyed P k:=Go.Maps.Keyed.of_law (deep_law_laid hl (m:=3) (by omega) hrow hk hwide)
set_option maxRecDepth 100000 in
theorem afJ:Go.Maps.Keyed Tryz.prog 145:=aiG azT aFI aGY aCN
abbrev aiO (n:Int) (mk:Bool) (lk:Int):Value:=.agg #[.int .i64 n,.bool mk,.int .i64 lk]
def kl1 (n:Int):Option (List Lit):=if IntKind.i64=.i64∧(Lit.int .i64 n).wf=true then some [.int .i64 n]else none
set_option maxRecDepth 100000 in
theorem ait (n lk:Int) (mk:Bool):Tryz.prog.keyLits (Tryz.prog.types.size+1) 145 (aiO n mk lk).cells.toList=(do let a←kl1 n;let b←some [Lit.bool mk];let c←kl1 lk;pure [a,b,c]:Option (List (List Lit))).map List.flatten:=by kernel_rfl
theorem abC {n lk:Int} {mk:Bool} (h1:okI n) (h2:okI lk):∃l,keyOf Tryz.prog 145 (aiO n mk lk)=some l:=by
 have hk:Tryz.prog.keyType 145=true:=by kernel_rfl
 have hf:(aiO n mk lk).formed Tryz.prog 145=true:=by
  obtain⟨fs,hu⟩:∃fs,Tryz.prog.underlying 145=some (.struct fs):=⟨_,atZ⟩;have hc:Tryz.prog.cellsOf 145=3:=by kernel_rfl
  simp[Value.formed,hu,hc]
 have w1:(Lit.int .i64 n).wf=true:=by show(decide (-9223372036854775808≤n)&&decide (n≤9223372036854775807))=true;simp[h1.1,h1.2]
 have w2:(Lit.int .i64 lk).wf=true:=by show(decide (-9223372036854775808≤lk)&&decide (lk≤9223372036854775807))=true;simp[h2.1,h2.2]
 unfold keyOf;rw[atZ];dsimp only
 rw[hk,hf,Bool.and_self,if_pos rfl];rw[ait];unfold kl1;rw[if_pos ⟨rfl,w1⟩,if_pos ⟨rfl,w2⟩];exact⟨_,rfl⟩
theorem as2:aV Tryz.prog 143 0=some 0:=by kernel_rfl
theorem arx:aV Tryz.prog 143 1=some 1:=by kernel_rfl
theorem as0:aV Tryz.prog 143 2=some 2:=by kernel_rfl
theorem aoZ:aV Tryz.prog 143 3=some 3:=by kernel_rfl
theorem awT:aY Tryz.prog 141=some 1:=by kernel_rfl
theorem awQ:jH Tryz.prog 141=some false:=by kernel_rfl
attribute[push_cast]
 as2 arx as0 aoZ awT awQ
abbrev mkA (l:List It) (a:Nat):Bool:=if a=0 then false else(gI l (a-1)).2.2.2.2.2.2
def chV (l:List It) (a:Nat) (r:Option Ch):Value:=if a=l.length then .agg #[.int .i64 0,.int .i64 0,.bool false,.int .i64 0]else match r with
 |none=> .agg #[.int .i64 (-1),.int .i64 0,.bool false,.int .i64 0]
 |some x=> .agg #[.int .i64 x.1,.int .i64 x.2.1,.bool (gI l x.2.1).2.2.2.2.2.2,.int .i64 x.2.2]
def chP (l:List It) (a:Nat) (r:Option Ch):PV:=if a=l.length then .agg [iv 0,iv 0,bv false,iv 0]else match r with
 |none=> .agg [iv (-1),iv 0,bv false,iv 0]
 |some x=> .agg [iv x.1,iv x.2.1,bv (gI l x.2.1).2.2.2.2.2.2,iv x.2.2]
theorem vv (l:List It) (a:Nat) (r:Option Ch):toVal (chP l a r)=some (chV l a r):=by
 unfold chP chV;split
 ·rfl
 ·cases r<;>rfl
abbrev alU (l:List It) (wd most:Int) (b:Nat):PV:=.ptr false (.agg [gy l,iv wd,iv most,.val (.map (some b))]) 0
def uM (l:List It) (wd most:Int) (L:VL):Prop:=∀p∈L,∃(a:Nat) (lk:Int),a<l.length∧(0≤lk∧lk≤3)∧p.1=aiO ((a:Int)-1) (mkA l a) lk∧p.2=chV l a (aU l wd most a lk)
def aC (r:Option Ch):Int:=match r with|none=>-1|some x=>x.1
def aN (r:Option Ch):Int:=match r with|none=>0|some x=>x.2.1
def aM (l:List It) (r:Option Ch):Bool:=match r with|none=>false|some x=>(gI l x.2.1).2.2.2.2.2.2
def aK (r:Option Ch):Int:=match r with|none=>0|some x=>x.2.2
theorem acN {l:List It} {a:Nat} {r:Option Ch} (h:¬a=l.length):chP l a r=.agg [iv (aC r),iv (aN r),bv (aM l r),iv (aK r)]:=by unfold chP;rw[if_neg h];cases r<;>rfl
theorem aqy (l:List It) (a:Nat) (lk wd most:Int):∃c n m k,chP l a (aU l wd most a lk)=.agg [iv c,iv n,bv m,iv k]∧((aU l wd most a lk=none∧c=-1)∨∃r,aU l wd most a lk=some r∧c=r.1):=by
 by_cases h:a=l.length
 ·subst h
  exact⟨0,0,false,0,if_pos rfl,.inr ⟨_,rO _ _ _ _,rfl⟩⟩
 ·refine⟨_,_,_,_,acN h,?_⟩
  cases hr:aU l wd most a lk with
  |none=>exact .inl ⟨rfl,rfl⟩
  |some r=>exact .inr ⟨r,rfl,rfl⟩
theorem aru {n:Nat} {ob:bG} (l:List It) (wd most:Int) (b:Nat):reify false n ob 8 (alU l wd most b)=some (alU l wd most b):=by
 have h1:reify false n ob 6 (gy l)=some (gy l):=by(exact sr)
 show(if false=true∧false=false then none else(([gy l,iv wd,iv most,.val (.map (some b))].mapM (reify false n ob 6)).map PV.agg).map (PV.ptr false · 0))=_;rw[if_neg (by decide)];simp only[List.mapM_cons,List.mapM_nil,h1];rfl
attribute[push_cast]
 aru
theorem HY.aEQ {P:Program} {k:TypeId} {N B:Nat} {w00:World} {Γ:Ctx} {K:X→AS→Sg→Prop} {s:AS} {b:Nat} {L:VL} {id:Nat} (n:Nat) {os pre:List Oper} {t e:TypeId} {x y z:Operand} {ty:Nat} {pos:String} {af:Array Edge} (hm:P.follows .mixedOrders=true) (hΓ:au P Γ) (Ky:Go.Maps.Keyed P k) (ht:P.underlying t=some (.map k e))
 (h1:os.take n=pre) (h2:os.drop n=[{dst:=none,op:=.mapUpdate t x y z,type:=ty,pos:=pos,after:=af,guard:=none}]) {gs:List (Option Nat)} (hgs:os.map (·.dst)=gs) (hd:os.toArray.all (gV N)=true) (hok:qY Γ (aut true os.toArray) os.toArray=true) (hlast:(List.range n).all (fun i=>tT os.toArray os.toArray.size i n)=true) (hn:pre.length=n)
 (hp:wq P Γ (aut true os.toArray) gs pre (fun s1=>∃key val kl,look s1.tm x=.val (.map (some b))∧toVal (look s1.tm y)=some key∧toVal (look s1.tm z)=some val∧keyOf P k key=some kl∧∀L',Upd L key val L'→K .normal s1 (some (b,L'))) s.tm s.ob s.nx):HY P k N B w00 (.region id os.toArray true) K s (some (b,L)):=
 HY.aGZ hm hΓ Ky ht hd hok hlast (show os=pre++_ by rw[←h1,←h2,List.take_append_drop]) hn rfl rfl rfl hgs hp
theorem uM.upd {l:List It} {wd most:Int} {L L':VL} {a:Nat} {lk:Int} (h:uM l wd most L) (ha:a<l.length) (hk:0≤lk∧lk≤3) (hu:Upd L (aiO ((a:Int)-1) (mkA l a) lk) (chV l a (aU l wd most a lk)) L'):uM l wd most L':=by
 cases hu with
 |new h1=>
  intro p hp;rcases List.mem_append.1 hp with hp|hp
  ·exact h p hp
  ·rw[List.mem_singleton.1 hp]
   exact⟨a,lk,ha,hk,rfl,rfl⟩
 |old h1=>
  subst h1;intro p hp;rcases List.mem_append.1 hp with hp|hp
  ·exact h p (List.mem_append.2 (.inl hp))
  ·rcases List.mem_cons.1 hp with rfl|hp
   ·exact⟨a,lk,ha,hk,rfl,rfl⟩
   ·exact h p (List.mem_append.2 (.inr (List.mem_cons_of_mem _ hp)))
def aEo:Ctx:={fn:=aT [(176,φLc)],io:=aT []}
theorem dn:au Tryz.prog aEo:=okΓ (fC Tryz.func176 alm aj) aj
def apT:=ah (Γ:=aEo) (f:=176) (φ:=φLc) rfl
set_option maxRecDepth 100000 in
theorem asO {l:List It} {wd most:Int} (hl:aW l=true) (hpos:0<l.length) (hw:0≤wd∧wd≤1000) (hm:0≤most∧most≤10000):∀(n a:Nat) (lk:Int),l.length-a=n→a≤l.length→(0≤lk∧lk≤3)→∀(b:Nat) (L:VL),uM l wd most L→
 ∀(w:World) (Jm:Nat→Prop) (args:Array Value),(∀i,Jm i→i<w.heap.size∧i≠b)→bL (lG Jm) w [alU l wd most b,aCn ((a:Int)-1,mkA l a,lk)] args.toList→jm Tryz.prog 145 w b L→kr w (fun i=>i=b)→
 Calls Tryz.prog 123 args w fun e w'=>∃p v L',e=.returned v∧(∀(g:Gh) (w:World),Rep g w p v)∧w.grownBy w' (some b)∧jm Tryz.prog 145 w' b L'∧(p=chP l a (aU l wd most a lk)∧uM l wd most L'):=by
 intro n
 induction n using Nat.strongRecOn with
 |_ n ih=>
 intro a lk hn ha hlk b L hL w Jm args hJ hargs hM hT;have hlen:=bK hl;refine HY.calls (N:=99) (rs:=[.cell 4 147]) (R:=fun p L'=>p=chP l a (aU l wd most a lk)∧uM l wd most L') Tryz.func123 rfl rfl rfl (by simp) hJ hargs hM hT (HY.start ?_);refine HY.seq (HY.eng mixed dn (by kernel_rfl) ?_);(try dsimp only);(refine wlk ?_;intros);refine HY.seq (HY.eng mixed dn (by kernel_rfl) ?_);(try dsimp only);have hll:((l.map gG).length:Int)=(l.length:Int):=by simp
 have IH:=Lib.hid ih;have HL:=Lib.hid hL;clear ih hL hJ hargs hM hT;by_cases han:a=l.length
 ·have hch:chP l a (aU l wd most a lk)=.agg [iv 0,iv 0,bv false,iv 0]:=if_pos han
  have hv:=vv l a (aU l wd most a lk);generalize mkA l a=mk;subst han;(refine wlk ?_;intros);dsimp only
  refine⟨.inr rfl,_,_,L,?_,hv,rfl,rfl,HL.out⟩;rw[hch];clear hv hch;exact agr
 have hal:a<l.length:=by omega
 have hkn:okI ((a:Int)-1):=by omega
 have hkk:okI lk:=by omega
 obtain⟨c0,n0,m0,k0,hch⟩:∃c n m k,chP l a (aU l wd most a lk)=.agg [iv c,iv n,bv m,iv k]:=by unfold chP;rw[if_neg han];cases aU l wd most a lk<;>exact⟨_,_,_,_,rfl⟩
 have hv:=vv l a (aU l wd most a lk);rw[hch]at hv;by_cases hit:∃v,(aiO ((a:Int)-1) (mkA l a) lk,v)∈L
 ·obtain⟨v,hin⟩:=hit
  obtain⟨a',lk',h1,h2,h3,h4⟩:=HL.out _ hin;obtain⟨rfl,rfl⟩:a'=a∧lk'=lk:=by simp only[aiO,Value.agg.injEq]at h3;have:=congrArg Array.toList h3;simp at this;omega
  have h4':v=chV l a' (aU l wd most a' lk'):=h4;subst h4';clear h1 h2 h3 h4;have HIN:=Lib.hid hin;have HCH:=Lib.hid hch;have HV:=Lib.hid hv;clear hin hch hv;generalize mkA l a'=mk at*;(refine wlk ?_;intros);dsimp only
  have hlk:=ahz (Γ:=aEo) (t:=141) (b:=b) (c:=true) (k0:=aiO ((a':Int)-1) mk lk') (p:=.tup [.agg [iv c0,iv n0,bv m0,iv k0],bv true]);refine HY.seq (HY.see (M:=⟨141,b,oU true (aiO ((a':Int)-1) mk lk') (.tup [.agg [iv c0,iv n0,bv m0,iv k0],bv true])⟩) mixed dn rfl ?_ (by kernel_rfl) ?_)
  ·intro key c p hp w1 g1 hM1
   obtain⟨rfl,rfl,rfl⟩:=pQ hp;obtain⟨kl,hkl⟩:=abC (mk:=mk) hkn hkk;refine⟨_,hM1.abh afJ awi true hkl HIN.out,?_⟩;exact agI (xZ HV.out) (by simp[Rep])
  (try dsimp only);(refine wlk ?_;intros);refine qX 9 (by simp only[List.map_cons,List.map_nil]<;>exact rfl) (by simp only[List.take_succ_cons,List.take_zero]<;>exact rfl) (by simp only[List.drop_succ_cons,List.drop_zero]<;>exact rfl) zR (by kernel_rfl) (by kernel_rfl) ?_;(refine wlk ?_;intros);refine azA (by(exact sr)) ?_;(refine wlk ?_;intros);dsimp only
  refine⟨.inr rfl,_,_,L,?_,HV.out,rfl,HCH.out.symm,HL.out⟩;exact agr
 ·have hmiss:∀p∈L,p.1≠aiO ((a:Int)-1) (mkA l a) lk:=fun p hp e=>hit ⟨p.2,by rw[←e];exact hp⟩
  have HMI:=Lib.hid hmiss;have HCH:=Lib.hid hch;have HV:=Lib.hid hv;clear hit hch hv hmiss;obtain⟨mk,hmk⟩:∃mk,mk=mkA l a:=⟨_,rfl⟩;rw[←hmk]at HMI⊢;have HMK:=Lib.hid hmk;clear hmk;(refine wlk ?_;intros);dsimp only
  have hlk:=ahz (Γ:=aEo) (t:=141) (b:=b) (c:=true) (k0:=aiO ((a:Int)-1) mk lk) (p:=.tup [.agg [iv 0,iv 0,bv false,iv 0],bv false]);refine HY.seq (HY.see (M:=⟨141,b,oU true (aiO ((a:Int)-1) mk lk) (.tup [.agg [iv 0,iv 0,bv false,iv 0],bv false])⟩) mixed dn rfl ?_ (by kernel_rfl) ?_)
  ·intro key c p hp w1 g1 hM1
   obtain⟨rfl,rfl,rfl⟩:=pQ hp;obtain⟨kl,hkl⟩:=abC (mk:=mk) hkn hkk;refine⟨_,hM1.anZ afJ awi true hkl (l7 zR w1) HMI.out,?_⟩;exact agI (xZ rfl) (by simp[Rep])
  (try dsimp only);(refine wlk ?_;intros);refine qX 9 (by simp only[List.map_cons,List.map_nil]<;>exact rfl) (by simp only[List.take_succ_cons,List.take_zero]<;>exact rfl) (by simp only[List.drop_succ_cons,List.drop_zero]<;>exact rfl) zR (by kernel_rfl) (by kernel_rfl) ?_;(refine wlk ?_;intros);refine azA (by(exact sr)) ?_;(refine wlk ?_;intros);dsimp only
  clear hlk;refine HY.cut (Lf:=[(0,alU l wd most b),(3,.own 0 3 0 0),(4,.own 1 4 0 0)]) (O:=[(0,145,3,[.agg [iv ((a:Int)-1),bv mk,iv lk]]),(1,147,4,[.agg [iv 0,iv 0,bv false,iv 0]])]) (x:=3) (by exact agr) (by exact agr) rfl ?_;refine HY.seq (HY.eng mixed dn (by kernel_rfl) ?_);dsimp only
  (refine wlk ?_;intros);dsimp only
  refine HY.seq (HY.seq (HY.eng mixed dn (by kernel_rfl) ?_));dsimp only
  (refine wlk ?_;intros);dsimp only
  refine HY.block (HY.uR (α:=Nat×Nat) (fun i=>[(0,alU l wd most b),(3,.own 0 3 0 0),(4,.own 1 4 0 0),(7,.own 3 4 0 0),(8,iv ((l.length:Int)-1-i.1))])
   (fun i=>[(0,145,3,[.agg [iv ((a:Int)-1),bv mk,iv lk]]),(1,147,4,[.agg [iv 0,iv 0,bv false,iv 0]]),(3,147,4,[.agg [iv (aC (bE l wd most a lk (aU l wd most) i.1)),iv (aN (bE l wd most a lk (aU l wd most) i.1)),bv (aM l (bE l wd most a lk (aU l wd most) i.1)),iv (aK (bE l wd most a lk (aU l wd most) i.1))]])])
   (fun i=>i.2) (fun i σ=>i.1≤l.length-a∧4≤i.2∧∃L',σ=some (b,L')∧uM l wd most L') (fun i=>l.length-a-i.1) (0,4) ⟨Nat.zero_le _,Nat.le_refl _,L,rfl,HL.out⟩ ?_ ?_ rfl ?_)
  ·exact agi
  ·simp only[bE,aC,aN,aM,aK]
   exact agr
  ·rintro⟨j,y⟩ σ ⟨hj,hy,L',rfl,hL'⟩
   dsimp only at hj hy;have HL2:=Lib.hid hL';clear hL';by_cases hja:j<l.length-a
   ·refine HY.seq (HY.eng mixed dn (by kernel_rfl) ?_)
    obtain⟨en,hen⟩:∃en:Nat,en+1+j=l.length:=⟨l.length-1-j,by omega⟩;have he8:(l.length:Int)-1-(j:Int)=(en:Int):=by omega
    dsimp only
    rw[he8];generalize hR:bE l wd most a lk (aU l wd most) j=R at*;have HR:=Lib.hid hR;clear hR he8;have hap:aFg l wd most ((a:Int)-1,mk,lk) en:=⟨⟨hl,by dsimp only;omega,by dsimp only;omega,by omega⟩,hw,hm,hlk,fun h0=>by have:=HMK.out;dsimp only at h0⊢;rw[this];unfold mkA;rw[if_neg (by omega),show((a:Int)-1).toNat=a-1 by omega]⟩
    have ap:=awH hap;clear hap;generalize hE:lcR l wd most a en lk=E at*;obtain⟨c9,e9,m9,k9⟩:=E;have HE:=Lib.hid hE;clear hE;dsimp only at ap;have hy1:¬y=0:=by omega
    have hy2:¬y=1:=by omega
    have hy3:¬y=3:=by omega
    have gbst_c176:=apT;(refine wlk ?_;intros);dsimp only
    refine HY.seq (HY.block (HY.seq (HY.eng mixed dn (by kernel_rfl) ?_)));dsimp only
    (refine wlk ?_;intros);refine qX 18 (by simp only[List.map_cons,List.map_nil]<;>exact rfl) (by simp only[List.take_succ_cons,List.take_zero]<;>exact rfl) (by simp only[List.drop_succ_cons,List.drop_zero]<;>exact rfl) zO (by kernel_rfl) (by kernel_rfl) ?_;(refine wlk ?_;intros);refine azA (by(exact sr)) ?_;(refine wlk ?_;intros);dsimp only
    refine HY.cut (Lf:=[(0,alU l wd most b),(3,.own 0 3 0 0),(4,.own 1 4 0 0),(7,.own 3 4 0 0),(8,iv (en:Int)),(9,iv c9),(10,.own y 3 0 0)]) (O:=[(0,145,3,[.agg [iv ((a:Int)-1),bv mk,iv lk]]),(1,147,4,[.agg [iv 0,iv 0,bv false,iv 0]]),(3,147,4,[.agg [iv (aC R),iv (aN R),bv (aM l R),iv (aK R)]]),(y,145,3,[.agg [iv e9,bv m9,iv k9]])]) (x:=y+1) (by exact agr) (by exact agr) rfl ?_;have hbn:∀z,iP l wd most a lk (aU l wd most) R en=z→bE l wd most a lk (aU l wd most) (j+1)=z:=fun z hz=>by rw[bE,show l.length-(j+1)=en by omega,HR.out,hz]
    clear ap;cases hL:jf l wd most a en with
    |none=>
     have hE2:=HE.out;unfold lcR at hE2;rw[hL]at hE2;cases hE2;have hN:=Lib.hid (hbn _ (jd hL));clear hbn hL;refine HY.seq (HY.eng mixed dn (by kernel_rfl) ?_);(refine wlk ?_;intros);refine HY.eng mixed dn (by kernel_rfl) ?_;dsimp only
     (refine wlk ?_;intros);(try dsimp only);refine⟨(j+1,y+1),⟨by dsimp only;omega,by dsimp only;omega,L',rfl,HL2.out⟩,by dsimp only;omega,?_,?_,rfl⟩
     ·dsimp only
      exact agi
     ·dsimp only
      rw[hN.out];exact agr
    |some ck=>
     obtain⟨c,k⟩:=ck;have hE2:=HE.out;unfold lcR at hE2;rw[hL]at hE2;obtain⟨⟨-,-⟩,g2,g3⟩:=rH hl hm.2 hL;have g4:=nA l a en lk k;dsimp only at hE2 g2 g3;have hmn:mkA l (en+1)=(l[en]?.getD it0).2.2.2.2.2.2:=rfl;have IHn:=IH.out (l.length-(en+1)) (by omega) (en+1) k rfl (by omega) g3 b L' HL2.out;rw[show((en+1:Nat):Int)-1=(en:Int) by omega,hmn]at IHn;simp only[Prod.mk.injEq]at hE2;obtain⟨rfl,rfl,rfl,rfl⟩:=hE2;have hc9:0≤c+jD l a en lk k∧c+jD l a en lk k≤400000000:=by omega
     have hbs:=fun r (h2:aU l wd most (en+1) k=some r)=>hbn _ (l6 hL h2);have hbd:=fun(h2:aU l wd most (en+1) k=none)=>hbn _ (lU hL h2);have hbr:=fun r (h2:aU l wd most (en+1) k=some r)=>dx hl hm.2 (show en+1≤l.length by omega) h2;have hRr:∀x,R=some x→0≤x.1∧x.1≤20000000000:=fun x hx=>(rZ (a:=a) hl hm.2 hal (HR.out.trans hx)).1;have hcp:=aqy l (en+1) k wd most;clear hbn g2 g4;generalize hc8:c+jD l a en lk k=c9 at*;generalize hme:(l[en]?.getD it0).2.2.2.2.2.2=m9 at*;generalize aU l wd most (en+1) k=rr at*;have HME:=Lib.hid hme;have HB:=Lib.hid (And.intro hbs (And.intro hbd (And.intro hbr hRr)));have HIH:=Lib.hid IHn;clear hc8 hL HE hme hbs hbd hbr hRr IHn hmn;obtain⟨c2,n2,m2,k2,hp2,hc2⟩:=hcp;have HC2:=Lib.hid hc2;have HP2:=Lib.hid hp2;clear hc2 hp2;refine HY.seq (HY.eng mixed dn (by kernel_rfl) ?_);(refine wlk ?_;intros);refine HY.seq (HY.each (HO.pre (imm:=⟨[],[],[]⟩) 2 dn (by kernel_rfl) (by simp only[List.take_succ_cons,List.take_zero]<;>exact rfl) (by simp only[List.drop_succ_cons,List.drop_zero]<;>exact rfl) (by simp only[List.map_cons,List.map_nil]<;>exact rfl) ?_));(refine wlk ?_;intros);refine HO.call (ps:=[alU l wd most b,.agg [iv (en:Int),bv m9,iv k]]) (R:=fun p L'=>p=chP l (en+1) rr∧uM l wd most L') rfl rfl ⟨_,Tryz.func123,rfl,rfl⟩ rfl ?_ ?_ HIH.out ?_
     ·intro x e
      cases e;decide
     ·dsimp only
      (exact sr)
     ·rintro p L3 ⟨rfl,hL3⟩
      rw[HP2.out];have HL3:=Lib.hid hL3;clear hL3;refine HO.pre (imm:=⟨[],[],[]⟩) 2 dn (by kernel_rfl) (by simp only[List.take_succ_cons,List.take_zero]<;>exact rfl) (by simp only[List.drop_succ_cons,List.drop_zero]<;>exact rfl) (by simp only[List.map_cons,List.map_nil]<;>exact rfl) ?_;dsimp only[AS.put];(refine wlk ?_;intros);refine HO.nil ?_;refine HY.cut (Lf:=[(0,alU l wd most b),(3,.own 0 3 0 0),(4,.own 1 4 0 0),(7,.own 3 4 0 0),(8,iv (en:Int)),(9,iv c9),(10,.own y 3 0 0),(11,.own (y+1) 4 0 0)]) (O:=[(0,145,3,[.agg [iv ((a:Int)-1),bv mk,iv lk]]),(1,147,4,[.agg [iv 0,iv 0,bv false,iv 0]]),(3,147,4,[.agg [iv (aC R),iv (aN R),bv (aM l R),iv (aK R)]]),(y,145,3,[.agg [iv (en:Int),bv m9,iv k]]),(y+1,147,4,[.agg [iv c2,iv n2,bv m2,iv k2]])]) (x:=y+2) (by exact agr) (by exact agr) rfl ?_;rcases HC2.out with⟨hr,rfl⟩|⟨r,hr,rfl⟩
      ·have hN:=Lib.hid (HB.out.2.1 hr)
       clear hr;refine HY.eng mixed dn (by kernel_rfl) ?_;(refine wlk ?_;intros);refine HY.eng mixed dn (by kernel_rfl) ?_;dsimp only
       (refine wlk ?_;intros);(try dsimp only);refine⟨(j+1,y+2),⟨by dsimp only;omega,by dsimp only;omega,L3,rfl,HL3.out⟩,by dsimp only;omega,?_,?_,rfl⟩
       ·dsimp only
        exact agi
       ·dsimp only
        rw[hN.out];(try simp only[aC,aN,aM,aK,HME.out]);exact agr
      ·have hN1:=HB.out.1 r hr
       have hr1:=(HB.out.2.2.1 r hr).1;have hRR:=HB.out.2.2.2;clear hr;generalize r.1=r1 at*;cases R with
       |none=>
        have hN:=Lib.hid (hN1.trans (if_pos rfl));clear hN1 hRR;dsimp only[aC,aN,aM,aK];refine HY.eng mixed dn (by kernel_rfl) ?_;(refine wlk ?_;intros);refine HY.eng mixed dn (by kernel_rfl) ?_;dsimp only
        (refine wlk ?_;intros);(try dsimp only);refine⟨(j+1,y+2),⟨by dsimp only;omega,by dsimp only;omega,L3,rfl,HL3.out⟩,by dsimp only;omega,?_,?_,rfl⟩
        ·dsimp only
         exact agi
        ·dsimp only
         rw[hN.out];(try simp only[aC,aN,aM,aK,HME.out]);exact agr
       |some x=>
        have hx1:=hRR x rfl;clear hRR;obtain⟨x1,x2,x3⟩:=x;dsimp only at hx1;dsimp only[aC,aN,aM,aK];by_cases hlt:c9+r1<x1
        ·have hN:=Lib.hid (hN1.trans (if_pos (by simpa using hlt)))
         clear hN1;refine HY.eng mixed dn (by kernel_rfl) ?_;(refine wlk ?_;intros);refine HY.eng mixed dn (by kernel_rfl) ?_;dsimp only
         (refine wlk ?_;intros);(try dsimp only);refine⟨(j+1,y+2),⟨by dsimp only;omega,by dsimp only;omega,L3,rfl,HL3.out⟩,by dsimp only;omega,?_,?_,rfl⟩
         ·dsimp only
          exact agi
         ·dsimp only
          rw[hN.out];(try simp only[aC,aN,aM,aK,HME.out]);exact agr
        ·have hN:=Lib.hid (hN1.trans (if_neg (by simpa using hlt)))
         clear hN1;refine HY.eng mixed dn (by kernel_rfl) ?_;(refine wlk ?_;intros);refine HY.eng mixed dn (by kernel_rfl) ?_;dsimp only
         (refine wlk ?_;intros);(try dsimp only);refine⟨(j+1,y+2),⟨by dsimp only;omega,by dsimp only;omega,L3,rfl,HL3.out⟩,by dsimp only;omega,?_,?_,rfl⟩
         ·dsimp only
          exact agi
         ·dsimp only
          rw[hN.out];(try simp only[aC,aN,aM,aK,HME.out]);exact agr
   ·refine HY.seq (HY.eng mixed dn (by kernel_rfl) ?_)
    obtain rfl:j=l.length-a:=by omega
    have hR:=(nR (wd:=wd) (most:=most) (lk:=lk) hal).symm;dsimp only
    rw[hR,show(l.length:Int)-1-((l.length-a:Nat):Int)=(a:Int)-1 by omega];generalize hrr:aU l wd most a lk=R at*;have HRR:=Lib.hid hrr;clear hR hrr;obtain⟨kl,hkl⟩:=abC (mk:=mk) hkn hkk;have HKL:=Lib.hid hkl;clear hkl;(refine wlk ?_;intros);refine HY.seq (HY.aEQ 6 mixed dn afJ awi (by simp only[List.take_succ_cons,List.take_zero]<;>exact rfl) (by simp only[List.drop_succ_cons,List.drop_zero]<;>exact rfl) (by simp only[List.map_cons,List.map_nil]<;>exact rfl) (by kernel_rfl) (by kernel_rfl) (by kernel_rfl) rfl ?_);(try dsimp only);(refine wlk ?_;intros);refine⟨aiO ((a:Int)-1) mk lk,chV l a R,kl,by(exact sr),?_,?_,HKL.out,fun L9 hu=>?_⟩
    ·refine Eq.trans (congrArg toVal (show _=PV.agg [iv ((a:Int)-1),bv mk,iv lk] by(exact sr))) rfl
    ·refine Eq.trans (congrArg toVal (show _=chP l a R by rw[acN han];(exact sr))) (vv l a R)
    have hG:uM l wd most L9:=HL2.out.upd hal hlk (by rw[←HMK.out,HRR.out];exact hu);replace hG:=Lib.hid hG;clear hu;(try dsimp only);refine HY.seq (HY.eng mixed dn (by kernel_rfl) ?_);(try dsimp only);(refine wlk ?_;intros);refine HY.eng mixed dn (by kernel_rfl) ?_;(refine wlk ?_;intros);(try dsimp only);refine⟨.inr rfl,_,_,L9,?_,vv l a R,rfl,rfl,hG.out⟩;rw[acN han];exact agr
structure BkI (l:List It) (wd most:Int) (a:Nat) (lk:Int) (br:List Int):Prop where
 le:a≤l.length
 lk0:0≤lk∧lk≤3
 len:br.length≤a
 pos:0<a→0<br.length
 ok:(aU l wd most a lk).isSome=(aU l wd most 0 1).isSome
 go:(aU l wd most 0 1).isSome=true→cK l wd most=br++bkF l wd most (l.length+1-br.length) a lk
theorem BkI.start (l:List It) (wd most:Int):BkI l wd most 0 0 []:=⟨Nat.zero_le _,by decide,Nat.le_refl _,fun h=>by omega,by rw[xk 0 1],fun _=>by show cK l wd most=bkF l wd most (l.length+1) 0 0;unfold cK;rw[bkF,bkF,xk 1 0]⟩
theorem BkI.next {l:List It} {wd most:Int} {a:Nat} {lk:Int} {br:List Int} {r:Ch} (h:BkI l wd most a lk br) (hl:aW l=true) (hm:most≤10000) (ha:a<l.length) (hr:aU l wd most a lk=some r):BkI l wd most (r.2.1+1) r.2.2 (br++[(r.2.1:Int)]):=by obtain⟨h1,h2⟩:=dx hl hm h.le hr;obtain⟨h3,h4⟩:=h2 ha;obtain⟨x,c0,h5,h6⟩:=ou ha hr;have hok:=h.ok;rw[hr]at hok;have h7:=h.len;refine⟨by omega,h4,by rw[List.length_append,List.length_singleton];omega,fun _=>by simp,by rw[h5,←hok];rfl,fun hs=>?_⟩;rw[h.go hs,show l.length+1-br.length=(l.length-br.length)+1 by omega,nU (by omega) hr];simp
theorem BkI.last {l:List It} {wd most:Int} {lk:Int} {br:List Int} (h:BkI l wd most l.length lk br):(aU l wd most 0 1).isSome=true∧cK l wd most=br:=by have h1:=h.ok;rw[rO]at h1;have h2:(aU l wd most 0 1).isSome=true:=h1.symm;refine⟨h2,?_⟩;rw[h.go h2,yS,List.append_nil]
theorem aD1:zeroOf Tryz.prog 143=some (.agg #[.slice none 0 0,.int .i64 0,.int .i64 0,.map none]):=by kernel_rfl
theorem azG:bZ Tryz.prog 143=some #[(0,1),(1,1),(2,1),(3,1)]:=by kernel_rfl
theorem azu (ps:List (Nat×PV)):dZ Tryz.prog 143 ps=(kG (plF [(0,1),(1,1),(2,1),(3,1)]) [.val (.slice none 0 0),.val (.int .i64 0),.val (.int .i64 0),.val (.map none)] ps).map .agg:=afk aD1 rfl azG ps
theorem adH {ob:bG} {l:List It} {wd most:Int} {b:Nat} (h:ob 0=some (143,4,[.agg [gy l,iv wd,iv most,.val (.map (some b))]])):reify false 0 ob 8 (.own 0 4 0 0)=some (alU l wd most b):=by
 have h1:reify false 0 ob 6 (gy l)=some (gy l):=by(exact sr)
 have h2:reify false 0 ob 7 (.agg [gy l,iv wd,iv most,.val (.map (some b))])=some (.agg [gy l,iv wd,iv most,.val (.map (some b))]):=by show([gy l,iv wd,iv most,.val (.map (some b))].mapM (reify false 0 ob 6)).map PV.agg=_;simp only[List.mapM_cons,List.mapM_nil,h1];rfl
 show(if false=true∧0<0 then none else match ob 0 with
  |some (_,sz',es)=>if 4=sz' then(es[0]?).bind fun e=>(reify false 0 ob 7 e).map (PV.ptr false · 0)else none
  |none=>none)=_
 rw[if_neg (by decide),h];dsimp only
 rw[if_pos rfl];show(reify false 0 ob 7 (.agg [gy l,iv wd,iv most,.val (.map (some b))])).map (PV.ptr false · 0)=_;rw[h2];rfl
theorem azo (m:Option Nat):bJ (.val (.map m))=some [.val (.map m)]:=rfl
attribute[push_cast]
 azu azo
def aGw:Ctx:={fn:=aT [(122,φLa)],io:=aT []}
theorem dJ:au Tryz.prog aGw:=okΓ (fC Tryz.func122 akC aj) aj
def agu:=ah (Γ:=aGw) (f:=122) (φ:=φLa) rfl
set_option maxRecDepth 100000 in
theorem an0:Sound Tryz.prog 92 φBb:=by
 refine HY.sound (k:=145) (N:=44) (rs:=[.tmp 6,.tmp 7]) Tryz.func92 rfl rfl rfl fun ps r hr=>?_;obtain⟨l,wd,most,rfl,hpre,rfl⟩:=aby hr;refine⟨by simp,?_⟩;simp only[dIs,dUs,dSs,bP,bS,bQ,bT,aP,bR,aQ,aO,aR,aL];intro B w00;show HY _ _ _ _ _ _ _ (bX [gy l,.val (.int .i64 wd),.val (.int .i64 most)]) _;refine HY.start ?_;have apa:=ayY (wd:=wd) (most:=most) hpre;have hl0:l.length≤1000:=hpre;clear hpre;have hll:((l.map gG).length:Int)=(l.length:Int):=by simp
 unfold axA;refine HY.seq (HY.eng mixed dJ (by kernel_rfl) ?_);by_cases hg:aW l=true∧0<l.length∧(0≤wd∧wd≤1000)∧(0≤most∧most≤10000)
 ·obtain⟨hB,hpos,hw,hm⟩:=hg
  have hok:kg l wd most=(aU l wd most 0 1).isSome:=by unfold kg;rw[hB,decide_eq_true hpos,aD.2 hw,aD.2 hm];simp
  rw[hok];rw[hB,decide_eq_true hpos,aD.2 hw,aD.2 hm]at apa;simp only[Bool.and_self]at apa;clear hok;have gbki_c122:=agu;(refine wlk ?_;intros);refine HY.seq (HY.eng mixed dJ (by kernel_rfl) ?_);dsimp only
  (refine wlk ?_;intros);refine HY.seq (HY.each (HO.pre (imm:=⟨[],[],[]⟩) 3 dJ (by kernel_rfl) (by simp only[List.take_succ_cons,List.take_zero]<;>exact rfl) (by simp only[List.drop_succ_cons,List.drop_zero]<;>exact rfl) (by simp only[List.map_cons,List.map_nil]<;>exact rfl) ?_));dsimp only
  (refine wlk ?_;intros);refine HO.make rfl rfl (by decide) rfl fun b hb=>?_;dsimp only[AS.put];refine HO.pre (imm:=⟨[],[],[]⟩) 3 dJ (by kernel_rfl) (by simp only[List.take_succ_cons,List.take_zero]<;>exact rfl) (by simp only[List.drop_succ_cons,List.drop_zero]<;>exact rfl) (by simp only[List.map_cons,List.map_nil]<;>exact rfl) ?_;dsimp only
  (refine wlk ?_;intros);refine HO.nil ?_;refine HY.seq (HY.eng mixed dJ (by kernel_rfl) ?_);(try dsimp only);(refine wlk ?_;intros);refine HY.seq (HY.eng mixed dJ (by kernel_rfl) ?_);(try dsimp only);(refine wlk ?_;intros);(try dsimp only);refine HY.seq (HY.block (HY.uR (α:=Nat×Int×List Int×Nat×Nat) (fun i=>[(0,gy l),(8,.own 0 4 0 0),(9,.own 1 3 0 0),(10,nP 1 (i.2.2.1.map pvN) i.2.2.2.1)])
   (fun i=>[(0,143,4,[.agg [gy l,iv wd,iv most,.val (.map (some b))]]),(1,145,3,[.agg [iv ((i.1:Int)-1),bv (mkA l i.1),iv i.2.1]])]++nO 3 1 (i.2.2.1.map pvN) i.2.2.2.1)
   (fun i=>i.2.2.2.2) (fun i σ=>BkI l wd most i.1 i.2.1 i.2.2.1∧(2≤i.2.2.2.2∧(i.2.2.1≠[]→2≤i.2.2.2.1∧i.2.2.2.1<i.2.2.2.2))∧∃L',σ=some (b,L')∧uM l wd most L') (fun i=>l.length-i.1) (0,0,[],0,2) ⟨BkI.start l wd most,⟨by decide,fun h=>absurd rfl h⟩,[],rfl,fun p hp=>by cases hp⟩ ?_ ?_ rfl ?_))
  ·dsimp only
   exact agi
  ·dsimp only
   rw[show((0:Nat):Int)-1=-1 from rfl,show mkA l 0=false from rfl];simp(disch:=(first|omega|(simp only[push_cast];first|done|omega))) only[push_cast,↓reduceIte,Rq,Rb,Ra,Rs,Rt,List.map_nil,List.append_nil, *]
  rintro⟨a,lk,br,x,y⟩ σ ⟨hI,⟨hy,hx⟩,L',rfl,hG⟩;dsimp only at hI hy hx;have HI:=Lib.hid hI;have HG:=Lib.hid hG;have hle:=hI.le;have hlk:=hI.lk0;have hbl:=hI.len;clear hI hG;have ih:=fun(h:a≤l.length)=>asO hB hpos hw hm (l.length-a) a lk rfl h hlk b L' HG.out;have IH:=Lib.hid (ih hle);clear ih;dsimp only
  refine HY.seq (HY.eng mixed dJ (by kernel_rfl) ?_);by_cases hal:a<l.length
  ·by_cases hnil:br=[]
   ·skip
    subst hnil;simp only[List.map_nil,bW,bU,List.append_nil];(refine wlk ?_;intros);refine HY.block (HY.seq (HY.each (HO.pre (imm:=⟨[],[],[]⟩) 2 dJ (by kernel_rfl) (by simp only[List.take_succ_cons,List.take_zero]<;>exact rfl) (by simp only[List.drop_succ_cons,List.drop_zero]<;>exact rfl) (by simp only[List.map_cons,List.map_nil]<;>exact rfl) ?_)));(try dsimp only);(refine wlk ?_;intros);refine HO.call (ps:=[alU l wd most b,.agg [iv ((a:Int)-1),bv (mkA l a),iv lk]]) (R:=fun p L'=>p=chP l a (aU l wd most a lk)∧uM l wd most L') rfl rfl ⟨_,Tryz.func123,rfl,rfl⟩ rfl ?_ ?_ IH.out ?_
    ·intro x e
     cases e;decide
    ·(try dsimp only)
     simp(disch:=(first|omega|(simp only[push_cast];first|done|omega))) only[push_cast,↓reduceIte,Rq,Rb,Ra,Rs,Rt,adH (l:=l) (wd:=wd) (most:=most) (b:=b), *]
    rintro p L3 ⟨rfl,hL3⟩;rw[acN (show¬a=l.length by omega)];have HL3:=Lib.hid hL3;clear hL3;cases hr:aU l wd most a lk with
    |none=>
     have hno:(aU l wd most 0 1).isSome=false:=by rw[←HI.out.ok,hr];rfl
     rw[hno,if_neg (by decide)];dsimp only[aC,aN,aM,aK,AS.put];refine HO.pre (imm:=⟨[],[],[]⟩) 2 dJ (by kernel_rfl) (by simp only[List.take_succ_cons,List.take_zero]<;>exact rfl) (by simp only[List.drop_succ_cons,List.drop_zero]<;>exact rfl) (by simp only[List.map_cons,List.map_nil]<;>exact rfl) ?_;(try dsimp only);(refine wlk ?_;intros);refine HO.nil ?_;refine HY.seq (HY.eng mixed dJ (by kernel_rfl) ?_);(try dsimp only);(refine wlk ?_;intros);refine⟨by simp,⟨_,qL (ps:=[.val (.slice none 0 0),bv false]) ⟨nil_le _ _,PV.le_refl _,trivial⟩,?_⟩,fun b2 L2 e=>by cases e;exact hb⟩;(exact sr)
    |some r=>
     have hn:=HI.out.next hB hm.2 hal hr
     replace hn:=Lib.hid hn;have hr1:=(dx hB hm.2 hle hr).1;have hr2:=((dx hB hm.2 hle hr).2 hal).1;clear hr;obtain⟨r1,r2,r3⟩:=r;dsimp only at hr1 hr2;dsimp only[aC,aN,aM,aK,AS.put];refine HO.pre (imm:=⟨[],[],[]⟩) 2 dJ (by kernel_rfl) (by simp only[List.take_succ_cons,List.take_zero]<;>exact rfl) (by simp only[List.drop_succ_cons,List.drop_zero]<;>exact rfl) (by simp only[List.map_cons,List.map_nil]<;>exact rfl) ?_;(try dsimp only);(refine wlk ?_;intros);refine HO.nil ?_;refine HY.seq (HY.eng mixed dJ (by kernel_rfl) ?_);(try dsimp only);(refine wlk ?_;intros);refine HY.eng mixed dJ (by kernel_rfl) ?_;(try dsimp only);(refine wlk ?_;intros);(try dsimp only);show∃j:Nat×Int×List Int×Nat×Nat,_;refine⟨(r2+1,r3,[(r2:Int)],y+2,y+3),⟨hn.out,⟨by dsimp only;omega,fun _=>⟨by dsimp only;omega,by dsimp only;omega⟩⟩,L3,rfl,HL3.out⟩,by dsimp only;omega,?_,?_,rfl⟩
     ·dsimp only
      rw[av (by simp)];exact agi
     ·dsimp only
      rw[ay (by simp),show mkA l (r2+1)=(gI l r2).2.2.2.2.2.2 from rfl];simp(disch:=(first|omega|(simp only[push_cast];first|done|omega))) only[push_cast,↓reduceIte,Rq,Rb,Ra,Rs,Rt,List.cons_append,List.nil_append, *]
   ·skip
    have hbp:0<(br.map pvN).length:=by rw[List.length_map];exact List.length_pos_iff.2 hnil
    obtain⟨hx2,hxy⟩:=hx hnil;rw[av hbp,ay hbp,List.length_map];simp only[List.cons_append,List.nil_append];have hx0:¬x=0:=by omega
    have hx1:¬x=1:=by omega
    have hxy2:¬x=y:=by omega
    have hyx:¬y=x:=by omega
    (refine wlk ?_;intros);refine HY.block (HY.seq (HY.each (HO.pre (imm:=⟨[],[],[]⟩) 2 dJ (by kernel_rfl) (by simp only[List.take_succ_cons,List.take_zero]<;>exact rfl) (by simp only[List.drop_succ_cons,List.drop_zero]<;>exact rfl) (by simp only[List.map_cons,List.map_nil]<;>exact rfl) ?_)));(try dsimp only);(refine wlk ?_;intros);refine HO.call (ps:=[alU l wd most b,.agg [iv ((a:Int)-1),bv (mkA l a),iv lk]]) (R:=fun p L'=>p=chP l a (aU l wd most a lk)∧uM l wd most L') rfl rfl ⟨_,Tryz.func123,rfl,rfl⟩ rfl ?_ ?_ IH.out ?_
    ·intro x e
     cases e;decide
    ·(try dsimp only)
     simp(disch:=(first|omega|(simp only[push_cast];first|done|omega))) only[push_cast,↓reduceIte,Rq,Rb,Ra,Rs,Rt,adH (l:=l) (wd:=wd) (most:=most) (b:=b), *]
    rintro p L3 ⟨rfl,hL3⟩;rw[acN (show¬a=l.length by omega)];have HL3:=Lib.hid hL3;clear hL3;cases hr:aU l wd most a lk with
    |none=>
     have hno:(aU l wd most 0 1).isSome=false:=by rw[←HI.out.ok,hr];rfl
     rw[hno,if_neg (by decide)];dsimp only[aC,aN,aM,aK,AS.put];refine HO.pre (imm:=⟨[],[],[]⟩) 2 dJ (by kernel_rfl) (by simp only[List.take_succ_cons,List.take_zero]<;>exact rfl) (by simp only[List.drop_succ_cons,List.drop_zero]<;>exact rfl) (by simp only[List.map_cons,List.map_nil]<;>exact rfl) ?_;(try dsimp only);(refine wlk ?_;intros);refine HO.nil ?_;refine HY.seq (HY.eng mixed dJ (by kernel_rfl) ?_);(try dsimp only);(refine wlk ?_;intros);refine⟨by simp,⟨_,qL (ps:=[.val (.slice none 0 0),bv false]) ⟨nil_le _ _,PV.le_refl _,trivial⟩,?_⟩,fun b2 L2 e=>by cases e;exact hb⟩;(exact sr)
    |some r=>
     have hn:=HI.out.next hB hm.2 hal hr
     replace hn:=Lib.hid hn;have hr1:=(dx hB hm.2 hle hr).1;have hr2:=((dx hB hm.2 hle hr).2 hal).1;clear hr;obtain⟨r1,r2,r3⟩:=r;dsimp only at hr1 hr2;dsimp only[aC,aN,aM,aK,AS.put];refine HO.pre (imm:=⟨[],[],[]⟩) 2 dJ (by kernel_rfl) (by simp only[List.take_succ_cons,List.take_zero]<;>exact rfl) (by simp only[List.drop_succ_cons,List.drop_zero]<;>exact rfl) (by simp only[List.map_cons,List.map_nil]<;>exact rfl) ?_;(try dsimp only);(refine wlk ?_;intros);refine HO.nil ?_;refine HY.seq (HY.eng mixed dJ (by kernel_rfl) ?_);(try dsimp only);(refine wlk ?_;intros);refine HY.eng mixed dJ (by kernel_rfl) ?_;(try dsimp only);(refine wlk ?_;intros);(try dsimp only);show∃j:Nat×Int×List Int×Nat×Nat,_;refine⟨(r2+1,r3,br++[(r2:Int)],y+2,y+3),⟨hn.out,⟨by dsimp only;omega,fun _=>⟨by dsimp only;omega,by dsimp only;omega⟩⟩,L3,rfl,HL3.out⟩,by dsimp only;omega,?_,?_,rfl⟩
     ·dsimp only
      rw[av (by simp)];exact agi
     ·dsimp only
      rw[ay (by simp),show mkA l (r2+1)=(gI l r2).2.2.2.2.2.2 from rfl];simp(disch:=(first|omega|(simp only[push_cast];first|done|omega))) only[push_cast,↓reduceIte,Rq,Rb,Ra,Rs,Rt,List.cons_append,List.nil_append, *]
  ·obtain rfl:a=l.length:=by omega
   obtain⟨hs,hbr⟩:=HI.out.last;rw[hs,if_pos rfl,hbr];have hne:br≠[]:=fun h=>by have:=HI.out.pos hpos;rw[h]at this;simp at this
   have hbp:0<(br.map pvN).length:=by rw[List.length_map];exact List.length_pos_iff.2 hne
   obtain⟨hx2,hxy⟩:=hx hne;rw[av hbp,ay hbp,List.length_map];simp only[List.cons_append,List.nil_append];have hx0:¬x=0:=by omega
   have hx1:¬x=1:=by omega
   clear hbr hs;(refine wlk ?_;intros);refine HY.seq (HY.eng mixed dJ (by kernel_rfl) ?_);(try dsimp only);(refine wlk ?_;intros);refine HY.ret ?_;refine⟨by simp,⟨_,PV.le_refl _,?_⟩,fun b2 L2 e=>by cases e;exact hb⟩;(try dsimp only);(exact sr)
 ·have hno:kg l wd most=false:=by
   cases h:kg l wd most with
   |false=>rfl
   |true=>obtain⟨h1,h2,h3,h4,-⟩:=eH.1 h;exact absurd ⟨h1,h2,h3,h4⟩ hg
  have hno2:(aW l&&(decide (0<l.length)&&(inB wd 0 1000&&inB most 0 10000)))=false:=by
   cases h:(aW l&&(decide (0<l.length)&&(inB wd 0 1000&&inB most 0 10000)))with
   |false=>rfl
   |true=>simp only[Bool.and_eq_true,decide_eq_true_eq,aD]at h;exact absurd h hg
  rw[hno,if_neg (by decide)];rw[hno2]at apa;clear hno hno2 hg;have gbki_c122:=agu;(refine wlk ?_;intros);refine HY.seq (HY.eng mixed dJ (by kernel_rfl) ?_);(try dsimp only);(refine wlk ?_;intros);refine⟨by simp,⟨_,qL (ps:=[.val (.slice none 0 0),bv false]) ⟨nil_le _ _,PV.le_refl _,trivial⟩,?_⟩,fun b2 L2 e=>by cases e⟩;(exact sr)
theorem zS {l:LS} {k:Nat} (h:k<l.length):l.take (k+1)=l.take k++[l[k]?.getD .empty]:=by rw[List.take_succ_eq_append_getElem h,List.getElem?_eq_getElem h];rfl
theorem akg (ps:LS):∀{k:Nat},0<k→0<(wiK ps k).length
 |0,h=>by omega
 |k+1,_=>by rw[wiK,List.length_append,List.length_singleton];omega
def azK:Ctx:={fn:=aT [(70,jF),(71,gT),(120,φPr),(121,φWw)],io:=aT []}
theorem ayC:au Tryz.prog azK:=okΓ (fC Tryz.func70 kY (fC Tryz.func71 dK (fC Tryz.func120 anP (fC Tryz.func121 alP aj)))) aj
def aax:=ah (Γ:=azK) (f:=70) (φ:=jF) rfl
def ab6:=ah (Γ:=azK) (f:=71) (φ:=gT) rfl
def vS:=ah (Γ:=azK) (f:=120) (φ:=φPr) rfl
def vF:=ah (Γ:=azK) (f:=121) (φ:=φWw) rfl
theorem aiP:Sound Tryz.prog 91 apz:=by
 refine gB mixed ayC Tryz.func91 rfl 81 rfl [.tmp 4,.tmp 5,.tmp 6] rfl (by kernel_rfl) fun ps r hr=>?_;obtain⟨ws,pats,rfl,hpre,rfl⟩:=gN hr;refine⟨by simp,?_⟩;simp only[dIs,dUs,dSs,bP,bS,bQ,bT,aP,bR,aQ,aO,aR,aL];have ap1:=oq hpre.1;have ap2:=iU hpre.2;have hwl0:=hpre.1.1;cases hw:bD ws with
 |false=>
  have hA:adZ ws pats=false:=by unfold adZ;rw[hw];rfl
  have hB:tK ws pats=false:=by unfold tK;rw[hw];rfl
  rw[hw]at ap1;rw[hB,hA];simp only[Bool.false_eq_true,if_false,List.map_nil];clear hpre hw hB hA;have gpit_c70:=aax;have gpit_c71:=ab6;have gpit_c120:=vS;have gpit_c121:=vF;(refine wlk ?_;intros);all_goals((with_reducible apply cO (by first|exact .inl rfl|exact .inr rfl));(exact sr))
  all_goals exact qL ⟨nil_le _ _,nil_le _ _,PV.le_refl _,trivial⟩
 |true=>
 cases hp:bA pats with
 |false=>
  have hA:adZ ws pats=false:=by unfold adZ;rw[hw,hp];rfl
  have hB:tK ws pats=false:=by unfold tK;rw[hw,hp];rfl
  rw[hw]at ap1;rw[hp]at ap2;rw[hB,hA];simp only[Bool.false_eq_true,if_false,List.map_nil];clear hpre hw hp hB hA;have gpit_c70:=aax;have gpit_c71:=ab6;have gpit_c120:=vS;have gpit_c121:=vF;(refine wlk ?_;intros);all_goals((with_reducible apply cO (by first|exact .inl rfl|exact .inr rfl));(exact sr))
  all_goals exact qL ⟨nil_le _ _,nil_le _ _,PV.le_refl _,trivial⟩
 |true=>
 by_cases hz:ws.length=0
 ·have hA:adZ ws pats=false:=by unfold adZ;rw[hw,hp,hz];rfl
  have hB:tK ws pats=false:=by unfold tK;rw[hw,hp,hz];rfl
  rw[hw]at ap1;rw[hp]at ap2;rw[hB,hA];simp only[Bool.false_eq_true,if_false,List.map_nil];clear hpre hw hp hB hA;have gpit_c70:=aax;have gpit_c71:=ab6;have gpit_c120:=vS;have gpit_c121:=vF;(refine wlk ?_;intros);all_goals((with_reducible apply cO (by first|exact .inl rfl|exact .inr rfl));(exact sr))
  all_goals exact qL ⟨nil_le _ _,nil_le _ _,PV.le_refl _,trivial⟩
 ·have hB:tK ws pats=decide ((piR ws pats).length≤60):=by unfold tK;rw[hw,hp,decide_eq_true (show 0<ws.length by omega)];rfl
  have hA:adZ ws pats=true:=by unfold adZ;rw[hw,hp,decide_eq_true (show 0<ws.length by omega)];rfl
  have hwl:=xG hw;have hap:∀k,k<ws.length→φPr [.val (.string (ws[k]?.getD .empty)),.lst false 1 (pats.map fun s=> .val (.string s))]=some (.lst true 1 ((bO (ws[k]?.getD .empty) pats).map fun s=> .val (.string s))):=fun k hk=>aex ⟨hpre.1.2 k,hpre.2⟩;have hpp:∀k:Nat,k<ws.length→0<(bO (ws[k]?.getD ByteArray.empty) pats).length:=fun k hk=>yw (nY hw hk) hp;have hpw:∀k j:Nat,j<(bO (ws[k]?.getD ByteArray.empty) pats).length→((bO (ws[k]?.getD ByteArray.empty) pats)[j]?.getD .empty).size≤1048576:=fun k j hj=>by have:=(aG (adL hj)).2.2;omega
  have hpl:∀k:Nat,(bO (ws[k]?.getD ByteArray.empty) pats).length≤21:=fun k=>kD _ _;have htp:=fun k hk h0=>aky hw hp k hk h0;have hip:=fun k hk h0=>ayF (k:=k) hw hp hk h0;have htl:=ae7 ws pats;have hil:=ad6 ws pats;rw[hw]at ap1;rw[hp]at ap2;rw[hB,hA];simp only[if_true];have hR:piR ws pats=piK ws pats ws.length++[(3,0,0,0,0,10000,false),(2,0,1,0,1,0,false),(3,0,0,0,0,-10000,false)]:=rfl;have hT:txR ws pats=txK ws pats ws.length:=rfl;rw[hR,hT];clear hpre hw hp hB hA hR hT;have gpit_c70:=aax;have gpit_c71:=ab6;have gpit_c120:=vS;have gpit_c121:=vF;(refine wlk ?_;intros);refine aB (α:=Nat×Nat×Nat×Nat) mixed (fun z=>[(1,.lst false 1 (pats.map pvS)),(7,nP 7 ((piK ws pats z.1).map gG) z.2.1),(8,nP 1 ((txK ws pats z.1).map pvS) z.2.2.1),(26,.lst false 1 (ws.map pvS)),(27,iv ws.length),(28,iv z.1)])
   (fun z=>nO 111 7 ((piK ws pats z.1).map gG) z.2.1++nO 9 1 ((txK ws pats z.1).map pvS) z.2.2.1) (fun z=>z.2.2.2)
   (fun z=>z.1≤ws.length∧(0<z.1→z.2.1<z.2.2.2∧z.2.2.1<z.2.2.2∧¬z.2.1=z.2.2.1)) (fun z=>ws.length-z.1) (by kernel_rfl) (0,0,0,0) ⟨Nat.zero_le _,by simp⟩ ?_ ?_ rfl ?_
  ·simp(disch:=(first|omega|(simp only[push_cast];first|done|omega))) only[push_cast,↓reduceIte,Rq,Rb,Ra,Rs,Rt,piK,txK,List.map_nil, *]
  ·simp(disch:=(first|omega|(simp only[push_cast];first|done|omega))) only[push_cast,↓reduceIte,Rq,Rb,Ra,Rs,Rt,piK,txK,List.map_nil,List.append_nil, *]
  rintro⟨k,x,xt,y⟩ ⟨hk,hxy⟩;dsimp only at hk hxy;by_cases h0:k<ws.length
  ·have apr:=hap k h0
   have hps:=hpw k;have hpl2:=hpl k;have hpp2:=hpp k h0;have hKI0:piK ws pats (k+1)=(if k=0 then piK ws pats k else piK ws pats k++[(2,4,3,1,0,0,false)])++wiK (bO (ws[k]?.getD .empty) pats) (bO (ws[k]?.getD .empty) pats).length:=rfl;have hKT:txK ws pats (k+1)=txK ws pats k++bO (ws[k]?.getD .empty) pats:=rfl;have hpos:=Lib.hid (And.intro (hip (k+1) (by omega) (by omega)) (htp (k+1) (by omega) (by omega)));have hlk:=hil k;have hlt:=htl k;generalize bO (ws[k]?.getD .empty) pats=ps at*;have hwk:=aaN ps;by_cases hk0:k=0
   ·rw[if_pos hk0]at hKI0
    have hI0:piK ws pats k=[]:=by rw[hk0];rfl
    have hT0:txK ws pats k=[]:=by rw[hk0];rfl
    obtain⟨A,hA⟩:∃A,A=piK ws pats k:=⟨_,rfl⟩;obtain⟨T,hT⟩:∃T,T=txK ws pats k:=⟨_,rfl⟩;have hAT:(0<A.length∧0<T.length)∨(A.length=0∧T.length=0):=.inr (by rw[hA,hT,hI0,hT0];exact⟨rfl,rfl⟩);rw[←hA]at hKI0 hlk;rw[←hT]at hKT hlt;have hAe:A=[]:=hA.trans hI0;have hTe:T=[]:=hT.trans hT0;rw[hI0,hT0];replace hAe:=Lib.hid hAe;replace hTe:=Lib.hid hTe;have hKI:=Lib.hid hKI0;replace hKT:=Lib.hid hKT;replace hI0:=Lib.hid hI0;replace hk0:k<1:=by omega
    clear hKI0 hA hT hT0 hxy hap hpp hpw hpl hil htl hip htp;(refine wlk ?_;intros);refine aB (α:=Nat×Nat×Nat×Nat) mixed (fun z=>[(1,.lst false 1 (pats.map pvS)),(7,nP 7 ((A++wiK ps z.1).map gG) z.2.1),(8,nP 1 ((T++ps.take z.1).map pvS) z.2.2.1),(26,.lst false 1 (ws.map pvS)),(27,iv ws.length),(28,iv k),(42,.lst true 1 (ps.map pvS)),(43,iv ps.length),(44,iv z.1)])
     (fun z=>nO 111 7 ((A++wiK ps z.1).map gG) z.2.1++nO 9 1 ((T++ps.take z.1).map pvS) z.2.2.1) (fun z=>z.2.2.2)
     (fun z=>z.1≤ps.length∧(0<(A++wiK ps z.1).length→z.2.1<z.2.2.2∧z.2.2.1<z.2.2.2∧¬z.2.1=z.2.2.1)) (fun z=>ps.length-z.1) (by kernel_rfl) (0,x,xt,y) ⟨Nat.zero_le _,fun h=>by rw[hAe.out]at h;simp[wiK]at h⟩ ?_ ?_ rfl ?_
    ·simp(disch:=(first|omega|(simp only[push_cast];first|done|omega))) only[push_cast,↓reduceIte,Rq,Rb,Ra,Rs,Rt,wiK,List.take_zero,List.append_nil,hAe.out,hTe.out,List.map_nil, *]
    ·simp(disch:=(first|omega|(simp only[push_cast];first|done|omega))) only[push_cast,↓reduceIte,Rq,Rb,Ra,Rs,Rt,wiK,List.take_zero,List.append_nil,hAe.out,hTe.out,List.map_nil, *]
    clear hI0;rintro⟨j,x2,xt2,y2⟩ ⟨hj,hx2⟩;dsimp only at hj hx2;have hwj:=hwk j;by_cases hjl:j<ps.length
    ·have hn:A++wiK ps (j+1)=(if j=0 then A++wiK ps j else(A++wiK ps j)++[(3,3,0,0,0,50,true)])++[(1,pV (ps[j]?.getD .empty),0,0,0,0,false)]:=by rw[wiK];split<;>simp
     have ht:T++ps.take (j+1)=(T++ps.take j)++[ps[j]?.getD .empty]:=by rw[zS hjl,List.append_assoc]
     have h3:(0<(A++wiK ps j).length∧0<(T++ps.take j).length)∨((A++wiK ps j)=[]∧(T++ps.take j)=[]∧j<1):=by
      by_cases hj0:j=0
      ·subst hj0
       rcases hAT with h|h
       ·exact .inl ⟨by rw[List.length_append];omega,by rw[List.length_append];omega⟩
       ·exact .inr ⟨by rw[List.eq_nil_of_length_eq_zero h.1];rfl,by rw[List.eq_nil_of_length_eq_zero h.2];rfl,by omega⟩
      ·refine .inl ⟨by rw[List.length_append];have:=akg ps (k:=j) (by omega);omega,by rw[List.length_append,List.length_take];omega⟩
     have hil2:(A++wiK ps j).length≤700:=by rw[List.length_append];omega
     have htl2:(T++ps.take j).length≤400:=by rw[List.length_append,List.length_take];omega
     have apw:=afb (hps j hjl);have hnx:0<(A++wiK ps (j+1)).length∧0<(T++ps.take (j+1)).length:=⟨by rw[hn,List.length_append,List.length_singleton];omega,by rw[ht,List.length_append,List.length_singleton];omega⟩;replace hnx:=Lib.hid hnx;replace hn:=Lib.hid hn;replace ht:=Lib.hid ht;generalize A++wiK ps j=its at*;generalize T++ps.take j=tx at*;clear hwj hwk hps;rcases h3 with⟨hi0,ht0⟩|⟨rfl,rfl,hj1⟩
     ·obtain⟨x3,x4,x5⟩:=hx2 hi0
      have hap:0<(its.map gG).length:=by rw[List.length_map];omega
      have hbp:0<(tx.map pvS).length:=by rw[List.length_map];omega
      have x6:¬xt2=x2:=fun q=>x5 q.symm;clear hx2;simp only[av hap,av hbp,ay hap,ay hbp,List.length_map,List.cons_append,List.nil_append];by_cases hj0:j=0
      ·have hn2:=hn.out
       rw[if_pos hj0]at hn2;replace hn2:=Lib.hid hn2;replace hj0:j<1:=by omega
       (refine wlk ?_;intros);refine⟨(j+1,y2+1,y2+3,y2+4),⟨by dsimp only;omega,fun _=>by dsimp only;omega⟩,by dsimp only;omega,?_,?_,rfl⟩
       ·have h1:=hnx.out
        have hap3:0<((A++wiK ps (j+1)).map gG).length:=by rw[List.length_map];exact h1.1
        have hbp3:0<((T++ps.take (j+1)).map pvS).length:=by rw[List.length_map];exact h1.2
        dsimp only
        rw[av hap3,av hbp3,hn2.out,ht.out];exact agr
       ·have h1:=hnx.out
        have hap3:0<((A++wiK ps (j+1)).map gG).length:=by rw[List.length_map];exact h1.1
        have hbp3:0<((T++ps.take (j+1)).map pvS).length:=by rw[List.length_map];exact h1.2
        dsimp only
        rw[ay hap3,ay hbp3,hn2.out,ht.out];simp(disch:=(first|omega|(simp only[push_cast];first|done|omega))) only[push_cast,↓reduceIte,Rq,Rb,Ra,Rs,Rt,List.cons_append,List.nil_append, *]
      ·have hn2:=hn.out
       rw[if_neg hj0]at hn2;replace hn2:=Lib.hid hn2;(refine wlk ?_;intros);refine⟨(j+1,y2+3,y2+5,y2+6),⟨by dsimp only;omega,fun _=>by dsimp only;omega⟩,by dsimp only;omega,?_,?_,rfl⟩
       ·have h1:=hnx.out
        have hap3:0<((A++wiK ps (j+1)).map gG).length:=by rw[List.length_map];exact h1.1
        have hbp3:0<((T++ps.take (j+1)).map pvS).length:=by rw[List.length_map];exact h1.2
        dsimp only
        rw[av hap3,av hbp3,hn2.out,ht.out];exact agr
       ·have h1:=hnx.out
        have hap3:0<((A++wiK ps (j+1)).map gG).length:=by rw[List.length_map];exact h1.1
        have hbp3:0<((T++ps.take (j+1)).map pvS).length:=by rw[List.length_map];exact h1.2
        dsimp only
        rw[ay hap3,ay hbp3,hn2.out,ht.out];simp(disch:=(first|omega|(simp only[push_cast];first|done|omega))) only[push_cast,↓reduceIte,Rq,Rb,Ra,Rs,Rt,List.cons_append,List.nil_append, *]
     ·have hn2:=hn.out
      rw[if_pos (show j=0 by omega)]at hn2;replace hn2:=Lib.hid hn2;clear hx2;(refine wlk ?_;intros);refine⟨(j+1,y2+1,y2+3,y2+4),⟨by dsimp only;omega,fun _=>by dsimp only;omega⟩,by dsimp only;omega,?_,?_,rfl⟩
      ·have h1:=hnx.out
       have hap3:0<((A++wiK ps (j+1)).map gG).length:=by rw[List.length_map];exact h1.1
       have hbp3:0<((T++ps.take (j+1)).map pvS).length:=by rw[List.length_map];exact h1.2
       dsimp only
       rw[av hap3,av hbp3,hn2.out,ht.out];exact agr
      ·have h1:=hnx.out
       have hap3:0<((A++wiK ps (j+1)).map gG).length:=by rw[List.length_map];exact h1.1
       have hbp3:0<((T++ps.take (j+1)).map pvS).length:=by rw[List.length_map];exact h1.2
       dsimp only
       rw[ay hap3,ay hbp3,hn2.out,ht.out];simp(disch:=(first|omega|(simp only[push_cast];first|done|omega))) only[push_cast,↓reduceIte,Rq,Rb,Ra,Rs,Rt,List.cons_append,List.nil_append, *]
    ·obtain rfl:j=ps.length:=by omega
     rw[List.take_length]at*;rw[←hKI.out,←hKT.out]at*;obtain⟨hi2,ht2⟩:=hpos.out;obtain⟨x3,x4,x5⟩:=hx2 hi2;have x6:¬xt2=x2:=fun q=>x5 q.symm;have hap:0<((piK ws pats (k+1)).map gG).length:=by rw[List.length_map];omega
     have hbp:0<((txK ws pats (k+1)).map pvS).length:=by rw[List.length_map];omega
     clear hx2 hwk hps;simp only[av hap,av hbp,ay hap,ay hbp,List.length_map,List.cons_append,List.nil_append];(refine wlk ?_;intros);refine⟨(k+1,x2,xt2,y2),⟨by dsimp only;omega,fun _=>⟨x3,x4,x5⟩⟩,by dsimp only;omega,?_,?_,rfl⟩
     ·simp(disch:=(first|omega|(simp only[push_cast];first|done|omega))) only[push_cast,↓reduceIte,Rq,Rb,Ra,Rs,Rt,av hap,av hbp, *]
     ·simp(disch:=(first|omega|(simp only[push_cast];first|done|omega))) only[push_cast,↓reduceIte,Rq,Rb,Ra,Rs,Rt,ay hap,ay hbp,List.cons_append,List.nil_append, *]
   ·rw[if_neg hk0]at hKI0
    have hi0:=hip k hk (by omega);have ht0:=htp k hk (by omega);obtain⟨x3,x4,x5⟩:=hxy (by omega);have x6:¬xt=x:=fun q=>x5 q.symm;obtain⟨A,hA⟩:∃A,A=piK ws pats k++[(2,4,3,1,0,0,false)]:=⟨_,rfl⟩;rw[←hA]at hKI0;have hAl:A.length=(piK ws pats k).length+1:=by rw[hA];simp
    generalize piK ws pats k=P at*;generalize txK ws pats k=T at*;have hAT:(0<A.length∧0<T.length)∨(A.length=0∧T.length=0):=.inl ⟨by omega,ht0⟩;have hap1:0<(P.map gG).length:=by rw[List.length_map];omega
    have hbp1:0<(T.map pvS).length:=by rw[List.length_map];omega
    have hap2:0<((A++wiK ps 0).map gG).length:=by rw[List.length_map,List.length_append];omega
    have hbp2:0<((T++ps.take 0).map pvS).length:=by rw[List.length_map,List.length_append];omega
    simp only[av hap1,av hbp1,ay hap1,ay hbp1,List.length_map,List.cons_append,List.nil_append];have hlkP:P.length≤600:=by omega
    replace hlk:A.length≤43*k+1:=by omega
    have hA1:A++wiK ps 0=P++[(2,4,3,1,0,0,false)]:=by rw[hA];exact List.append_nil _
    have hT1:T++ps.take 0=T:=List.append_nil _;have hI0:=Lib.hid (And.intro hA1 hT1);have hKI:=Lib.hid hKI0;replace hKT:=Lib.hid hKT;replace hA:=Lib.hid hA;replace hAl:=Lib.hid hAl;clear hKI0 hxy hap hpp hpw hpl hil htl hip htp hA1 hT1;replace hk0:0<k:=by omega
    (refine wlk ?_;intros);refine aB (α:=Nat×Nat×Nat×Nat) mixed (fun z=>[(1,.lst false 1 (pats.map pvS)),(7,nP 7 ((A++wiK ps z.1).map gG) z.2.1),(8,nP 1 ((T++ps.take z.1).map pvS) z.2.2.1),(26,.lst false 1 (ws.map pvS)),(27,iv ws.length),(28,iv k),(42,.lst true 1 (ps.map pvS)),(43,iv ps.length),(44,iv z.1)])
     (fun z=>nO 111 7 ((A++wiK ps z.1).map gG) z.2.1++nO 9 1 ((T++ps.take z.1).map pvS) z.2.2.1) (fun z=>z.2.2.2)
     (fun z=>z.1≤ps.length∧(0<(A++wiK ps z.1).length→z.2.1<z.2.2.2∧z.2.2.1<z.2.2.2∧¬z.2.1=z.2.2.1)) (fun z=>ps.length-z.1) (by kernel_rfl) (0,y+1,xt,y+2) ⟨Nat.zero_le _,fun _=>by dsimp only;omega⟩ ?_ ?_ rfl ?_
    ·dsimp only;rw[av hap2,av hbp2,hI0.out.1,hI0.out.2];exact agr
    ·dsimp only;rw[ay hap2,ay hbp2,hI0.out.1,hI0.out.2];simp(disch:=(first|omega|(simp only[push_cast];first|done|omega))) only[push_cast,↓reduceIte,Rq,Rb,Ra,Rs,Rt,List.cons_append,List.nil_append, *]
    clear hI0;rintro⟨j,x2,xt2,y2⟩ ⟨hj,hx2⟩;dsimp only at hj hx2;have hwj:=hwk j;by_cases hjl:j<ps.length
    ·have hn:A++wiK ps (j+1)=(if j=0 then A++wiK ps j else(A++wiK ps j)++[(3,3,0,0,0,50,true)])++[(1,pV (ps[j]?.getD .empty),0,0,0,0,false)]:=by rw[wiK];split<;>simp
     have ht:T++ps.take (j+1)=(T++ps.take j)++[ps[j]?.getD .empty]:=by rw[zS hjl,List.append_assoc]
     have h3:(0<(A++wiK ps j).length∧0<(T++ps.take j).length)∨((A++wiK ps j)=[]∧(T++ps.take j)=[]∧j<1):=by
      by_cases hj0:j=0
      ·subst hj0
       rcases hAT with h|h
       ·exact .inl ⟨by rw[List.length_append];omega,by rw[List.length_append];omega⟩
       ·exact .inr ⟨by rw[List.eq_nil_of_length_eq_zero h.1];rfl,by rw[List.eq_nil_of_length_eq_zero h.2];rfl,by omega⟩
      ·refine .inl ⟨by rw[List.length_append];have:=akg ps (k:=j) (by omega);omega,by rw[List.length_append,List.length_take];omega⟩
     have hil2:(A++wiK ps j).length≤700:=by rw[List.length_append];omega
     have htl2:(T++ps.take j).length≤400:=by rw[List.length_append,List.length_take];omega
     have apw:=afb (hps j hjl);have hnx:0<(A++wiK ps (j+1)).length∧0<(T++ps.take (j+1)).length:=⟨by rw[hn,List.length_append,List.length_singleton];omega,by rw[ht,List.length_append,List.length_singleton];omega⟩;replace hnx:=Lib.hid hnx;replace hn:=Lib.hid hn;replace ht:=Lib.hid ht;generalize A++wiK ps j=its at*;generalize T++ps.take j=tx at*;clear hwj hwk hps;rcases h3 with⟨hi0,ht0⟩|⟨rfl,rfl,hj1⟩
     ·obtain⟨x3,x4,x5⟩:=hx2 hi0
      have hap:0<(its.map gG).length:=by rw[List.length_map];omega
      have hbp:0<(tx.map pvS).length:=by rw[List.length_map];omega
      have x6:¬xt2=x2:=fun q=>x5 q.symm;clear hx2;simp only[av hap,av hbp,ay hap,ay hbp,List.length_map,List.cons_append,List.nil_append];by_cases hj0:j=0
      ·have hn2:=hn.out
       rw[if_pos hj0]at hn2;replace hn2:=Lib.hid hn2;replace hj0:j<1:=by omega
       (refine wlk ?_;intros);refine⟨(j+1,y2+1,y2+3,y2+4),⟨by dsimp only;omega,fun _=>by dsimp only;omega⟩,by dsimp only;omega,?_,?_,rfl⟩
       ·have h1:=hnx.out
        have hap3:0<((A++wiK ps (j+1)).map gG).length:=by rw[List.length_map];exact h1.1
        have hbp3:0<((T++ps.take (j+1)).map pvS).length:=by rw[List.length_map];exact h1.2
        dsimp only
        rw[av hap3,av hbp3,hn2.out,ht.out];exact agr
       ·have h1:=hnx.out
        have hap3:0<((A++wiK ps (j+1)).map gG).length:=by rw[List.length_map];exact h1.1
        have hbp3:0<((T++ps.take (j+1)).map pvS).length:=by rw[List.length_map];exact h1.2
        dsimp only
        rw[ay hap3,ay hbp3,hn2.out,ht.out];simp(disch:=(first|omega|(simp only[push_cast];first|done|omega))) only[push_cast,↓reduceIte,Rq,Rb,Ra,Rs,Rt,List.cons_append,List.nil_append, *]
      ·have hn2:=hn.out
       rw[if_neg hj0]at hn2;replace hn2:=Lib.hid hn2;(refine wlk ?_;intros);refine⟨(j+1,y2+3,y2+5,y2+6),⟨by dsimp only;omega,fun _=>by dsimp only;omega⟩,by dsimp only;omega,?_,?_,rfl⟩
       ·have h1:=hnx.out
        have hap3:0<((A++wiK ps (j+1)).map gG).length:=by rw[List.length_map];exact h1.1
        have hbp3:0<((T++ps.take (j+1)).map pvS).length:=by rw[List.length_map];exact h1.2
        dsimp only
        rw[av hap3,av hbp3,hn2.out,ht.out];exact agr
       ·have h1:=hnx.out
        have hap3:0<((A++wiK ps (j+1)).map gG).length:=by rw[List.length_map];exact h1.1
        have hbp3:0<((T++ps.take (j+1)).map pvS).length:=by rw[List.length_map];exact h1.2
        dsimp only
        rw[ay hap3,ay hbp3,hn2.out,ht.out];simp(disch:=(first|omega|(simp only[push_cast];first|done|omega))) only[push_cast,↓reduceIte,Rq,Rb,Ra,Rs,Rt,List.cons_append,List.nil_append, *]
     ·have hn2:=hn.out
      rw[if_pos (show j=0 by omega)]at hn2;replace hn2:=Lib.hid hn2;clear hx2;(refine wlk ?_;intros);refine⟨(j+1,y2+1,y2+3,y2+4),⟨by dsimp only;omega,fun _=>by dsimp only;omega⟩,by dsimp only;omega,?_,?_,rfl⟩
      ·have h1:=hnx.out
       have hap3:0<((A++wiK ps (j+1)).map gG).length:=by rw[List.length_map];exact h1.1
       have hbp3:0<((T++ps.take (j+1)).map pvS).length:=by rw[List.length_map];exact h1.2
       dsimp only
       rw[av hap3,av hbp3,hn2.out,ht.out];exact agr
      ·have h1:=hnx.out
       have hap3:0<((A++wiK ps (j+1)).map gG).length:=by rw[List.length_map];exact h1.1
       have hbp3:0<((T++ps.take (j+1)).map pvS).length:=by rw[List.length_map];exact h1.2
       dsimp only
       rw[ay hap3,ay hbp3,hn2.out,ht.out];simp(disch:=(first|omega|(simp only[push_cast];first|done|omega))) only[push_cast,↓reduceIte,Rq,Rb,Ra,Rs,Rt,List.cons_append,List.nil_append, *]
    ·obtain rfl:j=ps.length:=by omega
     rw[List.take_length]at*;rw[←hKI.out,←hKT.out]at*;obtain⟨hi2,ht2⟩:=hpos.out;obtain⟨x3,x4,x5⟩:=hx2 hi2;have x6:¬xt2=x2:=fun q=>x5 q.symm;have hap:0<((piK ws pats (k+1)).map gG).length:=by rw[List.length_map];omega
     have hbp:0<((txK ws pats (k+1)).map pvS).length:=by rw[List.length_map];omega
     clear hx2 hwk hps;simp only[av hap,av hbp,ay hap,ay hbp,List.length_map,List.cons_append,List.nil_append];(refine wlk ?_;intros);refine⟨(k+1,x2,xt2,y2),⟨by dsimp only;omega,fun _=>⟨x3,x4,x5⟩⟩,by dsimp only;omega,?_,?_,rfl⟩
     ·simp(disch:=(first|omega|(simp only[push_cast];first|done|omega))) only[push_cast,↓reduceIte,Rq,Rb,Ra,Rs,Rt,av hap,av hbp, *]
     ·simp(disch:=(first|omega|(simp only[push_cast];first|done|omega))) only[push_cast,↓reduceIte,Rq,Rb,Ra,Rs,Rt,ay hap,ay hbp,List.cons_append,List.nil_append, *]
  ·obtain rfl:k=ws.length:=by omega
   have hi0:=hip _ (Nat.le_refl _) (by omega);have ht0:=htp _ (Nat.le_refl _) (by omega);obtain⟨x3,x4,x5⟩:=hxy (by omega);have x6:¬xt=x:=fun q=>x5 q.symm;have hlk:=hil ws.length;have hlt:=htl ws.length;generalize piK ws pats ws.length=P at*;generalize txK ws pats ws.length=T at*;have hap1:0<(P.map gG).length:=by rw[List.length_map];omega
   have hbp1:0<(T.map pvS).length:=by rw[List.length_map];omega
   simp only[av hap1,av hbp1,ay hap1,ay hbp1,List.length_map,List.cons_append,List.nil_append];clear hap hpp hpw hpl hil htl hip htp hxy;by_cases h60:P.length+3≤60
   ·rw[decide_eq_true (by simpa using h60)]
    (refine wlk ?_;intros);all_goals((with_reducible apply cO (by first|exact .inl rfl|exact .inr rfl));(exact sr))
    all_goals(rw[show decide ((P.length:Int)+1+1+1≤60)=true from decide_eq_true (by omega)];exact PV.le_refl _)
   ·rw[decide_eq_false (by simpa using h60)]
    (refine wlk ?_;intros);all_goals((with_reducible apply cO (by first|exact .inl rfl|exact .inr rfl));(exact sr))
    all_goals(rw[show decide ((P.length:Int)+1+1+1≤60)=false from decide_eq_false (by omega)];exact PV.le_refl _)
end
end Go.Proofs.YtmmafcjjlbgnkaaGreatDoor
