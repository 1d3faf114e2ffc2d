/- What the proof rests on, part 14: contracts of functions. No condition beyond what each states. -/
import Derived.Test.YtmmafcjjlbgnkaaGreatZBpE13
namespace Go.Proofs.YtmmafcjjlbgnkaaGreat
open Go.RowKit
set_option linter.all false
set_option maxHeartbeats 32000000
noncomputable section
structure BkI (l:List It) (wd most:Int) (a:Nat) (lk:Int) (br:List Int):Prop where
 le:a≤l.length
 lk0:0≤lk∧lk≤3
 len:br.length≤a
 pos:0<a→0<br.length
 ok:(aP l wd most a lk).isSome=(aP l wd most 0 1).isSome
 go:(aP l wd most 0 1).isSome=true→dD l wd most=br++bkF l wd most (l.length+1-br.length) a lk
theorem BkI.start (l:List It) (wd most:Int):BkI l wd most 0 0 []:=⟨Nat.zero_le _,by decide,Nat.le_refl _,fun h=>by omega,by rw[qW 0 1],fun _=>by show dD l wd most=bkF l wd most (l.length+1) 0 0;unfold dD;rw[bkF,bkF,qW 1 0]⟩
theorem BkI.next {l:List It} {wd most:Int} {a:Nat} {lk:Int} {br:List Int} {r:Ch} (h:BkI l wd most a lk br) (hl:aS l=true) (hm:most≤10000) (ha:a<l.length) (hr:aP l wd most a lk=some r):BkI l wd most (r.2.1+1) r.2.2 (br++[(r.2.1:Int)]):=by obtain⟨h1,h2⟩:=dh hl hm h.le hr;obtain⟨h3,h4⟩:=h2 ha;obtain⟨x,c0,h5,h6⟩:=oU ha hr;have hok:=h.ok;rw[hr]at hok;have h7:=h.len;refine⟨by omega,h4,by rw[List.length_append,List.length_singleton];omega,fun _=>by simp,by rw[h5,←hok];rfl,fun hs=>?_⟩;rw[h.go hs,show l.length+1-br.length=(l.length-br.length)+1 by omega,nV (by omega) hr];simp
theorem BkI.last {l:List It} {wd most:Int} {lk:Int} {br:List Int} (h:BkI l wd most l.length lk br):(aP l wd most 0 1).isSome=true∧dD l wd most=br:=by have h1:=h.ok;rw[og]at h1;have h2:(aP l wd most 0 1).isSome=true:=h1.symm;refine⟨h2,?_⟩;rw[h.go h2,wH,List.append_nil]
theorem awW:zeroOf Tryz.prog 94=some (.agg #[.slice none 0 0,.int .i64 0,.int .i64 0,.map none]):=by kernel_rfl
theorem awL:cO Tryz.prog 94=some #[(0,1),(1,1),(2,1),(3,1)]:=by kernel_rfl
theorem axA (ps:List (Nat×PV)):fB Tryz.prog 94 ps=(kZ (plF [(0,1),(1,1),(2,1),(3,1)]) [.val (.slice none 0 0),.val (.int .i64 0),.val (.int .i64 0),.val (.map none)] ps).map .agg:=aey awW rfl awL ps
theorem zI {ob:bn} {l:List It} {wd most:Int} {b:Nat} (h:ob 0=some (94,4,[.agg [eU l,iv wd,iv most,.val (.map (some b))]])):reify false 0 ob 8 (.own 0 4 0 0)=some (agU l wd most b):=by
 have h1:reify false 0 ob 6 (eU l)=some (eU l):=by(simp(disch:=(first|omega|(simp only[push_cast];first|done|omega))) only[push_cast,↓reduceIte,Nat.reduceEqDiff,Nat.reduceBEq,Nat.reduceAdd,Nat.reduceSub,Int.reduceToNat, *]<;>with_reducible exact rfl)
 have h2:reify false 0 ob 7 (.agg [eU l,iv wd,iv most,.val (.map (some b))])=some (.agg [eU l,iv wd,iv most,.val (.map (some b))]):=by show([eU l,iv wd,iv most,.val (.map (some b))].mapM (reify false 0 ob 6)).map PV.agg=_;simp only[List.mapM_cons,List.mapM_nil,h1];rfl
 show(if false=true∧0<0 then none else match ob 0 with
  |some (_,sz',es)=>if 4=sz' then(es[0]?).bind fun e=>(reify false 0 ob 7 e).map (PV.ptr false · 0)else none
  |none=>none)=_
 rw[if_neg (by decide),h];dsimp only
 rw[if_pos rfl];show(reify false 0 ob 7 (.agg [eU l,iv wd,iv most,.val (.map (some b))])).map (PV.ptr false · 0)=_;rw[h2];rfl
theorem at1 (m:Option Nat):bA (.val (.map m))=some [.val (.map m)]:=rfl
attribute[push_cast]
 axA at1
def axM:Ctx:={fn:=aT [(70,φLa)],io:=aT []}
theorem dn:au Tryz.prog axM:=okΓ (fC Tryz.func70 ahB aj) aj
def agj:=ah (Γ:=axM) (f:=70) (φ:=φLa) rfl
set_option maxRecDepth 100000 in
theorem aiz:Sound Tryz.prog 53 φBb:=by
 refine HY.sound (k:=96) (N:=44) (rs:=[.tmp 6,.tmp 7]) Tryz.func53 rfl rfl rfl fun ps r hr=>?_;obtain⟨l,wd,most,rfl,hpre,rfl⟩:=wI hr;refine⟨by simp,?_⟩;simp only[dIs,dUs,dSs,bR,bV,bT,bU,aI,bW,aL,aO,aH,aJ];intro B w00;show HY _ _ _ _ _ _ _ (bM [eU l,.val (.int .i64 wd),.val (.int .i64 most)]) _;refine HY.start ?_;have apa:=apW (wd:=wd) (most:=most) hpre;have hl0:l.length≤1000:=hpre;clear hpre;have hll:((l.map fE).length:Int)=(l.length:Int):=by simp
 unfold aoP;refine HY.seq (HY.eng mixed dn (by kernel_rfl) ?_);by_cases hg:aS l=true∧0<l.length∧(0≤wd∧wd≤1000)∧(0≤most∧most≤10000)
 ·obtain⟨hB,hpos,hw,hm⟩:=hg
  have hok:jo l wd most=(aP l wd most 0 1).isSome:=by unfold jo;rw[hB,decide_eq_true hpos,ay.2 hw,ay.2 hm];simp
  rw[hok];rw[hB,decide_eq_true hpos,ay.2 hw,ay.2 hm]at apa;simp only[Bool.and_self]at apa;clear hok;have gbki_c70:=agj;(refine wlk ?_;intros);refine HY.seq (HY.eng mixed dn (by kernel_rfl) ?_);dsimp only
  (refine wlk ?_;intros);refine HY.seq (HY.each (HO.pre (imm:=⟨[],[],[]⟩) 3 dn (by kernel_rfl) (by simp only[List.take_succ_cons,List.take_zero]<;>exact rfl) (by simp only[List.drop_succ_cons,List.drop_zero]<;>exact rfl) (by simp only[List.map_cons,List.map_nil]<;>exact rfl) ?_));dsimp only
  (refine wlk ?_;intros);refine HO.make rfl rfl (by decide) rfl fun b hb=>?_;dsimp only[AS.put];refine HO.pre (imm:=⟨[],[],[]⟩) 3 dn (by kernel_rfl) (by simp only[List.take_succ_cons,List.take_zero]<;>exact rfl) (by simp only[List.drop_succ_cons,List.drop_zero]<;>exact rfl) (by simp only[List.map_cons,List.map_nil]<;>exact rfl) ?_;dsimp only
  (refine wlk ?_;intros);refine HO.nil ?_;refine HY.seq (HY.eng mixed dn (by kernel_rfl) ?_);(try dsimp only);(refine wlk ?_;intros);refine HY.seq (HY.eng mixed dn (by kernel_rfl) ?_);(try dsimp only);(refine wlk ?_;intros);(try dsimp only);refine HY.seq (HY.block (HY.xW (α:=Nat×Int×List Int×Nat×Nat) (fun i=>[(0,eU l),(8,.own 0 4 0 0),(9,.own 1 3 0 0),(10,nP 1 (i.2.2.1.map pvN) i.2.2.2.1)])
   (fun i=>[(0,94,4,[.agg [eU l,iv wd,iv most,.val (.map (some b))]]),(1,96,3,[.agg [iv ((i.1:Int)-1),bv (mkA l i.1),iv i.2.1]])]++nO 3 1 (i.2.2.1.map pvN) i.2.2.2.1)
   (fun i=>i.2.2.2.2) (fun i σ=>BkI l wd most i.1 i.2.1 i.2.2.1∧(2≤i.2.2.2.2∧(i.2.2.1≠[]→2≤i.2.2.2.1∧i.2.2.2.1<i.2.2.2.2))∧∃L',σ=some (b,L')∧qo l wd most L') (fun i=>l.length-i.1) (0,0,[],0,2) ⟨BkI.start l wd most,⟨by decide,fun h=>absurd rfl h⟩,[],rfl,fun p hp=>by cases hp⟩ ?_ ?_ rfl ?_))
  ·dsimp only
   exact agi
  ·dsimp only
   rw[show((0:Nat):Int)-1=-1 from rfl,show mkA l 0=false from rfl];simp(disch:=(first|omega|(simp only[push_cast];first|done|omega))) only[push_cast,↓reduceIte,Nat.reduceEqDiff,Nat.reduceBEq,Nat.reduceAdd,Nat.reduceSub,Int.reduceToNat,List.map_nil,List.append_nil, *]
  rintro⟨a,lk,br,x,y⟩ σ ⟨hI,⟨hy,hx⟩,L',rfl,hG⟩;dsimp only at hI hy hx;have HI:=Lib.hid hI;have HG:=Lib.hid hG;have hle:=hI.le;have hlk:=hI.lk0;have hbl:=hI.len;clear hI hG;have ih:=fun(h:a≤l.length)=>akb hB hpos hw hm (l.length-a) a lk rfl h hlk b L' HG.out;have IH:=Lib.hid (ih hle);clear ih;dsimp only
  refine HY.seq (HY.eng mixed dn (by kernel_rfl) ?_);by_cases hal:a<l.length
  ·by_cases hnil:br=[]
   ·skip
    subst hnil;simp only[List.map_nil,eG,dM,List.append_nil];(refine wlk ?_;intros);refine HY.block (HY.seq (HY.each (HO.pre (imm:=⟨[],[],[]⟩) 2 dn (by kernel_rfl) (by simp only[List.take_succ_cons,List.take_zero]<;>exact rfl) (by simp only[List.drop_succ_cons,List.drop_zero]<;>exact rfl) (by simp only[List.map_cons,List.map_nil]<;>exact rfl) ?_)));(try dsimp only);(refine wlk ?_;intros);refine HO.call (ps:=[agU l wd most b,.agg [iv ((a:Int)-1),bv (mkA l a),iv lk]]) (R:=fun p L'=>p=chP l a (aP l wd most a lk)∧qo l wd most L') rfl rfl ⟨_,Tryz.func71,rfl,rfl⟩ rfl ?_ ?_ IH.out ?_
    ·intro x e
     cases e;decide
    ·(try dsimp only)
     simp(disch:=(first|omega|(simp only[push_cast];first|done|omega))) only[push_cast,↓reduceIte,Nat.reduceEqDiff,Nat.reduceBEq,Nat.reduceAdd,Nat.reduceSub,Int.reduceToNat,zI (l:=l) (wd:=wd) (most:=most) (b:=b), *]
    rintro p L3 ⟨rfl,hL3⟩;rw[zY (show¬a=l.length by omega)];have HL3:=Lib.hid hL3;clear hL3;cases hr:aP l wd most a lk with
    |none=>
     have hno:(aP l wd most 0 1).isSome=false:=by rw[←HI.out.ok,hr];rfl
     rw[hno,if_neg (by decide)];dsimp only[aC,aN,aM,aK,AS.put];refine HO.pre (imm:=⟨[],[],[]⟩) 2 dn (by kernel_rfl) (by simp only[List.take_succ_cons,List.take_zero]<;>exact rfl) (by simp only[List.drop_succ_cons,List.drop_zero]<;>exact rfl) (by simp only[List.map_cons,List.map_nil]<;>exact rfl) ?_;(try dsimp only);(refine wlk ?_;intros);refine HO.nil ?_;refine HY.seq (HY.eng mixed dn (by kernel_rfl) ?_);(try dsimp only);(refine wlk ?_;intros);refine⟨by simp,⟨_,oD (ps:=[.val (.slice none 0 0),bv false]) ⟨nil_le _ _,PV.le_refl _,trivial⟩,?_⟩,fun b2 L2 e=>by cases e;exact hb⟩;(simp(disch:=(first|omega|(simp only[push_cast];first|done|omega))) only[push_cast,↓reduceIte,Nat.reduceEqDiff,Nat.reduceBEq,Nat.reduceAdd,Nat.reduceSub,Int.reduceToNat, *]<;>with_reducible exact rfl)
    |some r=>
     have hn:=HI.out.next hB hm.2 hal hr
     replace hn:=Lib.hid hn;have hr1:=(dh hB hm.2 hle hr).1;have hr2:=((dh hB hm.2 hle hr).2 hal).1;clear hr;obtain⟨r1,r2,r3⟩:=r;dsimp only at hr1 hr2;dsimp only[aC,aN,aM,aK,AS.put];refine HO.pre (imm:=⟨[],[],[]⟩) 2 dn (by kernel_rfl) (by simp only[List.take_succ_cons,List.take_zero]<;>exact rfl) (by simp only[List.drop_succ_cons,List.drop_zero]<;>exact rfl) (by simp only[List.map_cons,List.map_nil]<;>exact rfl) ?_;(try dsimp only);(refine wlk ?_;intros);refine HO.nil ?_;refine HY.seq (HY.eng mixed dn (by kernel_rfl) ?_);(try dsimp only);(refine wlk ?_;intros);refine HY.eng mixed dn (by kernel_rfl) ?_;(try dsimp only);(refine wlk ?_;intros);(try dsimp only);show∃j:Nat×Int×List Int×Nat×Nat,_;refine⟨(r2+1,r3,[(r2:Int)],y+2,y+3),⟨hn.out,⟨by dsimp only;omega,fun _=>⟨by dsimp only;omega,by dsimp only;omega⟩⟩,L3,rfl,HL3.out⟩,by dsimp only;omega,?_,?_,rfl⟩
     ·dsimp only
      rw[aA (by simp)];exact agi
     ·dsimp only
      rw[aD (by simp),show mkA l (r2+1)=(gI l r2).2.2.2.2.2.2 from rfl];simp(disch:=(first|omega|(simp only[push_cast];first|done|omega))) only[push_cast,↓reduceIte,Nat.reduceEqDiff,Nat.reduceBEq,Nat.reduceAdd,Nat.reduceSub,Int.reduceToNat,List.cons_append,List.nil_append, *]
   ·skip
    have hbp:0<(br.map pvN).length:=by rw[List.length_map];exact List.length_pos_iff.2 hnil
    obtain⟨hx2,hxy⟩:=hx hnil;rw[aA hbp,aD hbp,List.length_map];simp only[List.cons_append,List.nil_append];have hx0:¬x=0:=by omega
    have hx1:¬x=1:=by omega
    have hxy2:¬x=y:=by omega
    have hyx:¬y=x:=by omega
    (refine wlk ?_;intros);refine HY.block (HY.seq (HY.each (HO.pre (imm:=⟨[],[],[]⟩) 2 dn (by kernel_rfl) (by simp only[List.take_succ_cons,List.take_zero]<;>exact rfl) (by simp only[List.drop_succ_cons,List.drop_zero]<;>exact rfl) (by simp only[List.map_cons,List.map_nil]<;>exact rfl) ?_)));(try dsimp only);(refine wlk ?_;intros);refine HO.call (ps:=[agU l wd most b,.agg [iv ((a:Int)-1),bv (mkA l a),iv lk]]) (R:=fun p L'=>p=chP l a (aP l wd most a lk)∧qo l wd most L') rfl rfl ⟨_,Tryz.func71,rfl,rfl⟩ rfl ?_ ?_ IH.out ?_
    ·intro x e
     cases e;decide
    ·(try dsimp only)
     simp(disch:=(first|omega|(simp only[push_cast];first|done|omega))) only[push_cast,↓reduceIte,Nat.reduceEqDiff,Nat.reduceBEq,Nat.reduceAdd,Nat.reduceSub,Int.reduceToNat,zI (l:=l) (wd:=wd) (most:=most) (b:=b), *]
    rintro p L3 ⟨rfl,hL3⟩;rw[zY (show¬a=l.length by omega)];have HL3:=Lib.hid hL3;clear hL3;cases hr:aP l wd most a lk with
    |none=>
     have hno:(aP l wd most 0 1).isSome=false:=by rw[←HI.out.ok,hr];rfl
     rw[hno,if_neg (by decide)];dsimp only[aC,aN,aM,aK,AS.put];refine HO.pre (imm:=⟨[],[],[]⟩) 2 dn (by kernel_rfl) (by simp only[List.take_succ_cons,List.take_zero]<;>exact rfl) (by simp only[List.drop_succ_cons,List.drop_zero]<;>exact rfl) (by simp only[List.map_cons,List.map_nil]<;>exact rfl) ?_;(try dsimp only);(refine wlk ?_;intros);refine HO.nil ?_;refine HY.seq (HY.eng mixed dn (by kernel_rfl) ?_);(try dsimp only);(refine wlk ?_;intros);refine⟨by simp,⟨_,oD (ps:=[.val (.slice none 0 0),bv false]) ⟨nil_le _ _,PV.le_refl _,trivial⟩,?_⟩,fun b2 L2 e=>by cases e;exact hb⟩;(simp(disch:=(first|omega|(simp only[push_cast];first|done|omega))) only[push_cast,↓reduceIte,Nat.reduceEqDiff,Nat.reduceBEq,Nat.reduceAdd,Nat.reduceSub,Int.reduceToNat, *]<;>with_reducible exact rfl)
    |some r=>
     have hn:=HI.out.next hB hm.2 hal hr
     replace hn:=Lib.hid hn;have hr1:=(dh hB hm.2 hle hr).1;have hr2:=((dh hB hm.2 hle hr).2 hal).1;clear hr;obtain⟨r1,r2,r3⟩:=r;dsimp only at hr1 hr2;dsimp only[aC,aN,aM,aK,AS.put];refine HO.pre (imm:=⟨[],[],[]⟩) 2 dn (by kernel_rfl) (by simp only[List.take_succ_cons,List.take_zero]<;>exact rfl) (by simp only[List.drop_succ_cons,List.drop_zero]<;>exact rfl) (by simp only[List.map_cons,List.map_nil]<;>exact rfl) ?_;(try dsimp only);(refine wlk ?_;intros);refine HO.nil ?_;refine HY.seq (HY.eng mixed dn (by kernel_rfl) ?_);(try dsimp only);(refine wlk ?_;intros);refine HY.eng mixed dn (by kernel_rfl) ?_;(try dsimp only);(refine wlk ?_;intros);(try dsimp only);show∃j:Nat×Int×List Int×Nat×Nat,_;refine⟨(r2+1,r3,br++[(r2:Int)],y+2,y+3),⟨hn.out,⟨by dsimp only;omega,fun _=>⟨by dsimp only;omega,by dsimp only;omega⟩⟩,L3,rfl,HL3.out⟩,by dsimp only;omega,?_,?_,rfl⟩
     ·dsimp only
      rw[aA (by simp)];exact agi
     ·dsimp only
      rw[aD (by simp),show mkA l (r2+1)=(gI l r2).2.2.2.2.2.2 from rfl];simp(disch:=(first|omega|(simp only[push_cast];first|done|omega))) only[push_cast,↓reduceIte,Nat.reduceEqDiff,Nat.reduceBEq,Nat.reduceAdd,Nat.reduceSub,Int.reduceToNat,List.cons_append,List.nil_append, *]
  ·obtain rfl:a=l.length:=by omega
   obtain⟨hs,hbr⟩:=HI.out.last;rw[hs,if_pos rfl,hbr];have hne:br≠[]:=fun h=>by have:=HI.out.pos hpos;rw[h]at this;simp at this
   have hbp:0<(br.map pvN).length:=by rw[List.length_map];exact List.length_pos_iff.2 hne
   obtain⟨hx2,hxy⟩:=hx hne;rw[aA hbp,aD hbp,List.length_map];simp only[List.cons_append,List.nil_append];have hx0:¬x=0:=by omega
   have hx1:¬x=1:=by omega
   clear hbr hs;(refine wlk ?_;intros);refine HY.seq (HY.eng mixed dn (by kernel_rfl) ?_);(try dsimp only);(refine wlk ?_;intros);refine HY.ret ?_;refine⟨by simp,⟨_,PV.le_refl _,?_⟩,fun b2 L2 e=>by cases e;exact hb⟩;(try dsimp only);(simp(disch:=(first|omega|(simp only[push_cast];first|done|omega))) only[push_cast,↓reduceIte,Nat.reduceEqDiff,Nat.reduceBEq,Nat.reduceAdd,Nat.reduceSub,Int.reduceToNat, *]<;>with_reducible exact rfl)
 ·have hno:jo l wd most=false:=by
   cases h:jo l wd most with
   |false=>rfl
   |true=>obtain⟨h1,h2,h3,h4,-⟩:=fJ.1 h;exact absurd ⟨h1,h2,h3,h4⟩ hg
  have hno2:(aS l&&(decide (0<l.length)&&(inB wd 0 1000&&inB most 0 10000)))=false:=by
   cases h:(aS l&&(decide (0<l.length)&&(inB wd 0 1000&&inB most 0 10000)))with
   |false=>rfl
   |true=>simp only[Bool.and_eq_true,decide_eq_true_eq,ay]at h;exact absurd h hg
  rw[hno,if_neg (by decide)];rw[hno2]at apa;clear hno hno2 hg;have gbki_c70:=agj;(refine wlk ?_;intros);refine HY.seq (HY.eng mixed dn (by kernel_rfl) ?_);(try dsimp only);(refine wlk ?_;intros);refine⟨by simp,⟨_,oD (ps:=[.val (.slice none 0 0),bv false]) ⟨nil_le _ _,PV.le_refl _,trivial⟩,?_⟩,fun b2 L2 e=>by cases e⟩;(simp(disch:=(first|omega|(simp only[push_cast];first|done|omega))) only[push_cast,↓reduceIte,Nat.reduceEqDiff,Nat.reduceBEq,Nat.reduceAdd,Nat.reduceSub,Int.reduceToNat, *]<;>with_reducible exact rfl)
def aan (ws pats:LS):Bool:=bF ws&&(bg pats&&decide (0<ws.length))
def ajm:Fun:=F2 dSs dSs fun ws pats=>if lX ws∧lX pats then some (.tup [.lst true 7 ((if aan ws pats=true then piR ws pats else []).map fE),.lst true 1 ((if aan ws pats=true then txR ws pats else []).map fun s=> .val (.string s)),bv (o9 ws pats)])else none
theorem alN {ws pats:LS} (h:lX ws∧lX pats):ajm [.lst false 1 (ws.map fun s=> .val (.string s)),.lst false 1 (pats.map fun s=> .val (.string s))]=some (.tup [.lst true 7 ((if aan ws pats=true then piR ws pats else []).map fE),.lst true 1 ((if aan ws pats=true then txR ws pats else []).map fun s=> .val (.string s)),.val (.bool (o9 ws pats))]):=(gY (A:=dSs) (B:=dSs) ws pats).trans (if_pos h)
theorem zJ {w:ByteArray} {pats:LS} (h1:dw w=true) (h2:bg pats=true):0<(bN w pats).length:=by unfold bN;rw[if_pos (jK.2 ⟨h1,h2⟩)];unfold zC;rw[agI];omega
theorem ahx {ws pats:LS} (h1:bF ws=true) (h2:bg pats=true):∀k,k≤ws.length→0<k→0<(txK ws pats k).length
 |0,_,h=>by omega
 |k+1,hk,_=>by have:=zJ (pats:=pats) (ac7 h1 (k:=k) (by omega)) h2;rw[txK,List.length_append];omega
theorem apX {ws pats:LS} (h1:bF ws=true) (h2:bg pats=true) {k:Nat} (hk:k≤ws.length) (h:0<k):0<(piK ws pats k).length:=by have h3:=ahx h1 h2 k hk h;rw[←aos]at h3;exact Nat.lt_of_lt_of_le h3 (List.length_filter_le _ _)
theorem uR {l:LS} {k:Nat} (h:k<l.length):l.take (k+1)=l.take k++[l[k]?.getD .empty]:=by rw[List.take_succ_eq_append_getElem h,List.getElem?_eq_getElem h];rfl
theorem aip (ps:LS):∀{k:Nat},0<k→0<(wiK ps k).length
 |0,h=>by omega
 |k+1,_=>by rw[wiK,List.length_append,List.length_singleton];omega
def aun:Ctx:={fn:=aT [(49,iF),(50,fO),(68,φPr),(69,φWw)],io:=aT []}
theorem aol:au Tryz.prog aun:=okΓ (fC Tryz.func49 ji (fC Tryz.func50 dz (fC Tryz.func68 ahw (fC Tryz.func69 ais aj)))) aj
def x9:=ah (Γ:=aun) (f:=49) (φ:=iF) rfl
def wE:=ah (Γ:=aun) (f:=50) (φ:=fO) rfl
def xA:=ah (Γ:=aun) (f:=68) (φ:=φPr) rfl
def wD:=ah (Γ:=aun) (f:=69) (φ:=φWw) rfl
theorem ad2:Sound Tryz.prog 52 ajm:=by
 refine fU mixed aol Tryz.func52 rfl 81 rfl [.tmp 4,.tmp 5,.tmp 6] rfl (by kernel_rfl) fun ps r hr=>?_;obtain⟨ws,pats,rfl,hpre,rfl⟩:=gy hr;refine⟨by simp,?_⟩;simp only[dIs,dUs,dSs,bR,bV,bT,bU,aI,bW,aL,aO,aH,aJ];have ap1:=lH hpre.1;have ap2:=gT hpre.2;have hwl0:=hpre.1.1;cases hw:bF ws with
 |false=>
  have hA:aan ws pats=false:=by unfold aan;rw[hw];rfl
  have hB:o9 ws pats=false:=by unfold o9;rw[hw];rfl
  rw[hw]at ap1;rw[hB,hA];simp only[Bool.false_eq_true,if_false,List.map_nil];clear hpre hw hB hA;have gpit_c49:=x9;have gpit_c50:=wE;have gpit_c68:=xA;have gpit_c69:=wD;(refine wlk ?_;intros);all_goals((with_reducible apply bS (by first|exact .inl rfl|exact .inr rfl));(simp(disch:=(first|omega|(simp only[push_cast];first|done|omega))) only[push_cast,↓reduceIte,Nat.reduceEqDiff,Nat.reduceBEq,Nat.reduceAdd,Nat.reduceSub,Int.reduceToNat, *]<;>with_reducible exact rfl))
  all_goals exact oD ⟨nil_le _ _,nil_le _ _,PV.le_refl _,trivial⟩
 |true=>
 cases hp:bg pats with
 |false=>
  have hA:aan ws pats=false:=by unfold aan;rw[hw,hp];rfl
  have hB:o9 ws pats=false:=by unfold o9;rw[hw,hp];rfl
  rw[hw]at ap1;rw[hp]at ap2;rw[hB,hA];simp only[Bool.false_eq_true,if_false,List.map_nil];clear hpre hw hp hB hA;have gpit_c49:=x9;have gpit_c50:=wE;have gpit_c68:=xA;have gpit_c69:=wD;(refine wlk ?_;intros);all_goals((with_reducible apply bS (by first|exact .inl rfl|exact .inr rfl));(simp(disch:=(first|omega|(simp only[push_cast];first|done|omega))) only[push_cast,↓reduceIte,Nat.reduceEqDiff,Nat.reduceBEq,Nat.reduceAdd,Nat.reduceSub,Int.reduceToNat, *]<;>with_reducible exact rfl))
  all_goals exact oD ⟨nil_le _ _,nil_le _ _,PV.le_refl _,trivial⟩
 |true=>
 by_cases hz:ws.length=0
 ·have hA:aan ws pats=false:=by unfold aan;rw[hw,hp,hz];rfl
  have hB:o9 ws pats=false:=by unfold o9;rw[hw,hp,hz];rfl
  rw[hw]at ap1;rw[hp]at ap2;rw[hB,hA];simp only[Bool.false_eq_true,if_false,List.map_nil];clear hpre hw hp hB hA;have gpit_c49:=x9;have gpit_c50:=wE;have gpit_c68:=xA;have gpit_c69:=wD;(refine wlk ?_;intros);all_goals((with_reducible apply bS (by first|exact .inl rfl|exact .inr rfl));(simp(disch:=(first|omega|(simp only[push_cast];first|done|omega))) only[push_cast,↓reduceIte,Nat.reduceEqDiff,Nat.reduceBEq,Nat.reduceAdd,Nat.reduceSub,Int.reduceToNat, *]<;>with_reducible exact rfl))
  all_goals exact oD ⟨nil_le _ _,nil_le _ _,PV.le_refl _,trivial⟩
 ·have hB:o9 ws pats=decide ((piR ws pats).length≤60):=by unfold o9;rw[hw,hp,decide_eq_true (show 0<ws.length by omega)];rfl
  have hA:aan ws pats=true:=by unfold aan;rw[hw,hp,decide_eq_true (show 0<ws.length by omega)];rfl
  have hwl:=rH hw;have hap:∀k,k<ws.length→φPr [.val (.string (ws[k]?.getD .empty)),.lst false 1 (pats.map fun s=> .val (.string s))]=some (.lst true 1 ((bN (ws[k]?.getD .empty) pats).map fun s=> .val (.string s))):=fun k hk=>aay ⟨hpre.1.2 k,hpre.2⟩;have hpp:∀k:Nat,k<ws.length→0<(bN (ws[k]?.getD ByteArray.empty) pats).length:=fun k hk=>zJ (ac7 hw hk) hp;have hpw:∀k j:Nat,j<(bN (ws[k]?.getD ByteArray.empty) pats).length→((bN (ws[k]?.getD ByteArray.empty) pats)[j]?.getD .empty).size≤1048576:=fun k j hj=>by have:=(aR (yO hj)).2.2;omega
  have hpl:∀k:Nat,(bN (ws[k]?.getD ByteArray.empty) pats).length≤21:=fun k=>jr _ _;have htp:=fun k hk h0=>ahx hw hp k hk h0;have hip:=fun k hk h0=>apX (k:=k) hw hp hk h0;have htl:=aaG ws pats;have hil:=abP ws pats;rw[hw]at ap1;rw[hp]at ap2;rw[hB,hA];simp only[if_true];have hR:piR ws pats=piK ws pats ws.length++[(3,0,0,0,0,10000,false),(2,0,1,0,1,0,false),(3,0,0,0,0,-10000,false)]:=rfl;have hT:txR ws pats=txK ws pats ws.length:=rfl;rw[hR,hT];clear hpre hw hp hB hA hR hT;have gpit_c49:=x9;have gpit_c50:=wE;have gpit_c68:=xA;have gpit_c69:=wD;(refine wlk ?_;intros);refine aF (α:=Nat×Nat×Nat×Nat) mixed (fun z=>[(1,.lst false 1 (pats.map pvS)),(7,nP 7 ((piK ws pats z.1).map fE) z.2.1),(8,nP 1 ((txK ws pats z.1).map pvS) z.2.2.1),(26,.lst false 1 (ws.map pvS)),(27,iv ws.length),(28,iv z.1)])
   (fun z=>nO 79 7 ((piK ws pats z.1).map fE) z.2.1++nO 9 1 ((txK ws pats z.1).map pvS) z.2.2.1) (fun z=>z.2.2.2)
   (fun z=>z.1≤ws.length∧(0<z.1→z.2.1<z.2.2.2∧z.2.2.1<z.2.2.2∧¬z.2.1=z.2.2.1)) (fun z=>ws.length-z.1) (by kernel_rfl) (0,0,0,0) ⟨Nat.zero_le _,by simp⟩ ?_ ?_ rfl ?_
  ·simp(disch:=(first|omega|(simp only[push_cast];first|done|omega))) only[push_cast,↓reduceIte,Nat.reduceEqDiff,Nat.reduceBEq,Nat.reduceAdd,Nat.reduceSub,Int.reduceToNat,piK,txK,List.map_nil, *]
  ·simp(disch:=(first|omega|(simp only[push_cast];first|done|omega))) only[push_cast,↓reduceIte,Nat.reduceEqDiff,Nat.reduceBEq,Nat.reduceAdd,Nat.reduceSub,Int.reduceToNat,piK,txK,List.map_nil,List.append_nil, *]
  rintro⟨k,x,xt,y⟩ ⟨hk,hxy⟩;dsimp only at hk hxy;by_cases h0:k<ws.length
  ·have apr:=hap k h0
   have hps:=hpw k;have hpl2:=hpl k;have hpp2:=hpp k h0;have hKI0:piK ws pats (k+1)=(if k=0 then piK ws pats k else piK ws pats k++[(2,4,3,1,0,0,false)])++wiK (bN (ws[k]?.getD .empty) pats) (bN (ws[k]?.getD .empty) pats).length:=rfl;have hKT:txK ws pats (k+1)=txK ws pats k++bN (ws[k]?.getD .empty) pats:=rfl;have hpos:=Lib.hid (And.intro (hip (k+1) (by omega) (by omega)) (htp (k+1) (by omega) (by omega)));have hlk:=hil k;have hlt:=htl k;generalize bN (ws[k]?.getD .empty) pats=ps at*;have hwk:=wo ps;by_cases hk0:k=0
   ·rw[if_pos hk0]at hKI0
    have hI0:piK ws pats k=[]:=by rw[hk0];rfl
    have hT0:txK ws pats k=[]:=by rw[hk0];rfl
    obtain⟨A,hA⟩:∃A,A=piK ws pats k:=⟨_,rfl⟩;obtain⟨T,hT⟩:∃T,T=txK ws pats k:=⟨_,rfl⟩;have hAT:(0<A.length∧0<T.length)∨(A.length=0∧T.length=0):=.inr (by rw[hA,hT,hI0,hT0];exact⟨rfl,rfl⟩);rw[←hA]at hKI0 hlk;rw[←hT]at hKT hlt;have hAe:A=[]:=hA.trans hI0;have hTe:T=[]:=hT.trans hT0;rw[hI0,hT0];replace hAe:=Lib.hid hAe;replace hTe:=Lib.hid hTe;have hKI:=Lib.hid hKI0;replace hKT:=Lib.hid hKT;replace hI0:=Lib.hid hI0;replace hk0:k<1:=by omega
    clear hKI0 hA hT hT0 hxy hap hpp hpw hpl hil htl hip htp;(refine wlk ?_;intros);refine aF (α:=Nat×Nat×Nat×Nat) mixed (fun z=>[(1,.lst false 1 (pats.map pvS)),(7,nP 7 ((A++wiK ps z.1).map fE) z.2.1),(8,nP 1 ((T++ps.take z.1).map pvS) z.2.2.1),(26,.lst false 1 (ws.map pvS)),(27,iv ws.length),(28,iv k),(42,.lst true 1 (ps.map pvS)),(43,iv ps.length),(44,iv z.1)])
     (fun z=>nO 79 7 ((A++wiK ps z.1).map fE) z.2.1++nO 9 1 ((T++ps.take z.1).map pvS) z.2.2.1) (fun z=>z.2.2.2)
     (fun z=>z.1≤ps.length∧(0<(A++wiK ps z.1).length→z.2.1<z.2.2.2∧z.2.2.1<z.2.2.2∧¬z.2.1=z.2.2.1)) (fun z=>ps.length-z.1) (by kernel_rfl) (0,x,xt,y) ⟨Nat.zero_le _,fun h=>by rw[hAe.out]at h;simp[wiK]at h⟩ ?_ ?_ rfl ?_
    ·simp(disch:=(first|omega|(simp only[push_cast];first|done|omega))) only[push_cast,↓reduceIte,Nat.reduceEqDiff,Nat.reduceBEq,Nat.reduceAdd,Nat.reduceSub,Int.reduceToNat,wiK,List.take_zero,List.append_nil,hAe.out,hTe.out,List.map_nil, *]
    ·simp(disch:=(first|omega|(simp only[push_cast];first|done|omega))) only[push_cast,↓reduceIte,Nat.reduceEqDiff,Nat.reduceBEq,Nat.reduceAdd,Nat.reduceSub,Int.reduceToNat,wiK,List.take_zero,List.append_nil,hAe.out,hTe.out,List.map_nil, *]
    clear hI0;rintro⟨j,x2,xt2,y2⟩ ⟨hj,hx2⟩;dsimp only at hj hx2;have hwj:=hwk j;by_cases hjl:j<ps.length
    ·have hn:A++wiK ps (j+1)=(if j=0 then A++wiK ps j else(A++wiK ps j)++[(3,3,0,0,0,50,true)])++[(1,oQ (ps[j]?.getD .empty),0,0,0,0,false)]:=by rw[wiK];split<;>simp
     have ht:T++ps.take (j+1)=(T++ps.take j)++[ps[j]?.getD .empty]:=by rw[uR hjl,List.append_assoc]
     have h3:(0<(A++wiK ps j).length∧0<(T++ps.take j).length)∨((A++wiK ps j)=[]∧(T++ps.take j)=[]∧j<1):=by
      by_cases hj0:j=0
      ·subst hj0
       rcases hAT with h|h
       ·exact .inl ⟨by rw[List.length_append];omega,by rw[List.length_append];omega⟩
       ·exact .inr ⟨by rw[List.eq_nil_of_length_eq_zero h.1];rfl,by rw[List.eq_nil_of_length_eq_zero h.2];rfl,by omega⟩
      ·refine .inl ⟨by rw[List.length_append];have:=aip ps (k:=j) (by omega);omega,by rw[List.length_append,List.length_take];omega⟩
     have hil2:(A++wiK ps j).length≤700:=by rw[List.length_append];omega
     have htl2:(T++ps.take j).length≤400:=by rw[List.length_append,List.length_take];omega
     have apw:=abf (hps j hjl);have hnx:0<(A++wiK ps (j+1)).length∧0<(T++ps.take (j+1)).length:=⟨by rw[hn,List.length_append,List.length_singleton];omega,by rw[ht,List.length_append,List.length_singleton];omega⟩;replace hnx:=Lib.hid hnx;replace hn:=Lib.hid hn;replace ht:=Lib.hid ht;generalize A++wiK ps j=its at*;generalize T++ps.take j=tx at*;clear hwj hwk hps;rcases h3 with⟨hi0,ht0⟩|⟨rfl,rfl,hj1⟩
     ·obtain⟨x3,x4,x5⟩:=hx2 hi0
      have hap:0<(its.map fE).length:=by rw[List.length_map];omega
      have hbp:0<(tx.map pvS).length:=by rw[List.length_map];omega
      have x6:¬xt2=x2:=fun q=>x5 q.symm;clear hx2;simp only[aA hap,aA hbp,aD hap,aD hbp,List.length_map,List.cons_append,List.nil_append];by_cases hj0:j=0
      ·have hn2:=hn.out
       rw[if_pos hj0]at hn2;replace hn2:=Lib.hid hn2;replace hj0:j<1:=by omega
       (refine wlk ?_;intros);refine⟨(j+1,y2+1,y2+3,y2+4),⟨by dsimp only;omega,fun _=>by dsimp only;omega⟩,by dsimp only;omega,?_,?_,rfl⟩
       ·have h1:=hnx.out
        have hap3:0<((A++wiK ps (j+1)).map fE).length:=by rw[List.length_map];exact h1.1
        have hbp3:0<((T++ps.take (j+1)).map pvS).length:=by rw[List.length_map];exact h1.2
        dsimp only
        rw[aA hap3,aA hbp3,hn2.out,ht.out];exact agr
       ·have h1:=hnx.out
        have hap3:0<((A++wiK ps (j+1)).map fE).length:=by rw[List.length_map];exact h1.1
        have hbp3:0<((T++ps.take (j+1)).map pvS).length:=by rw[List.length_map];exact h1.2
        dsimp only
        rw[aD hap3,aD hbp3,hn2.out,ht.out];simp(disch:=(first|omega|(simp only[push_cast];first|done|omega))) only[push_cast,↓reduceIte,Nat.reduceEqDiff,Nat.reduceBEq,Nat.reduceAdd,Nat.reduceSub,Int.reduceToNat,List.cons_append,List.nil_append, *]
      ·have hn2:=hn.out
       rw[if_neg hj0]at hn2;replace hn2:=Lib.hid hn2;(refine wlk ?_;intros);refine⟨(j+1,y2+3,y2+5,y2+6),⟨by dsimp only;omega,fun _=>by dsimp only;omega⟩,by dsimp only;omega,?_,?_,rfl⟩
       ·have h1:=hnx.out
        have hap3:0<((A++wiK ps (j+1)).map fE).length:=by rw[List.length_map];exact h1.1
        have hbp3:0<((T++ps.take (j+1)).map pvS).length:=by rw[List.length_map];exact h1.2
        dsimp only
        rw[aA hap3,aA hbp3,hn2.out,ht.out];exact agr
       ·have h1:=hnx.out
        have hap3:0<((A++wiK ps (j+1)).map fE).length:=by rw[List.length_map];exact h1.1
        have hbp3:0<((T++ps.take (j+1)).map pvS).length:=by rw[List.length_map];exact h1.2
        dsimp only
        rw[aD hap3,aD hbp3,hn2.out,ht.out];simp(disch:=(first|omega|(simp only[push_cast];first|done|omega))) only[push_cast,↓reduceIte,Nat.reduceEqDiff,Nat.reduceBEq,Nat.reduceAdd,Nat.reduceSub,Int.reduceToNat,List.cons_append,List.nil_append, *]
     ·have hn2:=hn.out
      rw[if_pos (show j=0 by omega)]at hn2;replace hn2:=Lib.hid hn2;clear hx2;(refine wlk ?_;intros);refine⟨(j+1,y2+1,y2+3,y2+4),⟨by dsimp only;omega,fun _=>by dsimp only;omega⟩,by dsimp only;omega,?_,?_,rfl⟩
      ·have h1:=hnx.out
       have hap3:0<((A++wiK ps (j+1)).map fE).length:=by rw[List.length_map];exact h1.1
       have hbp3:0<((T++ps.take (j+1)).map pvS).length:=by rw[List.length_map];exact h1.2
       dsimp only
       rw[aA hap3,aA hbp3,hn2.out,ht.out];exact agr
      ·have h1:=hnx.out
       have hap3:0<((A++wiK ps (j+1)).map fE).length:=by rw[List.length_map];exact h1.1
       have hbp3:0<((T++ps.take (j+1)).map pvS).length:=by rw[List.length_map];exact h1.2
       dsimp only
       rw[aD hap3,aD hbp3,hn2.out,ht.out];simp(disch:=(first|omega|(simp only[push_cast];first|done|omega))) only[push_cast,↓reduceIte,Nat.reduceEqDiff,Nat.reduceBEq,Nat.reduceAdd,Nat.reduceSub,Int.reduceToNat,List.cons_append,List.nil_append, *]
    ·obtain rfl:j=ps.length:=by omega
     rw[List.take_length]at*;rw[←hKI.out,←hKT.out]at*;obtain⟨hi2,ht2⟩:=hpos.out;obtain⟨x3,x4,x5⟩:=hx2 hi2;have x6:¬xt2=x2:=fun q=>x5 q.symm;have hap:0<((piK ws pats (k+1)).map fE).length:=by rw[List.length_map];omega
     have hbp:0<((txK ws pats (k+1)).map pvS).length:=by rw[List.length_map];omega
     clear hx2 hwk hps;simp only[aA hap,aA hbp,aD hap,aD hbp,List.length_map,List.cons_append,List.nil_append];(refine wlk ?_;intros);refine⟨(k+1,x2,xt2,y2),⟨by dsimp only;omega,fun _=>⟨x3,x4,x5⟩⟩,by dsimp only;omega,?_,?_,rfl⟩
     ·simp(disch:=(first|omega|(simp only[push_cast];first|done|omega))) only[push_cast,↓reduceIte,Nat.reduceEqDiff,Nat.reduceBEq,Nat.reduceAdd,Nat.reduceSub,Int.reduceToNat,aA hap,aA hbp, *]
     ·simp(disch:=(first|omega|(simp only[push_cast];first|done|omega))) only[push_cast,↓reduceIte,Nat.reduceEqDiff,Nat.reduceBEq,Nat.reduceAdd,Nat.reduceSub,Int.reduceToNat,aD hap,aD hbp,List.cons_append,List.nil_append, *]
   ·rw[if_neg hk0]at hKI0
    have hi0:=hip k hk (by omega);have ht0:=htp k hk (by omega);obtain⟨x3,x4,x5⟩:=hxy (by omega);have x6:¬xt=x:=fun q=>x5 q.symm;obtain⟨A,hA⟩:∃A,A=piK ws pats k++[(2,4,3,1,0,0,false)]:=⟨_,rfl⟩;rw[←hA]at hKI0;have hAl:A.length=(piK ws pats k).length+1:=by rw[hA];simp
    generalize piK ws pats k=P at*;generalize txK ws pats k=T at*;have hAT:(0<A.length∧0<T.length)∨(A.length=0∧T.length=0):=.inl ⟨by omega,ht0⟩;have hap1:0<(P.map fE).length:=by rw[List.length_map];omega
    have hbp1:0<(T.map pvS).length:=by rw[List.length_map];omega
    have hap2:0<((A++wiK ps 0).map fE).length:=by rw[List.length_map,List.length_append];omega
    have hbp2:0<((T++ps.take 0).map pvS).length:=by rw[List.length_map,List.length_append];omega
    simp only[aA hap1,aA hbp1,aD hap1,aD hbp1,List.length_map,List.cons_append,List.nil_append];have hlkP:P.length≤600:=by omega
    replace hlk:A.length≤43*k+1:=by omega
    have hA1:A++wiK ps 0=P++[(2,4,3,1,0,0,false)]:=by rw[hA];exact List.append_nil _
    have hT1:T++ps.take 0=T:=List.append_nil _;have hI0:=Lib.hid (And.intro hA1 hT1);have hKI:=Lib.hid hKI0;replace hKT:=Lib.hid hKT;replace hA:=Lib.hid hA;replace hAl:=Lib.hid hAl;clear hKI0 hxy hap hpp hpw hpl hil htl hip htp hA1 hT1;replace hk0:0<k:=by omega
    (refine wlk ?_;intros);refine aF (α:=Nat×Nat×Nat×Nat) mixed (fun z=>[(1,.lst false 1 (pats.map pvS)),(7,nP 7 ((A++wiK ps z.1).map fE) z.2.1),(8,nP 1 ((T++ps.take z.1).map pvS) z.2.2.1),(26,.lst false 1 (ws.map pvS)),(27,iv ws.length),(28,iv k),(42,.lst true 1 (ps.map pvS)),(43,iv ps.length),(44,iv z.1)])
     (fun z=>nO 79 7 ((A++wiK ps z.1).map fE) z.2.1++nO 9 1 ((T++ps.take z.1).map pvS) z.2.2.1) (fun z=>z.2.2.2)
     (fun z=>z.1≤ps.length∧(0<(A++wiK ps z.1).length→z.2.1<z.2.2.2∧z.2.2.1<z.2.2.2∧¬z.2.1=z.2.2.1)) (fun z=>ps.length-z.1) (by kernel_rfl) (0,y+1,xt,y+2) ⟨Nat.zero_le _,fun _=>by dsimp only;omega⟩ ?_ ?_ rfl ?_
    ·dsimp only;rw[aA hap2,aA hbp2,hI0.out.1,hI0.out.2];exact agr
    ·dsimp only;rw[aD hap2,aD hbp2,hI0.out.1,hI0.out.2];simp(disch:=(first|omega|(simp only[push_cast];first|done|omega))) only[push_cast,↓reduceIte,Nat.reduceEqDiff,Nat.reduceBEq,Nat.reduceAdd,Nat.reduceSub,Int.reduceToNat,List.cons_append,List.nil_append, *]
    clear hI0;rintro⟨j,x2,xt2,y2⟩ ⟨hj,hx2⟩;dsimp only at hj hx2;have hwj:=hwk j;by_cases hjl:j<ps.length
    ·have hn:A++wiK ps (j+1)=(if j=0 then A++wiK ps j else(A++wiK ps j)++[(3,3,0,0,0,50,true)])++[(1,oQ (ps[j]?.getD .empty),0,0,0,0,false)]:=by rw[wiK];split<;>simp
     have ht:T++ps.take (j+1)=(T++ps.take j)++[ps[j]?.getD .empty]:=by rw[uR hjl,List.append_assoc]
     have h3:(0<(A++wiK ps j).length∧0<(T++ps.take j).length)∨((A++wiK ps j)=[]∧(T++ps.take j)=[]∧j<1):=by
      by_cases hj0:j=0
      ·subst hj0
       rcases hAT with h|h
       ·exact .inl ⟨by rw[List.length_append];omega,by rw[List.length_append];omega⟩
       ·exact .inr ⟨by rw[List.eq_nil_of_length_eq_zero h.1];rfl,by rw[List.eq_nil_of_length_eq_zero h.2];rfl,by omega⟩
      ·refine .inl ⟨by rw[List.length_append];have:=aip ps (k:=j) (by omega);omega,by rw[List.length_append,List.length_take];omega⟩
     have hil2:(A++wiK ps j).length≤700:=by rw[List.length_append];omega
     have htl2:(T++ps.take j).length≤400:=by rw[List.length_append,List.length_take];omega
     have apw:=abf (hps j hjl);have hnx:0<(A++wiK ps (j+1)).length∧0<(T++ps.take (j+1)).length:=⟨by rw[hn,List.length_append,List.length_singleton];omega,by rw[ht,List.length_append,List.length_singleton];omega⟩;replace hnx:=Lib.hid hnx;replace hn:=Lib.hid hn;replace ht:=Lib.hid ht;generalize A++wiK ps j=its at*;generalize T++ps.take j=tx at*;clear hwj hwk hps;rcases h3 with⟨hi0,ht0⟩|⟨rfl,rfl,hj1⟩
     ·obtain⟨x3,x4,x5⟩:=hx2 hi0
      have hap:0<(its.map fE).length:=by rw[List.length_map];omega
      have hbp:0<(tx.map pvS).length:=by rw[List.length_map];omega
      have x6:¬xt2=x2:=fun q=>x5 q.symm;clear hx2;simp only[aA hap,aA hbp,aD hap,aD hbp,List.length_map,List.cons_append,List.nil_append];by_cases hj0:j=0
      ·have hn2:=hn.out
       rw[if_pos hj0]at hn2;replace hn2:=Lib.hid hn2;replace hj0:j<1:=by omega
       (refine wlk ?_;intros);refine⟨(j+1,y2+1,y2+3,y2+4),⟨by dsimp only;omega,fun _=>by dsimp only;omega⟩,by dsimp only;omega,?_,?_,rfl⟩
       ·have h1:=hnx.out
        have hap3:0<((A++wiK ps (j+1)).map fE).length:=by rw[List.length_map];exact h1.1
        have hbp3:0<((T++ps.take (j+1)).map pvS).length:=by rw[List.length_map];exact h1.2
        dsimp only
        rw[aA hap3,aA hbp3,hn2.out,ht.out];exact agr
       ·have h1:=hnx.out
        have hap3:0<((A++wiK ps (j+1)).map fE).length:=by rw[List.length_map];exact h1.1
        have hbp3:0<((T++ps.take (j+1)).map pvS).length:=by rw[List.length_map];exact h1.2
        dsimp only
        rw[aD hap3,aD hbp3,hn2.out,ht.out];simp(disch:=(first|omega|(simp only[push_cast];first|done|omega))) only[push_cast,↓reduceIte,Nat.reduceEqDiff,Nat.reduceBEq,Nat.reduceAdd,Nat.reduceSub,Int.reduceToNat,List.cons_append,List.nil_append, *]
      ·have hn2:=hn.out
       rw[if_neg hj0]at hn2;replace hn2:=Lib.hid hn2;(refine wlk ?_;intros);refine⟨(j+1,y2+3,y2+5,y2+6),⟨by dsimp only;omega,fun _=>by dsimp only;omega⟩,by dsimp only;omega,?_,?_,rfl⟩
       ·have h1:=hnx.out
        have hap3:0<((A++wiK ps (j+1)).map fE).length:=by rw[List.length_map];exact h1.1
        have hbp3:0<((T++ps.take (j+1)).map pvS).length:=by rw[List.length_map];exact h1.2
        dsimp only
        rw[aA hap3,aA hbp3,hn2.out,ht.out];exact agr
       ·have h1:=hnx.out
        have hap3:0<((A++wiK ps (j+1)).map fE).length:=by rw[List.length_map];exact h1.1
        have hbp3:0<((T++ps.take (j+1)).map pvS).length:=by rw[List.length_map];exact h1.2
        dsimp only
        rw[aD hap3,aD hbp3,hn2.out,ht.out];simp(disch:=(first|omega|(simp only[push_cast];first|done|omega))) only[push_cast,↓reduceIte,Nat.reduceEqDiff,Nat.reduceBEq,Nat.reduceAdd,Nat.reduceSub,Int.reduceToNat,List.cons_append,List.nil_append, *]
     ·have hn2:=hn.out
      rw[if_pos (show j=0 by omega)]at hn2;replace hn2:=Lib.hid hn2;clear hx2;(refine wlk ?_;intros);refine⟨(j+1,y2+1,y2+3,y2+4),⟨by dsimp only;omega,fun _=>by dsimp only;omega⟩,by dsimp only;omega,?_,?_,rfl⟩
      ·have h1:=hnx.out
       have hap3:0<((A++wiK ps (j+1)).map fE).length:=by rw[List.length_map];exact h1.1
       have hbp3:0<((T++ps.take (j+1)).map pvS).length:=by rw[List.length_map];exact h1.2
       dsimp only
       rw[aA hap3,aA hbp3,hn2.out,ht.out];exact agr
      ·have h1:=hnx.out
       have hap3:0<((A++wiK ps (j+1)).map fE).length:=by rw[List.length_map];exact h1.1
       have hbp3:0<((T++ps.take (j+1)).map pvS).length:=by rw[List.length_map];exact h1.2
       dsimp only
       rw[aD hap3,aD hbp3,hn2.out,ht.out];simp(disch:=(first|omega|(simp only[push_cast];first|done|omega))) only[push_cast,↓reduceIte,Nat.reduceEqDiff,Nat.reduceBEq,Nat.reduceAdd,Nat.reduceSub,Int.reduceToNat,List.cons_append,List.nil_append, *]
    ·obtain rfl:j=ps.length:=by omega
     rw[List.take_length]at*;rw[←hKI.out,←hKT.out]at*;obtain⟨hi2,ht2⟩:=hpos.out;obtain⟨x3,x4,x5⟩:=hx2 hi2;have x6:¬xt2=x2:=fun q=>x5 q.symm;have hap:0<((piK ws pats (k+1)).map fE).length:=by rw[List.length_map];omega
     have hbp:0<((txK ws pats (k+1)).map pvS).length:=by rw[List.length_map];omega
     clear hx2 hwk hps;simp only[aA hap,aA hbp,aD hap,aD hbp,List.length_map,List.cons_append,List.nil_append];(refine wlk ?_;intros);refine⟨(k+1,x2,xt2,y2),⟨by dsimp only;omega,fun _=>⟨x3,x4,x5⟩⟩,by dsimp only;omega,?_,?_,rfl⟩
     ·simp(disch:=(first|omega|(simp only[push_cast];first|done|omega))) only[push_cast,↓reduceIte,Nat.reduceEqDiff,Nat.reduceBEq,Nat.reduceAdd,Nat.reduceSub,Int.reduceToNat,aA hap,aA hbp, *]
     ·simp(disch:=(first|omega|(simp only[push_cast];first|done|omega))) only[push_cast,↓reduceIte,Nat.reduceEqDiff,Nat.reduceBEq,Nat.reduceAdd,Nat.reduceSub,Int.reduceToNat,aD hap,aD hbp,List.cons_append,List.nil_append, *]
  ·obtain rfl:k=ws.length:=by omega
   have hi0:=hip _ (Nat.le_refl _) (by omega);have ht0:=htp _ (Nat.le_refl _) (by omega);obtain⟨x3,x4,x5⟩:=hxy (by omega);have x6:¬xt=x:=fun q=>x5 q.symm;have hlk:=hil ws.length;have hlt:=htl ws.length;generalize piK ws pats ws.length=P at*;generalize txK ws pats ws.length=T at*;have hap1:0<(P.map fE).length:=by rw[List.length_map];omega
   have hbp1:0<(T.map pvS).length:=by rw[List.length_map];omega
   simp only[aA hap1,aA hbp1,aD hap1,aD hbp1,List.length_map,List.cons_append,List.nil_append];clear hap hpp hpw hpl hil htl hip htp hxy;by_cases h60:P.length+3≤60
   ·rw[decide_eq_true (by simpa using h60)]
    (refine wlk ?_;intros);all_goals((with_reducible apply bS (by first|exact .inl rfl|exact .inr rfl));(simp(disch:=(first|omega|(simp only[push_cast];first|done|omega))) only[push_cast,↓reduceIte,Nat.reduceEqDiff,Nat.reduceBEq,Nat.reduceAdd,Nat.reduceSub,Int.reduceToNat, *]<;>with_reducible exact rfl))
    all_goals(rw[show decide ((P.length:Int)+1+1+1≤60)=true from decide_eq_true (by omega)];exact PV.le_refl _)
   ·rw[decide_eq_false (by simpa using h60)]
    (refine wlk ?_;intros);all_goals((with_reducible apply bS (by first|exact .inl rfl|exact .inr rfl));(simp(disch:=(first|omega|(simp only[push_cast];first|done|omega))) only[push_cast,↓reduceIte,Nat.reduceEqDiff,Nat.reduceBEq,Nat.reduceAdd,Nat.reduceSub,Int.reduceToNat, *]<;>with_reducible exact rfl))
    all_goals(rw[show decide ((P.length:Int)+1+1+1≤60)=false from decide_eq_false (by omega)];exact PV.le_refl _)
def ar1:afk:=G4 dSs dSs dI dI fun ws pats wd most=>if lX ws∧lX pats then some (.tup [.row 0 1 0 (lT ws pats wd most).length,bv (mq ws pats wd most)],[(9,1,(lT ws pats wd most).map fun s=> .val (.string s))])else none
theorem ava {l l':LS}:(l.map fun s=>PV.val (.string s))++(l'.map fun s=>PV.val (.string s))=(l++l').map fun s=>PV.val (.string s):=List.map_append.symm
attribute[push_cast]
 ava
def avx:Ctx:={fn:=aT [(62,φPi),(63,φBb),(64,φPr)],io:=aT []}
theorem aqL:au Tryz.prog avx:=okΓ (fC Tryz.func62 af2 (fC Tryz.func63 ag5 (fC Tryz.func64 zA aj))) aj
def aaD:=ah (Γ:=avx) (f:=62) (φ:=φPi) rfl
def aaz:=ah (Γ:=avx) (f:=63) (φ:=φBb) rfl
def abS:=ah (Γ:=avx) (f:=64) (φ:=φPr) rfl
theorem akg:jW Tryz.prog 46 ar1:=by
 refine r9 mixed aqL Tryz.func46 rfl 127 rfl [.tmp 8,.tmp 9] rfl (by kernel_rfl) fun ps r cs' hr=>?_;obtain⟨ws,pats,wd,most,rfl,hq⟩:=ab3 hr;clear hr;split at hq
 case isFalse=>cases hq
 case isTrue hpre=>
 cases hq;refine⟨by simp,?_⟩;simp only[dIs,dUs,dSs,bR,bV,bT,bU,aI,bW,aL,aO,aH,aJ];have api:=amY hpre;unfold lT mq;cases hp:o9 ws pats with
 |false=>rw[hp]at api;simp only[Bool.false_and];rw[if_neg (by decide)];generalize piV ws pats=l at*;clear hp;have hl:l=[]∨True:=.inr trivial;clear hl;have gpgl_c62:=aaD;have gpgl_c63:=aaz;have gpgl_c64:=abS;(refine wlk ?_;intros);all_goals((with_reducible apply tH (0) (by first|exact .inl rfl|exact .inr rfl));(focus(simp(disch:=(first|omega|(simp only[push_cast];first|done|omega))) only[push_cast,↓reduceIte,Nat.reduceEqDiff,Nat.reduceBEq,Nat.reduceAdd,Nat.reduceSub,Int.reduceToNat, *]<;>with_reducible exact rfl));(focus(simp(disch:=(first|omega|(simp only[push_cast];first|done|omega))) only[push_cast,↓reduceIte,Nat.reduceEqDiff,Nat.reduceBEq,Nat.reduceAdd,Nat.reduceSub,Int.reduceToNat, *]<;>with_reducible exact rfl)))
 |true=>
 have hB:=amF hp;have hV:piV ws pats=piR ws pats:=if_pos hp;rw[hp]at api;simp only[Bool.true_and];have hl:=bC hB;have apb:=ahT (l:=piV ws pats) (wd:=wd) (most:=most) (show(piV ws pats).length≤1000 by omega);have hnb:=ar2 ws pats;rw[←hV]at hnb⊢;have hwl:=rH (vF.1 hp).1;have hap:∀k,k<ws.length→φPr [.val (.string (ws[k]?.getD .empty)),.lst false 1 (pats.map fun s=> .val (.string s))]=some (.lst true 1 ((bN (ws[k]?.getD .empty) pats).map fun s=> .val (.string s))):=fun k hk=>aay ⟨hpre.1.2 k,hpre.2⟩;have htl:=aaG ws pats;have htz:∀k:Nat,((txR ws pats)[k]?.getD ByteArray.empty).size≤20:=aau;have hpl:∀k:Nat,(bN (ws[k]?.getD ByteArray.empty) pats).length≤21:=fun k=>jr _ _;have hob:jo (piV ws pats) wd most=true→aq6 (piV ws pats) (dD (piV ws pats) wd most):=fun h=>agZ hB (fJ.1 h).2.2.2.1.2;have hrr:jo (piV ws pats) wd most=true→aoP (piV ws pats) wd most=dD (piV ws pats) wd most:=fun h=>if_pos h;clear hp hB hV;generalize piV ws pats=l at*;cases hb:jo l wd most with
 |false=>rw[hb]at apb;rw[if_neg (by decide)];clear hob hrr hnb hap htl htz hpl hpre hb;have gpgl_c62:=aaD;have gpgl_c63:=aaz;have gpgl_c64:=abS;(refine wlk ?_;intros);all_goals((with_reducible apply tH (0) (by first|exact .inl rfl|exact .inr rfl));(focus(simp(disch:=(first|omega|(simp only[push_cast];first|done|omega))) only[push_cast,↓reduceIte,Nat.reduceEqDiff,Nat.reduceBEq,Nat.reduceAdd,Nat.reduceSub,Int.reduceToNat, *]<;>with_reducible exact rfl));(focus(simp(disch:=(first|omega|(simp only[push_cast];first|done|omega))) only[push_cast,↓reduceIte,Nat.reduceEqDiff,Nat.reduceBEq,Nat.reduceAdd,Nat.reduceSub,Int.reduceToNat, *]<;>with_reducible exact rfl)))
 |true=>
  have hbr:=hob hb;rw[hb,hrr hb]at apb;rw[if_pos rfl];clear hob hrr hb hpre;generalize dD l wd most=br at*;obtain⟨hbl,-⟩:=id hbr;have hbat:=fun k hk=>hbr.at_ (k:=k) hk;clear hbr;have htR:txR ws pats=txK ws pats ws.length:=rfl;have gpgl_c62:=aaD;have gpgl_c63:=aaz;have gpgl_c64:=abS;(refine wlk ?_;intros);refine aF (α:=Nat×Nat×Nat) mixed (fun z=>[(0,.lst false 1 (ws.map pvS)),(1,.lst false 1 (pats.map pvS)),(10,.row 0 1 0 0),(11,.lst true 7 (l.map fE)),(13,.lst true 1 (br.map pvN)),(15,.row z.2.1 1 0 (txK ws pats z.1).length),(16,iv z.1)])
   (fun z=>[(0,9,1,[]),(z.2.1,9,1,(txK ws pats z.1).map pvS)]) (fun z=>z.2.2)
   (fun z=>z.1≤ws.length∧0<z.2.1∧z.2.1<z.2.2) (fun z=>ws.length-z.1) (by kernel_rfl) (0,1,2) ⟨Nat.zero_le _,by simp,by simp⟩ ?_ ?_ rfl ?_
  ·simp(disch:=(first|omega|(simp only[push_cast];first|done|omega))) only[push_cast,↓reduceIte,Nat.reduceEqDiff,Nat.reduceBEq,Nat.reduceAdd,Nat.reduceSub,Int.reduceToNat,txK,List.length_nil, *]
  ·simp(disch:=(first|omega|(simp only[push_cast];first|done|omega))) only[push_cast,↓reduceIte,Nat.reduceEqDiff,Nat.reduceBEq,Nat.reduceAdd,Nat.reduceSub,Int.reduceToNat,txK,List.map_nil, *]
  rintro⟨k,x,y⟩ ⟨hk,hx0,hxy⟩;dsimp only at hk hx0 hxy;have hlk:=htl k;by_cases h0:k<ws.length
  ·have apk:=hap k h0
   have hlp:=hpl k;have hn:txK ws pats (k+1)=txK ws pats k++bN (ws[k]?.getD .empty) pats:=rfl;replace hn:=Lib.hid hn;generalize txK ws pats k=out at*;generalize bN (ws[k]?.getD .empty) pats=ps at*;clear htl hap hpl htR hnb htz hbat;(refine wlk ?_;intros);refine⟨(k+1,y,y+1),⟨by dsimp only;omega,by dsimp only;omega,by dsimp only;omega⟩,by dsimp only;omega,?_,?_,rfl⟩
   ·dsimp only
    rw[hn.out];exact agr
   ·dsimp only
    rw[hn.out];exact agr
  ·obtain rfl:k=ws.length:=by omega
   rw[←htR];rw[←htR]at hlk;have hts:=fun a=>wQ (l:=l) (tx:=txR ws pats) (a:=a) htz;have htz2:∀k:Nat,((txR ws pats)[k]?.getD ByteArray.empty).size≤20:=htz;have htxl:(txR ws pats).length≤252:=by omega
   generalize txR ws pats=tx at*;clear htl hap hpl htR htz;have hlnk:=nT l tx br;(refine wlk ?_;intros);refine aF (α:=Nat×Nat×Nat×Int) mixed (fun z=>[(10,.row z.2.1 1 0 z.1),(11,.lst true 7 (l.map fE)),(13,.lst true 1 (br.map pvN)),(15,.row x 1 0 tx.length),(17,iv (nbX l (frB br z.1))),(18,iv z.2.2.2),(19,iv z.1)])
    (fun z=>[(x,9,1,tx.map pvS),(z.2.1,9,1,(oG l tx br z.1).map pvS)]) (fun z=>z.2.2.1)
    (fun z=>z.1≤br.length∧(¬z.2.1=x∧x<z.2.2.1∧z.2.1<z.2.2.1)∧z.2.2.2=(frB br z.1:Int)-1) (fun z=>br.length-z.1) (by kernel_rfl) (0,0,y,-1) ⟨Nat.zero_le _,⟨by dsimp only;omega,hxy,by dsimp only;omega⟩,rfl⟩ ?_ ?_ rfl ?_
   ·simp(disch:=(first|omega|(simp only[push_cast];first|done|omega))) only[push_cast,↓reduceIte,Nat.reduceEqDiff,Nat.reduceBEq,Nat.reduceAdd,Nat.reduceSub,Int.reduceToNat,frB,nbX,List.take_zero,List.filter_nil,List.length_nil, *]
   ·simp(disch:=(first|omega|(simp only[push_cast];first|done|omega))) only[push_cast,↓reduceIte,Nat.reduceEqDiff,Nat.reduceBEq,Nat.reduceAdd,Nat.reduceSub,Int.reduceToNat,oG,List.map_nil, *]
   rintro⟨k,o,y2,v⟩ ⟨hkb,⟨hox,hxy2,hoy⟩,hv⟩;dsimp only at hkb hox hxy2 hoy hv;subst hv;have hxo:¬x=o:=fun q=>hox q.symm;clear hk h0 hlk;have hlk:=hlnk k;by_cases hk:k<br.length
   ·obtain⟨b1,b2,b3,b4⟩:=hbat k hk
    have hn:oG l tx br (k+1)=oG l tx br k++[lnR l tx (frB br k) (br[k]?.getD 0).toNat]:=rfl;have hfs:=yt br k;replace hn:=Lib.hid hn;replace hfs:=Lib.hid hfs;generalize oG l tx br k=out at*;generalize frB br k=a at*;obtain⟨en,hen⟩:∃en:Nat,br[k]?.getD 0=en:=⟨(br[k]?.getD 0).toNat,by omega⟩;rw[hen,Int.toNat_natCast]at hn hfs b2 b3 b4;rw[hen]at b1;have hmk:lnR l tx a en=if(l[en]?.getD it0).2.2.2.2.2.2=true then lnT l tx a (en-a)++⟨#[45]⟩else lnT l tx a (en-a):=rfl;replace b4:¬(l[en]?.getD it0).1=1:=b4;have hbox:nbX l (en+1)=nbX l en:=ahe b3 b4;replace hmk:=Lib.hid hmk;replace hbox:=Lib.hid hbox;clear hbat hlnk;have h45:(⟨#[45]⟩:ByteArray).size=1:=rfl;have h32:(⟨#[32]⟩:ByteArray).size=1:=rfl;(refine wlk ?_;intros);refine aF (α:=Nat) mixed (fun j=>[(10,.row o 1 0 k),(11,.lst true 7 (l.map fE)),(13,.lst true 1 (br.map pvN)),(15,.row x 1 0 tx.length),(17,iv (nbX l (a+j))),(18,iv ((a:Int)-1)),(19,iv k),(20,.val (.string (lnT l tx a j))),(21,iv ((a+j:Nat):Int))])
     (fun _=>[(x,9,1,tx.map pvS),(o,9,1,out.map pvS)]) (fun _=>y2)
     (fun j=>a+j≤en) (fun j=>en-j) (by kernel_rfl) 0 (by omega) ?_ ?_ rfl ?_
    ·have hl0:lnT l tx a 0=⟨#[]⟩:=rfl
     have hcan:(a:Int)-1+1=a:=by omega
     exact agr
    ·exact agr
    intro j hj;have hsz:=hts a j;by_cases hje:a+j<en
    ·have hal:a+j<l.length:=by omega
     have hS:lnT l tx a (j+1)=mQ l tx (lnT l tx a j) (a+j):=rfl;have hbx1:=fun q=>aaQ (l:=l) (n:=a+j) hal q;have hbx2:=fun q=>ahe (l:=l) (n:=a+j) hal q;have hlt1:=fun q=>ahJ (l:=l) (n:=a+j) hal q;have hq1:=fun q=>amD (l:=l) (tx:=tx) (s:=lnT l tx a j) (n:=a+j) q;have hq2:=fun q=>al9 (l:=l) (tx:=tx) (s:=lnT l tx a j) (n:=a+j) q;have hq3:=fun q r=>akJ (l:=l) (tx:=tx) (s:=lnT l tx a j) (n:=a+j) q r;rw[hnb]at hlt1;rw[←hS]at hq1 hq2 hq3;have hnx:=aiB l (a+j);rw[hnb]at hnx;clear hS hmk hn hfs hbox;generalize hs9:lnT l tx a j=s at*;generalize hs8:lnT l tx a (j+1)=s2 at*;replace hs9:=Lib.hid hs9;replace hs8:=Lib.hid hs8;generalize hnb2:nbX l (a+j+1)=nn2 at*;replace hnb2:=Lib.hid hnb2;generalize nbX l (a+j)=nn at*;clear hnb b4;change∀q:(l[a+j]?.getD it0).1=1,_ at hbx1 hlt1 hq1;change∀q:¬(l[a+j]?.getD it0).1=1,_ at hbx2 hq3;change∀q:(l[a+j]?.getD it0).1=2∧0<(l[a+j]?.getD it0).2.1∧¬s=⟨#[]⟩,_ at hq2;have hq3':¬(l[a+j]?.getD it0).1=1→¬((l[a+j]?.getD it0).1=2∧0<(l[a+j]?.getD it0).2.1∧¬s=⟨#[]⟩)→s2=s:=hq3;clear hq3;generalize hyy:l[a+j]?.getD it0=yy at*;obtain⟨y1,y2',y3,y4,y5,y6,y7⟩:=yy;dsimp only at hbx1 hbx2 hlt1 hq1 hq2 hq3';have hfin:∀nn':Nat,∀s':ByteArray,nn2=nn'→s2=s'→nbX l (a+(j+1))=nn'∧lnT l tx a (j+1)=s':=fun nn' s' h1 h2=>⟨by rw[←h1];exact hnb2.out,by rw[←h2];exact hs8.out⟩;by_cases k1:y1=1
     ·have hf:=Lib.hid (hfin _ _ (hbx1 k1) (hq1 k1))
      have hn9:=hlt1 k1;have ht9:=htz2 nn;clear hbx1 hbx2 hlt1 hq1 hq2 hq3' hfin;subst k1;(refine wlk ?_;intros);refine⟨j+1,by dsimp only;omega,by dsimp only;omega,?_,?_,rfl⟩
      ·dsimp only
       rw[hf.out.1,hf.out.2];exact agi
      ·exact agr
     ·by_cases k2:y1=2∧0<y2'∧¬s=⟨#[]⟩
      ·have hf:=Lib.hid (hfin _ _ (hbx2 k1) (hq2 k2))
       clear hbx1 hbx2 hlt1 hq1 hq2 hq3' hfin;obtain⟨rfl,k2,k3⟩:=k2;(refine wlk ?_;intros);refine⟨j+1,by dsimp only;omega,by dsimp only;omega,?_,?_,rfl⟩
       ·dsimp only
        rw[hf.out.1,hf.out.2];exact agi
       ·exact agr
      ·have hf:=Lib.hid (hfin _ _ (hbx2 k1) (hq3' k1 k2))
       clear hbx1 hbx2 hlt1 hq1 hq2 hq3' hfin;by_cases k3:y1=2
       ·by_cases k4:0<y2'
        ·have k5:s=⟨#[]⟩:=Classical.byContradiction fun q=>k2 ⟨k3,k4,q⟩
         clear k2;subst k3 k5;(refine wlk ?_;intros);refine⟨j+1,by dsimp only;omega,by dsimp only;omega,?_,?_,rfl⟩
         ·dsimp only
          rw[hf.out.1,hf.out.2];exact agi
         ·exact agr
        ·clear k2
         subst k3;(refine wlk ?_;intros);refine⟨j+1,by dsimp only;omega,by dsimp only;omega,?_,?_,rfl⟩
         ·dsimp only
          rw[hf.out.1,hf.out.2];exact agi
         ·exact agr
       ·clear k2
        (refine wlk ?_;intros);refine⟨j+1,by dsimp only;omega,by dsimp only;omega,?_,?_,rfl⟩
        ·dsimp only
         rw[hf.out.1,hf.out.2];exact agi
        ·exact agr
    ·have hje2:j=en-a:=by omega
     have hae:a+j=en:=by omega
     rw[hae];rw[←hje2]at hmk;generalize lnT l tx a j=s at*;clear hje2;have hcl:(((en:Int)-1)+1)=en:=by omega
     have hfe:frB br (k+1)=en+1:=hfs.out;have hnx:nbX l (frB br (k+1))=nbX l en:=by rw[hfe];exact hbox.out
     replace hfe:=Lib.hid hfe;replace hnx:=Lib.hid hnx;clear hae b4 hfs hbox hcl hnb;generalize hyy:l[en]?.getD it0=yy at*;obtain⟨y1,y2',y3,y4,y5,y6,y7⟩:=yy;have hmk2:=hmk.out;clear hmk;dsimp only at hmk2;cases y7 with
     |true=>
      rw[if_pos rfl]at hmk2;rw[hmk2]at hn;clear hmk2;(refine wlk ?_;intros);refine⟨(k+1,y2+1,y2+2,(en:Int)),⟨by dsimp only;omega,⟨by dsimp only;omega,by dsimp only;omega,by dsimp only;omega⟩,by dsimp only;rw[hfe.out];omega⟩,by dsimp only;omega,?_,?_,rfl⟩
      ·dsimp only
       rw[hnx.out];exact agi
      ·dsimp only
       rw[hn.out];exact agr
     |false=>
      rw[if_neg (by decide)]at hmk2;rw[hmk2]at hn;clear hmk2;(refine wlk ?_;intros);refine⟨(k+1,y2+1,y2+2,(en:Int)),⟨by dsimp only;omega,⟨by dsimp only;omega,by dsimp only;omega,by dsimp only;omega⟩,by dsimp only;rw[hfe.out];omega⟩,by dsimp only;omega,?_,?_,rfl⟩
      ·dsimp only
       rw[hnx.out];exact agi
      ·dsimp only
       rw[hn.out];exact agr
   ·obtain rfl:k=br.length:=by omega
    generalize oG l tx br br.length=out at*;(refine wlk ?_;intros);all_goals((with_reducible apply tH (o) (by first|exact .inl rfl|exact .inr rfl));(focus(simp(disch:=(first|omega|(simp only[push_cast];first|done|omega))) only[push_cast,↓reduceIte,Nat.reduceEqDiff,Nat.reduceBEq,Nat.reduceAdd,Nat.reduceSub,Int.reduceToNat, *]<;>with_reducible exact rfl));(focus(simp(disch:=(first|omega|(simp only[push_cast];first|done|omega))) only[push_cast,↓reduceIte,Nat.reduceEqDiff,Nat.reduceBEq,Nat.reduceAdd,Nat.reduceSub,Int.reduceToNat, *]<;>with_reducible exact rfl)))
def alv:Fun:=aaA ar1
theorem aeV:Sound Tryz.prog 46 alv:=akg.pure
theorem aju {ws pats:LS} {wd most:Int} (h:lX ws∧lX pats):alv [.lst false 1 (ws.map fun s=> .val (.string s)),.lst false 1 (pats.map fun s=> .val (.string s)),.val (.int .i64 wd),.val (.int .i64 most)]=some (.tup [.lst true 1 ((lT ws pats wd most).map fun s=> .val (.string s)),.val (.bool (mq ws pats wd most))]):=by refine mR (r:=.tup [.row 0 1 0 (lT ws pats wd most).length,.val (.bool (mq ws pats wd most))]) (cs0:=[(9,1,(lT ws pats wd most).map fun s=> .val (.string s))]) ((aox (A:=dSs) (B:=dSs) (C:=dI) (D:=dI) ws pats wd most).trans (if_pos h)) ?_;rw[ag3];(simp(disch:=(first|omega|(simp only[push_cast];first|done|omega))) only[push_cast,↓reduceIte,Nat.reduceEqDiff,Nat.reduceBEq,Nat.reduceAdd,Nat.reduceSub,Int.reduceToNat, *]<;>with_reducible exact rfl)
end
end Go.Proofs.YtmmafcjjlbgnkaaGreat
