/- What the proof rests on, part 13: contracts of functions. No condition beyond what each states. -/
import Derived.Test.YtmmafcjjlbgnkaaGreatDoorZPr12
namespace Go.Proofs.YtmmafcjjlbgnkaaGreatDoor
open Go.RowKit
set_option linter.all false
set_option maxHeartbeats 32000000
noncomputable section
structure BkI (l:List It) (wd most:Int) (a:Nat) (lk:Int) (br:List Int):Prop where
 le:a≤l.length
 lk0:0≤lk∧lk≤3
 len:br.length≤a
 pos:0<a→0<br.length
 ok:(aJ l wd most a lk).isSome=(aJ l wd most 0 1).isSome
 go:(aJ l wd most 0 1).isSome=true→dZ l wd most=br++bkF l wd most (l.length+1-br.length) a lk
theorem BkI.start (l:List It) (wd most:Int):BkI l wd most 0 0 []:=⟨Nat.zero_le _,by decide,Nat.le_refl _,fun h=>by omega,by rw[sV 0 1],fun _=>by show dZ l wd most=bkF l wd most (l.length+1) 0 0;unfold dZ;rw[bkF,bkF,sV 1 0]⟩
theorem BkI.next {l:List It} {wd most:Int} {a:Nat} {lk:Int} {br:List Int} {r:Ch} (h:BkI l wd most a lk br) (hl:aW l=true) (hm:most≤10000) (ha:a<l.length) (hr:aJ l wd most a lk=some r):BkI l wd most (r.2.1+1) r.2.2 (br++[(r.2.1:Int)]):=by obtain⟨h1,h2⟩:=dJ hl hm h.le hr;obtain⟨h3,h4⟩:=h2 ha;obtain⟨x,c0,h5,h6⟩:=p8 ha hr;have hok:=h.ok;rw[hr]at hok;have h7:=h.len;refine⟨by omega,h4,by rw[List.length_append,List.length_singleton];omega,fun _=>by simp,by rw[h5,←hok];rfl,fun hs=>?_⟩;rw[h.go hs,show l.length+1-br.length=(l.length-br.length)+1 by omega,nK (by omega) hr];simp
theorem BkI.last {l:List It} {wd most:Int} {lk:Int} {br:List Int} (h:BkI l wd most l.length lk br):(aJ l wd most 0 1).isSome=true∧dZ l wd most=br:=by have h1:=h.ok;rw[nR]at h1;have h2:(aJ l wd most 0 1).isSome=true:=h1.symm;refine⟨h2,?_⟩;rw[h.go h2,yI,List.append_nil]
theorem atr:zeroOf Tryz.prog 143=some (.agg #[.slice none 0 0,.int .i64 0,.int .i64 0,.map none]):=by kernel_rfl
theorem asF:bW Tryz.prog 143=some #[(0,1),(1,1),(2,1),(3,1)]:=by kernel_rfl
theorem avL (ps:List (Nat×PV)):eY Tryz.prog 143 ps=(j4 (plF [(0,1),(1,1),(2,1),(3,1)]) [.val (.slice none 0 0),.val (.int .i64 0),.val (.int .i64 0),.val (.map none)] ps).map .agg:=zM atr rfl asF ps
theorem zF {ob:bD} {l:List It} {wd most:Int} {b:Nat} (h:ob 0=some (143,4,[.agg [fV l,iv wd,iv most,.val (.map (some b))]])):reify false 0 ob 8 (.own 0 4 0 0)=some (ahJ l wd most b):=by
 have h1:reify false 0 ob 6 (fV l)=some (fV l):=by(simp(disch:=(first|omega|(simp only[push_cast];first|done|omega))) only[push_cast,↓reduceIte,Nat.reduceEqDiff,Nat.reduceBEq,Nat.reduceAdd,Nat.reduceSub,Int.reduceToNat, *]<;>with_reducible exact rfl)
 have h2:reify false 0 ob 7 (.agg [fV l,iv wd,iv most,.val (.map (some b))])=some (.agg [fV l,iv wd,iv most,.val (.map (some b))]):=by show([fV l,iv wd,iv most,.val (.map (some b))].mapM (reify false 0 ob 6)).map PV.agg=_;simp only[List.mapM_cons,List.mapM_nil,h1];rfl
 show(if false=true∧0<0 then none else match ob 0 with
  |some (_,sz',es)=>if 4=sz' then(es[0]?).bind fun e=>(reify false 0 ob 7 e).map (PV.ptr false · 0)else none
  |none=>none)=_
 rw[if_neg (by decide),h];dsimp only
 rw[if_pos rfl];show(reify false 0 ob 7 (.agg [fV l,iv wd,iv most,.val (.map (some b))])).map (PV.ptr false · 0)=_;rw[h2];rfl
theorem ati (m:Option Nat):bS (.val (.map m))=some [.val (.map m)]:=rfl
attribute[push_cast]
 avL ati
def ay4:Ctx:={fn:=aY [(122,φLa)],io:=aY []}
theorem dK:ak Tryz.prog ay4:=okΓ (fC Tryz.func122 ajw aj) aj
def ad2:=ah (Γ:=ay4) (f:=122) (φ:=φLa) rfl
set_option maxRecDepth 100000 in
theorem ahV:Sound Tryz.prog 92 φBb:=by
 refine HY.sound (k:=145) (N:=44) (rs:=[.tmp 6,.tmp 7]) Tryz.func92 rfl rfl rfl fun ps r hr=>?_;obtain⟨l,wd,most,rfl,hpre,rfl⟩:=vv hr;refine⟨by simp,?_⟩;simp only[dIs,dUs,dSs,dz,dF,dx,dG,aR,dD,aU,aV,aS,aT];intro B w00;show HY _ _ _ _ _ _ _ (bY [fV l,.val (.int .i64 wd),.val (.int .i64 most)]) _;refine HY.start ?_;have apa:=arA (wd:=wd) (most:=most) hpre;have hl0:l.length≤1000:=hpre;clear hpre;have hll:((l.map gG).length:Int)=(l.length:Int):=by simp
 unfold aqa;refine HY.seq (HY.eng mixed dK (by kernel_rfl) ?_);by_cases hg:aW l=true∧0<l.length∧(0≤wd∧wd≤1000)∧(0≤most∧most≤10000)
 ·obtain⟨hB,hpos,hw,hm⟩:=hg
  have hok:jI l wd most=(aJ l wd most 0 1).isSome:=by unfold jI;rw[hB,decide_eq_true hpos,av.2 hw,av.2 hm];simp
  rw[hok];rw[hB,decide_eq_true hpos,av.2 hw,av.2 hm]at apa;simp only[Bool.and_self]at apa;clear hok;have gbki_c122:=ad2;(refine wlk ?_;intros);refine HY.seq (HY.eng mixed dK (by kernel_rfl) ?_);dsimp only
  (refine wlk ?_;intros);refine HY.seq (HY.each (HO.pre (imm:=⟨[],[],[]⟩) 3 dK (by kernel_rfl) (by simp only[List.take_succ_cons,List.take_zero]<;>exact rfl) (by simp only[List.drop_succ_cons,List.drop_zero]<;>exact rfl) (by simp only[List.map_cons,List.map_nil]<;>exact rfl) ?_));dsimp only
  (refine wlk ?_;intros);refine HO.make rfl rfl (by decide) rfl fun b hb=>?_;dsimp only[AS.put];refine HO.pre (imm:=⟨[],[],[]⟩) 3 dK (by kernel_rfl) (by simp only[List.take_succ_cons,List.take_zero]<;>exact rfl) (by simp only[List.drop_succ_cons,List.drop_zero]<;>exact rfl) (by simp only[List.map_cons,List.map_nil]<;>exact rfl) ?_;dsimp only
  (refine wlk ?_;intros);refine HO.nil ?_;refine HY.seq (HY.eng mixed dK (by kernel_rfl) ?_);(try dsimp only);(refine wlk ?_;intros);refine HY.seq (HY.eng mixed dK (by kernel_rfl) ?_);(try dsimp only);(refine wlk ?_;intros);(try dsimp only);refine HY.seq (HY.block (HY.aap (α:=Nat×Int×List Int×Nat×Nat) (fun i=>[(0,fV l),(8,.own 0 4 0 0),(9,.own 1 3 0 0),(10,nP 1 (i.2.2.1.map pvN) i.2.2.2.1)])
   (fun i=>[(0,143,4,[.agg [fV l,iv wd,iv most,.val (.map (some b))]]),(1,145,3,[.agg [iv ((i.1:Int)-1),bv (mkA l i.1),iv i.2.1]])]++nO 3 1 (i.2.2.1.map pvN) i.2.2.2.1)
   (fun i=>i.2.2.2.2) (fun i σ=>BkI l wd most i.1 i.2.1 i.2.2.1∧(2≤i.2.2.2.2∧(i.2.2.1≠[]→2≤i.2.2.2.1∧i.2.2.2.1<i.2.2.2.2))∧∃L',σ=some (b,L')∧qG l wd most L') (fun i=>l.length-i.1) (0,0,[],0,2) ⟨BkI.start l wd most,⟨by decide,fun h=>absurd rfl h⟩,[],rfl,fun p hp=>by cases hp⟩ ?_ ?_ rfl ?_))
  ·dsimp only
   exact agi
  ·dsimp only
   rw[show((0:Nat):Int)-1=-1 from rfl,show mkA l 0=false from rfl];simp(disch:=(first|omega|(simp only[push_cast];first|done|omega))) only[push_cast,↓reduceIte,Nat.reduceEqDiff,Nat.reduceBEq,Nat.reduceAdd,Nat.reduceSub,Int.reduceToNat,List.map_nil,List.append_nil, *]
  rintro⟨a,lk,br,x,y⟩ σ ⟨hI,⟨hy,hx⟩,L',rfl,hG⟩;dsimp only at hI hy hx;have HI:=Lib.hid hI;have HG:=Lib.hid hG;have hle:=hI.le;have hlk:=hI.lk0;have hbl:=hI.len;clear hI hG;have ih:=fun(h:a≤l.length)=>al1 hB hpos hw hm (l.length-a) a lk rfl h hlk b L' HG.out;have IH:=Lib.hid (ih hle);clear ih;dsimp only
  refine HY.seq (HY.eng mixed dK (by kernel_rfl) ?_);by_cases hal:a<l.length
  ·by_cases hnil:br=[]
   ·skip
    subst hnil;simp only[List.map_nil,eO,dO,List.append_nil];(refine wlk ?_;intros);refine HY.block (HY.seq (HY.each (HO.pre (imm:=⟨[],[],[]⟩) 2 dK (by kernel_rfl) (by simp only[List.take_succ_cons,List.take_zero]<;>exact rfl) (by simp only[List.drop_succ_cons,List.drop_zero]<;>exact rfl) (by simp only[List.map_cons,List.map_nil]<;>exact rfl) ?_)));(try dsimp only);(refine wlk ?_;intros);refine HO.call (ps:=[ahJ l wd most b,.agg [iv ((a:Int)-1),bv (mkA l a),iv lk]]) (R:=fun p L'=>p=chP l a (aJ l wd most a lk)∧qG l wd most L') rfl rfl ⟨_,Tryz.func123,rfl,rfl⟩ rfl ?_ ?_ IH.out ?_
    ·intro x e
     cases e;decide
    ·(try dsimp only)
     simp(disch:=(first|omega|(simp only[push_cast];first|done|omega))) only[push_cast,↓reduceIte,Nat.reduceEqDiff,Nat.reduceBEq,Nat.reduceAdd,Nat.reduceSub,Int.reduceToNat,zF (l:=l) (wd:=wd) (most:=most) (b:=b), *]
    rintro p L3 ⟨rfl,hL3⟩;rw[aah (show¬a=l.length by omega)];have HL3:=Lib.hid hL3;clear hL3;cases hr:aJ l wd most a lk with
    |none=>
     have hno:(aJ l wd most 0 1).isSome=false:=by rw[←HI.out.ok,hr];rfl
     rw[hno,if_neg (by decide)];dsimp only[aC,aN,aM,aK,AS.put];refine HO.pre (imm:=⟨[],[],[]⟩) 2 dK (by kernel_rfl) (by simp only[List.take_succ_cons,List.take_zero]<;>exact rfl) (by simp only[List.drop_succ_cons,List.drop_zero]<;>exact rfl) (by simp only[List.map_cons,List.map_nil]<;>exact rfl) ?_;(try dsimp only);(refine wlk ?_;intros);refine HO.nil ?_;refine HY.seq (HY.eng mixed dK (by kernel_rfl) ?_);(try dsimp only);(refine wlk ?_;intros);refine⟨by simp,⟨_,oM (ps:=[.val (.slice none 0 0),bv false]) ⟨nil_le _ _,PV.le_refl _,trivial⟩,?_⟩,fun b2 L2 e=>by cases e;exact hb⟩;(simp(disch:=(first|omega|(simp only[push_cast];first|done|omega))) only[push_cast,↓reduceIte,Nat.reduceEqDiff,Nat.reduceBEq,Nat.reduceAdd,Nat.reduceSub,Int.reduceToNat, *]<;>with_reducible exact rfl)
    |some r=>
     have hn:=HI.out.next hB hm.2 hal hr
     replace hn:=Lib.hid hn;have hr1:=(dJ hB hm.2 hle hr).1;have hr2:=((dJ hB hm.2 hle hr).2 hal).1;clear hr;obtain⟨r1,r2,r3⟩:=r;dsimp only at hr1 hr2;dsimp only[aC,aN,aM,aK,AS.put];refine HO.pre (imm:=⟨[],[],[]⟩) 2 dK (by kernel_rfl) (by simp only[List.take_succ_cons,List.take_zero]<;>exact rfl) (by simp only[List.drop_succ_cons,List.drop_zero]<;>exact rfl) (by simp only[List.map_cons,List.map_nil]<;>exact rfl) ?_;(try dsimp only);(refine wlk ?_;intros);refine HO.nil ?_;refine HY.seq (HY.eng mixed dK (by kernel_rfl) ?_);(try dsimp only);(refine wlk ?_;intros);refine HY.eng mixed dK (by kernel_rfl) ?_;(try dsimp only);(refine wlk ?_;intros);(try dsimp only);show∃j:Nat×Int×List Int×Nat×Nat,_;refine⟨(r2+1,r3,[(r2:Int)],y+2,y+3),⟨hn.out,⟨by dsimp only;omega,fun _=>⟨by dsimp only;omega,by dsimp only;omega⟩⟩,L3,rfl,HL3.out⟩,by dsimp only;omega,?_,?_,rfl⟩
     ·dsimp only
      rw[aA (by simp)];exact agi
     ·dsimp only
      rw[aB (by simp),show mkA l (r2+1)=(gI l r2).2.2.2.2.2.2 from rfl];simp(disch:=(first|omega|(simp only[push_cast];first|done|omega))) only[push_cast,↓reduceIte,Nat.reduceEqDiff,Nat.reduceBEq,Nat.reduceAdd,Nat.reduceSub,Int.reduceToNat,List.cons_append,List.nil_append, *]
   ·skip
    have hbp:0<(br.map pvN).length:=by rw[List.length_map];exact List.length_pos_iff.2 hnil
    obtain⟨hx2,hxy⟩:=hx hnil;rw[aA hbp,aB hbp,List.length_map];simp only[List.cons_append,List.nil_append];have hx0:¬x=0:=by omega
    have hx1:¬x=1:=by omega
    have hxy2:¬x=y:=by omega
    have hyx:¬y=x:=by omega
    (refine wlk ?_;intros);refine HY.block (HY.seq (HY.each (HO.pre (imm:=⟨[],[],[]⟩) 2 dK (by kernel_rfl) (by simp only[List.take_succ_cons,List.take_zero]<;>exact rfl) (by simp only[List.drop_succ_cons,List.drop_zero]<;>exact rfl) (by simp only[List.map_cons,List.map_nil]<;>exact rfl) ?_)));(try dsimp only);(refine wlk ?_;intros);refine HO.call (ps:=[ahJ l wd most b,.agg [iv ((a:Int)-1),bv (mkA l a),iv lk]]) (R:=fun p L'=>p=chP l a (aJ l wd most a lk)∧qG l wd most L') rfl rfl ⟨_,Tryz.func123,rfl,rfl⟩ rfl ?_ ?_ IH.out ?_
    ·intro x e
     cases e;decide
    ·(try dsimp only)
     simp(disch:=(first|omega|(simp only[push_cast];first|done|omega))) only[push_cast,↓reduceIte,Nat.reduceEqDiff,Nat.reduceBEq,Nat.reduceAdd,Nat.reduceSub,Int.reduceToNat,zF (l:=l) (wd:=wd) (most:=most) (b:=b), *]
    rintro p L3 ⟨rfl,hL3⟩;rw[aah (show¬a=l.length by omega)];have HL3:=Lib.hid hL3;clear hL3;cases hr:aJ l wd most a lk with
    |none=>
     have hno:(aJ l wd most 0 1).isSome=false:=by rw[←HI.out.ok,hr];rfl
     rw[hno,if_neg (by decide)];dsimp only[aC,aN,aM,aK,AS.put];refine HO.pre (imm:=⟨[],[],[]⟩) 2 dK (by kernel_rfl) (by simp only[List.take_succ_cons,List.take_zero]<;>exact rfl) (by simp only[List.drop_succ_cons,List.drop_zero]<;>exact rfl) (by simp only[List.map_cons,List.map_nil]<;>exact rfl) ?_;(try dsimp only);(refine wlk ?_;intros);refine HO.nil ?_;refine HY.seq (HY.eng mixed dK (by kernel_rfl) ?_);(try dsimp only);(refine wlk ?_;intros);refine⟨by simp,⟨_,oM (ps:=[.val (.slice none 0 0),bv false]) ⟨nil_le _ _,PV.le_refl _,trivial⟩,?_⟩,fun b2 L2 e=>by cases e;exact hb⟩;(simp(disch:=(first|omega|(simp only[push_cast];first|done|omega))) only[push_cast,↓reduceIte,Nat.reduceEqDiff,Nat.reduceBEq,Nat.reduceAdd,Nat.reduceSub,Int.reduceToNat, *]<;>with_reducible exact rfl)
    |some r=>
     have hn:=HI.out.next hB hm.2 hal hr
     replace hn:=Lib.hid hn;have hr1:=(dJ hB hm.2 hle hr).1;have hr2:=((dJ hB hm.2 hle hr).2 hal).1;clear hr;obtain⟨r1,r2,r3⟩:=r;dsimp only at hr1 hr2;dsimp only[aC,aN,aM,aK,AS.put];refine HO.pre (imm:=⟨[],[],[]⟩) 2 dK (by kernel_rfl) (by simp only[List.take_succ_cons,List.take_zero]<;>exact rfl) (by simp only[List.drop_succ_cons,List.drop_zero]<;>exact rfl) (by simp only[List.map_cons,List.map_nil]<;>exact rfl) ?_;(try dsimp only);(refine wlk ?_;intros);refine HO.nil ?_;refine HY.seq (HY.eng mixed dK (by kernel_rfl) ?_);(try dsimp only);(refine wlk ?_;intros);refine HY.eng mixed dK (by kernel_rfl) ?_;(try dsimp only);(refine wlk ?_;intros);(try dsimp only);show∃j:Nat×Int×List Int×Nat×Nat,_;refine⟨(r2+1,r3,br++[(r2:Int)],y+2,y+3),⟨hn.out,⟨by dsimp only;omega,fun _=>⟨by dsimp only;omega,by dsimp only;omega⟩⟩,L3,rfl,HL3.out⟩,by dsimp only;omega,?_,?_,rfl⟩
     ·dsimp only
      rw[aA (by simp)];exact agi
     ·dsimp only
      rw[aB (by simp),show mkA l (r2+1)=(gI l r2).2.2.2.2.2.2 from rfl];simp(disch:=(first|omega|(simp only[push_cast];first|done|omega))) only[push_cast,↓reduceIte,Nat.reduceEqDiff,Nat.reduceBEq,Nat.reduceAdd,Nat.reduceSub,Int.reduceToNat,List.cons_append,List.nil_append, *]
  ·obtain rfl:a=l.length:=by omega
   obtain⟨hs,hbr⟩:=HI.out.last;rw[hs,if_pos rfl,hbr];have hne:br≠[]:=fun h=>by have:=HI.out.pos hpos;rw[h]at this;simp at this
   have hbp:0<(br.map pvN).length:=by rw[List.length_map];exact List.length_pos_iff.2 hne
   obtain⟨hx2,hxy⟩:=hx hne;rw[aA hbp,aB hbp,List.length_map];simp only[List.cons_append,List.nil_append];have hx0:¬x=0:=by omega
   have hx1:¬x=1:=by omega
   clear hbr hs;(refine wlk ?_;intros);refine HY.seq (HY.eng mixed dK (by kernel_rfl) ?_);(try dsimp only);(refine wlk ?_;intros);refine HY.ret ?_;refine⟨by simp,⟨_,PV.le_refl _,?_⟩,fun b2 L2 e=>by cases e;exact hb⟩;(try dsimp only);(simp(disch:=(first|omega|(simp only[push_cast];first|done|omega))) only[push_cast,↓reduceIte,Nat.reduceEqDiff,Nat.reduceBEq,Nat.reduceAdd,Nat.reduceSub,Int.reduceToNat, *]<;>with_reducible exact rfl)
 ·have hno:jI l wd most=false:=by
   cases h:jI l wd most with
   |false=>rfl
   |true=>obtain⟨h1,h2,h3,h4,-⟩:=gZ.1 h;exact absurd ⟨h1,h2,h3,h4⟩ hg
  have hno2:(aW l&&(decide (0<l.length)&&(inB wd 0 1000&&inB most 0 10000)))=false:=by
   cases h:(aW l&&(decide (0<l.length)&&(inB wd 0 1000&&inB most 0 10000)))with
   |false=>rfl
   |true=>simp only[Bool.and_eq_true,decide_eq_true_eq,av]at h;exact absurd h hg
  rw[hno,if_neg (by decide)];rw[hno2]at apa;clear hno hno2 hg;have gbki_c122:=ad2;(refine wlk ?_;intros);refine HY.seq (HY.eng mixed dK (by kernel_rfl) ?_);(try dsimp only);(refine wlk ?_;intros);refine⟨by simp,⟨_,oM (ps:=[.val (.slice none 0 0),bv false]) ⟨nil_le _ _,PV.le_refl _,trivial⟩,?_⟩,fun b2 L2 e=>by cases e⟩;(simp(disch:=(first|omega|(simp only[push_cast];first|done|omega))) only[push_cast,↓reduceIte,Nat.reduceEqDiff,Nat.reduceBEq,Nat.reduceAdd,Nat.reduceSub,Int.reduceToNat, *]<;>with_reducible exact rfl)
def aaO (ws pats:LS):Bool:=bN ws&&(bE pats&&decide (0<ws.length))
def amv:Fun:=F2 dSs dSs fun ws pats=>if oo ws∧oo pats then some (.tup [.lst true 7 ((if aaO ws pats=true then piR ws pats else []).map gG),.lst true 1 ((if aaO ws pats=true then txR ws pats else []).map fun s=> .val (.string s)),bv (ql ws pats)])else none
theorem ami {ws pats:LS} (h:oo ws∧oo pats):amv [.lst false 1 (ws.map fun s=> .val (.string s)),.lst false 1 (pats.map fun s=> .val (.string s))]=some (.tup [.lst true 7 ((if aaO ws pats=true then piR ws pats else []).map gG),.lst true 1 ((if aaO ws pats=true then txR ws pats else []).map fun s=> .val (.string s)),.val (.bool (ql ws pats))]):=(jm (A:=dSs) (B:=dSs) ws pats).trans (if_pos h)
theorem aam {w:ByteArray} {pats:LS} (h1:dM w=true) (h2:bE pats=true):0<(bZ w pats).length:=by unfold bZ;rw[if_pos (jW.2 ⟨h1,h2⟩)];unfold aaz;rw[ai7];omega
theorem agt {ws pats:LS} (h1:bN ws=true) (h2:bE pats=true):∀k,k≤ws.length→0<k→0<(txK ws pats k).length
 |0,_,h=>by omega
 |k+1,hk,_=>by have:=aam (pats:=pats) (aeg h1 (k:=k) (by omega)) h2;rw[txK,List.length_append];omega
theorem aq2 {ws pats:LS} (h1:bN ws=true) (h2:bE pats=true) {k:Nat} (hk:k≤ws.length) (h:0<k):0<(piK ws pats k).length:=by have h3:=agt h1 h2 k hk h;rw[←arW]at h3;exact Nat.lt_of_lt_of_le h3 (List.length_filter_le _ _)
theorem vO {l:LS} {k:Nat} (h:k<l.length):l.take (k+1)=l.take k++[l[k]?.getD .empty]:=by rw[List.take_succ_eq_append_getElem h,List.getElem?_eq_getElem h];rfl
theorem aix (ps:LS):∀{k:Nat},0<k→0<(wiK ps k).length
 |0,h=>by omega
 |k+1,_=>by rw[wiK,List.length_append,List.length_singleton];omega
def aum:Ctx:={fn:=aY [(70,iX),(71,gX),(120,φPr),(121,φWw)],io:=aY []}
theorem an6:ak Tryz.prog aum:=okΓ (fC Tryz.func70 jH (fC Tryz.func71 dR (fC Tryz.func120 ahC (fC Tryz.func121 ajb aj)))) aj
def xU:=ah (Γ:=aum) (f:=70) (φ:=iX) rfl
def yZ:=ah (Γ:=aum) (f:=71) (φ:=gX) rfl
def qO:=ah (Γ:=aum) (f:=120) (φ:=φPr) rfl
def qY:=ah (Γ:=aum) (f:=121) (φ:=φWw) rfl
theorem aeD:Sound Tryz.prog 91 amv:=by
 refine gM mixed an6 Tryz.func91 rfl 81 rfl [.tmp 4,.tmp 5,.tmp 6] rfl (by kernel_rfl) fun ps r hr=>?_;obtain⟨ws,pats,rfl,hpre,rfl⟩:=iB hr;refine⟨by simp,?_⟩;simp only[dIs,dUs,dSs,dz,dF,dx,dG,aR,dD,aU,aV,aS,aT];have ap1:=lX hpre.1;have ap2:=iJ hpre.2;have hwl0:=hpre.1.1;cases hw:bN ws with
 |false=>
  have hA:aaO ws pats=false:=by unfold aaO;rw[hw];rfl
  have hB:ql ws pats=false:=by unfold ql;rw[hw];rfl
  rw[hw]at ap1;rw[hB,hA];simp only[Bool.false_eq_true,if_false,List.map_nil];clear hpre hw hB hA;have gpit_c70:=xU;have gpit_c71:=yZ;have gpit_c120:=qO;have gpit_c121:=qY;(refine wlk ?_;intros);all_goals((with_reducible apply dw (by first|exact .inl rfl|exact .inr rfl));(simp(disch:=(first|omega|(simp only[push_cast];first|done|omega))) only[push_cast,↓reduceIte,Nat.reduceEqDiff,Nat.reduceBEq,Nat.reduceAdd,Nat.reduceSub,Int.reduceToNat, *]<;>with_reducible exact rfl))
  all_goals exact oM ⟨nil_le _ _,nil_le _ _,PV.le_refl _,trivial⟩
 |true=>
 cases hp:bE pats with
 |false=>
  have hA:aaO ws pats=false:=by unfold aaO;rw[hw,hp];rfl
  have hB:ql ws pats=false:=by unfold ql;rw[hw,hp];rfl
  rw[hw]at ap1;rw[hp]at ap2;rw[hB,hA];simp only[Bool.false_eq_true,if_false,List.map_nil];clear hpre hw hp hB hA;have gpit_c70:=xU;have gpit_c71:=yZ;have gpit_c120:=qO;have gpit_c121:=qY;(refine wlk ?_;intros);all_goals((with_reducible apply dw (by first|exact .inl rfl|exact .inr rfl));(simp(disch:=(first|omega|(simp only[push_cast];first|done|omega))) only[push_cast,↓reduceIte,Nat.reduceEqDiff,Nat.reduceBEq,Nat.reduceAdd,Nat.reduceSub,Int.reduceToNat, *]<;>with_reducible exact rfl))
  all_goals exact oM ⟨nil_le _ _,nil_le _ _,PV.le_refl _,trivial⟩
 |true=>
 by_cases hz:ws.length=0
 ·have hA:aaO ws pats=false:=by unfold aaO;rw[hw,hp,hz];rfl
  have hB:ql ws pats=false:=by unfold ql;rw[hw,hp,hz];rfl
  rw[hw]at ap1;rw[hp]at ap2;rw[hB,hA];simp only[Bool.false_eq_true,if_false,List.map_nil];clear hpre hw hp hB hA;have gpit_c70:=xU;have gpit_c71:=yZ;have gpit_c120:=qO;have gpit_c121:=qY;(refine wlk ?_;intros);all_goals((with_reducible apply dw (by first|exact .inl rfl|exact .inr rfl));(simp(disch:=(first|omega|(simp only[push_cast];first|done|omega))) only[push_cast,↓reduceIte,Nat.reduceEqDiff,Nat.reduceBEq,Nat.reduceAdd,Nat.reduceSub,Int.reduceToNat, *]<;>with_reducible exact rfl))
  all_goals exact oM ⟨nil_le _ _,nil_le _ _,PV.le_refl _,trivial⟩
 ·have hB:ql ws pats=decide ((piR ws pats).length≤60):=by unfold ql;rw[hw,hp,decide_eq_true (show 0<ws.length by omega)];rfl
  have hA:aaO ws pats=true:=by unfold aaO;rw[hw,hp,decide_eq_true (show 0<ws.length by omega)];rfl
  have hwl:=tX hw;have hap:∀k,k<ws.length→φPr [.val (.string (ws[k]?.getD .empty)),.lst false 1 (pats.map fun s=> .val (.string s))]=some (.lst true 1 ((bZ (ws[k]?.getD .empty) pats).map fun s=> .val (.string s))):=fun k hk=>aaW ⟨hpre.1.2 k,hpre.2⟩;have hpp:∀k:Nat,k<ws.length→0<(bZ (ws[k]?.getD ByteArray.empty) pats).length:=fun k hk=>aam (aeg hw hk) hp;have hpw:∀k j:Nat,j<(bZ (ws[k]?.getD ByteArray.empty) pats).length→((bZ (ws[k]?.getD ByteArray.empty) pats)[j]?.getD .empty).size≤1048576:=fun k j hj=>by have:=(aX (zW hj)).2.2;omega
  have hpl:∀k:Nat,(bZ (ws[k]?.getD ByteArray.empty) pats).length≤21:=fun k=>jG _ _;have htp:=fun k hk h0=>agt hw hp k hk h0;have hip:=fun k hk h0=>aq2 (k:=k) hw hp hk h0;have htl:=acr ws pats;have hil:=ab8 ws pats;rw[hw]at ap1;rw[hp]at ap2;rw[hB,hA];simp only[if_true];have hR:piR ws pats=piK ws pats ws.length++[(3,0,0,0,0,10000,false),(2,0,1,0,1,0,false),(3,0,0,0,0,-10000,false)]:=rfl;have hT:txR ws pats=txK ws pats ws.length:=rfl;rw[hR,hT];clear hpre hw hp hB hA hR hT;have gpit_c70:=xU;have gpit_c71:=yZ;have gpit_c120:=qO;have gpit_c121:=qY;(refine wlk ?_;intros);refine aG (α:=Nat×Nat×Nat×Nat) mixed (fun z=>[(1,.lst false 1 (pats.map pvS)),(7,nP 7 ((piK ws pats z.1).map gG) z.2.1),(8,nP 1 ((txK ws pats z.1).map pvS) z.2.2.1),(26,.lst false 1 (ws.map pvS)),(27,iv ws.length),(28,iv z.1)])
   (fun z=>nO 111 7 ((piK ws pats z.1).map gG) z.2.1++nO 9 1 ((txK ws pats z.1).map pvS) z.2.2.1) (fun z=>z.2.2.2)
   (fun z=>z.1≤ws.length∧(0<z.1→z.2.1<z.2.2.2∧z.2.2.1<z.2.2.2∧¬z.2.1=z.2.2.1)) (fun z=>ws.length-z.1) (by kernel_rfl) (0,0,0,0) ⟨Nat.zero_le _,by simp⟩ ?_ ?_ rfl ?_
  ·simp(disch:=(first|omega|(simp only[push_cast];first|done|omega))) only[push_cast,↓reduceIte,Nat.reduceEqDiff,Nat.reduceBEq,Nat.reduceAdd,Nat.reduceSub,Int.reduceToNat,piK,txK,List.map_nil, *]
  ·simp(disch:=(first|omega|(simp only[push_cast];first|done|omega))) only[push_cast,↓reduceIte,Nat.reduceEqDiff,Nat.reduceBEq,Nat.reduceAdd,Nat.reduceSub,Int.reduceToNat,piK,txK,List.map_nil,List.append_nil, *]
  rintro⟨k,x,xt,y⟩ ⟨hk,hxy⟩;dsimp only at hk hxy;by_cases h0:k<ws.length
  ·have apr:=hap k h0
   have hps:=hpw k;have hpl2:=hpl k;have hpp2:=hpp k h0;have hKI0:piK ws pats (k+1)=(if k=0 then piK ws pats k else piK ws pats k++[(2,4,3,1,0,0,false)])++wiK (bZ (ws[k]?.getD .empty) pats) (bZ (ws[k]?.getD .empty) pats).length:=rfl;have hKT:txK ws pats (k+1)=txK ws pats k++bZ (ws[k]?.getD .empty) pats:=rfl;have hpos:=Lib.hid (And.intro (hip (k+1) (by omega) (by omega)) (htp (k+1) (by omega) (by omega)));have hlk:=hil k;have hlt:=htl k;generalize bZ (ws[k]?.getD .empty) pats=ps at*;have hwk:=za ps;by_cases hk0:k=0
   ·rw[if_pos hk0]at hKI0
    have hI0:piK ws pats k=[]:=by rw[hk0];rfl
    have hT0:txK ws pats k=[]:=by rw[hk0];rfl
    obtain⟨A,hA⟩:∃A,A=piK ws pats k:=⟨_,rfl⟩;obtain⟨T,hT⟩:∃T,T=txK ws pats k:=⟨_,rfl⟩;have hAT:(0<A.length∧0<T.length)∨(A.length=0∧T.length=0):=.inr (by rw[hA,hT,hI0,hT0];exact⟨rfl,rfl⟩);rw[←hA]at hKI0 hlk;rw[←hT]at hKT hlt;have hAe:A=[]:=hA.trans hI0;have hTe:T=[]:=hT.trans hT0;rw[hI0,hT0];replace hAe:=Lib.hid hAe;replace hTe:=Lib.hid hTe;have hKI:=Lib.hid hKI0;replace hKT:=Lib.hid hKT;replace hI0:=Lib.hid hI0;replace hk0:k<1:=by omega
    clear hKI0 hA hT hT0 hxy hap hpp hpw hpl hil htl hip htp;(refine wlk ?_;intros);refine aG (α:=Nat×Nat×Nat×Nat) mixed (fun z=>[(1,.lst false 1 (pats.map pvS)),(7,nP 7 ((A++wiK ps z.1).map gG) z.2.1),(8,nP 1 ((T++ps.take z.1).map pvS) z.2.2.1),(26,.lst false 1 (ws.map pvS)),(27,iv ws.length),(28,iv k),(42,.lst true 1 (ps.map pvS)),(43,iv ps.length),(44,iv z.1)])
     (fun z=>nO 111 7 ((A++wiK ps z.1).map gG) z.2.1++nO 9 1 ((T++ps.take z.1).map pvS) z.2.2.1) (fun z=>z.2.2.2)
     (fun z=>z.1≤ps.length∧(0<(A++wiK ps z.1).length→z.2.1<z.2.2.2∧z.2.2.1<z.2.2.2∧¬z.2.1=z.2.2.1)) (fun z=>ps.length-z.1) (by kernel_rfl) (0,x,xt,y) ⟨Nat.zero_le _,fun h=>by rw[hAe.out]at h;simp[wiK]at h⟩ ?_ ?_ rfl ?_
    ·simp(disch:=(first|omega|(simp only[push_cast];first|done|omega))) only[push_cast,↓reduceIte,Nat.reduceEqDiff,Nat.reduceBEq,Nat.reduceAdd,Nat.reduceSub,Int.reduceToNat,wiK,List.take_zero,List.append_nil,hAe.out,hTe.out,List.map_nil, *]
    ·simp(disch:=(first|omega|(simp only[push_cast];first|done|omega))) only[push_cast,↓reduceIte,Nat.reduceEqDiff,Nat.reduceBEq,Nat.reduceAdd,Nat.reduceSub,Int.reduceToNat,wiK,List.take_zero,List.append_nil,hAe.out,hTe.out,List.map_nil, *]
    clear hI0;rintro⟨j,x2,xt2,y2⟩ ⟨hj,hx2⟩;dsimp only at hj hx2;have hwj:=hwk j;by_cases hjl:j<ps.length
    ·have hn:A++wiK ps (j+1)=(if j=0 then A++wiK ps j else(A++wiK ps j)++[(3,3,0,0,0,50,true)])++[(1,p9 (ps[j]?.getD .empty),0,0,0,0,false)]:=by rw[wiK];split<;>simp
     have ht:T++ps.take (j+1)=(T++ps.take j)++[ps[j]?.getD .empty]:=by rw[vO hjl,List.append_assoc]
     have h3:(0<(A++wiK ps j).length∧0<(T++ps.take j).length)∨((A++wiK ps j)=[]∧(T++ps.take j)=[]∧j<1):=by
      by_cases hj0:j=0
      ·subst hj0
       rcases hAT with h|h
       ·exact .inl ⟨by rw[List.length_append];omega,by rw[List.length_append];omega⟩
       ·exact .inr ⟨by rw[List.eq_nil_of_length_eq_zero h.1];rfl,by rw[List.eq_nil_of_length_eq_zero h.2];rfl,by omega⟩
      ·refine .inl ⟨by rw[List.length_append];have:=aix ps (k:=j) (by omega);omega,by rw[List.length_append,List.length_take];omega⟩
     have hil2:(A++wiK ps j).length≤700:=by rw[List.length_append];omega
     have htl2:(T++ps.take j).length≤400:=by rw[List.length_append,List.length_take];omega
     have apw:=acH (hps j hjl);have hnx:0<(A++wiK ps (j+1)).length∧0<(T++ps.take (j+1)).length:=⟨by rw[hn,List.length_append,List.length_singleton];omega,by rw[ht,List.length_append,List.length_singleton];omega⟩;replace hnx:=Lib.hid hnx;replace hn:=Lib.hid hn;replace ht:=Lib.hid ht;generalize A++wiK ps j=its at*;generalize T++ps.take j=tx at*;clear hwj hwk hps;rcases h3 with⟨hi0,ht0⟩|⟨rfl,rfl,hj1⟩
     ·obtain⟨x3,x4,x5⟩:=hx2 hi0
      have hap:0<(its.map gG).length:=by rw[List.length_map];omega
      have hbp:0<(tx.map pvS).length:=by rw[List.length_map];omega
      have x6:¬xt2=x2:=fun q=>x5 q.symm;clear hx2;simp only[aA hap,aA hbp,aB hap,aB hbp,List.length_map,List.cons_append,List.nil_append];by_cases hj0:j=0
      ·have hn2:=hn.out
       rw[if_pos hj0]at hn2;replace hn2:=Lib.hid hn2;replace hj0:j<1:=by omega
       (refine wlk ?_;intros);refine⟨(j+1,y2+1,y2+3,y2+4),⟨by dsimp only;omega,fun _=>by dsimp only;omega⟩,by dsimp only;omega,?_,?_,rfl⟩
       ·have h1:=hnx.out
        have hap3:0<((A++wiK ps (j+1)).map gG).length:=by rw[List.length_map];exact h1.1
        have hbp3:0<((T++ps.take (j+1)).map pvS).length:=by rw[List.length_map];exact h1.2
        dsimp only
        rw[aA hap3,aA hbp3,hn2.out,ht.out];exact agr
       ·have h1:=hnx.out
        have hap3:0<((A++wiK ps (j+1)).map gG).length:=by rw[List.length_map];exact h1.1
        have hbp3:0<((T++ps.take (j+1)).map pvS).length:=by rw[List.length_map];exact h1.2
        dsimp only
        rw[aB hap3,aB hbp3,hn2.out,ht.out];simp(disch:=(first|omega|(simp only[push_cast];first|done|omega))) only[push_cast,↓reduceIte,Nat.reduceEqDiff,Nat.reduceBEq,Nat.reduceAdd,Nat.reduceSub,Int.reduceToNat,List.cons_append,List.nil_append, *]
      ·have hn2:=hn.out
       rw[if_neg hj0]at hn2;replace hn2:=Lib.hid hn2;(refine wlk ?_;intros);refine⟨(j+1,y2+3,y2+5,y2+6),⟨by dsimp only;omega,fun _=>by dsimp only;omega⟩,by dsimp only;omega,?_,?_,rfl⟩
       ·have h1:=hnx.out
        have hap3:0<((A++wiK ps (j+1)).map gG).length:=by rw[List.length_map];exact h1.1
        have hbp3:0<((T++ps.take (j+1)).map pvS).length:=by rw[List.length_map];exact h1.2
        dsimp only
        rw[aA hap3,aA hbp3,hn2.out,ht.out];exact agr
       ·have h1:=hnx.out
        have hap3:0<((A++wiK ps (j+1)).map gG).length:=by rw[List.length_map];exact h1.1
        have hbp3:0<((T++ps.take (j+1)).map pvS).length:=by rw[List.length_map];exact h1.2
        dsimp only
        rw[aB hap3,aB hbp3,hn2.out,ht.out];simp(disch:=(first|omega|(simp only[push_cast];first|done|omega))) only[push_cast,↓reduceIte,Nat.reduceEqDiff,Nat.reduceBEq,Nat.reduceAdd,Nat.reduceSub,Int.reduceToNat,List.cons_append,List.nil_append, *]
     ·have hn2:=hn.out
      rw[if_pos (show j=0 by omega)]at hn2;replace hn2:=Lib.hid hn2;clear hx2;(refine wlk ?_;intros);refine⟨(j+1,y2+1,y2+3,y2+4),⟨by dsimp only;omega,fun _=>by dsimp only;omega⟩,by dsimp only;omega,?_,?_,rfl⟩
      ·have h1:=hnx.out
       have hap3:0<((A++wiK ps (j+1)).map gG).length:=by rw[List.length_map];exact h1.1
       have hbp3:0<((T++ps.take (j+1)).map pvS).length:=by rw[List.length_map];exact h1.2
       dsimp only
       rw[aA hap3,aA hbp3,hn2.out,ht.out];exact agr
      ·have h1:=hnx.out
       have hap3:0<((A++wiK ps (j+1)).map gG).length:=by rw[List.length_map];exact h1.1
       have hbp3:0<((T++ps.take (j+1)).map pvS).length:=by rw[List.length_map];exact h1.2
       dsimp only
       rw[aB hap3,aB hbp3,hn2.out,ht.out];simp(disch:=(first|omega|(simp only[push_cast];first|done|omega))) only[push_cast,↓reduceIte,Nat.reduceEqDiff,Nat.reduceBEq,Nat.reduceAdd,Nat.reduceSub,Int.reduceToNat,List.cons_append,List.nil_append, *]
    ·obtain rfl:j=ps.length:=by omega
     rw[List.take_length]at*;rw[←hKI.out,←hKT.out]at*;obtain⟨hi2,ht2⟩:=hpos.out;obtain⟨x3,x4,x5⟩:=hx2 hi2;have x6:¬xt2=x2:=fun q=>x5 q.symm;have hap:0<((piK ws pats (k+1)).map gG).length:=by rw[List.length_map];omega
     have hbp:0<((txK ws pats (k+1)).map pvS).length:=by rw[List.length_map];omega
     clear hx2 hwk hps;simp only[aA hap,aA hbp,aB hap,aB hbp,List.length_map,List.cons_append,List.nil_append];(refine wlk ?_;intros);refine⟨(k+1,x2,xt2,y2),⟨by dsimp only;omega,fun _=>⟨x3,x4,x5⟩⟩,by dsimp only;omega,?_,?_,rfl⟩
     ·simp(disch:=(first|omega|(simp only[push_cast];first|done|omega))) only[push_cast,↓reduceIte,Nat.reduceEqDiff,Nat.reduceBEq,Nat.reduceAdd,Nat.reduceSub,Int.reduceToNat,aA hap,aA hbp, *]
     ·simp(disch:=(first|omega|(simp only[push_cast];first|done|omega))) only[push_cast,↓reduceIte,Nat.reduceEqDiff,Nat.reduceBEq,Nat.reduceAdd,Nat.reduceSub,Int.reduceToNat,aB hap,aB hbp,List.cons_append,List.nil_append, *]
   ·rw[if_neg hk0]at hKI0
    have hi0:=hip k hk (by omega);have ht0:=htp k hk (by omega);obtain⟨x3,x4,x5⟩:=hxy (by omega);have x6:¬xt=x:=fun q=>x5 q.symm;obtain⟨A,hA⟩:∃A,A=piK ws pats k++[(2,4,3,1,0,0,false)]:=⟨_,rfl⟩;rw[←hA]at hKI0;have hAl:A.length=(piK ws pats k).length+1:=by rw[hA];simp
    generalize piK ws pats k=P at*;generalize txK ws pats k=T at*;have hAT:(0<A.length∧0<T.length)∨(A.length=0∧T.length=0):=.inl ⟨by omega,ht0⟩;have hap1:0<(P.map gG).length:=by rw[List.length_map];omega
    have hbp1:0<(T.map pvS).length:=by rw[List.length_map];omega
    have hap2:0<((A++wiK ps 0).map gG).length:=by rw[List.length_map,List.length_append];omega
    have hbp2:0<((T++ps.take 0).map pvS).length:=by rw[List.length_map,List.length_append];omega
    simp only[aA hap1,aA hbp1,aB hap1,aB hbp1,List.length_map,List.cons_append,List.nil_append];have hlkP:P.length≤600:=by omega
    replace hlk:A.length≤43*k+1:=by omega
    have hA1:A++wiK ps 0=P++[(2,4,3,1,0,0,false)]:=by rw[hA];exact List.append_nil _
    have hT1:T++ps.take 0=T:=List.append_nil _;have hI0:=Lib.hid (And.intro hA1 hT1);have hKI:=Lib.hid hKI0;replace hKT:=Lib.hid hKT;replace hA:=Lib.hid hA;replace hAl:=Lib.hid hAl;clear hKI0 hxy hap hpp hpw hpl hil htl hip htp hA1 hT1;replace hk0:0<k:=by omega
    (refine wlk ?_;intros);refine aG (α:=Nat×Nat×Nat×Nat) mixed (fun z=>[(1,.lst false 1 (pats.map pvS)),(7,nP 7 ((A++wiK ps z.1).map gG) z.2.1),(8,nP 1 ((T++ps.take z.1).map pvS) z.2.2.1),(26,.lst false 1 (ws.map pvS)),(27,iv ws.length),(28,iv k),(42,.lst true 1 (ps.map pvS)),(43,iv ps.length),(44,iv z.1)])
     (fun z=>nO 111 7 ((A++wiK ps z.1).map gG) z.2.1++nO 9 1 ((T++ps.take z.1).map pvS) z.2.2.1) (fun z=>z.2.2.2)
     (fun z=>z.1≤ps.length∧(0<(A++wiK ps z.1).length→z.2.1<z.2.2.2∧z.2.2.1<z.2.2.2∧¬z.2.1=z.2.2.1)) (fun z=>ps.length-z.1) (by kernel_rfl) (0,y+1,xt,y+2) ⟨Nat.zero_le _,fun _=>by dsimp only;omega⟩ ?_ ?_ rfl ?_
    ·dsimp only;rw[aA hap2,aA hbp2,hI0.out.1,hI0.out.2];exact agr
    ·dsimp only;rw[aB hap2,aB hbp2,hI0.out.1,hI0.out.2];simp(disch:=(first|omega|(simp only[push_cast];first|done|omega))) only[push_cast,↓reduceIte,Nat.reduceEqDiff,Nat.reduceBEq,Nat.reduceAdd,Nat.reduceSub,Int.reduceToNat,List.cons_append,List.nil_append, *]
    clear hI0;rintro⟨j,x2,xt2,y2⟩ ⟨hj,hx2⟩;dsimp only at hj hx2;have hwj:=hwk j;by_cases hjl:j<ps.length
    ·have hn:A++wiK ps (j+1)=(if j=0 then A++wiK ps j else(A++wiK ps j)++[(3,3,0,0,0,50,true)])++[(1,p9 (ps[j]?.getD .empty),0,0,0,0,false)]:=by rw[wiK];split<;>simp
     have ht:T++ps.take (j+1)=(T++ps.take j)++[ps[j]?.getD .empty]:=by rw[vO hjl,List.append_assoc]
     have h3:(0<(A++wiK ps j).length∧0<(T++ps.take j).length)∨((A++wiK ps j)=[]∧(T++ps.take j)=[]∧j<1):=by
      by_cases hj0:j=0
      ·subst hj0
       rcases hAT with h|h
       ·exact .inl ⟨by rw[List.length_append];omega,by rw[List.length_append];omega⟩
       ·exact .inr ⟨by rw[List.eq_nil_of_length_eq_zero h.1];rfl,by rw[List.eq_nil_of_length_eq_zero h.2];rfl,by omega⟩
      ·refine .inl ⟨by rw[List.length_append];have:=aix ps (k:=j) (by omega);omega,by rw[List.length_append,List.length_take];omega⟩
     have hil2:(A++wiK ps j).length≤700:=by rw[List.length_append];omega
     have htl2:(T++ps.take j).length≤400:=by rw[List.length_append,List.length_take];omega
     have apw:=acH (hps j hjl);have hnx:0<(A++wiK ps (j+1)).length∧0<(T++ps.take (j+1)).length:=⟨by rw[hn,List.length_append,List.length_singleton];omega,by rw[ht,List.length_append,List.length_singleton];omega⟩;replace hnx:=Lib.hid hnx;replace hn:=Lib.hid hn;replace ht:=Lib.hid ht;generalize A++wiK ps j=its at*;generalize T++ps.take j=tx at*;clear hwj hwk hps;rcases h3 with⟨hi0,ht0⟩|⟨rfl,rfl,hj1⟩
     ·obtain⟨x3,x4,x5⟩:=hx2 hi0
      have hap:0<(its.map gG).length:=by rw[List.length_map];omega
      have hbp:0<(tx.map pvS).length:=by rw[List.length_map];omega
      have x6:¬xt2=x2:=fun q=>x5 q.symm;clear hx2;simp only[aA hap,aA hbp,aB hap,aB hbp,List.length_map,List.cons_append,List.nil_append];by_cases hj0:j=0
      ·have hn2:=hn.out
       rw[if_pos hj0]at hn2;replace hn2:=Lib.hid hn2;replace hj0:j<1:=by omega
       (refine wlk ?_;intros);refine⟨(j+1,y2+1,y2+3,y2+4),⟨by dsimp only;omega,fun _=>by dsimp only;omega⟩,by dsimp only;omega,?_,?_,rfl⟩
       ·have h1:=hnx.out
        have hap3:0<((A++wiK ps (j+1)).map gG).length:=by rw[List.length_map];exact h1.1
        have hbp3:0<((T++ps.take (j+1)).map pvS).length:=by rw[List.length_map];exact h1.2
        dsimp only
        rw[aA hap3,aA hbp3,hn2.out,ht.out];exact agr
       ·have h1:=hnx.out
        have hap3:0<((A++wiK ps (j+1)).map gG).length:=by rw[List.length_map];exact h1.1
        have hbp3:0<((T++ps.take (j+1)).map pvS).length:=by rw[List.length_map];exact h1.2
        dsimp only
        rw[aB hap3,aB hbp3,hn2.out,ht.out];simp(disch:=(first|omega|(simp only[push_cast];first|done|omega))) only[push_cast,↓reduceIte,Nat.reduceEqDiff,Nat.reduceBEq,Nat.reduceAdd,Nat.reduceSub,Int.reduceToNat,List.cons_append,List.nil_append, *]
      ·have hn2:=hn.out
       rw[if_neg hj0]at hn2;replace hn2:=Lib.hid hn2;(refine wlk ?_;intros);refine⟨(j+1,y2+3,y2+5,y2+6),⟨by dsimp only;omega,fun _=>by dsimp only;omega⟩,by dsimp only;omega,?_,?_,rfl⟩
       ·have h1:=hnx.out
        have hap3:0<((A++wiK ps (j+1)).map gG).length:=by rw[List.length_map];exact h1.1
        have hbp3:0<((T++ps.take (j+1)).map pvS).length:=by rw[List.length_map];exact h1.2
        dsimp only
        rw[aA hap3,aA hbp3,hn2.out,ht.out];exact agr
       ·have h1:=hnx.out
        have hap3:0<((A++wiK ps (j+1)).map gG).length:=by rw[List.length_map];exact h1.1
        have hbp3:0<((T++ps.take (j+1)).map pvS).length:=by rw[List.length_map];exact h1.2
        dsimp only
        rw[aB hap3,aB hbp3,hn2.out,ht.out];simp(disch:=(first|omega|(simp only[push_cast];first|done|omega))) only[push_cast,↓reduceIte,Nat.reduceEqDiff,Nat.reduceBEq,Nat.reduceAdd,Nat.reduceSub,Int.reduceToNat,List.cons_append,List.nil_append, *]
     ·have hn2:=hn.out
      rw[if_pos (show j=0 by omega)]at hn2;replace hn2:=Lib.hid hn2;clear hx2;(refine wlk ?_;intros);refine⟨(j+1,y2+1,y2+3,y2+4),⟨by dsimp only;omega,fun _=>by dsimp only;omega⟩,by dsimp only;omega,?_,?_,rfl⟩
      ·have h1:=hnx.out
       have hap3:0<((A++wiK ps (j+1)).map gG).length:=by rw[List.length_map];exact h1.1
       have hbp3:0<((T++ps.take (j+1)).map pvS).length:=by rw[List.length_map];exact h1.2
       dsimp only
       rw[aA hap3,aA hbp3,hn2.out,ht.out];exact agr
      ·have h1:=hnx.out
       have hap3:0<((A++wiK ps (j+1)).map gG).length:=by rw[List.length_map];exact h1.1
       have hbp3:0<((T++ps.take (j+1)).map pvS).length:=by rw[List.length_map];exact h1.2
       dsimp only
       rw[aB hap3,aB hbp3,hn2.out,ht.out];simp(disch:=(first|omega|(simp only[push_cast];first|done|omega))) only[push_cast,↓reduceIte,Nat.reduceEqDiff,Nat.reduceBEq,Nat.reduceAdd,Nat.reduceSub,Int.reduceToNat,List.cons_append,List.nil_append, *]
    ·obtain rfl:j=ps.length:=by omega
     rw[List.take_length]at*;rw[←hKI.out,←hKT.out]at*;obtain⟨hi2,ht2⟩:=hpos.out;obtain⟨x3,x4,x5⟩:=hx2 hi2;have x6:¬xt2=x2:=fun q=>x5 q.symm;have hap:0<((piK ws pats (k+1)).map gG).length:=by rw[List.length_map];omega
     have hbp:0<((txK ws pats (k+1)).map pvS).length:=by rw[List.length_map];omega
     clear hx2 hwk hps;simp only[aA hap,aA hbp,aB hap,aB hbp,List.length_map,List.cons_append,List.nil_append];(refine wlk ?_;intros);refine⟨(k+1,x2,xt2,y2),⟨by dsimp only;omega,fun _=>⟨x3,x4,x5⟩⟩,by dsimp only;omega,?_,?_,rfl⟩
     ·simp(disch:=(first|omega|(simp only[push_cast];first|done|omega))) only[push_cast,↓reduceIte,Nat.reduceEqDiff,Nat.reduceBEq,Nat.reduceAdd,Nat.reduceSub,Int.reduceToNat,aA hap,aA hbp, *]
     ·simp(disch:=(first|omega|(simp only[push_cast];first|done|omega))) only[push_cast,↓reduceIte,Nat.reduceEqDiff,Nat.reduceBEq,Nat.reduceAdd,Nat.reduceSub,Int.reduceToNat,aB hap,aB hbp,List.cons_append,List.nil_append, *]
  ·obtain rfl:k=ws.length:=by omega
   have hi0:=hip _ (Nat.le_refl _) (by omega);have ht0:=htp _ (Nat.le_refl _) (by omega);obtain⟨x3,x4,x5⟩:=hxy (by omega);have x6:¬xt=x:=fun q=>x5 q.symm;have hlk:=hil ws.length;have hlt:=htl ws.length;generalize piK ws pats ws.length=P at*;generalize txK ws pats ws.length=T at*;have hap1:0<(P.map gG).length:=by rw[List.length_map];omega
   have hbp1:0<(T.map pvS).length:=by rw[List.length_map];omega
   simp only[aA hap1,aA hbp1,aB hap1,aB hbp1,List.length_map,List.cons_append,List.nil_append];clear hap hpp hpw hpl hil htl hip htp hxy;by_cases h60:P.length+3≤60
   ·rw[decide_eq_true (by simpa using h60)]
    (refine wlk ?_;intros);all_goals((with_reducible apply dw (by first|exact .inl rfl|exact .inr rfl));(simp(disch:=(first|omega|(simp only[push_cast];first|done|omega))) only[push_cast,↓reduceIte,Nat.reduceEqDiff,Nat.reduceBEq,Nat.reduceAdd,Nat.reduceSub,Int.reduceToNat, *]<;>with_reducible exact rfl))
    all_goals(rw[show decide ((P.length:Int)+1+1+1≤60)=true from decide_eq_true (by omega)];exact PV.le_refl _)
   ·rw[decide_eq_false (by simpa using h60)]
    (refine wlk ?_;intros);all_goals((with_reducible apply dw (by first|exact .inl rfl|exact .inr rfl));(simp(disch:=(first|omega|(simp only[push_cast];first|done|omega))) only[push_cast,↓reduceIte,Nat.reduceEqDiff,Nat.reduceBEq,Nat.reduceAdd,Nat.reduceSub,Int.reduceToNat, *]<;>with_reducible exact rfl))
    all_goals(rw[show decide ((P.length:Int)+1+1+1≤60)=false from decide_eq_false (by omega)];exact PV.le_refl _)
def awl:alX:=G4 dSs dSs dI dI fun ws pats wd most=>if oo ws∧oo pats then some (.tup [.row 0 1 0 (mR ws pats wd most).length,bv (nG ws pats wd most)],[(9,1,(mR ws pats wd most).map fun s=> .val (.string s))])else none
theorem auj {l l':LS}:(l.map fun s=>PV.val (.string s))++(l'.map fun s=>PV.val (.string s))=(l++l').map fun s=>PV.val (.string s):=List.map_append.symm
attribute[push_cast]
 auj
def axa:Ctx:={fn:=aY [(96,φPi),(97,φBb),(98,φPr)],io:=aY []}
theorem arK:ak Tryz.prog axa:=okΓ (fC Tryz.func96 agW (fC Tryz.func97 agF (fC Tryz.func98 zG aj))) aj
def abj:=ah (Γ:=axa) (f:=96) (φ:=φPi) rfl
def aaX:=ah (Γ:=axa) (f:=97) (φ:=φBb) rfl
def abw:=ah (Γ:=axa) (f:=98) (φ:=φPr) rfl
theorem aln:sK Tryz.prog 66 awl:=by
 refine aat mixed arK Tryz.func66 rfl 127 rfl [.tmp 8,.tmp 9] rfl (by kernel_rfl) fun ps r cs' hr=>?_;obtain⟨ws,pats,wd,most,rfl,hq⟩:=acD hr;clear hr;split at hq
 case isFalse=>cases hq
 case isTrue hpre=>
 cases hq;refine⟨by simp,?_⟩;simp only[dIs,dUs,dSs,dz,dF,dx,dG,aR,dD,aU,aV,aS,aT];have api:=anS hpre;unfold mR nG;cases hp:ql ws pats with
 |false=>rw[hp]at api;simp only[Bool.false_and];rw[if_neg (by decide)];generalize piV ws pats=l at*;clear hp;have hl:l=[]∨True:=.inr trivial;clear hl;have gpgl_c96:=abj;have gpgl_c97:=aaX;have gpgl_c98:=abw;(refine wlk ?_;intros);all_goals((with_reducible apply qd (0) (by first|exact .inl rfl|exact .inr rfl));(focus(simp(disch:=(first|omega|(simp only[push_cast];first|done|omega))) only[push_cast,↓reduceIte,Nat.reduceEqDiff,Nat.reduceBEq,Nat.reduceAdd,Nat.reduceSub,Int.reduceToNat, *]<;>with_reducible exact rfl));(focus(simp(disch:=(first|omega|(simp only[push_cast];first|done|omega))) only[push_cast,↓reduceIte,Nat.reduceEqDiff,Nat.reduceBEq,Nat.reduceAdd,Nat.reduceSub,Int.reduceToNat, *]<;>with_reducible exact rfl)))
 |true=>
 have hB:=anw hp;have hV:piV ws pats=piR ws pats:=if_pos hp;rw[hp]at api;simp only[Bool.true_and];have hl:=bH hB;have apb:=aiv (l:=piV ws pats) (wd:=wd) (most:=most) (show(piV ws pats).length≤1000 by omega);have hnb:=auw ws pats;rw[←hV]at hnb⊢;have hwl:=tX (xX.1 hp).1;have hap:∀k,k<ws.length→φPr [.val (.string (ws[k]?.getD .empty)),.lst false 1 (pats.map fun s=> .val (.string s))]=some (.lst true 1 ((bZ (ws[k]?.getD .empty) pats).map fun s=> .val (.string s))):=fun k hk=>aaW ⟨hpre.1.2 k,hpre.2⟩;have htl:=acr ws pats;have htz:∀k:Nat,((txR ws pats)[k]?.getD ByteArray.empty).size≤20:=aa7;have hpl:∀k:Nat,(bZ (ws[k]?.getD ByteArray.empty) pats).length≤21:=fun k=>jG _ _;have hob:jI (piV ws pats) wd most=true→asj (piV ws pats) (dZ (piV ws pats) wd most):=fun h=>agc hB (gZ.1 h).2.2.2.1.2;have hrr:jI (piV ws pats) wd most=true→aqa (piV ws pats) wd most=dZ (piV ws pats) wd most:=fun h=>if_pos h;clear hp hB hV;generalize piV ws pats=l at*;cases hb:jI l wd most with
 |false=>rw[hb]at apb;rw[if_neg (by decide)];clear hob hrr hnb hap htl htz hpl hpre hb;have gpgl_c96:=abj;have gpgl_c97:=aaX;have gpgl_c98:=abw;(refine wlk ?_;intros);all_goals((with_reducible apply qd (0) (by first|exact .inl rfl|exact .inr rfl));(focus(simp(disch:=(first|omega|(simp only[push_cast];first|done|omega))) only[push_cast,↓reduceIte,Nat.reduceEqDiff,Nat.reduceBEq,Nat.reduceAdd,Nat.reduceSub,Int.reduceToNat, *]<;>with_reducible exact rfl));(focus(simp(disch:=(first|omega|(simp only[push_cast];first|done|omega))) only[push_cast,↓reduceIte,Nat.reduceEqDiff,Nat.reduceBEq,Nat.reduceAdd,Nat.reduceSub,Int.reduceToNat, *]<;>with_reducible exact rfl)))
 |true=>
  have hbr:=hob hb;rw[hb,hrr hb]at apb;rw[if_pos rfl];clear hob hrr hb hpre;generalize dZ l wd most=br at*;obtain⟨hbl,-⟩:=id hbr;have hbat:=fun k hk=>hbr.at_ (k:=k) hk;clear hbr;have htR:txR ws pats=txK ws pats ws.length:=rfl;have gpgl_c96:=abj;have gpgl_c97:=aaX;have gpgl_c98:=abw;(refine wlk ?_;intros);refine aG (α:=Nat×Nat×Nat) mixed (fun z=>[(0,.lst false 1 (ws.map pvS)),(1,.lst false 1 (pats.map pvS)),(10,.row 0 1 0 0),(11,.lst true 7 (l.map gG)),(13,.lst true 1 (br.map pvN)),(15,.row z.2.1 1 0 (txK ws pats z.1).length),(16,iv z.1)])
   (fun z=>[(0,9,1,[]),(z.2.1,9,1,(txK ws pats z.1).map pvS)]) (fun z=>z.2.2)
   (fun z=>z.1≤ws.length∧0<z.2.1∧z.2.1<z.2.2) (fun z=>ws.length-z.1) (by kernel_rfl) (0,1,2) ⟨Nat.zero_le _,by simp,by simp⟩ ?_ ?_ rfl ?_
  ·simp(disch:=(first|omega|(simp only[push_cast];first|done|omega))) only[push_cast,↓reduceIte,Nat.reduceEqDiff,Nat.reduceBEq,Nat.reduceAdd,Nat.reduceSub,Int.reduceToNat,txK,List.length_nil, *]
  ·simp(disch:=(first|omega|(simp only[push_cast];first|done|omega))) only[push_cast,↓reduceIte,Nat.reduceEqDiff,Nat.reduceBEq,Nat.reduceAdd,Nat.reduceSub,Int.reduceToNat,txK,List.map_nil, *]
  rintro⟨k,x,y⟩ ⟨hk,hx0,hxy⟩;dsimp only at hk hx0 hxy;have hlk:=htl k;by_cases h0:k<ws.length
  ·have apk:=hap k h0
   have hlp:=hpl k;have hn:txK ws pats (k+1)=txK ws pats k++bZ (ws[k]?.getD .empty) pats:=rfl;replace hn:=Lib.hid hn;generalize txK ws pats k=out at*;generalize bZ (ws[k]?.getD .empty) pats=ps at*;clear htl hap hpl htR hnb htz hbat;(refine wlk ?_;intros);refine⟨(k+1,y,y+1),⟨by dsimp only;omega,by dsimp only;omega,by dsimp only;omega⟩,by dsimp only;omega,?_,?_,rfl⟩
   ·dsimp only
    rw[hn.out];exact agr
   ·dsimp only
    rw[hn.out];exact agr
  ·obtain rfl:k=ws.length:=by omega
   rw[←htR];rw[←htR]at hlk;have hts:=fun a=>x9 (l:=l) (tx:=txR ws pats) (a:=a) htz;have htz2:∀k:Nat,((txR ws pats)[k]?.getD ByteArray.empty).size≤20:=htz;have htxl:(txR ws pats).length≤252:=by omega
   generalize txR ws pats=tx at*;clear htl hap hpl htR htz;have hlnk:=oG l tx br;(refine wlk ?_;intros);refine aG (α:=Nat×Nat×Nat×Int) mixed (fun z=>[(10,.row z.2.1 1 0 z.1),(11,.lst true 7 (l.map gG)),(13,.lst true 1 (br.map pvN)),(15,.row x 1 0 tx.length),(17,iv (nbX l (frB br z.1))),(18,iv z.2.2.2),(19,iv z.1)])
    (fun z=>[(x,9,1,tx.map pvS),(z.2.1,9,1,(oP l tx br z.1).map pvS)]) (fun z=>z.2.2.1)
    (fun z=>z.1≤br.length∧(¬z.2.1=x∧x<z.2.2.1∧z.2.1<z.2.2.1)∧z.2.2.2=(frB br z.1:Int)-1) (fun z=>br.length-z.1) (by kernel_rfl) (0,0,y,-1) ⟨Nat.zero_le _,⟨by dsimp only;omega,hxy,by dsimp only;omega⟩,rfl⟩ ?_ ?_ rfl ?_
   ·simp(disch:=(first|omega|(simp only[push_cast];first|done|omega))) only[push_cast,↓reduceIte,Nat.reduceEqDiff,Nat.reduceBEq,Nat.reduceAdd,Nat.reduceSub,Int.reduceToNat,frB,nbX,List.take_zero,List.filter_nil,List.length_nil, *]
   ·simp(disch:=(first|omega|(simp only[push_cast];first|done|omega))) only[push_cast,↓reduceIte,Nat.reduceEqDiff,Nat.reduceBEq,Nat.reduceAdd,Nat.reduceSub,Int.reduceToNat,oP,List.map_nil, *]
   rintro⟨k,o,y2,v⟩ ⟨hkb,⟨hox,hxy2,hoy⟩,hv⟩;dsimp only at hkb hox hxy2 hoy hv;subst hv;have hxo:¬x=o:=fun q=>hox q.symm;clear hk h0 hlk;have hlk:=hlnk k;by_cases hk:k<br.length
   ·obtain⟨b1,b2,b3,b4⟩:=hbat k hk
    have hn:oP l tx br (k+1)=oP l tx br k++[lnR l tx (frB br k) (br[k]?.getD 0).toNat]:=rfl;have hfs:=yj br k;replace hn:=Lib.hid hn;replace hfs:=Lib.hid hfs;generalize oP l tx br k=out at*;generalize frB br k=a at*;obtain⟨en,hen⟩:∃en:Nat,br[k]?.getD 0=en:=⟨(br[k]?.getD 0).toNat,by omega⟩;rw[hen,Int.toNat_natCast]at hn hfs b2 b3 b4;rw[hen]at b1;have hmk:lnR l tx a en=if(l[en]?.getD it0).2.2.2.2.2.2=true then lnT l tx a (en-a)++⟨#[45]⟩else lnT l tx a (en-a):=rfl;replace b4:¬(l[en]?.getD it0).1=1:=b4;have hbox:nbX l (en+1)=nbX l en:=ahO b3 b4;replace hmk:=Lib.hid hmk;replace hbox:=Lib.hid hbox;clear hbat hlnk;have h45:(⟨#[45]⟩:ByteArray).size=1:=rfl;have h32:(⟨#[32]⟩:ByteArray).size=1:=rfl;(refine wlk ?_;intros);refine aG (α:=Nat) mixed (fun j=>[(10,.row o 1 0 k),(11,.lst true 7 (l.map gG)),(13,.lst true 1 (br.map pvN)),(15,.row x 1 0 tx.length),(17,iv (nbX l (a+j))),(18,iv ((a:Int)-1)),(19,iv k),(20,.val (.string (lnT l tx a j))),(21,iv ((a+j:Nat):Int))])
     (fun _=>[(x,9,1,tx.map pvS),(o,9,1,out.map pvS)]) (fun _=>y2)
     (fun j=>a+j≤en) (fun j=>en-j) (by kernel_rfl) 0 (by omega) ?_ ?_ rfl ?_
    ·have hl0:lnT l tx a 0=⟨#[]⟩:=rfl
     have hcan:(a:Int)-1+1=a:=by omega
     exact agr
    ·exact agr
    intro j hj;have hsz:=hts a j;by_cases hje:a+j<en
    ·have hal:a+j<l.length:=by omega
     have hS:lnT l tx a (j+1)=oN l tx (lnT l tx a j) (a+j):=rfl;have hbx1:=fun q=>ace (l:=l) (n:=a+j) hal q;have hbx2:=fun q=>ahO (l:=l) (n:=a+j) hal q;have hlt1:=fun q=>ajj (l:=l) (n:=a+j) hal q;have hq1:=fun q=>anF (l:=l) (tx:=tx) (s:=lnT l tx a j) (n:=a+j) q;have hq2:=fun q=>anm (l:=l) (tx:=tx) (s:=lnT l tx a j) (n:=a+j) q;have hq3:=fun q r=>ale (l:=l) (tx:=tx) (s:=lnT l tx a j) (n:=a+j) q r;rw[hnb]at hlt1;rw[←hS]at hq1 hq2 hq3;have hnx:=ah3 l (a+j);rw[hnb]at hnx;clear hS hmk hn hfs hbox;generalize hs9:lnT l tx a j=s at*;generalize hs8:lnT l tx a (j+1)=s2 at*;replace hs9:=Lib.hid hs9;replace hs8:=Lib.hid hs8;generalize hnb2:nbX l (a+j+1)=nn2 at*;replace hnb2:=Lib.hid hnb2;generalize nbX l (a+j)=nn at*;clear hnb b4;change∀q:(l[a+j]?.getD it0).1=1,_ at hbx1 hlt1 hq1;change∀q:¬(l[a+j]?.getD it0).1=1,_ at hbx2 hq3;change∀q:(l[a+j]?.getD it0).1=2∧0<(l[a+j]?.getD it0).2.1∧¬s=⟨#[]⟩,_ at hq2;have hq3':¬(l[a+j]?.getD it0).1=1→¬((l[a+j]?.getD it0).1=2∧0<(l[a+j]?.getD it0).2.1∧¬s=⟨#[]⟩)→s2=s:=hq3;clear hq3;generalize hyy:l[a+j]?.getD it0=yy at*;obtain⟨y1,y2',y3,y4,y5,y6,y7⟩:=yy;dsimp only at hbx1 hbx2 hlt1 hq1 hq2 hq3';have hfin:∀nn':Nat,∀s':ByteArray,nn2=nn'→s2=s'→nbX l (a+(j+1))=nn'∧lnT l tx a (j+1)=s':=fun nn' s' h1 h2=>⟨by rw[←h1];exact hnb2.out,by rw[←h2];exact hs8.out⟩;by_cases k1:y1=1
     ·have hf:=Lib.hid (hfin _ _ (hbx1 k1) (hq1 k1))
      have hn9:=hlt1 k1;have ht9:=htz2 nn;clear hbx1 hbx2 hlt1 hq1 hq2 hq3' hfin;subst k1;(refine wlk ?_;intros);refine⟨j+1,by dsimp only;omega,by dsimp only;omega,?_,?_,rfl⟩
      ·dsimp only
       rw[hf.out.1,hf.out.2];exact agi
      ·exact agr
     ·by_cases k2:y1=2∧0<y2'∧¬s=⟨#[]⟩
      ·have hf:=Lib.hid (hfin _ _ (hbx2 k1) (hq2 k2))
       clear hbx1 hbx2 hlt1 hq1 hq2 hq3' hfin;obtain⟨rfl,k2,k3⟩:=k2;(refine wlk ?_;intros);refine⟨j+1,by dsimp only;omega,by dsimp only;omega,?_,?_,rfl⟩
       ·dsimp only
        rw[hf.out.1,hf.out.2];exact agi
       ·exact agr
      ·have hf:=Lib.hid (hfin _ _ (hbx2 k1) (hq3' k1 k2))
       clear hbx1 hbx2 hlt1 hq1 hq2 hq3' hfin;by_cases k3:y1=2
       ·by_cases k4:0<y2'
        ·have k5:s=⟨#[]⟩:=Classical.byContradiction fun q=>k2 ⟨k3,k4,q⟩
         clear k2;subst k3 k5;(refine wlk ?_;intros);refine⟨j+1,by dsimp only;omega,by dsimp only;omega,?_,?_,rfl⟩
         ·dsimp only
          rw[hf.out.1,hf.out.2];exact agi
         ·exact agr
        ·clear k2
         subst k3;(refine wlk ?_;intros);refine⟨j+1,by dsimp only;omega,by dsimp only;omega,?_,?_,rfl⟩
         ·dsimp only
          rw[hf.out.1,hf.out.2];exact agi
         ·exact agr
       ·clear k2
        (refine wlk ?_;intros);refine⟨j+1,by dsimp only;omega,by dsimp only;omega,?_,?_,rfl⟩
        ·dsimp only
         rw[hf.out.1,hf.out.2];exact agi
        ·exact agr
    ·have hje2:j=en-a:=by omega
     have hae:a+j=en:=by omega
     rw[hae];rw[←hje2]at hmk;generalize lnT l tx a j=s at*;clear hje2;have hcl:(((en:Int)-1)+1)=en:=by omega
     have hfe:frB br (k+1)=en+1:=hfs.out;have hnx:nbX l (frB br (k+1))=nbX l en:=by rw[hfe];exact hbox.out
     replace hfe:=Lib.hid hfe;replace hnx:=Lib.hid hnx;clear hae b4 hfs hbox hcl hnb;generalize hyy:l[en]?.getD it0=yy at*;obtain⟨y1,y2',y3,y4,y5,y6,y7⟩:=yy;have hmk2:=hmk.out;clear hmk;dsimp only at hmk2;cases y7 with
     |true=>
      rw[if_pos rfl]at hmk2;rw[hmk2]at hn;clear hmk2;(refine wlk ?_;intros);refine⟨(k+1,y2+1,y2+2,(en:Int)),⟨by dsimp only;omega,⟨by dsimp only;omega,by dsimp only;omega,by dsimp only;omega⟩,by dsimp only;rw[hfe.out];omega⟩,by dsimp only;omega,?_,?_,rfl⟩
      ·dsimp only
       rw[hnx.out];exact agi
      ·dsimp only
       rw[hn.out];exact agr
     |false=>
      rw[if_neg (by decide)]at hmk2;rw[hmk2]at hn;clear hmk2;(refine wlk ?_;intros);refine⟨(k+1,y2+1,y2+2,(en:Int)),⟨by dsimp only;omega,⟨by dsimp only;omega,by dsimp only;omega,by dsimp only;omega⟩,by dsimp only;rw[hfe.out];omega⟩,by dsimp only;omega,?_,?_,rfl⟩
      ·dsimp only
       rw[hnx.out];exact agi
      ·dsimp only
       rw[hn.out];exact agr
   ·obtain rfl:k=br.length:=by omega
    generalize oP l tx br br.length=out at*;(refine wlk ?_;intros);all_goals((with_reducible apply qd (o) (by first|exact .inl rfl|exact .inr rfl));(focus(simp(disch:=(first|omega|(simp only[push_cast];first|done|omega))) only[push_cast,↓reduceIte,Nat.reduceEqDiff,Nat.reduceBEq,Nat.reduceAdd,Nat.reduceSub,Int.reduceToNat, *]<;>with_reducible exact rfl));(focus(simp(disch:=(first|omega|(simp only[push_cast];first|done|omega))) only[push_cast,↓reduceIte,Nat.reduceEqDiff,Nat.reduceBEq,Nat.reduceAdd,Nat.reduceSub,Int.reduceToNat, *]<;>with_reducible exact rfl)))
def ajG:Fun:=ach awl
theorem aeX:Sound Tryz.prog 66 ajG:=aln.pure
theorem alb {ws pats:LS} {wd most:Int} (h:oo ws∧oo pats):ajG [.lst false 1 (ws.map fun s=> .val (.string s)),.lst false 1 (pats.map fun s=> .val (.string s)),.val (.int .i64 wd),.val (.int .i64 most)]=some (.tup [.lst true 1 ((mR ws pats wd most).map fun s=> .val (.string s)),.val (.bool (nG ws pats wd most))]):=by refine nT (r:=.tup [.row 0 1 0 (mR ws pats wd most).length,.val (.bool (nG ws pats wd most))]) (cs0:=[(9,1,(mR ws pats wd most).map fun s=> .val (.string s))]) ((aqu (A:=dSs) (B:=dSs) (C:=dI) (D:=dI) ws pats wd most).trans (if_pos h)) ?_;rw[acQ];(simp(disch:=(first|omega|(simp only[push_cast];first|done|omega))) only[push_cast,↓reduceIte,Nat.reduceEqDiff,Nat.reduceBEq,Nat.reduceAdd,Nat.reduceSub,Int.reduceToNat, *]<;>with_reducible exact rfl)
end
end Go.Proofs.YtmmafcjjlbgnkaaGreatDoor
