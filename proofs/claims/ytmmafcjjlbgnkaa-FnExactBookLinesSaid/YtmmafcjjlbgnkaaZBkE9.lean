/- What the proof rests on, part 9: contracts of functions. No condition beyond what each states. -/
import Derived.Test.YtmmafcjjlbgnkaaZBkE8
namespace Go.Proofs.Ytmmafcjjlbgnkaa
open Go.RowKit
set_option linter.all false
set_option maxHeartbeats 32000000
noncomputable section
abbrev pQ (p:List LS) (q:LS) (x y z:Int):PV:=.agg [.lst false 1 (p.map fun p=> .lst false 1 (p.map fun s=> .val (.string s))),.lst false 1 (q.map fun s=> .val (.string s)),.val (.int .i64 x),.val (.int .i64 y),.val (.int .i64 z)]
abbrev bkV (vo vp:Value) (x y z:Int):Value:=.agg #[vo,vp,.int .i64 x,.int .i64 y,.int .i64 z]
abbrev bkQ (vo vp:Value) (x y z:Int):PV:=.agg [.val vo,.val vp,.val (.int .i64 x),.val (.int .i64 y),.val (.int .i64 z)]
theorem fF.sl {T:Nat} {v:Value} {vs:List Value} {w:World} (h:fF T v vs w):∃a n c,v=.slice a n c:=by
 rcases h with⟨rfl,_⟩|⟨g,cap,arr,rfl,_⟩
 ·exact⟨_,_,_,rfl⟩
 ·exact⟨_,_,_,rfl⟩
theorem acB {p:List LS} {q:LS} {x y z:Int} {w:World} {Jm:Nat→Prop} {args:Array Value} (hp:asQ p) (hq:q.length≤1048576) (hJ:∀b,Jm b→b<w.heap.size) (hT:jc w fun _=>False) (hargs:bF (jF Jm) w [pQ p q x y z] args.toList):
 Calls Try.prog 6 args w fun e w'=>∃vo vs vp,e=.returned (bkV vo vp x y z)∧Fr (fun _=>False) w w'∧acn 23 9 vo vs vp p q w'∧∀i,(o7 vo vs i∨vp.ownBlock=some i)→w.heap.size≤i:=by
 have hc:=HZ.calls (σ:=Fgn.no) (N:=22) (rs:=[.cell 2 30]) (ps:=[pQ p q x y z]) Try.func6 rfl rfl rfl (fun b e=>False.elim e) trivial hT hJ (fun b _ e=>e) hargs (by show 1≤_;decide) (fun P' σ'=>∃vo vs vp,P'=bkQ vo vp x y z∧σ'=acR 23 9 vo vs vp p q) ?_
 ·refine hc.mono ?_
  rintro e w' ⟨v0,σ',P',g,rfl,⟨vo,vs,vp,rfl,rfl⟩,hr,hf,hb,ha⟩;simp only[Rep,bF]at hr;obtain⟨l,rfl,v1,l1,h1,rfl,v2,l2,rfl,rfl,v3,l3,rfl,rfl,v4,l4,rfl,rfl,v5,l5,rfl,rfl,rfl⟩:=hr;refine⟨v1,vs,v2,?_,hf,ha,fun i hi=>((hb i hi).2).elim (fun e=>False.elim e) id⟩;obtain⟨ll⟩:=l;simp only at h1;rw[h1]
 refine HZ.start ?_;show HZ _ _ _ _ _ _ ⟨(bM [pQ p q x y z]).tm,fun _=>none,0⟩ _;refine HZ.seq (HZ.eng mixed bN (by kernel_rfl) ?_);(try dsimp only);(refine wlk ?_;intros);refine HZ.seq (HZ.eng mixed bN (by kernel_rfl) ?_);(try dsimp only);(refine wlk ?_;intros);refine HZ.seq (HZ.each ?_);refine ZO.pre (imm:=⟨[],[],[]⟩) 2 bN (by kernel_rfl) (by simp only[List.take_succ_cons,List.take_zero]<;>exact rfl) (by simp only[List.drop_succ_cons,List.drop_zero]<;>exact rfl) (by simp only[List.map_cons,List.map_nil]<;>exact rfl) ?_;(try dsimp only);(refine wlk ?_;intros);(try dsimp only);refine ZO.xS rfl rfl ⟨_,Try.func20,rfl,rfl⟩ rfl (by rintro y ⟨⟩;decide) (fun v σ'=>(∃a n c,v=.slice a n c)∧∃vs,σ'=ssF 23 9 v vs p∧∀i,o7 v vs i→w.heap.size≤i) (fun a w1 hst=>?_) (fun vo σ' ⟨⟨a1,n1,c1,hvo⟩,vs,e,hbo⟩=>?_)
 ·obtain⟨⟨io,w0,g,hr,hC⟩,hM⟩:=hst
  simp only[List.map_toArray,List.map_cons,List.map_nil];have hrep:=hr.arV (x:=.tmp 5) (q:=anD p) (by(simp(disch:=(first|omega|(simp only[push_cast];first|done|omega))) only[push_cast,↓reduceIte,Nat.reduceEqDiff,Nat.reduceBEq,Nat.reduceAdd,Nat.reduceSub,Int.reduceToNat, *]<;>with_reducible exact rfl));have hT1:jc w1 fun _=>False:=(hr.tab.keep hr.fr fun t ht=>(hr.tab.apart t ht)).io fun _ _ q=>False.elim q;refine(adG hp (fun b hb=>hb) hT1 ⟨_,_,rfl,hrep,rfl⟩).mono ?_;rintro e w' ⟨v,vs,rfl,hf,hs,hb⟩;have hsz:=Nat.le_trans hC.sz hr.fr.size;exact⟨v,_,rfl,⟨hs.out.sl,vs,rfl,fun i hi=>Nat.le_trans hsz (hb i hi)⟩,⟨hf.os,hf.tape,hf.output,hf.size,fun i hi _=>hf.block i hi fun e=>e⟩,fun i hi e=>by have:=hb i e;omega,fun i e=>False.elim e,fun i e=>hs.lt e,hs⟩
 subst e hvo;have hc1:bA (.val (.slice a1 n1 c1))=some [.val (.slice a1 n1 c1)]:=rfl;dsimp only[AS.put];refine ZO.pre (imm:=⟨[],[],[]⟩) 2 bN (by kernel_rfl) (by simp only[List.take_succ_cons,List.take_zero]<;>exact rfl) (by simp only[List.drop_succ_cons,List.drop_zero]<;>exact rfl) (by simp only[List.map_cons,List.map_nil]<;>exact rfl) ?_;(try dsimp only);(refine wlk ?_;intros);(try dsimp only);refine ZO.nil ?_;(try dsimp only);refine HZ.seq (HZ.each ?_);refine ZO.pre (imm:=⟨[],[],[]⟩) 2 bN (by kernel_rfl) (by simp only[List.take_succ_cons,List.take_zero]<;>exact rfl) (by simp only[List.drop_succ_cons,List.drop_zero]<;>exact rfl) (by simp only[List.map_cons,List.map_nil]<;>exact rfl) ?_;(try dsimp only);(refine wlk ?_;intros);(try dsimp only);refine ZO.xS rfl rfl ⟨_,Try.func21,rfl,rfl⟩ rfl (by rintro y ⟨⟩;decide) (fun v σ'=>(∃a n c,v=.slice a n c)∧σ'=acR 23 9 (.slice a1 n1 c1) vs v p q∧∀i,v.ownBlock=some i→w.heap.size≤i) (fun a w1 hst=>?_) (fun vp σ' ⟨⟨a2,n2,c2,hvp⟩,e,hbp⟩=>?_)
 ·obtain⟨⟨io,w0,g,hr,hC⟩,hM⟩:=hst
  simp only[List.map_toArray,List.map_cons,List.map_nil];have hrep:=hr.arV (x:=.tmp 9) (q:=.lst false 1 (q.map fun s=> .val (.string s))) (by(simp(disch:=(first|omega|(simp only[push_cast];first|done|omega))) only[push_cast,↓reduceIte,Nat.reduceEqDiff,Nat.reduceBEq,Nat.reduceAdd,Nat.reduceSub,Int.reduceToNat, *]<;>with_reducible exact rfl));have hT1:jc w1 fun _=>False:=(hr.tab.keep hr.fr fun t ht=>(hr.tab.apart t ht)).io fun _ _ q=>False.elim q;refine(sG.row (abR hq) (fun b hb=>hb) hT1 ⟨_,_,rfl,hrep,rfl⟩).mono ?_;rintro e w' ⟨v,rfl,hf,hs,b,hvb,hb⟩;have hsz:=Nat.le_trans hC.sz hr.fr.size;have hM':mX 23 9 (.slice a1 n1 c1) vs p w1:=hM;have hk:∀i,i<w1.heap.size→w'.heap[i]?=w1.heap[i]?:=fun i hi=>hf.block i hi fun e=>e;have hss:mX 23 9 (.slice a1 n1 c1) vs p w':=hM'.same fun i hi=>hk i (hM'.lt hi);refine⟨v,_,rfl,⟨hs.sl,rfl,fun i hi=>by rw[hvb]at hi;cases hi;omega⟩,⟨hf.os,hf.tape,hf.output,hf.size,fun i hi _=>hk i hi⟩,fun i hi e=>?_,fun i e=> .inl e,fun i e=>e.elim hss.lt hs.lt,⟨hss,hs,fun i hi e=>?_⟩⟩
  ·rcases e with e|e
   ·exact e
   ·rw[hvb]at e;cases e;omega
  ·rw[hvb]at hi
   cases hi;have:=hM'.lt e;omega
 subst e hvp;have hc2:bA (.val (.slice a2 n2 c2))=some [.val (.slice a2 n2 c2)]:=rfl;dsimp only[AS.put];refine ZO.pre (imm:=⟨[],[],[]⟩) 2 bN (by kernel_rfl) (by simp only[List.take_succ_cons,List.take_zero]<;>exact rfl) (by simp only[List.drop_succ_cons,List.drop_zero]<;>exact rfl) (by simp only[List.map_cons,List.map_nil]<;>exact rfl) ?_;(try dsimp only);(refine wlk ?_;intros);(try dsimp only);refine ZO.nil ?_;(try dsimp only);refine HZ.eng mixed bN (by kernel_rfl) ?_;(try dsimp only);(refine wlk ?_;intros);(try dsimp only);refine⟨.inr rfl,⟨_,by(simp(disch:=(first|omega|(simp only[push_cast];first|done|omega))) only[push_cast,↓reduceIte,Nat.reduceEqDiff,Nat.reduceBEq,Nat.reduceAdd,Nat.reduceSub,Int.reduceToNat, *]<;>with_reducible exact rfl),_,vs,_,rfl,rfl⟩,fun i hi=> .inr (hi.elim (hbo i) (hbp i))⟩
theorem oI {p:List LS} {q:LS} {x y z k0:Int} {vo vp:Value} {vs:List Value} {w:World} {args:Array Value} (hM:acn 23 9 vo vs vp p q w) (hl:oN p≤1048576) (hp:p.length≤1048576) (hq:q.length≤1048576) (hk0:0<k0) (hk1:k0≤1048577) (hT:jc w fun i=>o7 vo vs i∨vp.ownBlock=some i) (hargs:args=#[bkV vo vp x y z,.int .i64 k0]):
 Calls Try.prog 11 args w fun e w'=>e=.returned (.int .i64 (k0+oN p+q.length))∧Fr (fun i=>o7 vo vs i∨vp.ownBlock=some i) w w':=by
 have hargs2:bF (jF fun _=>False) w [bkQ vo vp x y z,.val (.int .i64 k0)] args.toList:=by rw[hargs];refine⟨_,_,rfl,?_,_,_,rfl,by simp[Rep],rfl⟩;simp[Rep,bF]
 have hc:=HZ.calls (σ:=acR 23 9 vo vs vp p q) (N:=14) (rs:=[.tmp 4]) (ps:=[bkQ vo vp x y z,.val (.int .i64 k0)]) Try.func11 rfl rfl rfl (fun b e=>hM.lt e) hM hT (fun b e=>False.elim e) (fun b e=>False.elim e) hargs2 (by show 2≤_;decide) (fun P' σ'=>P'=.val (.int .i64 (k0+oN p+q.length))) ?_
 ·refine hc.mono ?_
  rintro e w' ⟨v0,σ',P',g,rfl,rfl,hr,hf,hb,ha⟩;simp only[Rep]at hr;subst hr;exact⟨rfl,hf⟩
 obtain⟨a1,n1,c1,hvo⟩:=hM.ss.out.sl;obtain⟨a2,n2,c2,hvp⟩:=hM.row.sl;clear hargs2;subst hvo hvp;have hc1:bA (bkQ (.slice a1 n1 c1) (.slice a2 n2 c2) x y z)=some [.val (.slice a1 n1 c1),.val (.slice a2 n2 c2),.val (.int .i64 x),.val (.int .i64 y),.val (.int .i64 z)]:=rfl;refine HZ.start ?_;show HZ _ _ _ _ _ _ ⟨(bM [bkQ (.slice a1 n1 c1) (.slice a2 n2 c2) x y z,.val (.int .i64 k0)]).tm,fun _=>none,0⟩ _;refine HZ.seq (HZ.eng mixed bN (by kernel_rfl) ?_);(try dsimp only);(refine wlk ?_;intros);refine HZ.seq (HZ.each ?_);refine ZO.pre (imm:=⟨[],[],[]⟩) 3 bN (by kernel_rfl) (by simp only[List.take_succ_cons,List.take_zero]<;>exact rfl) (by simp only[List.drop_succ_cons,List.drop_zero]<;>exact rfl) (by simp only[List.map_cons,List.map_nil]<;>exact rfl) ?_;(try dsimp only);(refine wlk ?_;intros);(try dsimp only);refine ZO.xS rfl rfl ⟨_,Try.func25,rfl,rfl⟩ rfl (by rintro y ⟨⟩;decide) (fun v σ'=>v=.int .i64 (k0+oN p)∧σ'=auF 9 (.slice a1 n1 c1) vs (.slice a2 n2 c2) q) (fun a w1 hst=>?_) (fun v σ' ⟨e1,e2⟩=>?_)
 ·obtain⟨⟨io,w0,g,hr,hC⟩,hM1⟩:=hst
  have hM1:acn 23 9 (.slice a1 n1 c1) vs (.slice a2 n2 c2) p q w1:=hM1;have hX:=hr.look (.tmp 6);have hY:=hr.look (.tmp 7);rw[show look _ (.tmp 6)=.val (.slice a1 n1 c1)from by(simp(disch:=(first|omega|(simp only[push_cast];first|done|omega))) only[push_cast,↓reduceIte,Nat.reduceEqDiff,Nat.reduceBEq,Nat.reduceAdd,Nat.reduceSub,Int.reduceToNat, *]<;>with_reducible exact rfl)]at hX;rw[show look _ (.tmp 7)=.val (.int .i64 k0)from by(simp(disch:=(first|omega|(simp only[push_cast];first|done|omega))) only[push_cast,↓reduceIte,Nat.reduceEqDiff,Nat.reduceBEq,Nat.reduceAdd,Nat.reduceSub,Int.reduceToNat, *]<;>with_reducible exact rfl)]at hY;simp only[Rep]at hX hY;simp only[List.map_toArray,List.map_cons,List.map_nil];rw[hX,hY];refine(wu hM1.ss hl hp hk0 hk1 ((hr.tab.keep hr.fr fun t ht=>(hr.tab.apart t ht)).io fun t ht e=>(hC.tk t ht).2 (.inl e)) rfl).mono ?_;rintro e w' ⟨rfl,hf,hs⟩;refine⟨_,_,rfl,⟨rfl,rfl⟩,⟨hf.os,hf.tape,hf.output,hf.size,fun i hi hn=>hf.block i hi fun e=>hn (.inl e)⟩,fun _ _ e=>e,fun _ e=>e,fun i e=>Nat.lt_of_lt_of_le (hM1.lt e) hf.size,?_⟩;exact hM1.row.same fun i hi=>hf.block i (hM1.row.lt hi) (hM1.ap i hi)
 subst e1 e2;dsimp only[AS.put];refine ZO.pre (imm:=⟨[],[],[]⟩) 1 bN (by kernel_rfl) (by simp only[List.take_succ_cons,List.take_zero]<;>exact rfl) (by simp only[List.drop_succ_cons,List.drop_zero]<;>exact rfl) (by simp only[List.map_cons,List.map_nil]<;>exact rfl) ?_;(try dsimp only);(refine wlk ?_;intros);(try dsimp only);refine ZO.nil ?_;(try dsimp only);refine HZ.seq (HZ.each ?_);refine ZO.pre (imm:=⟨[],[],[]⟩) 3 bN (by kernel_rfl) (by simp only[List.take_succ_cons,List.take_zero]<;>exact rfl) (by simp only[List.drop_succ_cons,List.drop_zero]<;>exact rfl) (by simp only[List.map_cons,List.map_nil]<;>exact rfl) ?_;(try dsimp only);(refine wlk ?_;intros);(try dsimp only);refine ZO.xS rfl rfl ⟨_,Try.func12,rfl,rfl⟩ rfl (by rintro y ⟨⟩;decide) (fun v σ'=>v=.int .i64 (k0+oN p+q.length)∧σ'=asL (.slice a1 n1 c1) vs (.slice a2 n2 c2)) (fun a w1 hst=>?_) (fun v σ' ⟨e1,e2⟩=>?_)
 ·obtain⟨⟨io,w0,g,hr,hC⟩,hM1⟩:=hst
  have hM1:fF 9 (.slice a2 n2 c2) (dD q) w1:=hM1;have hX:=hr.look (.tmp 10);have hY:=hr.look (.tmp 11);rw[show look _ (.tmp 10)=.val (.slice a2 n2 c2)from by(simp(disch:=(first|omega|(simp only[push_cast];first|done|omega))) only[push_cast,↓reduceIte,Nat.reduceEqDiff,Nat.reduceBEq,Nat.reduceAdd,Nat.reduceSub,Int.reduceToNat, *]<;>with_reducible exact rfl)]at hX;rw[show look _ (.tmp 11)=.val (.int .i64 (k0+oN p))from by(simp(disch:=(first|omega|(simp only[push_cast];first|done|omega))) only[push_cast,↓reduceIte,Nat.reduceEqDiff,Nat.reduceBEq,Nat.reduceAdd,Nat.reduceSub,Int.reduceToNat, *]<;>with_reducible exact rfl)]at hY;simp only[Rep]at hX hY;simp only[List.map_toArray,List.map_cons,List.map_nil];rw[hX,hY];refine(abG.calls hM1 hq (by omega) (by omega) ((hr.tab.keep hr.fr fun t ht=>(hr.tab.apart t ht)).io fun t ht e=>(hC.tk t ht).2 (.inr e))).mono ?_;rintro e w' ⟨rfl,hf⟩;exact⟨_,_,rfl,⟨rfl,rfl⟩,⟨hf.os,hf.tape,hf.output,hf.size,fun i hi hn=>hf.block i hi fun e=>hn (.inr e)⟩,fun _ _ e=>e,fun _ e=>e,fun i e=>Nat.lt_of_lt_of_le (hC.hb i e) (Nat.le_trans hr.fr.size hf.size),trivial⟩
 subst e1 e2;dsimp only[AS.put];refine ZO.pre (imm:=⟨[],[],[]⟩) 1 bN (by kernel_rfl) (by simp only[List.take_succ_cons,List.take_zero]<;>exact rfl) (by simp only[List.drop_succ_cons,List.drop_zero]<;>exact rfl) (by simp only[List.map_cons,List.map_nil]<;>exact rfl) ?_;(try dsimp only);(refine wlk ?_;intros);(try dsimp only);refine ZO.nil ?_;(try dsimp only);refine HZ.eng mixed bN (by kernel_rfl) ?_;(try dsimp only);(refine wlk ?_;intros);(try dsimp only);refine⟨.inr rfl,⟨_,by(simp(disch:=(first|omega|(simp only[push_cast];first|done|omega))) only[push_cast,↓reduceIte,Nat.reduceEqDiff,Nat.reduceBEq,Nat.reduceAdd,Nat.reduceSub,Int.reduceToNat, *]<;>with_reducible exact rfl),rfl⟩,fun i hi=> .inl hi⟩
theorem iq {α β:Type} {P:Program} {m:Sem α} {f:α→Sem β} {a:α} (h:av P m=some a):av P (m>>=f)=av P (f a):=by
 induction m with
 |pure x=>simp only[av,Option.some.injEq]at h;subst h;rfl
 |program k ih=>exact ih P h
 |_=>simp[av]at h
theorem tH {P:Program} {v:Int} {m:Nat} {k:BoundsCode} (h:0≤v) (h2:v≤m):av P (Instr.sliceBound (.int .i64 v) m k)=some v.toNat:=by have e:Instr.sliceBound (.int .i64 v) m k=(if 0≤v∧v≤m then pure v.toNat else boundsPanic .i64 v m k):=rfl;rw[e,if_pos ⟨h,h2⟩];rfl
theorem ajv {P:Program} {t:Nat} {d:TypeDesc} (hu:P.underlying t=some d):av P (underlying t)=some d:=by unfold underlying;rw[iq (a:=P) rfl];simp only[hu];rfl
theorem sps {P:Program} {t:Nat} {s:ByteArray} {lo hi:Option Int} (hu:P.underlying t=some .string) (h0:0≤lo.getD 0) (h1:lo.getD 0≤hi.getD s.size) (h2:hi.getD s.size≤s.size):
 anL P t (.val (.string s)) (some lo) (some hi)=some (.val (.string (s.extract (lo.getD 0).toNat (hi.getD s.size).toNat))):=by
 have hb:av P (Instr.sliceBounds false s.size s.size (lo.map (Value.int .i64)) (hi.map (Value.int .i64)) none)=some ((lo.getD 0).toNat,(hi.getD s.size).toNat,s.size):=by
  unfold Instr.sliceBounds;rw[iq (a:=s.size) rfl];cases hi with
  |none=>
   simp only[Option.map_none,Option.getD_none]at h1⊢;rw[iq (a:=s.size) rfl];cases lo with
   |none=>simp only[Option.map_none,Option.getD_none,Int.toNat_natCast];rw[iq (a:=0) rfl];rfl
   |some l=>simp only[Option.map_some,Option.getD_some,Int.toNat_natCast]at h0 h1⊢;rw[iq (tH h0 h1)];rfl
  |some h=>
   simp only[Option.map_some,Option.getD_some]at h1 h2⊢;have h3:0≤h:=by omega
   rw[iq (tH h3 h2)];cases lo with
   |none=>simp only[Option.map_none,Option.getD_none];rw[iq (a:=0) rfl];rfl
   |some l=>simp only[Option.map_some,Option.getD_some]at h0 h1⊢;rw[iq (tH h0 (by omega))];rfl
 have hs:av P (Instr.sliceAt t (.string s) (lo.map (Value.int .i64)) (hi.map (Value.int .i64)) none)=some (.string (s.extract (lo.getD 0).toNat (hi.getD s.size).toNat)):=by
  unfold Instr.sliceAt;rw[iq (ajv hu)];dsimp only
  unfold Instr.slice;rw[iq (ajv hu)];dsimp only
  simp only[Option.isSome_none,Bool.false_eq_true,if_false];rw[iq hb];rfl
 show(av P _).map _=_;rw[hs];rfl
theorem amR {s:ByteArray} {lo hi:Option Int} (h0:0≤lo.getD 0) (h1:lo.getD 0≤hi.getD s.size) (h2:hi.getD s.size≤s.size):
 anL Try.prog 9 (.val (.string s)) (some lo) (some hi)=some (.val (.string (s.extract (lo.getD 0).toNat (hi.getD s.size).toNat))):=sps Try.underlying9 h0 h1 h2
attribute[push_cast]
 amR
def amB (c:Int) (s:ByteArray):Bool:=s.data.toList.any fun b=>decide (c=(b.toNat:Int))
theorem asc {b:UInt8} {c:Int} (h0:0≤c) (h1:c≤255):(b==c.toNat.toUInt8)=decide (c=(b.toNat:Int)):=by
 have e:(c.toNat.toUInt8).toNat=c.toNat:=by show c.toNat % 256=c.toNat;omega
 rw[Bool.eq_iff_iff,beq_iff_eq,decide_eq_true_eq];constructor
 ·intro h
  rw[h,e];omega
 ·intro h
  apply UInt8.toNat_inj.1;rw[e];omega
theorem ajw:∀(l:List UInt8) {c:Int},0≤c→c≤255→decide (0≤Lib.indexByte l c.toNat.toUInt8)=l.any fun b=>decide (c=(b.toNat:Int))
 |[],c,_,_=>rfl
 |b::l,c,h0,h1=>by
  have ih:=ajw l h0 h1;have hge:=Lib.indexByte_ge l c.toNat.toUInt8;unfold Lib.indexByte;rw[asc h0 h1,List.any_cons];cases hb:decide (c=(b.toNat:Int))with
  |true=>rfl
  |false=>
   rw[Bool.false_or,←ih,if_neg (by decide)];split
   ·rename_i hx
    rw[beq_iff_eq.1 hx]
   ·rename_i hx
    have hx1:¬Lib.indexByte l c.toNat.toUInt8=-1:=fun e=>hx (beq_iff_eq.2 e);exact decide_eq_decide.2 (by omega)
def y8 (c:Int):Int:=if c<97∨122<c then 0 else if c=105∨c=106∨c=108 then 3 else if c=102∨c=114∨c=116 then 4 else if c=109∨c=119 then 8 else 5
def mF (a b:Int):Int:=if((a=118∨a=119∨a=121)∧(b=97∨b=101∨b=111))∨(a=114∧(b=110∨b=109))then 1 else 0
def oq (a b:Int):Bool:=decide (a=102∧(b=105∨b=106∨b=108∨b=102))
theorem vC (c:Int):0≤y8 c∧y8 c≤8:=by
 unfold y8
 repeat' split
 all_goals omega
theorem qE (a b:Int):0≤mF a b∧mF a b≤1:=by unfold mF;split<;>omega
def abn:Fun:=F1 dU fun c=>some (iv (y8 c))
theorem ahc (c:Int):abn [.val (.int .u8 c)]=some (.val (.int .i64 (y8 c))):=rfl
def abb:Fun:=F2 dU dU fun a b=>some (iv (mF a b))
theorem aeh (a b:Int):abb [.val (.int .u8 a),.val (.int .u8 b)]=some (.val (.int .i64 (mF a b))):=rfl
def uL:Fun:=F2 dU dU fun a b=>some (bv (oq a b))
theorem acT (a b:Int):uL [.val (.int .u8 a),.val (.int .u8 b)]=some (.val (.bool (oq a b))):=rfl
theorem aae:Sound Try.prog 77 abn:=by
 refine ak mixed bN Try.func77 rfl 39 rfl [.tmp 2] rfl (by kernel_rfl) fun ps r hr=>?_;obtain⟨c,rfl,hr⟩:=bJ hr;cases hr;refine⟨by simp,?_⟩;simp only[dIs,dUs,dSs,bQ,bU,bP,bT,aL,bS,aQ,aO,aR,aP];(repeat' (first|(with_reducible first|apply nK|apply fH|apply iC|apply iF|apply mJ|apply aci|apply l9|apply ni|apply abp|apply nD|apply nG|apply abY|apply mY|apply mG|apply l7)|((with_reducible apply dM);(simp only[List.map_cons,List.map_nil]<;>exact rfl))|((with_reducible apply iD);(simp only[List.map_cons,List.map_nil]<;>exact rfl);decide+kernel)|((with_reducible apply ng);rfl)|((first|((with_reducible apply i_V);rfl;rfl;rfl)|((first|((with_reducible apply i_E);rfl)|((with_reducible apply i_S);rfl));first|rfl|(simp only[push_cast,↓reduceIte]))|((with_reducible apply aa9);rfl;rfl)|((with_reducible apply acr);rfl;rfl;rfl)|(with_reducible first|apply ab2|apply iG));(simp(disch:=(first|omega|(simp only[push_cast];first|done|omega))) only[push_cast,↓reduceIte,Nat.reduceEqDiff,Nat.reduceBEq,Nat.reduceAdd,Nat.reduceSub,Int.reduceToNat, *]<;>with_reducible exact rfl);all_goals try(first|(with_reducible first|refine hyT ?_|refine hyF ?_|exact hyA|exact hyB)|(intro hX;first|(cases hX;done)|((try simp only[decide_eq_true_eq,decide_eq_false_iff_not,Bool.not_eq_true',Bool.not_eq_false']at hX);(try have hXb:=aB.1 hX)))))));all_goals try(exfalso;omega)
 all_goals((first|apply aaS|apply sQ);simp(disch:=(first|omega|(simp only[push_cast];first|done|omega))) only[push_cast,↓reduceIte,Nat.reduceEqDiff,Nat.reduceBEq,Nat.reduceAdd,Nat.reduceSub,Int.reduceToNat, *])
 all_goals((refine congrArg (fun z=>some (PV.val (Value.int IntKind.i64 z))) ?_);unfold y8;repeat' split)
 all_goals omega
theorem zP:Sound Try.prog 78 abb:=by
 refine ak mixed bN Try.func78 rfl 43 rfl [.tmp 4] rfl (by kernel_rfl) fun ps r hr=>?_;obtain⟨a,b,rfl,hr⟩:=iL hr;cases hr;refine⟨by simp,?_⟩;simp only[dIs,dUs,dSs,bQ,bU,bP,bT,aL,bS,aQ,aO,aR,aP];(repeat' (first|(with_reducible first|apply nK|apply fH|apply iC|apply iF|apply mJ|apply aci|apply l9|apply ni|apply abp|apply nD|apply nG|apply abY|apply mY|apply mG|apply l7)|((with_reducible apply dM);(simp only[List.map_cons,List.map_nil]<;>exact rfl))|((with_reducible apply iD);(simp only[List.map_cons,List.map_nil]<;>exact rfl);decide+kernel)|((with_reducible apply ng);rfl)|((first|((with_reducible apply i_V);rfl;rfl;rfl)|((first|((with_reducible apply i_E);rfl)|((with_reducible apply i_S);rfl));first|rfl|(simp only[push_cast,↓reduceIte]))|((with_reducible apply aa9);rfl;rfl)|((with_reducible apply acr);rfl;rfl;rfl)|(with_reducible first|apply ab2|apply iG));(simp(disch:=(first|omega|(simp only[push_cast];first|done|omega))) only[push_cast,↓reduceIte,Nat.reduceEqDiff,Nat.reduceBEq,Nat.reduceAdd,Nat.reduceSub,Int.reduceToNat, *]<;>with_reducible exact rfl);all_goals try(first|(with_reducible first|refine hyT ?_|refine hyF ?_|exact hyA|exact hyB)|(intro hX;first|(cases hX;done)|((try simp only[decide_eq_true_eq,decide_eq_false_iff_not,Bool.not_eq_true',Bool.not_eq_false']at hX);(try have hXb:=aB.1 hX)))))));all_goals try(exfalso;omega)
 all_goals((first|apply aaS|apply sQ);simp(disch:=(first|omega|(simp only[push_cast];first|done|omega))) only[push_cast,↓reduceIte,Nat.reduceEqDiff,Nat.reduceBEq,Nat.reduceAdd,Nat.reduceSub,Int.reduceToNat, *])
 all_goals((refine congrArg (fun z=>some (PV.val (Value.int IntKind.i64 z))) ?_);unfold mF;repeat' split)
 all_goals omega
theorem wB:Sound Try.prog 90 uL:=by refine ak mixed bN Try.func90 rfl 23 rfl [.tmp 4] rfl (by kernel_rfl) fun ps r hr=>?_;obtain⟨a,b,rfl,hr⟩:=iL hr;cases hr;refine⟨by simp,?_⟩;simp only[dIs,dUs,dSs,bQ,bU,bP,bT,aL,bS,aQ,aO,aR,aP];((refine wlk6 ?_ ?_ ?_ ?_ ?_ ?_<;>intros<;>try with_reducible exact trivial)<;>(refine fnG ?_;try with_reducible exact trivial));all_goals((refine congrArg (fun z=>some (PV.val (Value.bool z))) ?_);unfold oq;first|(simp;omega)|simp_all)
def φIb:Fun:=F2 dS dU fun s c=>some (iv (Lib.indexByte s.data.toList c.toNat.toUInt8))
theorem as4:Sound Try.prog 92 φIb:=by
 intro w J ps args r hr hJ hT hargs;obtain⟨s,c,rfl,hq⟩:=iL hr;cases hq;simp only[bF]at hargs;obtain⟨v1,vs1,e1,h1,v2,vs2,rfl,h2,rfl⟩:=hargs;obtain rfl:args=#[v1,v2]:=by obtain⟨a⟩:=args;simp only at e1;rw[e1]
 simp only[dS,dU,Rep]at h1 h2;subst h1;subst h2;refine(Ytmmafcjjlbgnkaa.strings_IndexByte s c w).mono ?_;rintro e w' ⟨rfl,rfl⟩;exact⟨_,rfl,Below.refl _ _,fun g' _=>by simp only[Rep]⟩
theorem amC (s:ByteArray) (c:Int):φIb [.val (.string s),.val (.int .u8 c)]=some (.val (.int .i64 (Lib.indexByte s.data.toList c.toNat.toUInt8))):=rfl
def φAm:Fun:=F2 dU dS fun c s=>open Classical in if 0≤c∧c≤255 then some (bv (amB c s))else none
theorem lT {c:Int} (s:ByteArray) (h:0≤c∧c≤255):φAm [.val (.int .u8 c),.val (.string s)]=some (.val (.bool (amB c s))):=(gD (A:=dU) (B:=dS) c s).trans (if_pos h)
def GAm:Ctx:={fn:=aZ [(92,φIb)],io:=aZ []}
theorem aqX:au Try.prog GAm:=okΓ (fC Try.func92 as4 aj) aj
def arq:=ah (Γ:=GAm) (f:=92) (φ:=φIb) rfl
theorem acd:Sound Try.prog 85 φAm:=by refine ak mixed aqX Try.func85 rfl 9 rfl [.tmp 4] rfl (by kernel_rfl) fun ps r hr=>?_;obtain⟨c,s,rfl,hpre,rfl⟩:=fQ hr;refine⟨by simp,?_⟩;simp only[dIs,dUs,dSs,bQ,bU,bP,bT,aL,bS,aQ,aO,aR,aP];have e:=ajw s.data.toList hpre.1 hpre.2;have hge:=Lib.indexByte_ge s.data.toList c.toNat.toUInt8;have ap:=amC s c;unfold amB;rw[←e];generalize Lib.indexByte s.data.toList c.toNat.toUInt8=i at*;clear e;have gam_c92:=arq;exact wlkF
theorem am2 (c a b:Int) (x y:UInt8) (h:(x.toNat:Int)=a) (h2:(y.toNat:Int)=b):amB c ⟨#[x,y]⟩=decide (c=a∨c=b):=by simp[amB,h,h2]
theorem am3 (c a b d:Int) (x y z:UInt8) (h:(x.toNat:Int)=a) (h2:(y.toNat:Int)=b) (h3:(z.toNat:Int)=d):amB c ⟨#[x,y,z]⟩=decide (c=a∨c=b∨c=d):=by simp[amB,h,h2,h3]
theorem am4 (c a b d e:Int) (x y z u:UInt8) (h:(x.toNat:Int)=a) (h2:(y.toNat:Int)=b) (h3:(z.toNat:Int)=d) (h4:(u.toNat:Int)=e):amB c ⟨#[x,y,z,u]⟩=decide (c=a∨c=b∨c=d∨c=e):=by simp[amB,h,h2,h3,h4]
def vN:Fun:=F1 dU fun c=>open Classical in if 0≤c∧c≤255 then some (iv (y8 c))else none
theorem acY {c:Int} (h:0≤c∧c≤255):vN [.val (.int .u8 c)]=some (.val (.int .i64 (y8 c))):=(iy (A:=dU) c).trans (if_pos h)
def vP:Fun:=F2 dU dU fun a b=>open Classical in if(0≤a∧a≤255)∧0≤b∧b≤255 then some (iv (mF a b))else none
theorem ac1 {a b:Int} (h:0≤a∧a≤255) (h2:0≤b∧b≤255):vP [.val (.int .u8 a),.val (.int .u8 b)]=some (.val (.int .i64 (mF a b))):=(gD (A:=dU) (B:=dU) a b).trans (if_pos ⟨h,h2⟩)
def uM:Fun:=F2 dU dU fun a b=>open Classical in if(0≤a∧a≤255)∧0≤b∧b≤255 then some (bv (oq a b))else none
theorem ado {a b:Int} (h:0≤a∧a≤255) (h2:0≤b∧b≤255):uM [.val (.int .u8 a),.val (.int .u8 b)]=some (.val (.bool (oq a b))):=(gD (A:=dU) (B:=dU) a b).trans (if_pos ⟨h,h2⟩)
def GLw:Ctx:={fn:=aZ [(65,jR),(85,φAm)],io:=aZ []}
theorem anR:au Try.prog GLw:=okΓ (fC Try.func65 nQ (fC Try.func85 acd aj)) aj
def aoi:=ah (Γ:=GLw) (f:=65) (φ:=jR) rfl
def apz:=ah (Γ:=GLw) (f:=85) (φ:=φAm) rfl
theorem aao:Sound Try.prog 69 vN:=by
 refine ak mixed anR Try.func69 rfl 16 rfl [.tmp 2] rfl (by kernel_rfl) fun ps r hr=>?_;obtain⟨c,rfl,hpre,rfl⟩:=oM hr;refine⟨by simp,?_⟩;simp only[dIs,dUs,dSs,bQ,bU,bP,bT,aL,bS,aQ,aO,aR,aP];have ap1:=om c;have ap2:=(lT ⟨#[105,106,108]⟩ hpre).trans (by rw[am3 c 105 106 108 _ _ _ rfl rfl rfl]);have ap3:=(lT ⟨#[102,114,116]⟩ hpre).trans (by rw[am3 c 102 114 116 _ _ _ rfl rfl rfl]);have ap4:=(lT ⟨#[109,119]⟩ hpre).trans (by rw[am2 c 109 119 _ _ rfl rfl]);have glw_c65:=aoi;have glw_c85:=apz;((refine wlk6 ?_ ?_ ?_ ?_ ?_ ?_<;>intros<;>try with_reducible exact trivial)<;>(refine fnG ?_;try with_reducible exact trivial));all_goals((refine congrArg (fun z=>some (PV.val (Value.int IntKind.i64 z))) ?_);unfold y8;repeat' split)
 all_goals(first|omega|(simp[inB]at*;omega))
def GNb:Ctx:={fn:=aZ [(85,φAm)],io:=aZ []}
theorem ajG:au Try.prog GNb:=okΓ (fC Try.func85 acd aj) aj
def ajK:=ah (Γ:=GNb) (f:=85) (φ:=φAm) rfl
theorem aaH:Sound Try.prog 70 vP:=by
 refine ak mixed ajG Try.func70 rfl 19 rfl [.tmp 4] rfl (by kernel_rfl) fun ps r hr=>?_;obtain⟨a,b,rfl,hpre,rfl⟩:=fQ hr;refine⟨by simp,?_⟩;simp only[dIs,dUs,dSs,bQ,bU,bP,bT,aL,bS,aQ,aO,aR,aP];have ap1:=(lT ⟨#[118,119,121]⟩ hpre.1).trans (by rw[am3 a 118 119 121 _ _ _ rfl rfl rfl]);have ap2:=(lT ⟨#[97,101,111]⟩ hpre.2).trans (by rw[am3 b 97 101 111 _ _ _ rfl rfl rfl]);have ap3:=(lT ⟨#[110,109]⟩ hpre.2).trans (by rw[am2 b 110 109 _ _ rfl rfl]);have gnb_c85:=ajK;((refine wlk6 ?_ ?_ ?_ ?_ ?_ ?_<;>intros<;>try with_reducible exact trivial)<;>(refine fnG ?_;try with_reducible exact trivial));all_goals((refine congrArg (fun z=>some (PV.val (Value.int IntKind.i64 z))) ?_);unfold mF;repeat' split)
 all_goals omega
theorem xH:Sound Try.prog 84 uM:=by refine ak mixed ajG Try.func84 rfl 11 rfl [.tmp 4] rfl (by kernel_rfl) fun ps r hr=>?_;obtain⟨a,b,rfl,hpre,rfl⟩:=fQ hr;refine⟨by simp,?_⟩;simp only[dIs,dUs,dSs,bQ,bU,bP,bT,aL,bS,aQ,aO,aR,aP];have ap1:=(lT ⟨#[105,106,108,102]⟩ hpre.2).trans (by rw[am4 b 105 106 108 102 _ _ _ _ rfl rfl rfl rfl]);have gnb_c85:=ajK;((refine wlk6 ?_ ?_ ?_ ?_ ?_ ?_<;>intros<;>try with_reducible exact trivial)<;>(refine fnG ?_;try with_reducible exact trivial));all_goals((refine congrArg (fun z=>some (PV.val (Value.bool z))) ?_);unfold oq;first|(simp;omega)|simp_all)
abbrev sgN (s:ByteArray) (i:Nat):Nat:=if i+1<s.size∧oq (at8 s i) (at8 s (i+1))=true then 2 else 1
def sgF (s:ByteArray):Nat→Nat→LS
 |0,_=>[]
 |f+1,i=>if i<s.size then s.extract i (i+sgN s i)::sgF s f (i+sgN s i)else []
def signs (s:ByteArray):LS:=sgF s s.size 0
theorem pK {s:ByteArray} {f i:Nat} (h:i<s.size):sgF s (f+1) i=s.extract i (i+sgN s i)::sgF s f (i+sgN s i):=by rw[sgF,if_pos h]
theorem zh {s:ByteArray} {f i:Nat} (h:s.size≤i):sgF s f i=[]:=by
 cases f with
 |zero=>rfl
 |succ f=>rw[sgF,if_neg (by omega)]
theorem ano (s:ByteArray) (i:Nat):1≤sgN s i∧sgN s i≤2∧(i<s.size→i+sgN s i≤s.size):=by unfold sgN;split<;>omega
theorem agO {s:ByteArray} {a b j:Nat} (h:j<b-a) (hb:b≤s.size):at8 (s.extract a b) j=at8 s (a+j):=by
 unfold at8;have h1:j<(s.extract a b).size:=by rw[ByteArray.size_extract];omega
 rw[getElem?_pos (s.extract a b) j h1,getElem?_pos s (a+j) (by omega)];rw[ByteArray.getElem_extract]
def anK (x:ByteArray):Prop:=1≤x.size∧x.size≤2∧∀j,j<x.size→97≤at8 x j∧at8 x j≤122
theorem aj2 {s:ByteArray} (h:∀j,j<s.size→97≤at8 s j∧at8 s j≤122):∀(f i:Nat),(∀x∈sgF s f i,anK x)∧(sgF s f i).length≤s.size-i
 |0,i=>⟨by simp[sgF],by simp[sgF]⟩
 |f+1,i=>by
  by_cases hi:i<s.size
  ·obtain⟨h1,h2,h3⟩:=ano s i
   obtain⟨i1,i2⟩:=aj2 h f (i+sgN s i);rw[pK hi];refine⟨fun x hx=>?_,by rw[List.length_cons];have:=h3 hi;omega⟩;rcases List.mem_cons.1 hx with rfl|hx
   ·have hsz:(s.extract i (i+sgN s i)).size=sgN s i:=by rw[ByteArray.size_extract];have:=h3 hi;omega
    refine⟨by omega,by omega,fun j hj=>?_⟩;have h4:=h3 hi;rw[agO (by omega) (by omega)];exact h _ (by omega)
   ·exact i1 x hx
  ·rw[zh (by omega)]
   exact⟨by simp,by simp⟩
theorem aS {s:ByteArray} (h:cu s=true):(∀j,j<s.size→97≤at8 s j∧at8 s j≤122)∧1≤s.size∧s.size≤20:=by unfold cu at h;rw[Bool.and_eq_true,List.all_eq_true]at h;refine⟨fun j hj=>aB.1 (h.1 j (List.mem_range.2 hj)),?_⟩;have:=aB.1 h.2;omega
theorem lX {s:ByteArray} (h:cu s=true):(∀x∈signs s,anK x)∧1≤(signs s).length∧(signs s).length≤20:=by obtain⟨h1,h2,h3⟩:=aS h;obtain⟨i1,i2⟩:=aj2 h1 s.size 0;refine⟨i1,?_,by unfold signs;omega⟩;unfold signs;obtain⟨n,hn⟩:∃n,s.size=n+1:=⟨s.size-1,by omega⟩;rw[hn,pK (by omega),List.length_cons];omega
theorem uV {s:ByteArray} (h:cu s=true) {k:Nat} (hk:k<(signs s).length):anK ((signs s)[k]?.getD .empty):=by rw[List.getElem?_eq_getElem hk,Option.getD_some];exact(lX h).1 _ (List.getElem_mem hk)
def sgW (x:ByteArray):Nat→Int
 |0=>0
 |j+1=>sgW x j+y8 (at8 x j)
def vO (g:LS) (k:Nat):Int:=if k+1<g.length then mF (at8 (g[k]?.getD .empty) ((g[k]?.getD .empty).size-1)) (at8 (g[k+1]?.getD .empty) 0)else 0
def wdK (g:LS):Nat→Int
 |0=>0
 |k+1=>wdK g k+sgW (g[k]?.getD .empty) (g[k]?.getD .empty).size-((g[k]?.getD .empty).size-1)-vO g k
def nR (s:ByteArray):Int:=if cu s=true then wdK (signs s) (signs s).length else-1
theorem aad {x:ByteArray} (h:anK x):∀j,j≤x.size→3*(j:Int)≤sgW x j∧sgW x j≤8*j
 |0,_=>⟨by simp[sgW],by simp[sgW]⟩
 |j+1,hj=>by
  have ih:=aad h j (by omega);have h1:=vC (at8 x j);have h2:=h.2.2 j (by omega);have h3:3≤y8 (at8 x j):=by
   unfold y8;rw[if_neg (by omega)]
   repeat' split
   all_goals omega
  unfold sgW
  push_cast
  omega
theorem aby {x:ByteArray} (h:anK x):∀j,j≤x.size→0≤sgW x j∧sgW x j≤16:=fun j hj=>by have:=aad h j hj;have:=h.2.1;omega
theorem vV {g:LS} (h:∀k,k<g.length→anK (g[k]?.getD .empty)):∀k,k≤g.length→0≤wdK g k∧wdK g k≤16*k
 |0,_=>⟨by simp[wdK],by simp[wdK]⟩
 |k+1,hk=>by
  have ih:=vV h k (by omega);have h1:=h k (by omega);have h2:=aad h1 _ (Nat.le_refl _);have h3:=h1.1;have h4:=h1.2.1;have h5:0≤vO g k∧vO g k≤1:=by
   unfold vO;split
   ·exact qE _ _
   ·omega
  unfold wdK;generalize vO g k=m at*;generalize sgW (g[k]?.getD .empty) (g[k]?.getD .empty).size=z at*;generalize(g[k]?.getD ByteArray.empty).size=y at*
  push_cast
  omega
theorem aeu {s:ByteArray} (h:cu s=true):0≤nR s∧nR s≤320:=by have h1:=vV (fun k hk=>uV h hk) _ (Nat.le_refl _);have h2:=(lX h).2.2;unfold nR;rw[if_pos h];omega
def gF (p:ByteArray):Nat→ByteArray×List Int×Int
 |0=>(⟨#[]⟩,[],0)
 |k+1=>if zX (at8 p k)=true then((gF p k).1,(gF p k).2.1,at8 p k-48)else((gF p k).1++p.extract k (k+1),(gF p k).2.1++[(gF p k).2.2],0)
def bV (p:ByteArray):ByteArray:=(gF p p.size).1
def dH (p:ByteArray):List Int:=(gF p p.size).2.1++[(gF p p.size).2.2]
theorem pU {p:ByteArray} {k:Nat} (h:zX (at8 p k)=true):gF p (k+1)=((gF p k).1,(gF p k).2.1,at8 p k-48):=by rw[gF,if_pos h]
theorem pW {p:ByteArray} {k:Nat} (h:zX (at8 p k)=false):gF p (k+1)=((gF p k).1++p.extract k (k+1),(gF p k).2.1++[(gF p k).2.2],0):=by rw[gF,if_neg (by rw[h];decide)]
theorem mQ (p:ByteArray):∀k,k≤p.size→(gF p k).1.size=(gF p k).2.1.length∧(gF p k).1.size≤k∧(0≤(gF p k).2.2∧(gF p k).2.2≤9)∧∀x∈(gF p k).2.1,0≤x∧x≤9
 |0,_=>⟨rfl,Nat.le_refl _,⟨Int.le_refl _,by show(0:Int)≤9;omega⟩,by simp[gF]⟩
 |k+1,hk=>by
  obtain⟨h1,h2,h3,h4⟩:=mQ p k (by omega);cases hd:zX (at8 p k)with
  |true=>rw[pU hd];have:=aB.1 hd;exact⟨h1,by dsimp only;omega,by dsimp only;omega,h4⟩
  |false=>
   rw[pW hd];refine⟨?_,?_,⟨Int.le_refl _,by show(0:Int)≤9;omega⟩,fun x hx=>?_⟩
   ·dsimp only
    rw[ByteArray.size_append,ByteArray.size_extract,List.length_append,List.length_singleton];omega
   ·dsimp only
    rw[ByteArray.size_append,ByteArray.size_extract];omega
   ·rcases List.mem_append.1 hx with hx|hx
    ·exact h4 x hx
    ·rw[List.mem_singleton.1 hx]
     exact h3
theorem lI (p:ByteArray):(dH p).length=(bV p).size+1∧(bV p).size≤p.size∧∀k:Nat,0≤(dH p)[k]?.getD 0∧(dH p)[k]?.getD 0≤9:=by
 obtain⟨h1,h2,h3,h4⟩:=mQ p p.size (Nat.le_refl _);refine⟨by unfold dH bV;rw[List.length_append,List.length_singleton];omega,h2,fun k=>?_⟩;by_cases hk:k<(dH p).length
 ·rw[List.getElem?_eq_getElem hk,Option.getD_some]
  have hm:(dH p)[k]∈dH p:=List.getElem_mem hk;rcases List.mem_append.1 hm with hm|hm
  ·exact h4 _ hm
  ·rw[List.mem_singleton.1 hm];exact h3
 ·rw[List.getElem?_eq_none (by omega)]
  decide
def zC (sz a j:Nat) (lv o:List Int):List Int:=if 1≤a+j∧a+j≤sz+1 then o.set (a+j-1) (if lv[j]?.getD 0>o[a+j-1]?.getD 0 then lv[j]?.getD 0 else o[a+j-1]?.getD 0)else o
def lvJ (sz a:Nat) (lv o:List Int):Nat→List Int
 |0=>o
 |j+1=>zC sz a j lv (lvJ sz a lv o j)
open Classical in
noncomputable def lvA (d:ByteArray) (sz:Nat) (lt:ByteArray) (lv o:List Int):Nat→List Int
 |0=>o
 |a+1=>if d.extract a (a+lt.size)=lt then lvJ sz a lv (lvA d sz lt lv o a) lv.length else lvA d sz lt lv o a
def alH (w:ByteArray):ByteArray:=(⟨#[46]⟩++w)++⟨#[46]⟩
theorem wV (w:ByteArray):(alH w).size=w.size+2:=by unfold alH;rw[ByteArray.size_append,ByteArray.size_append,show(⟨#[46]⟩:ByteArray).size=1 from rfl];omega
def lvP (w:ByteArray) (pats:LS):Nat→List Int
 |0=>List.replicate (w.size+1) 0
 |k+1=>lvA (alH w) w.size (bV (pats[k]?.getD .empty)) (dH (pats[k]?.getD .empty)) (lvP w pats k) (w.size+3-(bV (pats[k]?.getD .empty)).size)
def gL (w:ByteArray) (pats:LS):List Int:=lvP w pats pats.length
def ac9 (sz:Nat) (o:List Int):Prop:=o.length=sz+1∧∀k:Nat,0≤o[k]?.getD 0∧o[k]?.getD 0≤9
theorem ac9.set {sz a j:Nat} {lv o:List Int} (h:ac9 sz o) (hl:∀k:Nat,0≤lv[k]?.getD 0∧lv[k]?.getD 0≤9):ac9 sz (zC sz a j lv o):=by
 unfold zC;split
 ·rename_i hc
  refine⟨by rw[List.length_set];exact h.1,fun k=>?_⟩;have h1:=h.2 (a+j-1);have h2:=hl j;have h3:=h.2 k;have h4:=h.1;by_cases hk:a+j-1=k
  ·subst hk
   rw[List.getElem?_set_self (by omega),Option.getD_some];split<;>omega
  ·rw[List.getElem?_set_ne hk]
   exact h3
 ·exact h
theorem ac9.lvJ {sz a:Nat} {lv o:List Int} (h:ac9 sz o) (hl:∀k:Nat,0≤lv[k]?.getD 0∧lv[k]?.getD 0≤9):∀j,ac9 sz (lvJ sz a lv o j)
 |0=>h
 |j+1=>(ac9.lvJ h hl j).set hl
theorem ac9.lvA {d lt:ByteArray} {sz:Nat} {lv o:List Int} (h:ac9 sz o) (hl:∀k:Nat,0≤lv[k]?.getD 0∧lv[k]?.getD 0≤9):∀a,ac9 sz (lvA d sz lt lv o a)
 |0=>h
 |a+1=>by
  unfold Go.Proofs.Ytmmafcjjlbgnkaa.lvA;split
  ·exact(ac9.lvA h hl a).lvJ hl _
  ·exact ac9.lvA h hl a
theorem xD (w:ByteArray) (pats:LS):∀k,ac9 w.size (lvP w pats k)
 |0=>⟨by simp[lvP],fun k=>by unfold lvP;rw[List.getElem?_replicate];split<;>decide⟩
 |k+1=>(xD w pats k).lvA (lI _).2.2 _
def plB (sz:Nat) (lv:List Int) (k:Nat):Bool:=decide (2≤k∧k+3≤sz∧lv[k]?.getD 0 % 2=1)
def plK (sz:Nat) (lv:List Int) (k:Nat):List Int:=((List.range k).filter (plB sz lv)).map fun k:Nat=>(k:Int)
theorem aas {sz:Nat} {lv:List Int} {k:Nat} (h:plB sz lv k=true):plK sz lv (k+1)=plK sz lv k++[(k:Int)]:=by simp[plK,List.range_succ,List.filter_append,h]
theorem sJ {sz:Nat} {lv:List Int} {k:Nat} (h:plB sz lv k=false):plK sz lv (k+1)=plK sz lv k:=by simp[plK,List.range_succ,List.filter_append,h]
theorem akB {sz:Nat} {lv:List Int}:plK sz lv 2=[]:=by rw[sJ (by simp[plB]),sJ (by simp[plB])];rfl
theorem abD {sz:Nat} {lv:List Int} {k:Nat} (h:sz<k+3):∀n,plK sz lv (k+n)=plK sz lv k
 |0=>rfl
 |n+1=>by rw[←Nat.add_assoc,sJ (by simp[plB];omega),abD h n]
theorem aia {sz:Nat} {lv:List Int} {k:Nat} (h:sz<5):plK sz lv k=[]:=by unfold plK;rw[List.filter_eq_nil_iff.2 fun x _=>by simp[plB];omega];rfl
def jy (w:ByteArray) (pats:LS):List Int:=plK w.size (gL w pats) (w.size+1)
theorem af2 {sz:Nat} {lv:List Int} {k:Nat}:∀x∈plK sz lv k,2≤x∧x+3≤sz∧x<k:=fun x hx=>by obtain⟨n,hn,rfl⟩:=List.mem_map.1 hx;obtain⟨h1,h2⟩:=List.mem_filter.1 hn;have h3:=List.mem_range.1 h1;have h4:=of_decide_eq_true h2;omega
theorem zA (sz:Nat) (lv:List Int):∀k,(plK sz lv k).Pairwise (· < ·)
 |0=>List.Pairwise.nil
 |k+1=>by
  cases h:plB sz lv k with
  |true=>rw[aas h,List.pairwise_append];refine⟨zA sz lv k,List.pairwise_singleton _ _,fun a ha b hb=>?_⟩;rw[List.mem_singleton.1 hb];exact(af2 a ha).2.2
  |false=>rw[sJ h];exact zA sz lv k
theorem agH (sz:Nat) (lv:List Int) (k:Nat):(plK sz lv k).length≤k:=by unfold plK;rw[List.length_map];exact Nat.le_trans (List.length_filter_le _ _) (by simp)
def frK (pl:List Int) (k:Nat):Int:=if k=0 then 0 else pl[k-1]?.getD 0
def ptF (w:ByteArray) (pl:List Int):Nat→LS
 |0=>[]
 |k+1=>ptF w pl k++[w.extract (frK pl k).toNat (pl[k]?.getD 0).toNat]
def ptR (w:ByteArray) (pl:List Int):LS:=ptF w pl pl.length++[w.extract (frK pl pl.length).toNat w.size]
def yS (w:ByteArray) (pats:LS):LS:=ptR w (jy w pats)
theorem tT (w:ByteArray) (pl:List Int):∀k,(ptF w pl k).length=k
 |0=>rfl
 |k+1=>by rw[ptF,List.length_append,tT w pl k];rfl
def arW (w:ByteArray) (pl:List Int):Prop:=pl.length≤20∧∀k,k<pl.length→frK pl k<pl[k]?.getD 0∧pl[k]?.getD 0<w.size
theorem uU (pl:List Int) (k:Nat):frK pl (k+1)=pl[k]?.getD 0:=by unfold frK;rw[if_neg (by omega)];rfl
theorem qw {w:ByteArray} {pl:List Int} (h:arW w pl) (hw:1≤w.size):∀k,k≤pl.length→0≤frK pl k∧frK pl k<w.size
 |0,_=>by simp[frK];omega
 |k+1,hk=>by have h1:=qw h hw k (by omega);have h2:=h.2 k (by omega);rw[uU];omega
theorem mh {w:ByteArray} {pats:LS} (hw:cu w=true):arW w (jy w pats):=by
 obtain⟨-,w1,w2⟩:=aS hw;have ha:=zA w.size (gL w pats) (w.size+1);have hm:=@af2 w.size (gL w pats) (w.size+1);refine⟨?_,fun k hk=>?_⟩
 ·unfold jy plK
  rw[List.length_map];have:((List.range (w.size+1)).filter (plB w.size (gL w pats))).length≤((List.range (w.size+1)).filter (fun k=>decide (k<w.size))).length:=by rw[←List.countP_eq_length_filter,←List.countP_eq_length_filter];refine List.countP_mono_left fun x _ hx=>?_;have:=of_decide_eq_true hx;exact decide_eq_true (by omega)
  have h2:((List.range (w.size+1)).filter (fun k=>decide (k<w.size))).length≤w.size:=by rw[List.range_succ,List.filter_append];have h3:=List.length_filter_le (fun k=>decide (k<w.size)) (List.range w.size);rw[List.length_range]at h3;simp;omega
  omega
 ·unfold jy at hk⊢
  generalize plK w.size (gL w pats) (w.size+1)=pl at*;rw[List.getElem?_eq_getElem hk,Option.getD_some];have h1:=hm _ (List.getElem_mem hk);refine⟨?_,by omega⟩;unfold frK;split
  ·omega
  ·rename_i h0
   rw[List.getElem?_eq_getElem (show k-1<pl.length by omega),Option.getD_some];exact List.pairwise_iff_getElem.1 ha (k-1) k (by omega) hk (by omega)
theorem wX {w:ByteArray} {a b:Nat} (hw:cu w=true) (h1:a<b) (h2:b≤w.size):cu (w.extract a b)=true:=by
 obtain⟨l1,l2,l3⟩:=aS hw;have hs:(w.extract a b).size=b-a:=by rw[ByteArray.size_extract];omega
 rw[qd fun j hj=>?_,hs]
 ·exact aB.2 ⟨by omega,by omega⟩
 ·rw[agO (by omega) h2]
  exact l1 _ (by omega)
theorem ace {w:ByteArray} {pl:List Int} (hw:cu w=true) (h:arW w pl):∀k,k≤pl.length→∀x∈ptF w pl k,cu x=true
 |0,_=>by simp[ptF]
 |k+1,hk=>fun x hx=>by
  rw[ptF]at hx;rcases List.mem_append.1 hx with hx|hx
  ·exact ace hw h k (by omega) x hx
  ·rw[List.mem_singleton.1 hx]
   have h1:=h.2 k (by omega);have h2:=qw h (aS hw).2.1 k (by omega);exact wX hw (by omega) (by omega)
theorem ajc {w:ByteArray} {pl:List Int} (hw:cu w=true) (h:arW w pl):∀x∈ptR w pl,cu x=true:=fun x hx=>by
 rcases List.mem_append.1 hx with hx|hx
 ·exact ace hw h _ (Nat.le_refl _) x hx
 ·rw[List.mem_singleton.1 hx]
  have h2:=qw h (aS hw).2.1 _ (Nat.le_refl _);exact wX hw (by omega) (Nat.le_refl _)
theorem agC (w:ByteArray) (pl:List Int):(ptR w pl).length=pl.length+1:=by unfold ptR;rw[List.length_append,tT];rfl
abbrev pvS (s:ByteArray):PV:=.val (.string s)
def φSg:Fun:=F1 dS fun s=>if cu s=true then some (.lst true 1 ((signs s).map fun s=> .val (.string s)))else none
theorem anl {s:ByteArray} (h:cu s=true):φSg [.val (.string s)]=some (.lst true 1 ((signs s).map fun s=> .val (.string s))):=(iy (A:=dS) s).trans (if_pos h)
def abd (s:ByteArray):LS:=if cu s=true then signs s else []
def ahG:Fun:=F1 dS fun s=>if s.size≤1048576 then some (.lst true 1 ((abd s).map fun s=> .val (.string s)))else none
theorem ahP {s:ByteArray} (h:s.size≤1048576):ahG [.val (.string s)]=some (.lst true 1 ((abd s).map fun s=> .val (.string s))):=(iy (A:=dS) s).trans (if_pos h)
def GSg:Ctx:={fn:=aZ [(84,uM)],io:=aZ []}
theorem aq3:au Try.prog GSg:=okΓ (fC Try.func84 xH aj) aj
def aqR:=ah (Γ:=GSg) (f:=84) (φ:=uM) rfl
theorem afs:Sound Try.prog 68 φSg:=by
 refine ak mixed aq3 Try.func68 rfl 38 rfl [.tmp 2] rfl (by kernel_rfl) fun ps r hr=>?_;obtain⟨s,rfl,hpre,rfl⟩:=oM hr;refine⟨by simp,?_⟩;simp only[dIs,dUs,dSs,bQ,bU,bP,bT,aL,bS,aQ,aO,aR,aP];obtain⟨-,hs1,hs2⟩:=aS hpre;have hsg1:=(lX hpre).2.1;have apj:=fun i=>ado (gK s i) (gK s (i+1));have hI0:[]++sgF s s.size 0=signs s:=rfl;replace hI0:=Lib.hid hI0;generalize signs s=R at*;clear hpre;have gsg_c84:=aqR;(refine wlk ?_;intros);refine aD (α:=Nat×Nat×LS×Nat×Nat) mixed (fun z=>[(0,.val (.string s)),(3,nP 1 (z.2.2.1.map pvS) z.2.2.2.1),(4,iv z.2.1)])
  (fun z=>nO 9 1 (z.2.2.1.map pvS) z.2.2.2.1) (fun z=>z.2.2.2.2)
  (fun z=>z.2.2.1++sgF s z.1 z.2.1=R∧s.size≤z.2.1+z.1∧z.2.1≤s.size∧z.2.2.1.length≤z.2.1∧(0<z.2.2.1.length→z.2.2.2.1<z.2.2.2.2)) (fun z=>z.1) (by kernel_rfl) (s.size,0,[],0,0) ⟨hI0.out,by simp,by simp,by simp,by simp⟩ ?_ ?_ rfl ?_
 ·exact agr
 ·exact agr
 rintro⟨f,i,out,x,y⟩ ⟨hI,hf,hi,ho,hxy⟩;dsimp only at hI hf hi ho hxy;clear hI0;by_cases h0:i<s.size
 ·cases f with
  |zero=>omega
  |succ f=>
  rw[pK h0]at hI;have hI2:(out++[s.extract i (i+sgN s i)])++sgF s f (i+sgN s i)=R:=by rw[List.append_assoc];exact hI
  clear hI;replace apj:=apj i;by_cases hj:i+1<s.size∧oq (at8 s i) (at8 s (i+1))=true
  ·have hn:sgN s i=2:=if_pos hj
   rw[hn]at hI2;replace hI2:=Lib.hid hI2;obtain⟨hj1,hj2⟩:=hj;rw[hj2]at apj;have e3:((i:Int)+2).toNat=i+2:=by omega
   clear hn;by_cases hz:out.length=0
   ·obtain rfl:out=[]:=List.eq_nil_of_length_eq_zero hz
    (refine wlk ?_;intros);refine⟨(f,i+2,[]++[s.extract i (i+2)],y+1,y+2),⟨hI2.out,by dsimp only;omega,by dsimp only;omega,by simp,fun _=>by dsimp only;omega⟩,by dsimp only;omega,?_,?_,rfl⟩
    ·exact agi
    ·exact agr
   ·have hxy:=hxy (by omega)
    have hap:0<(out.map pvS).length:=by rw[List.length_map];omega
    clear hz;have hap3:0<((out++[s.extract i (i+2)]).map pvS).length:=by simp
    simp only[aF hap,aG hap,List.length_map];(refine wlk ?_;intros);refine⟨(f,i+2,out++[s.extract i (i+2)],y+1,y+2),⟨hI2.out,by dsimp only;omega,by dsimp only;omega,by simp;omega,fun _=>by dsimp only;omega⟩,by dsimp only;omega,?_,?_,rfl⟩
    ·simp(disch:=(first|omega|(simp only[push_cast];first|done|omega))) only[push_cast,↓reduceIte,Nat.reduceEqDiff,Nat.reduceBEq,Nat.reduceAdd,Nat.reduceSub,Int.reduceToNat,aF hap3,List.length_append, *]
     try exact congrArg (fun z=>PV.val (Value.int IntKind.i64 z)) (by omega)
    ·simp(disch:=(first|omega|(simp only[push_cast];first|done|omega))) only[push_cast,↓reduceIte,Nat.reduceEqDiff,Nat.reduceBEq,Nat.reduceAdd,Nat.reduceSub,Int.reduceToNat,aG hap3, *]
  ·have hn:sgN s i=1:=if_neg hj
   rw[hn]at hI2;replace hI2:=Lib.hid hI2;clear hn;have hj3:i+1<s.size→oq (at8 s i) (at8 s (i+1))=false:=fun h=>by
    cases hq:oq (at8 s i) (at8 s (i+1))with
    |false=>rfl
    |true=>exact absurd ⟨h,hq⟩ hj
   clear hj;by_cases hz:out.length=0
   ·obtain rfl:out=[]:=List.eq_nil_of_length_eq_zero hz
    by_cases h1:i+1<s.size
    ·rw[hj3 h1]at apj
     clear hj3;(refine wlk ?_;intros);refine⟨(f,i+1,[]++[s.extract i (i+1)],y+1,y+2),⟨hI2.out,by dsimp only;omega,by dsimp only;omega,by simp,fun _=>by dsimp only;omega⟩,by dsimp only;omega,?_,?_,rfl⟩
     ·exact agr
     ·exact agr
    ·clear hj3
     (refine wlk ?_;intros);refine⟨(f,i+1,[]++[s.extract i (i+1)],y+1,y+2),⟨hI2.out,by dsimp only;omega,by dsimp only;omega,by simp,fun _=>by dsimp only;omega⟩,by dsimp only;omega,?_,?_,rfl⟩
     ·exact agr
     ·exact agr
   ·have hxy:=hxy (by omega)
    have hap:0<(out.map pvS).length:=by rw[List.length_map];omega
    clear hz;have hap3:0<((out++[s.extract i (i+1)]).map pvS).length:=by simp
    simp only[aF hap,aG hap,List.length_map];by_cases h1:i+1<s.size
    ·rw[hj3 h1]at apj
     clear hj3;(refine wlk ?_;intros);refine⟨(f,i+1,out++[s.extract i (i+1)],y+1,y+2),⟨hI2.out,by dsimp only;omega,by dsimp only;omega,by simp;omega,fun _=>by dsimp only;omega⟩,by dsimp only;omega,?_,?_,rfl⟩
     ·simp(disch:=(first|omega|(simp only[push_cast];first|done|omega))) only[push_cast,↓reduceIte,Nat.reduceEqDiff,Nat.reduceBEq,Nat.reduceAdd,Nat.reduceSub,Int.reduceToNat,aF hap3,List.length_append, *]
      try exact congrArg (fun z=>PV.val (Value.int IntKind.i64 z)) (by omega)
     ·simp(disch:=(first|omega|(simp only[push_cast];first|done|omega))) only[push_cast,↓reduceIte,Nat.reduceEqDiff,Nat.reduceBEq,Nat.reduceAdd,Nat.reduceSub,Int.reduceToNat,aG hap3, *]
    ·clear hj3
     (refine wlk ?_;intros);refine⟨(f,i+1,out++[s.extract i (i+1)],y+1,y+2),⟨hI2.out,by dsimp only;omega,by dsimp only;omega,by simp;omega,fun _=>by dsimp only;omega⟩,by dsimp only;omega,?_,?_,rfl⟩
     ·simp(disch:=(first|omega|(simp only[push_cast];first|done|omega))) only[push_cast,↓reduceIte,Nat.reduceEqDiff,Nat.reduceBEq,Nat.reduceAdd,Nat.reduceSub,Int.reduceToNat,aF hap3,List.length_append, *]
      try exact congrArg (fun z=>PV.val (Value.int IntKind.i64 z)) (by omega)
     ·simp(disch:=(first|omega|(simp only[push_cast];first|done|omega))) only[push_cast,↓reduceIte,Nat.reduceEqDiff,Nat.reduceBEq,Nat.reduceAdd,Nat.reduceSub,Int.reduceToNat,aG hap3, *]
 ·rw[zh (by omega),List.append_nil]at hI
  subst hI;have hxy:=hxy (by omega);have hap:0<(out.map pvS).length:=by rw[List.length_map];omega
  simp only[aF hap,aG hap,List.length_map];clear apj;exact wlkF
def asT:Ctx:={fn:=aZ [(90,uL),(40,fG)],io:=aZ []}
theorem alW:au Try.prog asT:=okΓ (fC Try.func90 wB (fC Try.func40 eF aj)) aj
def adX:=ah (Γ:=asT) (f:=90) (φ:=uL) rfl
def aeS:=ah (Γ:=asT) (f:=40) (φ:=fG) rfl
theorem ae2:Sound Try.prog 76 ahG:=by
 refine ak mixed alW Try.func76 rfl 50 rfl [.tmp 2] rfl (by kernel_rfl) fun ps r hr=>?_;obtain⟨s,rfl,hpre,rfl⟩:=oM hr;refine⟨by simp,?_⟩;simp only[dIs,dUs,dSs,bQ,bU,bP,bT,aL,bS,aQ,aO,aR,aP];have apw:=gH (s:=s) (by omega);unfold abd;cases hw:cu s with
 |false=>
  rw[hw]at apw;rw[if_neg (by decide)];clear hw;have gsgs_c90:=adX;have gsgs_c40:=aeS;(refine wlk ?_;intros);refine aD (α:=Unit) mixed (fun z=>[(0,.val (.string s)),(3,.row 0 1 0 0),(4,iv 0)]) (fun z=>[(0,9,1,[])]) (fun z=>1) (fun _=>True) (fun _=>0) (by kernel_rfl) () trivial ?_ ?_ rfl ?_
  ·exact agr
  ·exact agr
  rintro⟨⟩-;exact wlkF
 |true=>
  rw[hw]at apw;rw[if_pos rfl];obtain⟨-,hs1,hs2⟩:=aS hw;have apj:=fun i=>acT (at8 s i) (at8 s (i+1));have hI0:[]++sgF s s.size 0=signs s:=rfl;replace hI0:=Lib.hid hI0;generalize signs s=R at*;clear hpre hw;have gsgs_c90:=adX;have gsgs_c40:=aeS;(refine wlk ?_;intros);refine aD (α:=Nat×Nat×LS×Nat×Nat) mixed (fun z=>[(0,.val (.string s)),(3,.row z.2.2.2.1 1 0 z.2.2.1.length),(4,iv z.2.1)])
   (fun z=>[(z.2.2.2.1,9,1,z.2.2.1.map pvS)]) (fun z=>z.2.2.2.2)
   (fun z=>z.2.2.1++sgF s z.1 z.2.1=R∧s.size≤z.2.1+z.1∧z.2.1≤s.size∧z.2.2.1.length≤z.2.1∧z.2.2.2.1<z.2.2.2.2) (fun z=>z.1) (by kernel_rfl) (s.size,0,[],0,1) ⟨hI0.out,by simp,by simp,by simp,by simp⟩ ?_ ?_ rfl ?_
  ·exact agr
  ·exact agr
  rintro⟨f,i,out,x,y⟩ ⟨hI,hf,hi,ho,hxy⟩;dsimp only at hI hf hi ho hxy;clear hI0;by_cases h0:i<s.size
  ·cases f with
   |zero=>omega
   |succ f=>
   rw[pK h0]at hI;have hI2:(out++[s.extract i (i+sgN s i)])++sgF s f (i+sgN s i)=R:=by rw[List.append_assoc];exact hI
   clear hI;replace apj:=apj i;by_cases hj:i+1<s.size∧oq (at8 s i) (at8 s (i+1))=true
   ·have hn:sgN s i=2:=if_pos hj
    rw[hn]at hI2;replace hI2:=Lib.hid hI2;obtain⟨hj1,hj2⟩:=hj;rw[hj2]at apj;have e3:((i:Int)+2).toNat=i+2:=by omega
    clear hn;(refine wlk ?_;intros);refine⟨(f,i+2,out++[s.extract i (i+2)],y+1,y+2),⟨hI2.out,by dsimp only;omega,by dsimp only;omega,by simp;omega,by dsimp only;omega⟩,by dsimp only;omega,?_,?_,rfl⟩
    ·exact agi
    ·exact agr
   ·have hn:sgN s i=1:=if_neg hj
    rw[hn]at hI2;replace hI2:=Lib.hid hI2;clear hn;have hj3:i+1<s.size→oq (at8 s i) (at8 s (i+1))=false:=fun h=>by
     cases hq:oq (at8 s i) (at8 s (i+1))with
     |false=>rfl
     |true=>exact absurd ⟨h,hq⟩ hj
    clear hj;by_cases h1:i+1<s.size
    ·rw[hj3 h1]at apj
     clear hj3;(refine wlk ?_;intros);refine⟨(f,i+1,out++[s.extract i (i+1)],y+1,y+2),⟨hI2.out,by dsimp only;omega,by dsimp only;omega,by simp;omega,by dsimp only;omega⟩,by dsimp only;omega,?_,?_,rfl⟩
     ·exact agr
     ·exact agr
    ·clear hj3
     (refine wlk ?_;intros);refine⟨(f,i+1,out++[s.extract i (i+1)],y+1,y+2),⟨hI2.out,by dsimp only;omega,by dsimp only;omega,by simp;omega,by dsimp only;omega⟩,by dsimp only;omega,?_,?_,rfl⟩
     ·exact agr
     ·exact agr
  ·rw[zh (by omega),List.append_nil]at hI
   subst hI;clear apj;exact wlkF
def φWw:Fun:=F1 dS fun s=>if s.size≤1048576 then some (iv (nR s))else none
theorem aaq {s:ByteArray} (h:s.size≤1048576):φWw [.val (.string s)]=some (.val (.int .i64 (nR s))):=(iy (A:=dS) s).trans (if_pos h)
def arl:Ctx:={fn:=aZ [(51,fG),(68,φSg),(69,vN),(70,vP)],io:=aZ []}
theorem alD:au Try.prog arl:=okΓ (fC Try.func51 eG (fC Try.func68 afs (fC Try.func69 aao (fC Try.func70 aaH aj)))) aj
def afE:=ah (Γ:=arl) (f:=51) (φ:=fG) rfl
def agD:=ah (Γ:=arl) (f:=68) (φ:=φSg) rfl
def afR:=ah (Γ:=arl) (f:=69) (φ:=vN) rfl
def af7:=ah (Γ:=arl) (f:=70) (φ:=vP) rfl
theorem aga:Sound Try.prog 54 φWw:=by
 refine ak mixed alD Try.func54 rfl 58 rfl [.tmp 2] rfl (by kernel_rfl) fun ps r hr=>?_;obtain⟨s,rfl,hpre,rfl⟩:=oM hr;refine⟨by simp,?_⟩;simp only[dIs,dUs,dSs,bQ,bU,bP,bT,aL,bS,aQ,aO,aR,aP];have apw:=gH (s:=s) (by omega);unfold nR;cases hw:cu s with
 |false=>rw[hw]at apw;rw[if_neg (by decide)];clear hw;have gwwi_c51:=afE;have gwwi_c68:=agD;have gwwi_c69:=afR;have gwwi_c70:=af7;exact wlkF
 |true=>
  rw[hw]at apw;rw[if_pos rfl];have aps:=anl hw;have hat:=fun k hk=>uV hw (k:=k) hk;have hlen:=(lX hw).2;have hrg:=vV hat;generalize signs s=g at*;clear hw hpre;have gwwi_c51:=afE;have gwwi_c68:=agD;have gwwi_c69:=afR;have gwwi_c70:=af7;(refine wlk ?_;intros);refine aD (α:=Nat) mixed (fun k=>[(3,iv (wdK g k)),(4,.lst true 1 (g.map pvS)),(13,.lst true 1 (g.map pvS)),(14,iv g.length),(15,iv k)]) (fun _=>[]) (fun _=>0)
   (fun k=>k≤g.length) (fun k=>g.length-k) (by kernel_rfl) 0 (Nat.zero_le _) ?_ ?_ rfl ?_
  ·simp only[push_cast,↓reduceIte,Nat.reduceEqDiff,Nat.reduceBEq,Nat.reduceAdd,Nat.reduceSub,Int.reduceToNat,wdK]
  ·exact agr
  intro k hk;have hrk:=hrg k hk;by_cases hkl:k<g.length
  ·have hsg:=hat k hkl
   have hnx:=fun h=>hat (k+1) h;have hfl:=aby hsg;have hsn:wdK g (k+1)=wdK g k+sgW (g[k]?.getD .empty) (g[k]?.getD .empty).size-((g[k]?.getD .empty).size-1)-vO g k:=rfl;have hne:vO g k=if k+1<g.length then mF (at8 (g[k]?.getD .empty) ((g[k]?.getD .empty).size-1)) (at8 (g[k+1]?.getD .empty) 0)else 0:=rfl;replace hsn:=Lib.hid hsn;replace hne:=Lib.hid hne;clear hat hrg;generalize hx9:g[k]?.getD ByteArray.empty=x at*;obtain⟨hx1,hx2,-⟩:=hsg;generalize hw9:wdK g k=w9 at*;(refine wlk ?_;intros);refine aD (α:=Nat) mixed (fun j=>[(3,iv (w9+sgW x j)),(4,.lst true 1 (g.map pvS)),(13,.lst true 1 (g.map pvS)),(14,iv g.length),(15,iv k),(5,iv k),(6,.val (.string x)),(21,iv x.size),(22,iv j)]) (fun _=>[]) (fun _=>0)
    (fun j=>j≤x.size) (fun j=>x.size-j) (by kernel_rfl) 0 (Nat.zero_le _) ?_ ?_ rfl ?_
   ·simp(disch:=(first|omega|(simp only[push_cast];first|done|omega))) only[push_cast,↓reduceIte,Nat.reduceEqDiff,Nat.reduceBEq,Nat.reduceAdd,Nat.reduceSub,Int.reduceToNat,sgW,Int.add_zero, *]
   ·exact agr
   intro j hj;have hfj:=hfl j hj;have apl:=acY (gK x j);have hlw:=vC (at8 x j);have hsj:sgW x (j+1)=sgW x j+y8 (at8 x j):=rfl;replace hsj:=Lib.hid hsj;by_cases hjl:j<x.size
   ·clear hfl hnx
    generalize y8 (at8 x j)=lw at*;(refine wlk ?_;intros);refine⟨j+1,by omega,by dsimp only;omega,?_,?_,rfl⟩
    ·dsimp only
     rw[hsj.out,←Int.add_assoc];exact agr
    ·exact agr
   ·obtain rfl:j=x.size:=by omega
    clear apl hlw hsj hfl;by_cases h1:k+1<g.length
    ·have hn1:=hnx h1
     clear hnx;obtain⟨hy1,-,-⟩:=hn1;have apn:=ac1 (gK x (x.size-1)) (gK (g[k+1]?.getD .empty) 0);have hnr:=qE (at8 x (x.size-1)) (at8 (g[k+1]?.getD .empty) 0);have hne:=hne.out;rw[if_pos h1]at hne;have hsn:=hsn.out;rw[hne]at hsn;replace hsn:=Lib.hid hsn;clear hne;generalize mF (at8 x (x.size-1)) (at8 (g[k+1]?.getD .empty) 0)=nr at*;generalize sgW x x.size=sw at*;(refine wlk ?_;intros);refine⟨k+1,by omega,by dsimp only;omega,?_,?_,rfl⟩
     ·dsimp only
      rw[hsn.out];exact agr
     ·exact agr
    ·have hne:=hne.out
     rw[if_neg h1]at hne;have hsn:=hsn.out;rw[hne,Int.sub_zero]at hsn;replace hsn:=Lib.hid hsn;clear hne hnx;generalize sgW x x.size=sw at*;(refine wlk ?_;intros);refine⟨k+1,by omega,by dsimp only;omega,?_,?_,rfl⟩
     ·dsimp only
      rw[hsn.out];exact agr
     ·exact agr
  ·obtain rfl:k=g.length:=by omega
   clear hat hrg;generalize wdK g g.length=w9 at*;exact wlkF
def ar5:Ctx:={fn:=aZ [(76,ahG),(77,abn),(78,abb)],io:=aZ []}
theorem amd:au Try.prog ar5:=okΓ (fC Try.func76 ae2 (fC Try.func77 aae (fC Try.func78 zP aj))) aj
def aeU:=ah (Γ:=ar5) (f:=76) (φ:=ahG) rfl
def afx:=ah (Γ:=ar5) (f:=77) (φ:=abn) rfl
def aev:=ah (Γ:=ar5) (f:=78) (φ:=abb) rfl
theorem aew:Sound Try.prog 58 φWw:=by
 refine ak mixed amd Try.func58 rfl 70 rfl [.tmp 2] rfl (by kernel_rfl) fun ps r hr=>?_;obtain⟨s,rfl,hpre,rfl⟩:=oM hr;refine⟨by simp,?_⟩;simp only[dIs,dUs,dSs,bQ,bU,bP,bT,aL,bS,aQ,aO,aR,aP];have aps:=ahP (s:=s) hpre;unfold nR;unfold abd at aps;cases hw:cu s with
 |false=>rw[hw,if_neg (by decide)]at aps;rw[if_neg (by decide)];clear hw;have gwws_c76:=aeU;have gwws_c77:=afx;have gwws_c78:=aev;exact wlkF
 |true=>
  rw[hw,if_pos rfl]at aps;rw[if_pos rfl];have hat:=fun k hk=>uV hw (k:=k) hk;have hlen:=(lX hw).2;have hrg:=vV hat;generalize signs s=g at*;clear hw hpre;have gwws_c76:=aeU;have gwws_c77:=afx;have gwws_c78:=aev;(refine wlk ?_;intros);refine aD (α:=Nat) mixed (fun k=>[(3,.lst true 1 (g.map pvS)),(4,iv (wdK g k)),(5,iv k)]) (fun _=>[]) (fun _=>0)
   (fun k=>k≤g.length) (fun k=>g.length-k) (by kernel_rfl) 0 (Nat.zero_le _) ?_ ?_ rfl ?_
  ·simp only[push_cast,↓reduceIte,Nat.reduceEqDiff,Nat.reduceBEq,Nat.reduceAdd,Nat.reduceSub,Int.reduceToNat,wdK]
  ·exact agr
  intro k hk;have hrk:=hrg k hk;by_cases hkl:k<g.length
  ·have hsg:=hat k hkl
   have hnx:=fun h=>hat (k+1) h;have hfl:=aby hsg;have hsn:wdK g (k+1)=wdK g k+sgW (g[k]?.getD .empty) (g[k]?.getD .empty).size-((g[k]?.getD .empty).size-1)-vO g k:=rfl;have hne:vO g k=if k+1<g.length then mF (at8 (g[k]?.getD .empty) ((g[k]?.getD .empty).size-1)) (at8 (g[k+1]?.getD .empty) 0)else 0:=rfl;replace hsn:=Lib.hid hsn;replace hne:=Lib.hid hne;clear hat hrg;generalize hx9:g[k]?.getD ByteArray.empty=x at*;obtain⟨hx1,hx2,-⟩:=hsg;generalize hw9:wdK g k=w9 at*;(refine wlk ?_;intros);refine aD (α:=Nat) mixed (fun j=>[(3,.lst true 1 (g.map pvS)),(4,iv (w9+sgW x j)),(5,iv k),(6,iv j)]) (fun _=>[]) (fun _=>0)
    (fun j=>j≤x.size) (fun j=>x.size-j) (by kernel_rfl) 0 (Nat.zero_le _) ?_ ?_ rfl ?_
   ·simp(disch:=(first|omega|(simp only[push_cast];first|done|omega))) only[push_cast,↓reduceIte,Nat.reduceEqDiff,Nat.reduceBEq,Nat.reduceAdd,Nat.reduceSub,Int.reduceToNat,sgW,Int.add_zero, *]
   ·exact agr
   intro j hj;have hfj:=hfl j hj;have apl:=ahc (at8 x j);have hlw:=vC (at8 x j);have hsj:sgW x (j+1)=sgW x j+y8 (at8 x j):=rfl;replace hsj:=Lib.hid hsj;by_cases hjl:j<x.size
   ·clear hfl hnx
    generalize y8 (at8 x j)=lw at*;(refine wlk ?_;intros);refine⟨j+1,by omega,by dsimp only;omega,?_,?_,rfl⟩
    ·dsimp only
     rw[hsj.out,←Int.add_assoc];exact agr
    ·exact agr
   ·obtain rfl:j=x.size:=by omega
    clear apl hlw hsj hfl;by_cases h1:k+1<g.length
    ·have hn1:=hnx h1
     clear hnx;obtain⟨hy1,-,-⟩:=hn1;have apn:=aeh (at8 x (x.size-1)) (at8 (g[k+1]?.getD .empty) 0);have hnr:=qE (at8 x (x.size-1)) (at8 (g[k+1]?.getD .empty) 0);have hne:=hne.out;rw[if_pos h1]at hne;have hsn:=hsn.out;rw[hne]at hsn;replace hsn:=Lib.hid hsn;clear hne;generalize mF (at8 x (x.size-1)) (at8 (g[k+1]?.getD .empty) 0)=nr at*;generalize sgW x x.size=sw at*;(refine wlk ?_;intros);refine⟨k+1,by omega,by dsimp only;omega,?_,?_,rfl⟩
     ·dsimp only
      rw[hsn.out,show w9+sw-((x.size:Int)-1)-nr=w9+sw-x.size+1-nr by omega];exact agr
     ·exact agr
    ·have hne:=hne.out
     rw[if_neg h1]at hne;have hsn:=hsn.out;rw[hne,Int.sub_zero]at hsn;replace hsn:=Lib.hid hsn;clear hne hnx;generalize sgW x x.size=sw at*;(refine wlk ?_;intros);refine⟨k+1,by omega,by dsimp only;omega,?_,?_,rfl⟩
     ·dsimp only
      rw[hsn.out,show w9+sw-((x.size:Int)-1)=w9+sw-x.size+1 by omega];exact agr
     ·exact agr
  ·obtain rfl:k=g.length:=by omega
   clear hat hrg;generalize wdK g g.length=w9 at*;exact wlkF
abbrev pvN (n:Int):PV:=.val (.int .i64 n)
theorem jW {p:ByteArray} (h:xO p=true):1≤p.size∧p.size≤12:=by
 unfold xO at h;simp only[Bool.and_eq_true,decide_eq_true_eq]at h;obtain⟨-,h1,h2⟩:=h;refine⟨?_,h2⟩;rcases Nat.eq_zero_or_pos p.size with h0|h0
 ·rw[h0]at h1
  simp[anyS]at h1
 ·exact h0
def φPp:Fun:=F1 dS fun p=>if p.size≤12 then some (.tup [.val (.string (bV p)),.lst true 1 ((dH p).map fun n=> .val (.int .i64 n))])else none
theorem anx {p:ByteArray} (h:p.size≤12):φPp [.val (.string p)]=some (.tup [.val (.string (bV p)),.lst true 1 ((dH p).map fun n=> .val (.int .i64 n))]):=(iy (A:=dS) p).trans (if_pos h)
def GPp:Ctx:={fn:=aZ [(66,adi)],io:=aZ []}
theorem apx:au Try.prog GPp:=okΓ (fC Try.func66 sj aj) aj
def aom:=ah (Γ:=GPp) (f:=66) (φ:=adi) rfl
theorem ahw {o:List Int} {v x:Int}:(o++[v]).set o.length x=o++[x]:=by simp
theorem agf:Sound Try.prog 97 φPp:=by
 refine ak mixed apx Try.func97 rfl 40 rfl [.tmp 2,.tmp 3] rfl (by kernel_rfl) fun ps r hr=>?_;obtain⟨p,rfl,hpre,rfl⟩:=oM hr;refine⟨by simp,?_⟩;simp only[dIs,dUs,dSs,bQ,bU,bP,bT,aL,bS,aQ,aO,aR,aP];have hrg:=mQ p;unfold bV dH;have gpp_c66:=aom;(refine wlk ?_;intros);refine aD (α:=Nat×Nat×Nat) mixed (fun z=>[(0,.val (.string p)),(4,.val (.string (gF p z.1).1)),(5,.row z.2.1 1 0 ((gF p z.1).2.1.length+1)),(8,.val (.string p)),(9,iv p.size),(10,iv z.1)])
  (fun z=>[(z.2.1,3,1,((gF p z.1).2.1++[(gF p z.1).2.2]).map pvN)]) (fun z=>z.2.2)
  (fun z=>z.1≤p.size∧z.2.1<z.2.2) (fun z=>p.size-z.1) (by kernel_rfl) (0,0,1) ⟨by simp,by simp⟩ ?_ ?_ rfl ?_
 ·simp(disch:=(first|omega|(simp only[push_cast];first|done|omega))) only[push_cast,↓reduceIte,Nat.reduceEqDiff,Nat.reduceBEq,Nat.reduceAdd,Nat.reduceSub,Int.reduceToNat,gF,List.length_nil,Nat.zero_add, *]
 ·simp(disch:=(first|omega|(simp only[push_cast];first|done|omega))) only[push_cast,↓reduceIte,Nat.reduceEqDiff,Nat.reduceBEq,Nat.reduceAdd,Nat.reduceSub,Int.reduceToNat,gF,List.nil_append,List.map_cons,List.map_nil, *]
 rintro⟨k,x,y⟩ ⟨hk,hxy⟩;dsimp only at hk hxy;obtain⟨r1,r2,r3,-⟩:=hrg k hk;by_cases h0:k<p.size
 ·have apd:=abQ (at8 p k)
  have hdd:zX (at8 p k)=inB (at8 p k) 48 57:=rfl;have hb8:=gK p k;cases hd:inB (at8 p k) 48 57 with
  |true=>
   have hst:=pU (hdd.trans hd);have hin:=aB.1 hd;have w1:IntKind.u8.wrap (at8 p k-48)=at8 p k-48:=by rw[IntKind.wrap_u8];omega
   have w3:=dn (n:=at8 p k-48) (by omega) (by omega);have hsl:=@ahw (gF p k).2.1 (gF p k).2.2 (at8 p k-48);rw[hd]at apd;replace hst:=Lib.hid hst;clear hrg hdd hd;generalize(gF p k).2.1=o at*;generalize(gF p k).2.2=v at*;generalize(gF p k).1=lt at*;(refine wlk ?_;intros);refine⟨(k+1,x,y),⟨by dsimp only;omega,hxy⟩,by dsimp only;omega,?_,?_,rfl⟩
   ·dsimp only
    rw[hst.out];exact agr
   ·dsimp only
    rw[hst.out];exact agr
  |false=>
   have hxz:(p.extract k (k+1)).size=1:=by rw[ByteArray.size_extract];omega
   have hst:=pW (hdd.trans hd);rw[hd]at apd;replace hst:=Lib.hid hst;clear hrg hdd hd;generalize(gF p k).2.1=o at*;generalize(gF p k).2.2=v at*;generalize(gF p k).1=lt at*;(refine wlk ?_;intros);refine⟨(k+1,y+1,y+2),⟨by dsimp only;omega,by dsimp only;omega⟩,by dsimp only;omega,?_,?_,rfl⟩
   ·dsimp only
    rw[hst.out];exact agr
   ·dsimp only
    rw[hst.out];exact agr
 ·obtain rfl:k=p.size:=by omega
  clear hrg;exact wlkF
def φPl:Fun:=F1 dS fun p=>if xO p=true then some (.val (.string (bV p)))else none
theorem amW {p:ByteArray} (h:xO p=true):φPl [.val (.string p)]=some (.val (.string (bV p))):=(iy (A:=dS) p).trans (if_pos h)
def GPl:Ctx:={fn:=aZ [(41,uj)],io:=aZ []}
theorem aju:au Try.prog GPl:=okΓ (fC Try.func41 iw aj) aj
def aj5:=ah (Γ:=GPl) (f:=41) (φ:=uj) rfl
theorem afF:Sound Try.prog 81 φPl:=by
 refine ak mixed aju Try.func81 rfl 33 rfl [.tmp 2] rfl (by kernel_rfl) fun ps r hr=>?_;obtain⟨p,rfl,hpre,rfl⟩:=oM hr;refine⟨by simp,?_⟩;simp only[dIs,dUs,dSs,bQ,bU,bP,bT,aL,bS,aQ,aO,aR,aP];have hsz:=jW hpre;have hrg:=mQ p;have apv:=pR (s:=p) (by omega);rw[hpre]at apv;unfold bV;clear hpre;have gpl_c41:=aj5;(refine wlk ?_;intros);refine aD (α:=Nat) mixed (fun k=>[(0,.val (.string p)),(3,.val (.string (gF p k).1)),(4,iv k)]) (fun _=>[]) (fun _=>0)
  (fun k=>k≤p.size) (fun k=>p.size-k) (by kernel_rfl) 0 (Nat.zero_le _) ?_ ?_ rfl ?_
 ·simp(disch:=(first|omega|(simp only[push_cast];first|done|omega))) only[push_cast,↓reduceIte,Nat.reduceEqDiff,Nat.reduceBEq,Nat.reduceAdd,Nat.reduceSub,Int.reduceToNat,gF, *]
 ·exact agr
 intro k hk;obtain⟨r1,r2,r3,-⟩:=hrg k hk;by_cases h0:k<p.size
 ·have hb8:=gK p k
  cases hd:zX (at8 p k)with
  |true=>
   have hst:=pU hd;have hin:=aB.1 hd;have w1:IntKind.u8.wrap (at8 p k-48)=at8 p k-48:=by rw[IntKind.wrap_u8];omega
   have w3:=dn (n:=at8 p k-48) (by omega) (by omega);replace hst:=Lib.hid hst;clear hrg hd;generalize(gF p k).1=lt at*;(refine wlk ?_;intros);refine⟨k+1,by omega,by dsimp only;omega,?_,?_,rfl⟩
   ·dsimp only
    rw[hst.out];exact agr
   ·exact agr
  |false=>
   have hxz:(p.extract k (k+1)).size=1:=by rw[ByteArray.size_extract];omega
   have hst:=pW hd;have hno:at8 p k<48∨57<at8 p k:=by
    by_cases hh:48≤at8 p k∧at8 p k≤57
    ·have:zX (at8 p k)=true:=aB.2 hh
     rw[this]at hd;cases hd
    ·omega
   replace hst:=Lib.hid hst;clear hrg hd;generalize(gF p k).1=lt at*;(refine wlk6 ?_ ?_ ?_ ?_ ?_ ?_<;>intros<;>try with_reducible exact trivial);all_goals
    refine⟨k+1,by omega,by dsimp only;omega,?_,?_,rfl⟩
    ·dsimp only
     rw[hst.out];exact agr
    ·exact agr
 ·obtain rfl:k=p.size:=by omega
  clear hrg;exact wlkF
def φPv:Fun:=F1 dS fun p=>if xO p=true then some (.lst true 1 ((dH p).map fun n=> .val (.int .i64 n)))else none
theorem amS {p:ByteArray} (h:xO p=true):φPv [.val (.string p)]=some (.lst true 1 ((dH p).map fun n=> .val (.int .i64 n))):=(iy (A:=dS) p).trans (if_pos h)
theorem aeL:Sound Try.prog 82 φPv:=by
 refine ak mixed aju Try.func82 rfl 44 rfl [.tmp 2] rfl (by kernel_rfl) fun ps r hr=>?_;obtain⟨p,rfl,hpre,rfl⟩:=oM hr;refine⟨by simp,?_⟩;simp only[dIs,dUs,dSs,bQ,bU,bP,bT,aL,bS,aQ,aO,aR,aP];have hsz:=jW hpre;have hrg:=mQ p;have apv:=pR (s:=p) (by omega);rw[hpre]at apv;unfold dH;clear hpre;have gpl_c41:=aj5;(refine wlk ?_;intros);refine aD (α:=Nat×Nat×Nat) mixed (fun z=>[(0,.val (.string p)),(3,.row z.2.1 1 0 (gF p z.1).2.1.length),(4,iv (gF p z.1).2.2),(5,iv z.1)])
  (fun z=>[(z.2.1,3,1,(gF p z.1).2.1.map pvN)]) (fun z=>z.2.2)
  (fun z=>z.1≤p.size∧z.2.1<z.2.2) (fun z=>p.size-z.1) (by kernel_rfl) (0,0,1) ⟨by simp,by simp⟩ ?_ ?_ rfl ?_
 ·simp(disch:=(first|omega|(simp only[push_cast];first|done|omega))) only[push_cast,↓reduceIte,Nat.reduceEqDiff,Nat.reduceBEq,Nat.reduceAdd,Nat.reduceSub,Int.reduceToNat,gF,List.length_nil, *]
 ·simp(disch:=(first|omega|(simp only[push_cast];first|done|omega))) only[push_cast,↓reduceIte,Nat.reduceEqDiff,Nat.reduceBEq,Nat.reduceAdd,Nat.reduceSub,Int.reduceToNat,gF,List.map_nil, *]
 rintro⟨k,x,y⟩ ⟨hk,hxy⟩;dsimp only at hk hxy;obtain⟨r1,r2,r3,-⟩:=hrg k hk;by_cases h0:k<p.size
 ·have hb8:=gK p k
  cases hd:zX (at8 p k)with
  |true=>
   have hst:=pU hd;have hin:=aB.1 hd;have w1:IntKind.u8.wrap (at8 p k-48)=at8 p k-48:=by rw[IntKind.wrap_u8];omega
   have w3:=dn (n:=at8 p k-48) (by omega) (by omega);replace hst:=Lib.hid hst;clear hrg hd;generalize(gF p k).2.1=o at*;generalize(gF p k).2.2=v at*;generalize(gF p k).1=lt at*;(refine wlk ?_;intros);refine⟨(k+1,x,y),⟨by dsimp only;omega,hxy⟩,by dsimp only;omega,?_,?_,rfl⟩
   ·dsimp only
    rw[hst.out];exact agr
   ·dsimp only
    rw[hst.out];exact agr
  |false=>
   have hxz:(p.extract k (k+1)).size=1:=by rw[ByteArray.size_extract];omega
   have hst:=pW hd;have hno:at8 p k<48∨57<at8 p k:=by
    by_cases hh:48≤at8 p k∧at8 p k≤57
    ·have:zX (at8 p k)=true:=aB.2 hh
     rw[this]at hd;cases hd
    ·omega
   replace hst:=Lib.hid hst;clear hrg hd;generalize(gF p k).2.1=o at*;generalize(gF p k).2.2=v at*;generalize(gF p k).1=lt at*;(refine wlk6 ?_ ?_ ?_ ?_ ?_ ?_<;>intros<;>try with_reducible exact trivial);all_goals
    refine⟨(k+1,y+1,y+2),⟨by dsimp only;omega,by dsimp only;omega⟩,by dsimp only;omega,?_,?_,rfl⟩
    ·dsimp only
     rw[hst.out];exact agr
    ·dsimp only
     rw[hst.out];exact agr
 ·obtain rfl:k=p.size:=by omega
  clear hrg;exact wlkF
end
end Go.Proofs.Ytmmafcjjlbgnkaa
