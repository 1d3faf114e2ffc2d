/- What the proof rests on, part 3: contracts of functions. No condition beyond what each states. -/
import Derived.Test.YtmmafcjjlbgnkaaGreatDoorZBiE2
namespace Go.Proofs.YtmmafcjjlbgnkaaGreatDoor
open Go.RowKit
set_option linter.all false
set_option maxHeartbeats 32000000
noncomputable section
section
variable {P:Program} {Γ:Ctx} {io:IoS} {w0:World} {N:Nat} {g:Gh} {s:AS} {a:Act} {w w':World} {o:Oper} {p:PV}
theorem mP {t e sz:Nat} (w:World) (ht:P.underlying t=some (.slice e)) (hs:aY P e=some sz) (ty:Nat) (b ad:Option Addr) (n c cap:Nat) (hn:n≤c):
 (Builtin.append_ #[t,t] ty #[.slice b n c,.slice ad 0 cap]).run P w=.ok (.slice b n c) w:=by
 cases ad with
 |none=>cases b<;>simp[Builtin.append_,run_underlying ht,dF hs w,Builtin.lenOf,Builtin.firstCells,storeCells,hn]
 |some ad=>cases b<;>simp[Builtin.append_,run_underlying ht,dF hs w,Builtin.lenOf,Builtin.firstCells,loadCells,loadCellsFrom,storeCells,hn]
theorem ayc {ob sz n:Nat} {v:Value} (h:Rep g w (.row ob sz 0 n) v):∃c,v=.slice (some ⟨g.β ob,0,none⟩) n c∧n≤c∧c≤9223372036854775807∧c*sz≤g.κ ob∧g.D ob:=by simp only[Rep]at h;obtain⟨c,h1,h2,h3,h4,h5⟩:=h;exact⟨c,by simpa using h1,h2,h3,by simpa using h4,h5⟩
theorem jy {x y:Operand} {c:Call} {t:Nat} (ho:o.op=.call c) (hc:c.callee=.builtin .append) (ha:c.args.toList=[x,y]) (ht:c.argTypes.toList=[t,t]) {v:Value}
 (h:(Builtin.append_ #[t,t] o.type #[a.eval x,a.eval y]).run P w=.ok v w'):(execOp a.eval o).run P w=.ok (.value v) w':=by
 have ha':c.args=#[x,y]:=by rw[←Array.toArray_toList (xs:=c.args),ha]
 have ht':c.argTypes=#[t,t]:=by rw[←Array.toArray_toList (xs:=c.argTypes),ht]
 simp[execOp,ho,resolve,hc,ha',ht',invoke,builtin,h]
theorem ajD (h:Rel io w0 N g s a w) (hio:∀b,io b→b<w0.heap.size) {x y:Operand} {c:Call} {t e sz by_:Nat} {z:Value} (ho:o.op=.call c) (hc:c.callee=.builtin .append) (ha:c.args.toList=[x,y]) (ht:c.argTypes.toList=[t,t])
 (he:cZ P t=some e) (hz:zeroOf P e=some z) (hs:aY P e=some sz) (hb:dO P e=some by_) {es es2:List PV} (h2:bF s.ob sz (look s.tm y)=some es2) (hsz:0<sz) (hzs:z.cells.size=sz)
 {ob n:Nat} (hx:look s.tm x=.row ob sz 0 n) (hob:s.ob ob=some (e,sz,es)) (hn:es.length=n) (h63:n+es2.length≤9223372036854775807) (hby:(n+es2.length)*by_≤140737488355328):
 Turns P o io w0 N s a w (.row s.nx sz 0 (n+es2.length),upd (upd s.ob ob none) s.nx (some (e,sz,es++es2)),s.nx+1):=by
 have hu:=kR he;obtain⟨i,hi,hib⟩:=qJ hb;have hisz:=qd hi hs;have hiz:=ql hi hz;have hX:=h.look x;rw[hx]at hX;obtain⟨cap,hX,r1,r2,r3,r4⟩:=ayc hX;obtain⟨k1,k2,k3,⟨arr,k4,k5⟩,k6,k7⟩:=h.ob ob _ hob;dsimp only at k4 k6 k7;obtain⟨ad,cap2,hY,q1,q2⟩:=jB h (h.look y) h2;have hlays:=k7.lays k4;by_cases hm:es2.length=0
 ·have hnil:es2=[]:=List.eq_nil_of_length_eq_zero hm
  subst hnil;have hrun:=jy (a:=a) ho hc ha ht (by rw[hX,hY];exact mP w hu hs o.type (some ⟨g.β ob,0,none⟩) ad n cap cap2 r1);have hren:=h.rename hob;rw[List.append_nil];refine Turns.run hrun hren ?_;rw[←h.nx];exact iI r1 r2 r3
 ·rcases q2 with rfl|⟨b,off,rfl,q3⟩
  ·simp at hm
  ·obtain⟨news,n1,n2,n3,n4⟩:=q3.news
   have hnews:∀j u,news[j]?=some u→w.cell? ((⟨b,off,none⟩:Addr).add j)=some u:=fun j u hj=>by rw[Addr.add_mid];exact n2 j u hj
   by_cases hroom:n+es2.length≤cap
   ·have hfit:n*sz+news.length≤arr.size:=by rw[n1,k5,←Nat.add_mul];exact Nat.le_trans (Nat.mul_le_mul_right _ hroom) r3
    have hr:=run_append_room (P:=P) w t o.type e i hu hi (g.β ob) n cap arr k4 ⟨b,off,none⟩ es2.length cap2 news (by rw[hisz];exact n1) hnews n3 hroom (by rw[hisz];exact hfit);rw[hisz]at hr;have hrun:=jy (a:=a) ho hc ha ht (by rw[hX,hY];exact hr);have hsl:(arr.toList.take (n*sz)++news++arr.toList.drop (n*sz+news.length))=fM arr.toList (n*sz) news:=rfl;rw[hsl]at hrun;have hget:∀j,((fM arr.toList (n*sz) news).toArray)[j]?=if n*sz≤j∧j<n*sz+news.length then news[j-n*sz]? else arr[j]?:=by intro j;rw[List.getElem?_toArray,qG _ _ _ (by simpa using hfit)];simp
    have hset:=h.set (w':=w.setRow (g.β ob) (fM arr.toList (n*sz) news).toArray) (es':=es++es2) hob (arr:=(fM arr.toList (n*sz) news).toArray) ⟨rfl,rfl,rfl,by simp[World.setRow]⟩ (fun b hb=>setRow_other _ _ _ _ hb) (setRow_heap _ _ _ _ _ _ k4)
     (by rw[List.size_toArray,lV _ _ _ (by simpa using hfit)];simpa using k5)
     (wT hn hlays n4 (fun j hj=>by rw[hget,if_neg (by omega)]) (fun j hj=>by rw[hget,if_pos (by omega)];congr 1;omega) n1)
     (by rw[List.length_append,hn,←k5,Nat.add_mul,←n1];exact hfit)
    have hren:=hset.rename (ob:=ob) (c:=(e,sz,es++es2)) (by simp[upd]);dsimp only at hren;rw[afP]at hren;refine Turns.run hrun hren ?_;rw[←h.nx];exact iI hroom r2 r3
   ·obtain⟨olds,o1,o2,o3,o4⟩:=k7.news
    rw[hn]at o1;have holds:∀j u,olds[j]?=some u→w.cell? ((⟨g.β ob,0,none⟩:Addr).add j)=some u:=fun j u hj=>by rw[Addr.add_mid];exact o2 j u hj
    have hr:=run_append_grow (P:=P) w t o.type e i z hu hi hiz ⟨g.β ob,0,none⟩ n cap olds (by rw[hisz];exact o1) holds ⟨b,off,none⟩ es2.length cap2 news (by rw[hisz];exact n1) hnews (by omega) (by omega) (by rw[hib];exact growslice_fits (by omega) hby);have hrun:=jy (a:=a) ho hc ha ht (by rw[hX,hY];exact hr);have hge:=grownCap_ge w (n+es2.length) cap e;have hcm:=grownCap_le_maxLen w (n+es2.length) cap e (by simp only[maxLen];omega);have hasz:(olds.toArray++news.toArray++Builtin.zeroCells z.cells (grownCap w (n+es2.length) cap e-(n+es2.length))).size=grownCap w (n+es2.length) cap e*sz:=by simp only[Array.size_append,List.size_toArray,size_zeroCells,hzs,o1,n1,←Nat.add_mul];congr 1;omega
    have hget:∀j,j<(n+es2.length)*sz→(olds.toArray++news.toArray++Builtin.zeroCells z.cells (grownCap w (n+es2.length) cap e-(n+es2.length)))[j]?=(olds++news)[j]?:=by intro j hj;rw[Nat.add_mul]at hj;rw[Array.getElem?_append_left (by simp[o1,n1];omega),←List.getElem?_toArray,List.append_toArray]
    have hbl:Below w.heap.size w (w.drew.alloc (.cells (olds.toArray++news.toArray++Builtin.zeroCells z.cells (grownCap w (n+es2.length) cap e-(n+es2.length))) e)):=((Below.refl _ _).drew).alloc (Nat.le_refl _) _;have hadd:=(h.del ob).add (es:=es++es2) (sz:=sz) hio hbl (heap_alloc_new w.drew _)
     (wT (arr:=olds.toArray) hn (fun i e he=>by obtain⟨u,m1,m2,m3,m4⟩:=o4 i e he;exact⟨u,m1,m2,m3,fun j hj=>by rw[List.getElem?_toArray];exact m4 j hj⟩) n4
       (fun j hj=>by rw[hget j (by rw[Nat.add_mul];omega),List.getElem?_append_left (by omega),List.getElem?_toArray])
       (fun j hj=>by rw[hget _ (by rw[Nat.add_mul];omega),List.getElem?_append_right (by omega)];congr 1;omega) n1)
     (by rw[hasz,List.length_append,hn];exact Nat.mul_le_mul_right _ hge)
    refine Turns.run hrun hadd ?_;rw[←h.nx];refine iI hge ?_ (Nat.le_of_eq hasz.symm);simpa [maxLen]using hcm
theorem yV (h:Rel io w0 N g s a w) (hio:∀b,io b→b<w0.heap.size) {x y:Operand} {c:Call} {t e sz by_:Nat} {z:Value} (ho:o.op=.call c) (hc:c.callee=.builtin .append) (ha:c.args.toList=[x,y]) (ht:c.argTypes.toList=[t,t])
 (he:cZ P t=some e) (hz:zeroOf P e=some z) (hs:aY P e=some sz) (hb:dO P e=some by_) {es2:List PV} (h2:bF s.ob sz (look s.tm y)=some es2) (hsz:0<sz) (hzs:z.cells.size=sz)
 (hx:isNil (look s.tm x)=true) (h63:es2.length≤9223372036854775807) (hby:es2.length*by_≤140737488355328):
 (es2.length=0→Turns P o io w0 N s a w (look s.tm x,s.ob,s.nx))∧(es2.length≠0→Turns P o io w0 N s a w (.row s.nx sz 0 es2.length,upd s.ob s.nx (some (e,sz,es2)),s.nx+1)):=by
 have hu:=kR he;obtain⟨i,hi,hib⟩:=qJ hb;have hisz:=qd hi hs;have hiz:=ql hi hz;have hX:=h.look x;have hX':=hX;unfold isNil at hx;split at hx
 case h_2=>cases hx
 case h_1 hl=>
 rw[hl]at hX';simp only[Rep]at hX';obtain⟨ad,cap2,hY,q1,q2⟩:=jB h (h.look y) h2;refine⟨fun hm=>?_,fun hm=>?_⟩
 ·rw[hm]at hY
  have hrun:=jy (a:=a) ho hc ha ht (by rw[hX',hY];exact mP w hu hs o.type none ad 0 0 cap2 (Nat.le_refl _));exact Turns.run hrun h (by rw[←hX'];exact hX)
 ·rcases q2 with rfl|⟨b,off,rfl,q3⟩
  ·simp at hm
  ·obtain⟨news,n1,n2,n3,n4⟩:=q3.news
   have hnews:∀j u,news[j]?=some u→w.cell? ((⟨b,off,none⟩:Addr).add j)=some u:=fun j u hj=>by rw[Addr.add_mid];exact n2 j u hj
   have hr:=run_append_nil (P:=P) w t o.type e i z hu hi hiz ⟨b,off,none⟩ es2.length cap2 news (by rw[hisz];exact n1) hnews (by omega) (by omega) (by rw[hib];omega);have hrun:=jy (a:=a) ho hc ha ht (by rw[hX',hY];exact hr);have hge:=grownCap_ge w es2.length 0 e;have hcm:=grownCap_le_maxLen w es2.length 0 e (by simp only[maxLen];omega);have hasz:(news.toArray++Builtin.zeroCells z.cells (grownCap w es2.length 0 e-es2.length)).size=grownCap w es2.length 0 e*sz:=by simp only[Array.size_append,List.size_toArray,size_zeroCells,hzs,n1,←Nat.add_mul];congr 1;omega
   have hbl:Below w.heap.size w (w.drew.alloc (.cells (news.toArray++Builtin.zeroCells z.cells (grownCap w es2.length 0 e-es2.length)) e)):=((Below.refl _ _).drew).alloc (Nat.le_refl _) _;refine Turns.new h hio hrun hbl (heap_alloc_new w.drew _) ?_ (by rw[hasz];exact Nat.mul_le_mul_right _ hge) ?_
   ·intro i' e' he'
    obtain⟨u,m1,m2,m3,m4⟩:=n4 i' e' he';refine⟨u,m1,m2,m3,fun j hj=>?_⟩;have hlt:i'<es2.length:=(List.getElem?_eq_some_iff.1 he').1;have:(i'+1)*sz≤es2.length*sz:=Nat.mul_le_mul_right _ (by omega);rw[Nat.add_one_mul]at this;rw[Array.getElem?_append_left (by simp[n1];omega),List.getElem?_toArray];exact m4 j hj
   ·rw[←h.nx]
    refine iI hge ?_ (Nat.le_of_eq hasz.symm);simpa [maxLen]using hcm
theorem acC (h:Rel io w0 N g s a w) {sz:Nat} {x:PV} {es:List PV} {v:Value} (hx:Rep g w x v) (he:acz s.ob sz x=some es) (m:Nat) (hm:m≤es.length):
 (Builtin.lenOf v).run P w=.ok es.length w∧∃news:List Value,(Builtin.firstCells sz m v).run P w=.ok news.toArray w∧news.length=m*sz∧(∀u∈news,u.oneCell'=true)∧
   ∀(i:Nat) e,(es.take m)[i]?=some e→∃u,Rep g w e u∧u.cells.all (·.oneCell')=true∧u.cells.size=sz∧∀j,j<sz→news[i*sz+j]?=u.cells[j]?:=by
 unfold acz at he;split at he
 ·rename_i b
  split at he
  case isFalse=>cases he
  case isTrue hsz=>
  subst hsz;cases he;simp only[Rep]at hx;subst hx;have hl:(b.data.toList.map fun x=>PV.val (.int .u8 x.toNat)).length=b.size:=by rw[List.length_map];exact Array.length_toList
  rw[hl]at hm⊢;refine⟨by simp[Builtin.lenOf],(b.data.toList.take m).map fun x=> .int .u8 x.toNat,?_,?_,?_,fun i e hi=>?_⟩
  ·have e1:(b.extract 0 m).data.toList=b.data.toList.take m:=by rw[ByteArray.data_extract,Array.toList_extract];simp[List.extract]
   have e2:(b.extract 0 m).data.map (fun b=>Value.int .u8 b.toNat)=((b.data.toList.take m).map fun x=>Value.int .u8 x.toNat).toArray:=by rw[←Array.toArray_toList (xs:=(b.extract 0 m).data.map _),Array.toList_map,e1]
   show(Sem.pure ((b.extract 0 m).data.map fun b=>Value.int .u8 b.toNat)).run P w=_;rw[e2];rfl
  ·simp only[List.length_map,List.length_take,Array.length_toList]
   have:b.data.size=b.size:=rfl;omega
  ·intro u hu
   obtain⟨x,_,rfl⟩:=List.mem_map.1 hu;rfl
  ·rw[←List.map_take,List.getElem?_map,Option.map_eq_some_iff]at hi
   obtain⟨x,hx,rfl⟩:=hi;refine⟨.int .u8 x.toNat,by simp[Rep],by simp[Value.cells,Value.oneCell'],rfl,fun j hj=>?_⟩;obtain rfl:j=0:=by omega
   simp only[Nat.mul_one,Nat.add_zero,List.getElem?_map,hx];rfl
 ·obtain⟨ad,cap,rfl,h1,h2⟩:=jB h hx he
  refine⟨by simp[Builtin.lenOf],?_⟩;rcases h2 with rfl|⟨b,off,rfl,h3⟩
  ·obtain rfl:m=0:=by simpa using hm
   refine⟨[],?_,by simp,by simp,by simp⟩;cases ad with
   |none=>simp[Builtin.firstCells]
   |some ad=>exact run_firstCells_some (P:=P) w sz 0 ad _ _ [] (by simp) (by simp)
  ·obtain⟨news,n1,n2,n3,n4⟩:=(h3.take m).news
   rw[List.length_take,Nat.min_eq_left hm]at n1;exact⟨news,run_firstCells_some (P:=P) w sz m ⟨b,off,none⟩ _ _ news n1 (fun j u hj=>by rw[Addr.add_mid];exact n2 j u hj),n1,n3,n4⟩
theorem afM {sz k:Nat} {es es2:List PV} {news:List Value} {arr arr':Array Value} (hk:k+es2.length≤es.length) (h1:Lays g w arr sz es)
 (h2:∀(i:Nat) e,es2[i]?=some e→∃u,Rep g w e u∧u.cells.all (·.oneCell')=true∧u.cells.size=sz∧∀j,j<sz→news[i*sz+j]?=u.cells[j]?)
 (ha:∀j,arr'[j]?=if k*sz≤j∧j<k*sz+news.length then news[j-k*sz]? else arr[j]?) (hl:news.length=es2.length*sz):Lays g w arr' sz (es.take k++es2++es.drop (k+es2.length)):=fun i e he=>by
 have hlt:∀i m j:Nat,i<m→j<sz→i*sz+j<m*sz:=fun i m j h h'=>Nat.lt_of_lt_of_le (by rw[Nat.add_one_mul];omega:i*sz+j<(i+1)*sz) (Nat.mul_le_mul_right _ (by omega));have hkl:(es.take k).length=k:=by simp;omega
 have e2:(k+es2.length)*sz=k*sz+news.length:=by rw[Nat.add_mul,hl]
 by_cases c1:i<k
 ·rw[List.append_assoc,List.getElem?_append_left (by omega),List.getElem?_take,if_pos c1]at he
  obtain⟨u,k1,k2,k3,k4⟩:=h1 i e he;refine⟨u,k1,k2,k3,fun j hj=>?_⟩;rw[ha,if_neg (by have:=hlt i k j c1 hj;omega)];exact k4 j hj
 ·by_cases c2:i<k+es2.length
  ·rw[List.append_assoc,List.getElem?_append_right (by omega),hkl,List.getElem?_append_left (by omega)]at he
   obtain⟨u,k1,k2,k3,k4⟩:=h2 _ e he;refine⟨u,k1,k2,k3,fun j hj=>?_⟩;have h3:=hlt i (k+es2.length) j c2 hj;have h4:k*sz≤i*sz:=Nat.mul_le_mul_right _ (by omega);rw[ha,if_pos ⟨by omega,by omega⟩,show i*sz+j-k*sz=(i-k)*sz+j by rw[Nat.sub_mul];omega];exact k4 j hj
  ·rw[List.getElem?_append_right (by simp;omega)]at he
   have e3:(es.take k++es2).length=k+es2.length:=by simp;omega
   rw[e3,List.getElem?_drop,show k+es2.length+(i-(k+es2.length))=i by omega]at he;obtain⟨u,k1,k2,k3,k4⟩:=h1 i e he;refine⟨u,k1,k2,k3,fun j hj=>?_⟩;have h4:(k+es2.length)*sz≤i*sz:=Nat.mul_le_mul_right _ (by omega);rw[ha,if_neg (by omega)];exact k4 j hj
theorem aq2 (h:Rel io w0 N g s a w) {x y:Operand} {c:Call} {t t':Nat} (ho:o.op=.call c) (hc:c.callee=.builtin .copy) (ha:c.args.toList=[x,y]) (ht:c.argTypes.toList=[t,t'])
 {r:PV×bG×Nat} (hv:atg P s.ob s.nx t (look s.tm x) (look s.tm y)=some r):Turns P o io w0 N s a w r:=by
 unfold atg at hv;split at hv
 case h_2=>cases hv
 rename_i e he;split at hv
 case h_2=>cases hv
 rename_i sz hs;have ha':c.args=#[x,y]:=by rw[←Array.toArray_toList (xs:=c.args),ha]
 have ht':c.argTypes=#[t,t']:=by rw[←Array.toArray_toList (xs:=c.argTypes),ht]
 have hu:=kR he;split at hv
 case h_3=>cases hv
 case h_2 es2 kk ss h2 hx=>
  cases hv;have hX:=h.look x;rw[hx]at hX;simp only[Rep]at hX;obtain⟨ad,cap,hX,_⟩:=hX;obtain⟨q1,news,q2,q3,_,_⟩:=acC (P:=P) h (h.look y) h2 0 (Nat.zero_le _);have hnil:news=[]:=List.eq_nil_of_length_eq_zero (by simpa using q3);subst hnil;have hcp:(Builtin.copy_ #[t,t'] o.type #[a.eval x,a.eval y]).run P w=.ok (.int .i64 0) w:=by
   rw[hX];simp only[Builtin.copy_,List.getElem?_toArray,List.getElem?_cons_zero,List.getElem?_cons_succ,Sem.run_bind,run_underlying hu,Result.andThen_ok,q1,dF hs w,List.length_nil];rw[show Nat.min es2.length 0=0 from Nat.min_zero _,q2];simp only[Result.andThen_ok];cases ad with
   |none=>rfl
   |some ad=>rfl
  have hrun:(execOp a.eval o).run P w=.ok (.value (.int .i64 0)) w:=by simp[execOp,ho,resolve,hc,ha',ht',invoke,builtin,hcp]
  exact Turns.run hrun h (by simp[Rep])
 rename_i es2 ob sz' i n h2 hx;split at hv
 case h_2=>cases hv
 rename_i T sz'' es hob;split at hv
 case isFalse=>cases hv
 case isTrue hh=>
 obtain⟨rfl,rfl,hle⟩:=hh;cases hv;have hX:=h.look x;rw[hx]at hX;simp only[Rep]at hX;obtain⟨cap,hX,r1,r2,r3,r4⟩:=hX;obtain⟨k1,k2,k3,⟨arr,k4,k5⟩,k6,k7⟩:=h.ob ob _ hob;dsimp only at k4 k6 k7;have hlays:=k7.lays k4;generalize hm:min es2.length n=m;have hm1:m≤es2.length:=by omega
 have hm2:m≤n:=by omega
 obtain⟨q1,news,q2,q3,q4,q5⟩:=acC (P:=P) h (h.look y) h2 m hm1;have hfit:i*sz''+news.length≤arr.size:=by rw[q3,←Nat.add_mul,k5];exact Nat.le_trans (Nat.mul_le_mul_right _ (by omega)) k6
 have hst:=run_storeCells_at (P:=P) (g.β ob) (i*sz'') T news 0 arr w k4 (by omega) q4;simp only[Nat.add_zero]at hst;have hcp:(Builtin.copy_ #[t,t'] o.type #[a.eval x,a.eval y]).run P w=.ok (.int .i64 (m:Nat)) (w.setRow (g.β ob) (arr.toList.take (i*sz'')++news++arr.toList.drop (i*sz''+news.length)).toArray):=by rw[hX];simp only[Builtin.copy_,List.getElem?_toArray,List.getElem?_cons_zero,List.getElem?_cons_succ,Sem.run_bind,run_underlying hu,Result.andThen_ok,q1,dF hs w];rw[show Nat.min es2.length n=m from hm,q2];simp only[Result.andThen_ok];rw[hst];rfl
 have hrun:(execOp a.eval o).run P w=.ok (.value (.int .i64 (m:Nat))) (w.setRow (g.β ob) (fM arr.toList (i*sz'') news).toArray):=by simp[execOp,ho,resolve,hc,ha',ht',invoke,builtin,hcp,fM]
 have hget:∀j,((fM arr.toList (i*sz'') news).toArray)[j]?=if i*sz''≤j∧j<i*sz''+news.length then news[j-i*sz'']? else arr[j]?:=by intro j;rw[List.getElem?_toArray,qG _ _ _ (by simpa using hfit)];simp
 have htl:(es2.take m).length=m:=by simp;omega
 have hly:=afM (k:=i) (es:=es) (es2:=es2.take m) (by rw[htl];omega) hlays q5 hget (by rw[htl];exact q3);rw[htl]at hly;have hset:=h.set (w':=w.setRow (g.β ob) (fM arr.toList (i*sz'') news).toArray) hob (arr:=(fM arr.toList (i*sz'') news).toArray) ⟨rfl,rfl,rfl,by simp[World.setRow]⟩ (fun b hb=>setRow_other _ _ _ _ hb) (setRow_heap _ _ _ _ _ _ k4)
  (by rw[List.size_toArray,lV _ _ _ (by simpa using hfit)];simpa using k5) hly
  (by
    have:(es.take i++es2.take m++es.drop (i+m)).length=es.length:=by simp;omega
    rw[this];exact k6)
 exact Turns.run hrun hset (by simp[Rep])
theorem as5 (h:Rel io w0 N g s a w) (hΓ:fJ P Γ io.wr w0) (hio:∀b,io b→b<w0.heap.size) {r:PV×bG×Nat} (hv:bf P Γ s (look s.tm) o.op=some r):Turns P o io w0 N s a w r:=by
 cases ho:o.op with
 |alloc t=>
  simp only[ho,bf]at hv;split at hv
  ·rename_i z hz
   split at hv
   case isFalse=>cases hv
   case isTrue h1=>cases hv;exact anz h hio ho hz h1
  ·cases hv
 |box t x=>
  simp only[ho,bf]at hv;split at hv
  ·rename_i cs hc;cases hv;exact avn h hio ho hc
  ·cases hv
 |buildSlice t n ps=>
  simp only[ho,bf]at hv;split at hv
  ·rename_i e sz es hc;cases hv;exact za h hio ho hc
  ·cases hv
 |makeSlice t l c=>
  simp only[ho,bf]at hv;split at hv
  ·rename_i e he
   split at hv
   ·rename_i z sz by_ kl l' kc c' hz hs hb hl hc
    split at hv
    case isFalse=>cases hv
    case isTrue hh=>obtain⟨h1,h2,h3,h4,h5,h6⟩:=hh;cases hv;exact abk h hio ho he hz hs hb hl hc h1 h2 h3 h4 h5 h6
   ·cases hv
  ·cases hv
 |store t x y=>
  simp only[ho,bf]at hv;split at hv
  ·rename_i ob sz i f hx
   split at hv
   ·rename_i T sz' es hob
    split at hv
    ·rename_i e cs he hc
     split at hv
     case isFalse=>cases hv
     case isTrue hh=>obtain⟨rfl,hts⟩:=hh;simp only[Option.map_eq_some_iff]at hv;obtain⟨e',hp,rfl⟩:=hv;exact amK h ho hx hob he hc hts hp
    ·cases hv
   ·cases hv
  ·cases hv
 |call c=>
  simp only[ho,bf]at hv;split at hv
  ·rename_i x hc
   split at hv
   ·rename_i Φ hΦ
    unfold vN at hΦ;split at hΦ
    ·rename_i f hcf
     obtain⟨h1,h2⟩:=hΓ.2.1 f Φ hΦ;exact aAQ h hio ho hcf h1 h2 hv
    ·cases hΦ
   ·cases hv
  ·rename_i hc
   split at hv
   ·rename_i x y t t' ha ht
    exact aq2 h ho hc ha ht hv
   ·cases hv
  ·rename_i hc
   split at hv
   ·rename_i x y t t' ha ht
    split at hv
    ·rename_i e he
     split at hv
     ·rename_i z sz by_ hz hs hb
      split at hv
      ·rename_i es2 h2
       split at hv
       case isFalse=>cases hv
       case isTrue hh=>
        obtain⟨rfl,hsz,hzs⟩:=hh;split at hv
        ·rename_i ob sz' i n hx
         split at hv
         ·rename_i T sz'' es hob
          split at hv
          case isFalse=>cases hv
          case isTrue hh2=>obtain⟨rfl,rfl,rfl,rfl,hn,h63,hby⟩:=hh2;cases hv;exact ajD h hio ho hc ha ht he hz hs hb h2 hsz hzs hx hob hn h63 hby
         ·cases hv
        ·split at hv
         case isFalse=>cases hv
         case isTrue hh2=>
          obtain⟨hnil,h63,hby⟩:=hh2;have:=yV h hio ho hc ha ht he hz hs hb h2 hsz hzs hnil h63 hby;split at hv
          ·rename_i h0;cases hv;exact this.1 h0
          ·rename_i h0;cases hv;exact this.2 h0
      ·cases hv
     ·cases hv
    ·cases hv
   ·cases hv
  ·cases hv
 |_=>simp[ho,bf]at hv
end
structure Md where
 imm:List Nat
 pri:List Nat
 V:List Nat
def inD (l:List Nat) (o:Oper):Bool:=match o.dst with|some d=>l.contains d|none=>false
def eZ (Γ:Ctx) (imm:Md) (o:Oper):Bool:=
 match o.op with
 | .alloc _| .box .. | .makeSlice .. | .store .. =>true
 | .buildSlice .. => !(inD imm.imm o)
 | .call c=>match c.callee with
   | .builtin .append| .builtin .copy=>true
   | .value _=>(vN Γ c).isSome
   |_=>false
 |_=>false
def quiet (imm:Md) (o:Oper):Bool:=
 match o.op with
 | .load .. | .convert .. =>inD imm.imm o
 | .call c=>match c.callee with
   | .value _=>inD imm.imm o
   |_=>false
 |_=>false
def ac1 (imm:Md) (o:Oper):Bool:=
 match o.op with
 | .load .. =>inD imm.pri o
 |_=>false
def rM (imm:Md) (o:Oper):Bool:=
 match o.op with
 | .load .. => !(inD imm.imm o)&& !(inD imm.pri o)
 | .convert .. => !(inD imm.imm o)
 | .call c=>match c.callee with
   | .value _=> !(inD imm.imm o)
   |_=>false
 |_=>false
def lY:bG:=fun _=>none
def yY (V:List Nat) (ob:bG):bG:=fun o=>if V.contains o then ob o else none
def obq (imm:Md) (o:Oper) (ob:bG):bG:=if quiet imm o=true then lY else if ac1 imm o=true then yY imm.V ob else ob
def touch (Γ:Ctx) (ρ:Operand→PV):Op→List Nat
 | .store _ x _=>refsOf (ρ x)
 | .call c=>c.args.toList.flatMap fun x=>refsOf (ρ x)
 |_=>[]
def mY (Γ:Ctx) (imm:Md) (nx:Nat) (ρ:Operand→PV) (op:Op):Bool:=imm.V.all fun v=>decide (v<nx)&& !((touch Γ ρ op).contains v)
theorem ig {α β:Type} {F G:α→Option β}:∀{l:List α} {l':List β},(∀x∈l,∀y,F x=some y→G x=some y)→l.mapM F=some l'→l.mapM G=some l'
 |[],l',_,h=>h
 |x::l,l',hi,h=>by simp only[List.mapM_cons,Option.bind_eq_bind,Option.bind_eq_some_iff,Option.pure_def,Option.some.injEq]at h⊢;obtain⟨y,h1,ys,h2,rfl⟩:=h;exact⟨y,hi x (by simp) y h1,ys,ig (fun z hz=>hi z (by simp[hz])) h2,rfl⟩
theorem jq {fr:Bool} {n:Nat} {ob:bG}:∀(f:Nat) (p q:PV),reify fr n lY f p=some q→reify fr n ob f p=some q
 |0,p,q,h=>by simp[reify]at h
 |f+1,p,q,h=>by
  cases p with
  |val v=>exact h
  |dead=>exact h
  |lst k sz es=>
   simp only[reify]at h⊢;split at h
   ·cases h
   ·rename_i hk
    rw[if_neg hk];simp only[Option.map_eq_some_iff]at h⊢;obtain⟨es',h1,rfl⟩:=h;exact⟨es',ig (fun x _ y=>jq f x y) h1,rfl⟩
  |ptr k e o=>
   simp only[reify]at h⊢;split at h
   ·cases h
   ·rename_i hk
    rw[if_neg hk];simp only[Option.map_eq_some_iff]at h⊢;obtain⟨e',h1,rfl⟩:=h;exact⟨e',jq f _ _ h1,rfl⟩
  |own o sz i c=>simp[reify,lY]at h
  |row o sz i m=>simp[reify,lY]at h
  |agg cs=>simp only[reify,Option.map_eq_some_iff]at h⊢;obtain⟨es',h1,rfl⟩:=h;exact⟨es',ig (fun x _ y=>jq f x y) h1,rfl⟩
  |tup cs=>simp only[reify,Option.map_eq_some_iff]at h⊢;obtain⟨es',h1,rfl⟩:=h;exact⟨es',ig (fun x _ y=>jq f x y) h1,rfl⟩
theorem aaV {ob:bG} {sz:Nat} {x:PV} {es:List PV} (h:bF lY sz x=some es):bF ob sz x=some es:=by
 cases x with
 |row o s i n=>simp[bF,lY]at h
 |val v=>
  have e:bF ob sz (.val v)=bF lY sz (.val v):=by unfold bF;split<;>(first|rfl|(simp_all;done))
  rw[e];exact h
 |_=>exact h
theorem aeb {P:Program} {Γ:Ctx} {ob:bG} {V:List Nat} {ρ:Operand→PV} {ty t:Nat} {x:Operand} {p:PV} (h:aZ P Γ (yY V ob) ρ ty (.load t x)=some p):aZ P Γ ob ρ ty (.load t x)=some p:=by
 simp only[aZ]at h⊢;split at h
 ·rename_i o sz i f hx
  unfold yY at h;split at h
  ·rename_i T sz' es ho
   split at ho
   ·rw[ho];exact h
   ·cases ho
  ·cases h
 ·exact h
 ·cases h
theorem aeO {P:Program} {Γ:Ctx} {ob:bG} {ρ:Operand→PV} {ty:Nat} {op:Op} {p:PV} (h:aZ P Γ lY ρ ty op=some p):aZ P Γ ob ρ ty op=some p:=by
 cases op with
 |load t x=>
  simp only[aZ]at h⊢;split at h
  ·simp[lY]at h
  ·exact h
  ·cases h
 |convert s d x=>
  simp only[aZ]at h⊢;split at h
  ·rename_i hc
   rw[if_pos hc];simp only[Option.map_eq_some_iff,Option.bind_eq_some_iff]at h⊢;obtain⟨ns,⟨es,h1,h2⟩,rfl⟩:=h;exact⟨ns,⟨es,aaV h1,h2⟩,rfl⟩
  ·rename_i hc
   rw[if_neg hc];exact h
 |call c=>
  simp only[aZ]at h⊢;cases hc:c.callee with
  |value x=>
   simp only[hc]at h⊢;split at h
   ·rename_i f hf
    split at h
    ·rename_i φ ps h1 h2
     have h3:=ig (G:=reify false 0 ob fuel) (fun x _ y=>jq fuel x y) h2;simp only[hf,h1,h3];exact h
    ·cases h
   ·cases h
  |invoke r m=>simp[hc]at h
  |builtin b=>cases b<;>(simp only[hc]at h⊢;exact h)
 |slice t x lo hi mx=>cases mx<;>exact h
 |_=>exact h
def atM (P:Program) (Γ:Ctx) (imm:Md) (s:AS) (o:Oper):Option AS:=
 if eZ Γ imm o then(if mY Γ imm s.nx (look s.tm) o.op then bf P Γ s (look s.tm) o.op else none).map fun r=>({s with ob:=r.2.1,nx:=r.2.2}:AS).put o.dst r.1
 else(aZ P Γ (obq imm o s.ob) (look s.tm) o.type o.op).map fun p=>s.put o.dst p
def wB:PV→Option (Option Bool)
 | .val (.bool b)=>some (some b)
 | .val _=>some none
 |_=>none
def gP (ops:Array Oper) (s:AS) (o:Oper):Option Bool:=
 match o.guard with
 |none=>some true
 |some (j,want)=>match ops[j]? with
  |none=>some false
  |some oj=>match oj.dst with
   |none=>some false
   |some d=>(wB (s.tm d)).map fun b=>b==some want
def pY (P:Program) (Γ:Ctx) (imm:Md) (ops:Array Oper) (o:Oper) (s:AS):Option AS:=
 match gP ops s o with
 |some true=>atM P Γ imm s o
 |some false=>some (s.put o.dst (.val undef))
 |none=>none
def iJ (P:Program) (Γ:Ctx) (imm:Md) (ops:Array Oper):List Oper→AS→Option AS
 |[],s=>some s
 |o::l,s=>match pY P Γ imm ops o s with
  |some s'=>iJ P Γ imm ops l s'
  |none=>none
def gV (N:Nat) (o:Oper):Bool:=match o.dst with|some d=>decide (d<N)|none=>true
section
variable {P:Program} {Γ:Ctx} {imm:Md} {ops:Array Oper} {io:IoS} {w0:World} {N:Nat} {g:Gh} {s s':AS} {a:Act} {w w':World} {o:Oper} {p:PV}
theorem acS (h:Rel io w0 N g s a w) {b:Bool} (hg:gP ops s o=some b):Region.wanted o (yielded ops a.tmps)=b:=by
 unfold gP at hg;unfold Region.wanted;split at hg
 ·rename_i hn;cases hg;simp[hn]
 ·rename_i j want hn
  simp only[hn];split at hg
  ·rename_i hj;cases hg;simp[yielded,hj]
  ·rename_i oj hj
   split at hg
   ·rename_i hd;cases hg;simp[yielded,hj,hd]
   ·rename_i d hd
    simp only[Option.map_eq_some_iff]at hg;obtain⟨ob,hb,rfl⟩:=hg;have ht:=h.tm d;have:yielded ops a.tmps j=ob:=by
     unfold yielded;simp only[hj,hd,Option.bind_some];unfold wB at hb;split at hb
     ·rename_i b' hl
      cases hb;rw[hl]at ht;simp only[Rep]at ht;cases hq:a.tmps[d]? with
      |none=>simp[hq,undef]at ht
      |some v=>simp[hq]at ht;subst ht;rfl
     ·rename_i v hl hnb
      cases hb;rw[hnb]at ht;simp only[Rep]at ht;cases hq:a.tmps[d]? with
      |none=>rfl
      |some u=>simp[hq]at ht;subst ht;cases u<;>first|rfl|(exfalso;exact hl _ rfl)
     ·cases hb
    rw[this]
theorem adk (h:Rel io w0 N g s a w) (hΓ:fJ P Γ io.wr w0) (hio:∀b,io b→b<w0.heap.size) (hd:gV N o=true) (he:pY P Γ imm ops o s=some s') {i:Nat} (hi:ops[i]?=some o) {Q:Exit→Act→World→Prop} {K:Act→World→Prop}
 (hK:∀g' a' w',Rel io w0 N g' s' a' w'→K a' w'):wpOp P ops Q i K a w:=by
 have hdst:∀x,o.dst=some x→x<N:=fun x hx=>by unfold gV at hd;simpa [hx]using hd
 unfold wpOp;simp only[hi];unfold pY at he;split at he
 ·rename_i hg
  rw[acS h hg];simp only[if_true];left;unfold atM at he;split at he
  ·simp only[Option.map_eq_some_iff]at he
   obtain⟨r,hr,rfl⟩:=he;split at hr
   case isFalse=>cases hr
   case isTrue=>
   exact as5 h hΓ hio hr _ _ fun v w' g' hrel hrep=>hK _ _ _ (hrel.put hdst hrep)
  ·simp only[Option.map_eq_some_iff]at he
   obtain⟨q,hq,rfl⟩:=he;have hq:aZ P Γ s.ob (look s.tm) o.type o.op=some q:=by
    unfold obq at hq;split at hq
    ·exact aeO hq
    ·split at hq
     ·rename_i hp
      unfold ac1 at hp;split at hp
      ·rename_i hop;rw[hop]at hq⊢;exact aeb hq
      ·cases hp
     ·exact hq
   exact asD h hΓ hq _ _ fun v w' hb hrep=>hK _ _ _ ((h.grow hb hio).put hdst hrep)
 ·rename_i hg
  rw[acS h hg];simp only[Bool.false_eq_true,if_false];cases he;exact hK _ _ _ (h.put hdst (by simp[Rep]))
 ·cases he
theorem seq_ok (hΓ:fJ P Γ io.wr w0) (hio:∀b,io b→b<w0.heap.size) (hd:∀o∈ops.toList,gV N o=true) {Q:Exit→Act→World→Prop}:∀(l:List Oper) (k:Nat) {g:Gh} {s:AS} {a:Act} {w:World},ops.toList.drop k=l→Rel io w0 N g s a w→
 iJ P Γ imm ops l s=some s'→(∀g' a' w',Rel io w0 N g' s' a' w'→Q .normal a' w')→wpOps P ops Q (List.range' k l.length) a w
 |[],k,g,s,a,w,hl,h,he,hQ=>by simp only[iJ,Option.some.injEq]at he;subst he;exact hQ g a w h
 |o::l,k,g,s,a,w,hl,h,he,hQ=>by
  have hk:ops.toList[k]?=some o:=by have:=congrArg (·[0]?) hl;simpa using this
  have hk':ops[k]?=some o:=by simpa using hk
  have hl':ops.toList.drop (k+1)=l:=by rw[←List.drop_drop,hl];rfl
  simp only[iJ]at he;split at he
  ·rename_i s1 h1
   simp only[List.length_cons,List.range'_succ];rw[wpOps_cons];exact adk h hΓ hio (hd o (List.mem_of_getElem? hk)) h1 hk' fun g' a' w' hr=>seq_ok hΓ hio hd l (k+1) hl' hr he hQ
  ·cases he
theorem aoE {id:Nat} {Q:Exit→Act→World→Prop} (h:Rel io w0 N g s a w) (hΓ:fJ P Γ io.wr w0) (hio:∀b,io b→b<w0.heap.size) (hd:ops.all (gV N)=true) (he:iJ P Γ imm ops ops.toList s=some s')
 (hQ:∀g' a' w',Rel io w0 N g' s' a' w'→Q .normal a' w'):(Code.region id ops false).wp P Q a w:=by
 refine wp_region ?_;have:=seq_ok hΓ hio (fun o ho=>(Array.all_eq_true_iff_forall_mem.1 hd) o (by simpa using ho)) ops.toList 0 rfl h he hQ;rw[List.range_eq_range'];simpa using this
def evL (P:Program) (Γ:Ctx) (imm:Md) (ops:Array Oper):List Nat→AS→Option AS
 |[],s=>some s
 |i::l,s=>match ops[i]? with
  |none=>evL P Γ imm ops l s
  |some o=>match pY P Γ imm ops o s with
   |some s'=>evL P Γ imm ops l s'
   |none=>none
theorem an4:∀(l:List Oper) (k:Nat) (s:AS),ops.toList.drop k=l→evL P Γ imm ops (List.range' k l.length) s=iJ P Γ imm ops l s
 |[],k,s,hl=>rfl
 |o::l,k,s,hl=>by
  have hk:ops[k]?=some o:=by have:=congrArg (·[0]?) hl;simpa using this
  have hl':ops.toList.drop (k+1)=l:=by rw[←List.drop_drop,hl];rfl
  simp only[List.length_cons,List.range'_succ,evL,hk,iJ];cases pY P Γ imm ops o s with
  |none=>rfl
  |some s'=>exact an4 l (k+1) s' hl'
theorem aj7 {tm tm':Nat→PV} {x:Operand} (h:∀t,x=.tmp t→tm t=tm' t):look tm x=look tm' x:=by
 cases x with
 |tmp t=>exact h t rfl
 |_=>rfl
theorem lJ {ρ ρ':Operand→PV} {ps:Array (Nat×Operand)} (h:∀x∈(ps.toList.map (·.2)),ρ x=ρ' x):partsOf ρ ps=partsOf ρ' ps:=by unfold partsOf;refine List.map_congr_left fun q hq=>?_;rw[h q.2 (List.mem_map.2 ⟨q,hq,rfl⟩)]
theorem yh {ρ ρ':Operand→PV} {ob:bG} {ty:Nat} (op:Op) (h:∀x∈op.operands,ρ x=ρ' x):aZ P Γ ob ρ ty op=aZ P Γ ob ρ' ty op:=by
 cases op<;>simp only[Op.operands]at h<;>simp only[aZ]
 case build t ps=>rw[lJ fun x hx=>h x (by simpa using hx)]
 case buildSlice t n ps=>rw[lJ fun x hx=>h x (by simpa using hx)]
 case slice t x lo hi mx=>cases lo<;>cases hi<;>cases mx<;>simp_all [aZ]
 case call c=>
  have hargs:c.args.toList.map ρ=c.args.toList.map ρ':=List.map_congr_left fun x hx=>h x (by simp[Call.operands];right;simpa using hx);cases hc:c.callee with
  |value x=>have hf:=h x (by simp[Call.operands,hc]);simp only[hargs,hf]
  |invoke r m=>rfl
  |builtin b=>
   cases b<;>simp only[hargs]
   case len=>
    cases ha:c.args.toList with
    |nil=>rfl
    |cons x xs=>
     cases xs with
     |nil=>
      have hm:x∈c.args.toList:=by rw[ha];exact List.mem_cons_self
      have hx:=h x (by simpa [Call.operands,hc]using hm);cases hq:c.argTypes.toList with
      |nil=>rfl
      |cons t ts=>
       cases ts with
       |nil=>dsimp only;rw[hx]
       |cons t2 ts=>rfl
     |cons y ys=>rfl
 all_goals(first|rfl|(simp_all;done))
theorem xM {ρ ρ':Operand→PV} {s:AS} (op:Op) (h:∀x∈op.operands,ρ x=ρ' x):bf P Γ s ρ op=bf P Γ s ρ' op:=by
 cases op<;>simp only[Op.operands]at h<;>simp only[bf]
 case buildSlice t n ps=>rw[lJ fun x hx=>h x (by simpa using hx)]
 case call c=>
  have hargs:c.args.toList.map ρ=c.args.toList.map ρ':=List.map_congr_left fun x hx=>h x (by simp[Call.operands];right;simpa using hx);cases hc:c.callee with
  |value x=>simp only[hargs]
  |invoke r m=>rfl
  |builtin b=>
   cases b<;>try rfl
   case copy=>
    cases ha:c.args.toList with
    |nil=>rfl
    |cons x xs=>
     cases xs with
     |nil=>rfl
     |cons y ys=>
      cases ys with
      |nil=>
       have hmx:x∈c.args.toList:=by rw[ha];exact List.mem_cons_self
       have hmy:y∈c.args.toList:=by rw[ha];exact List.mem_cons_of_mem _ List.mem_cons_self
       have hx:=h x (by simpa [Call.operands,hc]using hmx);have hy:=h y (by simpa [Call.operands,hc]using hmy);cases hq:c.argTypes.toList with
       |nil=>rfl
       |cons t ts=>
        cases ts with
        |nil=>rfl
        |cons t2 ts=>
         cases ts with
         |nil=>dsimp only;rw[hx,hy]
         |cons t3 ts=>rfl
      |cons z zs=>rfl
   case append=>
    cases ha:c.args.toList with
    |nil=>rfl
    |cons x xs=>
     cases xs with
     |nil=>rfl
     |cons y ys=>
      cases ys with
      |nil=>
       have hmx:x∈c.args.toList:=by rw[ha];exact List.mem_cons_self
       have hmy:y∈c.args.toList:=by rw[ha];exact List.mem_cons_of_mem _ List.mem_cons_self
       have hx:=h x (by simpa [Call.operands,hc]using hmx);have hy:=h y (by simpa [Call.operands,hc]using hmy);cases hq:c.argTypes.toList with
       |nil=>rfl
       |cons t ts=>
        cases ts with
        |nil=>rfl
        |cons t2 ts=>
         cases ts with
         |nil=>dsimp only;rw[hx,hy]
         |cons t3 ts=>rfl
      |cons z zs=>rfl
 all_goals(first|rfl|(simp_all;done))
theorem ar9 {ρ:Operand→PV} {ob ob':bG} {o:Oper} (h:rM imm o=false) (hV:∀v,imm.V.contains v=true→ob v=ob' v) (ty:Nat):aZ P Γ (obq imm o ob) ρ ty o.op=aZ P Γ (obq imm o ob') ρ ty o.op:=by
 cases hq:quiet imm o with
 |true=>simp[obq,hq]
 |false=>
 cases hp:ac1 imm o with
 |true=>
  have:yY imm.V ob=yY imm.V ob':=by
   funext v;unfold yY;split
   ·rename_i hv;exact hV v hv
   ·rfl
  simp[obq,hq,hp,this]
 |false=>
 simp only[obq,hq,hp,Bool.false_eq_true,if_false];unfold rM at h;unfold quiet at hq;unfold ac1 at hp;cases ho:o.op with
 |load t x=>simp[ho]at h hq hp;rw[h hq]at hp;cases hp
 |convert s d x=>simp[ho]at h hq;simp[h]at hq
 |call c=>
  simp only[ho]at h hq;simp only[aZ];cases hc:c.callee with
  |value x=>simp[hc]at h hq;simp[h]at hq
  |invoke r m=>rfl
  |builtin b=>cases b<;>rfl
 |slice t x lo hi mx=>cases mx<;>rfl
 |_=>rfl
theorem gD {α:Type} (f:Nat→α) {d t:Nat} (v:α) (h:t≠d):upd f d v t=f t:=by simp[upd,h]
theorem mO:∀(l:List (Nat×aS)) (ob:bG) (o:Nat),o∉l.map (·.1)→kM ob l o=ob o
 |[],ob,o,h=>rfl
 |p::l,ob,o,h=>by simp only[List.map_cons,List.mem_cons,not_or]at h;simp only[kM];rw[mO l _ o h.2,gD _ _ h.1]
theorem acw {o:Nat}:∀{l:List Nat},o∈dedup l→o∈l
 |[],h=>by simp[dedup]at h
 |a::l,h=>by
  simp only[dedup,List.mem_cons,List.mem_filter]at h;rcases h with rfl|h
  ·simp
  ·exact List.mem_cons_of_mem _ (acw h.1)
theorem aiS {ob:bG} {nx t:Nat} {x y:PV} {r:PV×bG×Nat} (h:atg P ob nx t x y=some r) {v:Nat} (hv:v∉refsOf x):r.2.1 v=ob v:=by
 unfold atg at h;split at h
 case h_2=>cases h
 split at h
 case h_2=>cases h
 split at h
 case h_3=>cases h
 case h_2=>cases h;rfl
 split at h
 case h_2=>cases h
 split at h
 ·cases h
  exact gD _ _ fun e=>hv (by simp[refsOf,e])
 ·cases h
theorem ae6 {ρ:Operand→PV} {s:AS} {op:Op} {r:PV×bG×Nat} (h:bf P Γ s ρ op=some r) {v:Nat} (hv:v<s.nx) (ht:(touch Γ ρ op).contains v=false):r.2.1 v=s.ob v:=by
 have hn:v≠s.nx:=by omega
 have ht':v∉touch Γ ρ op:=by simpa using ht
 cases op with
 |alloc t=>
  simp only[bf]at h;split at h
  ·split at h
   ·cases h;exact gD _ _ hn
   ·cases h
  ·cases h
 |box t x=>
  simp only[bf]at h;split at h
  ·cases h;exact gD _ _ hn
  ·cases h
 |buildSlice t n ps=>
  simp only[bf]at h;split at h
  ·cases h;exact gD _ _ hn
  ·cases h
 |makeSlice t l c=>
  simp only[bf]at h;split at h
  ·split at h
   ·split at h
    ·cases h;exact gD _ _ hn
    ·cases h
   ·cases h
  ·cases h
 |store t x y=>
  simp only[bf]at h;split at h
  ·rename_i o sz i f hx
   have hvo:v≠o:=fun e=>ht' (by simp[touch,hx,refsOf,e]);split at h
   ·split at h
    ·split at h
     ·simp only[Option.map_eq_some_iff]at h
      obtain⟨e',_,rfl⟩:=h;exact gD _ _ hvo
     ·cases h
    ·cases h
   ·cases h
  ·cases h
 |call c=>
  simp only[bf]at h;split at h
  ·split at h
   ·rename_i Φ hΦ
    unfold akf at h;dsimp only at h;split at h
    case h_2=>cases h
    split at h
    case h_2=>cases h
    split at h
    case h_2=>cases h
    split at h
    case h_2=>cases h
    rename_i cs2 _ _;cases h;refine mO _ _ _ fun hm=>?_;rw[List.map_fst_zip (by simp),List.mem_map]at hm;obtain⟨i,hi,hm⟩:=hm;unfold p9 at hm;split at hm
    ·rename_i hlt
     apply ht';have h1:v∈dedup ((c.args.toList.map ρ).flatMap refsOf):=by rw[←hm];refine List.mem_of_getElem? (i:=i) ?_;rw[List.getD_eq_getElem?_getD,List.getElem?_eq_getElem hlt];rfl
     have h2:=acw h1;simpa [touch,List.flatMap_map]using h2
    ·omega
   ·cases h
  ·split at h
   ·rename_i x y t t' ha _
    exact aiS h fun hm=>ht' (by simp only[touch,ha,List.flatMap_cons,List.mem_append];exact .inl hm)
   ·cases h
  ·split at h
   ·rename_i x y t t' ha _
    split at h
    ·split at h
     ·split at h
      ·split at h
       ·split at h
        ·rename_i o sz' i n hx
         split at h
         ·split at h
          ·cases h
           have hvo:v≠o:=fun e=>ht' (by simp[touch,ha,hx,refsOf,e]);dsimp only
           rw[gD _ _ hn,gD _ _ hvo]
          ·cases h
         ·cases h
        ·split at h
         ·split at h
          ·cases h;rfl
          ·cases h;exact gD _ _ hn
         ·cases h
       ·cases h
      ·cases h
     ·cases h
    ·cases h
   ·cases h
  ·cases h
 |_=>simp[bf]at h
end
section
variable {P:Program} {Γ:Ctx} {ob ob':bG}
theorem iK {fr:Bool} {n:Nat} (H:∀o c,ob o=some c→ob' o=some c):∀(f:Nat) (p q:PV),reify fr n ob f p=some q→reify fr n ob' f p=some q
 |0,p,q,h=>by simp[reify]at h
 |f+1,p,q,h=>by
  cases p with
  |val v=>exact h
  |dead=>exact h
  |lst k sz es=>
   simp only[reify]at h⊢;split at h
   ·cases h
   ·rename_i hk
    rw[if_neg hk];simp only[Option.map_eq_some_iff]at h⊢;obtain⟨es',h1,rfl⟩:=h;exact⟨es',ig (fun x _ y=>iK H f x y) h1,rfl⟩
  |ptr k e o=>
   simp only[reify]at h⊢;split at h
   ·cases h
   ·rename_i hk
    rw[if_neg hk];simp only[Option.map_eq_some_iff]at h⊢;obtain⟨e',h1,rfl⟩:=h;exact⟨e',iK H f _ _ h1,rfl⟩
  |own o sz i c=>
   simp only[reify]at h⊢;split at h
   ·cases h
   ·rename_i hk
    rw[if_neg hk];split at h
    ·rename_i T sz' es ho
     rw[H o _ ho];dsimp only
     split at h
     ·rename_i hs
      rw[if_pos hs];simp only[Option.bind_eq_some_iff,Option.map_eq_some_iff]at h⊢;obtain⟨e,h1,e',h2,rfl⟩:=h;exact⟨e,h1,e',iK H f _ _ h2,rfl⟩
     ·cases h
    ·cases h
  |row o sz i m=>
   simp only[reify]at h⊢;split at h
   ·cases h
   ·rename_i hk
    rw[if_neg hk];split at h
    ·rename_i T sz' es ho
     rw[H o _ ho];dsimp only
     split at h
     ·rename_i hs
      rw[if_pos hs];simp only[Option.map_eq_some_iff]at h⊢;obtain⟨es',h1,rfl⟩:=h;exact⟨es',ig (fun x _ y=>iK H f x y) h1,rfl⟩
     ·cases h
    ·cases h
  |agg cs=>simp only[reify,Option.map_eq_some_iff]at h⊢;obtain⟨es',h1,rfl⟩:=h;exact⟨es',ig (fun x _ y=>iK H f x y) h1,rfl⟩
  |tup cs=>simp only[reify,Option.map_eq_some_iff]at h⊢;obtain⟨es',h1,rfl⟩:=h;exact⟨es',ig (fun x _ y=>iK H f x y) h1,rfl⟩
theorem mR (H:∀o c,ob o=some c→ob' o=some c) {sz:Nat} {x:PV} {es:List PV} (h:bF ob sz x=some es):bF ob' sz x=some es:=by
 cases x with
 |row o s i n=>
  simp only[bF]at h⊢;split at h
  ·rename_i T sz' es' ho
   rw[H o _ ho];exact h
  ·cases h
 |val v=>
  have e:bF ob' sz (.val v)=bF ob sz (.val v):=by unfold bF;split<;>(first|rfl|(simp_all;done))
  rw[e];exact h
 |_=>exact h
theorem aiV (H:∀o c,ob o=some c→ob' o=some c) {ρ:Operand→PV} {ty:Nat} {op:Op} {p:PV} (h:aZ P Γ ob ρ ty op=some p):aZ P Γ ob' ρ ty op=some p:=by
 cases op with
 |load t x=>
  simp only[aZ]at h⊢;split at h
  ·rename_i o sz i f hx
   split at h
   ·rename_i T sz' es ho
    rw[H o _ ho];exact h
   ·cases h
  ·exact h
  ·cases h
 |convert s d x=>
  simp only[aZ]at h⊢;split at h
  ·rename_i hc
   rw[if_pos hc];simp only[Option.map_eq_some_iff,Option.bind_eq_some_iff]at h⊢;obtain⟨ns,⟨es,h1,h2⟩,rfl⟩:=h;exact⟨ns,⟨es,mR H h1,h2⟩,rfl⟩
  ·rename_i hc
   rw[if_neg hc];exact h
 |call c=>
  simp only[aZ]at h⊢;cases hc:c.callee with
  |value x=>
   simp only[hc]at h⊢;split at h
   ·rename_i f hf
    split at h
    ·rename_i φ ps h1 h2
     have h3:=ig (G:=reify false 0 ob' fuel) (fun x _ y=>iK H fuel x y) h2;simp only[hf,h1,h3];exact h
    ·cases h
   ·cases h
  |invoke r m=>simp[hc]at h
  |builtin b=>cases b<;>(simp only[hc]at h⊢;exact h)
 |slice t x lo hi mx=>cases mx<;>exact h
 |_=>exact h
theorem iN {α:Type} {f:Nat→α} {i j:Nat} {x y:α} (h:i≠j):upd (upd f i x) j y=upd (upd f j y) i x:=by
 funext t;unfold upd;by_cases h1:t=j
 ·by_cases h2:t=i
  ·omega
  ·simp[h1];omega
 ·simp[h1]
theorem l8 {α:Type} {f:Nat→α} {i j:Nat} {x:α} (h:j≠i):upd f i x j=f j:=by simp[upd,h]
theorem xY {R:Nat} {c:aS}:∀{l:List (Nat×aS)} {ob:bG},R∉l.map (·.1)→kM (upd ob R (some c)) l=upd (kM ob l) R (some c)
 |[],ob,h=>rfl
 |p::l,ob,h=>by simp only[List.map_cons,List.mem_cons,not_or]at h;simp only[kM];rw[iN h.1,xY h.2]
theorem aaF {R:Nat} {c:aS} (hR:ob R=none):∀o d,ob o=some d→upd ob R (some c) o=some d:=fun o d h=>by
 by_cases e:o=R
 ·subst e;rw[hR]at h;cases h
 ·rw[l8 e];exact h
theorem zP (H:∀o c,ob o=some c→ob' o=some c) {sz:Nat} {x:PV} {es:List PV} (h:acz ob sz x=some es):acz ob' sz x=some es:=by
 unfold acz at h⊢;split at h
 ·exact h
 ·exact mR H h
theorem anC {R nx t:Nat} {c:aS} {ob:bG} {x y:PV} {r:PV×bG×Nat} (hR:ob R=none) (h:atg P ob nx t x y=some r):
 r.2.1 R=none∧nx≤r.2.2∧atg P (upd ob R (some c)) nx t x y=some (r.1,upd r.2.1 R (some c),r.2.2):=by
 have H:=aaF (c:=c) hR;unfold atg at h⊢;split at h
 case h_2=>cases h
 split at h
 case h_2=>cases h
 split at h
 case h_3=>cases h
 case h_2 es2 kk ss h2=>cases h;rw[zP H h2];exact⟨hR,Nat.le_refl _,rfl⟩
 rename_i es2 o sz' i n h2;rw[zP H h2];dsimp only
 split at h
 case h_2=>cases h
 rename_i T sz'' es ho;have hne:o≠R:=fun e=>by subst e;rw[hR]at ho;cases ho
 rw[H o _ ho];dsimp only
 split at h
 case isFalse=>cases h
 case isTrue h3=>
 cases h;rw[if_pos h3];exact⟨(l8 (Ne.symm hne)).trans hR,Nat.le_refl _,by rw[iN (Ne.symm hne)]⟩
theorem aiC {R:Nat} {c:aS} {ρ:Operand→PV} {s:AS} {op:Op} {r:PV×bG×Nat} (hR:s.ob R=none) (hlt:R<s.nx) (h:bf P Γ s ρ op=some r):
 r.2.1 R=none∧s.nx≤r.2.2∧bf P Γ {s with ob:=upd s.ob R (some c)} ρ op=some (r.1,upd r.2.1 R (some c),r.2.2):=by
 have hn:s.nx≠R:=by omega
 have hn':R≠s.nx:=by omega
 have H:=aaF (c:=c) hR;cases op with
 |alloc t=>
  simp only[bf]at h⊢;split at h
  ·split at h
   ·rename_i z hz h1
    cases h;rw[if_pos h1];exact⟨(l8 hn').trans hR,by simp,by dsimp only;rw[iN hn']⟩
   ·cases h
  ·cases h
 |box t x=>
  simp only[bf]at h⊢;split at h
  ·cases h
   exact⟨(l8 hn').trans hR,by simp,by dsimp only;rw[iN hn']⟩
  ·cases h
 |buildSlice t n ps=>
  simp only[bf]at h⊢;split at h
  ·cases h
   exact⟨(l8 hn').trans hR,by simp,by dsimp only;rw[iN hn']⟩
  ·cases h
 |makeSlice t l k=>
  simp only[bf]at h⊢;split at h
  ·split at h
   ·split at h
    ·rename_i h1
     cases h;rw[if_pos h1];exact⟨(l8 hn').trans hR,by simp,by dsimp only;rw[iN hn']⟩
    ·cases h
   ·cases h
  ·cases h
 |store t x y=>
  simp only[bf]at h⊢;split at h
  ·rename_i o sz i f hx
   split at h
   ·rename_i T sz' es ho
    have hne:o≠R:=fun e=>by subst e;rw[hR]at ho;cases ho
    rw[H o _ ho];dsimp only
    split at h
    ·rename_i e cs he hc
     split at h
     ·rename_i h1
      simp only[Option.map_eq_some_iff]at h;obtain⟨e',h2,rfl⟩:=h;simp only[if_pos h1,h2,Option.map_some];exact⟨(l8 (Ne.symm hne)).trans hR,Nat.le_refl _,by rw[iN (Ne.symm hne)]⟩
     ·cases h
    ·cases h
   ·cases h
  ·cases h
 |call k=>
  simp only[bf]at h⊢;split at h
  ·split at h
   ·rename_i Φ hΦ
    unfold akf at h⊢;dsimp only at h⊢;split at h
    case h_2=>cases h
    rename_i cs qs hcs hqs;have hno:R∉dedup ((k.args.toList.map ρ).flatMap refsOf):=fun hm=>by obtain⟨i,hi,he⟩:=List.getElem_of_mem hm;have:=(bg hcs).2 i R (by rw[List.getElem?_eq_getElem hi,he]);obtain⟨y,_,hy⟩:=this;rw[hR]at hy;cases hy
    have hcs':=ig (G:=upd s.ob R (some c)) (fun x _ y=>H x y) hcs;rw[hcs'];split at h
    case h_2=>cases h
    split at h
    case h_2=>cases h
    split at h
    case h_2=>cases h
    rename_i cs1 e1 _ r0 cs' e2 _ _ r' cs2 e3 e4;cases h;have hnk:R∉((((List.range cs2.length).map (p9 (dedup ((k.args.toList.map ρ).flatMap refsOf)) s.nx)).zip cs2).map (·.1)):=fun hm=>by
     rw[List.map_fst_zip (by simp),List.mem_map]at hm;obtain⟨i,hi,hm⟩:=hm;unfold p9 at hm;split at hm
     ·rename_i hl
      apply hno;rw[←hm];refine List.mem_of_getElem? (i:=i) ?_;rw[List.getD_eq_getElem?_getD,List.getElem?_eq_getElem hl];rfl
     ·omega
    refine⟨(mO _ _ _ hnk).trans hR,Nat.le_add_right _ _,?_⟩;simp only[hqs,e1,e2,e3,e4];rw[xY hnk]
   ·cases h
  ·split at h
   ·rename_i x y t t' ha _
    exact anC hR h
   ·cases h
  ·split at h
   ·rename_i x y t t' ha _
    split at h
    ·split at h
     ·split at h
      ·rename_i es2 hes2
       have hes3:=mR H hes2;rw[hes3];dsimp only
       split at h
       ·rename_i h1
        rw[if_pos h1];split at h
        ·rename_i o sz' i n hx
         split at h
         ·rename_i T sz'' es ho
          have hne:o≠R:=fun e=>by subst e;rw[hR]at ho;cases ho
          rw[H o _ ho];dsimp only
          split at h
          ·rename_i h2
           cases h;rw[if_pos h2];refine⟨(l8 hn').trans ((l8 (Ne.symm hne)).trans hR),by simp,?_⟩;rw[iN (Ne.symm hne),iN hn']
          ·cases h
         ·cases h
        ·split at h
         ·rename_i h2
          rw[if_pos h2];split at h
          ·rename_i h3
           cases h;rw[if_pos h3];exact⟨hR,Nat.le_refl _,rfl⟩
          ·rename_i h3
           cases h;rw[if_neg h3];exact⟨(l8 hn').trans hR,by simp,by dsimp only;rw[iN hn']⟩
         ·cases h
       ·cases h
      ·cases h
     ·cases h
    ·cases h
   ·cases h
  ·cases h
 |_=>simp[bf]at h
end
def rF (P:Program) (Γ:Ctx) (imm:Md) (ops:Array Oper) (o:Oper) (s:AS):Option (PV×Option (bG×Nat)):=
 match gP ops s o with
 |some true=>if eZ Γ imm o then(if mY Γ imm s.nx (look s.tm) o.op then bf P Γ s (look s.tm) o.op else none).map fun r=>(r.1,some r.2)else(aZ P Γ (obq imm o s.ob) (look s.tm) o.type o.op).map fun p=>(p,none)
 |some false=>some (.val undef,none)
 |none=>none
def AS.app (s:AS) (o:Oper) (r:PV×Option (bG×Nat)):AS:=
 match r.2 with
 |some q=>({s with ob:=q.1,nx:=q.2}:AS).put o.dst r.1
 |none=>s.put o.dst r.1
section
variable {P:Program} {Γ:Ctx} {imm:Md} {ops:Array Oper}
theorem qK (o:Oper) (s:AS):pY P Γ imm ops o s=(rF P Γ imm ops o s).map (s.app o):=by
 unfold pY rF atM;cases gP ops s o with
 |none=>rfl
 |some b=>
  cases b
  ·rfl
  ·cases eZ Γ imm o
   ·simp only[Bool.false_eq_true,if_false];cases aZ P Γ (obq imm o s.ob) (look s.tm) o.type o.op<;>rfl
   ·simp only[if_true];cases(if mY Γ imm s.nx (look s.tm) o.op=true then bf P Γ s (look s.tm) o.op else none)<;>rfl
def indep (Γ:Ctx) (imm:Md) (ops:Array Oper) (x y:Oper):Bool:=
 x.apart ops y&& !(eZ Γ imm x&&(eZ Γ imm y||rM imm y))&& !(eZ Γ imm y&&rM imm x)
theorem yE {s:AS} {d:Option Nat} {v:PV} {t:Nat} (h:d≠some t):(s.put d v).tm t=s.tm t:=by
 cases d with
 |none=>rfl
 |some d=>simp only[AS.put];exact upd_ne _ _ _ (fun e=>h (by rw[e]))
theorem adt {s:AS} {o:Oper} {r:PV×Option (bG×Nat)} {t:Nat} (h:o.dst≠some t):(s.app o r).tm t=s.tm t:=by
 unfold AS.app;split
 ·rw[yE h]
 ·rw[yE h]
theorem qz {s:AS} {d:Option Nat} {v:PV}:(s.put d v).ob=s.ob∧(s.put d v).nx=s.nx:=by cases d<;>exact⟨rfl,rfl⟩
theorem acD {s:AS} {x y:Oper} {r:PV×Option (bG×Nat)} (h:∀d,x.dst=some d→d∉y.looksAt ops):gP ops (s.app x r) y=gP ops s y:=by
 unfold gP;cases hg:y.guard with
 |none=>rfl
 |some jw=>
  obtain⟨j,want⟩:=jw;dsimp only
  cases hj:ops[j]? with
  |none=>rfl
  |some oj=>
   dsimp only
   cases hd:oj.dst with
   |none=>rfl
   |some d=>
    dsimp only
    rw[adt (fun e=>h d e (by simp[Oper.looksAt,hg,hj,hd]))]
theorem vQ {s:AS} {x y:Oper} {r:PV×Option (bG×Nat)} (h:∀d,x.dst=some d→d∉y.looksAt ops):∀z∈y.op.operands,look (s.app x r).tm z=look s.tm z:=fun z hz=>
 aj7 fun t ht=>adt fun e=>h t e (by subst ht;exact List.mem_append_left _ (List.mem_filterMap.2 ⟨.tmp t,by simpa using hz,rfl⟩))
theorem vZ {ρ ρ':Operand→PV} (op:Op) (h:∀x∈op.operands,ρ x=ρ' x):touch Γ ρ op=touch Γ ρ' op:=by
 cases op with
 |store t x y=>simp only[touch];rw[h x (by simp[Op.operands])]
 |call c=>
  simp only[touch];have hargs:c.args.toList.map ρ=c.args.toList.map ρ':=List.map_congr_left fun x hx=>h x (by simp[Op.operands,Call.operands];right;simpa using hx);have e:∀τ:Operand→PV,(c.args.toList.flatMap fun x=>refsOf (τ x))=(c.args.toList.map τ).flatMap refsOf:=fun τ=>by rw[List.flatMap_map]
  rw[e,e,hargs]
 |_=>rfl
theorem aFK {s:AS} {x:Oper} {r:PV×Option (bG×Nat)} (hx:rF P Γ imm ops x s=some r) {v:Nat} (hv:imm.V.contains v=true):(s.app x r).ob v=s.ob v:=by
 unfold AS.app;cases hr:r.2 with
 |none=>exact congrFun qz.1 v
 |some q=>
  dsimp only
  rw[qz.1];dsimp only
  unfold rF at hx;split at hx
  ·split at hx
   ·simp only[Option.map_eq_some_iff]at hx
    obtain⟨r0,h0,rfl⟩:=hx;split at h0
    case isFalse=>cases h0
    case isTrue hok=>
    simp only[Option.some.injEq]at hr;subst hr;unfold mY at hok;rw[List.all_eq_true]at hok;have h1:=hok v (by simpa using hv);simp only[Bool.and_eq_true,decide_eq_true_eq,Bool.not_eq_true']at h1;exact ae6 h0 h1.1 h1.2
   ·simp only[Option.map_eq_some_iff]at hx
    obtain⟨p,_,rfl⟩:=hx;cases hr
  ·cases hx;cases hr
  ·cases hx
theorem al7 {s:AS} {x y:Oper} {r:PV×Option (bG×Nat)} (hx:rF P Γ imm ops x s=some r) (h:∀d,x.dst=some d→d∉y.looksAt ops) (he:eZ Γ imm x=true→eZ Γ imm y=false∧rM imm y=false):
 rF P Γ imm ops y (s.app x r)=rF P Γ imm ops y s:=by
 have hob:eZ Γ imm x=true∨((s.app x r).ob=s.ob∧(s.app x r).nx=s.nx):=by
  cases hq:eZ Γ imm x with
  |true=>exact .inl rfl
  |false=>
   right;unfold rF at hx;have hr2:r.2=none:=by
    split at hx
    ·simp only[hq,Bool.false_eq_true,if_false,Option.map_eq_some_iff]at hx
     obtain⟨p,_,rfl⟩:=hx;rfl
    ·cases hx;rfl
    ·cases hx
   unfold AS.app;rw[hr2];exact qz
 unfold rF;rw[acD h];cases gP ops s y with
 |none=>rfl
 |some b=>
  cases b
  ·rfl
  ·dsimp only
   cases hy:eZ Γ imm y with
   |true=>
    simp only[if_true];rcases hob with hob|hob
    ·rw[(he hob).1]at hy;cases hy
    ·have e1:bf P Γ (s.app x r) (look (s.app x r).tm) y.op=bf P Γ (s.app x r) (look s.tm) y.op:=xM y.op (vQ h)
     have e2:bf P Γ (s.app x r) (look s.tm) y.op=bf P Γ s (look s.tm) y.op:=by unfold bf;rw[hob.1,hob.2]
     have e3:mY Γ imm (s.app x r).nx (look (s.app x r).tm) y.op=mY Γ imm s.nx (look s.tm) y.op:=by unfold mY;rw[hob.2,vZ y.op (vQ h)]
     rw[e1,e2,e3]
   |false=>
    simp only[Bool.false_eq_true,if_false];rw[yh y.op (vQ h)];rcases hob with hob|hob
    ·rw[ar9 (he hob).2 (fun v hv=>aFK hx hv) y.type]
    ·rw[hob.1]
theorem put_comm {s:AS} {d e:Option Nat} {u v:PV} (h:∀x,d=some x→e≠some x):(s.put d u).put e v=(s.put e v).put d u:=by
 cases d with
 |none=>rfl
 |some d=>
  cases e with
  |none=>rfl
  |some e=>
   have hne:d≠e:=fun q=>h d rfl (by rw[q]);simp only[AS.put];congr 1;funext t;unfold upd;by_cases h1:t=e
   ·subst h1
    have hn:¬t=d:=fun q=>hne q.symm;simp[hn]
   ·by_cases h2:t=d
    ·subst h2;simp[h1]
    ·simp[h1,h2]
theorem aeG {x y:Oper} (h:indep Γ imm ops x y=true):(∀d,x.dst=some d→d∉y.looksAt ops)∧(∀d,x.dst=some d→y.dst≠some d)∧(∀d,y.dst=some d→d∉x.looksAt ops)∧
 (eZ Γ imm x=true→eZ Γ imm y=false∧rM imm y=false)∧(eZ Γ imm y=true→eZ Γ imm x=false∧rM imm x=false):=by
 unfold indep at h;simp only[Bool.and_eq_true]at h;obtain⟨⟨h1,h2⟩,h3⟩:=h;obtain⟨a1,a2,a3⟩:=Oper.apart_spec h1;refine⟨a1,a2,a3,fun q=>?_,fun q=>?_⟩
 ·cases hy:eZ Γ imm y<;>cases hr:rM imm y<;>simp_all
 ·cases hx:eZ Γ imm x<;>cases hr:rM imm x<;>simp_all
theorem aol {x y:Oper} {s s1 s2:AS} (hi:indep Γ imm ops x y=true) (h1:pY P Γ imm ops x s=some s1) (h2:pY P Γ imm ops y s1=some s2):
 ∃s1',pY P Γ imm ops y s=some s1'∧pY P Γ imm ops x s1'=some s2:=by
 obtain⟨a1,a2,a3,a4,a5⟩:=aeG hi;rw[qK,Option.map_eq_some_iff]at h1 h2;obtain⟨r1,k1,rfl⟩:=h1;obtain⟨r2,k2,rfl⟩:=h2;rw[al7 k1 a1 a4]at k2;refine⟨s.app y r2,by rw[qK,k2];rfl,?_⟩;rw[qK,al7 k2 a3 a5,k1];simp only[Option.map_some,Option.some.injEq];have hx2:eZ Γ imm x=false→r1.2=none:=fun q=>by
  unfold rF at k1;split at k1
  ·simp only[q,Bool.false_eq_true,if_false,Option.map_eq_some_iff]at k1
   obtain⟨p,_,rfl⟩:=k1;rfl
  ·cases k1;rfl
  ·cases k1
 have hy2:eZ Γ imm y=false→r2.2=none:=fun q=>by
  unfold rF at k2;split at k2
  ·simp only[q,Bool.false_eq_true,if_false,Option.map_eq_some_iff]at k2
   obtain⟨p,_,rfl⟩:=k2;rfl
  ·cases k2;rfl
  ·cases k2
 cases hq:eZ Γ imm x with
 |false=>
  have e1:=hx2 hq;unfold AS.app;rw[e1];dsimp only
  cases r2.2 with
  |none=>exact(put_comm a2).symm
  |some q=>
   dsimp only
   have:=put_comm (s:={s with ob:=q.1,nx:=q.2}) (u:=r1.1) (v:=r2.1) a2;rw[←this];cases x.dst<;>rfl
 |true=>
  have e2:=hy2 (a4 hq).1;unfold AS.app;rw[e2];dsimp only
  cases r1.2 with
  |none=>exact(put_comm a2).symm
  |some q=>
   dsimp only
   have:=put_comm (s:={s with ob:=q.1,nx:=q.2}) (u:=r1.1) (v:=r2.1) a2;rw[this];cases y.dst<;>rfl
def eU (Γ:Ctx) (imm:Md) (ops:Array Oper) (i j:Nat):Bool:=
 match ops[i]?,ops[j]? with
 |some x,some y=>indep Γ imm ops x y
 |_,_=>true
theorem dh {i:Nat} {l:List Nat} {s:AS}:evL P Γ imm ops (i::l) s=match ops[i]? with
 |none=>evL P Γ imm ops l s
 |some o=>match pY P Γ imm ops o s with
  |some s'=>evL P Γ imm ops l s'
  |none=>none:=rfl
theorem ao2 {i j:Nat} {l:List Nat} {s s':AS} (hi:eU Γ imm ops i j=true) (h:evL P Γ imm ops (i::j::l) s=some s'):evL P Γ imm ops (j::i::l) s=some s':=by
 unfold eU at hi;cases hx:ops[i]? with
 |none=>simp only[dh,hx]at h⊢;exact h
 |some x=>
  cases hy:ops[j]? with
  |none=>simp only[dh,hx,hy]at h⊢;exact h
  |some y=>
   simp only[hx,hy]at hi;simp only[dh,hx,hy]at h⊢;split at h
   ·rename_i s1 h1
    split at h
    ·rename_i s2 h2
     obtain⟨s1',h3,h4⟩:=aol hi h1 h2;rw[h3];dsimp only
     rw[h4];exact h
    ·cases h
   ·cases h
theorem iV {i:Nat} {q:List Nat} {s':AS}:∀{p:List Nat} {s:AS},(∀x∈p,eU Γ imm ops x i=true)→evL P Γ imm ops (p++i::q) s=some s'→evL P Γ imm ops (i::(p++q)) s=some s'
 |[],s,_,h=>h
 |x::p,s,hp,h=>by
  refine ao2 (hp x (by simp)) ?_;rw[dh];rw[List.cons_append,dh]at h;cases hx:ops[x]? with
  |none=>simp only[hx]at h⊢;exact iV (fun y hy=>hp y (by simp[hy])) h
  |some o=>
   simp only[hx]at h⊢;cases ho:pY P Γ imm ops o s with
   |none=>simp[ho]at h
   |some s1=>simp only[ho]at h⊢;exact iV (fun y hy=>hp y (by simp[hy])) h
def tT (ops:Array Oper):Nat→Nat→Nat→Bool
 |0,_,_=>false
 |f+1,i,j=>match ops[j]? with
  |none=>false
  |some o=>o.after.any (fun e=>Region.binds .any e&&e.on==i)||o.after.any (fun e=>Region.binds .any e&&tT ops f i e.on)
def qY (Γ:Ctx) (imm:Md) (ops:Array Oper):Bool:=
 (List.range ops.size).all fun j=>
   ((List.range j).all fun i=>eU Γ imm ops i j||tT ops ops.size i j)&&
   (match ops[j]? with|some o=>o.after.all (fun e=> !Region.binds .any e||decide (e.on<j))|none=>true)
theorem fG {listed:Array Bool} (hcl:∀j o,ops[j]?=some o→listed.getD j true=true→∀e∈o.after,Region.binds .any e=true→listed.getD e.on false=true):∀(f i j:Nat),tT ops f i j=true→
 (∀o,ops[j]?=some o→∀e∈o.after,Region.binds .any e=true→listed.getD e.on false=true)→listed.getD i false=true
 |0,i,j,h,_=>by simp[tT]at h
 |f+1,i,j,h,hj=>by
  unfold tT at h;split at h
  ·cases h
  ·rename_i o ho
   have h':∃(k:Nat) (hk:k<o.after.size),Region.binds .any o.after[k]=true∧(o.after[k].on=i∨tT ops f i o.after[k].on=true):=by
    rw[Bool.or_eq_true,Array.any_eq_true,Array.any_eq_true]at h;rcases h with⟨k,hk,h⟩|⟨k,hk,h⟩
    ·simp only[Bool.and_eq_true,beq_iff_eq]at h
     exact⟨k,hk,h.1,.inl h.2⟩
    ·simp only[Bool.and_eq_true]at h
     exact⟨k,hk,h.1,.inr h.2⟩
   obtain⟨k,hk,hb,h⟩:=h';have hl:=hj o ho o.after[k] (Array.getElem_mem hk) hb;rcases h with h|h
   ·rw[←h];exact hl
   ·refine fG hcl f i _ h fun o' ho' e' he' hb'=>?_
    have hl':listed.getD (o.after[k]).on true=true:=by
     cases hq:listed[(o.after[k]).on]? with
     |none=>simp[hq]at hl
     |some b=>simp[hq]at hl⊢;exact hl
    exact hcl _ o' ho' hl' e' he' hb'
variable {io:IoS} {w0:World} {N:Nat}
theorem nN (hok:qY Γ imm ops=true):∀j,j<ops.size→(∀i,i<j→eU Γ imm ops i j=true∨tT ops ops.size i j=true)∧∀o,ops[j]?=some o→∀e∈o.after,Region.binds .any e=true→e.on<j:=fun j hj=>by unfold qY at hok;rw[List.all_eq_true]at hok;have h:=hok j (by simpa using hj);simp only[Bool.and_eq_true,List.all_eq_true,List.mem_range,Bool.or_eq_true]at h;refine⟨h.1,fun o ho e he hb=>?_⟩;have h2:=h.2;rw[ho]at h2;dsimp only at h2;have:=(Array.all_eq_true_iff_forall_mem.1 h2) e he;simpa [hb]using this
theorem aoL (hΓ:fJ P Γ io.wr w0) (hio:∀b,io b→b<w0.heap.size) (hd:ops.all (gV N)=true) {X:Nat→Prop} (hfacts:∀j,j<ops.size→(∀i,i<j→X i→X j→eU Γ imm ops i j=true∨tT ops ops.size i j=true)∧∀o,ops[j]?=some o→∀e∈o.after,Region.binds .any e=true→e.on<j) {Q:Exit→Act→World→Prop} {s':AS} (hQ:∀g' a' w',Rel io w0 N g' s' a' w'→Q .normal a' w'):
 ∀(fuel:Nat) (listed:Array Bool) (rem:List Nat) (g:Gh) (s:AS) (a:Act) (w:World),rem.length≤fuel→listed.size=ops.size→(∀i,i∈rem↔i<ops.size∧listed.getD i true=false)→rem.Pairwise (· < ·)→(∀i∈rem,X i)→
  (∀j o,ops[j]?=some o→listed.getD j true=true→∀e∈o.after,Region.binds .any e=true→listed.getD e.on false=true)→
  Rel io w0 N g s a w→evL P Γ imm ops rem s=some s'→wpAny P .any ops Q fuel listed a w:=by
 have hready:∀(listed:Array Bool) (rem:List Nat),(∀i,i∈rem↔i<ops.size∧listed.getD i true=false)→listed.size=ops.size→rem.Pairwise (· < ·)→Region.ready .any ops listed=[]→rem=[]:=by
  intro listed rem hrem hsz hpw hnil;cases rem with
  |nil=>rfl
  |cons i0 q=>
   exfalso;obtain⟨hi1,hi2⟩:=(hrem i0).1 (by simp);have:i0∈Region.ready .any ops listed:=by
    rw[mem_ready];refine⟨hi2,ops[i0],Array.getElem?_eq_getElem hi1,fun e he hb=>?_⟩;have hlt:=(hfacts i0 hi1).2 _ (Array.getElem?_eq_getElem hi1) e he hb;have hnot:¬e.on∈i0::q:=by
     intro hm;rcases List.mem_cons.1 hm with hm|hm
     ·omega
     ·have:=(List.pairwise_cons.1 hpw).1 _ hm
      omega
    rw[hrem]at hnot;have hlt':e.on<listed.size:=by omega
    have:listed.getD e.on true≠false:=fun h0=>hnot ⟨by omega,h0⟩;simp[hlt']at this⊢;exact this
   rw[hnil]at this;cases this
 intro fuel
 induction fuel with
 |zero=>
  intro listed rem g s a w hlen hsz hrem hpw hX hcl h he;have hnil:rem=[]:=List.eq_nil_of_length_eq_zero (by omega);subst hnil;simp only[evL,Option.some.injEq]at he;subst he;refine⟨?_,hQ g a w h⟩;cases hr:Region.ready .any ops listed with
  |nil=>rfl
  |cons i l=>
   have hm:i∈Region.ready .any ops listed:=by rw[hr];simp
   rw[mem_ready]at hm;obtain⟨h1,o,h2,_⟩:=hm;have:=(hrem i).2 ⟨(Array.getElem?_eq_some_iff.1 h2).1,h1⟩;cases this
 |succ fuel ih=>
  intro listed rem g s a w hlen hsz hrem hpw hX hcl h he;refine⟨fun hr=>?_,fun i hi=>?_⟩
  ·have:=hready listed rem hrem hsz hpw hr
   subst this;simp only[evL,Option.some.injEq]at he;subst he;exact hQ g a w h
  ·rw[mem_ready]at hi
   obtain⟨h1,o,h2,h3⟩:=hi;have hilt:=(Array.getElem?_eq_some_iff.1 h2).1;have hmem:=(hrem i).2 ⟨hilt,h1⟩;obtain⟨p,q,rfl⟩:=List.append_of_mem hmem;have hp:∀x∈p,eU Γ imm ops x i=true:=fun x hx=>by
    have hxi:x<i:=by rw[List.pairwise_append]at hpw;exact hpw.2.2 x hx i (by simp)
    rcases((hfacts i hilt).1 x hxi (hX x (by simp[hx])) (hX i (by simp))).symm with ho|ho
    ·exfalso
     have hxl:=fG hcl _ _ _ ho (fun o' ho' e he hb=>by rw[h2]at ho';cases ho';exact h3 e he hb);have:=((hrem x).1 (by simp[hx])).2;have hlt:x<listed.size:=by have:=((hrem x).1 (by simp[hx])).1;omega
     simp[hlt]at this hxl;rw[this]at hxl;cases hxl
    ·exact ho
   have hfr:=iV hp he;rw[dh,h2]at hfr;dsimp only at hfr;split at hfr
   ·rename_i s1 hs1
    have hdo:gV N o=true:=(Array.all_eq_true_iff_forall_mem.1 hd) o (Array.mem_of_getElem? h2);refine adk h hΓ hio hdo hs1 h2 fun g' a' w' hr=>ih _ (p++q) g' s1 a' w' (by simp at hlen⊢;omega) (by simpa using hsz) (fun j=>?_) ?_ (fun y hy=>hX y (by rcases List.mem_append.1 hy with hy|hy<;>simp[hy])) ?_ hr hfr
    ·by_cases hji:j=i
     ·subst hji
      have hnp:j∉p++q:=by
       rw[List.pairwise_append]at hpw;intro hm;rcases List.mem_append.1 hm with hm|hm
       ·have:=hpw.2.2 j hm j (by simp)
        omega
       ·have:=(List.pairwise_cons.1 hpw.2.1).1 j hm
        omega
      constructor
      ·intro hm;exact absurd hm hnp
      ·rintro⟨_,hf⟩
       have hlt:j<listed.size:=by omega
       simp[hlt]at hf
     ·rw[getD_set_ne true (fun e=>hji e.symm),←hrem j]
      simp[hji]
    ·rw[List.pairwise_append]at hpw⊢
     exact⟨hpw.1,(List.pairwise_cons.1 hpw.2.1).2,fun x hx y hy=>hpw.2.2 x hx y (by simp[hy])⟩
    ·intro j o' ho' hl e he hb
     by_cases hji:j=i
     ·subst hji
      rw[h2]at ho';cases ho';exact getD_set_true (h3 e he hb)
     ·rw[getD_set_ne true (fun e=>hji e.symm)]at hl
      exact getD_set_true (hcl j o' ho' hl e he hb)
   ·cases hfr
theorem avP {id:Nat} {Q:Exit→Act→World→Prop} {g:Gh} {s s':AS} {a:Act} {w:World} (hm:P.follows .mixedOrders=true) (h:Rel io w0 N g s a w) (hΓ:fJ P Γ io.wr w0) (hio:∀b,io b→b<w0.heap.size) (hd:ops.all (gV N)=true) (hok:qY Γ imm ops=true)
 (he:iJ P Γ imm ops ops.toList s=some s') (hQ:∀g' a' w',Rel io w0 N g' s' a' w'→Q .normal a' w'):(Code.region id ops true).wp P Q a w:=by
 refine wp_region_any hm ?_;have hdrew:Rel io w0 N g s a {w with drawn:=w.drawn+1}:=⟨h.nt,h.df,fun t=>Rep.mono (w:=w) (w':={w with drawn:=w.drawn+1}) (g:=g) (g':=g) (Gh.le_refl g) (fun _ _ _=>rfl) _ _ (h.tm t),fun o c ho=>by obtain⟨k1,k2,k3,k4⟩:=h.ob o c ho;exact⟨k1,k2,k3,pX.mono (w:=w) (w':={w with drawn:=w.drawn+1}) (g:=g) (g':=g) k4 (Gh.le_refl g) k1 (fun _ _ _=>rfl) rfl⟩,h.inj,h.nx,h.lt,h.new,⟨h.fr.os,h.fr.tape,h.fr.output,h.fr.size,h.fr.block⟩,h.old,h.fix,h.hl,h.tab⟩
 refine aoL hΓ hio hd (X:=fun _=>True) (fun j hj=>⟨fun i hi _ _=>(nN hok j hj).1 i hi,(nN hok j hj).2⟩) hQ ops.size _ (List.range ops.size) g s a _ (by simp) (by simp) (fun i=>?_) List.pairwise_lt_range (fun _ _=>trivial) (fun j o ho hl=>?_) hdrew ?_
 ·simp only[List.mem_range]
  constructor
  ·intro hi;exact⟨hi,by simp[hi]⟩
  ·exact fun hi=>hi.1
 ·have hlt:=(Array.getElem?_eq_some_iff.1 ho).1
  simp[hlt]at hl
 ·have:=an4 (P:=P) (Γ:=Γ) (imm:=imm) (ops:=ops) ops.toList 0 s rfl
  rw[List.range_eq_range'];rw[←he,←this];simp
end
end
end Go.Proofs.YtmmafcjjlbgnkaaGreatDoor
