/- What the proof rests on, part 9: contracts of functions. No condition beyond what each states. -/
import Derived.Test.YtmmafcjjlbgnkaaGreatDoorZBiE8
namespace Go.Proofs.YtmmafcjjlbgnkaaGreatDoor
open Go.RowKit
open Nat renaming reduceEqDiff→Rq,reduceBEq→Rb,reduceAdd→Ra,reduceSub→Rs
open Int renaming reduceToNat→Rt
set_option linter.all false
set_option maxHeartbeats 32000000
noncomputable section
def iT (p:ByteArray):Nat→ByteArray×List Int×Int
 |0=>(⟨#[]⟩,[],0)
 |k+1=>if aek (at8 p k)=true then((iT p k).1,(iT p k).2.1,at8 p k-48)else((iT p k).1++p.extract k (k+1),(iT p k).2.1++[(iT p k).2.2],0)
def dG (p:ByteArray):ByteArray:=(iT p p.size).1
def eP (p:ByteArray):List Int:=(iT p p.size).2.1++[(iT p p.size).2.2]
theorem vK {p:ByteArray} {k:Nat} (h:aek (at8 p k)=true):iT p (k+1)=((iT p k).1,(iT p k).2.1,at8 p k-48):=by rw[iT,if_pos h]
theorem vE {p:ByteArray} {k:Nat} (h:aek (at8 p k)=false):iT p (k+1)=((iT p k).1++p.extract k (k+1),(iT p k).2.1++[(iT p k).2.2],0):=by rw[iT,if_neg (by rw[h];decide)]
theorem qE (p:ByteArray):∀k,k≤p.size→(iT p k).1.size=(iT p k).2.1.length∧(iT p k).1.size≤k∧(0≤(iT p k).2.2∧(iT p k).2.2≤9)∧∀x∈(iT p k).2.1,0≤x∧x≤9
 |0,_=>⟨rfl,Nat.le_refl _,⟨Int.le_refl _,by show(0:Int)≤9;omega⟩,by simp[iT]⟩
 |k+1,hk=>by
  obtain⟨h1,h2,h3,h4⟩:=qE p k (by omega);cases hd:aek (at8 p k)with
  |true=>rw[vK hd];have:=aD.1 hd;exact⟨h1,by dsimp only;omega,by dsimp only;omega,h4⟩
  |false=>
   rw[vE hd];refine⟨?_,?_,⟨Int.le_refl _,by show(0:Int)≤9;omega⟩,fun x hx=>?_⟩
   ·dsimp only
    rw[ByteArray.size_append,ByteArray.size_extract,List.length_append,List.length_singleton];omega
   ·dsimp only
    rw[ByteArray.size_append,ByteArray.size_extract];omega
   ·rcases List.mem_append.1 hx with hx|hx
    ·exact h4 x hx
    ·rw[List.mem_singleton.1 hx]
     exact h3
theorem pF (p:ByteArray):(eP p).length=(dG p).size+1∧(dG p).size≤p.size∧∀k:Nat,0≤(eP p)[k]?.getD 0∧(eP p)[k]?.getD 0≤9:=by
 obtain⟨h1,h2,h3,h4⟩:=qE p p.size (Nat.le_refl _);refine⟨by unfold eP dG;rw[List.length_append,List.length_singleton];omega,h2,fun k=>?_⟩;by_cases hk:k<(eP p).length
 ·rw[List.getElem?_eq_getElem hk,Option.getD_some]
  have hm:(eP p)[k]∈eP p:=List.getElem_mem hk;rcases List.mem_append.1 hm with hm|hm
  ·exact h4 _ hm
  ·rw[List.mem_singleton.1 hm];exact h3
 ·rw[List.getElem?_eq_none (by omega)]
  decide
def aed (sz a j:Nat) (lv o:List Int):List Int:=if 1≤a+j∧a+j≤sz+1 then o.set (a+j-1) (if lv[j]?.getD 0>o[a+j-1]?.getD 0 then lv[j]?.getD 0 else o[a+j-1]?.getD 0)else o
def lvJ (sz a:Nat) (lv o:List Int):Nat→List Int
 |0=>o
 |j+1=>aed sz a j lv (lvJ sz a lv o j)
open Classical in
noncomputable def lvA (d:ByteArray) (sz:Nat) (lt:ByteArray) (lv o:List Int):Nat→List Int
 |0=>o
 |a+1=>if d.extract a (a+lt.size)=lt then lvJ sz a lv (lvA d sz lt lv o a) lv.length else lvA d sz lt lv o a
def au9 (w:ByteArray):ByteArray:=(⟨#[46]⟩++w)++⟨#[46]⟩
theorem aco (w:ByteArray):(au9 w).size=w.size+2:=by unfold au9;rw[ByteArray.size_append,ByteArray.size_append,show(⟨#[46]⟩:ByteArray).size=1 from rfl];omega
def lvP (w:ByteArray) (pats:LS):Nat→List Int
 |0=>List.replicate (w.size+1) 0
 |k+1=>lvA (au9 w) w.size (dG (pats[k]?.getD .empty)) (eP (pats[k]?.getD .empty)) (lvP w pats k) (w.size+3-(dG (pats[k]?.getD .empty)).size)
def iZ (w:ByteArray) (pats:LS):List Int:=lvP w pats pats.length
def aje (sz:Nat) (o:List Int):Prop:=o.length=sz+1∧∀k:Nat,0≤o[k]?.getD 0∧o[k]?.getD 0≤9
theorem aje.set {sz a j:Nat} {lv o:List Int} (h:aje sz o) (hl:∀k:Nat,0≤lv[k]?.getD 0∧lv[k]?.getD 0≤9):aje sz (aed sz a j lv o):=by
 unfold aed;split
 ·rename_i hc
  refine⟨by rw[List.length_set];exact h.1,fun k=>?_⟩;have h1:=h.2 (a+j-1);have h2:=hl j;have h3:=h.2 k;have h4:=h.1;by_cases hk:a+j-1=k
  ·subst hk
   rw[List.getElem?_set_self (by omega),Option.getD_some];split<;>omega
  ·rw[List.getElem?_set_ne hk]
   exact h3
 ·exact h
theorem aje.lvJ {sz a:Nat} {lv o:List Int} (h:aje sz o) (hl:∀k:Nat,0≤lv[k]?.getD 0∧lv[k]?.getD 0≤9):∀j,aje sz (lvJ sz a lv o j)
 |0=>h
 |j+1=>(aje.lvJ h hl j).set hl
theorem aje.lvA {d lt:ByteArray} {sz:Nat} {lv o:List Int} (h:aje sz o) (hl:∀k:Nat,0≤lv[k]?.getD 0∧lv[k]?.getD 0≤9):∀a,aje sz (lvA d sz lt lv o a)
 |0=>h
 |a+1=>by
  unfold Go.Proofs.YtmmafcjjlbgnkaaGreatDoor.lvA;split
  ·exact(aje.lvA h hl a).lvJ hl _
  ·exact aje.lvA h hl a
theorem ac0 (w:ByteArray) (pats:LS):∀k,aje w.size (lvP w pats k)
 |0=>⟨by simp[lvP],fun k=>by unfold lvP;rw[List.getElem?_replicate];split<;>decide⟩
 |k+1=>(ac0 w pats k).lvA (pF _).2.2 _
def plB (sz:Nat) (lv:List Int) (k:Nat):Bool:=decide (2≤k∧k+3≤sz∧lv[k]?.getD 0 % 2=1)
def plK (sz:Nat) (lv:List Int) (k:Nat):List Int:=((List.range k).filter (plB sz lv)).map fun k:Nat=>(k:Int)
theorem aeH {sz:Nat} {lv:List Int} {k:Nat} (h:plB sz lv k=true):plK sz lv (k+1)=plK sz lv k++[(k:Int)]:=by simp[plK,List.range_succ,List.filter_append,h]
theorem z8 {sz:Nat} {lv:List Int} {k:Nat} (h:plB sz lv k=false):plK sz lv (k+1)=plK sz lv k:=by simp[plK,List.range_succ,List.filter_append,h]
theorem avT {sz:Nat} {lv:List Int}:plK sz lv 2=[]:=by rw[z8 (by simp[plB]),z8 (by simp[plB])];rfl
theorem agd {sz:Nat} {lv:List Int} {k:Nat} (h:sz<k+3):∀n,plK sz lv (k+n)=plK sz lv k
 |0=>rfl
 |n+1=>by rw[←Nat.add_assoc,z8 (by simp[plB];omega),agd h n]
theorem arO {sz:Nat} {lv:List Int} {k:Nat} (h:sz<5):plK sz lv k=[]:=by unfold plK;rw[List.filter_eq_nil_iff.2 fun x _=>by simp[plB];omega];rfl
def lM (w:ByteArray) (pats:LS):List Int:=plK w.size (iZ w pats) (w.size+1)
theorem amm {sz:Nat} {lv:List Int} {k:Nat}:∀x∈plK sz lv k,2≤x∧x+3≤sz∧x<k:=fun x hx=>by obtain⟨n,hn,rfl⟩:=List.mem_map.1 hx;obtain⟨h1,h2⟩:=List.mem_filter.1 hn;have h3:=List.mem_range.1 h1;have h4:=of_decide_eq_true h2;omega
theorem aeB (sz:Nat) (lv:List Int):∀k,(plK sz lv k).Pairwise (· < ·)
 |0=>List.Pairwise.nil
 |k+1=>by
  cases h:plB sz lv k with
  |true=>rw[aeH h,List.pairwise_append];refine⟨aeB sz lv k,List.pairwise_singleton _ _,fun a ha b hb=>?_⟩;rw[List.mem_singleton.1 hb];exact(amm a ha).2.2
  |false=>rw[z8 h];exact aeB sz lv k
theorem amw (sz:Nat) (lv:List Int) (k:Nat):(plK sz lv k).length≤k:=by unfold plK;rw[List.length_map];exact Nat.le_trans (List.length_filter_le _ _) (by simp)
def frK (pl:List Int) (k:Nat):Int:=if k=0 then 0 else pl[k-1]?.getD 0
def ptF (w:ByteArray) (pl:List Int):Nat→LS
 |0=>[]
 |k+1=>ptF w pl k++[w.extract (frK pl k).toNat (pl[k]?.getD 0).toNat]
def ptR (w:ByteArray) (pl:List Int):LS:=ptF w pl pl.length++[w.extract (frK pl pl.length).toNat w.size]
def acv (w:ByteArray) (pats:LS):LS:=ptR w (lM w pats)
theorem abX (w:ByteArray) (pl:List Int):∀k,(ptF w pl k).length=k
 |0=>rfl
 |k+1=>by rw[ptF,List.length_append,abX w pl k];rfl
def azh (w:ByteArray) (pl:List Int):Prop:=pl.length≤20∧∀k,k<pl.length→frK pl k<pl[k]?.getD 0∧pl[k]?.getD 0<w.size
theorem vR (pl:List Int) (k:Nat):frK pl (k+1)=pl[k]?.getD 0:=by unfold frK;rw[if_neg (by omega)];rfl
theorem o7 {w:ByteArray} {pl:List Int} (h:azh w pl) (hw:1≤w.size):∀k,k≤pl.length→0≤frK pl k∧frK pl k<w.size
 |0,_=>by simp[frK];omega
 |k+1,hk=>by have h1:=o7 h hw k (by omega);have h2:=h.2 k (by omega);rw[vR];omega
theorem nH {w:ByteArray} {pats:LS} (hw:bY w=true):azh w (lM w pats):=by
 obtain⟨-,w1,w2⟩:=aG hw;have ha:=aeB w.size (iZ w pats) (w.size+1);have hm:=@amm w.size (iZ w pats) (w.size+1);refine⟨?_,fun k hk=>?_⟩
 ·unfold lM plK
  rw[List.length_map];have:((List.range (w.size+1)).filter (plB w.size (iZ w pats))).length≤((List.range (w.size+1)).filter (fun k=>decide (k<w.size))).length:=by rw[←List.countP_eq_length_filter,←List.countP_eq_length_filter];refine List.countP_mono_left fun x _ hx=>?_;have:=of_decide_eq_true hx;exact decide_eq_true (by omega)
  have h2:((List.range (w.size+1)).filter (fun k=>decide (k<w.size))).length≤w.size:=by rw[List.range_succ,List.filter_append];have h3:=List.length_filter_le (fun k=>decide (k<w.size)) (List.range w.size);rw[List.length_range]at h3;simp;omega
  omega
 ·unfold lM at hk⊢
  generalize plK w.size (iZ w pats) (w.size+1)=pl at*;rw[List.getElem?_eq_getElem hk,Option.getD_some];have h1:=hm _ (List.getElem_mem hk);refine⟨?_,by omega⟩;unfold frK;split
  ·omega
  ·rename_i h0
   rw[List.getElem?_eq_getElem (show k-1<pl.length by omega),Option.getD_some];exact List.pairwise_iff_getElem.1 ha (k-1) k (by omega) hk (by omega)
theorem ade {w:ByteArray} {a b:Nat} (hw:bY w=true) (h1:a<b) (h2:b≤w.size):bY (w.extract a b)=true:=by
 obtain⟨l1,l2,l3⟩:=aG hw;have hs:(w.extract a b).size=b-a:=by rw[ByteArray.size_extract];omega
 rw[yK fun j hj=>?_,hs]
 ·exact aD.2 ⟨by omega,by omega⟩
 ·rw[amW (by omega) h2]
  exact l1 _ (by omega)
theorem ahq {w:ByteArray} {pl:List Int} (hw:bY w=true) (h:azh w pl):∀k,k≤pl.length→∀x∈ptF w pl k,bY x=true
 |0,_=>by simp[ptF]
 |k+1,hk=>fun x hx=>by
  rw[ptF]at hx;rcases List.mem_append.1 hx with hx|hx
  ·exact ahq hw h k (by omega) x hx
  ·rw[List.mem_singleton.1 hx]
   have h1:=h.2 k (by omega);have h2:=o7 h (aG hw).2.1 k (by omega);exact ade hw (by omega) (by omega)
theorem ark {w:ByteArray} {pl:List Int} (hw:bY w=true) (h:azh w pl):∀x∈ptR w pl,bY x=true:=fun x hx=>by
 rcases List.mem_append.1 hx with hx|hx
 ·exact ahq hw h _ (Nat.le_refl _) x hx
 ·rw[List.mem_singleton.1 hx]
  have h2:=o7 h (aG hw).2.1 _ (Nat.le_refl _);exact ade hw (by omega) (Nat.le_refl _)
theorem al9 (w:ByteArray) (pl:List Int):(ptR w pl).length=pl.length+1:=by unfold ptR;rw[List.length_append,abX];rfl
def aa0 (l:LS):List UInt8:=l.flatMap fun s=>s.data.toList
theorem agP (l l':LS):aa0 (l++l')=aa0 l++aa0 l':=by simp[aa0]
theorem ext_list (w:ByteArray) (a b:Nat):(w.extract a b).data.toList=(w.data.toList.take b).drop a:=by rw[ByteArray.data_extract,Array.toList_extract,List.extract_eq_drop_take,List.drop_take]
theorem ald {w:ByteArray} {pl:List Int} (h:azh w pl) (hw:1≤w.size):∀k,k≤pl.length→aa0 (ptF w pl k)=w.data.toList.take (frK pl k).toNat
 |0,_=>by simp[ptF,aa0,frK]
 |k+1,hk=>by
  have h1:=h.2 k (by omega);have h2:=o7 h hw k (by omega);rw[ptF,agP,ald h hw k (by omega),vR];show _++aa0 [_]=_;rw[show aa0 [w.extract (frK pl k).toNat (pl[k]?.getD 0).toNat]=(w.extract (frK pl k).toNat (pl[k]?.getD 0).toNat).data.toList by simp[aa0],ext_list];have e:w.data.toList.take (frK pl k).toNat=(w.data.toList.take (pl[k]?.getD 0).toNat).take (frK pl k).toNat:=by rw[List.take_take,Nat.min_eq_left (by omega)]
  rw[e,List.take_append_drop]
theorem ayv {w:ByteArray} {pl:List Int} (h:azh w pl) (hw:1≤w.size):aa0 (ptR w pl)=w.data.toList:=by have h2:=o7 h hw _ (Nat.le_refl _);unfold ptR;rw[agP,ald h hw _ (Nat.le_refl _),show aa0 [w.extract (frK pl pl.length).toNat w.size]=(w.extract (frK pl pl.length).toNat w.size).data.toList by simp[aa0],ext_list];have e:w.data.toList.take w.size=w.data.toList:=List.take_of_length_le (by rw[Array.length_toList];exact Nat.le_refl _);rw[e,List.take_append_drop]
abbrev pvS (s:ByteArray):PV:=.val (.string s)
def φSg:Fun:=F1 dS fun s=>if bY s=true then some (.lst true 1 ((signs s).map fun s=> .val (.string s)))else none
theorem ay5 {s:ByteArray} (h:bY s=true):φSg [.val (.string s)]=some (.lst true 1 ((signs s).map fun s=> .val (.string s))):=(dY (A:=dS) s).trans (if_pos h)
def agk (s:ByteArray):LS:=if bY s=true then signs s else []
def apI:Fun:=F1 dS fun s=>if s.size≤1048576 then some (.lst true 1 ((agk s).map fun s=> .val (.string s)))else none
theorem arU {s:ByteArray} (h:s.size≤1048576):apI [.val (.string s)]=some (.lst true 1 ((agk s).map fun s=> .val (.string s))):=(dY (A:=dS) s).trans (if_pos h)
def GSg:Ctx:={fn:=aT [(212,abT)],io:=aT []}
theorem azB:au Tryz.prog GSg:=okΓ (fC Tryz.func212 acF aj) aj
def awd:=ah (Γ:=GSg) (f:=212) (φ:=abT) rfl
theorem alL:Sound Tryz.prog 172 φSg:=by
 refine ak mixed azB Tryz.func172 rfl 38 rfl [.tmp 2] rfl (by kernel_rfl) fun ps r hr=>?_;obtain⟨s,rfl,hpre,rfl⟩:=je hr;refine⟨by simp,?_⟩;simp only[dIs,dUs,dSs,bP,bS,bQ,bT,aP,bR,aQ,aO,aR,aL];obtain⟨-,hs1,hs2⟩:=aG hpre;have hsg1:=(ru hpre).2.1;have apj:=fun i=>ajx (iM s i) (iM s (i+1));have hI0:[]++sgF s s.size 0=signs s:=rfl;replace hI0:=Lib.hid hI0;generalize signs s=R at*;clear hpre;have gsg_c212:=awd;(refine wlk ?_;intros);refine aB (α:=Nat×Nat×LS×Nat×Nat) mixed (fun z=>[(0,.val (.string s)),(3,nP 1 (z.2.2.1.map pvS) z.2.2.2.1),(4,iv z.2.1)])
  (fun z=>nO 9 1 (z.2.2.1.map pvS) z.2.2.2.1) (fun z=>z.2.2.2.2)
  (fun z=>z.2.2.1++sgF s z.1 z.2.1=R∧s.size≤z.2.1+z.1∧z.2.1≤s.size∧z.2.2.1.length≤z.2.1∧(0<z.2.2.1.length→z.2.2.2.1<z.2.2.2.2)) (fun z=>z.1) (by kernel_rfl) (s.size,0,[],0,0) ⟨hI0.out,by simp,by simp,by simp,by simp⟩ ?_ ?_ rfl ?_
 ·exact agr
 ·exact agr
 rintro⟨f,i,out,x,y⟩ ⟨hI,hf,hi,ho,hxy⟩;dsimp only at hI hf hi ho hxy;clear hI0;by_cases h0:i<s.size
 ·cases f with
  |zero=>omega
  |succ f=>
  rw[vT h0]at hI;have hI2:(out++[s.extract i (i+sgN s i)])++sgF s f (i+sgN s i)=R:=by rw[List.append_assoc];exact hI
  clear hI;replace apj:=apj i;by_cases hj:i+1<s.size∧tF (at8 s i) (at8 s (i+1))=true
  ·have hn:sgN s i=2:=if_pos hj
   rw[hn]at hI2;replace hI2:=Lib.hid hI2;obtain⟨hj1,hj2⟩:=hj;rw[hj2]at apj;have e3:((i:Int)+2).toNat=i+2:=by omega
   clear hn;by_cases hz:out.length=0
   ·obtain rfl:out=[]:=List.eq_nil_of_length_eq_zero hz
    (refine wlk ?_;intros);refine⟨(f,i+2,[]++[s.extract i (i+2)],y+1,y+2),⟨hI2.out,by dsimp only;omega,by dsimp only;omega,by simp,fun _=>by dsimp only;omega⟩,by dsimp only;omega,?_,?_,rfl⟩
    ·exact agi
    ·exact agr
   ·have hxy:=hxy (by omega)
    have hap:0<(out.map pvS).length:=by rw[List.length_map];omega
    clear hz;have hap3:0<((out++[s.extract i (i+2)]).map pvS).length:=by simp
    simp only[av hap,ay hap,List.length_map];(refine wlk ?_;intros);refine⟨(f,i+2,out++[s.extract i (i+2)],y+1,y+2),⟨hI2.out,by dsimp only;omega,by dsimp only;omega,by simp;omega,fun _=>by dsimp only;omega⟩,by dsimp only;omega,?_,?_,rfl⟩
    ·simp(disch:=(first|omega|(simp only[push_cast];first|done|omega))) only[push_cast,↓reduceIte,Rq,Rb,Ra,Rs,Rt,av hap3,List.length_append, *]
     try exact congrArg (fun z=>PV.val (Value.int IntKind.i64 z)) (by omega)
    ·simp(disch:=(first|omega|(simp only[push_cast];first|done|omega))) only[push_cast,↓reduceIte,Rq,Rb,Ra,Rs,Rt,ay hap3, *]
  ·have hn:sgN s i=1:=if_neg hj
   rw[hn]at hI2;replace hI2:=Lib.hid hI2;clear hn;have hj3:i+1<s.size→tF (at8 s i) (at8 s (i+1))=false:=fun h=>by
    cases hq:tF (at8 s i) (at8 s (i+1))with
    |false=>rfl
    |true=>exact absurd ⟨h,hq⟩ hj
   clear hj;by_cases hz:out.length=0
   ·obtain rfl:out=[]:=List.eq_nil_of_length_eq_zero hz
    by_cases h1:i+1<s.size
    ·rw[hj3 h1]at apj
     clear hj3;(refine wlk ?_;intros);refine⟨(f,i+1,[]++[s.extract i (i+1)],y+1,y+2),⟨hI2.out,by dsimp only;omega,by dsimp only;omega,by simp,fun _=>by dsimp only;omega⟩,by dsimp only;omega,?_,?_,rfl⟩
     ·exact agr
     ·exact agr
    ·clear hj3
     (refine wlk ?_;intros);refine⟨(f,i+1,[]++[s.extract i (i+1)],y+1,y+2),⟨hI2.out,by dsimp only;omega,by dsimp only;omega,by simp,fun _=>by dsimp only;omega⟩,by dsimp only;omega,?_,?_,rfl⟩
     ·exact agr
     ·exact agr
   ·have hxy:=hxy (by omega)
    have hap:0<(out.map pvS).length:=by rw[List.length_map];omega
    clear hz;have hap3:0<((out++[s.extract i (i+1)]).map pvS).length:=by simp
    simp only[av hap,ay hap,List.length_map];by_cases h1:i+1<s.size
    ·rw[hj3 h1]at apj
     clear hj3;(refine wlk ?_;intros);refine⟨(f,i+1,out++[s.extract i (i+1)],y+1,y+2),⟨hI2.out,by dsimp only;omega,by dsimp only;omega,by simp;omega,fun _=>by dsimp only;omega⟩,by dsimp only;omega,?_,?_,rfl⟩
     ·simp(disch:=(first|omega|(simp only[push_cast];first|done|omega))) only[push_cast,↓reduceIte,Rq,Rb,Ra,Rs,Rt,av hap3,List.length_append, *]
      try exact congrArg (fun z=>PV.val (Value.int IntKind.i64 z)) (by omega)
     ·simp(disch:=(first|omega|(simp only[push_cast];first|done|omega))) only[push_cast,↓reduceIte,Rq,Rb,Ra,Rs,Rt,ay hap3, *]
    ·clear hj3
     (refine wlk ?_;intros);refine⟨(f,i+1,out++[s.extract i (i+1)],y+1,y+2),⟨hI2.out,by dsimp only;omega,by dsimp only;omega,by simp;omega,fun _=>by dsimp only;omega⟩,by dsimp only;omega,?_,?_,rfl⟩
     ·simp(disch:=(first|omega|(simp only[push_cast];first|done|omega))) only[push_cast,↓reduceIte,Rq,Rb,Ra,Rs,Rt,av hap3,List.length_append, *]
      try exact congrArg (fun z=>PV.val (Value.int IntKind.i64 z)) (by omega)
     ·simp(disch:=(first|omega|(simp only[push_cast];first|done|omega))) only[push_cast,↓reduceIte,Rq,Rb,Ra,Rs,Rt,ay hap3, *]
 ·rw[afC (by omega),List.append_nil]at hI
  subst hI;have hxy:=hxy (by omega);have hap:0<(out.map pvS).length:=by rw[List.length_map];omega
  simp only[av hap,ay hap,List.length_map];clear apj;exact wlkF
def aFZ:Ctx:={fn:=aT [(238,aaA),(68,fu)],io:=aT []}
theorem ay4:au Tryz.prog aFZ:=okΓ (fC Tryz.func238 acI (fC Tryz.func68 eG aj)) aj
def afT:=ah (Γ:=aFZ) (f:=238) (φ:=aaA) rfl
def amY:=ah (Γ:=aFZ) (f:=68) (φ:=fu) rfl
theorem aob:Sound Tryz.prog 218 apI:=by
 refine ak mixed ay4 Tryz.func218 rfl 50 rfl [.tmp 2] rfl (by kernel_rfl) fun ps r hr=>?_;obtain⟨s,rfl,hpre,rfl⟩:=je hr;refine⟨by simp,?_⟩;simp only[dIs,dUs,dSs,bP,bS,bQ,bT,aP,bR,aQ,aO,aR,aL];have apw:=fV (s:=s) (by omega);unfold agk;cases hw:bY s with
 |false=>
  rw[hw]at apw;rw[if_neg (by decide)];clear hw;have gsgs_c238:=afT;have gsgs_c68:=amY;(refine wlk ?_;intros);refine aB (α:=Unit) mixed (fun z=>[(0,.val (.string s)),(3,.row 0 1 0 0),(4,iv 0)]) (fun z=>[(0,9,1,[])]) (fun z=>1) (fun _=>True) (fun _=>0) (by kernel_rfl) () trivial ?_ ?_ rfl ?_
  ·exact agr
  ·exact agr
  rintro⟨⟩-;exact wlkF
 |true=>
  rw[hw]at apw;rw[if_pos rfl];obtain⟨-,hs1,hs2⟩:=aG hw;have apj:=fun i=>aiz (at8 s i) (at8 s (i+1));have hI0:[]++sgF s s.size 0=signs s:=rfl;replace hI0:=Lib.hid hI0;generalize signs s=R at*;clear hpre hw;have gsgs_c238:=afT;have gsgs_c68:=amY;(refine wlk ?_;intros);refine aB (α:=Nat×Nat×LS×Nat×Nat) mixed (fun z=>[(0,.val (.string s)),(3,.row z.2.2.2.1 1 0 z.2.2.1.length),(4,iv z.2.1)])
   (fun z=>[(z.2.2.2.1,9,1,z.2.2.1.map pvS)]) (fun z=>z.2.2.2.2)
   (fun z=>z.2.2.1++sgF s z.1 z.2.1=R∧s.size≤z.2.1+z.1∧z.2.1≤s.size∧z.2.2.1.length≤z.2.1∧z.2.2.2.1<z.2.2.2.2) (fun z=>z.1) (by kernel_rfl) (s.size,0,[],0,1) ⟨hI0.out,by simp,by simp,by simp,by simp⟩ ?_ ?_ rfl ?_
  ·exact agr
  ·exact agr
  rintro⟨f,i,out,x,y⟩ ⟨hI,hf,hi,ho,hxy⟩;dsimp only at hI hf hi ho hxy;clear hI0;by_cases h0:i<s.size
  ·cases f with
   |zero=>omega
   |succ f=>
   rw[vT h0]at hI;have hI2:(out++[s.extract i (i+sgN s i)])++sgF s f (i+sgN s i)=R:=by rw[List.append_assoc];exact hI
   clear hI;replace apj:=apj i;by_cases hj:i+1<s.size∧tF (at8 s i) (at8 s (i+1))=true
   ·have hn:sgN s i=2:=if_pos hj
    rw[hn]at hI2;replace hI2:=Lib.hid hI2;obtain⟨hj1,hj2⟩:=hj;rw[hj2]at apj;have e3:((i:Int)+2).toNat=i+2:=by omega
    clear hn;(refine wlk ?_;intros);refine⟨(f,i+2,out++[s.extract i (i+2)],y+1,y+2),⟨hI2.out,by dsimp only;omega,by dsimp only;omega,by simp;omega,by dsimp only;omega⟩,by dsimp only;omega,?_,?_,rfl⟩
    ·exact agi
    ·exact agr
   ·have hn:sgN s i=1:=if_neg hj
    rw[hn]at hI2;replace hI2:=Lib.hid hI2;clear hn;have hj3:i+1<s.size→tF (at8 s i) (at8 s (i+1))=false:=fun h=>by
     cases hq:tF (at8 s i) (at8 s (i+1))with
     |false=>rfl
     |true=>exact absurd ⟨h,hq⟩ hj
    clear hj;by_cases h1:i+1<s.size
    ·rw[hj3 h1]at apj
     clear hj3;(refine wlk ?_;intros);refine⟨(f,i+1,out++[s.extract i (i+1)],y+1,y+2),⟨hI2.out,by dsimp only;omega,by dsimp only;omega,by simp;omega,by dsimp only;omega⟩,by dsimp only;omega,?_,?_,rfl⟩
     ·exact agr
     ·exact agr
    ·clear hj3
     (refine wlk ?_;intros);refine⟨(f,i+1,out++[s.extract i (i+1)],y+1,y+2),⟨hI2.out,by dsimp only;omega,by dsimp only;omega,by simp;omega,by dsimp only;omega⟩,by dsimp only;omega,?_,?_,rfl⟩
     ·exact agr
     ·exact agr
  ·rw[afC (by omega),List.append_nil]at hI
   subst hI;clear apj;exact wlkF
def φWw:Fun:=F1 dS fun s=>if s.size≤1048576 then some (iv (pV s))else none
theorem afb {s:ByteArray} (h:s.size≤1048576):φWw [.val (.string s)]=some (.val (.int .i64 (pV s))):=(dY (A:=dS) s).trans (if_pos h)
def aD3:Ctx:={fn:=aT [(81,fu),(172,φSg),(173,abj),(174,abE)],io:=aT []}
theorem ay3:au Tryz.prog aD3:=okΓ (fC Tryz.func81 d9 (fC Tryz.func172 alL (fC Tryz.func173 aew (fC Tryz.func174 aeT aj)))) aj
def amz:=ah (Γ:=aD3) (f:=81) (φ:=fu) rfl
def aio:=ah (Γ:=aD3) (f:=172) (φ:=φSg) rfl
def ahQ:=ah (Γ:=aD3) (f:=173) (φ:=abj) rfl
def agO:=ah (Γ:=aD3) (f:=174) (φ:=abE) rfl
theorem alP:Sound Tryz.prog 121 φWw:=by
 refine ak mixed ay3 Tryz.func121 rfl 58 rfl [.tmp 2] rfl (by kernel_rfl) fun ps r hr=>?_;obtain⟨s,rfl,hpre,rfl⟩:=je hr;refine⟨by simp,?_⟩;simp only[dIs,dUs,dSs,bP,bS,bQ,bT,aP,bR,aQ,aO,aR,aL];have apw:=fV (s:=s) (by omega);unfold pV;cases hw:bY s with
 |false=>rw[hw]at apw;rw[if_neg (by decide)];clear hw;have gwwi_c81:=amz;have gwwi_c172:=aio;have gwwi_c173:=ahQ;have gwwi_c174:=agO;exact wlkF
 |true=>
  rw[hw]at apw;rw[if_pos rfl];have aps:=ay5 hw;have hat:=fun k hk=>aas hw (k:=k) hk;have hlen:=(ru hw).2;have hrg:=aay hat;generalize signs s=g at*;clear hw hpre;have gwwi_c81:=amz;have gwwi_c172:=aio;have gwwi_c173:=ahQ;have gwwi_c174:=agO;(refine wlk ?_;intros);refine aB (α:=Nat) mixed (fun k=>[(3,iv (wdK g k)),(4,.lst true 1 (g.map pvS)),(13,.lst true 1 (g.map pvS)),(14,iv g.length),(15,iv k)]) (fun _=>[]) (fun _=>0)
   (fun k=>k≤g.length) (fun k=>g.length-k) (by kernel_rfl) 0 (Nat.zero_le _) ?_ ?_ rfl ?_
  ·simp only[push_cast,↓reduceIte,Rq,Rb,Ra,Rs,Rt,wdK]
  ·exact agr
  intro k hk;have hrk:=hrg k hk;by_cases hkl:k<g.length
  ·have hsg:=hat k hkl
   have hnx:=fun h=>hat (k+1) h;have hfl:=ahb hsg;have hsn:wdK g (k+1)=wdK g k+sgW (g[k]?.getD .empty) (g[k]?.getD .empty).size-((g[k]?.getD .empty).size-1)-abH g k:=rfl;have hne:abH g k=if k+1<g.length then qh (at8 (g[k]?.getD .empty) ((g[k]?.getD .empty).size-1)) (at8 (g[k+1]?.getD .empty) 0)else 0:=rfl;replace hsn:=Lib.hid hsn;replace hne:=Lib.hid hne;clear hat hrg;generalize hx9:g[k]?.getD ByteArray.empty=x at*;obtain⟨hx1,hx2,-⟩:=hsg;generalize hw9:wdK g k=w9 at*;(refine wlk ?_;intros);refine aB (α:=Nat) mixed (fun j=>[(3,iv (w9+sgW x j)),(4,.lst true 1 (g.map pvS)),(13,.lst true 1 (g.map pvS)),(14,iv g.length),(15,iv k),(5,iv k),(6,.val (.string x)),(21,iv x.size),(22,iv j)]) (fun _=>[]) (fun _=>0)
    (fun j=>j≤x.size) (fun j=>x.size-j) (by kernel_rfl) 0 (Nat.zero_le _) ?_ ?_ rfl ?_
   ·simp(disch:=(first|omega|(simp only[push_cast];first|done|omega))) only[push_cast,↓reduceIte,Rq,Rb,Ra,Rs,Rt,sgW,Int.add_zero, *]
   ·exact agr
   intro j hj;have hfj:=hfl j hj;have apl:=ajA (iM x j);have hlw:=aaD (at8 x j);have hsj:sgW x (j+1)=sgW x j+adU (at8 x j):=rfl;replace hsj:=Lib.hid hsj;by_cases hjl:j<x.size
   ·clear hfl hnx
    generalize adU (at8 x j)=lw at*;(refine wlk ?_;intros);refine⟨j+1,by omega,by dsimp only;omega,?_,?_,rfl⟩
    ·dsimp only
     rw[hsj.out,←Int.add_assoc];exact agr
    ·exact agr
   ·obtain rfl:j=x.size:=by omega
    clear apl hlw hsj hfl;by_cases h1:k+1<g.length
    ·have hn1:=hnx h1
     clear hnx;obtain⟨hy1,-,-⟩:=hn1;have apn:=aiv (iM x (x.size-1)) (iM (g[k+1]?.getD .empty) 0);have hnr:=wR (at8 x (x.size-1)) (at8 (g[k+1]?.getD .empty) 0);have hne:=hne.out;rw[if_pos h1]at hne;have hsn:=hsn.out;rw[hne]at hsn;replace hsn:=Lib.hid hsn;clear hne;generalize qh (at8 x (x.size-1)) (at8 (g[k+1]?.getD .empty) 0)=nr at*;generalize sgW x x.size=sw at*;(refine wlk ?_;intros);refine⟨k+1,by omega,by dsimp only;omega,?_,?_,rfl⟩
     ·dsimp only
      rw[hsn.out];exact agr
     ·exact agr
    ·have hne:=hne.out
     rw[if_neg h1]at hne;have hsn:=hsn.out;rw[hne,Int.sub_zero]at hsn;replace hsn:=Lib.hid hsn;clear hne hnx;generalize sgW x x.size=sw at*;(refine wlk ?_;intros);refine⟨k+1,by omega,by dsimp only;omega,?_,?_,rfl⟩
     ·dsimp only
      rw[hsn.out];exact agr
     ·exact agr
  ·obtain rfl:k=g.length:=by omega
   clear hat hrg;generalize wdK g g.length=w9 at*;exact wlkF
def aEp:Ctx:={fn:=aT [(218,apI),(219,afY),(220,aga)],io:=aT []}
theorem avZ:au Tryz.prog aEp:=okΓ (fC Tryz.func218 aob (fC Tryz.func219 afs (fC Tryz.func220 aeE aj))) aj
def ahS:=ah (Γ:=aEp) (f:=218) (φ:=apI) rfl
def afV:=ah (Γ:=aEp) (f:=219) (φ:=afY) rfl
def agR:=ah (Γ:=aEp) (f:=220) (φ:=aga) rfl
theorem ak1:Sound Tryz.prog 180 φWw:=by
 refine ak mixed avZ Tryz.func180 rfl 70 rfl [.tmp 2] rfl (by kernel_rfl) fun ps r hr=>?_;obtain⟨s,rfl,hpre,rfl⟩:=je hr;refine⟨by simp,?_⟩;simp only[dIs,dUs,dSs,bP,bS,bQ,bT,aP,bR,aQ,aO,aR,aL];have aps:=arU (s:=s) hpre;unfold pV;unfold agk at aps;cases hw:bY s with
 |false=>rw[hw,if_neg (by decide)]at aps;rw[if_neg (by decide)];clear hw;have gwws_c218:=ahS;have gwws_c219:=afV;have gwws_c220:=agR;exact wlkF
 |true=>
  rw[hw,if_pos rfl]at aps;rw[if_pos rfl];have hat:=fun k hk=>aas hw (k:=k) hk;have hlen:=(ru hw).2;have hrg:=aay hat;generalize signs s=g at*;clear hw hpre;have gwws_c218:=ahS;have gwws_c219:=afV;have gwws_c220:=agR;(refine wlk ?_;intros);refine aB (α:=Nat) mixed (fun k=>[(3,.lst true 1 (g.map pvS)),(4,iv (wdK g k)),(5,iv k)]) (fun _=>[]) (fun _=>0)
   (fun k=>k≤g.length) (fun k=>g.length-k) (by kernel_rfl) 0 (Nat.zero_le _) ?_ ?_ rfl ?_
  ·simp only[push_cast,↓reduceIte,Rq,Rb,Ra,Rs,Rt,wdK]
  ·exact agr
  intro k hk;have hrk:=hrg k hk;by_cases hkl:k<g.length
  ·have hsg:=hat k hkl
   have hnx:=fun h=>hat (k+1) h;have hfl:=ahb hsg;have hsn:wdK g (k+1)=wdK g k+sgW (g[k]?.getD .empty) (g[k]?.getD .empty).size-((g[k]?.getD .empty).size-1)-abH g k:=rfl;have hne:abH g k=if k+1<g.length then qh (at8 (g[k]?.getD .empty) ((g[k]?.getD .empty).size-1)) (at8 (g[k+1]?.getD .empty) 0)else 0:=rfl;replace hsn:=Lib.hid hsn;replace hne:=Lib.hid hne;clear hat hrg;generalize hx9:g[k]?.getD ByteArray.empty=x at*;obtain⟨hx1,hx2,-⟩:=hsg;generalize hw9:wdK g k=w9 at*;(refine wlk ?_;intros);refine aB (α:=Nat) mixed (fun j=>[(3,.lst true 1 (g.map pvS)),(4,iv (w9+sgW x j)),(5,iv k),(6,iv j)]) (fun _=>[]) (fun _=>0)
    (fun j=>j≤x.size) (fun j=>x.size-j) (by kernel_rfl) 0 (Nat.zero_le _) ?_ ?_ rfl ?_
   ·simp(disch:=(first|omega|(simp only[push_cast];first|done|omega))) only[push_cast,↓reduceIte,Rq,Rb,Ra,Rs,Rt,sgW,Int.add_zero, *]
   ·exact agr
   intro j hj;have hfj:=hfl j hj;have apl:=aoV (at8 x j);have hlw:=aaD (at8 x j);have hsj:sgW x (j+1)=sgW x j+adU (at8 x j):=rfl;replace hsj:=Lib.hid hsj;by_cases hjl:j<x.size
   ·clear hfl hnx
    generalize adU (at8 x j)=lw at*;(refine wlk ?_;intros);refine⟨j+1,by omega,by dsimp only;omega,?_,?_,rfl⟩
    ·dsimp only
     rw[hsj.out,←Int.add_assoc];exact agr
    ·exact agr
   ·obtain rfl:j=x.size:=by omega
    clear apl hlw hsj hfl;by_cases h1:k+1<g.length
    ·have hn1:=hnx h1
     clear hnx;obtain⟨hy1,-,-⟩:=hn1;have apn:=anb (at8 x (x.size-1)) (at8 (g[k+1]?.getD .empty) 0);have hnr:=wR (at8 x (x.size-1)) (at8 (g[k+1]?.getD .empty) 0);have hne:=hne.out;rw[if_pos h1]at hne;have hsn:=hsn.out;rw[hne]at hsn;replace hsn:=Lib.hid hsn;clear hne;generalize qh (at8 x (x.size-1)) (at8 (g[k+1]?.getD .empty) 0)=nr at*;generalize sgW x x.size=sw at*;(refine wlk ?_;intros);refine⟨k+1,by omega,by dsimp only;omega,?_,?_,rfl⟩
     ·dsimp only
      rw[hsn.out,show w9+sw-((x.size:Int)-1)-nr=w9+sw-x.size+1-nr by omega];exact agr
     ·exact agr
    ·have hne:=hne.out
     rw[if_neg h1]at hne;have hsn:=hsn.out;rw[hne,Int.sub_zero]at hsn;replace hsn:=Lib.hid hsn;clear hne hnx;generalize sgW x x.size=sw at*;(refine wlk ?_;intros);refine⟨k+1,by omega,by dsimp only;omega,?_,?_,rfl⟩
     ·dsimp only
      rw[hsn.out,show w9+sw-((x.size:Int)-1)=w9+sw-x.size+1 by omega];exact agr
     ·exact agr
  ·obtain rfl:k=g.length:=by omega
   clear hat hrg;generalize wdK g g.length=w9 at*;exact wlkF
abbrev pvN (n:Int):PV:=.val (.int .i64 n)
theorem nD {p:ByteArray} (h:ace p=true):1≤p.size∧p.size≤12:=by
 unfold ace at h;simp only[Bool.and_eq_true,decide_eq_true_eq]at h;obtain⟨-,h1,h2⟩:=h;refine⟨?_,h2⟩;rcases Nat.eq_zero_or_pos p.size with h0|h0
 ·rw[h0]at h1
  simp[anyS]at h1
 ·exact h0
def φPp:Fun:=F1 dS fun p=>if p.size≤12 then some (.tup [.val (.string (dG p)),.lst true 1 ((eP p).map fun n=> .val (.int .i64 n))])else none
theorem aw2 {p:ByteArray} (h:p.size≤12):φPp [.val (.string p)]=some (.tup [.val (.string (dG p)),.lst true 1 ((eP p).map fun n=> .val (.int .i64 n))]):=(dY (A:=dS) p).trans (if_pos h)
def GPp:Ctx:={fn:=aT [(135,ajm)],io:=aT []}
theorem aCz:au Tryz.prog GPp:=okΓ (fC Tryz.func135 aac aj) aj
def ayp:=ah (Γ:=GPp) (f:=135) (φ:=ajm) rfl
theorem aqR {o:List Int} {v x:Int}:(o++[v]).set o.length x=o++[x]:=by simp
theorem ang:Sound Tryz.prog 239 φPp:=by
 refine ak mixed aCz Tryz.func239 rfl 40 rfl [.tmp 2,.tmp 3] rfl (by kernel_rfl) fun ps r hr=>?_;obtain⟨p,rfl,hpre,rfl⟩:=je hr;refine⟨by simp,?_⟩;simp only[dIs,dUs,dSs,bP,bS,bQ,bT,aP,bR,aQ,aO,aR,aL];have hrg:=qE p;unfold dG eP;have gpp_c135:=ayp;(refine wlk ?_;intros);refine aB (α:=Nat×Nat×Nat) mixed (fun z=>[(0,.val (.string p)),(4,.val (.string (iT p z.1).1)),(5,.row z.2.1 1 0 ((iT p z.1).2.1.length+1)),(8,.val (.string p)),(9,iv p.size),(10,iv z.1)])
  (fun z=>[(z.2.1,3,1,((iT p z.1).2.1++[(iT p z.1).2.2]).map pvN)]) (fun z=>z.2.2)
  (fun z=>z.1≤p.size∧z.2.1<z.2.2) (fun z=>p.size-z.1) (by kernel_rfl) (0,0,1) ⟨by simp,by simp⟩ ?_ ?_ rfl ?_
 ·simp(disch:=(first|omega|(simp only[push_cast];first|done|omega))) only[push_cast,↓reduceIte,Rq,Rb,Ra,Rs,Rt,iT,List.length_nil,Nat.zero_add, *]
 ·simp(disch:=(first|omega|(simp only[push_cast];first|done|omega))) only[push_cast,↓reduceIte,Rq,Rb,Ra,Rs,Rt,iT,List.nil_append,List.map_cons,List.map_nil, *]
 rintro⟨k,x,y⟩ ⟨hk,hxy⟩;dsimp only at hk hxy;obtain⟨r1,r2,r3,-⟩:=hrg k hk;by_cases h0:k<p.size
 ·have apd:=agZ (at8 p k)
  have hdd:aek (at8 p k)=inB (at8 p k) 48 57:=rfl;have hb8:=iM p k;cases hd:inB (at8 p k) 48 57 with
  |true=>
   have hst:=vK (hdd.trans hd);have hin:=aD.1 hd;have w1:IntKind.u8.wrap (at8 p k-48)=at8 p k-48:=by rw[IntKind.wrap_u8];omega
   have w3:=dD (n:=at8 p k-48) (by omega) (by omega);have hsl:=@aqR (iT p k).2.1 (iT p k).2.2 (at8 p k-48);rw[hd]at apd;replace hst:=Lib.hid hst;clear hrg hdd hd;generalize(iT p k).2.1=o at*;generalize(iT p k).2.2=v at*;generalize(iT p k).1=lt at*;(refine wlk ?_;intros);refine⟨(k+1,x,y),⟨by dsimp only;omega,hxy⟩,by dsimp only;omega,?_,?_,rfl⟩
   ·dsimp only
    rw[hst.out];exact agr
   ·dsimp only
    rw[hst.out];exact agr
  |false=>
   have hxz:(p.extract k (k+1)).size=1:=by rw[ByteArray.size_extract];omega
   have hst:=vE (hdd.trans hd);rw[hd]at apd;replace hst:=Lib.hid hst;clear hrg hdd hd;generalize(iT p k).2.1=o at*;generalize(iT p k).2.2=v at*;generalize(iT p k).1=lt at*;(refine wlk ?_;intros);refine⟨(k+1,y+1,y+2),⟨by dsimp only;omega,by dsimp only;omega⟩,by dsimp only;omega,?_,?_,rfl⟩
   ·dsimp only
    rw[hst.out];exact agr
   ·dsimp only
    rw[hst.out];exact agr
 ·obtain rfl:k=p.size:=by omega
  clear hrg;exact wlkF
def φPl:Fun:=F1 dS fun p=>if ace p=true then some (.val (.string (dG p)))else none
theorem ayb {p:ByteArray} (h:ace p=true):φPl [.val (.string p)]=some (.val (.string (dG p))):=(dY (A:=dS) p).trans (if_pos h)
def GPl:Ctx:={fn:=aT [(69,abL)],io:=aT []}
theorem atV:au Tryz.prog GPl:=okΓ (fC Tryz.func69 jv aj) aj
def atE:=ah (Γ:=GPl) (f:=69) (φ:=abL) rfl
theorem anh:Sound Tryz.prog 223 φPl:=by
 refine ak mixed atV Tryz.func223 rfl 33 rfl [.tmp 2] rfl (by kernel_rfl) fun ps r hr=>?_;obtain⟨p,rfl,hpre,rfl⟩:=je hr;refine⟨by simp,?_⟩;simp only[dIs,dUs,dSs,bP,bS,bQ,bT,aP,bR,aQ,aO,aR,aL];have hsz:=nD hpre;have hrg:=qE p;have apv:=uU (s:=p) (by omega);rw[hpre]at apv;unfold dG;clear hpre;have gpl_c69:=atE;(refine wlk ?_;intros);refine aB (α:=Nat) mixed (fun k=>[(0,.val (.string p)),(3,.val (.string (iT p k).1)),(4,iv k)]) (fun _=>[]) (fun _=>0)
  (fun k=>k≤p.size) (fun k=>p.size-k) (by kernel_rfl) 0 (Nat.zero_le _) ?_ ?_ rfl ?_
 ·simp(disch:=(first|omega|(simp only[push_cast];first|done|omega))) only[push_cast,↓reduceIte,Rq,Rb,Ra,Rs,Rt,iT, *]
 ·exact agr
 intro k hk;obtain⟨r1,r2,r3,-⟩:=hrg k hk;by_cases h0:k<p.size
 ·have hb8:=iM p k
  cases hd:aek (at8 p k)with
  |true=>
   have hst:=vK hd;have hin:=aD.1 hd;have w1:IntKind.u8.wrap (at8 p k-48)=at8 p k-48:=by rw[IntKind.wrap_u8];omega
   have w3:=dD (n:=at8 p k-48) (by omega) (by omega);replace hst:=Lib.hid hst;clear hrg hd;generalize(iT p k).1=lt at*;(refine wlk ?_;intros);refine⟨k+1,by omega,by dsimp only;omega,?_,?_,rfl⟩
   ·dsimp only
    rw[hst.out];exact agr
   ·exact agr
  |false=>
   have hxz:(p.extract k (k+1)).size=1:=by rw[ByteArray.size_extract];omega
   have hst:=vE hd;have hno:at8 p k<48∨57<at8 p k:=by
    by_cases hh:48≤at8 p k∧at8 p k≤57
    ·have:aek (at8 p k)=true:=aD.2 hh
     rw[this]at hd;cases hd
    ·omega
   replace hst:=Lib.hid hst;clear hrg hd;generalize(iT p k).1=lt at*;(refine wlk6 ?_ ?_ ?_ ?_ ?_ ?_<;>intros<;>try with_reducible exact trivial);all_goals
    refine⟨k+1,by omega,by dsimp only;omega,?_,?_,rfl⟩
    ·dsimp only
     rw[hst.out];exact agr
    ·exact agr
 ·obtain rfl:k=p.size:=by omega
  clear hrg;exact wlkF
def φPv:Fun:=F1 dS fun p=>if ace p=true then some (.lst true 1 ((eP p).map fun n=> .val (.int .i64 n)))else none
theorem awv {p:ByteArray} (h:ace p=true):φPv [.val (.string p)]=some (.lst true 1 ((eP p).map fun n=> .val (.int .i64 n))):=(dY (A:=dS) p).trans (if_pos h)
theorem ame:Sound Tryz.prog 224 φPv:=by
 refine ak mixed atV Tryz.func224 rfl 44 rfl [.tmp 2] rfl (by kernel_rfl) fun ps r hr=>?_;obtain⟨p,rfl,hpre,rfl⟩:=je hr;refine⟨by simp,?_⟩;simp only[dIs,dUs,dSs,bP,bS,bQ,bT,aP,bR,aQ,aO,aR,aL];have hsz:=nD hpre;have hrg:=qE p;have apv:=uU (s:=p) (by omega);rw[hpre]at apv;unfold eP;clear hpre;have gpl_c69:=atE;(refine wlk ?_;intros);refine aB (α:=Nat×Nat×Nat) mixed (fun z=>[(0,.val (.string p)),(3,.row z.2.1 1 0 (iT p z.1).2.1.length),(4,iv (iT p z.1).2.2),(5,iv z.1)])
  (fun z=>[(z.2.1,3,1,(iT p z.1).2.1.map pvN)]) (fun z=>z.2.2)
  (fun z=>z.1≤p.size∧z.2.1<z.2.2) (fun z=>p.size-z.1) (by kernel_rfl) (0,0,1) ⟨by simp,by simp⟩ ?_ ?_ rfl ?_
 ·simp(disch:=(first|omega|(simp only[push_cast];first|done|omega))) only[push_cast,↓reduceIte,Rq,Rb,Ra,Rs,Rt,iT,List.length_nil, *]
 ·simp(disch:=(first|omega|(simp only[push_cast];first|done|omega))) only[push_cast,↓reduceIte,Rq,Rb,Ra,Rs,Rt,iT,List.map_nil, *]
 rintro⟨k,x,y⟩ ⟨hk,hxy⟩;dsimp only at hk hxy;obtain⟨r1,r2,r3,-⟩:=hrg k hk;by_cases h0:k<p.size
 ·have hb8:=iM p k
  cases hd:aek (at8 p k)with
  |true=>
   have hst:=vK hd;have hin:=aD.1 hd;have w1:IntKind.u8.wrap (at8 p k-48)=at8 p k-48:=by rw[IntKind.wrap_u8];omega
   have w3:=dD (n:=at8 p k-48) (by omega) (by omega);replace hst:=Lib.hid hst;clear hrg hd;generalize(iT p k).2.1=o at*;generalize(iT p k).2.2=v at*;generalize(iT p k).1=lt at*;(refine wlk ?_;intros);refine⟨(k+1,x,y),⟨by dsimp only;omega,hxy⟩,by dsimp only;omega,?_,?_,rfl⟩
   ·dsimp only
    rw[hst.out];exact agr
   ·dsimp only
    rw[hst.out];exact agr
  |false=>
   have hxz:(p.extract k (k+1)).size=1:=by rw[ByteArray.size_extract];omega
   have hst:=vE hd;have hno:at8 p k<48∨57<at8 p k:=by
    by_cases hh:48≤at8 p k∧at8 p k≤57
    ·have:aek (at8 p k)=true:=aD.2 hh
     rw[this]at hd;cases hd
    ·omega
   replace hst:=Lib.hid hst;clear hrg hd;generalize(iT p k).2.1=o at*;generalize(iT p k).2.2=v at*;generalize(iT p k).1=lt at*;(refine wlk6 ?_ ?_ ?_ ?_ ?_ ?_<;>intros<;>try with_reducible exact trivial);all_goals
    refine⟨(k+1,y+1,y+2),⟨by dsimp only;omega,by dsimp only;omega⟩,by dsimp only;omega,?_,?_,rfl⟩
    ·dsimp only
     rw[hst.out];exact agr
    ·dsimp only
     rw[hst.out];exact agr
 ·obtain rfl:k=p.size:=by omega
  clear hrg;exact wlkF
def vU (w:ByteArray) (pats:LS):Bool:=bY w&&bA pats
theorem jS {w:ByteArray} {pats:LS}:vU w pats=true↔bY w=true∧bA pats=true:=by simp[vU]
theorem anv {pats:LS} (h:bA pats=true) {k:Nat} (hk:k<pats.length):ace (pats[k]?.getD .empty)=true:=by unfold bA at h;rw[Bool.and_eq_true,List.all_eq_true]at h;rw[List.getElem?_eq_getElem hk,Option.getD_some];exact h.2 _ (List.getElem_mem hk)
theorem agy {pats:LS} (h:bA pats=true):pats.length≤20:=by unfold bA at h;rw[Bool.and_eq_true]at h;exact of_decide_eq_true h.1
def rR (w:ByteArray) (pats:LS):List Int:=if vU w pats=true then iZ w pats else []
abbrev ar2 (w:ByteArray) (pats:LS):Prop:=w.size≤1048576∧oM pats
instance (w:ByteArray) (pats:LS):Decidable (ar2 w pats):=Classical.propDecidable _
def φLv:Fun:=F2 dS dSs fun w pats=>if ar2 w pats then some (.lst true 1 ((rR w pats).map fun n=> .val (.int .i64 n)))else none
theorem ank {w:ByteArray} {pats:LS} (h:ar2 w pats):φLv [.val (.string w),.lst false 1 (pats.map fun s=> .val (.string s))]=some (.lst true 1 ((rR w pats).map fun n=> .val (.int .i64 n))):=(fZ (A:=dS) (B:=dSs) w pats).trans (if_pos h)
def as6:Fun:=F2 dS dSs fun w pats=>if vU w pats=true then some (.lst true 1 ((iZ w pats).map fun n=> .val (.int .i64 n)))else none
theorem asn {w:ByteArray} {pats:LS} (h:vU w pats=true):as6 [.val (.string w),.lst false 1 (pats.map fun s=> .val (.string s))]=some (.lst true 1 ((iZ w pats).map fun n=> .val (.int .i64 n))):=(fZ (A:=dS) (B:=dSs) w pats).trans (if_pos h)
theorem af6 {sz a j:Nat} {lv o:List Int} (h:1≤a+j) (h2:a+j≤sz+1):aed sz a j lv o=o.set (a+j-1) (if lv[j]?.getD 0>o[a+j-1]?.getD 0 then lv[j]?.getD 0 else o[a+j-1]?.getD 0):=if_pos ⟨h,h2⟩
theorem aci {sz a j:Nat} {lv o:List Int} (h:¬(1≤a+j∧a+j≤sz+1)):aed sz a j lv o=o:=if_neg h
theorem anr {d lt:ByteArray} {sz a:Nat} {lv o:List Int} (h:d.extract a (a+lt.size)=lt):lvA d sz lt lv o (a+1)=lvJ sz a lv (lvA d sz lt lv o a) lv.length:=by rw[lvA,if_pos h]
theorem afW {d lt:ByteArray} {sz a:Nat} {lv o:List Int} (h:¬d.extract a (a+lt.size)=lt):lvA d sz lt lv o (a+1)=lvA d sz lt lv o a:=by rw[lvA,if_neg h]
def aF1:Ctx:={fn:=aT [(239,φPp),(64,φIn)],io:=aT []}
theorem awl:au Tryz.prog aF1:=okΓ (fC Tryz.func239 ang (fC Tryz.func64 sD aj)) aj
def as8:=ah (Γ:=aF1) (f:=239) (φ:=φPp) rfl
def avc:=ah (Γ:=aF1) (f:=64) (φ:=φIn) rfl
theorem aiQ:Sound Tryz.prog 233 as6:=by
 refine ak mixed awl Tryz.func233 rfl 78 rfl [.tmp 4] rfl (by kernel_rfl) fun ps r hr=>?_;obtain⟨w,pats,rfl,hpre,rfl⟩:=gN hr;refine⟨by simp,?_⟩;simp only[dIs,dUs,dSs,bP,bS,bQ,bT,aP,bR,aQ,aO,aR,aL];obtain⟨hw,hp⟩:=jS.1 hpre;obtain⟨-,hw1,hw2⟩:=aG hw;have hpl:=agy hp;have hpa:=fun k hk=>anv hp (k:=k) hk;have hds:=aco w;have hlo:=ac0 w pats;have hd0:au9 w=(⟨#[46]⟩++w)++⟨#[46]⟩:=rfl;have h46:(⟨#[46]⟩:ByteArray).size=1:=rfl;have api:=bI;unfold iZ;clear hw hp hpre;have glvi_c239:=as8;have glvi_c64:=avc;(refine wlk ?_;intros);rw[←hd0];clear hd0 h46;generalize hdd:au9 w=d at*;refine aB (α:=Nat) mixed (fun k=>[(0,.val (.string w)),(5,.val (.string d)),(6,.row 0 1 0 (w.size+1)),(22,.lst false 1 (pats.map fun s=> .val (.string s))),(23,iv pats.length),(24,iv k)])
  (fun k=>[(0,3,1,(lvP w pats k).map pvN)]) (fun _=>1)
  (fun k=>k≤pats.length) (fun k=>pats.length-k) (by kernel_rfl) 0 (Nat.zero_le _) ?_ ?_ rfl ?_
 ·exact agr
 ·simp(disch:=(first|omega|(simp only[push_cast];first|done|omega))) only[push_cast,↓reduceIte,Rq,Rb,Ra,Rs,Rt,lvP,List.map_replicate, *]
 intro k hk;by_cases h0:k<pats.length
 ·have hpk:=hpa k h0
  have happ:=aw2 (p:=pats[k]?.getD .empty) (nD hpk).2;obtain⟨g1,g2,g3⟩:=pF (pats[k]?.getD .empty);have hps:=(nD hpk).2;have hnx:lvP w pats (k+1)=lvA d w.size (dG (pats[k]?.getD .empty)) (eP (pats[k]?.getD .empty)) (lvP w pats k) (w.size+3-(dG (pats[k]?.getD .empty)).size):=by rw[lvP,hdd]
  have ho:=hlo k;replace hnx:=Lib.hid hnx;clear hpa hlo hpk;generalize hp9:pats[k]?.getD ByteArray.empty=p at*;generalize dG p=lt at*;generalize eP p=lv at*;generalize lvP w pats k=o at*;have hA:=fun a=>(ho.lvA (d:=d) (lt:=lt) (lv:=lv) g3 a);(refine wlk ?_;intros);refine aB (α:=Nat) mixed (fun a=>[(0,.val (.string w)),(5,.val (.string d)),(6,.row 0 1 0 (w.size+1)),(22,.lst false 1 (pats.map fun s=> .val (.string s))),(23,iv pats.length),(24,iv k),(9,.val (.string lt)),(10,.lst true 1 (lv.map pvN)),(11,iv a)])
   (fun a=>[(0,3,1,(lvA d w.size lt lv o a).map pvN)]) (fun _=>1)
   (fun a=>a≤w.size+3-lt.size) (fun a=>w.size+3-lt.size-a) (by kernel_rfl) 0 (Nat.zero_le _) ?_ ?_ rfl ?_
  ·exact agr
  ·simp(disch:=(first|omega|(simp only[push_cast];first|done|omega))) only[push_cast,↓reduceIte,Rq,Rb,Ra,Rs,Rt,lvA, *]
  intro a ha;by_cases ha0:a<w.size+3-lt.size
  ·obtain⟨oa1,oa2⟩:=hA a
   have hJ:=fun j=>((hA a).lvJ (a:=a) (lv:=lv) g3 j);clear hA ho happ;by_cases hm:d.extract a (a+lt.size)=lt
   ·have hn:=anr (sz:=w.size) (lv:=lv) (o:=o) hm
    replace hn:=Lib.hid hn;replace hm:=Lib.hid hm;generalize lvA d w.size lt lv o a=oa at*;have hm:=hm.out;(refine wlk ?_;intros);clear hm;refine aB (α:=Nat) mixed (fun j=>[(0,.val (.string w)),(5,.val (.string d)),(6,.row 0 1 0 (w.size+1)),(22,.lst false 1 (pats.map fun s=> .val (.string s))),(23,iv pats.length),(24,iv k),(9,.val (.string lt)),(10,.lst true 1 (lv.map pvN)),(11,iv a),(51,.lst true 1 (lv.map pvN)),(52,iv lv.length),(53,iv j)])
     (fun j=>[(0,3,1,(lvJ w.size a lv oa j).map pvN)]) (fun _=>1)
     (fun j=>j≤lv.length) (fun j=>lv.length-j) (by kernel_rfl) 0 (Nat.zero_le _) ?_ ?_ rfl ?_
    ·exact agr
    ·simp(disch:=(first|omega|(simp only[push_cast];first|done|omega))) only[push_cast,↓reduceIte,Rq,Rb,Ra,Rs,Rt,lvJ, *]
    intro j hj;by_cases hj0:j<lv.length
    ·obtain⟨oj1,oj2⟩:=hJ j
     clear hJ;have hs:lvJ w.size a lv oa (j+1)=aed w.size a j lv (lvJ w.size a lv oa j):=rfl;have hg3:=g3 j;by_cases hin:1≤a+j∧a+j≤w.size+1
     ·rw[af6 hin.1 hin.2]at hs
      replace hs:=Lib.hid hs;have api1:inB ((a:Int)+j-1) 0 w.size=true:=aD.2 ⟨by omega,by omega⟩;have hti:((a:Int)+j-1).toNat=a+j-1:=by omega
      generalize lvJ w.size a lv oa j=oj at*;(refine wlk ?_;intros);refine⟨j+1,by omega,by dsimp only;omega,?_,?_,rfl⟩
      ·exact agr
      ·dsimp only
       rw[hs.out];exact agr
     ·rw[aci hin]at hs
      replace hs:=Lib.hid hs;have api1:inB ((a:Int)+j-1) 0 w.size=false:=Bool.eq_false_iff.2 fun q=>by have:=aD.1 q;omega
      generalize lvJ w.size a lv oa j=oj at*;(refine wlk ?_;intros);refine⟨j+1,by omega,by dsimp only;omega,?_,?_,rfl⟩
      ·exact agr
      ·dsimp only
       rw[hs.out];exact agr
    ·obtain rfl:j=lv.length:=by omega
     clear hJ;(refine wlk ?_;intros);refine⟨a+1,by omega,by dsimp only;omega,?_,?_,rfl⟩
     ·exact agr
     ·dsimp only
      rw[hn.out];exact agr
   ·have hn:=afW (sz:=w.size) (lv:=lv) (o:=o) hm
    replace hn:=Lib.hid hn;generalize lvA d w.size lt lv o a=oa at*;(refine wlk ?_;intros);refine⟨a+1,by omega,by dsimp only;omega,?_,?_,rfl⟩
    ·exact agr
    ·dsimp only
     rw[hn.out];exact agr
  ·have hae:a=w.size+3-lt.size:=by omega
   clear hA ho happ;rw[←hae]at hnx;generalize lvA d w.size lt lv o a=oa at*;clear hae;(refine wlk ?_;intros);refine⟨k+1,by omega,by dsimp only;omega,?_,?_,rfl⟩
   ·exact agr
   ·dsimp only
    rw[hnx.out];exact agr
 ·obtain rfl:k=pats.length:=by omega
  obtain⟨o1,o2⟩:=hlo pats.length;clear hlo hpa;generalize lvP w pats pats.length=o at*;exact wlkF
def arB:Ctx:={fn:=aT [(81,fu),(71,gT),(233,as6)],io:=aT []}
theorem aql:au Tryz.prog arB:=okΓ (fC Tryz.func81 d9 (fC Tryz.func71 dK (fC Tryz.func233 aiQ aj))) aj
def abR:=ah (Γ:=arB) (f:=81) (φ:=fu) rfl
def abr:=ah (Γ:=arB) (f:=71) (φ:=gT) rfl
def xV:=ah (Γ:=arB) (f:=233) (φ:=as6) rfl
theorem akT:Sound Tryz.prog 211 φLv:=by
 refine gB mixed aql Tryz.func211 rfl 16 rfl [.tmp 4] rfl (by kernel_rfl) fun ps r hr=>?_;obtain⟨w,pats,rfl,hpre,rfl⟩:=gN hr;refine⟨by simp,?_⟩;simp only[dIs,dUs,dSs,bP,bS,bQ,bT,aP,bR,aQ,aO,aR,aL];have ap1:=fV (s:=w) (by omega);have ap2:=iU hpre.2;have apl:=fun h=>asn (w:=w) (pats:=pats) h;unfold rR vU;unfold vU at apl;cases hw:bY w with
 |false=>
  rw[hw]at ap1;clear apl hpre hw;rw[Bool.false_and,if_neg (by decide)];have glvi2_c81:=abR;have glvi2_c71:=abr;have glvi2_c233:=xV;(refine wlk ?_;intros);all_goals((with_reducible apply cO (by first|exact .inl rfl|exact .inr rfl));(exact sr))
  all_goals exact nil_le _ _
 |true=>
  cases hp:bA pats with
  |false=>
   rw[hw]at ap1;rw[hp]at ap2;clear apl hpre hw hp;rw[Bool.and_false,if_neg (by decide)];have glvi2_c81:=abR;have glvi2_c71:=abr;have glvi2_c233:=xV;(refine wlk ?_;intros);all_goals((with_reducible apply cO (by first|exact .inl rfl|exact .inr rfl));(exact sr))
   all_goals exact nil_le _ _
  |true=>
   have apl:=apl (by rw[hw,hp];rfl);rw[hw]at ap1;rw[hp]at ap2;clear hpre hw hp;rw[Bool.and_true,if_pos rfl];have glvi2_c81:=abR;have glvi2_c71:=abr;have glvi2_c233:=xV;(refine wlk ?_;intros);all_goals((with_reducible apply cO (by first|exact .inl rfl|exact .inr rfl));(exact sr))
   all_goals exact PV.le_refl _
def azc:Ctx:={fn:=aT [(68,fu),(33,gT),(223,φPl),(224,φPv),(34,φIn)],io:=aT []}
theorem aw7:au Tryz.prog azc:=okΓ (fC Tryz.func68 eG (fC Tryz.func33 dM (fC Tryz.func223 anh (fC Tryz.func224 ame (fC Tryz.func34 fK aj))))) aj
def afG:=ah (Γ:=azc) (f:=68) (φ:=fu) rfl
def aeW:=ah (Γ:=azc) (f:=33) (φ:=gT) rfl
def aar:=ah (Γ:=azc) (f:=223) (φ:=φPl) rfl
def abZ:=ah (Γ:=azc) (f:=224) (φ:=φPv) rfl
def afr:=ah (Γ:=azc) (f:=34) (φ:=φIn) rfl
theorem alW:Sound Tryz.prog 186 φLv:=by
 refine ak mixed aw7 Tryz.func186 rfl 90 rfl [.tmp 4] rfl (by kernel_rfl) fun ps r hr=>?_;obtain⟨w,pats,rfl,hpre,rfl⟩:=gN hr;refine⟨by simp,?_⟩;simp only[dIs,dUs,dSs,bP,bS,bQ,bT,aP,bR,aQ,aO,aR,aL];have ap1:=fV (s:=w) (by omega);have ap2:=iU hpre.2;unfold rR vU;cases hw:bY w with
 |false=>rw[hw]at ap1;clear hpre hw;rw[Bool.false_and,if_neg (by decide)];have glvs_c68:=afG;have glvs_c33:=aeW;have glvs_c223:=aar;have glvs_c224:=abZ;have glvs_c34:=afr;exact wlkF
 |true=>
 cases hp:bA pats with
 |false=>rw[hw]at ap1;rw[hp]at ap2;clear hpre hw hp;rw[Bool.and_false,if_neg (by decide)];have glvs_c68:=afG;have glvs_c33:=aeW;have glvs_c223:=aar;have glvs_c224:=abZ;have glvs_c34:=afr;exact wlkF
 |true=>
 rw[hw]at ap1;rw[hp]at ap2;rw[Bool.and_true,if_pos rfl];obtain⟨-,hw1,hw2⟩:=aG hw;have hpl:=agy hp;have hpa:=fun k hk=>anv hp (k:=k) hk;have hds:=aco w;have hlo:=ac0 w pats;have hd0:au9 w=(⟨#[46]⟩++w)++⟨#[46]⟩:=rfl;have h46:(⟨#[46]⟩:ByteArray).size=1:=rfl;have api:=bI;unfold iZ;clear hw hp hpre;have glvs_c68:=afG;have glvs_c33:=aeW;have glvs_c223:=aar;have glvs_c224:=abZ;have glvs_c34:=afr;(refine wlk ?_;intros);rw[←hd0];clear hd0 h46;generalize hdd:au9 w=d at*;refine aB (α:=Nat) mixed (fun k=>[(0,.val (.string w)),(1,.lst false 1 (pats.map fun s=> .val (.string s))),(5,.row 0 1 0 (w.size+1)),(6,.val (.string d)),(7,iv k)])
  (fun k=>[(0,3,1,(lvP w pats k).map pvN)]) (fun _=>1)
  (fun k=>k≤pats.length) (fun k=>pats.length-k) (by kernel_rfl) 0 (Nat.zero_le _) ?_ ?_ rfl ?_
 ·exact agr
 ·simp(disch:=(first|omega|(simp only[push_cast];first|done|omega))) only[push_cast,↓reduceIte,Rq,Rb,Ra,Rs,Rt,lvP,List.map_replicate, *]
 intro k hk;by_cases h0:k<pats.length
 ·have hpk:=hpa k h0
  have hap1:=ayb hpk;have hap2:=awv hpk;obtain⟨g1,g2,g3⟩:=pF (pats[k]?.getD .empty);have hps:=(nD hpk).2;have hnx:lvP w pats (k+1)=lvA d w.size (dG (pats[k]?.getD .empty)) (eP (pats[k]?.getD .empty)) (lvP w pats k) (w.size+3-(dG (pats[k]?.getD .empty)).size):=by rw[lvP,hdd]
  have ho:=hlo k;replace hnx:=Lib.hid hnx;clear hpa hlo hpk;generalize hp9:pats[k]?.getD ByteArray.empty=p at*;generalize dG p=lt at*;generalize eP p=lv at*;generalize lvP w pats k=o at*;have hA:=fun a=>(ho.lvA (d:=d) (lt:=lt) (lv:=lv) g3 a);(refine wlk ?_;intros);refine aB (α:=Nat) mixed (fun a=>[(0,.val (.string w)),(1,.lst false 1 (pats.map fun s=> .val (.string s))),(5,.row 0 1 0 (w.size+1)),(6,.val (.string d)),(7,iv k),(8,.val (.string lt)),(9,.lst true 1 (lv.map pvN)),(10,iv a)])
   (fun a=>[(0,3,1,(lvA d w.size lt lv o a).map pvN)]) (fun _=>1)
   (fun a=>a≤w.size+3-lt.size) (fun a=>w.size+3-lt.size-a) (by kernel_rfl) 0 (Nat.zero_le _) ?_ ?_ rfl ?_
  ·exact agr
  ·simp(disch:=(first|omega|(simp only[push_cast];first|done|omega))) only[push_cast,↓reduceIte,Rq,Rb,Ra,Rs,Rt,lvA, *]
  intro a ha;by_cases ha0:a<w.size+3-lt.size
  ·obtain⟨oa1,oa2⟩:=hA a
   have hJ:=fun j=>((hA a).lvJ (a:=a) (lv:=lv) g3 j);clear hA ho hap1 hap2;by_cases hm:d.extract a (a+lt.size)=lt
   ·have hn:=anr (sz:=w.size) (lv:=lv) (o:=o) hm
    replace hn:=Lib.hid hn;replace hm:=Lib.hid hm;generalize lvA d w.size lt lv o a=oa at*;have hm:=hm.out;(refine wlk ?_;intros);clear hm;refine aB (α:=Nat) mixed (fun j=>[(0,.val (.string w)),(1,.lst false 1 (pats.map fun s=> .val (.string s))),(5,.row 0 1 0 (w.size+1)),(6,.val (.string d)),(7,iv k),(8,.val (.string lt)),(9,.lst true 1 (lv.map pvN)),(10,iv a),(11,iv j)])
     (fun j=>[(0,3,1,(lvJ w.size a lv oa j).map pvN)]) (fun _=>1)
     (fun j=>j≤lv.length) (fun j=>lv.length-j) (by kernel_rfl) 0 (Nat.zero_le _) ?_ ?_ rfl ?_
    ·exact agr
    ·simp(disch:=(first|omega|(simp only[push_cast];first|done|omega))) only[push_cast,↓reduceIte,Rq,Rb,Ra,Rs,Rt,lvJ, *]
    intro j hj;by_cases hj0:j<lv.length
    ·obtain⟨oj1,oj2⟩:=hJ j
     clear hJ;have hs:lvJ w.size a lv oa (j+1)=aed w.size a j lv (lvJ w.size a lv oa j):=rfl;have hg3:=g3 j;by_cases hin:1≤a+j∧a+j≤w.size+1
     ·rw[af6 hin.1 hin.2]at hs
      replace hs:=Lib.hid hs;have api1:inB ((a:Int)+j-1) 0 w.size=true:=aD.2 ⟨by omega,by omega⟩;have hti:((a:Int)+j-1).toNat=a+j-1:=by omega
      generalize lvJ w.size a lv oa j=oj at*;(refine wlk ?_;intros);refine⟨j+1,by omega,by dsimp only;omega,?_,?_,rfl⟩
      ·exact agr
      ·dsimp only
       rw[hs.out];exact agr
     ·rw[aci hin]at hs
      replace hs:=Lib.hid hs;have api1:inB ((a:Int)+j-1) 0 w.size=false:=Bool.eq_false_iff.2 fun q=>by have:=aD.1 q;omega
      generalize lvJ w.size a lv oa j=oj at*;(refine wlk ?_;intros);refine⟨j+1,by omega,by dsimp only;omega,?_,?_,rfl⟩
      ·exact agr
      ·dsimp only
       rw[hs.out];exact agr
    ·obtain rfl:j=lv.length:=by omega
     clear hJ;(refine wlk ?_;intros);refine⟨a+1,by omega,by dsimp only;omega,?_,?_,rfl⟩
     ·exact agr
     ·dsimp only
      rw[hn.out];exact agr
   ·have hn:=afW (sz:=w.size) (lv:=lv) (o:=o) hm
    replace hn:=Lib.hid hn;generalize lvA d w.size lt lv o a=oa at*;(refine wlk ?_;intros);refine⟨a+1,by omega,by dsimp only;omega,?_,?_,rfl⟩
    ·exact agr
    ·dsimp only
     rw[hn.out];exact agr
  ·have hae:a=w.size+3-lt.size:=by omega
   clear hA ho hap1 hap2;rw[←hae]at hnx;generalize lvA d w.size lt lv o a=oa at*;clear hae;(refine wlk ?_;intros);refine⟨k+1,by omega,by dsimp only;omega,?_,?_,rfl⟩
   ·exact agr
   ·dsimp only
    rw[hnx.out];exact agr
 ·obtain rfl:k=pats.length:=by omega
  obtain⟨o1,o2⟩:=hlo pats.length;clear hlo hpa;generalize lvP w pats pats.length=o at*;exact wlkF
def su (w:ByteArray) (pats:LS):List Int:=if vU w pats=true then lM w pats else []
def φPc:Fun:=F2 dS dSs fun w pats=>if ar2 w pats then some (.lst true 1 ((su w pats).map fun n=> .val (.int .i64 n)))else none
theorem ams {w:ByteArray} {pats:LS} (h:ar2 w pats):φPc [.val (.string w),.lst false 1 (pats.map fun s=> .val (.string s))]=some (.lst true 1 ((su w pats).map fun n=> .val (.int .i64 n))):=(fZ (A:=dS) (B:=dSs) w pats).trans (if_pos h)
abbrev LI:=List Int
theorem qI {T sz x:Nat} {es:List PV}:jc (lo (nO T sz es x)) (nO T sz es x):=by
 cases es with
 |nil=>trivial
 |cons e es=>show jc (lo [_]) [_];simp only[push_cast]
theorem att {sz:Nat} {lv:List Int} {k:Nat} (h:¬(2≤k∧k+3≤sz∧lv[k]?.getD 0 % 2=1)):plB sz lv k=false:=decide_eq_false h
theorem an6 {sz:Nat} {lv:List Int} {k:Nat} (h:2≤k∧k+3≤sz∧lv[k]?.getD 0 % 2=1):plB sz lv k=true:=decide_eq_true h
def aGp:Ctx:={fn:=aT [(211,φLv),(64,φIn)],io:=aT []}
theorem auX:au Tryz.prog aGp:=okΓ (fC Tryz.func211 akT (fC Tryz.func64 sD aj)) aj
def ag0:=ah (Γ:=aGp) (f:=211) (φ:=φLv) rfl
def alY:=ah (Γ:=aGp) (f:=64) (φ:=φIn) rfl
theorem akA:Sound Tryz.prog 171 φPc:=by
 refine gB mixed auX Tryz.func171 rfl 33 rfl [.tmp 4] rfl (by kernel_rfl) fun ps r hr=>?_;obtain⟨w,pats,rfl,hpre,rfl⟩:=gN hr;refine⟨by simp,?_⟩;simp only[dIs,dUs,dSs,bP,bS,bQ,bT,aP,bR,aQ,aO,aR,aL];have apl:=ank hpre;have api:=bI;unfold rR at apl;unfold su;cases hB:vU w pats with
 |false=>
  rw[hB,if_neg (by decide)]at apl;rw[if_neg (by decide)];clear hB hpre;have gpci_c211:=ag0;have gpci_c64:=alY;(refine wlk ?_;intros);refine aB (α:=Unit) mixed (fun _=>[(5,.val (.slice none 0 0)),(10,.lst true 1 []),(11,iv 0),(12,iv 0)]) (fun _=>[]) (fun _=>0) (fun _=>True) (fun _=>0) (by kernel_rfl) () trivial ?_ ?_ rfl ?_
  ·exact agr
  ·exact agr
  rintro⟨⟩-;(refine wlk ?_;intros);all_goals((with_reducible apply cO (by first|exact .inl rfl|exact .inr rfl));(exact sr))
  all_goals exact nil_le _ _
 |true=>
  rw[hB,if_pos rfl]at apl;rw[if_pos rfl];obtain⟨-,hw1,hw2⟩:=aG (jS.1 hB).1;obtain⟨l1,l2⟩:=ac0 w pats pats.length;unfold lM;have he:iZ w pats=lvP w pats pats.length:=rfl;rw[he]at apl⊢;generalize lvP w pats pats.length=lv at*;clear hB hpre he;have hP0:plK w.size lv 0=[]:=rfl;have hPl:=amw w.size lv;have gpci_c211:=ag0;have gpci_c64:=alY;(refine wlk ?_;intros);refine aB (α:=Nat×LI×Nat×Nat) mixed (fun z=>[(0,.val (.string w)),(5,nP 1 (z.2.1.map pvN) z.2.2.1),(10,.lst true 1 (lv.map pvN)),(11,iv lv.length),(12,iv z.1)])
   (fun z=>nO 3 1 (z.2.1.map pvN) z.2.2.1) (fun z=>z.2.2.2)
   (fun z=>z.1≤lv.length∧z.2.1=plK w.size lv z.1∧(0<z.2.1.length→z.2.2.1<z.2.2.2)) (fun z=>lv.length-z.1) (by kernel_rfl) (0,[],0,0) ⟨Nat.zero_le _,rfl,by simp⟩ ?_ ?_ rfl ?_
  ·exact agr
  ·exact agr
  rintro⟨k,out,x,y⟩ ⟨hk,hI,hxy⟩;dsimp only at hk hI hxy;have hol:out.length≤22:=by rw[hI];have:=hPl k;omega
  clear hPl hP0;by_cases h0:k<lv.length
  ·have hlk:=l2 k
   by_cases hc:2≤k∧k+3≤w.size∧lv[k]?.getD 0 % 2=1
   ·have hI2:out++[(k:Int)]=plK w.size lv (k+1):=by rw[aeH (an6 hc),←hI]
    replace hI2:=Lib.hid hI2;obtain⟨c1,c2,c3⟩:=hc;have api1:inB (k:Int) 2 ((w.size:Int)-3)=true:=aD.2 ⟨by omega,by omega⟩;clear hI l2;by_cases hz:out.length=0
    ·obtain rfl:out=[]:=List.eq_nil_of_length_eq_zero hz
     (refine wlk ?_;intros);refine⟨(k+1,[]++[(k:Int)],y+1,y+2),⟨by dsimp only;omega,hI2.out,fun _=>by dsimp only;omega⟩,by dsimp only;omega,?_,?_,rfl⟩
     ·exact agr
     ·exact agr
    ·have hxy:=hxy (by omega)
     have hap:0<(out.map pvN).length:=by rw[List.length_map];omega
     clear hz;have hap3:0<((out++[(k:Int)]).map pvN).length:=by simp
     simp only[av hap,ay hap,List.length_map];(refine wlk ?_;intros);refine⟨(k+1,out++[(k:Int)],y+1,y+2),⟨by dsimp only;omega,hI2.out,fun _=>by dsimp only;omega⟩,by dsimp only;omega,?_,?_,rfl⟩
     ·simp(disch:=(first|omega|(simp only[push_cast];first|done|omega))) only[push_cast,↓reduceIte,Rq,Rb,Ra,Rs,Rt,av hap3,List.length_append, *]
     ·simp(disch:=(first|omega|(simp only[push_cast];first|done|omega))) only[push_cast,↓reduceIte,Rq,Rb,Ra,Rs,Rt,ay hap3, *]
   ·have hI2:out=plK w.size lv (k+1):=by rw[z8 (att hc),←hI]
    replace hI2:=Lib.hid hI2;clear hI l2;by_cases c3:lv[k]?.getD 0 % 2=1
    ·have api1:inB (k:Int) 2 ((w.size:Int)-3)=false:=Bool.eq_false_iff.2 fun q=>by have:=aD.1 q;omega
     clear hc;(refine wlk ?_;intros);refine⟨(k+1,out,x,y),⟨by dsimp only;omega,hI2.out,hxy⟩,by dsimp only;omega,?_,qI,rfl⟩
     ·exact agr
    ·clear hc
     (refine wlk ?_;intros);refine⟨(k+1,out,x,y),⟨by dsimp only;omega,hI2.out,hxy⟩,by dsimp only;omega,?_,qI,rfl⟩
     ·exact agr
  ·obtain rfl:k=lv.length:=by omega
   rw[←l1,←hI];clear hI l2;by_cases hz:out.length=0
   ·obtain rfl:out=[]:=List.eq_nil_of_length_eq_zero hz
    (refine wlk ?_;intros);all_goals((with_reducible apply cO (by first|exact .inl rfl|exact .inr rfl));(exact sr))
    all_goals exact nil_le _ _
   ·have hxy:=hxy (by omega)
    have hap:0<(out.map pvN).length:=by rw[List.length_map];omega
    clear hz;simp only[av hap,ay hap,List.length_map];(refine wlk ?_;intros);all_goals((with_reducible apply cO (by first|exact .inl rfl|exact .inr rfl));(exact sr))
    all_goals exact PV.le_refl _
def aGQ:Ctx:={fn:=aT [(186,φLv)],io:=aT []}
theorem awC:au Tryz.prog aGQ:=okΓ (fC Tryz.func186 alW aj) aj
def ahv:=ah (Γ:=aGQ) (f:=186) (φ:=φLv) rfl
theorem am8:Sound Tryz.prog 134 φPc:=by
 refine ak mixed awC Tryz.func134 rfl 30 rfl [.tmp 4] rfl (by kernel_rfl) fun ps r hr=>?_;obtain⟨w,pats,rfl,hpre,rfl⟩:=gN hr;refine⟨by simp,?_⟩;simp only[dIs,dUs,dSs,bP,bS,bQ,bT,aP,bR,aQ,aO,aR,aL];have apl:=ank hpre;unfold rR at apl;unfold su;cases hB:vU w pats with
 |false=>
  rw[hB,if_neg (by decide)]at apl;rw[if_neg (by decide)];clear hB hpre;have gpcs_c186:=ahv;(refine wlk ?_;intros);refine aB (α:=Unit) mixed (fun _=>[(5,.row 0 1 0 0),(6,.lst true 1 []),(7,iv 2)]) (fun _=>[(0,3,1,[])]) (fun _=>1) (fun _=>True) (fun _=>0) (by kernel_rfl) () trivial ?_ ?_ rfl ?_
  ·exact agr
  ·exact agr
  rintro⟨⟩-;exact wlkF
 |true=>
  rw[hB,if_pos rfl]at apl;rw[if_pos rfl];obtain⟨-,hw1,hw2⟩:=aG (jS.1 hB).1;obtain⟨l1,l2⟩:=ac0 w pats pats.length;unfold lM;have he:iZ w pats=lvP w pats pats.length:=rfl;rw[he]at apl⊢;generalize lvP w pats pats.length=lv at*;clear hB hpre he;have hP0:=@avT w.size lv;have hPl:=amw w.size lv;have hPh:∀k,w.size<k+3→k≤w.size+1→plK w.size lv (w.size+1)=plK w.size lv k:=fun k h1 h2=>by
   have:=agd (lv:=lv) h1 (w.size+1-k)
   rwa[show k+(w.size+1-k)=w.size+1 by omega]at this
  have hPs:w.size<5→plK w.size lv (w.size+1)=plK w.size lv 2:=fun h=>by rw[arO h,hP0]
  replace hP0:=Lib.hid hP0;have gpcs_c186:=ahv;(refine wlk ?_;intros);refine aB (α:=Nat×LI×Nat×Nat) mixed (fun z=>[(5,.row z.2.2.1 1 0 z.2.1.length),(6,.lst true 1 (lv.map pvN)),(7,iv z.1)])
   (fun z=>[(z.2.2.1,3,1,z.2.1.map pvN)]) (fun z=>z.2.2.2)
   (fun z=>2≤z.1∧(2<z.1→z.1+2≤w.size)∧z.2.1=plK w.size lv z.1∧z.2.2.1<z.2.2.2) (fun z=>lv.length-z.1) (by kernel_rfl) (2,[],0,1) ⟨by simp,by simp,hP0.out.symm,by simp⟩ ?_ ?_ rfl ?_
  ·exact agi
  ·exact agr
  rintro⟨k,out,x,y⟩ ⟨hk,hk2,hI,hxy⟩;dsimp only at hk hk2 hI hxy;have hol:out.length≤22:=by
   rw[hI];by_cases h2:2<k
   ·have:=hPl k;have:=hk2 h2;omega
   ·have:=hPl k;omega
  clear hPl hP0;by_cases h0:k+3<lv.length
  ·have hlk:=l2 k
   by_cases c3:lv[k]?.getD 0 % 2=1
   ·have hI2:out++[(k:Int)]=plK w.size lv (k+1):=by rw[aeH (an6 ⟨hk,by omega,c3⟩),←hI]
    replace hI2:=Lib.hid hI2;clear hI l2 hPh hPs;(refine wlk ?_;intros);refine⟨(k+1,out++[(k:Int)],y+1,y+2),⟨by dsimp only;omega,fun _=>by dsimp only;omega,hI2.out,by dsimp only;omega⟩,by dsimp only;omega,?_,?_,rfl⟩
    ·exact agr
    ·exact agr
   ·have hI2:out=plK w.size lv (k+1):=by rw[z8 (att fun q=>c3 q.2.2),←hI]
    replace hI2:=Lib.hid hI2;clear hI l2 hPh hPs;(refine wlk ?_;intros);refine⟨(k+1,out,x,y),⟨by dsimp only;omega,fun _=>by dsimp only;omega,hI2.out,hxy⟩,by dsimp only;omega,?_,?_,rfl⟩
    ·exact agr
    ·exact agr
  ·have hfin:plK w.size lv (w.size+1)=out:=by
    rw[hI];by_cases h5:w.size<5
    ·by_cases h2:2<k
     ·have:=hk2 h2
      omega
     ·obtain rfl:k=2:=by omega
      exact hPs h5
    ·refine hPh k (by omega) ?_
     by_cases h2:2<k
     ·have:=hk2 h2;omega
     ·omega
   rw[hfin];clear hI l2 hPh hPs hfin;exact wlkF
def bO (w:ByteArray) (pats:LS):LS:=if vU w pats=true then acv w pats else []
def φPr:Fun:=F2 dS dSs fun w pats=>if ar2 w pats then some (.lst true 1 ((bO w pats).map fun s=> .val (.string s)))else none
theorem aex {w:ByteArray} {pats:LS} (h:ar2 w pats):φPr [.val (.string w),.lst false 1 (pats.map fun s=> .val (.string s))]=some (.lst true 1 ((bO w pats).map fun s=> .val (.string s))):=(fZ (A:=dS) (B:=dSs) w pats).trans (if_pos h)
def aEz:Ctx:={fn:=aT [(81,fu),(71,gT),(171,φPc)],io:=aT []}
theorem avj:au Tryz.prog aEz:=okΓ (fC Tryz.func81 d9 (fC Tryz.func71 dK (fC Tryz.func171 akA aj))) aj
def ae1:=ah (Γ:=aEz) (f:=81) (φ:=fu) rfl
def aeV:=ah (Γ:=aEz) (f:=71) (φ:=gT) rfl
def abP:=ah (Γ:=aEz) (f:=171) (φ:=φPc) rfl
theorem anP:Sound Tryz.prog 120 φPr:=by
 refine gB mixed avj Tryz.func120 rfl 40 rfl [.tmp 4] rfl (by kernel_rfl) fun ps r hr=>?_;obtain⟨w,pats,rfl,hpre,rfl⟩:=gN hr;refine⟨by simp,?_⟩;simp only[dIs,dUs,dSs,bP,bS,bQ,bT,aP,bR,aQ,aO,aR,aL];have ap1:=fV (s:=w) (by omega);have ap2:=iU hpre.2;have apc:=ams hpre;unfold su at apc;unfold bO;cases hw:bY w with
 |false=>
  have hB:vU w pats=false:=by unfold vU;rw[hw];rfl
  rw[hw]at ap1;rw[hB,if_neg (by decide)];clear apc hpre hw hB;have gpri_c81:=ae1;have gpri_c71:=aeV;have gpri_c171:=abP;(refine wlk ?_;intros);all_goals((with_reducible apply cO (by first|exact .inl rfl|exact .inr rfl));(exact sr))
  all_goals exact nil_le _ _
 |true=>
 cases hp:bA pats with
 |false=>
  have hB:vU w pats=false:=by unfold vU;rw[hw,hp];rfl
  rw[hw]at ap1;rw[hp]at ap2;rw[hB,if_neg (by decide)];clear apc hpre hw hp hB;have gpri_c81:=ae1;have gpri_c71:=aeV;have gpri_c171:=abP;(refine wlk ?_;intros);all_goals((with_reducible apply cO (by first|exact .inl rfl|exact .inr rfl));(exact sr))
  all_goals exact nil_le _ _
 |true=>
  have hB:vU w pats=true:=by unfold vU;rw[hw,hp];rfl
  have hok:=nH (pats:=pats) hw;obtain⟨-,hw1,hw2⟩:=aG hw;rw[hw]at ap1;rw[hp]at ap2;rw[hB,if_pos rfl]at apc;rw[hB,if_pos rfl];unfold acv;have hfr:=o7 hok hw1;generalize lM w pats=pl at*;obtain⟨hl,hat⟩:=hok;unfold ptR;have hpl:=abX w pl;clear hB hw hp hpre;have gpri_c81:=ae1;have gpri_c71:=aeV;have gpri_c171:=abP;(refine wlk ?_;intros);refine aB (α:=Nat×Nat×Nat) mixed (fun z=>[(0,.val (.string w)),(5,nP 1 ((ptF w pl z.1).map pvS) z.2.1),(6,iv (frK pl z.1)),(19,.lst true 1 (pl.map pvN)),(20,iv pl.length),(21,iv z.1)])
   (fun z=>nO 9 1 ((ptF w pl z.1).map pvS) z.2.1) (fun z=>z.2.2)
   (fun z=>z.1≤pl.length∧(0<z.1→z.2.1<z.2.2)) (fun z=>pl.length-z.1) (by kernel_rfl) (0,0,0) ⟨Nat.zero_le _,by simp⟩ ?_ ?_ rfl ?_
  ·simp(disch:=(first|omega|(simp only[push_cast];first|done|omega))) only[push_cast,↓reduceIte,Rq,Rb,Ra,Rs,Rt,ptF,frK,List.map_nil, *]
  ·simp(disch:=(first|omega|(simp only[push_cast];first|done|omega))) only[push_cast,↓reduceIte,Rq,Rb,Ra,Rs,Rt,ptF,List.map_nil, *]
  rintro⟨k,x,y⟩ ⟨hk,hxy⟩;dsimp only at hk hxy;have hlk:=hpl k;have hfk:=hfr k hk;by_cases h0:k<pl.length
  ·obtain⟨a1,a2⟩:=hat k h0
   have hn:ptF w pl (k+1)=ptF w pl k++[w.extract (frK pl k).toNat (pl[k]?.getD 0).toNat]:=rfl;have hf:=vR pl k;replace hn:=Lib.hid hn;replace hf:=Lib.hid hf;generalize ptF w pl k=out at*;generalize frK pl k=fr at*;clear hat hpl hfr;by_cases hz:out.length=0
   ·obtain rfl:out=[]:=List.eq_nil_of_length_eq_zero hz
    (refine wlk ?_;intros);refine⟨(k+1,y+1,y+2),⟨by dsimp only;omega,fun _=>by dsimp only;omega⟩,by dsimp only;omega,?_,?_,rfl⟩
    ·dsimp only
     rw[hn.out,hf.out];exact agr
    ·dsimp only
     rw[hn.out];exact agr
   ·have hxy:=hxy (by omega)
    have hap:0<(out.map pvS).length:=by rw[List.length_map];omega
    clear hz;have hap3:0<((out++[w.extract fr.toNat (pl[k]?.getD 0).toNat]).map pvS).length:=by simp
    simp only[av hap,ay hap,List.length_map];(refine wlk ?_;intros);refine⟨(k+1,y+1,y+2),⟨by dsimp only;omega,fun _=>by dsimp only;omega⟩,by dsimp only;omega,?_,?_,rfl⟩
    ·dsimp only
     rw[hn.out,hf.out];simp(disch:=(first|omega|(simp only[push_cast];first|done|omega))) only[push_cast,↓reduceIte,Rq,Rb,Ra,Rs,Rt,av hap3,List.length_append, *]
    ·dsimp only
     rw[hn.out];simp(disch:=(first|omega|(simp only[push_cast];first|done|omega))) only[push_cast,↓reduceIte,Rq,Rb,Ra,Rs,Rt,ay hap3, *]
  ·obtain rfl:k=pl.length:=by omega
   generalize ptF w pl pl.length=out at*;generalize frK pl pl.length=fr at*;clear hat hpl hfr;by_cases hz:out.length=0
   ·obtain rfl:out=[]:=List.eq_nil_of_length_eq_zero hz
    (refine wlk ?_;intros);all_goals((with_reducible apply cO (by first|exact .inl rfl|exact .inr rfl));(exact sr))
    all_goals exact PV.le_refl _
   ·have hxy:=hxy (by omega)
    have hap:0<(out.map pvS).length:=by rw[List.length_map];omega
    clear hz;simp only[av hap,ay hap,List.length_map];(refine wlk ?_;intros);all_goals((with_reducible apply cO (by first|exact .inl rfl|exact .inr rfl));(exact sr))
    all_goals exact PV.le_refl _
def aEg:Ctx:={fn:=aT [(68,fu),(33,gT),(134,φPc)],io:=aT []}
theorem ax2:au Tryz.prog aEg:=okΓ (fC Tryz.func68 eG (fC Tryz.func33 dM (fC Tryz.func134 am8 aj))) aj
def aee:=ah (Γ:=aEg) (f:=68) (φ:=fu) rfl
def afh:=ah (Γ:=aEg) (f:=33) (φ:=gT) rfl
def abd:=ah (Γ:=aEg) (f:=134) (φ:=φPc) rfl
theorem adC:Sound Tryz.prog 98 φPr:=by
 refine ak mixed ax2 Tryz.func98 rfl 48 rfl [.tmp 4] rfl (by kernel_rfl) fun ps r hr=>?_;obtain⟨w,pats,rfl,hpre,rfl⟩:=gN hr;refine⟨by simp,?_⟩;simp only[dIs,dUs,dSs,bP,bS,bQ,bT,aP,bR,aQ,aO,aR,aL];have ap1:=fV (s:=w) (by omega);have ap2:=iU hpre.2;have apc:=ams hpre;unfold su at apc;unfold bO;cases hw:bY w with
 |false=>
  have hB:vU w pats=false:=by unfold vU;rw[hw];rfl
  rw[hw]at ap1;rw[hB,if_neg (by decide)];clear apc hpre hw hB;have gprs_c68:=aee;have gprs_c33:=afh;have gprs_c134:=abd;exact wlkF
 |true=>
 cases hp:bA pats with
 |false=>
  have hB:vU w pats=false:=by unfold vU;rw[hw,hp];rfl
  rw[hw]at ap1;rw[hp]at ap2;rw[hB,if_neg (by decide)];clear apc hpre hw hp hB;have gprs_c68:=aee;have gprs_c33:=afh;have gprs_c134:=abd;exact wlkF
 |true=>
  have hB:vU w pats=true:=by unfold vU;rw[hw,hp];rfl
  have hok:=nH (pats:=pats) hw;obtain⟨-,hw1,hw2⟩:=aG hw;rw[hw]at ap1;rw[hp]at ap2;rw[hB,if_pos rfl]at apc;rw[hB,if_pos rfl];unfold acv;have hfr:=o7 hok hw1;generalize lM w pats=pl at*;obtain⟨hl,hat⟩:=hok;unfold ptR;have hpl:=abX w pl;clear hB hw hp hpre;have gprs_c68:=aee;have gprs_c33:=afh;have gprs_c134:=abd;(refine wlk ?_;intros);refine aB (α:=Nat×Nat×Nat) mixed (fun z=>[(0,.val (.string w)),(5,.row z.2.1 1 0 (ptF w pl z.1).length),(6,.lst true 1 (pl.map pvN)),(7,iv (frK pl z.1)),(8,iv z.1)])
   (fun z=>[(z.2.1,9,1,(ptF w pl z.1).map pvS)]) (fun z=>z.2.2)
   (fun z=>z.1≤pl.length∧z.2.1<z.2.2) (fun z=>pl.length-z.1) (by kernel_rfl) (0,0,1) ⟨Nat.zero_le _,by simp⟩ ?_ ?_ rfl ?_
  ·simp(disch:=(first|omega|(simp only[push_cast];first|done|omega))) only[push_cast,↓reduceIte,Rq,Rb,Ra,Rs,Rt,ptF,frK,List.length_nil, *]
  ·simp(disch:=(first|omega|(simp only[push_cast];first|done|omega))) only[push_cast,↓reduceIte,Rq,Rb,Ra,Rs,Rt,ptF,List.map_nil, *]
  rintro⟨k,x,y⟩ ⟨hk,hxy⟩;dsimp only at hk hxy;have hlk:=hpl k;have hfk:=hfr k hk;by_cases h0:k<pl.length
  ·obtain⟨a1,a2⟩:=hat k h0
   have hn:ptF w pl (k+1)=ptF w pl k++[w.extract (frK pl k).toNat (pl[k]?.getD 0).toNat]:=rfl;have hf:=vR pl k;replace hn:=Lib.hid hn;replace hf:=Lib.hid hf;generalize ptF w pl k=out at*;generalize frK pl k=fr at*;clear hat hpl hfr;(refine wlk ?_;intros);refine⟨(k+1,y+1,y+2),⟨by dsimp only;omega,by dsimp only;omega⟩,by dsimp only;omega,?_,?_,rfl⟩
   ·dsimp only
    rw[hn.out,hf.out];exact agr
   ·dsimp only
    rw[hn.out];exact agr
  ·obtain rfl:k=pl.length:=by omega
   generalize ptF w pl pl.length=out at*;generalize frK pl pl.length=fr at*;clear hat hpl hfr;exact wlkF
end
end Go.Proofs.YtmmafcjjlbgnkaaGreatDoor
