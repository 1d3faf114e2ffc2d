/- What the proof rests on, part 8: contracts of functions. No condition beyond what each states. -/
import Derived.Test.YtmmafcjjlbgnkaaGreatDoorZPr7
namespace Go.Proofs.YtmmafcjjlbgnkaaGreatDoor
open Go.RowKit
set_option linter.all false
set_option maxHeartbeats 32000000
noncomputable section
def amB (c:Int) (s:ByteArray):Bool:=s.data.toList.any fun b=>decide (c=(b.toNat:Int))
theorem axF {b:UInt8} {c:Int} (h0:0≤c) (h1:c≤255):(b==c.toNat.toUInt8)=decide (c=(b.toNat:Int)):=by
 have e:(c.toNat.toUInt8).toNat=c.toNat:=by show c.toNat % 256=c.toNat;omega
 rw[Bool.eq_iff_iff,beq_iff_eq,decide_eq_true_eq];constructor
 ·intro h
  rw[h,e];omega
 ·intro h
  apply UInt8.toNat_inj.1;rw[e];omega
theorem anG:∀(l:List UInt8) {c:Int},0≤c→c≤255→decide (0≤Lib.indexByte l c.toNat.toUInt8)=l.any fun b=>decide (c=(b.toNat:Int))
 |[],c,_,_=>rfl
 |b::l,c,h0,h1=>by
  have ih:=anG l h0 h1;have hge:=Lib.indexByte_ge l c.toNat.toUInt8;unfold Lib.indexByte;rw[axF h0 h1,List.any_cons];cases hb:decide (c=(b.toNat:Int))with
  |true=>rfl
  |false=>
   rw[Bool.false_or,←ih,if_neg (by decide)];split
   ·rename_i hx
    rw[beq_iff_eq.1 hx]
   ·rename_i hx
    have hx1:¬Lib.indexByte l c.toNat.toUInt8=-1:=fun e=>hx (beq_iff_eq.2 e);exact decide_eq_decide.2 (by omega)
def aaR (c:Int):Int:=if c<97∨122<c then 0 else if c=105∨c=106∨c=108 then 3 else if c=102∨c=114∨c=116 then 4 else if c=109∨c=119 then 8 else 5
def oh (a b:Int):Int:=if((a=118∨a=119∨a=121)∧(b=97∨b=101∨b=111))∨(a=114∧(b=110∨b=109))then 1 else 0
def pF (a b:Int):Bool:=decide (a=102∧(b=105∨b=106∨b=108∨b=102))
theorem xS (c:Int):0≤aaR c∧aaR c≤8:=by
 unfold aaR
 repeat' split
 all_goals omega
theorem u6 (a b:Int):0≤oh a b∧oh a b≤1:=by unfold oh;split<;>omega
def ady:Fun:=F1 dU fun c=>some (iv (aaR c))
theorem agm (c:Int):ady [.val (.int .u8 c)]=some (.val (.int .i64 (aaR c))):=rfl
def ad6:Fun:=F2 dU dU fun a b=>some (iv (oh a b))
theorem ajr (a b:Int):ad6 [.val (.int .u8 a),.val (.int .u8 b)]=some (.val (.int .i64 (oh a b))):=rfl
def xP:Fun:=F2 dU dU fun a b=>some (bv (pF a b))
theorem ae5 (a b:Int):xP [.val (.int .u8 a),.val (.int .u8 b)]=some (.val (.bool (pF a b))):=rfl
theorem abO:Sound Tryz.prog 219 ady:=by
 refine au mixed bJ Tryz.func219 rfl 39 rfl [.tmp 2] rfl (by kernel_rfl) fun ps r hr=>?_;obtain⟨c,rfl,hr⟩:=bQ hr;cases hr;refine⟨by simp,?_⟩;simp only[dIs,dUs,dSs,dz,dF,dx,dG,aR,dD,aU,aV,aS,aT];(repeat' (first|(with_reducible first|apply fM|apply bF|apply cO|apply dn|apply fG|apply mJ|apply fK|apply fP|apply mH|apply fB|apply fE|apply mI|apply fO|apply fH|apply fJ)|((with_reducible apply bg);(simp only[List.map_cons,List.map_nil]<;>exact rfl))|((with_reducible apply dh);(simp only[List.map_cons,List.map_nil]<;>exact rfl);decide+kernel)|((with_reducible apply fI);rfl)|((first|((with_reducible apply i_V);rfl;rfl;rfl)|((first|((with_reducible apply i_E);rfl)|((with_reducible apply i_S);rfl));first|rfl|(simp only[push_cast,↓reduceIte]))|((with_reducible apply mM);rfl;rfl)|((with_reducible apply mE);rfl;rfl;rfl)|(with_reducible first|apply mG|apply cZ));(simp(disch:=(first|omega|(simp only[push_cast];first|done|omega))) only[push_cast,↓reduceIte,Nat.reduceEqDiff,Nat.reduceBEq,Nat.reduceAdd,Nat.reduceSub,Int.reduceToNat, *]<;>with_reducible exact rfl);all_goals try(first|(with_reducible first|refine hyT ?_|refine hyF ?_|exact hyA|exact hyB)|(intro hX;first|(cases hX;done)|((try simp only[decide_eq_true_eq,decide_eq_false_iff_not,Bool.not_eq_true',Bool.not_eq_false']at hX);(try have hXb:=av.1 hX)))))));all_goals try(exfalso;omega)
 all_goals((first|apply afT|apply vI);simp(disch:=(first|omega|(simp only[push_cast];first|done|omega))) only[push_cast,↓reduceIte,Nat.reduceEqDiff,Nat.reduceBEq,Nat.reduceAdd,Nat.reduceSub,Int.reduceToNat, *])
 all_goals((refine congrArg (fun z=>some (PV.val (Value.int IntKind.i64 z))) ?_);unfold aaR;repeat' split)
 all_goals omega
theorem abH:Sound Tryz.prog 220 ad6:=by
 refine au mixed bJ Tryz.func220 rfl 43 rfl [.tmp 4] rfl (by kernel_rfl) fun ps r hr=>?_;obtain⟨a,b,rfl,hr⟩:=uz hr;cases hr;refine⟨by simp,?_⟩;simp only[dIs,dUs,dSs,dz,dF,dx,dG,aR,dD,aU,aV,aS,aT];(repeat' (first|(with_reducible first|apply fM|apply bF|apply cO|apply dn|apply fG|apply mJ|apply fK|apply fP|apply mH|apply fB|apply fE|apply mI|apply fO|apply fH|apply fJ)|((with_reducible apply bg);(simp only[List.map_cons,List.map_nil]<;>exact rfl))|((with_reducible apply dh);(simp only[List.map_cons,List.map_nil]<;>exact rfl);decide+kernel)|((with_reducible apply fI);rfl)|((first|((with_reducible apply i_V);rfl;rfl;rfl)|((first|((with_reducible apply i_E);rfl)|((with_reducible apply i_S);rfl));first|rfl|(simp only[push_cast,↓reduceIte]))|((with_reducible apply mM);rfl;rfl)|((with_reducible apply mE);rfl;rfl;rfl)|(with_reducible first|apply mG|apply cZ));(simp(disch:=(first|omega|(simp only[push_cast];first|done|omega))) only[push_cast,↓reduceIte,Nat.reduceEqDiff,Nat.reduceBEq,Nat.reduceAdd,Nat.reduceSub,Int.reduceToNat, *]<;>with_reducible exact rfl);all_goals try(first|(with_reducible first|refine hyT ?_|refine hyF ?_|exact hyA|exact hyB)|(intro hX;first|(cases hX;done)|((try simp only[decide_eq_true_eq,decide_eq_false_iff_not,Bool.not_eq_true',Bool.not_eq_false']at hX);(try have hXb:=av.1 hX)))))));all_goals try(exfalso;omega)
 all_goals((first|apply afT|apply vI);simp(disch:=(first|omega|(simp only[push_cast];first|done|omega))) only[push_cast,↓reduceIte,Nat.reduceEqDiff,Nat.reduceBEq,Nat.reduceAdd,Nat.reduceSub,Int.reduceToNat, *])
 all_goals((refine congrArg (fun z=>some (PV.val (Value.int IntKind.i64 z))) ?_);unfold oh;repeat' split)
 all_goals omega
theorem zh:Sound Tryz.prog 238 xP:=by refine au mixed bJ Tryz.func238 rfl 23 rfl [.tmp 4] rfl (by kernel_rfl) fun ps r hr=>?_;obtain⟨a,b,rfl,hr⟩:=uz hr;cases hr;refine⟨by simp,?_⟩;simp only[dIs,dUs,dSs,dz,dF,dx,dG,aR,dD,aU,aV,aS,aT];((refine wlk6 ?_ ?_ ?_ ?_ ?_ ?_<;>intros<;>try with_reducible exact trivial)<;>(refine fnG ?_;try with_reducible exact trivial));all_goals((refine congrArg (fun z=>some (PV.val (Value.bool z))) ?_);unfold pF;first|(simp;omega)|simp_all)
def φIb:Fun:=F2 dS dU fun s c=>some (iv (Lib.indexByte s.data.toList c.toNat.toUInt8))
theorem ayI:Sound Tryz.prog 234 φIb:=by
 intro w J ps args r hr hJ hT hargs;obtain⟨s,c,rfl,hq⟩:=uz hr;cases hq;simp only[bX]at hargs;obtain⟨v1,vs1,e1,h1,v2,vs2,rfl,h2,rfl⟩:=hargs;obtain rfl:args=#[v1,v2]:=by obtain⟨a⟩:=args;simp only at e1;rw[e1]
 simp only[dS,dU,Rep]at h1 h2;subst h1;subst h2;refine(YtmmafcjjlbgnkaaGreatDoor.strings_IndexByte s c w).mono ?_;rintro e w' ⟨rfl,rfl⟩;exact⟨_,rfl,Below.refl _ _,fun g' _=>by simp only[Rep]⟩
theorem ao0 (s:ByteArray) (c:Int):φIb [.val (.string s),.val (.int .u8 c)]=some (.val (.int .i64 (Lib.indexByte s.data.toList c.toNat.toUInt8))):=rfl
def φAm:Fun:=F2 dU dS fun c s=>open Classical in if 0≤c∧c≤255 then some (bv (amB c s))else none
theorem mW {c:Int} (s:ByteArray) (h:0≤c∧c≤255):φAm [.val (.int .u8 c),.val (.string s)]=some (.val (.bool (amB c s))):=(jm (A:=dU) (B:=dS) c s).trans (if_pos h)
def GAm:Ctx:={fn:=aY [(234,φIb)],io:=aY []}
theorem auz:ak Tryz.prog GAm:=okΓ (fC Tryz.func234 ayI aj) aj
def ar3:=ah (Γ:=GAm) (f:=234) (φ:=φIb) rfl
theorem adH:Sound Tryz.prog 213 φAm:=by refine au mixed auz Tryz.func213 rfl 9 rfl [.tmp 4] rfl (by kernel_rfl) fun ps r hr=>?_;obtain⟨c,s,rfl,hpre,rfl⟩:=iB hr;refine⟨by simp,?_⟩;simp only[dIs,dUs,dSs,dz,dF,dx,dG,aR,dD,aU,aV,aS,aT];have e:=anG s.data.toList hpre.1 hpre.2;have hge:=Lib.indexByte_ge s.data.toList c.toNat.toUInt8;have ap:=ao0 s c;unfold amB;rw[←e];generalize Lib.indexByte s.data.toList c.toNat.toUInt8=i at*;clear e;have gam_c234:=ar3;exact wlkF
theorem am2 (c a b:Int) (x y:UInt8) (h:(x.toNat:Int)=a) (h2:(y.toNat:Int)=b):amB c ⟨#[x,y]⟩=decide (c=a∨c=b):=by simp[amB,h,h2]
theorem am3 (c a b d:Int) (x y z:UInt8) (h:(x.toNat:Int)=a) (h2:(y.toNat:Int)=b) (h3:(z.toNat:Int)=d):amB c ⟨#[x,y,z]⟩=decide (c=a∨c=b∨c=d):=by simp[amB,h,h2,h3]
theorem am4 (c a b d e:Int) (x y z u:UInt8) (h:(x.toNat:Int)=a) (h2:(y.toNat:Int)=b) (h3:(z.toNat:Int)=d) (h4:(u.toNat:Int)=e):amB c ⟨#[x,y,z,u]⟩=decide (c=a∨c=b∨c=d∨c=e):=by simp[amB,h,h2,h3,h4]
def yt:Fun:=F1 dU fun c=>open Classical in if 0≤c∧c≤255 then some (iv (aaR c))else none
theorem afK {c:Int} (h:0≤c∧c≤255):yt [.val (.int .u8 c)]=some (.val (.int .i64 (aaR c))):=(gu (A:=dU) c).trans (if_pos h)
def wW:Fun:=F2 dU dU fun a b=>open Classical in if(0≤a∧a≤255)∧0≤b∧b≤255 then some (iv (oh a b))else none
theorem afn {a b:Int} (h:0≤a∧a≤255) (h2:0≤b∧b≤255):wW [.val (.int .u8 a),.val (.int .u8 b)]=some (.val (.int .i64 (oh a b))):=(jm (A:=dU) (B:=dU) a b).trans (if_pos ⟨h,h2⟩)
def wG:Fun:=F2 dU dU fun a b=>open Classical in if(0≤a∧a≤255)∧0≤b∧b≤255 then some (bv (pF a b))else none
theorem afc {a b:Int} (h:0≤a∧a≤255) (h2:0≤b∧b≤255):wG [.val (.int .u8 a),.val (.int .u8 b)]=some (.val (.bool (pF a b))):=(jm (A:=dU) (B:=dU) a b).trans (if_pos ⟨h,h2⟩)
def GLw:Ctx:={fn:=aY [(111,kW),(213,φAm)],io:=aY []}
theorem awm:ak Tryz.prog GLw:=okΓ (fC Tryz.func111 pX (fC Tryz.func213 adH aj)) aj
def aol:=ah (Γ:=GLw) (f:=111) (φ:=kW) rfl
def arv:=ah (Γ:=GLw) (f:=213) (φ:=φAm) rfl
theorem abz:Sound Tryz.prog 173 yt:=by
 refine au mixed awm Tryz.func173 rfl 16 rfl [.tmp 2] rfl (by kernel_rfl) fun ps r hr=>?_;obtain⟨c,rfl,hpre,rfl⟩:=jQ hr;refine⟨by simp,?_⟩;simp only[dIs,dUs,dSs,dz,dF,dx,dG,aR,dD,aU,aV,aS,aT];have ap1:=pR c;have ap2:=(mW ⟨#[105,106,108]⟩ hpre).trans (by rw[am3 c 105 106 108 _ _ _ rfl rfl rfl]);have ap3:=(mW ⟨#[102,114,116]⟩ hpre).trans (by rw[am3 c 102 114 116 _ _ _ rfl rfl rfl]);have ap4:=(mW ⟨#[109,119]⟩ hpre).trans (by rw[am2 c 109 119 _ _ rfl rfl]);have glw_c111:=aol;have glw_c213:=arv;((refine wlk6 ?_ ?_ ?_ ?_ ?_ ?_<;>intros<;>try with_reducible exact trivial)<;>(refine fnG ?_;try with_reducible exact trivial));all_goals((refine congrArg (fun z=>some (PV.val (Value.int IntKind.i64 z))) ?_);unfold aaR;repeat' split)
 all_goals(first|omega|(simp[inB]at*;omega))
def GNb:Ctx:={fn:=aY [(213,φAm)],io:=aY []}
theorem amI:ak Tryz.prog GNb:=okΓ (fC Tryz.func213 adH aj) aj
def aip:=ah (Γ:=GNb) (f:=213) (φ:=φAm) rfl
theorem abr:Sound Tryz.prog 174 wW:=by
 refine au mixed amI Tryz.func174 rfl 19 rfl [.tmp 4] rfl (by kernel_rfl) fun ps r hr=>?_;obtain⟨a,b,rfl,hpre,rfl⟩:=iB hr;refine⟨by simp,?_⟩;simp only[dIs,dUs,dSs,dz,dF,dx,dG,aR,dD,aU,aV,aS,aT];have ap1:=(mW ⟨#[118,119,121]⟩ hpre.1).trans (by rw[am3 a 118 119 121 _ _ _ rfl rfl rfl]);have ap2:=(mW ⟨#[97,101,111]⟩ hpre.2).trans (by rw[am3 b 97 101 111 _ _ _ rfl rfl rfl]);have ap3:=(mW ⟨#[110,109]⟩ hpre.2).trans (by rw[am2 b 110 109 _ _ rfl rfl]);have gnb_c213:=aip;((refine wlk6 ?_ ?_ ?_ ?_ ?_ ?_<;>intros<;>try with_reducible exact trivial)<;>(refine fnG ?_;try with_reducible exact trivial));all_goals((refine congrArg (fun z=>some (PV.val (Value.int IntKind.i64 z))) ?_);unfold oh;repeat' split)
 all_goals omega
theorem aaj:Sound Tryz.prog 212 wG:=by refine au mixed amI Tryz.func212 rfl 11 rfl [.tmp 4] rfl (by kernel_rfl) fun ps r hr=>?_;obtain⟨a,b,rfl,hpre,rfl⟩:=iB hr;refine⟨by simp,?_⟩;simp only[dIs,dUs,dSs,dz,dF,dx,dG,aR,dD,aU,aV,aS,aT];have ap1:=(mW ⟨#[105,106,108,102]⟩ hpre.2).trans (by rw[am4 b 105 106 108 102 _ _ _ _ rfl rfl rfl rfl]);have gnb_c213:=aip;((refine wlk6 ?_ ?_ ?_ ?_ ?_ ?_<;>intros<;>try with_reducible exact trivial)<;>(refine fnG ?_;try with_reducible exact trivial));all_goals((refine congrArg (fun z=>some (PV.val (Value.bool z))) ?_);unfold pF;first|(simp;omega)|simp_all)
abbrev sgN (s:ByteArray) (i:Nat):Nat:=if i+1<s.size∧pF (at8 s i) (at8 s (i+1))=true then 2 else 1
def sgF (s:ByteArray):Nat→Nat→LS
 |0,_=>[]
 |f+1,i=>if i<s.size then s.extract i (i+sgN s i)::sgF s f (i+sgN s i)else []
def signs (s:ByteArray):LS:=sgF s s.size 0
theorem qX {s:ByteArray} {f i:Nat} (h:i<s.size):sgF s (f+1) i=s.extract i (i+sgN s i)::sgF s f (i+sgN s i):=by rw[sgF,if_pos h]
theorem abM {s:ByteArray} {f i:Nat} (h:s.size≤i):sgF s f i=[]:=by
 cases f with
 |zero=>rfl
 |succ f=>rw[sgF,if_neg (by omega)]
theorem apg (s:ByteArray) (i:Nat):1≤sgN s i∧sgN s i≤2∧(i<s.size→i+sgN s i≤s.size):=by unfold sgN;split<;>omega
theorem agS {s:ByteArray} {a b j:Nat} (h:j<b-a) (hb:b≤s.size):at8 (s.extract a b) j=at8 s (a+j):=by
 unfold at8;have h1:j<(s.extract a b).size:=by rw[ByteArray.size_extract];omega
 rw[getElem?_pos (s.extract a b) j h1,getElem?_pos s (a+j) (by omega)];rw[ByteArray.getElem_extract]
def ase (x:ByteArray):Prop:=1≤x.size∧x.size≤2∧∀j,j<x.size→97≤at8 x j∧at8 x j≤122
theorem amE {s:ByteArray} (h:∀j,j<s.size→97≤at8 s j∧at8 s j≤122):∀(f i:Nat),(∀x∈sgF s f i,ase x)∧(sgF s f i).length≤s.size-i
 |0,i=>⟨by simp[sgF],by simp[sgF]⟩
 |f+1,i=>by
  by_cases hi:i<s.size
  ·obtain⟨h1,h2,h3⟩:=apg s i
   obtain⟨i1,i2⟩:=amE h f (i+sgN s i);rw[qX hi];refine⟨fun x hx=>?_,by rw[List.length_cons];have:=h3 hi;omega⟩;rcases List.mem_cons.1 hx with rfl|hx
   ·have hsz:(s.extract i (i+sgN s i)).size=sgN s i:=by rw[ByteArray.size_extract];have:=h3 hi;omega
    refine⟨by omega,by omega,fun j hj=>?_⟩;have h4:=h3 hi;rw[agS (by omega) (by omega)];exact h _ (by omega)
   ·exact i1 x hx
  ·rw[abM (by omega)]
   exact⟨by simp,by simp⟩
theorem aX {s:ByteArray} (h:dM s=true):(∀j,j<s.size→97≤at8 s j∧at8 s j≤122)∧1≤s.size∧s.size≤20:=by unfold dM at h;rw[Bool.and_eq_true,List.all_eq_true]at h;refine⟨fun j hj=>av.1 (h.1 j (List.mem_range.2 hj)),?_⟩;have:=av.1 h.2;omega
theorem oO {s:ByteArray} (h:dM s=true):(∀x∈signs s,ase x)∧1≤(signs s).length∧(signs s).length≤20:=by obtain⟨h1,h2,h3⟩:=aX h;obtain⟨i1,i2⟩:=amE h1 s.size 0;refine⟨i1,?_,by unfold signs;omega⟩;unfold signs;obtain⟨n,hn⟩:∃n,s.size=n+1:=⟨s.size-1,by omega⟩;rw[hn,qX (by omega),List.length_cons];omega
theorem yN {s:ByteArray} (h:dM s=true) {k:Nat} (hk:k<(signs s).length):ase ((signs s)[k]?.getD .empty):=by rw[List.getElem?_eq_getElem hk,Option.getD_some];exact(oO h).1 _ (List.getElem_mem hk)
def sgW (x:ByteArray):Nat→Int
 |0=>0
 |j+1=>sgW x j+aaR (at8 x j)
def wX (g:LS) (k:Nat):Int:=if k+1<g.length then oh (at8 (g[k]?.getD .empty) ((g[k]?.getD .empty).size-1)) (at8 (g[k+1]?.getD .empty) 0)else 0
def wdK (g:LS):Nat→Int
 |0=>0
 |k+1=>wdK g k+sgW (g[k]?.getD .empty) (g[k]?.getD .empty).size-((g[k]?.getD .empty).size-1)-wX g k
def p9 (s:ByteArray):Int:=if dM s=true then wdK (signs s) (signs s).length else-1
theorem acd {x:ByteArray} (h:ase x):∀j,j≤x.size→3*(j:Int)≤sgW x j∧sgW x j≤8*j
 |0,_=>⟨by simp[sgW],by simp[sgW]⟩
 |j+1,hj=>by
  have ih:=acd h j (by omega);have h1:=xS (at8 x j);have h2:=h.2.2 j (by omega);have h3:3≤aaR (at8 x j):=by
   unfold aaR;rw[if_neg (by omega)]
   repeat' split
   all_goals omega
  unfold sgW
  push_cast
  omega
theorem aec {x:ByteArray} (h:ase x):∀j,j≤x.size→0≤sgW x j∧sgW x j≤16:=fun j hj=>by have:=acd h j hj;have:=h.2.1;omega
theorem yD {g:LS} (h:∀k,k<g.length→ase (g[k]?.getD .empty)):∀k,k≤g.length→0≤wdK g k∧wdK g k≤16*k
 |0,_=>⟨by simp[wdK],by simp[wdK]⟩
 |k+1,hk=>by
  have ih:=yD h k (by omega);have h1:=h k (by omega);have h2:=acd h1 _ (Nat.le_refl _);have h3:=h1.1;have h4:=h1.2.1;have h5:0≤wX g k∧wX g k≤1:=by
   unfold wX;split
   ·exact u6 _ _
   ·omega
  unfold wdK;generalize wX g k=m at*;generalize sgW (g[k]?.getD .empty) (g[k]?.getD .empty).size=z at*;generalize(g[k]?.getD ByteArray.empty).size=y at*
  push_cast
  omega
theorem ahU {s:ByteArray} (h:dM s=true):0≤p9 s∧p9 s≤320:=by have h1:=yD (fun k hk=>yN h hk) _ (Nat.le_refl _);have h2:=(oO h).2.2;unfold p9;rw[if_pos h];omega
def iK (p:ByteArray):Nat→ByteArray×List Int×Int
 |0=>(⟨#[]⟩,[],0)
 |k+1=>if ab9 (at8 p k)=true then((iK p k).1,(iK p k).2.1,at8 p k-48)else((iK p k).1++p.extract k (k+1),(iK p k).2.1++[(iK p k).2.2],0)
def dH (p:ByteArray):ByteArray:=(iK p p.size).1
def eU (p:ByteArray):List Int:=(iK p p.size).2.1++[(iK p p.size).2.2]
theorem qZ {p:ByteArray} {k:Nat} (h:ab9 (at8 p k)=true):iK p (k+1)=((iK p k).1,(iK p k).2.1,at8 p k-48):=by rw[iK,if_pos h]
theorem rA {p:ByteArray} {k:Nat} (h:ab9 (at8 p k)=false):iK p (k+1)=((iK p k).1++p.extract k (k+1),(iK p k).2.1++[(iK p k).2.2],0):=by rw[iK,if_neg (by rw[h];decide)]
theorem nV (p:ByteArray):∀k,k≤p.size→(iK p k).1.size=(iK p k).2.1.length∧(iK p k).1.size≤k∧(0≤(iK p k).2.2∧(iK p k).2.2≤9)∧∀x∈(iK p k).2.1,0≤x∧x≤9
 |0,_=>⟨rfl,Nat.le_refl _,⟨Int.le_refl _,by show(0:Int)≤9;omega⟩,by simp[iK]⟩
 |k+1,hk=>by
  obtain⟨h1,h2,h3,h4⟩:=nV p k (by omega);cases hd:ab9 (at8 p k)with
  |true=>rw[qZ hd];have:=av.1 hd;exact⟨h1,by dsimp only;omega,by dsimp only;omega,h4⟩
  |false=>
   rw[rA hd];refine⟨?_,?_,⟨Int.le_refl _,by show(0:Int)≤9;omega⟩,fun x hx=>?_⟩
   ·dsimp only
    rw[ByteArray.size_append,ByteArray.size_extract,List.length_append,List.length_singleton];omega
   ·dsimp only
    rw[ByteArray.size_append,ByteArray.size_extract];omega
   ·rcases List.mem_append.1 hx with hx|hx
    ·exact h4 x hx
    ·rw[List.mem_singleton.1 hx]
     exact h3
theorem nE (p:ByteArray):(eU p).length=(dH p).size+1∧(dH p).size≤p.size∧∀k:Nat,0≤(eU p)[k]?.getD 0∧(eU p)[k]?.getD 0≤9:=by
 obtain⟨h1,h2,h3,h4⟩:=nV p p.size (Nat.le_refl _);refine⟨by unfold eU dH;rw[List.length_append,List.length_singleton];omega,h2,fun k=>?_⟩;by_cases hk:k<(eU p).length
 ·rw[List.getElem?_eq_getElem hk,Option.getD_some]
  have hm:(eU p)[k]∈eU p:=List.getElem_mem hk;rcases List.mem_append.1 hm with hm|hm
  ·exact h4 _ hm
  ·rw[List.mem_singleton.1 hm];exact h3
 ·rw[List.getElem?_eq_none (by omega)]
  decide
def ab5 (sz a j:Nat) (lv o:List Int):List Int:=if 1≤a+j∧a+j≤sz+1 then o.set (a+j-1) (if lv[j]?.getD 0>o[a+j-1]?.getD 0 then lv[j]?.getD 0 else o[a+j-1]?.getD 0)else o
def lvJ (sz a:Nat) (lv o:List Int):Nat→List Int
 |0=>o
 |j+1=>ab5 sz a j lv (lvJ sz a lv o j)
open Classical in
noncomputable def lvA (d:ByteArray) (sz:Nat) (lt:ByteArray) (lv o:List Int):Nat→List Int
 |0=>o
 |a+1=>if d.extract a (a+lt.size)=lt then lvJ sz a lv (lvA d sz lt lv o a) lv.length else lvA d sz lt lv o a
def aqs (w:ByteArray):ByteArray:=(⟨#[46]⟩++w)++⟨#[46]⟩
theorem aaf (w:ByteArray):(aqs w).size=w.size+2:=by unfold aqs;rw[ByteArray.size_append,ByteArray.size_append,show(⟨#[46]⟩:ByteArray).size=1 from rfl];omega
def lvP (w:ByteArray) (pats:LS):Nat→List Int
 |0=>List.replicate (w.size+1) 0
 |k+1=>lvA (aqs w) w.size (dH (pats[k]?.getD .empty)) (eU (pats[k]?.getD .empty)) (lvP w pats k) (w.size+3-(dH (pats[k]?.getD .empty)).size)
def iO (w:ByteArray) (pats:LS):List Int:=lvP w pats pats.length
def aeL (sz:Nat) (o:List Int):Prop:=o.length=sz+1∧∀k:Nat,0≤o[k]?.getD 0∧o[k]?.getD 0≤9
theorem aeL.set {sz a j:Nat} {lv o:List Int} (h:aeL sz o) (hl:∀k:Nat,0≤lv[k]?.getD 0∧lv[k]?.getD 0≤9):aeL sz (ab5 sz a j lv o):=by
 unfold ab5;split
 ·rename_i hc
  refine⟨by rw[List.length_set];exact h.1,fun k=>?_⟩;have h1:=h.2 (a+j-1);have h2:=hl j;have h3:=h.2 k;have h4:=h.1;by_cases hk:a+j-1=k
  ·subst hk
   rw[List.getElem?_set_self (by omega),Option.getD_some];split<;>omega
  ·rw[List.getElem?_set_ne hk]
   exact h3
 ·exact h
theorem aeL.lvJ {sz a:Nat} {lv o:List Int} (h:aeL sz o) (hl:∀k:Nat,0≤lv[k]?.getD 0∧lv[k]?.getD 0≤9):∀j,aeL sz (lvJ sz a lv o j)
 |0=>h
 |j+1=>(aeL.lvJ h hl j).set hl
theorem aeL.lvA {d lt:ByteArray} {sz:Nat} {lv o:List Int} (h:aeL sz o) (hl:∀k:Nat,0≤lv[k]?.getD 0∧lv[k]?.getD 0≤9):∀a,aeL sz (lvA d sz lt lv o a)
 |0=>h
 |a+1=>by
  unfold Go.Proofs.YtmmafcjjlbgnkaaGreatDoor.lvA;split
  ·exact(aeL.lvA h hl a).lvJ hl _
  ·exact aeL.lvA h hl a
theorem zX (w:ByteArray) (pats:LS):∀k,aeL w.size (lvP w pats k)
 |0=>⟨by simp[lvP],fun k=>by unfold lvP;rw[List.getElem?_replicate];split<;>decide⟩
 |k+1=>(zX w pats k).lvA (nE _).2.2 _
def plB (sz:Nat) (lv:List Int) (k:Nat):Bool:=decide (2≤k∧k+3≤sz∧lv[k]?.getD 0 % 2=1)
def plK (sz:Nat) (lv:List Int) (k:Nat):List Int:=((List.range k).filter (plB sz lv)).map fun k:Nat=>(k:Int)
theorem aaV {sz:Nat} {lv:List Int} {k:Nat} (h:plB sz lv k=true):plK sz lv (k+1)=plK sz lv k++[(k:Int)]:=by simp[plK,List.range_succ,List.filter_append,h]
theorem vZ {sz:Nat} {lv:List Int} {k:Nat} (h:plB sz lv k=false):plK sz lv (k+1)=plK sz lv k:=by simp[plK,List.range_succ,List.filter_append,h]
theorem aqz {sz:Nat} {lv:List Int}:plK sz lv 2=[]:=by rw[vZ (by simp[plB]),vZ (by simp[plB])];rfl
theorem aef {sz:Nat} {lv:List Int} {k:Nat} (h:sz<k+3):∀n,plK sz lv (k+n)=plK sz lv k
 |0=>rfl
 |n+1=>by rw[←Nat.add_assoc,vZ (by simp[plB];omega),aef h n]
theorem amm {sz:Nat} {lv:List Int} {k:Nat} (h:sz<5):plK sz lv k=[]:=by unfold plK;rw[List.filter_eq_nil_iff.2 fun x _=>by simp[plB];omega];rfl
def jZ (w:ByteArray) (pats:LS):List Int:=plK w.size (iO w pats) (w.size+1)
theorem af7 {sz:Nat} {lv:List Int} {k:Nat}:∀x∈plK sz lv k,2≤x∧x+3≤sz∧x<k:=fun x hx=>by obtain⟨n,hn,rfl⟩:=List.mem_map.1 hx;obtain⟨h1,h2⟩:=List.mem_filter.1 hn;have h3:=List.mem_range.1 h1;have h4:=of_decide_eq_true h2;omega
theorem abU (sz:Nat) (lv:List Int):∀k,(plK sz lv k).Pairwise (· < ·)
 |0=>List.Pairwise.nil
 |k+1=>by
  cases h:plB sz lv k with
  |true=>rw[aaV h,List.pairwise_append];refine⟨abU sz lv k,List.pairwise_singleton _ _,fun a ha b hb=>?_⟩;rw[List.mem_singleton.1 hb];exact(af7 a ha).2.2
  |false=>rw[vZ h];exact abU sz lv k
theorem af2 (sz:Nat) (lv:List Int) (k:Nat):(plK sz lv k).length≤k:=by unfold plK;rw[List.length_map];exact Nat.le_trans (List.length_filter_le _ _) (by simp)
def frK (pl:List Int) (k:Nat):Int:=if k=0 then 0 else pl[k-1]?.getD 0
def ptF (w:ByteArray) (pl:List Int):Nat→LS
 |0=>[]
 |k+1=>ptF w pl k++[w.extract (frK pl k).toNat (pl[k]?.getD 0).toNat]
def ptR (w:ByteArray) (pl:List Int):LS:=ptF w pl pl.length++[w.extract (frK pl pl.length).toNat w.size]
def aaz (w:ByteArray) (pats:LS):LS:=ptR w (jZ w pats)
theorem wS (w:ByteArray) (pl:List Int):∀k,(ptF w pl k).length=k
 |0=>rfl
 |k+1=>by rw[ptF,List.length_append,wS w pl k];rfl
def aw7 (w:ByteArray) (pl:List Int):Prop:=pl.length≤20∧∀k,k<pl.length→frK pl k<pl[k]?.getD 0∧pl[k]?.getD 0<w.size
theorem xw (pl:List Int) (k:Nat):frK pl (k+1)=pl[k]?.getD 0:=by unfold frK;rw[if_neg (by omega)];rfl
theorem su {w:ByteArray} {pl:List Int} (h:aw7 w pl) (hw:1≤w.size):∀k,k≤pl.length→0≤frK pl k∧frK pl k<w.size
 |0,_=>by simp[frK];omega
 |k+1,hk=>by have h1:=su h hw k (by omega);have h2:=h.2 k (by omega);rw[xw];omega
theorem nM {w:ByteArray} {pats:LS} (hw:dM w=true):aw7 w (jZ w pats):=by
 obtain⟨-,w1,w2⟩:=aX hw;have ha:=abU w.size (iO w pats) (w.size+1);have hm:=@af7 w.size (iO w pats) (w.size+1);refine⟨?_,fun k hk=>?_⟩
 ·unfold jZ plK
  rw[List.length_map];have:((List.range (w.size+1)).filter (plB w.size (iO w pats))).length≤((List.range (w.size+1)).filter (fun k=>decide (k<w.size))).length:=by rw[←List.countP_eq_length_filter,←List.countP_eq_length_filter];refine List.countP_mono_left fun x _ hx=>?_;have:=of_decide_eq_true hx;exact decide_eq_true (by omega)
  have h2:((List.range (w.size+1)).filter (fun k=>decide (k<w.size))).length≤w.size:=by rw[List.range_succ,List.filter_append];have h3:=List.length_filter_le (fun k=>decide (k<w.size)) (List.range w.size);rw[List.length_range]at h3;simp;omega
  omega
 ·unfold jZ at hk⊢
  generalize plK w.size (iO w pats) (w.size+1)=pl at*;rw[List.getElem?_eq_getElem hk,Option.getD_some];have h1:=hm _ (List.getElem_mem hk);refine⟨?_,by omega⟩;unfold frK;split
  ·omega
  ·rename_i h0
   rw[List.getElem?_eq_getElem (show k-1<pl.length by omega),Option.getD_some];exact List.pairwise_iff_getElem.1 ha (k-1) k (by omega) hk (by omega)
theorem zm {w:ByteArray} {a b:Nat} (hw:dM w=true) (h1:a<b) (h2:b≤w.size):dM (w.extract a b)=true:=by
 obtain⟨l1,l2,l3⟩:=aX hw;have hs:(w.extract a b).size=b-a:=by rw[ByteArray.size_extract];omega
 rw[rO fun j hj=>?_,hs]
 ·exact av.2 ⟨by omega,by omega⟩
 ·rw[agS (by omega) h2]
  exact l1 _ (by omega)
theorem adq {w:ByteArray} {pl:List Int} (hw:dM w=true) (h:aw7 w pl):∀k,k≤pl.length→∀x∈ptF w pl k,dM x=true
 |0,_=>by simp[ptF]
 |k+1,hk=>fun x hx=>by
  rw[ptF]at hx;rcases List.mem_append.1 hx with hx|hx
  ·exact adq hw h k (by omega) x hx
  ·rw[List.mem_singleton.1 hx]
   have h1:=h.2 k (by omega);have h2:=su h (aX hw).2.1 k (by omega);exact zm hw (by omega) (by omega)
theorem amy {w:ByteArray} {pl:List Int} (hw:dM w=true) (h:aw7 w pl):∀x∈ptR w pl,dM x=true:=fun x hx=>by
 rcases List.mem_append.1 hx with hx|hx
 ·exact adq hw h _ (Nat.le_refl _) x hx
 ·rw[List.mem_singleton.1 hx]
  have h2:=su h (aX hw).2.1 _ (Nat.le_refl _);exact zm hw (by omega) (Nat.le_refl _)
theorem ai7 (w:ByteArray) (pl:List Int):(ptR w pl).length=pl.length+1:=by unfold ptR;rw[List.length_append,wS];rfl
abbrev pvS (s:ByteArray):PV:=.val (.string s)
def φSg:Fun:=F1 dS fun s=>if dM s=true then some (.lst true 1 ((signs s).map fun s=> .val (.string s)))else none
theorem arN {s:ByteArray} (h:dM s=true):φSg [.val (.string s)]=some (.lst true 1 ((signs s).map fun s=> .val (.string s))):=(gu (A:=dS) s).trans (if_pos h)
def adL (s:ByteArray):LS:=if dM s=true then signs s else []
def aki:Fun:=F1 dS fun s=>if s.size≤1048576 then some (.lst true 1 ((adL s).map fun s=> .val (.string s)))else none
theorem ajY {s:ByteArray} (h:s.size≤1048576):aki [.val (.string s)]=some (.lst true 1 ((adL s).map fun s=> .val (.string s))):=(gu (A:=dS) s).trans (if_pos h)
def GSg:Ctx:={fn:=aY [(212,wG)],io:=aY []}
theorem asT:ak Tryz.prog GSg:=okΓ (fC Tryz.func212 aaj aj) aj
def arq:=ah (Γ:=GSg) (f:=212) (φ:=wG) rfl
theorem agw:Sound Tryz.prog 172 φSg:=by
 refine au mixed asT Tryz.func172 rfl 38 rfl [.tmp 2] rfl (by kernel_rfl) fun ps r hr=>?_;obtain⟨s,rfl,hpre,rfl⟩:=jQ hr;refine⟨by simp,?_⟩;simp only[dIs,dUs,dSs,dz,dF,dx,dG,aR,dD,aU,aV,aS,aT];obtain⟨-,hs1,hs2⟩:=aX hpre;have hsg1:=(oO hpre).2.1;have apj:=fun i=>afc (iN s i) (iN s (i+1));have hI0:[]++sgF s s.size 0=signs s:=rfl;replace hI0:=Lib.hid hI0;generalize signs s=R at*;clear hpre;have gsg_c212:=arq;(refine wlk ?_;intros);refine aG (α:=Nat×Nat×LS×Nat×Nat) mixed (fun z=>[(0,.val (.string s)),(3,nP 1 (z.2.2.1.map pvS) z.2.2.2.1),(4,iv z.2.1)])
  (fun z=>nO 9 1 (z.2.2.1.map pvS) z.2.2.2.1) (fun z=>z.2.2.2.2)
  (fun z=>z.2.2.1++sgF s z.1 z.2.1=R∧s.size≤z.2.1+z.1∧z.2.1≤s.size∧z.2.2.1.length≤z.2.1∧(0<z.2.2.1.length→z.2.2.2.1<z.2.2.2.2)) (fun z=>z.1) (by kernel_rfl) (s.size,0,[],0,0) ⟨hI0.out,by simp,by simp,by simp,by simp⟩ ?_ ?_ rfl ?_
 ·exact agr
 ·exact agr
 rintro⟨f,i,out,x,y⟩ ⟨hI,hf,hi,ho,hxy⟩;dsimp only at hI hf hi ho hxy;clear hI0;by_cases h0:i<s.size
 ·cases f with
  |zero=>omega
  |succ f=>
  rw[qX h0]at hI;have hI2:(out++[s.extract i (i+sgN s i)])++sgF s f (i+sgN s i)=R:=by rw[List.append_assoc];exact hI
  clear hI;replace apj:=apj i;by_cases hj:i+1<s.size∧pF (at8 s i) (at8 s (i+1))=true
  ·have hn:sgN s i=2:=if_pos hj
   rw[hn]at hI2;replace hI2:=Lib.hid hI2;obtain⟨hj1,hj2⟩:=hj;rw[hj2]at apj;have e3:((i:Int)+2).toNat=i+2:=by omega
   clear hn;by_cases hz:out.length=0
   ·obtain rfl:out=[]:=List.eq_nil_of_length_eq_zero hz
    (refine wlk ?_;intros);refine⟨(f,i+2,[]++[s.extract i (i+2)],y+1,y+2),⟨hI2.out,by dsimp only;omega,by dsimp only;omega,by simp,fun _=>by dsimp only;omega⟩,by dsimp only;omega,?_,?_,rfl⟩
    ·exact agi
    ·exact agr
   ·have hxy:=hxy (by omega)
    have hap:0<(out.map pvS).length:=by rw[List.length_map];omega
    clear hz;have hap3:0<((out++[s.extract i (i+2)]).map pvS).length:=by simp
    simp only[aA hap,aB hap,List.length_map];(refine wlk ?_;intros);refine⟨(f,i+2,out++[s.extract i (i+2)],y+1,y+2),⟨hI2.out,by dsimp only;omega,by dsimp only;omega,by simp;omega,fun _=>by dsimp only;omega⟩,by dsimp only;omega,?_,?_,rfl⟩
    ·simp(disch:=(first|omega|(simp only[push_cast];first|done|omega))) only[push_cast,↓reduceIte,Nat.reduceEqDiff,Nat.reduceBEq,Nat.reduceAdd,Nat.reduceSub,Int.reduceToNat,aA hap3,List.length_append, *]
     try exact congrArg (fun z=>PV.val (Value.int IntKind.i64 z)) (by omega)
    ·simp(disch:=(first|omega|(simp only[push_cast];first|done|omega))) only[push_cast,↓reduceIte,Nat.reduceEqDiff,Nat.reduceBEq,Nat.reduceAdd,Nat.reduceSub,Int.reduceToNat,aB hap3, *]
  ·have hn:sgN s i=1:=if_neg hj
   rw[hn]at hI2;replace hI2:=Lib.hid hI2;clear hn;have hj3:i+1<s.size→pF (at8 s i) (at8 s (i+1))=false:=fun h=>by
    cases hq:pF (at8 s i) (at8 s (i+1))with
    |false=>rfl
    |true=>exact absurd ⟨h,hq⟩ hj
   clear hj;by_cases hz:out.length=0
   ·obtain rfl:out=[]:=List.eq_nil_of_length_eq_zero hz
    by_cases h1:i+1<s.size
    ·rw[hj3 h1]at apj
     clear hj3;(refine wlk ?_;intros);refine⟨(f,i+1,[]++[s.extract i (i+1)],y+1,y+2),⟨hI2.out,by dsimp only;omega,by dsimp only;omega,by simp,fun _=>by dsimp only;omega⟩,by dsimp only;omega,?_,?_,rfl⟩
     ·exact agr
     ·exact agr
    ·clear hj3
     (refine wlk ?_;intros);refine⟨(f,i+1,[]++[s.extract i (i+1)],y+1,y+2),⟨hI2.out,by dsimp only;omega,by dsimp only;omega,by simp,fun _=>by dsimp only;omega⟩,by dsimp only;omega,?_,?_,rfl⟩
     ·exact agr
     ·exact agr
   ·have hxy:=hxy (by omega)
    have hap:0<(out.map pvS).length:=by rw[List.length_map];omega
    clear hz;have hap3:0<((out++[s.extract i (i+1)]).map pvS).length:=by simp
    simp only[aA hap,aB hap,List.length_map];by_cases h1:i+1<s.size
    ·rw[hj3 h1]at apj
     clear hj3;(refine wlk ?_;intros);refine⟨(f,i+1,out++[s.extract i (i+1)],y+1,y+2),⟨hI2.out,by dsimp only;omega,by dsimp only;omega,by simp;omega,fun _=>by dsimp only;omega⟩,by dsimp only;omega,?_,?_,rfl⟩
     ·simp(disch:=(first|omega|(simp only[push_cast];first|done|omega))) only[push_cast,↓reduceIte,Nat.reduceEqDiff,Nat.reduceBEq,Nat.reduceAdd,Nat.reduceSub,Int.reduceToNat,aA hap3,List.length_append, *]
      try exact congrArg (fun z=>PV.val (Value.int IntKind.i64 z)) (by omega)
     ·simp(disch:=(first|omega|(simp only[push_cast];first|done|omega))) only[push_cast,↓reduceIte,Nat.reduceEqDiff,Nat.reduceBEq,Nat.reduceAdd,Nat.reduceSub,Int.reduceToNat,aB hap3, *]
    ·clear hj3
     (refine wlk ?_;intros);refine⟨(f,i+1,out++[s.extract i (i+1)],y+1,y+2),⟨hI2.out,by dsimp only;omega,by dsimp only;omega,by simp;omega,fun _=>by dsimp only;omega⟩,by dsimp only;omega,?_,?_,rfl⟩
     ·simp(disch:=(first|omega|(simp only[push_cast];first|done|omega))) only[push_cast,↓reduceIte,Nat.reduceEqDiff,Nat.reduceBEq,Nat.reduceAdd,Nat.reduceSub,Int.reduceToNat,aA hap3,List.length_append, *]
      try exact congrArg (fun z=>PV.val (Value.int IntKind.i64 z)) (by omega)
     ·simp(disch:=(first|omega|(simp only[push_cast];first|done|omega))) only[push_cast,↓reduceIte,Nat.reduceEqDiff,Nat.reduceBEq,Nat.reduceAdd,Nat.reduceSub,Int.reduceToNat,aB hap3, *]
 ·rw[abM (by omega),List.append_nil]at hI
  subst hI;have hxy:=hxy (by omega);have hap:0<(out.map pvS).length:=by rw[List.length_map];omega
  simp only[aA hap,aB hap,List.length_map];clear apj;exact wlkF
def axf:Ctx:={fn:=aY [(238,xP),(68,gP)],io:=aY []}
theorem aq7:ak Tryz.prog axf:=okΓ (fC Tryz.func238 zh (fC Tryz.func68 gD aj)) aj
def adu:=ah (Γ:=axf) (f:=238) (φ:=xP) rfl
def ag8:=ah (Γ:=axf) (f:=68) (φ:=gP) rfl
theorem ahv:Sound Tryz.prog 218 aki:=by
 refine au mixed aq7 Tryz.func218 rfl 50 rfl [.tmp 2] rfl (by kernel_rfl) fun ps r hr=>?_;obtain⟨s,rfl,hpre,rfl⟩:=jQ hr;refine⟨by simp,?_⟩;simp only[dIs,dUs,dSs,dz,dF,dx,dG,aR,dD,aU,aV,aS,aT];have apw:=iH (s:=s) (by omega);unfold adL;cases hw:dM s with
 |false=>
  rw[hw]at apw;rw[if_neg (by decide)];clear hw;have gsgs_c238:=adu;have gsgs_c68:=ag8;(refine wlk ?_;intros);refine aG (α:=Unit) mixed (fun z=>[(0,.val (.string s)),(3,.row 0 1 0 0),(4,iv 0)]) (fun z=>[(0,9,1,[])]) (fun z=>1) (fun _=>True) (fun _=>0) (by kernel_rfl) () trivial ?_ ?_ rfl ?_
  ·exact agr
  ·exact agr
  rintro⟨⟩-;exact wlkF
 |true=>
  rw[hw]at apw;rw[if_pos rfl];obtain⟨-,hs1,hs2⟩:=aX hw;have apj:=fun i=>ae5 (at8 s i) (at8 s (i+1));have hI0:[]++sgF s s.size 0=signs s:=rfl;replace hI0:=Lib.hid hI0;generalize signs s=R at*;clear hpre hw;have gsgs_c238:=adu;have gsgs_c68:=ag8;(refine wlk ?_;intros);refine aG (α:=Nat×Nat×LS×Nat×Nat) mixed (fun z=>[(0,.val (.string s)),(3,.row z.2.2.2.1 1 0 z.2.2.1.length),(4,iv z.2.1)])
   (fun z=>[(z.2.2.2.1,9,1,z.2.2.1.map pvS)]) (fun z=>z.2.2.2.2)
   (fun z=>z.2.2.1++sgF s z.1 z.2.1=R∧s.size≤z.2.1+z.1∧z.2.1≤s.size∧z.2.2.1.length≤z.2.1∧z.2.2.2.1<z.2.2.2.2) (fun z=>z.1) (by kernel_rfl) (s.size,0,[],0,1) ⟨hI0.out,by simp,by simp,by simp,by simp⟩ ?_ ?_ rfl ?_
  ·exact agr
  ·exact agr
  rintro⟨f,i,out,x,y⟩ ⟨hI,hf,hi,ho,hxy⟩;dsimp only at hI hf hi ho hxy;clear hI0;by_cases h0:i<s.size
  ·cases f with
   |zero=>omega
   |succ f=>
   rw[qX h0]at hI;have hI2:(out++[s.extract i (i+sgN s i)])++sgF s f (i+sgN s i)=R:=by rw[List.append_assoc];exact hI
   clear hI;replace apj:=apj i;by_cases hj:i+1<s.size∧pF (at8 s i) (at8 s (i+1))=true
   ·have hn:sgN s i=2:=if_pos hj
    rw[hn]at hI2;replace hI2:=Lib.hid hI2;obtain⟨hj1,hj2⟩:=hj;rw[hj2]at apj;have e3:((i:Int)+2).toNat=i+2:=by omega
    clear hn;(refine wlk ?_;intros);refine⟨(f,i+2,out++[s.extract i (i+2)],y+1,y+2),⟨hI2.out,by dsimp only;omega,by dsimp only;omega,by simp;omega,by dsimp only;omega⟩,by dsimp only;omega,?_,?_,rfl⟩
    ·exact agi
    ·exact agr
   ·have hn:sgN s i=1:=if_neg hj
    rw[hn]at hI2;replace hI2:=Lib.hid hI2;clear hn;have hj3:i+1<s.size→pF (at8 s i) (at8 s (i+1))=false:=fun h=>by
     cases hq:pF (at8 s i) (at8 s (i+1))with
     |false=>rfl
     |true=>exact absurd ⟨h,hq⟩ hj
    clear hj;by_cases h1:i+1<s.size
    ·rw[hj3 h1]at apj
     clear hj3;(refine wlk ?_;intros);refine⟨(f,i+1,out++[s.extract i (i+1)],y+1,y+2),⟨hI2.out,by dsimp only;omega,by dsimp only;omega,by simp;omega,by dsimp only;omega⟩,by dsimp only;omega,?_,?_,rfl⟩
     ·exact agr
     ·exact agr
    ·clear hj3
     (refine wlk ?_;intros);refine⟨(f,i+1,out++[s.extract i (i+1)],y+1,y+2),⟨hI2.out,by dsimp only;omega,by dsimp only;omega,by simp;omega,by dsimp only;omega⟩,by dsimp only;omega,?_,?_,rfl⟩
     ·exact agr
     ·exact agr
  ·rw[abM (by omega),List.append_nil]at hI
   subst hI;clear apj;exact wlkF
def φWw:Fun:=F1 dS fun s=>if s.size≤1048576 then some (iv (p9 s))else none
theorem acH {s:ByteArray} (h:s.size≤1048576):φWw [.val (.string s)]=some (.val (.int .i64 (p9 s))):=(gu (A:=dS) s).trans (if_pos h)
def avm:Ctx:={fn:=aY [(81,gP),(172,φSg),(173,yt),(174,wW)],io:=aY []}
theorem an1:ak Tryz.prog avm:=okΓ (fC Tryz.func81 gy (fC Tryz.func172 agw (fC Tryz.func173 abz (fC Tryz.func174 abr aj)))) aj
def ahj:=ah (Γ:=avm) (f:=81) (φ:=gP) rfl
def adp:=ah (Γ:=avm) (f:=172) (φ:=φSg) rfl
def adR:=ah (Γ:=avm) (f:=173) (φ:=yt) rfl
def ac4:=ah (Γ:=avm) (f:=174) (φ:=wW) rfl
theorem ajb:Sound Tryz.prog 121 φWw:=by
 refine au mixed an1 Tryz.func121 rfl 58 rfl [.tmp 2] rfl (by kernel_rfl) fun ps r hr=>?_;obtain⟨s,rfl,hpre,rfl⟩:=jQ hr;refine⟨by simp,?_⟩;simp only[dIs,dUs,dSs,dz,dF,dx,dG,aR,dD,aU,aV,aS,aT];have apw:=iH (s:=s) (by omega);unfold p9;cases hw:dM s with
 |false=>rw[hw]at apw;rw[if_neg (by decide)];clear hw;have gwwi_c81:=ahj;have gwwi_c172:=adp;have gwwi_c173:=adR;have gwwi_c174:=ac4;exact wlkF
 |true=>
  rw[hw]at apw;rw[if_pos rfl];have aps:=arN hw;have hat:=fun k hk=>yN hw (k:=k) hk;have hlen:=(oO hw).2;have hrg:=yD hat;generalize signs s=g at*;clear hw hpre;have gwwi_c81:=ahj;have gwwi_c172:=adp;have gwwi_c173:=adR;have gwwi_c174:=ac4;(refine wlk ?_;intros);refine aG (α:=Nat) mixed (fun k=>[(3,iv (wdK g k)),(4,.lst true 1 (g.map pvS)),(13,.lst true 1 (g.map pvS)),(14,iv g.length),(15,iv k)]) (fun _=>[]) (fun _=>0)
   (fun k=>k≤g.length) (fun k=>g.length-k) (by kernel_rfl) 0 (Nat.zero_le _) ?_ ?_ rfl ?_
  ·simp only[push_cast,↓reduceIte,Nat.reduceEqDiff,Nat.reduceBEq,Nat.reduceAdd,Nat.reduceSub,Int.reduceToNat,wdK]
  ·exact agr
  intro k hk;have hrk:=hrg k hk;by_cases hkl:k<g.length
  ·have hsg:=hat k hkl
   have hnx:=fun h=>hat (k+1) h;have hfl:=aec hsg;have hsn:wdK g (k+1)=wdK g k+sgW (g[k]?.getD .empty) (g[k]?.getD .empty).size-((g[k]?.getD .empty).size-1)-wX g k:=rfl;have hne:wX g k=if k+1<g.length then oh (at8 (g[k]?.getD .empty) ((g[k]?.getD .empty).size-1)) (at8 (g[k+1]?.getD .empty) 0)else 0:=rfl;replace hsn:=Lib.hid hsn;replace hne:=Lib.hid hne;clear hat hrg;generalize hx9:g[k]?.getD ByteArray.empty=x at*;obtain⟨hx1,hx2,-⟩:=hsg;generalize hw9:wdK g k=w9 at*;(refine wlk ?_;intros);refine aG (α:=Nat) mixed (fun j=>[(3,iv (w9+sgW x j)),(4,.lst true 1 (g.map pvS)),(13,.lst true 1 (g.map pvS)),(14,iv g.length),(15,iv k),(5,iv k),(6,.val (.string x)),(21,iv x.size),(22,iv j)]) (fun _=>[]) (fun _=>0)
    (fun j=>j≤x.size) (fun j=>x.size-j) (by kernel_rfl) 0 (Nat.zero_le _) ?_ ?_ rfl ?_
   ·simp(disch:=(first|omega|(simp only[push_cast];first|done|omega))) only[push_cast,↓reduceIte,Nat.reduceEqDiff,Nat.reduceBEq,Nat.reduceAdd,Nat.reduceSub,Int.reduceToNat,sgW,Int.add_zero, *]
   ·exact agr
   intro j hj;have hfj:=hfl j hj;have apl:=afK (iN x j);have hlw:=xS (at8 x j);have hsj:sgW x (j+1)=sgW x j+aaR (at8 x j):=rfl;replace hsj:=Lib.hid hsj;by_cases hjl:j<x.size
   ·clear hfl hnx
    generalize aaR (at8 x j)=lw at*;(refine wlk ?_;intros);refine⟨j+1,by omega,by dsimp only;omega,?_,?_,rfl⟩
    ·dsimp only
     rw[hsj.out,←Int.add_assoc];exact agr
    ·exact agr
   ·obtain rfl:j=x.size:=by omega
    clear apl hlw hsj hfl;by_cases h1:k+1<g.length
    ·have hn1:=hnx h1
     clear hnx;obtain⟨hy1,-,-⟩:=hn1;have apn:=afn (iN x (x.size-1)) (iN (g[k+1]?.getD .empty) 0);have hnr:=u6 (at8 x (x.size-1)) (at8 (g[k+1]?.getD .empty) 0);have hne:=hne.out;rw[if_pos h1]at hne;have hsn:=hsn.out;rw[hne]at hsn;replace hsn:=Lib.hid hsn;clear hne;generalize oh (at8 x (x.size-1)) (at8 (g[k+1]?.getD .empty) 0)=nr at*;generalize sgW x x.size=sw at*;(refine wlk ?_;intros);refine⟨k+1,by omega,by dsimp only;omega,?_,?_,rfl⟩
     ·dsimp only
      rw[hsn.out];exact agr
     ·exact agr
    ·have hne:=hne.out
     rw[if_neg h1]at hne;have hsn:=hsn.out;rw[hne,Int.sub_zero]at hsn;replace hsn:=Lib.hid hsn;clear hne hnx;generalize sgW x x.size=sw at*;(refine wlk ?_;intros);refine⟨k+1,by omega,by dsimp only;omega,?_,?_,rfl⟩
     ·dsimp only
      rw[hsn.out];exact agr
     ·exact agr
  ·obtain rfl:k=g.length:=by omega
   clear hat hrg;generalize wdK g g.length=w9 at*;exact wlkF
def awS:Ctx:={fn:=aY [(218,aki),(219,ady),(220,ad6)],io:=aY []}
theorem arC:ak Tryz.prog awS:=okΓ (fC Tryz.func218 ahv (fC Tryz.func219 abO (fC Tryz.func220 abH aj))) aj
def ad5:=ah (Γ:=awS) (f:=218) (φ:=aki) rfl
def aeh:=ah (Γ:=awS) (f:=219) (φ:=ady) rfl
def ac2:=ah (Γ:=awS) (f:=220) (φ:=ad6) rfl
theorem ahB:Sound Tryz.prog 180 φWw:=by
 refine au mixed arC Tryz.func180 rfl 70 rfl [.tmp 2] rfl (by kernel_rfl) fun ps r hr=>?_;obtain⟨s,rfl,hpre,rfl⟩:=jQ hr;refine⟨by simp,?_⟩;simp only[dIs,dUs,dSs,dz,dF,dx,dG,aR,dD,aU,aV,aS,aT];have aps:=ajY (s:=s) hpre;unfold p9;unfold adL at aps;cases hw:dM s with
 |false=>rw[hw,if_neg (by decide)]at aps;rw[if_neg (by decide)];clear hw;have gwws_c218:=ad5;have gwws_c219:=aeh;have gwws_c220:=ac2;exact wlkF
 |true=>
  rw[hw,if_pos rfl]at aps;rw[if_pos rfl];have hat:=fun k hk=>yN hw (k:=k) hk;have hlen:=(oO hw).2;have hrg:=yD hat;generalize signs s=g at*;clear hw hpre;have gwws_c218:=ad5;have gwws_c219:=aeh;have gwws_c220:=ac2;(refine wlk ?_;intros);refine aG (α:=Nat) mixed (fun k=>[(3,.lst true 1 (g.map pvS)),(4,iv (wdK g k)),(5,iv k)]) (fun _=>[]) (fun _=>0)
   (fun k=>k≤g.length) (fun k=>g.length-k) (by kernel_rfl) 0 (Nat.zero_le _) ?_ ?_ rfl ?_
  ·simp only[push_cast,↓reduceIte,Nat.reduceEqDiff,Nat.reduceBEq,Nat.reduceAdd,Nat.reduceSub,Int.reduceToNat,wdK]
  ·exact agr
  intro k hk;have hrk:=hrg k hk;by_cases hkl:k<g.length
  ·have hsg:=hat k hkl
   have hnx:=fun h=>hat (k+1) h;have hfl:=aec hsg;have hsn:wdK g (k+1)=wdK g k+sgW (g[k]?.getD .empty) (g[k]?.getD .empty).size-((g[k]?.getD .empty).size-1)-wX g k:=rfl;have hne:wX g k=if k+1<g.length then oh (at8 (g[k]?.getD .empty) ((g[k]?.getD .empty).size-1)) (at8 (g[k+1]?.getD .empty) 0)else 0:=rfl;replace hsn:=Lib.hid hsn;replace hne:=Lib.hid hne;clear hat hrg;generalize hx9:g[k]?.getD ByteArray.empty=x at*;obtain⟨hx1,hx2,-⟩:=hsg;generalize hw9:wdK g k=w9 at*;(refine wlk ?_;intros);refine aG (α:=Nat) mixed (fun j=>[(3,.lst true 1 (g.map pvS)),(4,iv (w9+sgW x j)),(5,iv k),(6,iv j)]) (fun _=>[]) (fun _=>0)
    (fun j=>j≤x.size) (fun j=>x.size-j) (by kernel_rfl) 0 (Nat.zero_le _) ?_ ?_ rfl ?_
   ·simp(disch:=(first|omega|(simp only[push_cast];first|done|omega))) only[push_cast,↓reduceIte,Nat.reduceEqDiff,Nat.reduceBEq,Nat.reduceAdd,Nat.reduceSub,Int.reduceToNat,sgW,Int.add_zero, *]
   ·exact agr
   intro j hj;have hfj:=hfl j hj;have apl:=agm (at8 x j);have hlw:=xS (at8 x j);have hsj:sgW x (j+1)=sgW x j+aaR (at8 x j):=rfl;replace hsj:=Lib.hid hsj;by_cases hjl:j<x.size
   ·clear hfl hnx
    generalize aaR (at8 x j)=lw at*;(refine wlk ?_;intros);refine⟨j+1,by omega,by dsimp only;omega,?_,?_,rfl⟩
    ·dsimp only
     rw[hsj.out,←Int.add_assoc];exact agr
    ·exact agr
   ·obtain rfl:j=x.size:=by omega
    clear apl hlw hsj hfl;by_cases h1:k+1<g.length
    ·have hn1:=hnx h1
     clear hnx;obtain⟨hy1,-,-⟩:=hn1;have apn:=ajr (at8 x (x.size-1)) (at8 (g[k+1]?.getD .empty) 0);have hnr:=u6 (at8 x (x.size-1)) (at8 (g[k+1]?.getD .empty) 0);have hne:=hne.out;rw[if_pos h1]at hne;have hsn:=hsn.out;rw[hne]at hsn;replace hsn:=Lib.hid hsn;clear hne;generalize oh (at8 x (x.size-1)) (at8 (g[k+1]?.getD .empty) 0)=nr at*;generalize sgW x x.size=sw at*;(refine wlk ?_;intros);refine⟨k+1,by omega,by dsimp only;omega,?_,?_,rfl⟩
     ·dsimp only
      rw[hsn.out,show w9+sw-((x.size:Int)-1)-nr=w9+sw-x.size+1-nr by omega];exact agr
     ·exact agr
    ·have hne:=hne.out
     rw[if_neg h1]at hne;have hsn:=hsn.out;rw[hne,Int.sub_zero]at hsn;replace hsn:=Lib.hid hsn;clear hne hnx;generalize sgW x x.size=sw at*;(refine wlk ?_;intros);refine⟨k+1,by omega,by dsimp only;omega,?_,?_,rfl⟩
     ·dsimp only
      rw[hsn.out,show w9+sw-((x.size:Int)-1)=w9+sw-x.size+1 by omega];exact agr
     ·exact agr
  ·obtain rfl:k=g.length:=by omega
   clear hat hrg;generalize wdK g g.length=w9 at*;exact wlkF
abbrev pvN (n:Int):PV:=.val (.int .i64 n)
theorem lM {p:ByteArray} (h:aaw p=true):1≤p.size∧p.size≤12:=by
 unfold aaw at h;simp only[Bool.and_eq_true,decide_eq_true_eq]at h;obtain⟨-,h1,h2⟩:=h;refine⟨?_,h2⟩;rcases Nat.eq_zero_or_pos p.size with h0|h0
 ·rw[h0]at h1
  simp[anyS]at h1
 ·exact h0
def φPp:Fun:=F1 dS fun p=>if p.size≤12 then some (.tup [.val (.string (dH p)),.lst true 1 ((eU p).map fun n=> .val (.int .i64 n))])else none
theorem aqK {p:ByteArray} (h:p.size≤12):φPp [.val (.string p)]=some (.tup [.val (.string (dH p)),.lst true 1 ((eU p).map fun n=> .val (.int .i64 n))]):=(gu (A:=dS) p).trans (if_pos h)
def GPp:Ctx:={fn:=aY [(135,aeQ)],io:=aY []}
theorem asx:ak Tryz.prog GPp:=okΓ (fC Tryz.func135 wh aj) aj
def arZ:=ah (Γ:=GPp) (f:=135) (φ:=aeQ) rfl
theorem al7 {o:List Int} {v x:Int}:(o++[v]).set o.length x=o++[x]:=by simp
theorem ahl:Sound Tryz.prog 239 φPp:=by
 refine au mixed asx Tryz.func239 rfl 40 rfl [.tmp 2,.tmp 3] rfl (by kernel_rfl) fun ps r hr=>?_;obtain⟨p,rfl,hpre,rfl⟩:=jQ hr;refine⟨by simp,?_⟩;simp only[dIs,dUs,dSs,dz,dF,dx,dG,aR,dD,aU,aV,aS,aT];have hrg:=nV p;unfold dH eU;have gpp_c135:=arZ;(refine wlk ?_;intros);refine aG (α:=Nat×Nat×Nat) mixed (fun z=>[(0,.val (.string p)),(4,.val (.string (iK p z.1).1)),(5,.row z.2.1 1 0 ((iK p z.1).2.1.length+1)),(8,.val (.string p)),(9,iv p.size),(10,iv z.1)])
  (fun z=>[(z.2.1,3,1,((iK p z.1).2.1++[(iK p z.1).2.2]).map pvN)]) (fun z=>z.2.2)
  (fun z=>z.1≤p.size∧z.2.1<z.2.2) (fun z=>p.size-z.1) (by kernel_rfl) (0,0,1) ⟨by simp,by simp⟩ ?_ ?_ rfl ?_
 ·simp(disch:=(first|omega|(simp only[push_cast];first|done|omega))) only[push_cast,↓reduceIte,Nat.reduceEqDiff,Nat.reduceBEq,Nat.reduceAdd,Nat.reduceSub,Int.reduceToNat,iK,List.length_nil,Nat.zero_add, *]
 ·simp(disch:=(first|omega|(simp only[push_cast];first|done|omega))) only[push_cast,↓reduceIte,Nat.reduceEqDiff,Nat.reduceBEq,Nat.reduceAdd,Nat.reduceSub,Int.reduceToNat,iK,List.nil_append,List.map_cons,List.map_nil, *]
 rintro⟨k,x,y⟩ ⟨hk,hxy⟩;dsimp only at hk hxy;obtain⟨r1,r2,r3,-⟩:=hrg k hk;by_cases h0:k<p.size
 ·have apd:=aem (at8 p k)
  have hdd:ab9 (at8 p k)=inB (at8 p k) 48 57:=rfl;have hb8:=iN p k;cases hd:inB (at8 p k) 48 57 with
  |true=>
   have hst:=qZ (hdd.trans hd);have hin:=av.1 hd;have w1:IntKind.u8.wrap (at8 p k-48)=at8 p k-48:=by rw[IntKind.wrap_u8];omega
   have w3:=dA (n:=at8 p k-48) (by omega) (by omega);have hsl:=@al7 (iK p k).2.1 (iK p k).2.2 (at8 p k-48);rw[hd]at apd;replace hst:=Lib.hid hst;clear hrg hdd hd;generalize(iK p k).2.1=o at*;generalize(iK p k).2.2=v at*;generalize(iK p k).1=lt at*;(refine wlk ?_;intros);refine⟨(k+1,x,y),⟨by dsimp only;omega,hxy⟩,by dsimp only;omega,?_,?_,rfl⟩
   ·dsimp only
    rw[hst.out];exact agr
   ·dsimp only
    rw[hst.out];exact agr
  |false=>
   have hxz:(p.extract k (k+1)).size=1:=by rw[ByteArray.size_extract];omega
   have hst:=rA (hdd.trans hd);rw[hd]at apd;replace hst:=Lib.hid hst;clear hrg hdd hd;generalize(iK p k).2.1=o at*;generalize(iK p k).2.2=v at*;generalize(iK p k).1=lt at*;(refine wlk ?_;intros);refine⟨(k+1,y+1,y+2),⟨by dsimp only;omega,by dsimp only;omega⟩,by dsimp only;omega,?_,?_,rfl⟩
   ·dsimp only
    rw[hst.out];exact agr
   ·dsimp only
    rw[hst.out];exact agr
 ·obtain rfl:k=p.size:=by omega
  clear hrg;exact wlkF
def φPl:Fun:=F1 dS fun p=>if aaw p=true then some (.val (.string (dH p)))else none
theorem ar0 {p:ByteArray} (h:aaw p=true):φPl [.val (.string p)]=some (.val (.string (dH p))):=(gu (A:=dS) p).trans (if_pos h)
def GPl:Ctx:={fn:=aY [(69,xO)],io:=aY []}
theorem anA:ak Tryz.prog GPl:=okΓ (fC Tryz.func69 jg aj) aj
def anE:=ah (Γ:=GPl) (f:=69) (φ:=xO) rfl
theorem ahN:Sound Tryz.prog 223 φPl:=by
 refine au mixed anA Tryz.func223 rfl 33 rfl [.tmp 2] rfl (by kernel_rfl) fun ps r hr=>?_;obtain⟨p,rfl,hpre,rfl⟩:=jQ hr;refine⟨by simp,?_⟩;simp only[dIs,dUs,dSs,dz,dF,dx,dG,aR,dD,aU,aV,aS,aT];have hsz:=lM hpre;have hrg:=nV p;have apv:=qU (s:=p) (by omega);rw[hpre]at apv;unfold dH;clear hpre;have gpl_c69:=anE;(refine wlk ?_;intros);refine aG (α:=Nat) mixed (fun k=>[(0,.val (.string p)),(3,.val (.string (iK p k).1)),(4,iv k)]) (fun _=>[]) (fun _=>0)
  (fun k=>k≤p.size) (fun k=>p.size-k) (by kernel_rfl) 0 (Nat.zero_le _) ?_ ?_ rfl ?_
 ·simp(disch:=(first|omega|(simp only[push_cast];first|done|omega))) only[push_cast,↓reduceIte,Nat.reduceEqDiff,Nat.reduceBEq,Nat.reduceAdd,Nat.reduceSub,Int.reduceToNat,iK, *]
 ·exact agr
 intro k hk;obtain⟨r1,r2,r3,-⟩:=hrg k hk;by_cases h0:k<p.size
 ·have hb8:=iN p k
  cases hd:ab9 (at8 p k)with
  |true=>
   have hst:=qZ hd;have hin:=av.1 hd;have w1:IntKind.u8.wrap (at8 p k-48)=at8 p k-48:=by rw[IntKind.wrap_u8];omega
   have w3:=dA (n:=at8 p k-48) (by omega) (by omega);replace hst:=Lib.hid hst;clear hrg hd;generalize(iK p k).1=lt at*;(refine wlk ?_;intros);refine⟨k+1,by omega,by dsimp only;omega,?_,?_,rfl⟩
   ·dsimp only
    rw[hst.out];exact agr
   ·exact agr
  |false=>
   have hxz:(p.extract k (k+1)).size=1:=by rw[ByteArray.size_extract];omega
   have hst:=rA hd;have hno:at8 p k<48∨57<at8 p k:=by
    by_cases hh:48≤at8 p k∧at8 p k≤57
    ·have:ab9 (at8 p k)=true:=av.2 hh
     rw[this]at hd;cases hd
    ·omega
   replace hst:=Lib.hid hst;clear hrg hd;generalize(iK p k).1=lt at*;(refine wlk6 ?_ ?_ ?_ ?_ ?_ ?_<;>intros<;>try with_reducible exact trivial);all_goals
    refine⟨k+1,by omega,by dsimp only;omega,?_,?_,rfl⟩
    ·dsimp only
     rw[hst.out];exact agr
    ·exact agr
 ·obtain rfl:k=p.size:=by omega
  clear hrg;exact wlkF
def φPv:Fun:=F1 dS fun p=>if aaw p=true then some (.lst true 1 ((eU p).map fun n=> .val (.int .i64 n)))else none
theorem anV {p:ByteArray} (h:aaw p=true):φPv [.val (.string p)]=some (.lst true 1 ((eU p).map fun n=> .val (.int .i64 n))):=(gu (A:=dS) p).trans (if_pos h)
theorem ajc:Sound Tryz.prog 224 φPv:=by
 refine au mixed anA Tryz.func224 rfl 44 rfl [.tmp 2] rfl (by kernel_rfl) fun ps r hr=>?_;obtain⟨p,rfl,hpre,rfl⟩:=jQ hr;refine⟨by simp,?_⟩;simp only[dIs,dUs,dSs,dz,dF,dx,dG,aR,dD,aU,aV,aS,aT];have hsz:=lM hpre;have hrg:=nV p;have apv:=qU (s:=p) (by omega);rw[hpre]at apv;unfold eU;clear hpre;have gpl_c69:=anE;(refine wlk ?_;intros);refine aG (α:=Nat×Nat×Nat) mixed (fun z=>[(0,.val (.string p)),(3,.row z.2.1 1 0 (iK p z.1).2.1.length),(4,iv (iK p z.1).2.2),(5,iv z.1)])
  (fun z=>[(z.2.1,3,1,(iK p z.1).2.1.map pvN)]) (fun z=>z.2.2)
  (fun z=>z.1≤p.size∧z.2.1<z.2.2) (fun z=>p.size-z.1) (by kernel_rfl) (0,0,1) ⟨by simp,by simp⟩ ?_ ?_ rfl ?_
 ·simp(disch:=(first|omega|(simp only[push_cast];first|done|omega))) only[push_cast,↓reduceIte,Nat.reduceEqDiff,Nat.reduceBEq,Nat.reduceAdd,Nat.reduceSub,Int.reduceToNat,iK,List.length_nil, *]
 ·simp(disch:=(first|omega|(simp only[push_cast];first|done|omega))) only[push_cast,↓reduceIte,Nat.reduceEqDiff,Nat.reduceBEq,Nat.reduceAdd,Nat.reduceSub,Int.reduceToNat,iK,List.map_nil, *]
 rintro⟨k,x,y⟩ ⟨hk,hxy⟩;dsimp only at hk hxy;obtain⟨r1,r2,r3,-⟩:=hrg k hk;by_cases h0:k<p.size
 ·have hb8:=iN p k
  cases hd:ab9 (at8 p k)with
  |true=>
   have hst:=qZ hd;have hin:=av.1 hd;have w1:IntKind.u8.wrap (at8 p k-48)=at8 p k-48:=by rw[IntKind.wrap_u8];omega
   have w3:=dA (n:=at8 p k-48) (by omega) (by omega);replace hst:=Lib.hid hst;clear hrg hd;generalize(iK p k).2.1=o at*;generalize(iK p k).2.2=v at*;generalize(iK p k).1=lt at*;(refine wlk ?_;intros);refine⟨(k+1,x,y),⟨by dsimp only;omega,hxy⟩,by dsimp only;omega,?_,?_,rfl⟩
   ·dsimp only
    rw[hst.out];exact agr
   ·dsimp only
    rw[hst.out];exact agr
  |false=>
   have hxz:(p.extract k (k+1)).size=1:=by rw[ByteArray.size_extract];omega
   have hst:=rA hd;have hno:at8 p k<48∨57<at8 p k:=by
    by_cases hh:48≤at8 p k∧at8 p k≤57
    ·have:ab9 (at8 p k)=true:=av.2 hh
     rw[this]at hd;cases hd
    ·omega
   replace hst:=Lib.hid hst;clear hrg hd;generalize(iK p k).2.1=o at*;generalize(iK p k).2.2=v at*;generalize(iK p k).1=lt at*;(refine wlk6 ?_ ?_ ?_ ?_ ?_ ?_<;>intros<;>try with_reducible exact trivial);all_goals
    refine⟨(k+1,y+1,y+2),⟨by dsimp only;omega,by dsimp only;omega⟩,by dsimp only;omega,?_,?_,rfl⟩
    ·dsimp only
     rw[hst.out];exact agr
    ·dsimp only
     rw[hst.out];exact agr
 ·obtain rfl:k=p.size:=by omega
  clear hrg;exact wlkF
def rJ (w:ByteArray) (pats:LS):Bool:=dM w&&bE pats
theorem jW {w:ByteArray} {pats:LS}:rJ w pats=true↔dM w=true∧bE pats=true:=by simp[rJ]
theorem ah9 {pats:LS} (h:bE pats=true) {k:Nat} (hk:k<pats.length):aaw (pats[k]?.getD .empty)=true:=by unfold bE at h;rw[Bool.and_eq_true,List.all_eq_true]at h;rw[List.getElem?_eq_getElem hk,Option.getD_some];exact h.2 _ (List.getElem_mem hk)
theorem adb {pats:LS} (h:bE pats=true):pats.length≤20:=by unfold bE at h;rw[Bool.and_eq_true]at h;exact of_decide_eq_true h.1
def pI (w:ByteArray) (pats:LS):List Int:=if rJ w pats=true then iO w pats else []
abbrev akd (w:ByteArray) (pats:LS):Prop:=w.size≤1048576∧oo pats
instance (w:ByteArray) (pats:LS):Decidable (akd w pats):=Classical.propDecidable _
def φLv:Fun:=F2 dS dSs fun w pats=>if akd w pats then some (.lst true 1 ((pI w pats).map fun n=> .val (.int .i64 n)))else none
theorem agk {w:ByteArray} {pats:LS} (h:akd w pats):φLv [.val (.string w),.lst false 1 (pats.map fun s=> .val (.string s))]=some (.lst true 1 ((pI w pats).map fun n=> .val (.int .i64 n))):=(jm (A:=dS) (B:=dSs) w pats).trans (if_pos h)
def amo:Fun:=F2 dS dSs fun w pats=>if rJ w pats=true then some (.lst true 1 ((iO w pats).map fun n=> .val (.int .i64 n)))else none
theorem al6 {w:ByteArray} {pats:LS} (h:rJ w pats=true):amo [.val (.string w),.lst false 1 (pats.map fun s=> .val (.string s))]=some (.lst true 1 ((iO w pats).map fun n=> .val (.int .i64 n))):=(jm (A:=dS) (B:=dSs) w pats).trans (if_pos h)
theorem acX {sz a j:Nat} {lv o:List Int} (h:1≤a+j) (h2:a+j≤sz+1):ab5 sz a j lv o=o.set (a+j-1) (if lv[j]?.getD 0>o[a+j-1]?.getD 0 then lv[j]?.getD 0 else o[a+j-1]?.getD 0):=if_pos ⟨h,h2⟩
theorem zA {sz a j:Nat} {lv o:List Int} (h:¬(1≤a+j∧a+j≤sz+1)):ab5 sz a j lv o=o:=if_neg h
theorem aiw {d lt:ByteArray} {sz a:Nat} {lv o:List Int} (h:d.extract a (a+lt.size)=lt):lvA d sz lt lv o (a+1)=lvJ sz a lv (lvA d sz lt lv o a) lv.length:=by rw[lvA,if_pos h]
theorem adk {d lt:ByteArray} {sz a:Nat} {lv o:List Int} (h:¬d.extract a (a+lt.size)=lt):lvA d sz lt lv o (a+1)=lvA d sz lt lv o a:=by rw[lvA,if_neg h]
def ayC:Ctx:={fn:=aY [(239,φPp),(64,φIn)],io:=aY []}
theorem aq0:ak Tryz.prog ayC:=okΓ (fC Tryz.func239 ahl (fC Tryz.func64 oH aj)) aj
def akc:=ah (Γ:=ayC) (f:=239) (φ:=φPp) rfl
def aqV:=ah (Γ:=ayC) (f:=64) (φ:=φIn) rfl
theorem aeo:Sound Tryz.prog 233 amo:=by
 refine au mixed aq0 Tryz.func233 rfl 78 rfl [.tmp 4] rfl (by kernel_rfl) fun ps r hr=>?_;obtain⟨w,pats,rfl,hpre,rfl⟩:=iB hr;refine⟨by simp,?_⟩;simp only[dIs,dUs,dSs,dz,dF,dx,dG,aR,dD,aU,aV,aS,aT];obtain⟨hw,hp⟩:=jW.1 hpre;obtain⟨-,hw1,hw2⟩:=aX hw;have hpl:=adb hp;have hpa:=fun k hk=>ah9 hp (k:=k) hk;have hds:=aaf w;have hlo:=zX w pats;have hd0:aqs w=(⟨#[46]⟩++w)++⟨#[46]⟩:=rfl;have h46:(⟨#[46]⟩:ByteArray).size=1:=rfl;have api:=bK;unfold iO;clear hw hp hpre;have glvi_c239:=akc;have glvi_c64:=aqV;(refine wlk ?_;intros);rw[←hd0];clear hd0 h46;generalize hdd:aqs w=d at*;refine aG (α:=Nat) mixed (fun k=>[(0,.val (.string w)),(5,.val (.string d)),(6,.row 0 1 0 (w.size+1)),(22,.lst false 1 (pats.map fun s=> .val (.string s))),(23,iv pats.length),(24,iv k)])
  (fun k=>[(0,3,1,(lvP w pats k).map pvN)]) (fun _=>1)
  (fun k=>k≤pats.length) (fun k=>pats.length-k) (by kernel_rfl) 0 (Nat.zero_le _) ?_ ?_ rfl ?_
 ·exact agr
 ·simp(disch:=(first|omega|(simp only[push_cast];first|done|omega))) only[push_cast,↓reduceIte,Nat.reduceEqDiff,Nat.reduceBEq,Nat.reduceAdd,Nat.reduceSub,Int.reduceToNat,lvP,List.map_replicate, *]
 intro k hk;by_cases h0:k<pats.length
 ·have hpk:=hpa k h0
  have happ:=aqK (p:=pats[k]?.getD .empty) (lM hpk).2;obtain⟨g1,g2,g3⟩:=nE (pats[k]?.getD .empty);have hps:=(lM hpk).2;have hnx:lvP w pats (k+1)=lvA d w.size (dH (pats[k]?.getD .empty)) (eU (pats[k]?.getD .empty)) (lvP w pats k) (w.size+3-(dH (pats[k]?.getD .empty)).size):=by rw[lvP,hdd]
  have ho:=hlo k;replace hnx:=Lib.hid hnx;clear hpa hlo hpk;generalize hp9:pats[k]?.getD ByteArray.empty=p at*;generalize dH p=lt at*;generalize eU p=lv at*;generalize lvP w pats k=o at*;have hA:=fun a=>(ho.lvA (d:=d) (lt:=lt) (lv:=lv) g3 a);(refine wlk ?_;intros);refine aG (α:=Nat) mixed (fun a=>[(0,.val (.string w)),(5,.val (.string d)),(6,.row 0 1 0 (w.size+1)),(22,.lst false 1 (pats.map fun s=> .val (.string s))),(23,iv pats.length),(24,iv k),(9,.val (.string lt)),(10,.lst true 1 (lv.map pvN)),(11,iv a)])
   (fun a=>[(0,3,1,(lvA d w.size lt lv o a).map pvN)]) (fun _=>1)
   (fun a=>a≤w.size+3-lt.size) (fun a=>w.size+3-lt.size-a) (by kernel_rfl) 0 (Nat.zero_le _) ?_ ?_ rfl ?_
  ·exact agr
  ·simp(disch:=(first|omega|(simp only[push_cast];first|done|omega))) only[push_cast,↓reduceIte,Nat.reduceEqDiff,Nat.reduceBEq,Nat.reduceAdd,Nat.reduceSub,Int.reduceToNat,lvA, *]
  intro a ha;by_cases ha0:a<w.size+3-lt.size
  ·obtain⟨oa1,oa2⟩:=hA a
   have hJ:=fun j=>((hA a).lvJ (a:=a) (lv:=lv) g3 j);clear hA ho happ;by_cases hm:d.extract a (a+lt.size)=lt
   ·have hn:=aiw (sz:=w.size) (lv:=lv) (o:=o) hm
    replace hn:=Lib.hid hn;replace hm:=Lib.hid hm;generalize lvA d w.size lt lv o a=oa at*;have hm:=hm.out;(refine wlk ?_;intros);clear hm;refine aG (α:=Nat) mixed (fun j=>[(0,.val (.string w)),(5,.val (.string d)),(6,.row 0 1 0 (w.size+1)),(22,.lst false 1 (pats.map fun s=> .val (.string s))),(23,iv pats.length),(24,iv k),(9,.val (.string lt)),(10,.lst true 1 (lv.map pvN)),(11,iv a),(51,.lst true 1 (lv.map pvN)),(52,iv lv.length),(53,iv j)])
     (fun j=>[(0,3,1,(lvJ w.size a lv oa j).map pvN)]) (fun _=>1)
     (fun j=>j≤lv.length) (fun j=>lv.length-j) (by kernel_rfl) 0 (Nat.zero_le _) ?_ ?_ rfl ?_
    ·exact agr
    ·simp(disch:=(first|omega|(simp only[push_cast];first|done|omega))) only[push_cast,↓reduceIte,Nat.reduceEqDiff,Nat.reduceBEq,Nat.reduceAdd,Nat.reduceSub,Int.reduceToNat,lvJ, *]
    intro j hj;by_cases hj0:j<lv.length
    ·obtain⟨oj1,oj2⟩:=hJ j
     clear hJ;have hs:lvJ w.size a lv oa (j+1)=ab5 w.size a j lv (lvJ w.size a lv oa j):=rfl;have hg3:=g3 j;by_cases hin:1≤a+j∧a+j≤w.size+1
     ·rw[acX hin.1 hin.2]at hs
      replace hs:=Lib.hid hs;have api1:inB ((a:Int)+j-1) 0 w.size=true:=av.2 ⟨by omega,by omega⟩;have hti:((a:Int)+j-1).toNat=a+j-1:=by omega
      generalize lvJ w.size a lv oa j=oj at*;(refine wlk ?_;intros);refine⟨j+1,by omega,by dsimp only;omega,?_,?_,rfl⟩
      ·exact agr
      ·dsimp only
       rw[hs.out];exact agr
     ·rw[zA hin]at hs
      replace hs:=Lib.hid hs;have api1:inB ((a:Int)+j-1) 0 w.size=false:=Bool.eq_false_iff.2 fun q=>by have:=av.1 q;omega
      generalize lvJ w.size a lv oa j=oj at*;(refine wlk ?_;intros);refine⟨j+1,by omega,by dsimp only;omega,?_,?_,rfl⟩
      ·exact agr
      ·dsimp only
       rw[hs.out];exact agr
    ·obtain rfl:j=lv.length:=by omega
     clear hJ;(refine wlk ?_;intros);refine⟨a+1,by omega,by dsimp only;omega,?_,?_,rfl⟩
     ·exact agr
     ·dsimp only
      rw[hn.out];exact agr
   ·have hn:=adk (sz:=w.size) (lv:=lv) (o:=o) hm
    replace hn:=Lib.hid hn;generalize lvA d w.size lt lv o a=oa at*;(refine wlk ?_;intros);refine⟨a+1,by omega,by dsimp only;omega,?_,?_,rfl⟩
    ·exact agr
    ·dsimp only
     rw[hn.out];exact agr
  ·have hae:a=w.size+3-lt.size:=by omega
   clear hA ho happ;rw[←hae]at hnx;generalize lvA d w.size lt lv o a=oa at*;clear hae;(refine wlk ?_;intros);refine⟨k+1,by omega,by dsimp only;omega,?_,?_,rfl⟩
   ·exact agr
   ·dsimp only
    rw[hnx.out];exact agr
 ·obtain rfl:k=pats.length:=by omega
  obtain⟨o1,o2⟩:=hlo pats.length;clear hlo hpa;generalize lvP w pats pats.length=o at*;exact wlkF
def amq:Ctx:={fn:=aY [(81,gP),(71,gX),(233,amo)],io:=aY []}
theorem alH:ak Tryz.prog amq:=okΓ (fC Tryz.func81 gy (fC Tryz.func71 dR (fC Tryz.func233 aeo aj))) aj
def yP:=ah (Γ:=amq) (f:=81) (φ:=gP) rfl
def yU:=ah (Γ:=amq) (f:=71) (φ:=gX) rfl
def tT:=ah (Γ:=amq) (f:=233) (φ:=amo) rfl
theorem aiK:Sound Tryz.prog 211 φLv:=by
 refine gM mixed alH Tryz.func211 rfl 16 rfl [.tmp 4] rfl (by kernel_rfl) fun ps r hr=>?_;obtain⟨w,pats,rfl,hpre,rfl⟩:=iB hr;refine⟨by simp,?_⟩;simp only[dIs,dUs,dSs,dz,dF,dx,dG,aR,dD,aU,aV,aS,aT];have ap1:=iH (s:=w) (by omega);have ap2:=iJ hpre.2;have apl:=fun h=>al6 (w:=w) (pats:=pats) h;unfold pI rJ;unfold rJ at apl;cases hw:dM w with
 |false=>
  rw[hw]at ap1;clear apl hpre hw;rw[Bool.false_and,if_neg (by decide)];have glvi2_c81:=yP;have glvi2_c71:=yU;have glvi2_c233:=tT;(refine wlk ?_;intros);all_goals((with_reducible apply dw (by first|exact .inl rfl|exact .inr rfl));(simp(disch:=(first|omega|(simp only[push_cast];first|done|omega))) only[push_cast,↓reduceIte,Nat.reduceEqDiff,Nat.reduceBEq,Nat.reduceAdd,Nat.reduceSub,Int.reduceToNat, *]<;>with_reducible exact rfl))
  all_goals exact nil_le _ _
 |true=>
  cases hp:bE pats with
  |false=>
   rw[hw]at ap1;rw[hp]at ap2;clear apl hpre hw hp;rw[Bool.and_false,if_neg (by decide)];have glvi2_c81:=yP;have glvi2_c71:=yU;have glvi2_c233:=tT;(refine wlk ?_;intros);all_goals((with_reducible apply dw (by first|exact .inl rfl|exact .inr rfl));(simp(disch:=(first|omega|(simp only[push_cast];first|done|omega))) only[push_cast,↓reduceIte,Nat.reduceEqDiff,Nat.reduceBEq,Nat.reduceAdd,Nat.reduceSub,Int.reduceToNat, *]<;>with_reducible exact rfl))
   all_goals exact nil_le _ _
  |true=>
   have apl:=apl (by rw[hw,hp];rfl);rw[hw]at ap1;rw[hp]at ap2;clear hpre hw hp;rw[Bool.and_true,if_pos rfl];have glvi2_c81:=yP;have glvi2_c71:=yU;have glvi2_c233:=tT;(refine wlk ?_;intros);all_goals((with_reducible apply dw (by first|exact .inl rfl|exact .inr rfl));(simp(disch:=(first|omega|(simp only[push_cast];first|done|omega))) only[push_cast,↓reduceIte,Nat.reduceEqDiff,Nat.reduceBEq,Nat.reduceAdd,Nat.reduceSub,Int.reduceToNat, *]<;>with_reducible exact rfl))
   all_goals exact PV.le_refl _
def asl:Ctx:={fn:=aY [(68,gP),(33,gX),(223,φPl),(224,φPv),(34,φIn)],io:=aY []}
theorem arV:ak Tryz.prog asl:=okΓ (fC Tryz.func68 gD (fC Tryz.func33 dQ (fC Tryz.func223 ahN (fC Tryz.func224 ajc (fC Tryz.func34 iy aj))))) aj
def abo:=ah (Γ:=asl) (f:=68) (φ:=gP) rfl
def acv:=ah (Γ:=asl) (f:=33) (φ:=gX) rfl
def xG:=ah (Γ:=asl) (f:=223) (φ:=φPl) rfl
def xI:=ah (Γ:=asl) (f:=224) (φ:=φPv) rfl
def ab3:=ah (Γ:=asl) (f:=34) (φ:=φIn) rfl
theorem ajz:Sound Tryz.prog 186 φLv:=by
 refine au mixed arV Tryz.func186 rfl 90 rfl [.tmp 4] rfl (by kernel_rfl) fun ps r hr=>?_;obtain⟨w,pats,rfl,hpre,rfl⟩:=iB hr;refine⟨by simp,?_⟩;simp only[dIs,dUs,dSs,dz,dF,dx,dG,aR,dD,aU,aV,aS,aT];have ap1:=iH (s:=w) (by omega);have ap2:=iJ hpre.2;unfold pI rJ;cases hw:dM w with
 |false=>rw[hw]at ap1;clear hpre hw;rw[Bool.false_and,if_neg (by decide)];have glvs_c68:=abo;have glvs_c33:=acv;have glvs_c223:=xG;have glvs_c224:=xI;have glvs_c34:=ab3;exact wlkF
 |true=>
 cases hp:bE pats with
 |false=>rw[hw]at ap1;rw[hp]at ap2;clear hpre hw hp;rw[Bool.and_false,if_neg (by decide)];have glvs_c68:=abo;have glvs_c33:=acv;have glvs_c223:=xG;have glvs_c224:=xI;have glvs_c34:=ab3;exact wlkF
 |true=>
 rw[hw]at ap1;rw[hp]at ap2;rw[Bool.and_true,if_pos rfl];obtain⟨-,hw1,hw2⟩:=aX hw;have hpl:=adb hp;have hpa:=fun k hk=>ah9 hp (k:=k) hk;have hds:=aaf w;have hlo:=zX w pats;have hd0:aqs w=(⟨#[46]⟩++w)++⟨#[46]⟩:=rfl;have h46:(⟨#[46]⟩:ByteArray).size=1:=rfl;have api:=bK;unfold iO;clear hw hp hpre;have glvs_c68:=abo;have glvs_c33:=acv;have glvs_c223:=xG;have glvs_c224:=xI;have glvs_c34:=ab3;(refine wlk ?_;intros);rw[←hd0];clear hd0 h46;generalize hdd:aqs w=d at*;refine aG (α:=Nat) mixed (fun k=>[(0,.val (.string w)),(1,.lst false 1 (pats.map fun s=> .val (.string s))),(5,.row 0 1 0 (w.size+1)),(6,.val (.string d)),(7,iv k)])
  (fun k=>[(0,3,1,(lvP w pats k).map pvN)]) (fun _=>1)
  (fun k=>k≤pats.length) (fun k=>pats.length-k) (by kernel_rfl) 0 (Nat.zero_le _) ?_ ?_ rfl ?_
 ·exact agr
 ·simp(disch:=(first|omega|(simp only[push_cast];first|done|omega))) only[push_cast,↓reduceIte,Nat.reduceEqDiff,Nat.reduceBEq,Nat.reduceAdd,Nat.reduceSub,Int.reduceToNat,lvP,List.map_replicate, *]
 intro k hk;by_cases h0:k<pats.length
 ·have hpk:=hpa k h0
  have hap1:=ar0 hpk;have hap2:=anV hpk;obtain⟨g1,g2,g3⟩:=nE (pats[k]?.getD .empty);have hps:=(lM hpk).2;have hnx:lvP w pats (k+1)=lvA d w.size (dH (pats[k]?.getD .empty)) (eU (pats[k]?.getD .empty)) (lvP w pats k) (w.size+3-(dH (pats[k]?.getD .empty)).size):=by rw[lvP,hdd]
  have ho:=hlo k;replace hnx:=Lib.hid hnx;clear hpa hlo hpk;generalize hp9:pats[k]?.getD ByteArray.empty=p at*;generalize dH p=lt at*;generalize eU p=lv at*;generalize lvP w pats k=o at*;have hA:=fun a=>(ho.lvA (d:=d) (lt:=lt) (lv:=lv) g3 a);(refine wlk ?_;intros);refine aG (α:=Nat) mixed (fun a=>[(0,.val (.string w)),(1,.lst false 1 (pats.map fun s=> .val (.string s))),(5,.row 0 1 0 (w.size+1)),(6,.val (.string d)),(7,iv k),(8,.val (.string lt)),(9,.lst true 1 (lv.map pvN)),(10,iv a)])
   (fun a=>[(0,3,1,(lvA d w.size lt lv o a).map pvN)]) (fun _=>1)
   (fun a=>a≤w.size+3-lt.size) (fun a=>w.size+3-lt.size-a) (by kernel_rfl) 0 (Nat.zero_le _) ?_ ?_ rfl ?_
  ·exact agr
  ·simp(disch:=(first|omega|(simp only[push_cast];first|done|omega))) only[push_cast,↓reduceIte,Nat.reduceEqDiff,Nat.reduceBEq,Nat.reduceAdd,Nat.reduceSub,Int.reduceToNat,lvA, *]
  intro a ha;by_cases ha0:a<w.size+3-lt.size
  ·obtain⟨oa1,oa2⟩:=hA a
   have hJ:=fun j=>((hA a).lvJ (a:=a) (lv:=lv) g3 j);clear hA ho hap1 hap2;by_cases hm:d.extract a (a+lt.size)=lt
   ·have hn:=aiw (sz:=w.size) (lv:=lv) (o:=o) hm
    replace hn:=Lib.hid hn;replace hm:=Lib.hid hm;generalize lvA d w.size lt lv o a=oa at*;have hm:=hm.out;(refine wlk ?_;intros);clear hm;refine aG (α:=Nat) mixed (fun j=>[(0,.val (.string w)),(1,.lst false 1 (pats.map fun s=> .val (.string s))),(5,.row 0 1 0 (w.size+1)),(6,.val (.string d)),(7,iv k),(8,.val (.string lt)),(9,.lst true 1 (lv.map pvN)),(10,iv a),(11,iv j)])
     (fun j=>[(0,3,1,(lvJ w.size a lv oa j).map pvN)]) (fun _=>1)
     (fun j=>j≤lv.length) (fun j=>lv.length-j) (by kernel_rfl) 0 (Nat.zero_le _) ?_ ?_ rfl ?_
    ·exact agr
    ·simp(disch:=(first|omega|(simp only[push_cast];first|done|omega))) only[push_cast,↓reduceIte,Nat.reduceEqDiff,Nat.reduceBEq,Nat.reduceAdd,Nat.reduceSub,Int.reduceToNat,lvJ, *]
    intro j hj;by_cases hj0:j<lv.length
    ·obtain⟨oj1,oj2⟩:=hJ j
     clear hJ;have hs:lvJ w.size a lv oa (j+1)=ab5 w.size a j lv (lvJ w.size a lv oa j):=rfl;have hg3:=g3 j;by_cases hin:1≤a+j∧a+j≤w.size+1
     ·rw[acX hin.1 hin.2]at hs
      replace hs:=Lib.hid hs;have api1:inB ((a:Int)+j-1) 0 w.size=true:=av.2 ⟨by omega,by omega⟩;have hti:((a:Int)+j-1).toNat=a+j-1:=by omega
      generalize lvJ w.size a lv oa j=oj at*;(refine wlk ?_;intros);refine⟨j+1,by omega,by dsimp only;omega,?_,?_,rfl⟩
      ·exact agr
      ·dsimp only
       rw[hs.out];exact agr
     ·rw[zA hin]at hs
      replace hs:=Lib.hid hs;have api1:inB ((a:Int)+j-1) 0 w.size=false:=Bool.eq_false_iff.2 fun q=>by have:=av.1 q;omega
      generalize lvJ w.size a lv oa j=oj at*;(refine wlk ?_;intros);refine⟨j+1,by omega,by dsimp only;omega,?_,?_,rfl⟩
      ·exact agr
      ·dsimp only
       rw[hs.out];exact agr
    ·obtain rfl:j=lv.length:=by omega
     clear hJ;(refine wlk ?_;intros);refine⟨a+1,by omega,by dsimp only;omega,?_,?_,rfl⟩
     ·exact agr
     ·dsimp only
      rw[hn.out];exact agr
   ·have hn:=adk (sz:=w.size) (lv:=lv) (o:=o) hm
    replace hn:=Lib.hid hn;generalize lvA d w.size lt lv o a=oa at*;(refine wlk ?_;intros);refine⟨a+1,by omega,by dsimp only;omega,?_,?_,rfl⟩
    ·exact agr
    ·dsimp only
     rw[hn.out];exact agr
  ·have hae:a=w.size+3-lt.size:=by omega
   clear hA ho hap1 hap2;rw[←hae]at hnx;generalize lvA d w.size lt lv o a=oa at*;clear hae;(refine wlk ?_;intros);refine⟨k+1,by omega,by dsimp only;omega,?_,?_,rfl⟩
   ·exact agr
   ·dsimp only
    rw[hnx.out];exact agr
 ·obtain rfl:k=pats.length:=by omega
  obtain⟨o1,o2⟩:=hlo pats.length;clear hlo hpa;generalize lvP w pats pats.length=o at*;exact wlkF
end
end Go.Proofs.YtmmafcjjlbgnkaaGreatDoor
