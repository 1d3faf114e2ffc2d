/- What the proof rests on, part 9: contracts of functions. No condition beyond what each states. -/
import Derived.Test.YtmmafcjjlbgnkaaGreatZBpE8
namespace Go.Proofs.YtmmafcjjlbgnkaaGreat
open Go.RowKit
set_option linter.all false
set_option maxHeartbeats 32000000
noncomputable section
def amB (c:Int) (s:ByteArray):Bool:=s.data.toList.any fun b=>decide (c=(b.toNat:Int))
theorem awl {b:UInt8} {c:Int} (h0:0≤c) (h1:c≤255):(b==c.toNat.toUInt8)=decide (c=(b.toNat:Int)):=by
 have e:(c.toNat.toUInt8).toNat=c.toNat:=by show c.toNat % 256=c.toNat;omega
 rw[Bool.eq_iff_iff,beq_iff_eq,decide_eq_true_eq];constructor
 ·intro h
  rw[h,e];omega
 ·intro h
  apply UInt8.toNat_inj.1;rw[e];omega
theorem ama:∀(l:List UInt8) {c:Int},0≤c→c≤255→decide (0≤Lib.indexByte l c.toNat.toUInt8)=l.any fun b=>decide (c=(b.toNat:Int))
 |[],c,_,_=>rfl
 |b::l,c,h0,h1=>by
  have ih:=ama l h0 h1;have hge:=Lib.indexByte_ge l c.toNat.toUInt8;unfold Lib.indexByte;rw[awl h0 h1,List.any_cons];cases hb:decide (c=(b.toNat:Int))with
  |true=>rfl
  |false=>
   rw[Bool.false_or,←ih,if_neg (by decide)];split
   ·rename_i hx
    rw[beq_iff_eq.1 hx]
   ·rename_i hx
    have hx1:¬Lib.indexByte l c.toNat.toUInt8=-1:=fun e=>hx (beq_iff_eq.2 e);exact decide_eq_decide.2 (by omega)
def aak (c:Int):Int:=if c<97∨122<c then 0 else if c=105∨c=106∨c=108 then 3 else if c=102∨c=114∨c=116 then 4 else if c=109∨c=119 then 8 else 5
def mM (a b:Int):Int:=if((a=118∨a=119∨a=121)∧(b=97∨b=101∨b=111))∨(a=114∧(b=110∨b=109))then 1 else 0
def oL (a b:Int):Bool:=decide (a=102∧(b=105∨b=106∨b=108∨b=102))
theorem wN (c:Int):0≤aak c∧aak c≤8:=by
 unfold aak
 repeat' split
 all_goals omega
theorem su (a b:Int):0≤mM a b∧mM a b≤1:=by unfold mM;split<;>omega
def acd:Fun:=F1 dU fun c=>some (iv (aak c))
theorem ahn (c:Int):acd [.val (.int .u8 c)]=some (.val (.int .i64 (aak c))):=rfl
def adp:Fun:=F2 dU dU fun a b=>some (iv (mM a b))
theorem ahN (a b:Int):adp [.val (.int .u8 a),.val (.int .u8 b)]=some (.val (.int .i64 (mM a b))):=rfl
def xu:Fun:=F2 dU dU fun a b=>some (bv (oL a b))
theorem ae4 (a b:Int):xu [.val (.int .u8 a),.val (.int .u8 b)]=some (.val (.bool (oL a b))):=rfl
theorem abX:Sound Tryz.prog 111 acd:=by
 refine ak mixed bL Tryz.func111 rfl 39 rfl [.tmp 2] rfl (by kernel_rfl) fun ps r hr=>?_;obtain⟨c,rfl,hr⟩:=bG hr;cases hr;refine⟨by simp,?_⟩;simp only[dIs,dUs,dSs,bR,bV,bT,bU,aI,bW,aL,aO,aH,aJ];(repeat' (first|(with_reducible first|apply nk|apply fV|apply iW|apply iR|apply nZ|apply acQ|apply ny|apply nR|apply adH|apply ou|apply nL|apply adj|apply mX|apply nK|apply nN)|((with_reducible apply dR);(simp only[List.map_cons,List.map_nil]<;>exact rfl))|((with_reducible apply iP);(simp only[List.map_cons,List.map_nil]<;>exact rfl);decide+kernel)|((with_reducible apply mY);rfl)|((first|((with_reducible apply i_V);rfl;rfl;rfl)|((first|((with_reducible apply i_E);rfl)|((with_reducible apply i_S);rfl));first|rfl|(simp only[push_cast,↓reduceIte]))|((with_reducible apply acF);rfl;rfl)|((with_reducible apply adM);rfl;rfl;rfl)|(with_reducible first|apply adg|apply iT));(simp(disch:=(first|omega|(simp only[push_cast];first|done|omega))) only[push_cast,↓reduceIte,Nat.reduceEqDiff,Nat.reduceBEq,Nat.reduceAdd,Nat.reduceSub,Int.reduceToNat, *]<;>with_reducible exact rfl);all_goals try(first|(with_reducible first|refine hyT ?_|refine hyF ?_|exact hyA|exact hyB)|(intro hX;first|(cases hX;done)|((try simp only[decide_eq_true_eq,decide_eq_false_iff_not,Bool.not_eq_true',Bool.not_eq_false']at hX);(try have hXb:=ay.1 hX)))))));all_goals try(exfalso;omega)
 all_goals((first|apply aa3|apply uE);simp(disch:=(first|omega|(simp only[push_cast];first|done|omega))) only[push_cast,↓reduceIte,Nat.reduceEqDiff,Nat.reduceBEq,Nat.reduceAdd,Nat.reduceSub,Int.reduceToNat, *])
 all_goals((refine congrArg (fun z=>some (PV.val (Value.int IntKind.i64 z))) ?_);unfold aak;repeat' split)
 all_goals omega
theorem aaU:Sound Tryz.prog 112 adp:=by
 refine ak mixed bL Tryz.func112 rfl 43 rfl [.tmp 4] rfl (by kernel_rfl) fun ps r hr=>?_;obtain⟨a,b,rfl,hr⟩:=jg hr;cases hr;refine⟨by simp,?_⟩;simp only[dIs,dUs,dSs,bR,bV,bT,bU,aI,bW,aL,aO,aH,aJ];(repeat' (first|(with_reducible first|apply nk|apply fV|apply iW|apply iR|apply nZ|apply acQ|apply ny|apply nR|apply adH|apply ou|apply nL|apply adj|apply mX|apply nK|apply nN)|((with_reducible apply dR);(simp only[List.map_cons,List.map_nil]<;>exact rfl))|((with_reducible apply iP);(simp only[List.map_cons,List.map_nil]<;>exact rfl);decide+kernel)|((with_reducible apply mY);rfl)|((first|((with_reducible apply i_V);rfl;rfl;rfl)|((first|((with_reducible apply i_E);rfl)|((with_reducible apply i_S);rfl));first|rfl|(simp only[push_cast,↓reduceIte]))|((with_reducible apply acF);rfl;rfl)|((with_reducible apply adM);rfl;rfl;rfl)|(with_reducible first|apply adg|apply iT));(simp(disch:=(first|omega|(simp only[push_cast];first|done|omega))) only[push_cast,↓reduceIte,Nat.reduceEqDiff,Nat.reduceBEq,Nat.reduceAdd,Nat.reduceSub,Int.reduceToNat, *]<;>with_reducible exact rfl);all_goals try(first|(with_reducible first|refine hyT ?_|refine hyF ?_|exact hyA|exact hyB)|(intro hX;first|(cases hX;done)|((try simp only[decide_eq_true_eq,decide_eq_false_iff_not,Bool.not_eq_true',Bool.not_eq_false']at hX);(try have hXb:=ay.1 hX)))))));all_goals try(exfalso;omega)
 all_goals((first|apply aa3|apply uE);simp(disch:=(first|omega|(simp only[push_cast];first|done|omega))) only[push_cast,↓reduceIte,Nat.reduceEqDiff,Nat.reduceBEq,Nat.reduceAdd,Nat.reduceSub,Int.reduceToNat, *])
 all_goals((refine congrArg (fun z=>some (PV.val (Value.int IntKind.i64 z))) ?_);unfold mM;repeat' split)
 all_goals omega
theorem zq:Sound Tryz.prog 122 xu:=by refine ak mixed bL Tryz.func122 rfl 23 rfl [.tmp 4] rfl (by kernel_rfl) fun ps r hr=>?_;obtain⟨a,b,rfl,hr⟩:=jg hr;cases hr;refine⟨by simp,?_⟩;simp only[dIs,dUs,dSs,bR,bV,bT,bU,aI,bW,aL,aO,aH,aJ];((refine wlk6 ?_ ?_ ?_ ?_ ?_ ?_<;>intros<;>try with_reducible exact trivial)<;>(refine fnG ?_;try with_reducible exact trivial));all_goals((refine congrArg (fun z=>some (PV.val (Value.bool z))) ?_);unfold oL;first|(simp;omega)|simp_all)
def φIb:Fun:=F2 dS dU fun s c=>some (iv (Lib.indexByte s.data.toList c.toNat.toUInt8))
theorem axw:Sound Tryz.prog 118 φIb:=by
 intro w J ps args r hr hJ hT hargs;obtain⟨s,c,rfl,hq⟩:=jg hr;cases hq;simp only[bI]at hargs;obtain⟨v1,vs1,e1,h1,v2,vs2,rfl,h2,rfl⟩:=hargs;obtain rfl:args=#[v1,v2]:=by obtain⟨a⟩:=args;simp only at e1;rw[e1]
 simp only[dS,dU,Rep]at h1 h2;subst h1;subst h2;refine(YtmmafcjjlbgnkaaGreat.strings_IndexByte s c w).mono ?_;rintro e w' ⟨rfl,rfl⟩;exact⟨_,rfl,Below.refl _ _,fun g' _=>by simp only[Rep]⟩
theorem aoc (s:ByteArray) (c:Int):φIb [.val (.string s),.val (.int .u8 c)]=some (.val (.int .i64 (Lib.indexByte s.data.toList c.toNat.toUInt8))):=rfl
def φAm:Fun:=F2 dU dS fun c s=>open Classical in if 0≤c∧c≤255 then some (bv (amB c s))else none
theorem l6 {c:Int} (s:ByteArray) (h:0≤c∧c≤255):φAm [.val (.int .u8 c),.val (.string s)]=some (.val (.bool (amB c s))):=(gY (A:=dU) (B:=dS) c s).trans (if_pos h)
def GAm:Ctx:={fn:=aT [(118,φIb)],io:=aT []}
theorem ar8:au Tryz.prog GAm:=okΓ (fC Tryz.func118 axw aj) aj
def aon:=ah (Γ:=GAm) (f:=118) (φ:=φIb) rfl
theorem adw:Sound Tryz.prog 105 φAm:=by refine ak mixed ar8 Tryz.func105 rfl 9 rfl [.tmp 4] rfl (by kernel_rfl) fun ps r hr=>?_;obtain⟨c,s,rfl,hpre,rfl⟩:=gy hr;refine⟨by simp,?_⟩;simp only[dIs,dUs,dSs,bR,bV,bT,bU,aI,bW,aL,aO,aH,aJ];have e:=ama s.data.toList hpre.1 hpre.2;have hge:=Lib.indexByte_ge s.data.toList c.toNat.toUInt8;have ap:=aoc s c;unfold amB;rw[←e];generalize Lib.indexByte s.data.toList c.toNat.toUInt8=i at*;clear e;have gam_c118:=aon;exact wlkF
theorem am2 (c a b:Int) (x y:UInt8) (h:(x.toNat:Int)=a) (h2:(y.toNat:Int)=b):amB c ⟨#[x,y]⟩=decide (c=a∨c=b):=by simp[amB,h,h2]
theorem am3 (c a b d:Int) (x y z:UInt8) (h:(x.toNat:Int)=a) (h2:(y.toNat:Int)=b) (h3:(z.toNat:Int)=d):amB c ⟨#[x,y,z]⟩=decide (c=a∨c=b∨c=d):=by simp[amB,h,h2,h3]
theorem am4 (c a b d e:Int) (x y z u:UInt8) (h:(x.toNat:Int)=a) (h2:(y.toNat:Int)=b) (h3:(z.toNat:Int)=d) (h4:(u.toNat:Int)=e):amB c ⟨#[x,y,z,u]⟩=decide (c=a∨c=b∨c=d∨c=e):=by simp[amB,h,h2,h3,h4]
def xB:Fun:=F1 dU fun c=>open Classical in if 0≤c∧c≤255 then some (iv (aak c))else none
theorem aem {c:Int} (h:0≤c∧c≤255):xB [.val (.int .u8 c)]=some (.val (.int .i64 (aak c))):=(fM (A:=dU) c).trans (if_pos h)
def vY:Fun:=F2 dU dU fun a b=>open Classical in if(0≤a∧a≤255)∧0≤b∧b≤255 then some (iv (mM a b))else none
theorem afu {a b:Int} (h:0≤a∧a≤255) (h2:0≤b∧b≤255):vY [.val (.int .u8 a),.val (.int .u8 b)]=some (.val (.int .i64 (mM a b))):=(gY (A:=dU) (B:=dU) a b).trans (if_pos ⟨h,h2⟩)
def wC:Fun:=F2 dU dU fun a b=>open Classical in if(0≤a∧a≤255)∧0≤b∧b≤255 then some (bv (oL a b))else none
theorem ae7 {a b:Int} (h:0≤a∧a≤255) (h2:0≤b∧b≤255):wC [.val (.int .u8 a),.val (.int .u8 b)]=some (.val (.bool (oL a b))):=(gY (A:=dU) (B:=dU) a b).trans (if_pos ⟨h,h2⟩)
def GLw:Ctx:={fn:=aT [(85,kI),(105,φAm)],io:=aT []}
theorem asJ:au Tryz.prog GLw:=okΓ (fC Tryz.func85 oZ (fC Tryz.func105 adw aj)) aj
def as4:=ah (Γ:=GLw) (f:=85) (φ:=kI) rfl
def aqu:=ah (Γ:=GLw) (f:=105) (φ:=φAm) rfl
theorem abG:Sound Tryz.prog 89 xB:=by
 refine ak mixed asJ Tryz.func89 rfl 16 rfl [.tmp 2] rfl (by kernel_rfl) fun ps r hr=>?_;obtain⟨c,rfl,hpre,rfl⟩:=kW hr;refine⟨by simp,?_⟩;simp only[dIs,dUs,dSs,bR,bV,bT,bU,aI,bW,aL,aO,aH,aJ];have ap1:=pJ c;have ap2:=(l6 ⟨#[105,106,108]⟩ hpre).trans (by rw[am3 c 105 106 108 _ _ _ rfl rfl rfl]);have ap3:=(l6 ⟨#[102,114,116]⟩ hpre).trans (by rw[am3 c 102 114 116 _ _ _ rfl rfl rfl]);have ap4:=(l6 ⟨#[109,119]⟩ hpre).trans (by rw[am2 c 109 119 _ _ rfl rfl]);have glw_c85:=as4;have glw_c105:=aqu;((refine wlk6 ?_ ?_ ?_ ?_ ?_ ?_<;>intros<;>try with_reducible exact trivial)<;>(refine fnG ?_;try with_reducible exact trivial));all_goals((refine congrArg (fun z=>some (PV.val (Value.int IntKind.i64 z))) ?_);unfold aak;repeat' split)
 all_goals(first|omega|(simp[inB]at*;omega))
def GNb:Ctx:={fn:=aT [(105,φAm)],io:=aT []}
theorem amh:au Tryz.prog GNb:=okΓ (fC Tryz.func105 adw aj) aj
def agG:=ah (Γ:=GNb) (f:=105) (φ:=φAm) rfl
theorem aaB:Sound Tryz.prog 90 vY:=by
 refine ak mixed amh Tryz.func90 rfl 19 rfl [.tmp 4] rfl (by kernel_rfl) fun ps r hr=>?_;obtain⟨a,b,rfl,hpre,rfl⟩:=gy hr;refine⟨by simp,?_⟩;simp only[dIs,dUs,dSs,bR,bV,bT,bU,aI,bW,aL,aO,aH,aJ];have ap1:=(l6 ⟨#[118,119,121]⟩ hpre.1).trans (by rw[am3 a 118 119 121 _ _ _ rfl rfl rfl]);have ap2:=(l6 ⟨#[97,101,111]⟩ hpre.2).trans (by rw[am3 b 97 101 111 _ _ _ rfl rfl rfl]);have ap3:=(l6 ⟨#[110,109]⟩ hpre.2).trans (by rw[am2 b 110 109 _ _ rfl rfl]);have gnb_c105:=agG;((refine wlk6 ?_ ?_ ?_ ?_ ?_ ?_<;>intros<;>try with_reducible exact trivial)<;>(refine fnG ?_;try with_reducible exact trivial));all_goals((refine congrArg (fun z=>some (PV.val (Value.int IntKind.i64 z))) ?_);unfold mM;repeat' split)
 all_goals omega
theorem zw:Sound Tryz.prog 104 wC:=by refine ak mixed amh Tryz.func104 rfl 11 rfl [.tmp 4] rfl (by kernel_rfl) fun ps r hr=>?_;obtain⟨a,b,rfl,hpre,rfl⟩:=gy hr;refine⟨by simp,?_⟩;simp only[dIs,dUs,dSs,bR,bV,bT,bU,aI,bW,aL,aO,aH,aJ];have ap1:=(l6 ⟨#[105,106,108,102]⟩ hpre.2).trans (by rw[am4 b 105 106 108 102 _ _ _ _ rfl rfl rfl rfl]);have gnb_c105:=agG;((refine wlk6 ?_ ?_ ?_ ?_ ?_ ?_<;>intros<;>try with_reducible exact trivial)<;>(refine fnG ?_;try with_reducible exact trivial));all_goals((refine congrArg (fun z=>some (PV.val (Value.bool z))) ?_);unfold oL;first|(simp;omega)|simp_all)
abbrev sgN (s:ByteArray) (i:Nat):Nat:=if i+1<s.size∧oL (at8 s i) (at8 s (i+1))=true then 2 else 1
def sgF (s:ByteArray):Nat→Nat→LS
 |0,_=>[]
 |f+1,i=>if i<s.size then s.extract i (i+sgN s i)::sgF s f (i+sgN s i)else []
def signs (s:ByteArray):LS:=sgF s s.size 0
theorem qK {s:ByteArray} {f i:Nat} (h:i<s.size):sgF s (f+1) i=s.extract i (i+sgN s i)::sgF s f (i+sgN s i):=by rw[sgF,if_pos h]
theorem abU {s:ByteArray} {f i:Nat} (h:s.size≤i):sgF s f i=[]:=by
 cases f with
 |zero=>rfl
 |succ f=>rw[sgF,if_neg (by omega)]
theorem apS (s:ByteArray) (i:Nat):1≤sgN s i∧sgN s i≤2∧(i<s.size→i+sgN s i≤s.size):=by unfold sgN;split<;>omega
theorem agX {s:ByteArray} {a b j:Nat} (h:j<b-a) (hb:b≤s.size):at8 (s.extract a b) j=at8 s (a+j):=by
 unfold at8;have h1:j<(s.extract a b).size:=by rw[ByteArray.size_extract];omega
 rw[getElem?_pos (s.extract a b) j h1,getElem?_pos s (a+j) (by omega)];rw[ByteArray.getElem_extract]
def aq5 (x:ByteArray):Prop:=1≤x.size∧x.size≤2∧∀j,j<x.size→97≤at8 x j∧at8 x j≤122
theorem amE {s:ByteArray} (h:∀j,j<s.size→97≤at8 s j∧at8 s j≤122):∀(f i:Nat),(∀x∈sgF s f i,aq5 x)∧(sgF s f i).length≤s.size-i
 |0,i=>⟨by simp[sgF],by simp[sgF]⟩
 |f+1,i=>by
  by_cases hi:i<s.size
  ·obtain⟨h1,h2,h3⟩:=apS s i
   obtain⟨i1,i2⟩:=amE h f (i+sgN s i);rw[qK hi];refine⟨fun x hx=>?_,by rw[List.length_cons];have:=h3 hi;omega⟩;rcases List.mem_cons.1 hx with rfl|hx
   ·have hsz:(s.extract i (i+sgN s i)).size=sgN s i:=by rw[ByteArray.size_extract];have:=h3 hi;omega
    refine⟨by omega,by omega,fun j hj=>?_⟩;have h4:=h3 hi;rw[agX (by omega) (by omega)];exact h _ (by omega)
   ·exact i1 x hx
  ·rw[abU (by omega)]
   exact⟨by simp,by simp⟩
theorem aR {s:ByteArray} (h:dw s=true):(∀j,j<s.size→97≤at8 s j∧at8 s j≤122)∧1≤s.size∧s.size≤20:=by unfold dw at h;rw[Bool.and_eq_true,List.all_eq_true]at h;refine⟨fun j hj=>ay.1 (h.1 j (List.mem_range.2 hj)),?_⟩;have:=ay.1 h.2;omega
theorem nQ {s:ByteArray} (h:dw s=true):(∀x∈signs s,aq5 x)∧1≤(signs s).length∧(signs s).length≤20:=by obtain⟨h1,h2,h3⟩:=aR h;obtain⟨i1,i2⟩:=amE h1 s.size 0;refine⟨i1,?_,by unfold signs;omega⟩;unfold signs;obtain⟨n,hn⟩:∃n,s.size=n+1:=⟨s.size-1,by omega⟩;rw[hn,qK (by omega),List.length_cons];omega
theorem vI {s:ByteArray} (h:dw s=true) {k:Nat} (hk:k<(signs s).length):aq5 ((signs s)[k]?.getD .empty):=by rw[List.getElem?_eq_getElem hk,Option.getD_some];exact(nQ h).1 _ (List.getElem_mem hk)
def sgW (x:ByteArray):Nat→Int
 |0=>0
 |j+1=>sgW x j+aak (at8 x j)
def vZ (g:LS) (k:Nat):Int:=if k+1<g.length then mM (at8 (g[k]?.getD .empty) ((g[k]?.getD .empty).size-1)) (at8 (g[k+1]?.getD .empty) 0)else 0
def wdK (g:LS):Nat→Int
 |0=>0
 |k+1=>wdK g k+sgW (g[k]?.getD .empty) (g[k]?.getD .empty).size-((g[k]?.getD .empty).size-1)-vZ g k
def oQ (s:ByteArray):Int:=if dw s=true then wdK (signs s) (signs s).length else-1
theorem abK {x:ByteArray} (h:aq5 x):∀j,j≤x.size→3*(j:Int)≤sgW x j∧sgW x j≤8*j
 |0,_=>⟨by simp[sgW],by simp[sgW]⟩
 |j+1,hj=>by
  have ih:=abK h j (by omega);have h1:=wN (at8 x j);have h2:=h.2.2 j (by omega);have h3:3≤aak (at8 x j):=by
   unfold aak;rw[if_neg (by omega)]
   repeat' split
   all_goals omega
  unfold sgW
  push_cast
  omega
theorem adu {x:ByteArray} (h:aq5 x):∀j,j≤x.size→0≤sgW x j∧sgW x j≤16:=fun j hj=>by have:=abK h j hj;have:=h.2.1;omega
theorem xU {g:LS} (h:∀k,k<g.length→aq5 (g[k]?.getD .empty)):∀k,k≤g.length→0≤wdK g k∧wdK g k≤16*k
 |0,_=>⟨by simp[wdK],by simp[wdK]⟩
 |k+1,hk=>by
  have ih:=xU h k (by omega);have h1:=h k (by omega);have h2:=abK h1 _ (Nat.le_refl _);have h3:=h1.1;have h4:=h1.2.1;have h5:0≤vZ g k∧vZ g k≤1:=by
   unfold vZ;split
   ·exact su _ _
   ·omega
  unfold wdK;generalize vZ g k=m at*;generalize sgW (g[k]?.getD .empty) (g[k]?.getD .empty).size=z at*;generalize(g[k]?.getD ByteArray.empty).size=y at*
  push_cast
  omega
theorem aga {s:ByteArray} (h:dw s=true):0≤oQ s∧oQ s≤320:=by have h1:=xU (fun k hk=>vI h hk) _ (Nat.le_refl _);have h2:=(nQ h).2.2;unfold oQ;rw[if_pos h];omega
def gQ (p:ByteArray):Nat→ByteArray×List Int×Int
 |0=>(⟨#[]⟩,[],0)
 |k+1=>if abZ (at8 p k)=true then((gQ p k).1,(gQ p k).2.1,at8 p k-48)else((gQ p k).1++p.extract k (k+1),(gQ p k).2.1++[(gQ p k).2.2],0)
def cu (p:ByteArray):ByteArray:=(gQ p p.size).1
def dN (p:ByteArray):List Int:=(gQ p p.size).2.1++[(gQ p p.size).2.2]
theorem qw {p:ByteArray} {k:Nat} (h:abZ (at8 p k)=true):gQ p (k+1)=((gQ p k).1,(gQ p k).2.1,at8 p k-48):=by rw[gQ,if_pos h]
theorem qD {p:ByteArray} {k:Nat} (h:abZ (at8 p k)=false):gQ p (k+1)=((gQ p k).1++p.extract k (k+1),(gQ p k).2.1++[(gQ p k).2.2],0):=by rw[gQ,if_neg (by rw[h];decide)]
theorem nY (p:ByteArray):∀k,k≤p.size→(gQ p k).1.size=(gQ p k).2.1.length∧(gQ p k).1.size≤k∧(0≤(gQ p k).2.2∧(gQ p k).2.2≤9)∧∀x∈(gQ p k).2.1,0≤x∧x≤9
 |0,_=>⟨rfl,Nat.le_refl _,⟨Int.le_refl _,by show(0:Int)≤9;omega⟩,by simp[gQ]⟩
 |k+1,hk=>by
  obtain⟨h1,h2,h3,h4⟩:=nY p k (by omega);cases hd:abZ (at8 p k)with
  |true=>rw[qw hd];have:=ay.1 hd;exact⟨h1,by dsimp only;omega,by dsimp only;omega,h4⟩
  |false=>
   rw[qD hd];refine⟨?_,?_,⟨Int.le_refl _,by show(0:Int)≤9;omega⟩,fun x hx=>?_⟩
   ·dsimp only
    rw[ByteArray.size_append,ByteArray.size_extract,List.length_append,List.length_singleton];omega
   ·dsimp only
    rw[ByteArray.size_append,ByteArray.size_extract];omega
   ·rcases List.mem_append.1 hx with hx|hx
    ·exact h4 x hx
    ·rw[List.mem_singleton.1 hx]
     exact h3
theorem mE (p:ByteArray):(dN p).length=(cu p).size+1∧(cu p).size≤p.size∧∀k:Nat,0≤(dN p)[k]?.getD 0∧(dN p)[k]?.getD 0≤9:=by
 obtain⟨h1,h2,h3,h4⟩:=nY p p.size (Nat.le_refl _);refine⟨by unfold dN cu;rw[List.length_append,List.length_singleton];omega,h2,fun k=>?_⟩;by_cases hk:k<(dN p).length
 ·rw[List.getElem?_eq_getElem hk,Option.getD_some]
  have hm:(dN p)[k]∈dN p:=List.getElem_mem hk;rcases List.mem_append.1 hm with hm|hm
  ·exact h4 _ hm
  ·rw[List.mem_singleton.1 hm];exact h3
 ·rw[List.getElem?_eq_none (by omega)]
  decide
def aaV (sz a j:Nat) (lv o:List Int):List Int:=if 1≤a+j∧a+j≤sz+1 then o.set (a+j-1) (if lv[j]?.getD 0>o[a+j-1]?.getD 0 then lv[j]?.getD 0 else o[a+j-1]?.getD 0)else o
def lvJ (sz a:Nat) (lv o:List Int):Nat→List Int
 |0=>o
 |j+1=>aaV sz a j lv (lvJ sz a lv o j)
open Classical in
noncomputable def lvA (d:ByteArray) (sz:Nat) (lt:ByteArray) (lv o:List Int):Nat→List Int
 |0=>o
 |a+1=>if d.extract a (a+lt.size)=lt then lvJ sz a lv (lvA d sz lt lv o a) lv.length else lvA d sz lt lv o a
def aqa (w:ByteArray):ByteArray:=(⟨#[46]⟩++w)++⟨#[46]⟩
theorem aai (w:ByteArray):(aqa w).size=w.size+2:=by unfold aqa;rw[ByteArray.size_append,ByteArray.size_append,show(⟨#[46]⟩:ByteArray).size=1 from rfl];omega
def lvP (w:ByteArray) (pats:LS):Nat→List Int
 |0=>List.replicate (w.size+1) 0
 |k+1=>lvA (aqa w) w.size (cu (pats[k]?.getD .empty)) (dN (pats[k]?.getD .empty)) (lvP w pats k) (w.size+3-(cu (pats[k]?.getD .empty)).size)
def iq (w:ByteArray) (pats:LS):List Int:=lvP w pats pats.length
def aeO (sz:Nat) (o:List Int):Prop:=o.length=sz+1∧∀k:Nat,0≤o[k]?.getD 0∧o[k]?.getD 0≤9
theorem aeO.set {sz a j:Nat} {lv o:List Int} (h:aeO sz o) (hl:∀k:Nat,0≤lv[k]?.getD 0∧lv[k]?.getD 0≤9):aeO sz (aaV sz a j lv o):=by
 unfold aaV;split
 ·rename_i hc
  refine⟨by rw[List.length_set];exact h.1,fun k=>?_⟩;have h1:=h.2 (a+j-1);have h2:=hl j;have h3:=h.2 k;have h4:=h.1;by_cases hk:a+j-1=k
  ·subst hk
   rw[List.getElem?_set_self (by omega),Option.getD_some];split<;>omega
  ·rw[List.getElem?_set_ne hk]
   exact h3
 ·exact h
theorem aeO.lvJ {sz a:Nat} {lv o:List Int} (h:aeO sz o) (hl:∀k:Nat,0≤lv[k]?.getD 0∧lv[k]?.getD 0≤9):∀j,aeO sz (lvJ sz a lv o j)
 |0=>h
 |j+1=>(aeO.lvJ h hl j).set hl
theorem aeO.lvA {d lt:ByteArray} {sz:Nat} {lv o:List Int} (h:aeO sz o) (hl:∀k:Nat,0≤lv[k]?.getD 0∧lv[k]?.getD 0≤9):∀a,aeO sz (lvA d sz lt lv o a)
 |0=>h
 |a+1=>by
  unfold Go.Proofs.YtmmafcjjlbgnkaaGreat.lvA;split
  ·exact(aeO.lvA h hl a).lvJ hl _
  ·exact aeO.lvA h hl a
theorem zH (w:ByteArray) (pats:LS):∀k,aeO w.size (lvP w pats k)
 |0=>⟨by simp[lvP],fun k=>by unfold lvP;rw[List.getElem?_replicate];split<;>decide⟩
 |k+1=>(zH w pats k).lvA (mE _).2.2 _
def plB (sz:Nat) (lv:List Int) (k:Nat):Bool:=decide (2≤k∧k+3≤sz∧lv[k]?.getD 0 % 2=1)
def plK (sz:Nat) (lv:List Int) (k:Nat):List Int:=((List.range k).filter (plB sz lv)).map fun k:Nat=>(k:Int)
theorem abw {sz:Nat} {lv:List Int} {k:Nat} (h:plB sz lv k=true):plK sz lv (k+1)=plK sz lv k++[(k:Int)]:=by simp[plK,List.range_succ,List.filter_append,h]
theorem uL {sz:Nat} {lv:List Int} {k:Nat} (h:plB sz lv k=false):plK sz lv (k+1)=plK sz lv k:=by simp[plK,List.range_succ,List.filter_append,h]
theorem aoT {sz:Nat} {lv:List Int}:plK sz lv 2=[]:=by rw[uL (by simp[plB]),uL (by simp[plB])];rfl
theorem ac0 {sz:Nat} {lv:List Int} {k:Nat} (h:sz<k+3):∀n,plK sz lv (k+n)=plK sz lv k
 |0=>rfl
 |n+1=>by rw[←Nat.add_assoc,uL (by simp[plB];omega),ac0 h n]
theorem alO {sz:Nat} {lv:List Int} {k:Nat} (h:sz<5):plK sz lv k=[]:=by unfold plK;rw[List.filter_eq_nil_iff.2 fun x _=>by simp[plB];omega];rfl
def jO (w:ByteArray) (pats:LS):List Int:=plK w.size (iq w pats) (w.size+1)
theorem ahW {sz:Nat} {lv:List Int} {k:Nat}:∀x∈plK sz lv k,2≤x∧x+3≤sz∧x<k:=fun x hx=>by obtain⟨n,hn,rfl⟩:=List.mem_map.1 hx;obtain⟨h1,h2⟩:=List.mem_filter.1 hn;have h3:=List.mem_range.1 h1;have h4:=of_decide_eq_true h2;omega
theorem abo (sz:Nat) (lv:List Int):∀k,(plK sz lv k).Pairwise (· < ·)
 |0=>List.Pairwise.nil
 |k+1=>by
  cases h:plB sz lv k with
  |true=>rw[abw h,List.pairwise_append];refine⟨abo sz lv k,List.pairwise_singleton _ _,fun a ha b hb=>?_⟩;rw[List.mem_singleton.1 hb];exact(ahW a ha).2.2
  |false=>rw[uL h];exact abo sz lv k
theorem agt (sz:Nat) (lv:List Int) (k:Nat):(plK sz lv k).length≤k:=by unfold plK;rw[List.length_map];exact Nat.le_trans (List.length_filter_le _ _) (by simp)
def frK (pl:List Int) (k:Nat):Int:=if k=0 then 0 else pl[k-1]?.getD 0
def ptF (w:ByteArray) (pl:List Int):Nat→LS
 |0=>[]
 |k+1=>ptF w pl k++[w.extract (frK pl k).toNat (pl[k]?.getD 0).toNat]
def ptR (w:ByteArray) (pl:List Int):LS:=ptF w pl pl.length++[w.extract (frK pl pl.length).toNat w.size]
def zC (w:ByteArray) (pats:LS):LS:=ptR w (jO w pats)
theorem vN (w:ByteArray) (pl:List Int):∀k,(ptF w pl k).length=k
 |0=>rfl
 |k+1=>by rw[ptF,List.length_append,vN w pl k];rfl
def avo (w:ByteArray) (pl:List Int):Prop:=pl.length≤20∧∀k,k<pl.length→frK pl k<pl[k]?.getD 0∧pl[k]?.getD 0<w.size
theorem vD (pl:List Int) (k:Nat):frK pl (k+1)=pl[k]?.getD 0:=by unfold frK;rw[if_neg (by omega)];rfl
theorem rR {w:ByteArray} {pl:List Int} (h:avo w pl) (hw:1≤w.size):∀k,k≤pl.length→0≤frK pl k∧frK pl k<w.size
 |0,_=>by simp[frK];omega
 |k+1,hk=>by have h1:=rR h hw k (by omega);have h2:=h.2 k (by omega);rw[vD];omega
theorem mO {w:ByteArray} {pats:LS} (hw:dw w=true):avo w (jO w pats):=by
 obtain⟨-,w1,w2⟩:=aR hw;have ha:=abo w.size (iq w pats) (w.size+1);have hm:=@ahW w.size (iq w pats) (w.size+1);refine⟨?_,fun k hk=>?_⟩
 ·unfold jO plK
  rw[List.length_map];have:((List.range (w.size+1)).filter (plB w.size (iq w pats))).length≤((List.range (w.size+1)).filter (fun k=>decide (k<w.size))).length:=by rw[←List.countP_eq_length_filter,←List.countP_eq_length_filter];refine List.countP_mono_left fun x _ hx=>?_;have:=of_decide_eq_true hx;exact decide_eq_true (by omega)
  have h2:((List.range (w.size+1)).filter (fun k=>decide (k<w.size))).length≤w.size:=by rw[List.range_succ,List.filter_append];have h3:=List.length_filter_le (fun k=>decide (k<w.size)) (List.range w.size);rw[List.length_range]at h3;simp;omega
  omega
 ·unfold jO at hk⊢
  generalize plK w.size (iq w pats) (w.size+1)=pl at*;rw[List.getElem?_eq_getElem hk,Option.getD_some];have h1:=hm _ (List.getElem_mem hk);refine⟨?_,by omega⟩;unfold frK;split
  ·omega
  ·rename_i h0
   rw[List.getElem?_eq_getElem (show k-1<pl.length by omega),Option.getD_some];exact List.pairwise_iff_getElem.1 ha (k-1) k (by omega) hk (by omega)
theorem yM {w:ByteArray} {a b:Nat} (hw:dw w=true) (h1:a<b) (h2:b≤w.size):dw (w.extract a b)=true:=by
 obtain⟨l1,l2,l3⟩:=aR hw;have hs:(w.extract a b).size=b-a:=by rw[ByteArray.size_extract];omega
 rw[tC fun j hj=>?_,hs]
 ·exact ay.2 ⟨by omega,by omega⟩
 ·rw[agX (by omega) h2]
  exact l1 _ (by omega)
theorem adt {w:ByteArray} {pl:List Int} (hw:dw w=true) (h:avo w pl):∀k,k≤pl.length→∀x∈ptF w pl k,dw x=true
 |0,_=>by simp[ptF]
 |k+1,hk=>fun x hx=>by
  rw[ptF]at hx;rcases List.mem_append.1 hx with hx|hx
  ·exact adt hw h k (by omega) x hx
  ·rw[List.mem_singleton.1 hx]
   have h1:=h.2 k (by omega);have h2:=rR h (aR hw).2.1 k (by omega);exact yM hw (by omega) (by omega)
theorem ak9 {w:ByteArray} {pl:List Int} (hw:dw w=true) (h:avo w pl):∀x∈ptR w pl,dw x=true:=fun x hx=>by
 rcases List.mem_append.1 hx with hx|hx
 ·exact adt hw h _ (Nat.le_refl _) x hx
 ·rw[List.mem_singleton.1 hx]
  have h2:=rR h (aR hw).2.1 _ (Nat.le_refl _);exact yM hw (by omega) (Nat.le_refl _)
theorem agI (w:ByteArray) (pl:List Int):(ptR w pl).length=pl.length+1:=by unfold ptR;rw[List.length_append,vN];rfl
abbrev pvS (s:ByteArray):PV:=.val (.string s)
def φSg:Fun:=F1 dS fun s=>if dw s=true then some (.lst true 1 ((signs s).map fun s=> .val (.string s)))else none
theorem aqK {s:ByteArray} (h:dw s=true):φSg [.val (.string s)]=some (.lst true 1 ((signs s).map fun s=> .val (.string s))):=(fM (A:=dS) s).trans (if_pos h)
def acM (s:ByteArray):LS:=if dw s=true then signs s else []
def akZ:Fun:=F1 dS fun s=>if s.size≤1048576 then some (.lst true 1 ((acM s).map fun s=> .val (.string s)))else none
theorem alH {s:ByteArray} (h:s.size≤1048576):akZ [.val (.string s)]=some (.lst true 1 ((acM s).map fun s=> .val (.string s))):=(fM (A:=dS) s).trans (if_pos h)
def GSg:Ctx:={fn:=aT [(104,wC)],io:=aT []}
theorem auW:au Tryz.prog GSg:=okΓ (fC Tryz.func104 zw aj) aj
def anT:=ah (Γ:=GSg) (f:=104) (φ:=wC) rfl
theorem aiY:Sound Tryz.prog 88 φSg:=by
 refine ak mixed auW Tryz.func88 rfl 38 rfl [.tmp 2] rfl (by kernel_rfl) fun ps r hr=>?_;obtain⟨s,rfl,hpre,rfl⟩:=kW hr;refine⟨by simp,?_⟩;simp only[dIs,dUs,dSs,bR,bV,bT,bU,aI,bW,aL,aO,aH,aJ];obtain⟨-,hs1,hs2⟩:=aR hpre;have hsg1:=(nQ hpre).2.1;have apj:=fun i=>ae7 (ig s i) (ig s (i+1));have hI0:[]++sgF s s.size 0=signs s:=rfl;replace hI0:=Lib.hid hI0;generalize signs s=R at*;clear hpre;have gsg_c104:=anT;(refine wlk ?_;intros);refine aF (α:=Nat×Nat×LS×Nat×Nat) mixed (fun z=>[(0,.val (.string s)),(3,nP 1 (z.2.2.1.map pvS) z.2.2.2.1),(4,iv z.2.1)])
  (fun z=>nO 9 1 (z.2.2.1.map pvS) z.2.2.2.1) (fun z=>z.2.2.2.2)
  (fun z=>z.2.2.1++sgF s z.1 z.2.1=R∧s.size≤z.2.1+z.1∧z.2.1≤s.size∧z.2.2.1.length≤z.2.1∧(0<z.2.2.1.length→z.2.2.2.1<z.2.2.2.2)) (fun z=>z.1) (by kernel_rfl) (s.size,0,[],0,0) ⟨hI0.out,by simp,by simp,by simp,by simp⟩ ?_ ?_ rfl ?_
 ·exact agr
 ·exact agr
 rintro⟨f,i,out,x,y⟩ ⟨hI,hf,hi,ho,hxy⟩;dsimp only at hI hf hi ho hxy;clear hI0;by_cases h0:i<s.size
 ·cases f with
  |zero=>omega
  |succ f=>
  rw[qK h0]at hI;have hI2:(out++[s.extract i (i+sgN s i)])++sgF s f (i+sgN s i)=R:=by rw[List.append_assoc];exact hI
  clear hI;replace apj:=apj i;by_cases hj:i+1<s.size∧oL (at8 s i) (at8 s (i+1))=true
  ·have hn:sgN s i=2:=if_pos hj
   rw[hn]at hI2;replace hI2:=Lib.hid hI2;obtain⟨hj1,hj2⟩:=hj;rw[hj2]at apj;have e3:((i:Int)+2).toNat=i+2:=by omega
   clear hn;by_cases hz:out.length=0
   ·obtain rfl:out=[]:=List.eq_nil_of_length_eq_zero hz
    (refine wlk ?_;intros);refine⟨(f,i+2,[]++[s.extract i (i+2)],y+1,y+2),⟨hI2.out,by dsimp only;omega,by dsimp only;omega,by simp,fun _=>by dsimp only;omega⟩,by dsimp only;omega,?_,?_,rfl⟩
    ·exact agi
    ·exact agr
   ·have hxy:=hxy (by omega)
    have hap:0<(out.map pvS).length:=by rw[List.length_map];omega
    clear hz;have hap3:0<((out++[s.extract i (i+2)]).map pvS).length:=by simp
    simp only[aA hap,aD hap,List.length_map];(refine wlk ?_;intros);refine⟨(f,i+2,out++[s.extract i (i+2)],y+1,y+2),⟨hI2.out,by dsimp only;omega,by dsimp only;omega,by simp;omega,fun _=>by dsimp only;omega⟩,by dsimp only;omega,?_,?_,rfl⟩
    ·simp(disch:=(first|omega|(simp only[push_cast];first|done|omega))) only[push_cast,↓reduceIte,Nat.reduceEqDiff,Nat.reduceBEq,Nat.reduceAdd,Nat.reduceSub,Int.reduceToNat,aA hap3,List.length_append, *]
     try exact congrArg (fun z=>PV.val (Value.int IntKind.i64 z)) (by omega)
    ·simp(disch:=(first|omega|(simp only[push_cast];first|done|omega))) only[push_cast,↓reduceIte,Nat.reduceEqDiff,Nat.reduceBEq,Nat.reduceAdd,Nat.reduceSub,Int.reduceToNat,aD hap3, *]
  ·have hn:sgN s i=1:=if_neg hj
   rw[hn]at hI2;replace hI2:=Lib.hid hI2;clear hn;have hj3:i+1<s.size→oL (at8 s i) (at8 s (i+1))=false:=fun h=>by
    cases hq:oL (at8 s i) (at8 s (i+1))with
    |false=>rfl
    |true=>exact absurd ⟨h,hq⟩ hj
   clear hj;by_cases hz:out.length=0
   ·obtain rfl:out=[]:=List.eq_nil_of_length_eq_zero hz
    by_cases h1:i+1<s.size
    ·rw[hj3 h1]at apj
     clear hj3;(refine wlk ?_;intros);refine⟨(f,i+1,[]++[s.extract i (i+1)],y+1,y+2),⟨hI2.out,by dsimp only;omega,by dsimp only;omega,by simp,fun _=>by dsimp only;omega⟩,by dsimp only;omega,?_,?_,rfl⟩
     ·exact agr
     ·exact agr
    ·clear hj3
     (refine wlk ?_;intros);refine⟨(f,i+1,[]++[s.extract i (i+1)],y+1,y+2),⟨hI2.out,by dsimp only;omega,by dsimp only;omega,by simp,fun _=>by dsimp only;omega⟩,by dsimp only;omega,?_,?_,rfl⟩
     ·exact agr
     ·exact agr
   ·have hxy:=hxy (by omega)
    have hap:0<(out.map pvS).length:=by rw[List.length_map];omega
    clear hz;have hap3:0<((out++[s.extract i (i+1)]).map pvS).length:=by simp
    simp only[aA hap,aD hap,List.length_map];by_cases h1:i+1<s.size
    ·rw[hj3 h1]at apj
     clear hj3;(refine wlk ?_;intros);refine⟨(f,i+1,out++[s.extract i (i+1)],y+1,y+2),⟨hI2.out,by dsimp only;omega,by dsimp only;omega,by simp;omega,fun _=>by dsimp only;omega⟩,by dsimp only;omega,?_,?_,rfl⟩
     ·simp(disch:=(first|omega|(simp only[push_cast];first|done|omega))) only[push_cast,↓reduceIte,Nat.reduceEqDiff,Nat.reduceBEq,Nat.reduceAdd,Nat.reduceSub,Int.reduceToNat,aA hap3,List.length_append, *]
      try exact congrArg (fun z=>PV.val (Value.int IntKind.i64 z)) (by omega)
     ·simp(disch:=(first|omega|(simp only[push_cast];first|done|omega))) only[push_cast,↓reduceIte,Nat.reduceEqDiff,Nat.reduceBEq,Nat.reduceAdd,Nat.reduceSub,Int.reduceToNat,aD hap3, *]
    ·clear hj3
     (refine wlk ?_;intros);refine⟨(f,i+1,out++[s.extract i (i+1)],y+1,y+2),⟨hI2.out,by dsimp only;omega,by dsimp only;omega,by simp;omega,fun _=>by dsimp only;omega⟩,by dsimp only;omega,?_,?_,rfl⟩
     ·simp(disch:=(first|omega|(simp only[push_cast];first|done|omega))) only[push_cast,↓reduceIte,Nat.reduceEqDiff,Nat.reduceBEq,Nat.reduceAdd,Nat.reduceSub,Int.reduceToNat,aA hap3,List.length_append, *]
      try exact congrArg (fun z=>PV.val (Value.int IntKind.i64 z)) (by omega)
     ·simp(disch:=(first|omega|(simp only[push_cast];first|done|omega))) only[push_cast,↓reduceIte,Nat.reduceEqDiff,Nat.reduceBEq,Nat.reduceAdd,Nat.reduceSub,Int.reduceToNat,aD hap3, *]
 ·rw[abU (by omega),List.append_nil]at hI
  subst hI;have hxy:=hxy (by omega);have hap:0<(out.map pvS).length:=by rw[List.length_map];omega
  simp only[aA hap,aD hap,List.length_map];clear apj;exact wlkF
def awv:Ctx:={fn:=aT [(122,xu),(74,fQ)],io:=aT []}
theorem aqU:au Tryz.prog awv:=okΓ (fC Tryz.func122 zq (fC Tryz.func74 fq aj)) aj
def acn:=ah (Γ:=awv) (f:=122) (φ:=xu) rfl
def af8:=ah (Γ:=awv) (f:=74) (φ:=fQ) rfl
theorem afY:Sound Tryz.prog 110 akZ:=by
 refine ak mixed aqU Tryz.func110 rfl 50 rfl [.tmp 2] rfl (by kernel_rfl) fun ps r hr=>?_;obtain⟨s,rfl,hpre,rfl⟩:=kW hr;refine⟨by simp,?_⟩;simp only[dIs,dUs,dSs,bR,bV,bT,bU,aI,bW,aL,aO,aH,aJ];have apw:=gP (s:=s) (by omega);unfold acM;cases hw:dw s with
 |false=>
  rw[hw]at apw;rw[if_neg (by decide)];clear hw;have gsgs_c122:=acn;have gsgs_c74:=af8;(refine wlk ?_;intros);refine aF (α:=Unit) mixed (fun z=>[(0,.val (.string s)),(3,.row 0 1 0 0),(4,iv 0)]) (fun z=>[(0,9,1,[])]) (fun z=>1) (fun _=>True) (fun _=>0) (by kernel_rfl) () trivial ?_ ?_ rfl ?_
  ·exact agr
  ·exact agr
  rintro⟨⟩-;exact wlkF
 |true=>
  rw[hw]at apw;rw[if_pos rfl];obtain⟨-,hs1,hs2⟩:=aR hw;have apj:=fun i=>ae4 (at8 s i) (at8 s (i+1));have hI0:[]++sgF s s.size 0=signs s:=rfl;replace hI0:=Lib.hid hI0;generalize signs s=R at*;clear hpre hw;have gsgs_c122:=acn;have gsgs_c74:=af8;(refine wlk ?_;intros);refine aF (α:=Nat×Nat×LS×Nat×Nat) mixed (fun z=>[(0,.val (.string s)),(3,.row z.2.2.2.1 1 0 z.2.2.1.length),(4,iv z.2.1)])
   (fun z=>[(z.2.2.2.1,9,1,z.2.2.1.map pvS)]) (fun z=>z.2.2.2.2)
   (fun z=>z.2.2.1++sgF s z.1 z.2.1=R∧s.size≤z.2.1+z.1∧z.2.1≤s.size∧z.2.2.1.length≤z.2.1∧z.2.2.2.1<z.2.2.2.2) (fun z=>z.1) (by kernel_rfl) (s.size,0,[],0,1) ⟨hI0.out,by simp,by simp,by simp,by simp⟩ ?_ ?_ rfl ?_
  ·exact agr
  ·exact agr
  rintro⟨f,i,out,x,y⟩ ⟨hI,hf,hi,ho,hxy⟩;dsimp only at hI hf hi ho hxy;clear hI0;by_cases h0:i<s.size
  ·cases f with
   |zero=>omega
   |succ f=>
   rw[qK h0]at hI;have hI2:(out++[s.extract i (i+sgN s i)])++sgF s f (i+sgN s i)=R:=by rw[List.append_assoc];exact hI
   clear hI;replace apj:=apj i;by_cases hj:i+1<s.size∧oL (at8 s i) (at8 s (i+1))=true
   ·have hn:sgN s i=2:=if_pos hj
    rw[hn]at hI2;replace hI2:=Lib.hid hI2;obtain⟨hj1,hj2⟩:=hj;rw[hj2]at apj;have e3:((i:Int)+2).toNat=i+2:=by omega
    clear hn;(refine wlk ?_;intros);refine⟨(f,i+2,out++[s.extract i (i+2)],y+1,y+2),⟨hI2.out,by dsimp only;omega,by dsimp only;omega,by simp;omega,by dsimp only;omega⟩,by dsimp only;omega,?_,?_,rfl⟩
    ·exact agi
    ·exact agr
   ·have hn:sgN s i=1:=if_neg hj
    rw[hn]at hI2;replace hI2:=Lib.hid hI2;clear hn;have hj3:i+1<s.size→oL (at8 s i) (at8 s (i+1))=false:=fun h=>by
     cases hq:oL (at8 s i) (at8 s (i+1))with
     |false=>rfl
     |true=>exact absurd ⟨h,hq⟩ hj
    clear hj;by_cases h1:i+1<s.size
    ·rw[hj3 h1]at apj
     clear hj3;(refine wlk ?_;intros);refine⟨(f,i+1,out++[s.extract i (i+1)],y+1,y+2),⟨hI2.out,by dsimp only;omega,by dsimp only;omega,by simp;omega,by dsimp only;omega⟩,by dsimp only;omega,?_,?_,rfl⟩
     ·exact agr
     ·exact agr
    ·clear hj3
     (refine wlk ?_;intros);refine⟨(f,i+1,out++[s.extract i (i+1)],y+1,y+2),⟨hI2.out,by dsimp only;omega,by dsimp only;omega,by simp;omega,by dsimp only;omega⟩,by dsimp only;omega,?_,?_,rfl⟩
     ·exact agr
     ·exact agr
  ·rw[abU (by omega),List.append_nil]at hI
   subst hI;clear apj;exact wlkF
def φWw:Fun:=F1 dS fun s=>if s.size≤1048576 then some (iv (oQ s))else none
theorem abf {s:ByteArray} (h:s.size≤1048576):φWw [.val (.string s)]=some (.val (.int .i64 (oQ s))):=(fM (A:=dS) s).trans (if_pos h)
def asf:Ctx:={fn:=aT [(66,fQ),(88,φSg),(89,xB),(90,vY)],io:=aT []}
theorem am7:au Tryz.prog asf:=okΓ (fC Tryz.func66 fu (fC Tryz.func88 aiY (fC Tryz.func89 abG (fC Tryz.func90 aaB aj)))) aj
def ai7:=ah (Γ:=asf) (f:=66) (φ:=fQ) rfl
def ag4:=ah (Γ:=asf) (f:=88) (φ:=φSg) rfl
def af3:=ah (Γ:=asf) (f:=89) (φ:=xB) rfl
def agy:=ah (Γ:=asf) (f:=90) (φ:=vY) rfl
theorem ais:Sound Tryz.prog 69 φWw:=by
 refine ak mixed am7 Tryz.func69 rfl 58 rfl [.tmp 2] rfl (by kernel_rfl) fun ps r hr=>?_;obtain⟨s,rfl,hpre,rfl⟩:=kW hr;refine⟨by simp,?_⟩;simp only[dIs,dUs,dSs,bR,bV,bT,bU,aI,bW,aL,aO,aH,aJ];have apw:=gP (s:=s) (by omega);unfold oQ;cases hw:dw s with
 |false=>rw[hw]at apw;rw[if_neg (by decide)];clear hw;have gwwi_c66:=ai7;have gwwi_c88:=ag4;have gwwi_c89:=af3;have gwwi_c90:=agy;exact wlkF
 |true=>
  rw[hw]at apw;rw[if_pos rfl];have aps:=aqK hw;have hat:=fun k hk=>vI hw (k:=k) hk;have hlen:=(nQ hw).2;have hrg:=xU hat;generalize signs s=g at*;clear hw hpre;have gwwi_c66:=ai7;have gwwi_c88:=ag4;have gwwi_c89:=af3;have gwwi_c90:=agy;(refine wlk ?_;intros);refine aF (α:=Nat) mixed (fun k=>[(3,iv (wdK g k)),(4,.lst true 1 (g.map pvS)),(13,.lst true 1 (g.map pvS)),(14,iv g.length),(15,iv k)]) (fun _=>[]) (fun _=>0)
   (fun k=>k≤g.length) (fun k=>g.length-k) (by kernel_rfl) 0 (Nat.zero_le _) ?_ ?_ rfl ?_
  ·simp only[push_cast,↓reduceIte,Nat.reduceEqDiff,Nat.reduceBEq,Nat.reduceAdd,Nat.reduceSub,Int.reduceToNat,wdK]
  ·exact agr
  intro k hk;have hrk:=hrg k hk;by_cases hkl:k<g.length
  ·have hsg:=hat k hkl
   have hnx:=fun h=>hat (k+1) h;have hfl:=adu hsg;have hsn:wdK g (k+1)=wdK g k+sgW (g[k]?.getD .empty) (g[k]?.getD .empty).size-((g[k]?.getD .empty).size-1)-vZ g k:=rfl;have hne:vZ g k=if k+1<g.length then mM (at8 (g[k]?.getD .empty) ((g[k]?.getD .empty).size-1)) (at8 (g[k+1]?.getD .empty) 0)else 0:=rfl;replace hsn:=Lib.hid hsn;replace hne:=Lib.hid hne;clear hat hrg;generalize hx9:g[k]?.getD ByteArray.empty=x at*;obtain⟨hx1,hx2,-⟩:=hsg;generalize hw9:wdK g k=w9 at*;(refine wlk ?_;intros);refine aF (α:=Nat) mixed (fun j=>[(3,iv (w9+sgW x j)),(4,.lst true 1 (g.map pvS)),(13,.lst true 1 (g.map pvS)),(14,iv g.length),(15,iv k),(5,iv k),(6,.val (.string x)),(21,iv x.size),(22,iv j)]) (fun _=>[]) (fun _=>0)
    (fun j=>j≤x.size) (fun j=>x.size-j) (by kernel_rfl) 0 (Nat.zero_le _) ?_ ?_ rfl ?_
   ·simp(disch:=(first|omega|(simp only[push_cast];first|done|omega))) only[push_cast,↓reduceIte,Nat.reduceEqDiff,Nat.reduceBEq,Nat.reduceAdd,Nat.reduceSub,Int.reduceToNat,sgW,Int.add_zero, *]
   ·exact agr
   intro j hj;have hfj:=hfl j hj;have apl:=aem (ig x j);have hlw:=wN (at8 x j);have hsj:sgW x (j+1)=sgW x j+aak (at8 x j):=rfl;replace hsj:=Lib.hid hsj;by_cases hjl:j<x.size
   ·clear hfl hnx
    generalize aak (at8 x j)=lw at*;(refine wlk ?_;intros);refine⟨j+1,by omega,by dsimp only;omega,?_,?_,rfl⟩
    ·dsimp only
     rw[hsj.out,←Int.add_assoc];exact agr
    ·exact agr
   ·obtain rfl:j=x.size:=by omega
    clear apl hlw hsj hfl;by_cases h1:k+1<g.length
    ·have hn1:=hnx h1
     clear hnx;obtain⟨hy1,-,-⟩:=hn1;have apn:=afu (ig x (x.size-1)) (ig (g[k+1]?.getD .empty) 0);have hnr:=su (at8 x (x.size-1)) (at8 (g[k+1]?.getD .empty) 0);have hne:=hne.out;rw[if_pos h1]at hne;have hsn:=hsn.out;rw[hne]at hsn;replace hsn:=Lib.hid hsn;clear hne;generalize mM (at8 x (x.size-1)) (at8 (g[k+1]?.getD .empty) 0)=nr at*;generalize sgW x x.size=sw at*;(refine wlk ?_;intros);refine⟨k+1,by omega,by dsimp only;omega,?_,?_,rfl⟩
     ·dsimp only
      rw[hsn.out];exact agr
     ·exact agr
    ·have hne:=hne.out
     rw[if_neg h1]at hne;have hsn:=hsn.out;rw[hne,Int.sub_zero]at hsn;replace hsn:=Lib.hid hsn;clear hne hnx;generalize sgW x x.size=sw at*;(refine wlk ?_;intros);refine⟨k+1,by omega,by dsimp only;omega,?_,?_,rfl⟩
     ·dsimp only
      rw[hsn.out];exact agr
     ·exact agr
  ·obtain rfl:k=g.length:=by omega
   clear hat hrg;generalize wdK g g.length=w9 at*;exact wlkF
def avC:Ctx:={fn:=aT [(110,akZ),(111,acd),(112,adp)],io:=aT []}
theorem aqe:au Tryz.prog avC:=okΓ (fC Tryz.func110 afY (fC Tryz.func111 abX (fC Tryz.func112 aaU aj))) aj
def acK:=ah (Γ:=avC) (f:=110) (φ:=akZ) rfl
def ads:=ah (Γ:=avC) (f:=111) (φ:=acd) rfl
def adq:=ah (Γ:=avC) (f:=112) (φ:=adp) rfl
theorem ag7:Sound Tryz.prog 96 φWw:=by
 refine ak mixed aqe Tryz.func96 rfl 70 rfl [.tmp 2] rfl (by kernel_rfl) fun ps r hr=>?_;obtain⟨s,rfl,hpre,rfl⟩:=kW hr;refine⟨by simp,?_⟩;simp only[dIs,dUs,dSs,bR,bV,bT,bU,aI,bW,aL,aO,aH,aJ];have aps:=alH (s:=s) hpre;unfold oQ;unfold acM at aps;cases hw:dw s with
 |false=>rw[hw,if_neg (by decide)]at aps;rw[if_neg (by decide)];clear hw;have gwws_c110:=acK;have gwws_c111:=ads;have gwws_c112:=adq;exact wlkF
 |true=>
  rw[hw,if_pos rfl]at aps;rw[if_pos rfl];have hat:=fun k hk=>vI hw (k:=k) hk;have hlen:=(nQ hw).2;have hrg:=xU hat;generalize signs s=g at*;clear hw hpre;have gwws_c110:=acK;have gwws_c111:=ads;have gwws_c112:=adq;(refine wlk ?_;intros);refine aF (α:=Nat) mixed (fun k=>[(3,.lst true 1 (g.map pvS)),(4,iv (wdK g k)),(5,iv k)]) (fun _=>[]) (fun _=>0)
   (fun k=>k≤g.length) (fun k=>g.length-k) (by kernel_rfl) 0 (Nat.zero_le _) ?_ ?_ rfl ?_
  ·simp only[push_cast,↓reduceIte,Nat.reduceEqDiff,Nat.reduceBEq,Nat.reduceAdd,Nat.reduceSub,Int.reduceToNat,wdK]
  ·exact agr
  intro k hk;have hrk:=hrg k hk;by_cases hkl:k<g.length
  ·have hsg:=hat k hkl
   have hnx:=fun h=>hat (k+1) h;have hfl:=adu hsg;have hsn:wdK g (k+1)=wdK g k+sgW (g[k]?.getD .empty) (g[k]?.getD .empty).size-((g[k]?.getD .empty).size-1)-vZ g k:=rfl;have hne:vZ g k=if k+1<g.length then mM (at8 (g[k]?.getD .empty) ((g[k]?.getD .empty).size-1)) (at8 (g[k+1]?.getD .empty) 0)else 0:=rfl;replace hsn:=Lib.hid hsn;replace hne:=Lib.hid hne;clear hat hrg;generalize hx9:g[k]?.getD ByteArray.empty=x at*;obtain⟨hx1,hx2,-⟩:=hsg;generalize hw9:wdK g k=w9 at*;(refine wlk ?_;intros);refine aF (α:=Nat) mixed (fun j=>[(3,.lst true 1 (g.map pvS)),(4,iv (w9+sgW x j)),(5,iv k),(6,iv j)]) (fun _=>[]) (fun _=>0)
    (fun j=>j≤x.size) (fun j=>x.size-j) (by kernel_rfl) 0 (Nat.zero_le _) ?_ ?_ rfl ?_
   ·simp(disch:=(first|omega|(simp only[push_cast];first|done|omega))) only[push_cast,↓reduceIte,Nat.reduceEqDiff,Nat.reduceBEq,Nat.reduceAdd,Nat.reduceSub,Int.reduceToNat,sgW,Int.add_zero, *]
   ·exact agr
   intro j hj;have hfj:=hfl j hj;have apl:=ahn (at8 x j);have hlw:=wN (at8 x j);have hsj:sgW x (j+1)=sgW x j+aak (at8 x j):=rfl;replace hsj:=Lib.hid hsj;by_cases hjl:j<x.size
   ·clear hfl hnx
    generalize aak (at8 x j)=lw at*;(refine wlk ?_;intros);refine⟨j+1,by omega,by dsimp only;omega,?_,?_,rfl⟩
    ·dsimp only
     rw[hsj.out,←Int.add_assoc];exact agr
    ·exact agr
   ·obtain rfl:j=x.size:=by omega
    clear apl hlw hsj hfl;by_cases h1:k+1<g.length
    ·have hn1:=hnx h1
     clear hnx;obtain⟨hy1,-,-⟩:=hn1;have apn:=ahN (at8 x (x.size-1)) (at8 (g[k+1]?.getD .empty) 0);have hnr:=su (at8 x (x.size-1)) (at8 (g[k+1]?.getD .empty) 0);have hne:=hne.out;rw[if_pos h1]at hne;have hsn:=hsn.out;rw[hne]at hsn;replace hsn:=Lib.hid hsn;clear hne;generalize mM (at8 x (x.size-1)) (at8 (g[k+1]?.getD .empty) 0)=nr at*;generalize sgW x x.size=sw at*;(refine wlk ?_;intros);refine⟨k+1,by omega,by dsimp only;omega,?_,?_,rfl⟩
     ·dsimp only
      rw[hsn.out,show w9+sw-((x.size:Int)-1)-nr=w9+sw-x.size+1-nr by omega];exact agr
     ·exact agr
    ·have hne:=hne.out
     rw[if_neg h1]at hne;have hsn:=hsn.out;rw[hne,Int.sub_zero]at hsn;replace hsn:=Lib.hid hsn;clear hne hnx;generalize sgW x x.size=sw at*;(refine wlk ?_;intros);refine⟨k+1,by omega,by dsimp only;omega,?_,?_,rfl⟩
     ·dsimp only
      rw[hsn.out,show w9+sw-((x.size:Int)-1)=w9+sw-x.size+1 by omega];exact agr
     ·exact agr
  ·obtain rfl:k=g.length:=by omega
   clear hat hrg;generalize wdK g g.length=w9 at*;exact wlkF
abbrev pvN (n:Int):PV:=.val (.int .i64 n)
theorem kM {p:ByteArray} (h:zQ p=true):1≤p.size∧p.size≤12:=by
 unfold zQ at h;simp only[Bool.and_eq_true,decide_eq_true_eq]at h;obtain⟨-,h1,h2⟩:=h;refine⟨?_,h2⟩;rcases Nat.eq_zero_or_pos p.size with h0|h0
 ·rw[h0]at h1
  simp[anyS]at h1
 ·exact h0
def φPp:Fun:=F1 dS fun p=>if p.size≤12 then some (.tup [.val (.string (cu p)),.lst true 1 ((dN p).map fun n=> .val (.int .i64 n))])else none
theorem aqR {p:ByteArray} (h:p.size≤12):φPp [.val (.string p)]=some (.tup [.val (.string (cu p)),.lst true 1 ((dN p).map fun n=> .val (.int .i64 n))]):=(fM (A:=dS) p).trans (if_pos h)
def GPp:Ctx:={fn:=aT [(86,aeM)],io:=aT []}
theorem arp:au Tryz.prog GPp:=okΓ (fC Tryz.func86 uS aj) aj
def avd:=ah (Γ:=GPp) (f:=86) (φ:=aeM) rfl
theorem alc {o:List Int} {v x:Int}:(o++[v]).set o.length x=o++[x]:=by simp
theorem aiu:Sound Tryz.prog 123 φPp:=by
 refine ak mixed arp Tryz.func123 rfl 40 rfl [.tmp 2,.tmp 3] rfl (by kernel_rfl) fun ps r hr=>?_;obtain⟨p,rfl,hpre,rfl⟩:=kW hr;refine⟨by simp,?_⟩;simp only[dIs,dUs,dSs,bR,bV,bT,bU,aI,bW,aL,aO,aH,aJ];have hrg:=nY p;unfold cu dN;have gpp_c86:=avd;(refine wlk ?_;intros);refine aF (α:=Nat×Nat×Nat) mixed (fun z=>[(0,.val (.string p)),(4,.val (.string (gQ p z.1).1)),(5,.row z.2.1 1 0 ((gQ p z.1).2.1.length+1)),(8,.val (.string p)),(9,iv p.size),(10,iv z.1)])
  (fun z=>[(z.2.1,3,1,((gQ p z.1).2.1++[(gQ p z.1).2.2]).map pvN)]) (fun z=>z.2.2)
  (fun z=>z.1≤p.size∧z.2.1<z.2.2) (fun z=>p.size-z.1) (by kernel_rfl) (0,0,1) ⟨by simp,by simp⟩ ?_ ?_ rfl ?_
 ·simp(disch:=(first|omega|(simp only[push_cast];first|done|omega))) only[push_cast,↓reduceIte,Nat.reduceEqDiff,Nat.reduceBEq,Nat.reduceAdd,Nat.reduceSub,Int.reduceToNat,gQ,List.length_nil,Nat.zero_add, *]
 ·simp(disch:=(first|omega|(simp only[push_cast];first|done|omega))) only[push_cast,↓reduceIte,Nat.reduceEqDiff,Nat.reduceBEq,Nat.reduceAdd,Nat.reduceSub,Int.reduceToNat,gQ,List.nil_append,List.map_cons,List.map_nil, *]
 rintro⟨k,x,y⟩ ⟨hk,hxy⟩;dsimp only at hk hxy;obtain⟨r1,r2,r3,-⟩:=hrg k hk;by_cases h0:k<p.size
 ·have apd:=adf (at8 p k)
  have hdd:abZ (at8 p k)=inB (at8 p k) 48 57:=rfl;have hb8:=ig p k;cases hd:inB (at8 p k) 48 57 with
  |true=>
   have hst:=qw (hdd.trans hd);have hin:=ay.1 hd;have w1:IntKind.u8.wrap (at8 p k-48)=at8 p k-48:=by rw[IntKind.wrap_u8];omega
   have w3:=bZ (n:=at8 p k-48) (by omega) (by omega);have hsl:=@alc (gQ p k).2.1 (gQ p k).2.2 (at8 p k-48);rw[hd]at apd;replace hst:=Lib.hid hst;clear hrg hdd hd;generalize(gQ p k).2.1=o at*;generalize(gQ p k).2.2=v at*;generalize(gQ p k).1=lt at*;(refine wlk ?_;intros);refine⟨(k+1,x,y),⟨by dsimp only;omega,hxy⟩,by dsimp only;omega,?_,?_,rfl⟩
   ·dsimp only
    rw[hst.out];exact agr
   ·dsimp only
    rw[hst.out];exact agr
  |false=>
   have hxz:(p.extract k (k+1)).size=1:=by rw[ByteArray.size_extract];omega
   have hst:=qD (hdd.trans hd);rw[hd]at apd;replace hst:=Lib.hid hst;clear hrg hdd hd;generalize(gQ p k).2.1=o at*;generalize(gQ p k).2.2=v at*;generalize(gQ p k).1=lt at*;(refine wlk ?_;intros);refine⟨(k+1,y+1,y+2),⟨by dsimp only;omega,by dsimp only;omega⟩,by dsimp only;omega,?_,?_,rfl⟩
   ·dsimp only
    rw[hst.out];exact agr
   ·dsimp only
    rw[hst.out];exact agr
 ·obtain rfl:k=p.size:=by omega
  clear hrg;exact wlkF
def φPl:Fun:=F1 dS fun p=>if zQ p=true then some (.val (.string (cu p)))else none
theorem anO {p:ByteArray} (h:zQ p=true):φPl [.val (.string p)]=some (.val (.string (cu p))):=(fM (A:=dS) p).trans (if_pos h)
def GPl:Ctx:={fn:=aT [(75,vC)],io:=aT []}
theorem alQ:au Tryz.prog GPl:=okΓ (fC Tryz.func75 iK aj) aj
def al6:=ah (Γ:=GPl) (f:=75) (φ:=vC) rfl
theorem afU:Sound Tryz.prog 115 φPl:=by
 refine ak mixed alQ Tryz.func115 rfl 33 rfl [.tmp 2] rfl (by kernel_rfl) fun ps r hr=>?_;obtain⟨p,rfl,hpre,rfl⟩:=kW hr;refine⟨by simp,?_⟩;simp only[dIs,dUs,dSs,bR,bV,bT,bU,aI,bW,aL,aO,aH,aJ];have hsz:=kM hpre;have hrg:=nY p;have apv:=qF (s:=p) (by omega);rw[hpre]at apv;unfold cu;clear hpre;have gpl_c75:=al6;(refine wlk ?_;intros);refine aF (α:=Nat) mixed (fun k=>[(0,.val (.string p)),(3,.val (.string (gQ p k).1)),(4,iv k)]) (fun _=>[]) (fun _=>0)
  (fun k=>k≤p.size) (fun k=>p.size-k) (by kernel_rfl) 0 (Nat.zero_le _) ?_ ?_ rfl ?_
 ·simp(disch:=(first|omega|(simp only[push_cast];first|done|omega))) only[push_cast,↓reduceIte,Nat.reduceEqDiff,Nat.reduceBEq,Nat.reduceAdd,Nat.reduceSub,Int.reduceToNat,gQ, *]
 ·exact agr
 intro k hk;obtain⟨r1,r2,r3,-⟩:=hrg k hk;by_cases h0:k<p.size
 ·have hb8:=ig p k
  cases hd:abZ (at8 p k)with
  |true=>
   have hst:=qw hd;have hin:=ay.1 hd;have w1:IntKind.u8.wrap (at8 p k-48)=at8 p k-48:=by rw[IntKind.wrap_u8];omega
   have w3:=bZ (n:=at8 p k-48) (by omega) (by omega);replace hst:=Lib.hid hst;clear hrg hd;generalize(gQ p k).1=lt at*;(refine wlk ?_;intros);refine⟨k+1,by omega,by dsimp only;omega,?_,?_,rfl⟩
   ·dsimp only
    rw[hst.out];exact agr
   ·exact agr
  |false=>
   have hxz:(p.extract k (k+1)).size=1:=by rw[ByteArray.size_extract];omega
   have hst:=qD hd;have hno:at8 p k<48∨57<at8 p k:=by
    by_cases hh:48≤at8 p k∧at8 p k≤57
    ·have:abZ (at8 p k)=true:=ay.2 hh
     rw[this]at hd;cases hd
    ·omega
   replace hst:=Lib.hid hst;clear hrg hd;generalize(gQ p k).1=lt at*;(refine wlk6 ?_ ?_ ?_ ?_ ?_ ?_<;>intros<;>try with_reducible exact trivial);all_goals
    refine⟨k+1,by omega,by dsimp only;omega,?_,?_,rfl⟩
    ·dsimp only
     rw[hst.out];exact agr
    ·exact agr
 ·obtain rfl:k=p.size:=by omega
  clear hrg;exact wlkF
def φPv:Fun:=F1 dS fun p=>if zQ p=true then some (.lst true 1 ((dN p).map fun n=> .val (.int .i64 n)))else none
theorem anK {p:ByteArray} (h:zQ p=true):φPv [.val (.string p)]=some (.lst true 1 ((dN p).map fun n=> .val (.int .i64 n))):=(fM (A:=dS) p).trans (if_pos h)
theorem agm:Sound Tryz.prog 116 φPv:=by
 refine ak mixed alQ Tryz.func116 rfl 44 rfl [.tmp 2] rfl (by kernel_rfl) fun ps r hr=>?_;obtain⟨p,rfl,hpre,rfl⟩:=kW hr;refine⟨by simp,?_⟩;simp only[dIs,dUs,dSs,bR,bV,bT,bU,aI,bW,aL,aO,aH,aJ];have hsz:=kM hpre;have hrg:=nY p;have apv:=qF (s:=p) (by omega);rw[hpre]at apv;unfold dN;clear hpre;have gpl_c75:=al6;(refine wlk ?_;intros);refine aF (α:=Nat×Nat×Nat) mixed (fun z=>[(0,.val (.string p)),(3,.row z.2.1 1 0 (gQ p z.1).2.1.length),(4,iv (gQ p z.1).2.2),(5,iv z.1)])
  (fun z=>[(z.2.1,3,1,(gQ p z.1).2.1.map pvN)]) (fun z=>z.2.2)
  (fun z=>z.1≤p.size∧z.2.1<z.2.2) (fun z=>p.size-z.1) (by kernel_rfl) (0,0,1) ⟨by simp,by simp⟩ ?_ ?_ rfl ?_
 ·simp(disch:=(first|omega|(simp only[push_cast];first|done|omega))) only[push_cast,↓reduceIte,Nat.reduceEqDiff,Nat.reduceBEq,Nat.reduceAdd,Nat.reduceSub,Int.reduceToNat,gQ,List.length_nil, *]
 ·simp(disch:=(first|omega|(simp only[push_cast];first|done|omega))) only[push_cast,↓reduceIte,Nat.reduceEqDiff,Nat.reduceBEq,Nat.reduceAdd,Nat.reduceSub,Int.reduceToNat,gQ,List.map_nil, *]
 rintro⟨k,x,y⟩ ⟨hk,hxy⟩;dsimp only at hk hxy;obtain⟨r1,r2,r3,-⟩:=hrg k hk;by_cases h0:k<p.size
 ·have hb8:=ig p k
  cases hd:abZ (at8 p k)with
  |true=>
   have hst:=qw hd;have hin:=ay.1 hd;have w1:IntKind.u8.wrap (at8 p k-48)=at8 p k-48:=by rw[IntKind.wrap_u8];omega
   have w3:=bZ (n:=at8 p k-48) (by omega) (by omega);replace hst:=Lib.hid hst;clear hrg hd;generalize(gQ p k).2.1=o at*;generalize(gQ p k).2.2=v at*;generalize(gQ p k).1=lt at*;(refine wlk ?_;intros);refine⟨(k+1,x,y),⟨by dsimp only;omega,hxy⟩,by dsimp only;omega,?_,?_,rfl⟩
   ·dsimp only
    rw[hst.out];exact agr
   ·dsimp only
    rw[hst.out];exact agr
  |false=>
   have hxz:(p.extract k (k+1)).size=1:=by rw[ByteArray.size_extract];omega
   have hst:=qD hd;have hno:at8 p k<48∨57<at8 p k:=by
    by_cases hh:48≤at8 p k∧at8 p k≤57
    ·have:abZ (at8 p k)=true:=ay.2 hh
     rw[this]at hd;cases hd
    ·omega
   replace hst:=Lib.hid hst;clear hrg hd;generalize(gQ p k).2.1=o at*;generalize(gQ p k).2.2=v at*;generalize(gQ p k).1=lt at*;(refine wlk6 ?_ ?_ ?_ ?_ ?_ ?_<;>intros<;>try with_reducible exact trivial);all_goals
    refine⟨(k+1,y+1,y+2),⟨by dsimp only;omega,by dsimp only;omega⟩,by dsimp only;omega,?_,?_,rfl⟩
    ·dsimp only
     rw[hst.out];exact agr
    ·dsimp only
     rw[hst.out];exact agr
 ·obtain rfl:k=p.size:=by omega
  clear hrg;exact wlkF
def qC (w:ByteArray) (pats:LS):Bool:=dw w&&bg pats
theorem jK {w:ByteArray} {pats:LS}:qC w pats=true↔dw w=true∧bg pats=true:=by simp[qC]
theorem aiU {pats:LS} (h:bg pats=true) {k:Nat} (hk:k<pats.length):zQ (pats[k]?.getD .empty)=true:=by unfold bg at h;rw[Bool.and_eq_true,List.all_eq_true]at h;rw[List.getElem?_eq_getElem hk,Option.getD_some];exact h.2 _ (List.getElem_mem hk)
theorem acf {pats:LS} (h:bg pats=true):pats.length≤20:=by unfold bg at h;rw[Bool.and_eq_true]at h;exact of_decide_eq_true h.1
def oJ (w:ByteArray) (pats:LS):List Int:=if qC w pats=true then iq w pats else []
abbrev aj4 (w:ByteArray) (pats:LS):Prop:=w.size≤1048576∧lX pats
instance (w:ByteArray) (pats:LS):Decidable (aj4 w pats):=Classical.propDecidable _
def φLv:Fun:=F2 dS dSs fun w pats=>if aj4 w pats then some (.lst true 1 ((oJ w pats).map fun n=> .val (.int .i64 n)))else none
theorem agh {w:ByteArray} {pats:LS} (h:aj4 w pats):φLv [.val (.string w),.lst false 1 (pats.map fun s=> .val (.string s))]=some (.lst true 1 ((oJ w pats).map fun n=> .val (.int .i64 n))):=(gY (A:=dS) (B:=dSs) w pats).trans (if_pos h)
def akd:Fun:=F2 dS dSs fun w pats=>if qC w pats=true then some (.lst true 1 ((iq w pats).map fun n=> .val (.int .i64 n)))else none
theorem ajU {w:ByteArray} {pats:LS} (h:qC w pats=true):akd [.val (.string w),.lst false 1 (pats.map fun s=> .val (.string s))]=some (.lst true 1 ((iq w pats).map fun n=> .val (.int .i64 n))):=(gY (A:=dS) (B:=dSs) w pats).trans (if_pos h)
theorem adx {sz a j:Nat} {lv o:List Int} (h:1≤a+j) (h2:a+j≤sz+1):aaV sz a j lv o=o.set (a+j-1) (if lv[j]?.getD 0>o[a+j-1]?.getD 0 then lv[j]?.getD 0 else o[a+j-1]?.getD 0):=if_pos ⟨h,h2⟩
theorem zR {sz a j:Nat} {lv o:List Int} (h:¬(1≤a+j∧a+j≤sz+1)):aaV sz a j lv o=o:=if_neg h
theorem agO {d lt:ByteArray} {sz a:Nat} {lv o:List Int} (h:d.extract a (a+lt.size)=lt):lvA d sz lt lv o (a+1)=lvJ sz a lv (lvA d sz lt lv o a) lv.length:=by rw[lvA,if_pos h]
theorem acZ {d lt:ByteArray} {sz a:Nat} {lv o:List Int} (h:¬d.extract a (a+lt.size)=lt):lvA d sz lt lv o (a+1)=lvA d sz lt lv o a:=by rw[lvA,if_neg h]
def awf:Ctx:={fn:=aT [(123,φPp),(43,φIn)],io:=aT []}
theorem anI:au Tryz.prog awf:=okΓ (fC Tryz.func123 aiu (fC Tryz.func43 qd aj)) aj
def aj2:=ah (Γ:=awf) (f:=123) (φ:=φPp) rfl
def aoR:=ah (Γ:=awf) (f:=43) (φ:=φIn) rfl
theorem aee:Sound Tryz.prog 117 akd:=by
 refine ak mixed anI Tryz.func117 rfl 78 rfl [.tmp 4] rfl (by kernel_rfl) fun ps r hr=>?_;obtain⟨w,pats,rfl,hpre,rfl⟩:=gy hr;refine⟨by simp,?_⟩;simp only[dIs,dUs,dSs,bR,bV,bT,bU,aI,bW,aL,aO,aH,aJ];obtain⟨hw,hp⟩:=jK.1 hpre;obtain⟨-,hw1,hw2⟩:=aR hw;have hpl:=acf hp;have hpa:=fun k hk=>aiU hp (k:=k) hk;have hds:=aai w;have hlo:=zH w pats;have hd0:aqa w=(⟨#[46]⟩++w)++⟨#[46]⟩:=rfl;have h46:(⟨#[46]⟩:ByteArray).size=1:=rfl;have api:=bJ;unfold iq;clear hw hp hpre;have glvi_c123:=aj2;have glvi_c43:=aoR;(refine wlk ?_;intros);rw[←hd0];clear hd0 h46;generalize hdd:aqa w=d at*;refine aF (α:=Nat) mixed (fun k=>[(0,.val (.string w)),(5,.val (.string d)),(6,.row 0 1 0 (w.size+1)),(22,.lst false 1 (pats.map fun s=> .val (.string s))),(23,iv pats.length),(24,iv k)])
  (fun k=>[(0,3,1,(lvP w pats k).map pvN)]) (fun _=>1)
  (fun k=>k≤pats.length) (fun k=>pats.length-k) (by kernel_rfl) 0 (Nat.zero_le _) ?_ ?_ rfl ?_
 ·exact agr
 ·simp(disch:=(first|omega|(simp only[push_cast];first|done|omega))) only[push_cast,↓reduceIte,Nat.reduceEqDiff,Nat.reduceBEq,Nat.reduceAdd,Nat.reduceSub,Int.reduceToNat,lvP,List.map_replicate, *]
 intro k hk;by_cases h0:k<pats.length
 ·have hpk:=hpa k h0
  have happ:=aqR (p:=pats[k]?.getD .empty) (kM hpk).2;obtain⟨g1,g2,g3⟩:=mE (pats[k]?.getD .empty);have hps:=(kM hpk).2;have hnx:lvP w pats (k+1)=lvA d w.size (cu (pats[k]?.getD .empty)) (dN (pats[k]?.getD .empty)) (lvP w pats k) (w.size+3-(cu (pats[k]?.getD .empty)).size):=by rw[lvP,hdd]
  have ho:=hlo k;replace hnx:=Lib.hid hnx;clear hpa hlo hpk;generalize hp9:pats[k]?.getD ByteArray.empty=p at*;generalize cu p=lt at*;generalize dN p=lv at*;generalize lvP w pats k=o at*;have hA:=fun a=>(ho.lvA (d:=d) (lt:=lt) (lv:=lv) g3 a);(refine wlk ?_;intros);refine aF (α:=Nat) mixed (fun a=>[(0,.val (.string w)),(5,.val (.string d)),(6,.row 0 1 0 (w.size+1)),(22,.lst false 1 (pats.map fun s=> .val (.string s))),(23,iv pats.length),(24,iv k),(9,.val (.string lt)),(10,.lst true 1 (lv.map pvN)),(11,iv a)])
   (fun a=>[(0,3,1,(lvA d w.size lt lv o a).map pvN)]) (fun _=>1)
   (fun a=>a≤w.size+3-lt.size) (fun a=>w.size+3-lt.size-a) (by kernel_rfl) 0 (Nat.zero_le _) ?_ ?_ rfl ?_
  ·exact agr
  ·simp(disch:=(first|omega|(simp only[push_cast];first|done|omega))) only[push_cast,↓reduceIte,Nat.reduceEqDiff,Nat.reduceBEq,Nat.reduceAdd,Nat.reduceSub,Int.reduceToNat,lvA, *]
  intro a ha;by_cases ha0:a<w.size+3-lt.size
  ·obtain⟨oa1,oa2⟩:=hA a
   have hJ:=fun j=>((hA a).lvJ (a:=a) (lv:=lv) g3 j);clear hA ho happ;by_cases hm:d.extract a (a+lt.size)=lt
   ·have hn:=agO (sz:=w.size) (lv:=lv) (o:=o) hm
    replace hn:=Lib.hid hn;replace hm:=Lib.hid hm;generalize lvA d w.size lt lv o a=oa at*;have hm:=hm.out;(refine wlk ?_;intros);clear hm;refine aF (α:=Nat) mixed (fun j=>[(0,.val (.string w)),(5,.val (.string d)),(6,.row 0 1 0 (w.size+1)),(22,.lst false 1 (pats.map fun s=> .val (.string s))),(23,iv pats.length),(24,iv k),(9,.val (.string lt)),(10,.lst true 1 (lv.map pvN)),(11,iv a),(51,.lst true 1 (lv.map pvN)),(52,iv lv.length),(53,iv j)])
     (fun j=>[(0,3,1,(lvJ w.size a lv oa j).map pvN)]) (fun _=>1)
     (fun j=>j≤lv.length) (fun j=>lv.length-j) (by kernel_rfl) 0 (Nat.zero_le _) ?_ ?_ rfl ?_
    ·exact agr
    ·simp(disch:=(first|omega|(simp only[push_cast];first|done|omega))) only[push_cast,↓reduceIte,Nat.reduceEqDiff,Nat.reduceBEq,Nat.reduceAdd,Nat.reduceSub,Int.reduceToNat,lvJ, *]
    intro j hj;by_cases hj0:j<lv.length
    ·obtain⟨oj1,oj2⟩:=hJ j
     clear hJ;have hs:lvJ w.size a lv oa (j+1)=aaV w.size a j lv (lvJ w.size a lv oa j):=rfl;have hg3:=g3 j;by_cases hin:1≤a+j∧a+j≤w.size+1
     ·rw[adx hin.1 hin.2]at hs
      replace hs:=Lib.hid hs;have api1:inB ((a:Int)+j-1) 0 w.size=true:=ay.2 ⟨by omega,by omega⟩;have hti:((a:Int)+j-1).toNat=a+j-1:=by omega
      generalize lvJ w.size a lv oa j=oj at*;(refine wlk ?_;intros);refine⟨j+1,by omega,by dsimp only;omega,?_,?_,rfl⟩
      ·exact agr
      ·dsimp only
       rw[hs.out];exact agr
     ·rw[zR hin]at hs
      replace hs:=Lib.hid hs;have api1:inB ((a:Int)+j-1) 0 w.size=false:=Bool.eq_false_iff.2 fun q=>by have:=ay.1 q;omega
      generalize lvJ w.size a lv oa j=oj at*;(refine wlk ?_;intros);refine⟨j+1,by omega,by dsimp only;omega,?_,?_,rfl⟩
      ·exact agr
      ·dsimp only
       rw[hs.out];exact agr
    ·obtain rfl:j=lv.length:=by omega
     clear hJ;(refine wlk ?_;intros);refine⟨a+1,by omega,by dsimp only;omega,?_,?_,rfl⟩
     ·exact agr
     ·dsimp only
      rw[hn.out];exact agr
   ·have hn:=acZ (sz:=w.size) (lv:=lv) (o:=o) hm
    replace hn:=Lib.hid hn;generalize lvA d w.size lt lv o a=oa at*;(refine wlk ?_;intros);refine⟨a+1,by omega,by dsimp only;omega,?_,?_,rfl⟩
    ·exact agr
    ·dsimp only
     rw[hn.out];exact agr
  ·have hae:a=w.size+3-lt.size:=by omega
   clear hA ho happ;rw[←hae]at hnx;generalize lvA d w.size lt lv o a=oa at*;clear hae;(refine wlk ?_;intros);refine⟨k+1,by omega,by dsimp only;omega,?_,?_,rfl⟩
   ·exact agr
   ·dsimp only
    rw[hnx.out];exact agr
 ·obtain rfl:k=pats.length:=by omega
  obtain⟨o1,o2⟩:=hlo pats.length;clear hlo hpa;generalize lvP w pats pats.length=o at*;exact wlkF
def akW:Ctx:={fn:=aT [(66,fQ),(50,fO),(117,akd)],io:=aT []}
theorem aj0:au Tryz.prog akW:=okΓ (fC Tryz.func66 fu (fC Tryz.func50 dz (fC Tryz.func117 aee aj))) aj
def xZ:=ah (Γ:=akW) (f:=66) (φ:=fQ) rfl
def xY:=ah (Γ:=akW) (f:=50) (φ:=fO) rfl
def sJ:=ah (Γ:=akW) (f:=117) (φ:=akd) rfl
theorem ahL:Sound Tryz.prog 103 φLv:=by
 refine fU mixed aj0 Tryz.func103 rfl 16 rfl [.tmp 4] rfl (by kernel_rfl) fun ps r hr=>?_;obtain⟨w,pats,rfl,hpre,rfl⟩:=gy hr;refine⟨by simp,?_⟩;simp only[dIs,dUs,dSs,bR,bV,bT,bU,aI,bW,aL,aO,aH,aJ];have ap1:=gP (s:=w) (by omega);have ap2:=gT hpre.2;have apl:=fun h=>ajU (w:=w) (pats:=pats) h;unfold oJ qC;unfold qC at apl;cases hw:dw w with
 |false=>
  rw[hw]at ap1;clear apl hpre hw;rw[Bool.false_and,if_neg (by decide)];have glvi2_c66:=xZ;have glvi2_c50:=xY;have glvi2_c117:=sJ;(refine wlk ?_;intros);all_goals((with_reducible apply bS (by first|exact .inl rfl|exact .inr rfl));(simp(disch:=(first|omega|(simp only[push_cast];first|done|omega))) only[push_cast,↓reduceIte,Nat.reduceEqDiff,Nat.reduceBEq,Nat.reduceAdd,Nat.reduceSub,Int.reduceToNat, *]<;>with_reducible exact rfl))
  all_goals exact nil_le _ _
 |true=>
  cases hp:bg pats with
  |false=>
   rw[hw]at ap1;rw[hp]at ap2;clear apl hpre hw hp;rw[Bool.and_false,if_neg (by decide)];have glvi2_c66:=xZ;have glvi2_c50:=xY;have glvi2_c117:=sJ;(refine wlk ?_;intros);all_goals((with_reducible apply bS (by first|exact .inl rfl|exact .inr rfl));(simp(disch:=(first|omega|(simp only[push_cast];first|done|omega))) only[push_cast,↓reduceIte,Nat.reduceEqDiff,Nat.reduceBEq,Nat.reduceAdd,Nat.reduceSub,Int.reduceToNat, *]<;>with_reducible exact rfl))
   all_goals exact nil_le _ _
  |true=>
   have apl:=apl (by rw[hw,hp];rfl);rw[hw]at ap1;rw[hp]at ap2;clear hpre hw hp;rw[Bool.and_true,if_pos rfl];have glvi2_c66:=xZ;have glvi2_c50:=xY;have glvi2_c117:=sJ;(refine wlk ?_;intros);all_goals((with_reducible apply bS (by first|exact .inl rfl|exact .inr rfl));(simp(disch:=(first|omega|(simp only[push_cast];first|done|omega))) only[push_cast,↓reduceIte,Nat.reduceEqDiff,Nat.reduceBEq,Nat.reduceAdd,Nat.reduceSub,Int.reduceToNat, *]<;>with_reducible exact rfl))
   all_goals exact PV.le_refl _
def aq4:Ctx:={fn:=aT [(74,fQ),(61,fO),(115,φPl),(116,φPv),(48,φIn)],io:=aT []}
theorem anN:au Tryz.prog aq4:=okΓ (fC Tryz.func74 fq (fC Tryz.func61 dx (fC Tryz.func115 afU (fC Tryz.func116 agm (fC Tryz.func48 gB aj))))) aj
def aax:=ah (Γ:=aq4) (f:=74) (φ:=fQ) rfl
def aa6:=ah (Γ:=aq4) (f:=61) (φ:=fO) rfl
def xE:=ah (Γ:=aq4) (f:=115) (φ:=φPl) rfl
def wV:=ah (Γ:=aq4) (f:=116) (φ:=φPv) rfl
def aaC:=ah (Γ:=aq4) (f:=48) (φ:=φIn) rfl
theorem agp:Sound Tryz.prog 102 φLv:=by
 refine ak mixed anN Tryz.func102 rfl 90 rfl [.tmp 4] rfl (by kernel_rfl) fun ps r hr=>?_;obtain⟨w,pats,rfl,hpre,rfl⟩:=gy hr;refine⟨by simp,?_⟩;simp only[dIs,dUs,dSs,bR,bV,bT,bU,aI,bW,aL,aO,aH,aJ];have ap1:=gP (s:=w) (by omega);have ap2:=gT hpre.2;unfold oJ qC;cases hw:dw w with
 |false=>rw[hw]at ap1;clear hpre hw;rw[Bool.false_and,if_neg (by decide)];have glvs_c74:=aax;have glvs_c61:=aa6;have glvs_c115:=xE;have glvs_c116:=wV;have glvs_c48:=aaC;exact wlkF
 |true=>
 cases hp:bg pats with
 |false=>rw[hw]at ap1;rw[hp]at ap2;clear hpre hw hp;rw[Bool.and_false,if_neg (by decide)];have glvs_c74:=aax;have glvs_c61:=aa6;have glvs_c115:=xE;have glvs_c116:=wV;have glvs_c48:=aaC;exact wlkF
 |true=>
 rw[hw]at ap1;rw[hp]at ap2;rw[Bool.and_true,if_pos rfl];obtain⟨-,hw1,hw2⟩:=aR hw;have hpl:=acf hp;have hpa:=fun k hk=>aiU hp (k:=k) hk;have hds:=aai w;have hlo:=zH w pats;have hd0:aqa w=(⟨#[46]⟩++w)++⟨#[46]⟩:=rfl;have h46:(⟨#[46]⟩:ByteArray).size=1:=rfl;have api:=bJ;unfold iq;clear hw hp hpre;have glvs_c74:=aax;have glvs_c61:=aa6;have glvs_c115:=xE;have glvs_c116:=wV;have glvs_c48:=aaC;(refine wlk ?_;intros);rw[←hd0];clear hd0 h46;generalize hdd:aqa w=d at*;refine aF (α:=Nat) mixed (fun k=>[(0,.val (.string w)),(1,.lst false 1 (pats.map fun s=> .val (.string s))),(5,.row 0 1 0 (w.size+1)),(6,.val (.string d)),(7,iv k)])
  (fun k=>[(0,3,1,(lvP w pats k).map pvN)]) (fun _=>1)
  (fun k=>k≤pats.length) (fun k=>pats.length-k) (by kernel_rfl) 0 (Nat.zero_le _) ?_ ?_ rfl ?_
 ·exact agr
 ·simp(disch:=(first|omega|(simp only[push_cast];first|done|omega))) only[push_cast,↓reduceIte,Nat.reduceEqDiff,Nat.reduceBEq,Nat.reduceAdd,Nat.reduceSub,Int.reduceToNat,lvP,List.map_replicate, *]
 intro k hk;by_cases h0:k<pats.length
 ·have hpk:=hpa k h0
  have hap1:=anO hpk;have hap2:=anK hpk;obtain⟨g1,g2,g3⟩:=mE (pats[k]?.getD .empty);have hps:=(kM hpk).2;have hnx:lvP w pats (k+1)=lvA d w.size (cu (pats[k]?.getD .empty)) (dN (pats[k]?.getD .empty)) (lvP w pats k) (w.size+3-(cu (pats[k]?.getD .empty)).size):=by rw[lvP,hdd]
  have ho:=hlo k;replace hnx:=Lib.hid hnx;clear hpa hlo hpk;generalize hp9:pats[k]?.getD ByteArray.empty=p at*;generalize cu p=lt at*;generalize dN p=lv at*;generalize lvP w pats k=o at*;have hA:=fun a=>(ho.lvA (d:=d) (lt:=lt) (lv:=lv) g3 a);(refine wlk ?_;intros);refine aF (α:=Nat) mixed (fun a=>[(0,.val (.string w)),(1,.lst false 1 (pats.map fun s=> .val (.string s))),(5,.row 0 1 0 (w.size+1)),(6,.val (.string d)),(7,iv k),(8,.val (.string lt)),(9,.lst true 1 (lv.map pvN)),(10,iv a)])
   (fun a=>[(0,3,1,(lvA d w.size lt lv o a).map pvN)]) (fun _=>1)
   (fun a=>a≤w.size+3-lt.size) (fun a=>w.size+3-lt.size-a) (by kernel_rfl) 0 (Nat.zero_le _) ?_ ?_ rfl ?_
  ·exact agr
  ·simp(disch:=(first|omega|(simp only[push_cast];first|done|omega))) only[push_cast,↓reduceIte,Nat.reduceEqDiff,Nat.reduceBEq,Nat.reduceAdd,Nat.reduceSub,Int.reduceToNat,lvA, *]
  intro a ha;by_cases ha0:a<w.size+3-lt.size
  ·obtain⟨oa1,oa2⟩:=hA a
   have hJ:=fun j=>((hA a).lvJ (a:=a) (lv:=lv) g3 j);clear hA ho hap1 hap2;by_cases hm:d.extract a (a+lt.size)=lt
   ·have hn:=agO (sz:=w.size) (lv:=lv) (o:=o) hm
    replace hn:=Lib.hid hn;replace hm:=Lib.hid hm;generalize lvA d w.size lt lv o a=oa at*;have hm:=hm.out;(refine wlk ?_;intros);clear hm;refine aF (α:=Nat) mixed (fun j=>[(0,.val (.string w)),(1,.lst false 1 (pats.map fun s=> .val (.string s))),(5,.row 0 1 0 (w.size+1)),(6,.val (.string d)),(7,iv k),(8,.val (.string lt)),(9,.lst true 1 (lv.map pvN)),(10,iv a),(11,iv j)])
     (fun j=>[(0,3,1,(lvJ w.size a lv oa j).map pvN)]) (fun _=>1)
     (fun j=>j≤lv.length) (fun j=>lv.length-j) (by kernel_rfl) 0 (Nat.zero_le _) ?_ ?_ rfl ?_
    ·exact agr
    ·simp(disch:=(first|omega|(simp only[push_cast];first|done|omega))) only[push_cast,↓reduceIte,Nat.reduceEqDiff,Nat.reduceBEq,Nat.reduceAdd,Nat.reduceSub,Int.reduceToNat,lvJ, *]
    intro j hj;by_cases hj0:j<lv.length
    ·obtain⟨oj1,oj2⟩:=hJ j
     clear hJ;have hs:lvJ w.size a lv oa (j+1)=aaV w.size a j lv (lvJ w.size a lv oa j):=rfl;have hg3:=g3 j;by_cases hin:1≤a+j∧a+j≤w.size+1
     ·rw[adx hin.1 hin.2]at hs
      replace hs:=Lib.hid hs;have api1:inB ((a:Int)+j-1) 0 w.size=true:=ay.2 ⟨by omega,by omega⟩;have hti:((a:Int)+j-1).toNat=a+j-1:=by omega
      generalize lvJ w.size a lv oa j=oj at*;(refine wlk ?_;intros);refine⟨j+1,by omega,by dsimp only;omega,?_,?_,rfl⟩
      ·exact agr
      ·dsimp only
       rw[hs.out];exact agr
     ·rw[zR hin]at hs
      replace hs:=Lib.hid hs;have api1:inB ((a:Int)+j-1) 0 w.size=false:=Bool.eq_false_iff.2 fun q=>by have:=ay.1 q;omega
      generalize lvJ w.size a lv oa j=oj at*;(refine wlk ?_;intros);refine⟨j+1,by omega,by dsimp only;omega,?_,?_,rfl⟩
      ·exact agr
      ·dsimp only
       rw[hs.out];exact agr
    ·obtain rfl:j=lv.length:=by omega
     clear hJ;(refine wlk ?_;intros);refine⟨a+1,by omega,by dsimp only;omega,?_,?_,rfl⟩
     ·exact agr
     ·dsimp only
      rw[hn.out];exact agr
   ·have hn:=acZ (sz:=w.size) (lv:=lv) (o:=o) hm
    replace hn:=Lib.hid hn;generalize lvA d w.size lt lv o a=oa at*;(refine wlk ?_;intros);refine⟨a+1,by omega,by dsimp only;omega,?_,?_,rfl⟩
    ·exact agr
    ·dsimp only
     rw[hn.out];exact agr
  ·have hae:a=w.size+3-lt.size:=by omega
   clear hA ho hap1 hap2;rw[←hae]at hnx;generalize lvA d w.size lt lv o a=oa at*;clear hae;(refine wlk ?_;intros);refine⟨k+1,by omega,by dsimp only;omega,?_,?_,rfl⟩
   ·exact agr
   ·dsimp only
    rw[hnx.out];exact agr
 ·obtain rfl:k=pats.length:=by omega
  obtain⟨o1,o2⟩:=hlo pats.length;clear hlo hpa;generalize lvP w pats pats.length=o at*;exact wlkF
end
end Go.Proofs.YtmmafcjjlbgnkaaGreat
