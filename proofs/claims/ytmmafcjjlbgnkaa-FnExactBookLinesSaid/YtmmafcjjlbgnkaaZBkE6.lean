/- What the proof rests on, part 6: contracts of functions. No condition beyond what each states. -/
import Derived.Test.YtmmafcjjlbgnkaaZBkE5
namespace Go.Proofs.Ytmmafcjjlbgnkaa
open Go.RowKit
set_option linter.all false
set_option maxHeartbeats 32000000
noncomputable section
theorem auH:bG (.int .i64 0)=.val (.int .i64 0):=rfl
theorem ajL:aW Try.prog 3=some 1:=by kernel_rfl
theorem auB:ji Try.prog 3=some false:=by kernel_rfl
theorem asD:dW Try.prog 3=some 8:=by kernel_rfl
theorem arb:zeroOf Try.prog 3=some (.int .i64 0):=by kernel_rfl
theorem asY:Try.prog.underlying 3=some (.int .i64):=by kernel_rfl
theorem auQ:bG (.int .i64 0)=.val (.int .i64 0):=rfl
theorem auJ:dP Try.prog 3=false:=by kernel_rfl
theorem auG:isStr Try.prog 3=false:=by kernel_rfl
theorem auc:aW Try.prog 4=some 1:=by kernel_rfl
theorem auI:ji Try.prog 4=some false:=by kernel_rfl
theorem aud:Try.prog.underlying 4=some .bool:=by kernel_rfl
theorem asy {x y:Operand} {a b:Bool}:lW Try.prog .neq 4 x y (some (.bool a)) (some (.bool b))=some (.val (.bool (!(a==b)))):=amM aud
theorem auR:bG (.bool false)=.val (.bool false):=rfl
theorem auy:aW Try.prog 5=some 1:=by kernel_rfl
theorem auj:zeroOf Try.prog 5=some (.int .u8 0):=by kernel_rfl
theorem atp:Try.prog.underlying 5=some (.int .u8):=by kernel_rfl
theorem auK:bG (.int .u8 0)=.val (.int .u8 0):=rfl
theorem auX:dP Try.prog 5=false:=by kernel_rfl
theorem auZ:isStr Try.prog 5=false:=by kernel_rfl
theorem auM:bG (.agg #[.int .i64 0,.int .i64 0,.bool false,.int .u8 0])=.agg [.val (.int .i64 0),.val (.int .i64 0),.val (.bool false),.val (.int .u8 0)]:=rfl
theorem amb:aW Try.prog 9=some 1:=by kernel_rfl
theorem auD:ji Try.prog 9=some false:=by kernel_rfl
theorem asG:dW Try.prog 9=some 16:=by kernel_rfl
theorem aon:zeroOf Try.prog 9=some (.string ByteArray.empty):=by kernel_rfl
theorem atD:Try.prog.underlying 9=some .string:=by kernel_rfl
theorem atH {ty:Nat} {s:ByteArray}:qB Try.prog 9 ty (.val (.string s))=some (.val (.int .i64 s.size)):=aoh atD
theorem atj {s:ByteArray} {i:Int} (h0:0≤i) (h1:i<s.size):ar0 Try.prog 9 (some (.string s)) (some (.int .i64 i))=some (.val (.int .u8 (at8 s i.toNat))):=anQ atD h0 h1
theorem auV:bG (.string ByteArray.empty)=.val (.string ByteArray.empty):=rfl
theorem au0:isStr Try.prog 9=true:=by kernel_rfl
theorem atc:bG (.int .u64 0)=.val (.int .u64 0):=rfl
theorem atC:bG (.agg #[.string ByteArray.empty,.int .u64 0])=.agg [.val (.string ByteArray.empty),.val (.int .u64 0)]:=rfl
theorem aub:bG (.int .i32 0)=.val (.int .i32 0):=rfl
theorem atl:bG (.agg #[.slice none 0 0,.slice none 0 0,.int .i64 0,.int .i64 0,.int .i64 0])=.agg [.val (.slice none 0 0),.val (.slice none 0 0),.val (.int .i64 0),.val (.int .i64 0),.val (.int .i64 0)]:=rfl
theorem asH:aW Try.prog 25=some 5:=by kernel_rfl
theorem asA:ji Try.prog 25=some true:=by kernel_rfl
theorem anp:aV Try.prog 25 0=some 0:=by kernel_rfl
theorem ako:aV Try.prog 25 1=some 1:=by kernel_rfl
theorem alT:aV Try.prog 25 2=some 2:=by kernel_rfl
theorem akp:aV Try.prog 25 3=some 3:=by kernel_rfl
theorem alk:aV Try.prog 25 4=some 4:=by kernel_rfl
theorem atX:bG (.agg #[.slice none 0 0,.slice none 0 0,.int .i64 0,.int .i64 0,.int .i64 0])=.agg [.val (.slice none 0 0),.val (.slice none 0 0),.val (.int .i64 0),.val (.int .i64 0),.val (.int .i64 0)]:=rfl
theorem at0:aW Try.prog 30=some 5:=by kernel_rfl
theorem aua:ji Try.prog 30=some true:=by kernel_rfl
theorem aqE:zeroOf Try.prog 30=some (.agg #[.slice none 0 0,.slice none 0 0,.int .i64 0,.int .i64 0,.int .i64 0]):=by kernel_rfl
theorem anb:aV Try.prog 30 0=some 0:=by kernel_rfl
theorem alm:aV Try.prog 30 1=some 1:=by kernel_rfl
theorem als:aV Try.prog 30 2=some 2:=by kernel_rfl
theorem akU:aV Try.prog 30 3=some 3:=by kernel_rfl
theorem akw:aV Try.prog 30 4=some 4:=by kernel_rfl
theorem asu:bG (.agg #[.slice none 0 0,.slice none 0 0,.int .i64 0,.int .i64 0,.int .i64 0])=.agg [.val (.slice none 0 0),.val (.slice none 0 0),.val (.int .i64 0),.val (.int .i64 0),.val (.int .i64 0)]:=rfl
theorem aso {Γ:Ctx} (s:AS) (ρ:Operand→PV):aX Try.prog Γ s ρ (.alloc 30)=some (.own s.nx 5 0 0,upd s.ob s.nx (some (30,5,[.agg [.val (.slice none 0 0),.val (.slice none 0 0),.val (.int .i64 0),.val (.int .i64 0),.val (.int .i64 0)]])),s.nx+1):=aeP aqE (by kernel_rfl) rfl rfl s ρ
theorem atr:bG (.agg #[.int .i64 0,.int .i64 0,.int .i64 0,.int .i64 0])=.agg [.val (.int .i64 0),.val (.int .i64 0),.val (.int .i64 0),.val (.int .i64 0)]:=rfl
theorem aiu:aW Try.prog 56=some 4:=by kernel_rfl
theorem atV:ji Try.prog 56=some true:=by kernel_rfl
theorem arp:dW Try.prog 56=some 32:=by kernel_rfl
theorem agI:zeroOf Try.prog 56=some (.agg #[.int .i64 0,.int .i64 0,.int .i64 0,.int .i64 0]):=by kernel_rfl
theorem amk:aV Try.prog 56 0=some 0:=by kernel_rfl
theorem anw:aV Try.prog 56 1=some 1:=by kernel_rfl
theorem al4:aV Try.prog 56 2=some 2:=by kernel_rfl
theorem al1:aV Try.prog 56 3=some 3:=by kernel_rfl
theorem an2:dw Try.prog 56=some #[(0,1),(1,1),(2,1),(3,1)]:=by kernel_rfl
theorem asU (ps:List (Nat×PV)):fB Try.prog 56 ps=(kX (plF [(0,1),(1,1),(2,1),(3,1)]) [.val (.int .i64 0),.val (.int .i64 0),.val (.int .i64 0),.val (.int .i64 0)] ps).map .agg:=aed agI rfl an2 ps
theorem at1:bG (.agg #[.int .i64 0,.int .i64 0,.int .i64 0,.int .i64 0])=.agg [.val (.int .i64 0),.val (.int .i64 0),.val (.int .i64 0),.val (.int .i64 0)]:=rfl
theorem asE {Γ:Ctx} (s:AS) (ρ:Operand→PV):aX Try.prog Γ s ρ (.alloc 56)=some (.own s.nx 4 0 0,upd s.ob s.nx (some (56,4,[.agg [.val (.int .i64 0),.val (.int .i64 0),.val (.int .i64 0),.val (.int .i64 0)]])),s.nx+1):=aeP agI (by kernel_rfl) rfl rfl s ρ
theorem atb {Γ:Ctx} {ob:bg} {ρ:Operand→PV} {ty:Nat}:aU Try.prog Γ ob ρ ty (.build 56 #[])=some (.agg [.val (.int .i64 0),.val (.int .i64 0),.val (.int .i64 0),.val (.int .i64 0)]):=(show fB Try.prog 56 []=some (.agg [.val (.int .i64 0),.val (.int .i64 0),.val (.int .i64 0),.val (.int .i64 0)])from by kernel_rfl)
theorem ath:bG (.agg #[.int .i64 0,.int .i64 0,.int .i64 0,.int .i64 0,.int .i64 0,.int .i64 0,.bool false])=.agg [.val (.int .i64 0),.val (.int .i64 0),.val (.int .i64 0),.val (.int .i64 0),.val (.int .i64 0),.val (.int .i64 0),.val (.bool false)]:=rfl
theorem adA:aW Try.prog 58=some 7:=by kernel_rfl
theorem ati:ji Try.prog 58=some true:=by kernel_rfl
theorem ao2:dW Try.prog 58=some 56:=by kernel_rfl
theorem zW:zeroOf Try.prog 58=some (.agg #[.int .i64 0,.int .i64 0,.int .i64 0,.int .i64 0,.int .i64 0,.int .i64 0,.bool false]):=by kernel_rfl
theorem alA:aV Try.prog 58 0=some 0:=by kernel_rfl
theorem alC:aV Try.prog 58 1=some 1:=by kernel_rfl
theorem akn:aV Try.prog 58 2=some 5:=by kernel_rfl
theorem ak0:aV Try.prog 58 3=some 6:=by kernel_rfl
theorem aoo:dw Try.prog 58=some #[(0,1),(1,4),(5,1),(6,1)]:=by kernel_rfl
theorem as0 (ps:List (Nat×PV)):fB Try.prog 58 ps=(kX (plF [(0,1),(1,4),(5,1),(6,1)]) [.val (.int .i64 0),.val (.int .i64 0),.val (.int .i64 0),.val (.int .i64 0),.val (.int .i64 0),.val (.int .i64 0),.val (.bool false)] ps).map .agg:=aed zW rfl aoo ps
theorem ar8:bG (.agg #[.int .i64 0,.int .i64 0,.int .i64 0,.int .i64 0,.int .i64 0,.int .i64 0,.bool false])=.agg [.val (.int .i64 0),.val (.int .i64 0),.val (.int .i64 0),.val (.int .i64 0),.val (.int .i64 0),.val (.int .i64 0),.val (.bool false)]:=rfl
theorem atT {Γ:Ctx} (s:AS) (ρ:Operand→PV):aX Try.prog Γ s ρ (.alloc 58)=some (.own s.nx 7 0 0,upd s.ob s.nx (some (58,7,[.agg [.val (.int .i64 0),.val (.int .i64 0),.val (.int .i64 0),.val (.int .i64 0),.val (.int .i64 0),.val (.int .i64 0),.val (.bool false)]])),s.nx+1):=aeP zW (by kernel_rfl) rfl rfl s ρ
theorem am1:aW Try.prog 70=some 4:=by kernel_rfl
theorem apW:dW Try.prog 70=some 4:=by kernel_rfl
theorem aof:zeroOf Try.prog 70=some (.agg #[.bool false,.bool false,.bool false,.bool false]):=by kernel_rfl
theorem apQ:Try.prog.underlying 70=some (.array 4 4):=by kernel_rfl
theorem aox {o sz j f:Nat} {i:Int} (h0:0≤i) (h1:i<4):aI Try.prog 70 (.own o sz j f) i=some (.own o sz j (f+i.toNat)):=by rw[akg apQ auc h0 h1,Nat.mul_one]
theorem ase:bG (.agg #[.bool false,.bool false,.bool false,.bool false])=.agg [.val (.bool false),.val (.bool false),.val (.bool false),.val (.bool false)]:=rfl
theorem ald:aW Try.prog 77=some 4:=by kernel_rfl
theorem aqf:dW Try.prog 77=some 32:=by kernel_rfl
theorem apX:zeroOf Try.prog 77=some (.agg #[.int .i64 0,.int .i64 0,.int .i64 0,.int .i64 0]):=by kernel_rfl
theorem aqQ:Try.prog.underlying 77=some (.array 4 3):=by kernel_rfl
theorem ao3 {o sz j f:Nat} {i:Int} (h0:0≤i) (h1:i<4):aI Try.prog 77 (.own o sz j f) i=some (.own o sz j (f+i.toNat)):=by rw[akg aqQ ajL h0 h1,Nat.mul_one]
theorem atL:bG (.agg #[.int .i64 0,.int .i64 0,.int .i64 0,.int .i64 0])=.agg [.val (.int .i64 0),.val (.int .i64 0),.val (.int .i64 0),.val (.int .i64 0)]:=rfl
theorem asK:bG (.agg #[.int .i64 0,.bool false,.int .i64 0])=.agg [.val (.int .i64 0),.val (.bool false),.val (.int .i64 0)]:=rfl
theorem atY:aW Try.prog 86=some 3:=by kernel_rfl
theorem atS:ji Try.prog 86=some true:=by kernel_rfl
theorem ac7:zeroOf Try.prog 86=some (.agg #[.int .i64 0,.bool false,.int .i64 0]):=by kernel_rfl
theorem ak3:aV Try.prog 86 0=some 0:=by kernel_rfl
theorem ak6:aV Try.prog 86 1=some 1:=by kernel_rfl
theorem akC:aV Try.prog 86 2=some 2:=by kernel_rfl
theorem aqO:dw Try.prog 86=some #[(0,1),(1,1),(2,1)]:=by kernel_rfl
theorem as3 (ps:List (Nat×PV)):fB Try.prog 86 ps=(kX (plF [(0,1),(1,1),(2,1)]) [.val (.int .i64 0),.val (.bool false),.val (.int .i64 0)] ps).map .agg:=aed ac7 rfl aqO ps
theorem atZ:bG (.agg #[.int .i64 0,.bool false,.int .i64 0])=.agg [.val (.int .i64 0),.val (.bool false),.val (.int .i64 0)]:=rfl
theorem as2 {Γ:Ctx} (s:AS) (ρ:Operand→PV):aX Try.prog Γ s ρ (.alloc 86)=some (.own s.nx 3 0 0,upd s.ob s.nx (some (86,3,[.agg [.val (.int .i64 0),.val (.bool false),.val (.int .i64 0)]])),s.nx+1):=aeP ac7 (by kernel_rfl) rfl rfl s ρ
theorem asf {Γ:Ctx} {ob:bg} {ρ:Operand→PV} {ty:Nat}:aU Try.prog Γ ob ρ ty (.build 86 #[])=some (.agg [.val (.int .i64 0),.val (.bool false),.val (.int .i64 0)]):=(show fB Try.prog 86 []=some (.agg [.val (.int .i64 0),.val (.bool false),.val (.int .i64 0)])from by kernel_rfl)
theorem aqI:Try.prog.underlying 86=some (.struct (Go.Program.fieldsOf Try.prog 86)):=by kernel_rfl
theorem atP:bG (.agg #[.int .i64 0,.int .i64 0,.bool false,.int .i64 0])=.agg [.val (.int .i64 0),.val (.int .i64 0),.val (.bool false),.val (.int .i64 0)]:=rfl
theorem as6:aW Try.prog 88=some 4:=by kernel_rfl
theorem at7:ji Try.prog 88=some true:=by kernel_rfl
theorem adg:zeroOf Try.prog 88=some (.agg #[.int .i64 0,.int .i64 0,.bool false,.int .i64 0]):=by kernel_rfl
theorem alp:aV Try.prog 88 0=some 0:=by kernel_rfl
theorem akJ:aV Try.prog 88 1=some 1:=by kernel_rfl
theorem ape:dw Try.prog 88=some #[(0,1),(1,3)]:=by kernel_rfl
theorem asl (ps:List (Nat×PV)):fB Try.prog 88 ps=(kX (plF [(0,1),(1,3)]) [.val (.int .i64 0),.val (.int .i64 0),.val (.bool false),.val (.int .i64 0)] ps).map .agg:=aed adg rfl ape ps
theorem atM:bG (.agg #[.int .i64 0,.int .i64 0,.bool false,.int .i64 0])=.agg [.val (.int .i64 0),.val (.int .i64 0),.val (.bool false),.val (.int .i64 0)]:=rfl
theorem atN {Γ:Ctx} (s:AS) (ρ:Operand→PV):aX Try.prog Γ s ρ (.alloc 88)=some (.own s.nx 4 0 0,upd s.ob s.nx (some (88,4,[.agg [.val (.int .i64 0),.val (.int .i64 0),.val (.bool false),.val (.int .i64 0)]])),s.nx+1):=aeP adg (by kernel_rfl) rfl rfl s ρ
theorem atO {Γ:Ctx} {ob:bg} {ρ:Operand→PV} {ty:Nat}:aU Try.prog Γ ob ρ ty (.build 88 #[])=some (.agg [.val (.int .i64 0),.val (.int .i64 0),.val (.bool false),.val (.int .i64 0)]):=(show fB Try.prog 88 []=some (.agg [.val (.int .i64 0),.val (.int .i64 0),.val (.bool false),.val (.int .i64 0)])from by kernel_rfl)
theorem an5:bG (.int .u32 0)=.val (.int .u32 0):=rfl
theorem aiN:aW Try.prog 23=some 1:=by kernel_rfl
theorem asV:ji Try.prog 23=some false:=by kernel_rfl
theorem aqs:dW Try.prog 23=some 24:=by kernel_rfl
theorem aqW:zeroOf Try.prog 23=some (.slice none 0 0):=by kernel_rfl
theorem aie:Try.prog.underlying 23=some (.slice 9):=by kernel_rfl
theorem aaI:bR Try.prog 23=some 9:=by kernel_rfl
theorem atE {k:Bool} {es:List PV} {i:Int} (h0:0≤i) (h1:i<(es.length:Int)):aI Try.prog 23 (.lst k 1 es) i=some (.ptr k ((es[i.toNat]?).getD .dead) 0):=wO aie amb h0 h1
theorem ao4 {o j n:Nat} {i:Int} (h0:0≤i) (h1:i<(n:Int)):aI Try.prog 23 (.row o 1 j n) i=some (.own o 1 (j+i.toNat) 0):=yB aie amb h0 h1
theorem apS {ty sz:Nat} {k:Bool} {es:List PV}:qB Try.prog 23 ty (.lst k sz es)=some (.val (.int .i64 es.length)):=xg aaI
theorem arE {ty o sz i n:Nat}:qB Try.prog 23 ty (.row o sz i n)=some (.val (.int .i64 n)):=afT aaI
theorem aqg {ty:Nat}:qB Try.prog 23 ty (.val (.slice none 0 0))=some (.val (.int .i64 0)):=afZ aie
theorem asw:bG (.slice none 0 0)=.val (.slice none 0 0):=rfl
theorem asM {Γ:Ctx} (s:AS) (ρ:Operand→PV) (l c:Operand):aX Try.prog Γ s ρ (.makeSlice 23 l c)=ahN 9 1 16 (.string ByteArray.empty) s (ρ l) (ρ c):=afn aaI aon amb asG (by kernel_rfl) rfl s ρ l c
theorem anT {Γ:Ctx} (s:AS) (ρ:Operand→PV) (x y:Operand):aX Try.prog Γ s ρ (.call {callee:=.builtin .append,args:=#[x,y],argTypes:=#[23,23]})=ahg 9 1 16 s.nx s.ob (ρ x) (aa5 s.ob (ρ x)) (bE s.ob 1 (ρ y)):=abF aaI aon amb asG (by decide) rfl s ρ x y
theorem ahn:Try.prog.underlying 27=some (.slice 3):=by kernel_rfl
theorem zZ:bR Try.prog 27=some 3:=by kernel_rfl
theorem atG {k:Bool} {es:List PV} {i:Int} (h0:0≤i) (h1:i<(es.length:Int)):aI Try.prog 27 (.lst k 1 es) i=some (.ptr k ((es[i.toNat]?).getD .dead) 0):=wO ahn ajL h0 h1
theorem aoz {o j n:Nat} {i:Int} (h0:0≤i) (h1:i<(n:Int)):aI Try.prog 27 (.row o 1 j n) i=some (.own o 1 (j+i.toNat) 0):=yB ahn ajL h0 h1
theorem apK {ty sz:Nat} {k:Bool} {es:List PV}:qB Try.prog 27 ty (.lst k sz es)=some (.val (.int .i64 es.length)):=xg zZ
theorem apG {ty o sz i n:Nat}:qB Try.prog 27 ty (.row o sz i n)=some (.val (.int .i64 n)):=afT zZ
theorem aq1 {ty:Nat}:qB Try.prog 27 ty (.val (.slice none 0 0))=some (.val (.int .i64 0)):=afZ ahn
theorem asR:bG (.slice none 0 0)=.val (.slice none 0 0):=rfl
theorem atW {Γ:Ctx} (s:AS) (ρ:Operand→PV) (l c:Operand):aX Try.prog Γ s ρ (.makeSlice 27 l c)=ahN 3 1 8 (.int .i64 0) s (ρ l) (ρ c):=afn zZ arb ajL asD (by kernel_rfl) rfl s ρ l c
theorem aq8 {Γ:Ctx} (s:AS) (ρ:Operand→PV) (x y:Operand):aX Try.prog Γ s ρ (.call {callee:=.builtin .append,args:=#[x,y],argTypes:=#[27,27]})=ahg 3 1 8 s.nx s.ob (ρ x) (aa5 s.ob (ρ x)) (bE s.ob 1 (ρ y)):=abF zZ arb ajL asD (by decide) rfl s ρ x y
theorem asx:aW Try.prog 49=some 1:=by kernel_rfl
theorem atz:ji Try.prog 49=some false:=by kernel_rfl
theorem aov:Try.prog.underlying 49=some (.slice 58):=by kernel_rfl
theorem aaV:bR Try.prog 49=some 58:=by kernel_rfl
theorem as1 {k:Bool} {es:List PV} {i:Int} (h0:0≤i) (h1:i<(es.length:Int)):aI Try.prog 49 (.lst k 7 es) i=some (.ptr k ((es[i.toNat]?).getD .dead) 0):=wO aov adA h0 h1
theorem apo {ty sz:Nat} {k:Bool} {es:List PV}:qB Try.prog 49 ty (.lst k sz es)=some (.val (.int .i64 es.length)):=xg aaV
theorem aop {ty o sz i n:Nat}:qB Try.prog 49 ty (.row o sz i n)=some (.val (.int .i64 n)):=afT aaV
theorem atw:bG (.slice none 0 0)=.val (.slice none 0 0):=rfl
theorem aqc {Γ:Ctx} (s:AS) (ρ:Operand→PV) (x y:Operand):aX Try.prog Γ s ρ (.call {callee:=.builtin .append,args:=#[x,y],argTypes:=#[49,49]})=ahg 58 7 56 s.nx s.ob (ρ x) (aa5 s.ob (ρ x)) (bE s.ob 7 (ρ y)):=abF aaV zW adA ao2 (by decide) rfl s ρ x y
theorem ao5:bR Try.prog 64=some 5:=by kernel_rfl
theorem ato:bG (.slice none 0 0)=.val (.slice none 0 0):=rfl
theorem atF:dP Try.prog 64=true:=by kernel_rfl
theorem aqv:Try.prog.underlying 68=some (.slice 77):=by kernel_rfl
theorem aoV:bR Try.prog 68=some 77:=by kernel_rfl
theorem aoC {o j n:Nat} {i:Int} (h0:0≤i) (h1:i<(n:Int)):aI Try.prog 68 (.row o 4 j n) i=some (.own o 4 (j+i.toNat) 0):=yB aqv ald h0 h1
theorem ate:bG (.slice none 0 0)=.val (.slice none 0 0):=rfl
theorem asz {Γ:Ctx} (s:AS) (ρ:Operand→PV) (l c:Operand):aX Try.prog Γ s ρ (.makeSlice 68 l c)=ahN 77 4 32 (.agg #[.int .i64 0,.int .i64 0,.int .i64 0,.int .i64 0]) s (ρ l) (ρ c):=afn aoV apX ald aqf (by kernel_rfl) rfl s ρ l c
theorem aqp:Try.prog.underlying 69=some (.slice 70):=by kernel_rfl
theorem aqV:bR Try.prog 69=some 70:=by kernel_rfl
theorem arn {o j n:Nat} {i:Int} (h0:0≤i) (h1:i<(n:Int)):aI Try.prog 69 (.row o 4 j n) i=some (.own o 4 (j+i.toNat) 0):=yB aqp am1 h0 h1
theorem as7:bG (.slice none 0 0)=.val (.slice none 0 0):=rfl
theorem atd {Γ:Ctx} (s:AS) (ρ:Operand→PV) (l c:Operand):aX Try.prog Γ s ρ (.makeSlice 69 l c)=ahN 70 4 4 (.agg #[.bool false,.bool false,.bool false,.bool false]) s (ρ l) (ρ c):=afn aqV aof am1 apW (by kernel_rfl) rfl s ρ l c
theorem akk:Try.prog.underlying 112=some (.slice 56):=by kernel_rfl
theorem abf:bR Try.prog 112=some 56:=by kernel_rfl
theorem an1 {k:Bool} {es:List PV} {i:Int} (h0:0≤i) (h1:i<(es.length:Int)):aI Try.prog 112 (.lst k 4 es) i=some (.ptr k ((es[i.toNat]?).getD .dead) 0):=wO akk aiu h0 h1
theorem akx {ty sz:Nat} {k:Bool} {es:List PV}:qB Try.prog 112 ty (.lst k sz es)=some (.val (.int .i64 es.length)):=xg abf
theorem aph:bG (.slice none 0 0)=.val (.slice none 0 0):=rfl
theorem alo {Γ:Ctx} (s:AS) (ρ:Operand→PV) (x y:Operand):aX Try.prog Γ s ρ (.call {callee:=.builtin .append,args:=#[x,y],argTypes:=#[112,112]})=ahg 56 4 32 s.nx s.ob (ρ x) (aa5 s.ob (ρ x)) (bE s.ob 4 (ρ y)):=abF abf agI aiu arp (by decide) rfl s ρ x y
theorem asi:aW Try.prog 22=some 1:=by kernel_rfl
theorem atf:ji Try.prog 22=some false:=by kernel_rfl
theorem aiI:Try.prog.underlying 22=some (.slice 23):=by kernel_rfl
theorem amO:bR Try.prog 22=some 23:=by kernel_rfl
theorem atQ {k:Bool} {es:List PV} {i:Int} (h0:0≤i) (h1:i<(es.length:Int)):aI Try.prog 22 (.lst k 1 es) i=some (.ptr k ((es[i.toNat]?).getD .dead) 0):=wO aiI aiN h0 h1
theorem aoB {o j n:Nat} {i:Int} (h0:0≤i) (h1:i<(n:Int)):aI Try.prog 22 (.row o 1 j n) i=some (.own o 1 (j+i.toNat) 0):=yB aiI aiN h0 h1
theorem arz {ty sz:Nat} {k:Bool} {es:List PV}:qB Try.prog 22 ty (.lst k sz es)=some (.val (.int .i64 es.length)):=xg amO
theorem aoM {ty:Nat}:qB Try.prog 22 ty (.val (.slice none 0 0))=some (.val (.int .i64 0)):=afZ aiI
theorem atJ:bG (.slice none 0 0)=.val (.slice none 0 0):=rfl
theorem asB {Γ:Ctx} (s:AS) (ρ:Operand→PV) (l c:Operand):aX Try.prog Γ s ρ (.makeSlice 22 l c)=ahN 23 1 24 (.slice none 0 0) s (ρ l) (ρ c):=afn amO aqW aiN aqs (by kernel_rfl) rfl s ρ l c
theorem amo {k:IntKind} {n:Int} {es:Option (List PV)}:xA Try.prog 3 5 false es (some (.int k n))=some (.val (.int .u8 (IntKind.u8.wrap n))):=ajN asY atp
theorem akW {k:IntKind} {n:Int} {es:Option (List PV)}:xA Try.prog 5 3 false es (some (.int k n))=some (.val (.int .i64 (IntKind.i64.wrap n))):=ajN atp asY
theorem ak1:iU Try.prog 23 0 []=adU 9 1 [] (true):=uR aaI amb aon _ (by decide) (by decide) rfl
theorem akl {a0:PV}:iU Try.prog 23 1 [(0,a0)]=adU 9 1 [a0] (okP 1 a0&&(true)):=uR aaI amb aon _ (by decide) (by decide) rfl
theorem alL:iU Try.prog 27 0 []=adU 3 1 [] (true):=uR zZ ajL arb _ (by decide) (by decide) rfl
theorem alu {a0:PV}:iU Try.prog 27 1 [(0,a0)]=adU 3 1 [a0] (okP 1 a0&&(true)):=uR zZ ajL arb _ (by decide) (by decide) rfl
theorem amZ:iU Try.prog 49 0 []=adU 58 7 [] (true):=uR aaV adA zW _ (by decide) (by decide) rfl
theorem amD {a0:PV}:iU Try.prog 49 1 [(0,a0)]=adU 58 7 [a0] (okP 7 a0&&(true)):=uR aaV adA zW _ (by decide) (by decide) rfl
theorem amP {a0 a1 a2:PV}:iU Try.prog 49 3 [(0,a0),(1,a1),(2,a2)]=adU 58 7 [a0,a1,a2] (okP 7 a0&&(okP 7 a1&&(okP 7 a2&&(true)))):=uR aaV adA zW _ (by decide) (by decide) rfl
theorem amG {a0:PV}:iU Try.prog 64 1 [(0,a0)]=adU 5 1 [a0] (okP 1 a0&&(true)):=uR ao5 auy auj _ (by decide) (by decide) rfl
theorem ahh {a0:PV}:iU Try.prog 112 1 [(0,a0)]=adU 56 4 [a0] (okP 4 a0&&(true)):=uR abf aiu agI _ (by decide) (by decide) rfl
theorem mixed:Try.prog.follows .mixedOrders=true:=by kernel_rfl
attribute[push_cast high]
 atb asf atO
attribute[push_cast]
 auH ajL auB asD arb asY auQ auJ auG auc auI aud asy auR auy auj atp auK auX auZ auM amb auD asG aon atD atH atj auV au0 atc atC aub atl asH asA anp ako alT akp alk atX at0 aua aqE anb alm als akU akw asu aso atr aiu atV arp agI amk anw al4 al1 an2 asU at1 asE ath adA ati ao2 zW alA alC akn ak0 aoo as0 ar8 atT am1 apW aof apQ aox ase ald aqf apX aqQ ao3 atL asK atY atS ac7 ak3 ak6 akC aqO as3 atZ as2 atP as6 at7 adg alp akJ ape asl atM atN an5 aiN asV aqs aqW aie aaI atE ao4 apS arE aqg asw asM anT ahn zZ atG aoz apK apG aq1 asR atW aq8 asx atz aov aaV as1 apo aop atw aqc ao5 ato atF aqv aoV aoC ate asz aqp aqV arn as7 atd akk abf an1 akx aph alo asi atf aiI amO atQ aoB arz aoM atJ asB amo akW ak1 akl alL alu amZ amD amP amG ahh
end
end Go.Proofs.Ytmmafcjjlbgnkaa
namespace Go.Proofs
open Go.Shelf
def Ytmmafcjjlbgnkaa.aaf:Go.Shelf.Ren:=⟨fun|137=>92|217=>98|266=>100|n=>n,fun|9=>9|5=>5|3=>3|n=>n,fun|n=>n⟩
theorem Ytmmafcjjlbgnkaa.amV:Go.Proofs.Lays.n137 Try.prog Ytmmafcjjlbgnkaa.aaf:={
 mixed:=by kernel_rfl
 f137:=Try.func92.trans (congrArg some (by kernel_rfl))
 f217:=Try.func98.trans (congrArg some (by kernel_rfl))
 f266:=Try.func100.trans (congrArg some (by kernel_rfl))
 t3:=Try.underlying3
 a3:=Try.isAgg3
 z3:=Try.sizeOf3
 v3:=Try.zeroValue3
 t5:=Try.underlying5
 a5:=Try.isAgg5
 z5:=Try.sizeOf5
 v5:=Try.zeroValue5
 t9:=Try.underlying9
 a9:=Try.isAgg9
 z9:=Try.sizeOf9
 v9:=Try.zeroValue9}
open Go.RowKit in
theorem Ytmmafcjjlbgnkaa.strings_IndexByte (s:ByteArray) (c:Int) (w:World):
 Calls Try.prog 92 #[.string s,.int .u8 c] w fun e w'=>e=.returned (.int .i64 (Lib.indexByte s.data.toList c.toNat.toUInt8))∧w'=w:=Any.strings_IndexByte Ytmmafcjjlbgnkaa.amV s c w
end Go.Proofs
namespace Go.Proofs.Ytmmafcjjlbgnkaa
open Go.RowKit
set_option linter.all false
set_option maxHeartbeats 32000000
noncomputable section
def PV.le (p q:PV):Prop:=∀(g:Gh) (w:World) (v:Value),Rep g w p v→Rep g w q v
theorem PV.le_refl (p:PV):p.le p:=fun _ _ _ h=>h
theorem nil_le (k:Bool) (sz:Nat):(PV.val (.slice none 0 0)).le (.lst k sz []):=fun g w v h=>by simp only[Rep]at h⊢;subst h;exact⟨none,0,rfl,Nat.le_refl _,by omega,.inl trivial⟩
def leL:List PV→List PV→Prop
 |[],[]=>True
 |p::ps,q::qs=>p.le q∧leL ps qs
 |_,_=>False
theorem abu:∀(l:List PV),leL l l
 |[]=>trivial
 |p::l=>⟨p.le_refl,abu l⟩
theorem zq {g:Gh} {w:World}:∀{ps qs:List PV} {vs:List Value},leL ps qs→bF g w ps vs→bF g w qs vs
 |[],[],vs,_,h=>h
 |p::ps,q::qs,vs,hl,h=>by simp only[bF]at h⊢;obtain⟨v,vs',rfl,h1,h2⟩:=h;exact⟨v,vs',rfl,hl.1 _ _ _ h1,zq hl.2 h2⟩
 |[],_::_,vs,hl,_=>hl.elim
 |_::_,[],vs,hl,_=>hl.elim
theorem qV {ps qs:List PV} (h:leL ps qs):(PV.tup ps).le (.tup qs):=fun g w v hv=>by simp only[Rep]at hv⊢;obtain⟨vs,rfl,h1⟩:=hv;exact⟨vs,rfl,zq h h1⟩
theorem Sound.weak {P:Program} {f:Nat} {φ φ':Fun} (h:Sound P f φ) (hw:∀ps r,φ' ps=some r→∃ps' r',leL ps ps'∧φ ps'=some r'∧r'.le r):Sound P f φ':=by intro w J ps args r hr hJ hT hargs;obtain⟨ps',r',h1,h2,h3⟩:=hw ps r hr;refine(h w J ps' args r' h2 hJ hT (zq h1 hargs)).mono ?_;rintro e w' ⟨v,rfl,hb,hrep⟩;exact⟨v,rfl,hb,fun g' hg=>h3 _ _ _ (hrep g' hg)⟩
def nrm (sz:Nat):PV→PV
 | .val (.slice none 0 0)=> .lst false sz []
 |p=>p
theorem arG (sz:Nat) (p:PV):p.le (nrm sz p):=by
 unfold nrm;split
 ·exact nil_le _ _
 ·exact p.le_refl
theorem afM (sz:Nat):∀ps:List PV,leL ps (ps.map (nrm sz))
 |[]=>trivial
 |p::ps=>⟨arG sz p,afM sz ps⟩
def anE (sz:Nat) (φ:Fun):Fun:=fun ps=>φ (ps.map (nrm sz))
theorem Sound.nil {P:Program} {f:Nat} {φ:Fun} (h:Sound P f φ) (sz:Nat):Sound P f (anE sz φ):=
 h.weak fun ps r hr=>⟨_,r,afM sz ps,hr,PV.le_refl _⟩
section
variable {P:Program} {Γ:Ctx}
theorem jM (hm:P.follows .mixedOrders=true) {f:Nat} {fn:Func} {c:Code} {φ:Fun} (hΓ:au P Γ) (hf:P.funcs[f]?=some fn) (hb:fn.body=some c) (N:Nat) (hN:fn.ntmps=N) (rs:List ResultVar) (hrs:fn.results.toList=rs) (hc:codeOk Γ true N c=true)
 (h:∀ps r,φ ps=some r→ps.length≤N∧pq P Γ N c (fun x s'=>∃r',r'.le r∧Post P rs r' x s') (bM ps).tm (fun _=>none) 0):Sound P f φ:=by
 obtain⟨φ',h1,h2⟩:=wS hm hΓ hf hb N hN rs hrs hc (fun ps=>∃r,φ ps=some r) (fun ps r'=>∀r,φ ps=some r→r'.le r) (fun ps ⟨r,hr⟩=>(h ps r hr).1) (fun ps ⟨r,hr⟩=>by refine ae9 (fun x s' hx=>?_) _ _ (h ps r hr).2;obtain⟨r',k1,k2⟩:=hx;exact⟨r',fun r1 hr1=>by rw[hr]at hr1;cases hr1;exact k1,k2⟩)
 refine h1.weak fun ps r hr=>?_;obtain⟨r',k1,k2⟩:=h2 ps ⟨r,hr⟩;exact⟨ps,r',abu _,k1,k2 r hr⟩
theorem dA {rs:List ResultVar} {r r':PV} {tm:Nat→PV} {ob:bg} {nx:Nat} {x:X} (hx:x=.normal∨x=.ret) (h:((d9 P ⟨tm,ob,nx⟩ rs).bind fun qs=>reify true 0 ob fuel (eU qs))=some r') (hl:r'.le r):∃r',r'.le r∧Post P rs r' x ⟨tm,ob,nx⟩:=⟨r',hl,hx,h⟩
end
theorem acG {n f sz:Nat} {ob:bg} {k:Bool}:reify false n ob (f+1) (.lst k sz [])=some (.lst false sz []):=by simp[reify]
attribute[push_cast]
 acG
def nP (sz:Nat) (es:List PV) (x:Nat):PV:=match es with|[]=> .val (.slice none 0 0)|_::_=> .row x sz 0 es.length
def nO (T sz:Nat) (es:List PV) (x:Nat):List (Nat×aJ):=match es with|[]=>[]|_::_=>[(x,T,sz,es)]
theorem jH {sz x:Nat}:nP sz [] x=.val (.slice none 0 0):=rfl
theorem jC {T sz x:Nat}:nO T sz [] x=[]:=rfl
theorem aF {sz x:Nat} {es:List PV} (h:0<es.length):nP sz es x=.row x sz 0 es.length:=by
 cases es with
 |nil=>simp at h
 |cons e es=>rfl
theorem aG {T sz x:Nat} {es:List PV} (h:0<es.length):nO T sz es x=[(x,T,sz,es)]:=by
 cases es with
 |nil=>simp at h
 |cons e es=>rfl
attribute[push_cast]
 jH jC
attribute[push_cast low]
 aF aG
theorem akT {P:Program} {t:Nat} {x y:Operand} {a b:ByteArray} (h:a.size+b.size≤9223372036854775807):lW P .add t x y (some (.string a)) (some (.string b))=some (.val (.string (a++b))):=by
 have h2:¬(((a.size+b.size:Nat):Int)>IntKind.i64.max):=by
  have:IntKind.i64.max=9223372036854775807:=by decide
  rw[this];omega
 have:av P (do eqGuard .add t x y (.string a) (.string b);binOp .add t (.string a) (.string b))=some (.string (a++b)):=by
  show av P (Op.stringOp .add a b)=_;unfold Op.stringOp;dsimp only
  rw[if_neg h2];rfl
 simp only[lW,this,Option.map_some]
theorem size_push (ns:List Int) (r:ByteArray):(ns.foldl (fun r n=>r.push (UInt8.ofNat n.toNat)) r).size=r.size+ns.length:=by
 induction ns generalizing r with
 |nil=>simp
 |cons n ns ih=>rw[List.foldl_cons,ih,List.length_cons,ByteArray.size_push];omega
theorem oF (ns:List Int):(bytesOf ns).size=ns.length:=by unfold bytesOf;rw[size_push];simp
attribute[push_cast]
 akT oF ByteArray.size_append iB
theorem acH {out:List Nat} {ob:bg} {l:List PV}:l.mapM (bX out ob fuel)=l.mapM (bX out ob 8):=rfl
attribute[push_cast]
 acH
abbrev aap:=List PV→Option (PV×List aJ)
def iE (P:Program) (f:Nat) (Ψ:aap):Prop:=dK P f fun ps cs=>if cs=[]then Ψ ps else none
def jD (nm:Nat→Nat):Nat→PV→Option PV
 |0,_=>none
 |n+1,p=>match p with
  | .val v=>some (.val v)
  | .dead=>some .dead
  | .lst k sz es=>if k=false∧es≠[]then none else(es.mapM (jD nm n)).map (.lst k sz)
  | .ptr k e o=>if k=false then none else(jD nm n e).map (.ptr k · o)
  | .own o sz i f=>some (.own (nm o) sz i f)
  | .row o sz i m=>some (.row (nm o) sz i m)
  | .agg cs=>(cs.mapM (jD nm n)).map .agg
  | .tup cs=>(cs.mapM (jD nm n)).map .tup
theorem Rep.jD {nm:Nat→Nat} {g g':Gh} {w:World} (hI:∀b,g.I true b→g'.I true b) (ho:∀o,g.D o→g'.β (nm o)=g.β o∧g'.κ (nm o)=g.κ o∧g'.D (nm o)):
 ∀(f:Nat) (p q:PV) (v:Value),Rep g w p v→Proofs.Ytmmafcjjlbgnkaa.jD nm f p=some q→Rep g' w q v
 |0,p,q,v,h,hr=>by simp[Proofs.Ytmmafcjjlbgnkaa.jD]at hr
 |f+1,p,q,v,h,hr=>by
  cases p with
  |val u=>simp only[Proofs.Ytmmafcjjlbgnkaa.jD,Option.some.injEq]at hr;subst hr;simpa [Rep]using h
  |dead=>simp only[Proofs.Ytmmafcjjlbgnkaa.jD,Option.some.injEq]at hr;subst hr;simp[Rep]
  |lst k sz es=>
   simp only[Proofs.Ytmmafcjjlbgnkaa.jD]at hr;split at hr
   ·cases hr
   ·rename_i hk
    simp only[Option.map_eq_some_iff]at hr;obtain⟨es',h1,rfl⟩:=hr;have hl:=(bf h1).1;simp only[Rep]at h⊢;obtain⟨a,cap,rfl,h2,h3,h4⟩:=h;refine⟨a,cap,by rw[hl],by omega,h3,?_⟩;rcases h4 with rfl|⟨b,off,rfl,h5,h6⟩
    ·left;exact List.eq_nil_of_length_eq_zero (by simpa using hl)
    ·by_cases hnil:es=[]
     ·left;subst hnil;exact List.eq_nil_of_length_eq_zero (by simpa using hl)
     ·right
      cases k with
      |false=>simp[hnil]at hk
      |true=>exact⟨b,off,rfl,hI _ h5,bn.conv (g:=g) (g':=g') (Rep.jD hI ho f) h6 h1⟩
  |ptr k e o=>
   simp only[Proofs.Ytmmafcjjlbgnkaa.jD]at hr;split at hr
   ·cases hr
   ·rename_i hk
    simp only[Option.map_eq_some_iff]at hr;obtain⟨e',h1,rfl⟩:=hr;simp only[Rep]at h⊢;obtain⟨b,off,rfl,h2,u,h3,h4⟩:=h;cases k with
    |false=>simp at hk
    |true=>exact⟨b,off,rfl,hI _ h2,u,Rep.jD hI ho f e e' u h3 h1,h4⟩
  |own o sz i f'=>simp only[Proofs.Ytmmafcjjlbgnkaa.jD,Option.some.injEq]at hr;subst hr;simp only[Rep]at h⊢;obtain⟨e1,_,e3⟩:=ho o h.2;exact⟨by rw[e1];exact h.1,e3⟩
  |row o sz i m=>simp only[Proofs.Ytmmafcjjlbgnkaa.jD,Option.some.injEq]at hr;subst hr;simp only[Rep]at h⊢;obtain⟨c,h1,h2,h3,h4,h5⟩:=h;obtain⟨e1,e2,e3⟩:=ho o h5;exact⟨c,by rw[e1];exact h1,h2,h3,by rw[e2];exact h4,e3⟩
  |agg cs=>simp only[Proofs.Ytmmafcjjlbgnkaa.jD,Option.map_eq_some_iff]at hr;obtain⟨cs',h1,rfl⟩:=hr;simp only[Rep]at h⊢;obtain⟨vs,rfl,h2⟩:=h;exact⟨vs,rfl,bF.conv (g:=g) (g':=g') (Rep.jD hI ho f) h2 h1⟩
  |tup cs=>simp only[Proofs.Ytmmafcjjlbgnkaa.jD,Option.map_eq_some_iff]at hr;obtain⟨cs',h1,rfl⟩:=hr;simp only[Rep]at h⊢;obtain⟨vs,rfl,h2⟩:=h;exact⟨vs,rfl,bF.conv (g:=g) (g':=g') (Rep.jD hI ho f) h2 h1⟩
def oZ (nm:Nat→Nat) (f:Nat) (c:aJ):Option aJ:=(c.2.2.mapM (jD nm f)).map fun es=>(c.1,c.2.1,es)
def vQ (Ψ:aap):gM:=fun ps cs=>(ps.mapM (reify false 0 (fun o=>cs[o]?) fuel)).bind fun qs=>(Ψ qs).bind fun rc=>(jD (cs.length+ ·) fuel rc.1).bind fun r=>(rc.2.mapM (oZ (cs.length+ ·) fuel)).map fun cs'=>(r,cs++cs')
theorem iE.lift {P:Program} {f:Nat} {Ψ:aap} (h:iE P f Ψ):dK P f (vQ Ψ):=by
 intro w J β κ ps cs args r cs2 hr hJ hO hT hargs;unfold vQ at hr;simp only[Option.bind_eq_some_iff,Option.map_eq_some_iff]at hr;obtain⟨qs,h1,⟨r0,cs0⟩,h2,r1,h3,cs1,h4,h5⟩:=hr;simp only[Prod.mk.injEq]at h5;obtain⟨rfl,rfl⟩:=h5;dsimp only at h3 h4
 let n:=cs.length
 let J':Bool→Nat→Prop:=fun k b=>k=false∧((∃k',J k' b)∨∃o,o<n∧b=β o)
 have hJ':∀k b,J' k b→b<w.heap.size:=fun k b hb=>by
  rcases hb.2 with⟨k',hk⟩|⟨o,ho,rfl⟩
  ·exact hJ k' b hk
  ·exact(hO.lt o ho).1
 have hargs':bF (dG J' (fun _=>0) (fun _=>0) 0) w qs args.toList:=by
  refine bF.conv (g:=dG J β κ n) (g':=dG J' (fun _=>0) (fun _=>0) 0) (Rep.seen (fr:=false) (n:=0) (s:=qZ ps cs) (g:=dG J β κ n) (g':=dG J' (fun _=>0) (fun _=>0) 0) (fun o c ho=>hO.at_ o c ho) ⟨fun _=>⟨fun k b hb=>⟨rfl,.inl ⟨k,hb⟩⟩,fun o ho=>?_⟩,fun e=>by cases e⟩ fuel) hargs h1
  obtain⟨c,hc⟩:=Option.isSome_iff_exists.1 ho;exact⟨rfl,.inr ⟨o,(List.getElem?_eq_some_iff.1 hc).1,rfl⟩⟩
 have hO':rE J' w (fun _=>0) (fun _=>0) []:=⟨fun o ho=>by simp at ho,fun o o' ho=>by simp at ho,fun o c ho=>by simp at ho⟩;refine(h w J' (fun _=>0) (fun _=>0) qs [] args r0 cs0 (by simpa using h2) hJ' hO' (hT.io fun t _ ⟨o,ho,_⟩=>by simp at ho) hargs').mono ?_;rintro e w' ⟨v,β',κ',M,rfl,hfr,_,_,hnew,hM,hO2,hrep⟩;have hfr':∀b,b<w.heap.size→w'.heap[b]?=w.heap[b]?:=fun b hb=>hfr.block b hb (fun⟨o,ho,_⟩=>by simp at ho);have hl1:=(bf h4).1
 let β2:Nat→Nat:=fun o=>if o<n then β o else β' (o-n)
 let κ2:Nat→Nat:=fun o=>if o<n then κ o else κ' (o-n)
 have hTI:∀b,(dG (addN J' M) β' κ' cs0.length).I true b→(dG (addN J M) β2 κ2 (cs++cs1).length).I true b:=fun b hb=>by
  rcases hb with⟨h6,_⟩|⟨_,h6⟩
  ·cases h6
  ·exact .inr ⟨rfl,h6⟩
 have hTo:∀o,(dG (addN J' M) β' κ' cs0.length).D o→(dG (addN J M) β2 κ2 (cs++cs1).length).β (n+o)=(dG (addN J' M) β' κ' cs0.length).β o∧(dG (addN J M) β2 κ2 (cs++cs1).length).κ (n+o)=(dG (addN J' M) β' κ' cs0.length).κ o∧(dG (addN J M) β2 κ2 (cs++cs1).length).D (n+o):=fun o ho=>by
  have h6:o<cs0.length:=ho.1;refine⟨?_,?_,⟨?_,fun q=>q⟩⟩
  ·simp only[dG,β2];rw[if_neg (by omega)];congr 1;omega
  ·simp only[dG,κ2];rw[if_neg (by omega)];congr 1;omega
  ·simp only[dG,List.length_append];omega
 have hblk:∀i,i<cs0.length→w.heap.size≤β' i∧β' i<w'.heap.size∧∀k,¬addN J' M k (β' i):=fun i hi=>⟨hnew i (Nat.zero_le _) hi,(hO2.lt i hi).1,(hO2.lt i hi).2⟩;refine⟨v,β2,κ2,M,rfl,⟨hfr.os,hfr.tape,hfr.output,hfr.size,fun b hb _=>hfr' b hb⟩,by simp,fun o ho=>⟨by simp only[β2];rw[if_pos ho],by simp only[κ2];rw[if_pos ho]⟩,fun o h6 h7=>?_,hM,⟨fun o ho=>?_,fun o o' ho ho' he=>?_,fun o c hc=>?_⟩,Rep.jD (g:=dG (addN J' M) β' κ' cs0.length) hTI hTo fuel _ _ _ hrep h3⟩
 ·simp only[β2]
  rw[if_neg (by omega)];rw[List.length_append]at h7;exact(hblk (o-n) (by omega)).1
 ·rw[List.length_append]at ho
  simp only[β2];split
  ·rename_i hlt
   refine⟨Nat.lt_of_lt_of_le (hO.lt o hlt).1 hfr.size,fun k hb=>?_⟩;rcases hb with hb|⟨_,hb⟩
   ·exact(hO.lt o hlt).2 k hb
   ·have:=(hM _ hb).1
    have:=(hO.lt o hlt).1;omega
  ·rename_i hlt
   obtain⟨k1,k2,k3⟩:=hblk (o-n) (by omega);refine⟨k2,fun k hb=>?_⟩;rcases hb with hb|⟨hk,hb⟩
   ·have:=hJ k _ hb
    omega
   ·exact k3 true (.inr ⟨rfl,hb⟩)
 ·rw[List.length_append]at ho ho'
  simp only[β2]at he;split at he
  ·rename_i hlt
   split at he
   ·rename_i hlt'
    exact hO.inj o o' hlt hlt' he
   ·rename_i hlt'
    have:=(hblk (o'-n) (by omega)).1;have:=(hO.lt o hlt).1;omega
  ·rename_i hlt
   split at he
   ·rename_i hlt'
    have:=(hblk (o-n) (by omega)).1;have:=(hO.lt o' hlt').1;omega
   ·rename_i hlt'
    have:=hO2.inj (o-n) (o'-n) (by omega) (by omega) he;omega
 ·by_cases hlt:o<n
  ·have hc0:cs[o]?=some c:=by rwa[List.getElem?_append_left hlt]at hc
   have h6:=hO.at_ o c hc0;refine h6.mono (g:=dG J β κ n) (g':=dG (addN J M) β2 κ2 (cs++cs1).length) ⟨fun k b hb=> .inl hb,fun o1 ho1=>⟨?_,fun q=>q⟩,fun o1 ho1=>?_,fun o1 ho1=>?_⟩ ⟨hlt,fun q=>q⟩ (fun k b hb=>hfr' b (hJ k b hb)) (hfr' _ (hO.lt o hlt).1)
   ·have h7:o1<n:=ho1.1
    simp only[dG,List.length_append];omega
   ·have h7:o1<n:=ho1.1
    simp only[dG,β2];rw[if_pos h7]
   ·have h7:o1<n:=ho1.1
    simp only[dG,κ2];rw[if_pos h7]
  ·have hc1:cs1[o-n]?=some c:=by rwa[List.getElem?_append_right (by omega)]at hc
   obtain⟨c0,hc0,hrc⟩:=mapM_at h4 hc1;obtain⟨⟨arr,m1,m2⟩,m3,m4⟩:=hO2.at_ (o-n) c0 hc0;unfold oZ at hrc;rw[Option.map_eq_some_iff]at hrc;obtain⟨es,h6,rfl⟩:=hrc;have hl:=(bf h6).1;have e1:β2 o=β' (o-n):=by simp only[β2];rw[if_neg hlt]
   have e2:κ2 o=κ' (o-n):=by simp only[κ2];rw[if_neg hlt]
   refine⟨⟨arr,by simp only[dG,e1];exact m1,by simp only[dG,e2];exact m2⟩,by simp only[dG,e2,hl];exact m3,?_⟩;simp only[dG,e1];exact bn.conv (g:=dG (addN J' M) β' κ' cs0.length) (g':=dG (addN J M) β2 κ2 (cs++cs1).length) (Rep.jD (g:=dG (addN J' M) β' κ' cs0.length) hTI hTo fuel) m4 h6
def adk (Ψ:aap):Fun:=fun ps=>(Ψ ps).bind fun rc=>reify true 0 (fun o=>rc.2[o]?) fuel rc.1
theorem iE.pure {P:Program} {f:Nat} {Ψ:aap} (h:iE P f Ψ):Sound P f (adk Ψ):=by
 intro w J ps args r hr hJ hT hargs;unfold adk at hr;simp only[Option.bind_eq_some_iff]at hr;obtain⟨⟨r0,cs0⟩,h2,h3⟩:=hr;dsimp only at h3
 let J':Bool→Nat→Prop:=fun k b=>k=false∧J b
 have hO':rE J' w (fun _=>0) (fun _=>0) []:=⟨fun o ho=>by simp at ho,fun o o' ho=>by simp at ho,fun o c ho=>by simp at ho⟩;refine(h w J' (fun _=>0) (fun _=>0) ps [] args r0 cs0 (by simpa using h2) (fun k b hb=>hJ b hb.2) hO' (hT.io fun t _ ⟨o,ho,_⟩=>by simp at ho) hargs).mono ?_;rintro e w' ⟨v,β',κ',M,rfl,hfr,_,_,hnew,hM,hO2,hrep⟩;refine⟨v,rfl,⟨hfr.os,hfr.tape,hfr.output,hfr.size,fun b hb=>hfr.block b hb (fun⟨o,ho,_⟩=>by simp at ho)⟩,fun g' hg=>?_⟩;refine Rep.seen (fr:=true) (n:=0) (s:=qZ ps cs0) (g:=dG (addN J' M) β' κ' cs0.length) (g':=g') (fun o c ho=>hO2.at_ o c ho) ⟨fun e=>(by cases e),fun _=>⟨fun b hb=>?_,fun o ho _=>?_⟩⟩ fuel _ _ _ hrep h3
 ·rcases hb with⟨h6,_⟩|⟨_,h6⟩
  ·cases h6
  ·exact hg b (hM b h6).1 (hM b h6).2
 ·obtain⟨c,hc⟩:=Option.isSome_iff_exists.1 ho
  have hlt:=(List.getElem?_eq_some_iff.1 hc).1;exact hg _ (hnew o (Nat.zero_le _) hlt) (hO2.lt o hlt).1
section
variable {P:Program} {Γ:Ctx}
theorem qg (hm:P.follows .mixedOrders=true) {f:Nat} {fn:Func} {c:Code} {Ψ:aap} (hΓ:au P Γ) (hf:P.funcs[f]?=some fn) (hb:fn.body=some c) (N:Nat) (hN:fn.ntmps=N) (rs:List ResultVar) (hrs:fn.results.toList=rs) (hc:codeOk Γ true N c=true)
 (h:∀ps r cs',Ψ ps=some (r,cs')→ps.length≤N∧pq P Γ N c (jA P rs 0 r cs') (bM ps).tm jJ 0):iE P f Ψ:=by
 refine af3 hm hΓ hf hb N hN rs hrs hc fun ps cs r cs' hr=>?_;split at hr
 ·rename_i hcs
  exact⟨hcs,h ps r cs' hr⟩
 ·cases hr
end
section
variable {α β γ δ ρ:Type} {A:Dec α} {B:Dec β} {C:Dec γ} {D:Dec δ} {ps:List PV} {r:ρ}
def G1 (A:Dec α) (F:α→Option ρ) (ps:List PV):Option ρ:=match ps with|[p]=>(A.d p).bind F|_=>none
def G4 (A:Dec α) (B:Dec β) (C:Dec γ) (D:Dec δ) (F:α→β→γ→δ→Option ρ) (ps:List PV):Option ρ:=match ps with|[p,q,r,s]=>(A.d p).bind fun a=>(B.d q).bind fun b=>(C.d r).bind fun c=>(D.d s).bind fun d=>F a b c d|_=>none
theorem adY {F:α→Option ρ} (h:G1 A F ps=some r):∃a,ps=[A.e a]∧F a=some r:=by
 unfold G1 at h;split at h
 ·rw[Option.bind_eq_some_iff]at h
  obtain⟨a,h1,h2⟩:=h;exact⟨a,by rw[A.h _ _ h1],h2⟩
 ·cases h
theorem aaG {F:α→β→γ→δ→Option ρ} (h:G4 A B C D F ps=some r):∃a b c d,ps=[A.e a,B.e b,C.e c,D.e d]∧F a b c d=some r:=by
 unfold G4 at h;split at h
 ·simp only[Option.bind_eq_some_iff]at h
  obtain⟨a,h1,b,h2,c,h3,d,h4,h5⟩:=h;exact⟨a,b,c,d,by rw[A.h _ _ h1,B.h _ _ h2,C.h _ _ h3,D.h _ _ h4],h5⟩
 ·cases h
theorem aeA {F:α→Option ρ} (a:α):G1 A F [A.e a]=F a:=by simp[G1,A.h']
theorem ale {F:α→β→γ→δ→Option ρ} (a:α) (b:β) (c:γ) (d:δ):G4 A B C D F [A.e a,B.e b,C.e c,D.e d]=F a b c d:=by simp[G4,A.h',B.h',C.h',D.h']
end
def nC (T sz:Nat) (es:List PV):List aJ:=match es with|[]=>[]|_::_=>[(T,sz,es)]
theorem ajS {T sz:Nat}:nC T sz []=[]:=rfl
theorem ajY {T sz:Nat} {es:List PV} (h:0<es.length):nC T sz es=[(T,sz,es)]:=by
 cases es with
 |nil=>simp at h
 |cons e es=>rfl
section
variable {Ψ:aap} {α:Type} {g:α→Value} {l:List α} {T sz:Nat}
theorem ajk {ps qs:List PV} {cs cs0 cs1:List aJ} {r r1:PV} (h1:ps.mapM (reify false 0 (fun o=>cs[o]?) fuel)=some qs) (h2:Ψ qs=some (r,cs0)) (h3:jD (cs.length+ ·) fuel r=some r1) (h4:cs0.mapM (oZ (cs.length+ ·) fuel)=some cs1):vQ Ψ ps cs=some (r1,cs++cs1):=by
 unfold vQ;rw[h1,Option.bind_some,h2,Option.bind_some];dsimp only
 rw[h3,Option.bind_some,h4];rfl
theorem tY {ps:List PV} {cs0:List aJ} {r r1:PV} (h2:Ψ ps=some (r,cs0)) (h3:reify true 0 (fun o=>cs0[o]?) fuel r=some r1):adk Ψ ps=some r1:=by unfold adk;rw[h2,Option.bind_some,h3]
theorem xY {nm:Nat→Nat}:∀{f:Nat} {p:PV},dO f p=true→jD nm f p=some p
 |0,_,h=>by simp[dO]at h
 |f+1,p,h=>by
  cases p with
  |val v=>rfl
  |dead=>rfl
  |agg cs=>
   have h2:∀c∈cs,dO f c=true:=by simpa [dO]using h
   simp only[Proofs.Ytmmafcjjlbgnkaa.jD];rw[cZ fun c hc=>xY (h2 c hc)];rfl
  |_=>simp[dO]at h
theorem acJ {β:Type} {nm:Nat→Nat} {f:Nat} {g:β→PV} {l:List β} (h:∀x,dO 2 (g x)=true):(l.map g).mapM (jD nm (f+2))=some (l.map g):=
 cZ fun e he=>by obtain⟨x,_,rfl⟩:=List.mem_map.1 he;exact xY (iR (by omega) (h x))
theorem gU {nm:Nat→Nat}:oZ nm fuel (T,sz,l.map fun x=>PV.val (g x))=some (T,sz,l.map fun x=>PV.val (g x)):=by unfold oZ;show((l.map fun x=>PV.val (g x)).mapM (jD nm (6+2))).map _=_;rw[acJ fun _=>rfl];rfl
end
theorem agq {nm:Nat→Option Nat} {l:List PV}:l.mapM (dX nm fuel)=l.mapM (dX nm 8):=rfl
attribute[push_cast]
 agq
section
variable {P:Program} {Γ:Ctx}
theorem yu (hm:P.follows .mixedOrders=true) {f:Nat} {fn:Func} {c:Code} (hΓ:au P Γ) (hf:P.funcs[f]?=some fn) (hb:fn.body=some c) (N:Nat) (hN:fn.ntmps=N) (rs:List ResultVar) (hrs:fn.results.toList=rs) (hc:codeOk Γ true N c=true)
 (D:List PV→List aJ→Prop) (R:List PV→List aJ→PV→List aJ→Prop) (hlen:∀ps cs,D ps cs→ps.length≤N)
 (h:∀ps cs,D ps cs→pq P Γ N c (fun x s'=>∃r cs',R ps cs r cs'∧jA P rs cs.length r cs' x s') (bM ps).tm (fun o=>cs[o]?) cs.length):∃Φ:gM,dK P f Φ∧∀ps cs,D ps cs→∃r cs',Φ ps cs=some (r,cs')∧R ps cs r cs':=by
 classical
 subst hN hrs
 let Z:List PV→List aJ→PV×List aJ→Prop:=fun ps cs r=>D ps cs∧R ps cs r.1 r.2∧∃x s',Ev P Γ fn.ntmps c (qZ ps cs) x s'∧jA P fn.results.toList cs.length r.1 r.2 x s'
 let Φ:gM:=fun ps cs=>if h:∃r,Z ps cs r then some (Classical.choose h)else none
 have hΦ:∀ps cs r,Φ ps cs=some r→Z ps cs r:=fun ps cs r hr=>by
  simp only[Φ]at hr;split at hr
  ·rename_i hz
   cases hr;exact Classical.choose_spec hz
  ·cases hr
 refine⟨Φ,lZ hΓ hf hb (fun ps cs r hr=>hlen ps cs (hΦ ps cs r hr).1) fun ps cs r cs' hr=>?_,fun ps cs hd=>?_⟩
 ·obtain⟨_,_,x,s',h1,h2,news,h3,h4,h5,h6⟩:=hΦ ps cs (r,cs') hr
  rw[Option.bind_eq_some_iff]at h5;obtain⟨qs,h8,h9⟩:=h5;refine⟨x,s',qs,List.range cs.length++news,h1,h2,h8,h9,by simp,fun o ho=>?_,?_,h6⟩
  ·rw[List.getElem?_append_left (by simpa using ho),List.getElem?_range ho]
  ·rw[List.nodup_append]
   exact⟨List.nodup_range,h4,fun a ha b hb e=>by have:=h3 b hb;have:=List.mem_range.1 ha;omega⟩
 ·obtain⟨x,s',h1,r,cs',h2,h3⟩:=yA (mixed:=true) (fun _=>hm) c _ _ hc (h ps cs hd)
  have hz:∃r,Z ps cs r:=⟨(r,cs'),hd,h2,x,s',h1,h3⟩;have he:Φ ps cs=some (Classical.choose hz):=by simp only[Φ];rw[dif_pos hz]
  exact⟨(Classical.choose hz).1,(Classical.choose hz).2,he,(hΦ ps cs _ he).2.1⟩
end
section
variable {P:Program} {tm:Nat→PV} {ob:bg} {nx:Nat} {rs:List ResultVar} {r:PV} {c':aJ} {x:X} {R:PV→List aJ→Prop}
theorem ajP (hx:x=.normal∨x=.ret) (h1:((d9 P ⟨tm,ob,nx⟩ rs).bind fun qs=>bX [0] ob fuel (eU qs))=some r) (h2:nk [0] ob fuel 0=some c') (hR:R r [c']):∃r cs',R r cs'∧jA P rs 1 r cs' x ⟨tm,ob,nx⟩:=⟨r,[c'],hR,aoK hx h1 h2⟩
theorem ajD (hx:x=.normal∨x=.ret) (h1:((d9 P ⟨tm,ob,nx⟩ rs).bind fun qs=>bX [] ob fuel (eU qs))=some r) (hR:R r []):∃r cs',R r cs'∧jA P rs 0 r cs' x ⟨tm,ob,nx⟩:=⟨r,[],hR,lK hx h1⟩
end
structure Fgn where
 bk:Nat→Prop
 at_:World→Prop
 keep:∀w w':World,(∀i,bk i→w'.heap[i]?=w.heap[i]?)→at_ w→at_ w'
def Fgn.no:Fgn:=⟨fun _=>False,fun _=>True,fun _ _ _ _=>trivial⟩
structure HzC (io:IoS) (w00 w0:World) (B:Nat) (bk:Nat→Prop):Prop where
 ne:∀i,io.wr i∨io.im i∨io.it i→¬bk i
 lo:∀i,io.wr i∨io.it i→B≤i
 lt:∀i,io.wr i→i<w0.heap.size
 hb:∀b,bk b→b<w0.heap.size
 sz:B≤w0.heap.size
 fr:Fr (fun i=>bk i∨B≤i) w00 w0
 tk:∀t∈tks,t<B∧¬bk t
def Zt (P:Program) (N B:Nat) (w00:World) (s:AS) (σ:Fgn) (a:Act) (w:World):Prop:=
 (∃io w0 g,Rel io w0 N g s a w∧HzC io w00 w0 B σ.bk)∧σ.at_ w
section
variable {P:Program} {N B:Nat} {w00:World}
theorem HzC.kZ {io:IoS} {w0:World} {bk:Nat→Prop} (h:HzC io w00 w0 B bk) {g:Gh} {s:AS} {a:Act} {w:World} (hr:Rel io w0 N g s a w) {kk:Bool} {i:Nat} (hi:g.I kk i):i<w.heap.size∧¬bk i:=by
 refine⟨hr.lt _ _ hi,?_⟩;cases kk with
 |false=>exact h.ne i (.inr (.inl (hr.old i hi)))
 |true=>
  rcases hr.new i hi with⟨h1,_⟩|h1
  ·exact fun e=>by have:=h.hb i e;omega
  ·exact h.ne i (.inr (.inr h1))
theorem HzC.eT {io:IoS} {w0:World} {bk:Nat→Prop} (h:HzC io w00 w0 B bk) {g:Gh} {s:AS} {a:Act} {w:World} (hr:Rel io w0 N g s a w) {o:Nat} {c:Nat×Nat×List PV} (ho:s.ob o=some c):g.β o<w.heap.size∧¬bk (g.β o)∧B≤g.β o:=by
 obtain⟨h1,h2,h3,h4⟩:=hr.ob o c ho;obtain⟨arr,ha,_⟩:=h4.1;refine⟨lt_of_heap ha,?_,?_⟩
 ·rcases h2 with h2|h2
  ·exact fun e=>by have:=h.hb _ e;omega
  ·exact h.ne _ (.inl h2)
 ·rcases h2 with h2|h2
  ·have:=h.sz;omega
  ·exact h.lo _ (.inl h2)
theorem Rel.akA {io:IoS} {w0 w w':World} {bk bk':Nat→Prop} {g:Gh} {s:AS} {a:Act} (hr:Rel io w0 N g s a w) (hC:HzC io w00 w0 B bk) (hf:Fr bk' w w')
 (h1:∀i,i<w.heap.size→bk' i→bk i) (h2:∀i,bk i→bk' i) (h3:∀b,bk' b→b<w'.heap.size):∃io',Rel io' w' N g s a w'∧HzC io' w00 w' B bk':=by
 have hI:∀kk i,g.I kk i→w'.heap[i]?=w.heap[i]?:=fun kk i hi=>by obtain⟨q1,q2⟩:=hC.kZ hr hi;exact hf.block i q1 fun e=>q2 (h1 i q1 e)
 have hsz:B≤w.heap.size:=Nat.le_trans hC.sz hr.fr.size;have htk:∀t∈tks,¬bk' t:=fun t ht e=>(hC.tk t ht).2 (h1 t (by have:=(hC.tk t ht).1;omega) e);refine⟨{wr:=fun i=>∃o,(s.ob o).isSome∧i=g.β o,im:=g.I false,m:=0,β0:=fun _=>0,κ0:=fun _=>0,it:=g.I true},⟨hr.nt,hr.df,fun t=>(hr.tm t).mono (Gh.le_refl g) hI,fun o c ho=>?_,hr.inj,hr.nx,fun kk i hi=>Nat.lt_of_lt_of_le (hr.lt kk i hi) hf.size,fun i hi=> .inr hi,Fr.refl _ _,fun i hi=>hi,⟨fun o ho=>(Nat.not_lt_zero o ho).elim,fun o ho=>(Nat.not_lt_zero o ho).elim⟩,fun o ho=>False.elim ho,?_⟩,⟨fun i hi=>?_,fun i hi=>?_,fun i hi=>?_,h3,Nat.le_trans hsz hf.size,?_,fun t ht=>⟨(hC.tk t ht).1,htk t ht⟩⟩⟩
 ·obtain⟨k1,k2,k3,k4⟩:=hr.ob o c ho
  obtain⟨q1,q2,q3⟩:=hC.eT hr ho;exact⟨k1,.inr ⟨o,by simp[ho],rfl⟩,k3,k4.mono (Gh.le_refl g) k1 hI (hf.block _ q1 fun e=>q2 (h1 _ q1 e))⟩
 ·have t1:jc w (fun i=>bk' i):=hr.tab.keep hr.fr fun t ht e=>htk t ht e
  refine t1.keep hf ?_;rintro t ht ⟨o,ho,rfl⟩;obtain⟨c,hc⟩:=Option.isSome_iff_exists.1 ho;have:=(hC.eT hr hc).2.2;have:=(hC.tk _ ht).1;omega
 ·rcases hi with⟨o,ho,rfl⟩|hi|hi
  ·obtain⟨c,hc⟩:=Option.isSome_iff_exists.1 ho
   obtain⟨q1,q2,q3⟩:=hC.eT hr hc;exact fun e=>q2 (h1 _ q1 e)
  ·obtain⟨q1,q2⟩:=hC.kZ hr hi
   exact fun e=>q2 (h1 _ q1 e)
  ·obtain⟨q1,q2⟩:=hC.kZ hr hi
   exact fun e=>q2 (h1 _ q1 e)
 ·rcases hi with⟨o,ho,rfl⟩|hi
  ·obtain⟨c,hc⟩:=Option.isSome_iff_exists.1 ho
   exact(hC.eT hr hc).2.2
  ·rcases hr.new i hi with⟨q,_⟩|q
   ·exact Nat.le_trans hC.sz q
   ·exact hC.lo i (.inr q)
 ·obtain⟨o,ho,rfl⟩:=hi
  obtain⟨c,hc⟩:=Option.isSome_iff_exists.1 ho;exact Nat.lt_of_lt_of_le (hC.eT hr hc).1 hf.size
 ·have hf1:Fr (fun i=>bk' i∨B≤i) w0 w:=⟨hr.fr.os,hr.fr.tape,hr.fr.output,hr.fr.size,fun i hi hn=>hr.fr.block i hi fun q=>hn (.inr (hC.lo i (.inl q)))⟩
  refine⟨hf.os.trans (hf1.os.trans hC.fr.os),hf.tape.trans (hf1.tape.trans hC.fr.tape),hf.output.trans (hf1.output.trans hC.fr.output),Nat.le_trans hC.fr.size (Nat.le_trans hf1.size hf.size),fun i hi hn=>?_⟩;have g1:=hC.fr.block i hi fun q=>hn (q.imp (h2 i) id);have g2:=hf1.block i (Nat.lt_of_lt_of_le hi hC.fr.size) hn;have g3:=hf.block i (Nat.lt_of_lt_of_le hi (Nat.le_trans hC.fr.size hf1.size)) fun q=>hn (.inl q);exact g3.trans (g2.trans g1)
theorem Fgn.same {io:IoS} {w0:World} {σ:Fgn} {g g':Gh} {s s':AS} {a a':Act} {w w':World} (hC:HzC io w00 w0 B σ.bk) (h1:Rel io w0 N g s a w) (h2:Rel io w0 N g' s' a' w') (hM:σ.at_ w):σ.at_ w':=
 σ.keep w w' (fun i hi=>by have q:∀{g:Gh} {s:AS} {a:Act} {w:World},Rel io w0 N g s a w→w.heap[i]?=w0.heap[i]?:=fun hr=>hr.fr.block i (hC.hb i hi) fun q=>hC.ne i (.inl q) hi;rw[q h1,q h2]) hM
structure HZ (P:Program) (N B:Nat) (w00:World) (c:Code) (K:X→AS→Fgn→Prop) (s:AS) (σ:Fgn):Prop where
 go:∀a w,Zt P N B w00 s σ a w→∀Q:Exit→Act→World→Prop,(∀x s' σ' a' w',Zt P N B w00 s' σ' a' w'→K x s' σ'→Q x.oG a' w')→CWp P c Q a w
variable {c c1 c2:Code} {K:X→AS→Fgn→Prop} {s s':AS} {σ:Fgn}
theorem HZ.seq (h:HZ P N B w00 c1 (fun x s' σ'=>match x with| .normal=>HZ P N B w00 c2 K s' σ'| .exit id=>K (.exit id) s' σ'| .ret=>K .ret s' σ') s σ):HZ P N B w00 (.seq c1 c2) K s σ:=HZ.mk fun a w hs Q hQ=>by
 refine wp_seq (CWp.wp (h.go a w hs _ fun x s' σ' a' w' hs' hk=>?_));cases x with
 |normal=>exact(hk.go a' w' hs' Q hQ).wp
 |exit id=>exact hQ _ s' σ' a' w' hs' hk
 |ret=>exact hQ _ s' σ' a' w' hs' hk
theorem HZ.block {id:Nat} (h:HZ P N B w00 c (fun x s' σ'=>K (x.out id) s' σ') s σ):HZ P N B w00 (.block id c) K s σ:=HZ.mk fun a w hs Q hQ=>by
 refine wp_block (CWp.wp (h.go a w hs _ fun x s' σ' a' w' hs' hk=>?_));have:=hQ _ s' σ' a' w' hs' hk;cases x with
 |normal=>exact this
 |ret=>exact this
 |exit id'=>
  simp only[X.oG,Exit.inBlock,X.out]at this⊢;split
  ·rename_i hid;simpa [hid]using this
  ·rename_i hid;simpa [hid]using this
theorem HZ.ret (h:K .ret s σ):HZ P N B w00 .ret K s σ:=HZ.mk fun a w hs Q hQ=>wp_ret (hQ .ret s σ a w hs h)
theorem Zt.forget {a:Act} {w:World} (h:Zt P N B w00 s σ a w) (hf:s.forget s'):Zt P N B w00 s' σ a w:=by obtain⟨⟨io,w0,g,hr,hC⟩,hM⟩:=h;exact⟨⟨io,w0,g,hr.forget hf,hC⟩,hM⟩
theorem HZ.forget (hf:s.forget s') (h:HZ P N B w00 c K s' σ):HZ P N B w00 c K s σ:=HZ.mk fun a w hs Q hQ=>h.go a w (hs.forget hf) Q hQ
theorem HZ.loop {α:Type} (S:α→AS) (I:α→Fgn→Prop) (μ:α→Nat) (i:α) (hi:I i σ) (hs:s.forget (S i))
 (h:∀i σ,I i σ→HZ P N B w00 c (fun x s' σ'=>match x with| .normal=>∃j,I j σ'∧μ j<μ i∧s'.forget (S j)| .exit id=>K (.exit id) s' σ'| .ret=>K .ret s' σ') (S i) σ):HZ P N B w00 (.loop c) K s σ:=by
 have key:∀n i σ,μ i=n→I i σ→∀a w,Zt P N B w00 (S i) σ a w→∀Q:Exit→Act→World→Prop,(∀x s' σ' a' w',Zt P N B w00 s' σ' a' w'→K x s' σ'→Q x.oG a' w')→iZ P c Q a w:=by
  intro n
  induction n using Nat.strongRecOn with
  |_ n ih=>
   intro i σ hn hi a w hst Q hQ;refine iZ.step (CWp.wp ((h i σ hi).go a w hst _ fun x s' σ' a' w' hst' hk=>?_));cases x with
   |normal=>obtain⟨j,hj,hlt,hf⟩:=hk;exact ih (μ j) (hn▸hlt) j σ' rfl hj a' w' (hst'.forget hf) Q hQ
   |exit id=>exact hQ _ s' σ' a' w' hst' hk
   |ret=>exact hQ _ s' σ' a' w' hst' hk
 exact HZ.mk fun a w hst Q hQ=>key _ i σ rfl hi a w (hst.forget hs) Q hQ
theorem HZ.eng {Γ:Ctx} (hm:P.follows .mixedOrders=true) (hΓ:au P Γ) (hc:codeOk Γ true N c=true) (hp:pq P Γ N c (fun x s'=>K x s' σ) s.tm s.ob s.nx):HZ P N B w00 c K s σ:=HZ.mk fun a w hs Q hQ=>by obtain⟨⟨io,w0,g,hr,hC⟩,hM⟩:=hs;obtain⟨x,s',h1,h2⟩:=yA (fun _=>hm) c _ _ hc hp;exact h1.cwp hΓ.w (fun b hb=>hC.lt b hb) g a w Q hr fun g' a' w' hr'=>hQ x s' σ a' w' ⟨⟨io,w0,g',hr',hC⟩,Fgn.same hC hr hr' hM⟩ h2
structure ZO (P:Program) (N B:Nat) (w00:World) (ops:Array Oper) (j:Nat) (l:List Oper) (K:AS→Fgn→Prop) (s:AS) (σ:Fgn):Prop where
 go:ops.toList.drop j=l→∀a w,Zt P N B w00 s σ a w→∀Q:Exit→Act→World→Prop,(∀s' σ' a' w',Zt P N B w00 s' σ' a' w'→K s' σ'→Q .normal a' w')→wpOps P ops Q (List.range' j l.length) a w
variable {ops:Array Oper} {J:AS→Fgn→Prop} {j:Nat} {o:Oper} {l l1 l2:List Oper}
theorem HZ.each {id:Nat} {os:List Oper} (h:ZO P N B w00 os.toArray 0 os (K .normal) s σ):HZ P N B w00 (.region id os.toArray false) K s σ:=HZ.mk fun a w hs Q hQ=>by refine wp_region ?_;have:=h.go (by simp) a w hs Q fun s' σ' a' w' hs' hk=>hQ .normal s' σ' a' w' hs' hk;rw[List.range_eq_range'];simpa using this
theorem ZO.nil (h:J s σ):ZO P N B w00 ops j [] J s σ:=ZO.mk fun _ a w hs Q hQ=>hQ s σ a w hs h
theorem afK {Γ:Ctx} {imm:Md} {io:IoS} {w0:World} {Q:Exit→Act→World→Prop} {s1:AS} (hΓ:eB P Γ io.wr w0) (hio:∀b,io b→b<w0.heap.size) (hd:∀o∈ops.toList,fI N o=true):∀(l1:List Oper) (j:Nat) {g:Gh} {s:AS} {a:Act} {w:World},ops.toList.drop j=l1++l2→Rel io w0 N g s a w→
 fT P Γ imm ops l1 s=some s1→(∀g' a' w',Rel io w0 N g' s1 a' w'→wpOps P ops Q (List.range' (j+l1.length) l2.length) a' w')→wpOps P ops Q (List.range' j (l1++l2).length) a w
 |[],j,g,s,a,w,hl,h,he,hQ=>by simp only[fT,Option.some.injEq]at he;subst he;exact hQ g a w h
 |o::l,j,g,s,a,w,hl,h,he,hQ=>by
  have hk:ops.toList[j]?=some o:=by have:=congrArg (·[0]?) hl;simpa using this
  have hk':ops[j]?=some o:=by simpa using hk
  have hl':ops.toList.drop (j+1)=l++l2:=by rw[←List.drop_drop,hl];rfl
  simp only[fT]at he;split at he
  ·rename_i s2 h2
   simp only[List.cons_append,List.length_cons,List.range'_succ];rw[wpOps_cons];exact yF h hΓ hio (hd o (List.mem_of_getElem? hk)) h2 hk' fun g' a' w' hr=>afK hΓ hio hd l (j+1) hl' hr he fun g2 a2 w2 hr2=>by
    have:=hQ g2 a2 w2 hr2
    rwa[List.length_cons,show j+(l.length+1)=j+1+l.length by omega]at this
  ·cases he
theorem ZO.pre {Γ:Ctx} {imm:Md} {os:List Oper} (n:Nat) (hΓ:au P Γ) (hd:os.toArray.all (fI N)=true) (h1:l.take n=l1) (h2:l.drop n=l2) {gs:List (Option Nat)} (hg:os.map (·.dst)=gs) (hp:wq P Γ imm gs l1 (fun s1=>ZO P N B w00 os.toArray (j+l1.length) l2 J s1 σ) s.tm s.ob s.nx):ZO P N B w00 os.toArray j l J s σ:=ZO.mk fun hl a w hs Q hQ=>by
 obtain⟨⟨io,w0,g,hr,hC⟩,hM⟩:=hs;have hl12:l=l1++l2:=by rw[←h1,←h2,List.take_append_drop]
 subst hg;rw[show os.map (·.dst)=os.toArray.toList.map (·.dst) by simp,←j5]at hp;obtain⟨s1,e1,e2⟩:=nJ _ _ hp;rw[hl12]at hl⊢;refine afK hΓ.w (fun b hb=>hC.lt b hb) (fun o ho=>(Array.all_eq_true_iff_forall_mem.1 hd) o (by simpa using ho)) l1 j hl hr e1 fun g' a' w' hr'=>?_;refine e2.go ?_ a' w' ⟨⟨io,w0,g',hr',hC⟩,Fgn.same hC hr hr' hM⟩ Q hQ;rw[←List.drop_drop,hl];simp
theorem ZO.one (hg:o.guard=none) (h:∀a w,Zt P N B w00 s σ a w→∀(Kn:Act→World→Prop) (Q:Exit→Act→World→Prop),(∀s' σ' a' w',Zt P N B w00 s' σ' a' w'→ZO P N B w00 ops (j+1) l J s' σ'→Kn a' w')→o.wp P a w Kn Q):ZO P N B w00 ops j (o::l) J s σ:=ZO.mk fun hl a w hs Q hQ=>by
 have hk:ops.toList[j]?=some o:=by have:=congrArg (·[0]?) hl;simpa using this
 have hk':ops[j]?=some o:=by simpa using hk
 have hl':ops.toList.drop (j+1)=l:=by rw[←List.drop_drop,hl];rfl
 simp only[List.length_cons,List.range'_succ];rw[wpOps_cons];unfold wpOp;simp only[hk'];have hw:Region.wanted o (yielded ops a.tmps)=true:=by simp[Region.wanted,hg]
 rw[hw];simp only[if_true];left;exact h a w hs _ _ fun s' σ' a' w' hs' hh=>hh.go hl' a' w' hs' Q hQ
theorem Zt.put {a:Act} {w:World} (h:Zt P N B w00 s σ a w) {d:Option Nat} (hd:∀x,d=some x→x<N) {p:PV} {v:Value} (hv:∀(g:Gh) (w:World),Rep g w p v):Zt P N B w00 (s.put d p) σ (a.put d v) w:=by obtain⟨⟨io,w0,g,hr,hC⟩,hM⟩:=h;exact⟨⟨io,w0,g,hr.put hd (hv g w),hC⟩,hM⟩
theorem Zt.mR {a:Act} {w w':World} {σ':Fgn} (h:Zt P N B w00 s σ a w) (hf:Fr σ'.bk w w') (h1:∀i,i<w.heap.size→σ'.bk i→σ.bk i) (h2:∀i,σ.bk i→σ'.bk i) (h3:∀b,σ'.bk b→b<w'.heap.size) (hM:σ'.at_ w'):Zt P N B w00 s σ' a w':=by obtain⟨⟨io,w0,g,hr,hC⟩,_⟩:=h;obtain⟨io',k1,k2⟩:=hr.akA hC hf h1 h2 h3;exact⟨⟨io',w',g,k1,k2⟩,hM⟩
theorem HZ.cut {Lf:List (Nat×PV)} {O:List (Nat×Nat×Nat×List PV)} {x:Nat} (h1:agree s.tm Lf) (h2:iT s.ob O) (h3:s.nx=x) (h:HZ P N B w00 c K ⟨lk Lf,lo O,x⟩ σ):HZ P N B w00 c K s σ:=
 HZ.forget (s':=mkS Lf O x) (gG (fq h1) (dQ h2) h3) h
theorem HZ.acC {α:Type} (Lf:α→List (Nat×PV)) (O:α→List (Nat×Nat×Nat×List PV)) (XX:α→Nat) (I:α→Fgn→Prop) (μ:α→Nat) (i:α) (hi:I i σ) (h1:agree s.tm (Lf i)) (h2:iT s.ob (O i)) (h3:s.nx=XX i)
 (h:∀i σ,I i σ→HZ P N B w00 c (fun x s' σ'=>match x with| .normal=>∃j,I j σ'∧μ j<μ i∧agree s'.tm (Lf j)∧iT s'.ob (O j)∧s'.nx=XX j| .exit id=>K (.exit id) s' σ'| .ret=>K .ret s' σ') ⟨lk (Lf i),lo (O i),XX i⟩ σ):HZ P N B w00 (.loop c) K s σ:=by
 refine HZ.loop (fun i=>mkS (Lf i) (O i) (XX i)) I μ i hi (gG (fq h1) (dQ h2) h3) fun i σ hi=>⟨fun a w hs Q hQ=>(h i σ hi).go a w hs Q fun x s' σ' a' w' hs' hk=>hQ x s' σ' a' w' hs' ?_⟩;cases x with
 |normal=>obtain⟨j,k1,k2,k3,k4,k5⟩:=hk;exact⟨j,k1,k2,gG (fq k3) (dQ k4) k5⟩
 |exit id=>exact hk
 |ret=>exact hk
theorem HZ.start {ps:List PV} (h:HZ P N B w00 c K ⟨(bM ps).tm,fun _=>none,0⟩ σ):HZ P N B w00 c K (bM ps) σ:=h
end
section
variable {P:Program} {N B:Nat} {w00:World} {c:Code}
theorem abJ {fn:Func} {ps:List PV} {args:Array Value} {w:World} {Jm:Nat→Prop} (hJ:∀b,Jm b→b<w.heap.size) (hT:jc w (fun _=>False)) (hargs:bF (jF Jm) w ps args.toList) (hle:ps.length≤fn.ntmps):
 Rel ⟨fun _=>False,Jm,0,fun _=>0,fun _=>0,fun _=>False,fun _=>False⟩ w fn.ntmps (jF Jm) (bM ps) {tmps:=args++Array.replicate (fn.ntmps-args.size) undef,defers:=[]} w:=by
 have hsz:args.size=ps.length:=by simpa using hargs.get.1
 refine⟨by simp;omega,rfl,fun t=>?_,fun o c ho=>(by cases ho),fun o o' ho=>(by cases ho),rfl,fun k b hi=>hJ b hi.2,fun b hi=>(by cases hi.1),Fr.refl _ _,fun b hi=>hi.2,⟨fun o ho=>(Nat.not_lt_zero o ho).elim,fun o ho=>(Nat.not_lt_zero o ho).elim⟩,fun o ho=>False.elim ho,hT⟩;simp only[bM];cases hp:ps[t]? with
 |none=>
  have hge:ps.length≤t:=by simpa using hp
  have:(args++Array.replicate (fn.ntmps-args.size) undef).getD t undef=undef:=by simp only[Array.getD_eq_getD_getElem?];rw[Array.getElem?_append_right (by omega)];simp only[Array.getElem?_replicate];split<;>rfl
  rw[this];simp[Rep]
 |some p=>
  obtain⟨v,hv,hrep⟩:=hargs.get.2 t p hp;have hlt:t<args.size:=by have:=(List.getElem?_eq_some_iff.1 hp).1;omega
  have:(args++Array.replicate (fn.ntmps-args.size) undef).getD t undef=v:=by
   simp only[Array.getD_eq_getD_getElem?];rw[Array.getElem?_append_left hlt];have:args[t]?=some v:=by simpa using hv
   simp[this]
  rw[this];exact hrep
theorem adZ {w:World} {io:Nat→Prop} (hT:jc w io):∀t∈tks,t<w.heap.size:=fun t ht=>hT.lt t ht
theorem HZ.sound {f:Nat} {fn:Func} {rs:List ResultVar} {φ:Fun} (hf:P.funcs[f]?=some fn) (hb:fn.body=some c) (hN:fn.ntmps=N) (hrs:fn.results.toList=rs)
 (h:∀ps r,φ ps=some r→ps.length≤N∧∀B w00,HZ P N B w00 c (fun x s' σ'=>(x=.normal∨x=.ret)∧(∃r',(∀(g:Gh) (w:World) (v:Value),Rep g w r' v→Rep g w r v)∧((d9 P s' rs).bind fun qs=>reify true 0 s'.ob fuel (eU qs))=some r')∧∀i,σ'.bk i→B≤i) (bM ps) Fgn.no):Sound P f φ:=by
 intro w Jm ps args r hr hJ hT hargs;subst hN hrs;obtain⟨hlen,h⟩:=h ps r hr;refine calls_of_wp hf hb (CWp.wp ((h w.heap.size w).go _ _ ⟨⟨_,w,_,abJ hJ hT hargs hlen,⟨fun i hi e=>e,fun i hi=>?_,fun i hi=>False.elim hi,fun b' e=>False.elim e,Nat.le_refl _,Fr.refl _ _,fun t ht=>⟨adZ hT t ht,fun e=>e⟩⟩⟩,trivial⟩ _ fun x s' σ' a' w' hs' hk=>?_))
 ·rcases hi with hi|hi<;>exact False.elim hi
 ·obtain⟨hx,⟨r',hle,hres⟩,hbb⟩:=hk
  obtain⟨⟨io,w0,g,hrel,hC⟩,hM'⟩:=hs';rw[Option.bind_eq_some_iff]at hres;obtain⟨qs,hres,hreify⟩:=hres;have hbel:Below w.heap.size w w':=by have hf1:Fr (fun i=>w.heap.size≤i) w0 w':=⟨hrel.fr.os,hrel.fr.tape,hrel.fr.output,hrel.fr.size,fun i hi hn=>hrel.fr.block i hi fun q=>hn (hC.lo i (.inl q))⟩;refine⟨hf1.os.trans hC.fr.os,hf1.tape.trans hC.fr.tape,hf1.output.trans hC.fr.output,Nat.le_trans hC.fr.size hf1.size,fun i hi=>?_⟩;refine(hf1.block i (Nat.lt_of_lt_of_le hi hC.fr.size) (by omega)).trans (hC.fr.block i hi fun q=>q.elim (fun q=>?_) fun q=>by omega);have:=hbb i q;omega
  have hend:a'.defers=[]∧∃v,(results fn a'.tmps).run P w'=.ok v w'∧((∃v',Ending.returned v=.returned v'∧Below w.heap.size w w'∧∀g'':Gh,(∀b,w.heap.size≤b→b<w'.heap.size→g''.I true b)→Rep g'' w' r v')):=by
   obtain⟨v,h1,h2⟩:=fP hrel hres;refine⟨hrel.df,v,h1,v,rfl,hbel,fun g'' hg=>hle _ _ _ ?_⟩;refine Rep.seen (fun o c ho=>(hrel.ob o c ho).2.2.2) ⟨fun hh=>(by cases hh),fun _=>⟨fun b hb=>hg b ?_ (hrel.lt true b hb),fun o ho _=>?_⟩⟩ fuel _ _ _ h2 hreify
   ·rcases hrel.new b hb with⟨q,_⟩|q
    ·exact Nat.le_trans hC.sz q
    ·exact hC.lo b (.inr q)
   ·obtain⟨c,hc⟩:=Option.isSome_iff_exists.1 ho
    obtain⟨q1,q2,q3⟩:=hC.eT hrel hc;exact hg _ q3 q1
  rcases hx with rfl|rfl<;>exact hend
end
def xV (ob:bg) (nx:Nat) (cs:List aJ):bg:=fun o=>if nx≤o∧o<nx+cs.length then cs[o-nx]? else ob o
theorem yV (ob:bg) (nx:Nat):xV ob nx []=ob:=by funext o;unfold xV;rw[if_neg (by simp)]
theorem yX (ob:bg) (nx:Nat) (c d:aJ):xV ob nx [c,d]=upd (upd ob nx (some c)) (nx+1) (some d):=by
 funext o;unfold xV upd;by_cases h:o=nx
 ·subst h
  rw[if_pos (by simp),if_neg (by omega),if_pos rfl];simp
 ·by_cases h2:o=nx+1
  ·subst h2
   rw[if_pos (by simp),if_pos rfl];simp
  ·rw[if_neg (by simp;omega),if_neg h2,if_neg h]
section
variable {P:Program} {N B:Nat} {w00:World}
theorem asg {io:IoS} {w0:World} {g:Gh} {s:AS} {a:Act} {w:World} (h:Rel io w0 N g s a w) (hlt0:∀b,io.wr b→b<w0.heap.size) {f:Nat} {Ψ:aap} (hs:iE P f Ψ) {ps:List PV} {r r':PV} {cs' cs2:List aJ} (hΨ:Ψ ps=some (r,cs')) (hr':jD (s.nx+ ·) fuel r=some r') (hcs2:cs'.mapM (oZ (s.nx+ ·) fuel)=some cs2) {Jm:Nat→Prop} (hJ:∀i,Jm i→i<w.heap.size) {args:Array Value} (hargs:bF (jF Jm) w ps args.toList):
 Calls P f args w fun e w'=>∃v g',e=.returned v∧Fr (fun _=>False) w w'∧Rel io w0 N g' ⟨s.tm,xV s.ob s.nx cs2,s.nx+cs2.length⟩ a w'∧Rep g' w' r' v:=by
 have hl2:=(bf hcs2).1;have hT:jc w (fun b=>∃o,o<([]:List aJ).length∧b=(fun _=>0:Nat→Nat) o):=h.tab.keep h.fr fun t ht ⟨o,ho,_⟩=>by simp at ho
 refine(hs w (fun k b=>k=false∧Jm b) (fun _=>0) (fun _=>0) ps [] args r cs' (by simpa using hΨ) (fun k b hb=>hJ b hb.2) ⟨fun o ho=>by simp at ho,fun o o' ho=>by simp at ho,fun o c ho=>by simp at ho⟩ hT hargs).mono ?_;rintro e w' ⟨v,β',κ',M,rfl,hfr,-,-,hnew,hM,hO',hrep⟩;have hfr':Fr (fun _=>False) w w':=⟨hfr.os,hfr.tape,hfr.output,hfr.size,fun b hb _=>hfr.block b hb fun⟨o,ho,_⟩=>by simp at ho⟩
 let g':Gh:={I:=addN g.I M,β:=fun o=>if o<g.nx then g.β o else β' (o-g.nx),κ:=fun o=>if o<g.nx then g.κ o else κ' (o-g.nx),nx:=g.nx+cs'.length,hole:=fun o=>g.hole o∧o<g.nx}
 have hnx:=h.nx;have hgle:g.le g':=⟨fun _ _ hb=> .inl hb,fun o ho=>⟨Nat.lt_of_lt_of_le ho.1 (Nat.le_add_right _ _),fun q=>ho.2 q.1⟩,fun o ho=>by simp only[g',if_pos ho.1],fun o ho=>by simp only[g',if_pos ho.1]⟩;have hIsame:∀k b,g.I k b→w'.heap[b]?=w.heap[b]?:=fun k b hb=>hfr'.block b (h.lt k b hb) fun q=>q;have hgt:∀i,i<cs'.length→g'.β (s.nx+i)=β' i∧g'.κ (s.nx+i)=κ' i∧g'.D (s.nx+i):=fun i hi=>by
  rw[←hnx];refine⟨?_,?_,?_⟩
  ·simp only[g'];rw[if_neg (by omega),Nat.add_sub_cancel_left]
  ·simp only[g'];rw[if_neg (by omega),Nat.add_sub_cancel_left]
  ·exact⟨by simp only[g'];omega,fun q=>by have:=q.2;omega⟩
 have hTI:∀b,(dG (addN (fun k b=>k=false∧Jm b) M) β' κ' cs'.length).I true b→g'.I true b:=fun b hb=>by
  rcases hb with⟨q,_⟩|hb
  ·cases q
  ·exact .inr hb
 have hTo:∀o,(dG (addN (fun k b=>k=false∧Jm b) M) β' κ' cs'.length).D o→g'.β (s.nx+o)=(dG (addN (fun k b=>k=false∧Jm b) M) β' κ' cs'.length).β o∧g'.κ (s.nx+o)=(dG (addN (fun k b=>k=false∧Jm b) M) β' κ' cs'.length).κ o∧g'.D (s.nx+o):=fun o ho=>hgt o ho.1;have hpl:∀o c0,s.ob o=some c0→g.β o<w.heap.size∧o<s.nx:=fun o c0 hc0=>by obtain⟨hd,_,_,⟨arr,h3,_⟩,_⟩:=h.ob _ _ hc0;exact⟨lt_of_heap h3,by rw[←hnx];exact hd.1⟩
 have hobs:∀o1 c1,xV s.ob s.nx cs2 o1=some c1→(∃i,i<cs'.length∧o1=s.nx+i∧cs2[i]?=some c1)∨(s.ob o1=some c1∧o1<s.nx):=fun o1 c1 h1=>by
  unfold xV at h1;split at h1
  ·rename_i hc
   exact .inl ⟨o1-s.nx,by omega,by omega,h1⟩
  ·exact .inr ⟨h1,(hpl o1 c1 h1).2⟩
 have hβ0:∀o c0,s.ob o=some c0→g'.β o=g.β o:=fun o c0 hc0=>hgle.β o (h.ob o c0 hc0).1;refine⟨v,g',rfl,hfr',⟨h.nt,h.df,fun t=>(h.tm t).mono hgle hIsame,fun o1 c1 h1=>?_,fun o1 o2 h1 h2 he=>?_,?_,?_,?_,?_,?_,?_,?_,h.tab⟩,Rep.jD (g:=dG (addN (fun k b=>k=false∧Jm b) M) β' κ' cs'.length) (g':=g') hTI hTo fuel _ _ _ hrep hr'⟩
 ·rcases hobs o1 c1 h1 with⟨i,hi,rfl,hc1⟩|⟨h2,h3⟩
  ·obtain⟨k1,k2,k3⟩:=hgt i hi
   obtain⟨c0,hc0,hrc⟩:=mapM_at hcs2 hc1;refine⟨k3,.inl ?_,fun k hb=>?_,?_⟩
   ·rw[k1]
    have:=hnew i (Nat.zero_le _) hi;have:=h.fr.size;omega
   ·rw[k1]at hb
    rcases hb with hb|hb
    ·have:=h.lt k _ hb
     have:=hnew i (Nat.zero_le _) hi;omega
    ·exact(hO'.lt i hi).2 k (.inr hb)
   ·obtain⟨⟨arr,m1,m2⟩,m3,m4⟩:=hO'.at_ i c0 hc0
    unfold oZ at hrc;rw[Option.map_eq_some_iff]at hrc;obtain⟨es,h4,rfl⟩:=hrc;have hl:=(bf h4).1;refine⟨⟨arr,by rw[k1];exact m1,by rw[k2];exact m2⟩,by rw[k2];simp only[hl];exact m3,?_⟩;rw[k1];exact bn.conv (g:=dG (addN (fun k b=>k=false∧Jm b) M) β' κ' cs'.length) (g':=g') (Rep.jD (g:=dG (addN (fun k b=>k=false∧Jm b) M) β' κ' cs'.length) (g':=g') hTI hTo fuel) m4 h4
  ·obtain⟨k1,k2,k3,k4⟩:=h.ob o1 c1 h2
   have hβ:=hgle.β o1 k1;have hlt:=(hpl o1 c1 h2).1;refine⟨hgle.D _ k1,by rw[hβ];exact k2,fun k hb=>?_,k4.mono hgle k1 hIsame (hfr'.block _ hlt fun q=>q)⟩;rw[hβ]at hb;rcases hb with hb|⟨_,hb⟩
   ·exact k3 k hb
   ·have:=(hM _ hb).1
    omega
 ·obtain⟨c1,h1⟩:=Option.isSome_iff_exists.1 h1
  obtain⟨c2,h2⟩:=Option.isSome_iff_exists.1 h2;rcases hobs o1 c1 h1 with⟨i,hi,rfl,_⟩|⟨h3,h3'⟩<;>rcases hobs o2 c2 h2 with⟨j,hj,rfl,_⟩|⟨h4,h4'⟩
  ·rw[(hgt i hi).1,(hgt j hj).1]at he
   rw[hO'.inj i j hi hj he]
  ·rw[(hgt i hi).1,hβ0 _ _ h4]at he
   have:=(hpl _ _ h4).1;have:=hnew i (Nat.zero_le _) hi;omega
  ·rw[(hgt j hj).1,hβ0 _ _ h3]at he
   have:=(hpl _ _ h3).1;have:=hnew j (Nat.zero_le _) hj;omega
  ·rw[hβ0 _ _ h3,hβ0 _ _ h4]at he
   exact h.inj _ _ (by rw[h3];rfl) (by rw[h4];rfl) he
 ·show g.nx+cs'.length=s.nx+cs2.length
  omega
 ·intro k b hb
  rcases hb with hb|⟨_,hb⟩
  ·exact Nat.lt_of_lt_of_le (h.lt k b hb) hfr'.size
  ·exact(hM b hb).2
 ·intro b hb
  rcases hb with hb|⟨_,hb⟩
  ·exact h.new b hb
  ·by_cases hio:io b
   ·have:=(hM b hb).1
    have:=h.fr.size;have:=hlt0 b hio;omega
   ·exact .inl ⟨by have:=(hM b hb).1;have:=h.fr.size;omega,hio⟩
 ·exact⟨hfr'.os.trans h.fr.os,hfr'.tape.trans h.fr.tape,hfr'.output.trans h.fr.output,Nat.le_trans h.fr.size hfr'.size,fun b hb hn=>(hfr'.block b (Nat.lt_of_lt_of_le hb h.fr.size) fun q=>q).trans (h.fr.block b hb hn)⟩
 ·intro b hb
  rcases hb with hb|⟨hk,_⟩
  ·exact h.old b hb
  ·cases hk
 ·refine⟨fun o ho=>hgle.D _ (h.fix.1 o ho),fun o ho=>?_⟩
  have hd:=h.fix.1 o ho;rw[hgle.β o hd,hgle.κ o hd];exact h.fix.2 o ho
 ·intro o ho
  obtain⟨q1,q2⟩:=h.hl o ho;exact⟨⟨q1,q2⟩,by show o<g.nx+_;omega⟩
variable {ops:Array Oper} {J:AS→Fgn→Prop} {s:AS} {σ:Fgn}
theorem ZO.aje {o:Oper} {j:Nat} {l:List Oper} {f:Nat} {c:Call} {Ψ:aap} {ps:List PV} {r r':PV} {cs' cs2:List aJ} (ho:o.op=.call c) (hc:c.callee=.value (.func f)) (hf:Fnd P f) (hg:o.guard=none) (hd:∀x,o.dst=some x→x<N) (hs:iE P f Ψ) (hΨ:Ψ ps=some (r,cs')) (hr':jD (s.nx+ ·) fuel r=some r') (hcs2:cs'.mapM (oZ (s.nx+ ·) fuel)=some cs2)
 (hargs:∀a w,Zt P N B w00 s σ a w→∃Jm:Nat→Prop,(∀i,Jm i→i<w.heap.size)∧bF (jF Jm) w ps (c.args.map a.eval).toList)
 (h:ZO P N B w00 ops (j+1) l J (AS.put ⟨s.tm,xV s.ob s.nx cs2,s.nx+cs2.length⟩ o.dst r') σ):ZO P N B w00 ops j (o::l) J s σ:=by
 refine ZO.one hg fun a w hst Kn Q hK=>?_;obtain⟨Jm,hJ,hargs⟩:=hargs a w hst;obtain⟨⟨io,w0,g,hr,hC⟩,hM⟩:=hst;obtain⟨fn,hfn,hname,hbody⟩:=hf;have hrun:(execOp a.eval o).run P w=.ok (.enter f (c.args.map a.eval)) w:=by unfold execOp;simp only[ho,resolve,hc,Act.eval,Deferred.ofValue,Sem.run_bind,Sem.run_pure,Result.andThen_ok,invoke,callFunc,run_program,hfn];simp[hname,hbody]
 unfold Oper.wp;rw[hrun,Oper.upon_enter];refine(asg hr hC.lt hs hΨ hr' hcs2 hJ hargs).mono ?_;rintro e w' ⟨v,g',rfl,hfr,hr2,hrep⟩;exact hK _ _ _ _ ⟨⟨io,w0,g',hr2.put hd hrep,hC⟩,σ.keep w w' (fun i hi=>hfr.block i (Nat.lt_of_lt_of_le (hC.hb i hi) hr.fr.size) fun q=>q) hM⟩ h
theorem ZO.xS {o:Oper} {j:Nat} {l:List Oper} {f:Nat} {c:Call} (ho:o.op=.call c) (hc:c.callee=.value (.func f)) (hf:Fnd P f) (hg:o.guard=none) (hd:∀x,o.dst=some x→x<N) (R:Value→Fgn→Prop)
 (hcall:∀a w,Zt P N B w00 s σ a w→Calls P f (c.args.map a.eval) w fun e w'=>∃v σ',e=.returned v∧R v σ'∧Fr σ'.bk w w'∧(∀i,i<w.heap.size→σ'.bk i→σ.bk i)∧(∀i,σ.bk i→σ'.bk i)∧(∀b,σ'.bk b→b<w'.heap.size)∧σ'.at_ w')
 (h:∀v σ',R v σ'→ZO P N B w00 ops (j+1) l J (s.put o.dst (.val v)) σ'):ZO P N B w00 ops j (o::l) J s σ:=by
 refine ZO.one hg fun a w hst Kn Q hK=>?_;obtain⟨fn,hfn,hname,hbody⟩:=hf;have hrun:(execOp a.eval o).run P w=.ok (.enter f (c.args.map a.eval)) w:=by unfold execOp;simp only[ho,resolve,hc,Act.eval,Deferred.ofValue,Sem.run_bind,Sem.run_pure,Result.andThen_ok,invoke,callFunc,run_program,hfn];simp[hname,hbody]
 unfold Oper.wp;rw[hrun,Oper.upon_enter];refine(hcall a w hst).mono ?_;rintro e w' ⟨v,σ',rfl,hR,h1,h2,h3,h4,h5⟩;exact hK _ _ _ _ ((hst.mR h1 h2 h3 h4 h5).put hd fun g w=>by simp[Rep]) (h v σ' hR)
end
section
variable {P:Program} {N:Nat} {c:Code}
theorem HZ.calls {f:Nat} {fn:Func} {rs:List ResultVar} {ps:List PV} {args:Array Value} {w:World} {σ:Fgn} {Jm:Nat→Prop} (hf:P.funcs[f]?=some fn) (hb:fn.body=some c) (hN:fn.ntmps=N) (hrs:fn.results.toList=rs)
 (hσ:∀b,σ.bk b→b<w.heap.size) (hat:σ.at_ w) (hT:jc w σ.bk) (hJ:∀b,Jm b→b<w.heap.size) (hJσ:∀b,Jm b→¬σ.bk b) (hargs:bF (jF Jm) w ps args.toList) (hlen:ps.length≤N) (R:PV→Fgn→Prop)
 (h:HZ P N w.heap.size w c (fun x s' σ'=>(x=.normal∨x=.ret)∧(∃qs,d9 P s' rs=some qs∧R (eU qs) σ')∧∀i,σ'.bk i→σ.bk i∨w.heap.size≤i) (bM ps) σ):
 Calls P f args w fun e w'=>∃v σ' p g,e=.returned v∧R p σ'∧Rep g w' p v∧Fr σ.bk w w'∧(∀i,σ'.bk i→i<w'.heap.size∧(σ.bk i∨w.heap.size≤i))∧σ'.at_ w':=by
 subst hN hrs;have hT0:jc w (fun _=>False):=hT.io fun _ _ q=>False.elim q;refine calls_of_wp hf hb (CWp.wp (h.go _ _ ⟨⟨_,w,_,abJ hJ hT0 hargs hlen,⟨fun i hi e=>?_,fun i hi=>?_,fun i hi=>False.elim hi,hσ,Nat.le_refl _,Fr.refl _ _,fun t ht=>⟨adZ hT0 t ht,hT.apart t ht⟩⟩⟩,hat⟩ _ fun x s' σ' a' w' hs' hk=>?_))
 ·rcases hi with hi|hi|hi
  ·exact False.elim hi
  ·exact hJσ i hi e
  ·exact False.elim hi
 ·rcases hi with hi|hi<;>exact False.elim hi
 ·obtain⟨hx,⟨qs,hres,hR⟩,hbb⟩:=hk
  obtain⟨⟨io,w0,g,hrel,hC⟩,hM'⟩:=hs';have hf1:Fr (fun i=>σ.bk i∨w.heap.size≤i) w0 w':=⟨hrel.fr.os,hrel.fr.tape,hrel.fr.output,hrel.fr.size,fun i hi hn=>hrel.fr.block i hi fun q=>hn (.inr (hC.lo i (.inl q)))⟩;have hfr:Fr σ.bk w w':=⟨hf1.os.trans hC.fr.os,hf1.tape.trans hC.fr.tape,hf1.output.trans hC.fr.output,Nat.le_trans hC.fr.size hf1.size,fun i hi hn=>by
   refine(hf1.block i (Nat.lt_of_lt_of_le hi hC.fr.size) fun q=>q.elim hn (by omega)).trans (hC.fr.block i hi fun q=>q.elim (fun q=>?_) (by omega));rcases hbb i q with q|q
   ·exact hn q
   ·omega⟩
  have hend:a'.defers=[]∧∃v,(results fn a'.tmps).run P w'=.ok v w'∧(∃v' σ' p g,Ending.returned v=.returned v'∧R p σ'∧Rep g w' p v'∧Fr σ.bk w w'∧(∀i,σ'.bk i→i<w'.heap.size∧(σ.bk i∨w.heap.size≤i))∧σ'.at_ w'):=by obtain⟨v,h1,h2⟩:=fP hrel hres;exact⟨hrel.df,v,h1,v,σ',eU qs,g,rfl,hR,h2,hfr,fun i hi=>⟨Nat.lt_of_lt_of_le (hC.hb i hi) hrel.fr.size,hbb i hi⟩,hM'⟩
  rcases hx with rfl|rfl<;>exact hend
theorem Rel.arV {io:IoS} {w0:World} {g:Gh} {s:AS} {a:Act} {w:World} (h:Rel io w0 N g s a w) {x:Operand} {q:PV} (hq:reify false 0 s.ob fuel (Proofs.Ytmmafcjjlbgnkaa.look s.tm x)=some q):Rep (jF fun i=>i<w.heap.size) w q (a.eval x):=by refine Rep.seen (fr:=false) (n:=0) (s:=s) (g':=jF fun i=>i<w.heap.size) (fun o c ho=>(h.ob o c ho).2.2.2) ⟨fun _=>⟨fun k b hb=>⟨rfl,h.lt k b hb⟩,fun o ho=>⟨rfl,?_⟩⟩,fun e=>by cases e⟩ fuel _ _ _ (h.look x) hq;obtain⟨c,hc⟩:=Option.isSome_iff_exists.1 ho;obtain⟨arr,ha,_⟩:=(h.ob o c hc).2.2.2.1;exact lt_of_heap ha
end
end
end Go.Proofs.Ytmmafcjjlbgnkaa
