/- What the proof rests on, part 6: contracts of functions. No condition beyond what each states. -/
import Derived.Test.YtmmafcjjlbgnkaaGreatZBpE5
namespace Go.Proofs.YtmmafcjjlbgnkaaGreat
open Go.RowKit
set_option linter.all false
set_option maxHeartbeats 32000000
noncomputable section
theorem ax9:bK (.int .i64 0)=.val (.int .i64 0):=rfl
theorem al2:aX Tryz.prog 3=some 1:=by kernel_rfl
theorem ayw:jC Tryz.prog 3=some false:=by kernel_rfl
theorem axF:dX Tryz.prog 3=some 8:=by kernel_rfl
theorem auL:zeroOf Tryz.prog 3=some (.int .i64 0):=by kernel_rfl
theorem axy:Tryz.prog.underlying 3=some (.int .i64):=by kernel_rfl
theorem ayo:bK (.int .i64 0)=.val (.int .i64 0):=rfl
theorem ayx:dY Tryz.prog 3=false:=by kernel_rfl
theorem ayq:isStr Tryz.prog 3=false:=by kernel_rfl
theorem axK:aX Tryz.prog 4=some 1:=by kernel_rfl
theorem ayp:jC Tryz.prog 4=some false:=by kernel_rfl
theorem axQ:Tryz.prog.underlying 4=some .bool:=by kernel_rfl
theorem awJ {x y:Operand} {a b:Bool}:mK Tryz.prog .neq 4 x y (some (.bool a)) (some (.bool b))=some (.val (.bool (!(a==b)))):=aqw axQ
theorem ayu:bK (.bool false)=.val (.bool false):=rfl
theorem ax2:aX Tryz.prog 5=some 1:=by kernel_rfl
theorem ax4:zeroOf Tryz.prog 5=some (.int .u8 0):=by kernel_rfl
theorem avW:Tryz.prog.underlying 5=some (.int .u8):=by kernel_rfl
theorem ayr:bK (.int .u8 0)=.val (.int .u8 0):=rfl
theorem ayz:dY Tryz.prog 5=false:=by kernel_rfl
theorem ayi:isStr Tryz.prog 5=false:=by kernel_rfl
theorem ayv:bK (.agg #[.int .i64 0,.int .i64 0,.bool false,.int .u8 0])=.agg [.val (.int .i64 0),.val (.int .i64 0),.val (.bool false),.val (.int .u8 0)]:=rfl
theorem amT:aX Tryz.prog 9=some 1:=by kernel_rfl
theorem aya:jC Tryz.prog 9=some false:=by kernel_rfl
theorem aw0:dX Tryz.prog 9=some 16:=by kernel_rfl
theorem asn:zeroOf Tryz.prog 9=some (.string ByteArray.empty):=by kernel_rfl
theorem awm:Tryz.prog.underlying 9=some .string:=by kernel_rfl
theorem awp {ty:Nat} {s:ByteArray}:qm Tryz.prog 9 ty (.val (.string s))=some (.val (.int .i64 s.size)):=aup awm
theorem awH {s:ByteArray} {i:Int} (h0:0≤i) (h1:i<s.size):avq Tryz.prog 9 (some (.string s)) (some (.int .i64 i))=some (.val (.int .u8 (at8 s i.toNat))):=atU awm h0 h1
theorem ayh:bK (.string ByteArray.empty)=.val (.string ByteArray.empty):=rfl
theorem ayt:isStr Tryz.prog 9=true:=by kernel_rfl
theorem awO:bK (.int .u64 0)=.val (.int .u64 0):=rfl
theorem avH:bK (.agg #[.string ByteArray.empty,.int .u64 0])=.agg [.val (.string ByteArray.empty),.val (.int .u64 0)]:=rfl
theorem axE:bK (.int .i32 0)=.val (.int .i32 0):=rfl
theorem awX:bK (.agg #[.slice none 0 0,.slice none 0 0,.int .i64 0,.int .i64 0,.int .i64 0])=.agg [.val (.slice none 0 0),.val (.slice none 0 0),.val (.int .i64 0),.val (.int .i64 0),.val (.int .i64 0)]:=rfl
theorem axj:aX Tryz.prog 26=some 5:=by kernel_rfl
theorem aw3:jC Tryz.prog 26=some true:=by kernel_rfl
theorem aur:zeroOf Tryz.prog 26=some (.agg #[.slice none 0 0,.slice none 0 0,.int .i64 0,.int .i64 0,.int .i64 0]):=by kernel_rfl
theorem aqP:aQ Tryz.prog 26 0=some 0:=by kernel_rfl
theorem aoG:aQ Tryz.prog 26 1=some 1:=by kernel_rfl
theorem ang:aQ Tryz.prog 26 2=some 2:=by kernel_rfl
theorem ana:aQ Tryz.prog 26 3=some 3:=by kernel_rfl
theorem anE:aQ Tryz.prog 26 4=some 4:=by kernel_rfl
theorem awY:bK (.agg #[.slice none 0 0,.slice none 0 0,.int .i64 0,.int .i64 0,.int .i64 0])=.agg [.val (.slice none 0 0),.val (.slice none 0 0),.val (.int .i64 0),.val (.int .i64 0),.val (.int .i64 0)]:=rfl
theorem awi {Γ:Ctx} (s:AS) (ρ:Operand→PV):aY Tryz.prog Γ s ρ (.alloc 26)=some (.own s.nx 5 0 0,upd s.ob s.nx (some (26,5,[.agg [.val (.slice none 0 0),.val (.slice none 0 0),.val (.int .i64 0),.val (.int .i64 0),.val (.int .i64 0)]])),s.nx+1):=afq aur (by kernel_rfl) rfl rfl s ρ
theorem avG:aX Tryz.prog 36=some 5:=by kernel_rfl
theorem axx:jC Tryz.prog 36=some true:=by kernel_rfl
theorem aoO:aQ Tryz.prog 36 0=some 0:=by kernel_rfl
theorem anz:aQ Tryz.prog 36 1=some 1:=by kernel_rfl
theorem anM:aQ Tryz.prog 36 2=some 2:=by kernel_rfl
theorem an2:aQ Tryz.prog 36 3=some 3:=by kernel_rfl
theorem aof:aQ Tryz.prog 36 4=some 4:=by kernel_rfl
theorem av8:bK (.agg #[.slice none 0 0,.slice none 0 0,.int .i64 0,.int .i64 0,.int .i64 0])=.agg [.val (.slice none 0 0),.val (.slice none 0 0),.val (.int .i64 0),.val (.int .i64 0),.val (.int .i64 0)]:=rfl
theorem axp:bK (.agg #[.int .i64 0,.int .i64 0,.int .i64 0,.int .i64 0])=.agg [.val (.int .i64 0),.val (.int .i64 0),.val (.int .i64 0),.val (.int .i64 0)]:=rfl
theorem akF:aX Tryz.prog 54=some 4:=by kernel_rfl
theorem av4:jC Tryz.prog 54=some true:=by kernel_rfl
theorem ar4:dX Tryz.prog 54=some 32:=by kernel_rfl
theorem ahK:zeroOf Tryz.prog 54=some (.agg #[.int .i64 0,.int .i64 0,.int .i64 0,.int .i64 0]):=by kernel_rfl
theorem anv:aQ Tryz.prog 54 0=some 0:=by kernel_rfl
theorem aqj:aQ Tryz.prog 54 1=some 1:=by kernel_rfl
theorem apF:aQ Tryz.prog 54 2=some 2:=by kernel_rfl
theorem aoi:aQ Tryz.prog 54 3=some 3:=by kernel_rfl
theorem aui:cO Tryz.prog 54=some #[(0,1),(1,1),(2,1),(3,1)]:=by kernel_rfl
theorem avX (ps:List (Nat×PV)):fB Tryz.prog 54 ps=(kZ (plF [(0,1),(1,1),(2,1),(3,1)]) [.val (.int .i64 0),.val (.int .i64 0),.val (.int .i64 0),.val (.int .i64 0)] ps).map .agg:=aey ahK rfl aui ps
theorem axf:bK (.agg #[.int .i64 0,.int .i64 0,.int .i64 0,.int .i64 0])=.agg [.val (.int .i64 0),.val (.int .i64 0),.val (.int .i64 0),.val (.int .i64 0)]:=rfl
theorem av6 {Γ:Ctx} (s:AS) (ρ:Operand→PV):aY Tryz.prog Γ s ρ (.alloc 54)=some (.own s.nx 4 0 0,upd s.ob s.nx (some (54,4,[.agg [.val (.int .i64 0),.val (.int .i64 0),.val (.int .i64 0),.val (.int .i64 0)]])),s.nx+1):=afq ahK (by kernel_rfl) rfl rfl s ρ
theorem axn {Γ:Ctx} {ob:bn} {ρ:Operand→PV} {ty:Nat}:aV Tryz.prog Γ ob ρ ty (.build 54 #[])=some (.agg [.val (.int .i64 0),.val (.int .i64 0),.val (.int .i64 0),.val (.int .i64 0)]):=(show fB Tryz.prog 54 []=some (.agg [.val (.int .i64 0),.val (.int .i64 0),.val (.int .i64 0),.val (.int .i64 0)])from by kernel_rfl)
theorem aw5:bK (.agg #[.slice none 0 0,.int .i64 0])=.agg [.val (.slice none 0 0),.val (.int .i64 0)]:=rfl
theorem avO:bK (.agg #[.slice none 0 0,.int .i64 0])=.agg [.val (.slice none 0 0),.val (.int .i64 0)]:=rfl
theorem awr:bK (.agg #[.int .i64 0,.bool false,.int .i64 0,.int .i64 0])=.agg [.val (.int .i64 0),.val (.bool false),.val (.int .i64 0),.val (.int .i64 0)]:=rfl
theorem afd:aX Tryz.prog 70=some 4:=by kernel_rfl
theorem axu:jC Tryz.prog 70=some true:=by kernel_rfl
theorem ase:dX Tryz.prog 70=some 32:=by kernel_rfl
theorem aea:zeroOf Tryz.prog 70=some (.agg #[.int .i64 0,.bool false,.int .i64 0,.int .i64 0]):=by kernel_rfl
theorem aqh:aQ Tryz.prog 70 0=some 0:=by kernel_rfl
theorem apQ:aQ Tryz.prog 70 1=some 1:=by kernel_rfl
theorem aoW:aQ Tryz.prog 70 2=some 2:=by kernel_rfl
theorem aqM:aQ Tryz.prog 70 3=some 3:=by kernel_rfl
theorem asc:cO Tryz.prog 70=some #[(0,1),(1,1),(2,1),(3,1)]:=by kernel_rfl
theorem axl (ps:List (Nat×PV)):fB Tryz.prog 70 ps=(kZ (plF [(0,1),(1,1),(2,1),(3,1)]) [.val (.int .i64 0),.val (.bool false),.val (.int .i64 0),.val (.int .i64 0)] ps).map .agg:=aey aea rfl asc ps
theorem aw9:bK (.agg #[.int .i64 0,.bool false,.int .i64 0,.int .i64 0])=.agg [.val (.int .i64 0),.val (.bool false),.val (.int .i64 0),.val (.int .i64 0)]:=rfl
theorem axC {Γ:Ctx} (s:AS) (ρ:Operand→PV):aY Tryz.prog Γ s ρ (.alloc 70)=some (.own s.nx 4 0 0,upd s.ob s.nx (some (70,4,[.agg [.val (.int .i64 0),.val (.bool false),.val (.int .i64 0),.val (.int .i64 0)]])),s.nx+1):=afq aea (by kernel_rfl) rfl rfl s ρ
theorem axb:bK (.agg #[.int .i64 0,.int .i64 0,.int .i64 0,.int .i64 0,.int .i64 0,.int .i64 0,.bool false])=.agg [.val (.int .i64 0),.val (.int .i64 0),.val (.int .i64 0),.val (.int .i64 0),.val (.int .i64 0),.val (.int .i64 0),.val (.bool false)]:=rfl
theorem ae8:aX Tryz.prog 79=some 7:=by kernel_rfl
theorem aww:jC Tryz.prog 79=some true:=by kernel_rfl
theorem atg:dX Tryz.prog 79=some 56:=by kernel_rfl
theorem ab1:zeroOf Tryz.prog 79=some (.agg #[.int .i64 0,.int .i64 0,.int .i64 0,.int .i64 0,.int .i64 0,.int .i64 0,.bool false]):=by kernel_rfl
theorem aqz:aQ Tryz.prog 79 0=some 0:=by kernel_rfl
theorem aqg:aQ Tryz.prog 79 1=some 1:=by kernel_rfl
theorem anq:aQ Tryz.prog 79 2=some 5:=by kernel_rfl
theorem apJ:aQ Tryz.prog 79 3=some 6:=by kernel_rfl
theorem ar0:cO Tryz.prog 79=some #[(0,1),(1,4),(5,1),(6,1)]:=by kernel_rfl
theorem axi (ps:List (Nat×PV)):fB Tryz.prog 79 ps=(kZ (plF [(0,1),(1,4),(5,1),(6,1)]) [.val (.int .i64 0),.val (.int .i64 0),.val (.int .i64 0),.val (.int .i64 0),.val (.int .i64 0),.val (.int .i64 0),.val (.bool false)] ps).map .agg:=aey ab1 rfl ar0 ps
theorem awR:bK (.agg #[.int .i64 0,.int .i64 0,.int .i64 0,.int .i64 0,.int .i64 0,.int .i64 0,.bool false])=.agg [.val (.int .i64 0),.val (.int .i64 0),.val (.int .i64 0),.val (.int .i64 0),.val (.int .i64 0),.val (.int .i64 0),.val (.bool false)]:=rfl
theorem axe {Γ:Ctx} (s:AS) (ρ:Operand→PV):aY Tryz.prog Γ s ρ (.alloc 79)=some (.own s.nx 7 0 0,upd s.ob s.nx (some (79,7,[.agg [.val (.int .i64 0),.val (.int .i64 0),.val (.int .i64 0),.val (.int .i64 0),.val (.int .i64 0),.val (.int .i64 0),.val (.bool false)]])),s.nx+1):=afq ab1 (by kernel_rfl) rfl rfl s ρ
theorem aw8:bK (.agg #[.int .i64 0,.bool false,.int .i64 0])=.agg [.val (.int .i64 0),.val (.bool false),.val (.int .i64 0)]:=rfl
theorem axh:aX Tryz.prog 96=some 3:=by kernel_rfl
theorem axc:jC Tryz.prog 96=some true:=by kernel_rfl
theorem aev:zeroOf Tryz.prog 96=some (.agg #[.int .i64 0,.bool false,.int .i64 0]):=by kernel_rfl
theorem aqN:aQ Tryz.prog 96 0=some 0:=by kernel_rfl
theorem am0:aQ Tryz.prog 96 1=some 1:=by kernel_rfl
theorem ap7:aQ Tryz.prog 96 2=some 2:=by kernel_rfl
theorem asZ:cO Tryz.prog 96=some #[(0,1),(1,1),(2,1)]:=by kernel_rfl
theorem awZ (ps:List (Nat×PV)):fB Tryz.prog 96 ps=(kZ (plF [(0,1),(1,1),(2,1)]) [.val (.int .i64 0),.val (.bool false),.val (.int .i64 0)] ps).map .agg:=aey aev rfl asZ ps
theorem awV:bK (.agg #[.int .i64 0,.bool false,.int .i64 0])=.agg [.val (.int .i64 0),.val (.bool false),.val (.int .i64 0)]:=rfl
theorem avF {Γ:Ctx} (s:AS) (ρ:Operand→PV):aY Tryz.prog Γ s ρ (.alloc 96)=some (.own s.nx 3 0 0,upd s.ob s.nx (some (96,3,[.agg [.val (.int .i64 0),.val (.bool false),.val (.int .i64 0)]])),s.nx+1):=afq aev (by kernel_rfl) rfl rfl s ρ
theorem awu {Γ:Ctx} {ob:bn} {ρ:Operand→PV} {ty:Nat}:aV Tryz.prog Γ ob ρ ty (.build 96 #[])=some (.agg [.val (.int .i64 0),.val (.bool false),.val (.int .i64 0)]):=(show fB Tryz.prog 96 []=some (.agg [.val (.int .i64 0),.val (.bool false),.val (.int .i64 0)])from by kernel_rfl)
theorem atE:Tryz.prog.underlying 96=some (.struct (Go.Program.fieldsOf Tryz.prog 96)):=by kernel_rfl
theorem aw1:bK (.agg #[.int .i64 0,.int .i64 0,.bool false,.int .i64 0])=.agg [.val (.int .i64 0),.val (.int .i64 0),.val (.bool false),.val (.int .i64 0)]:=rfl
theorem av5:aX Tryz.prog 98=some 4:=by kernel_rfl
theorem avL:jC Tryz.prog 98=some true:=by kernel_rfl
theorem aeX:zeroOf Tryz.prog 98=some (.agg #[.int .i64 0,.int .i64 0,.bool false,.int .i64 0]):=by kernel_rfl
theorem anS:aQ Tryz.prog 98 0=some 0:=by kernel_rfl
theorem am5:aQ Tryz.prog 98 1=some 1:=by kernel_rfl
theorem au5:cO Tryz.prog 98=some #[(0,1),(1,3)]:=by kernel_rfl
theorem axD (ps:List (Nat×PV)):fB Tryz.prog 98 ps=(kZ (plF [(0,1),(1,3)]) [.val (.int .i64 0),.val (.int .i64 0),.val (.bool false),.val (.int .i64 0)] ps).map .agg:=aey aeX rfl au5 ps
theorem av0:bK (.agg #[.int .i64 0,.int .i64 0,.bool false,.int .i64 0])=.agg [.val (.int .i64 0),.val (.int .i64 0),.val (.bool false),.val (.int .i64 0)]:=rfl
theorem awz {Γ:Ctx} (s:AS) (ρ:Operand→PV):aY Tryz.prog Γ s ρ (.alloc 98)=some (.own s.nx 4 0 0,upd s.ob s.nx (some (98,4,[.agg [.val (.int .i64 0),.val (.int .i64 0),.val (.bool false),.val (.int .i64 0)]])),s.nx+1):=afq aeX (by kernel_rfl) rfl rfl s ρ
theorem avM {Γ:Ctx} {ob:bn} {ρ:Operand→PV} {ty:Nat}:aV Tryz.prog Γ ob ρ ty (.build 98 #[])=some (.agg [.val (.int .i64 0),.val (.int .i64 0),.val (.bool false),.val (.int .i64 0)]):=(show fB Tryz.prog 98 []=some (.agg [.val (.int .i64 0),.val (.int .i64 0),.val (.bool false),.val (.int .i64 0)])from by kernel_rfl)
theorem ahz:aX Tryz.prog 104=some 4:=by kernel_rfl
theorem ams:dX Tryz.prog 104=some 4:=by kernel_rfl
theorem amA:zeroOf Tryz.prog 104=some (.agg #[.bool false,.bool false,.bool false,.bool false]):=by kernel_rfl
theorem al5:Tryz.prog.underlying 104=some (.array 4 4):=by kernel_rfl
theorem apT {o sz j f:Nat} {i:Int} (h0:0≤i) (h1:i<4):aG Tryz.prog 104 (.own o sz j f) i=some (.own o sz j (f+i.toNat)):=by rw[amr al5 axK h0 h1,Nat.mul_one]
theorem as6:bK (.agg #[.bool false,.bool false,.bool false,.bool false])=.agg [.val (.bool false),.val (.bool false),.val (.bool false),.val (.bool false)]:=rfl
theorem ai8:aX Tryz.prog 110=some 4:=by kernel_rfl
theorem amx:dX Tryz.prog 110=some 32:=by kernel_rfl
theorem amJ:zeroOf Tryz.prog 110=some (.agg #[.int .i64 0,.int .i64 0,.int .i64 0,.int .i64 0]):=by kernel_rfl
theorem ame:Tryz.prog.underlying 110=some (.array 4 3):=by kernel_rfl
theorem apZ {o sz j f:Nat} {i:Int} (h0:0≤i) (h1:i<4):aG Tryz.prog 110 (.own o sz j f) i=some (.own o sz j (f+i.toNat)):=by rw[amr ame al2 h0 h1,Nat.mul_one]
theorem ata:bK (.agg #[.int .i64 0,.int .i64 0,.int .i64 0,.int .i64 0])=.agg [.val (.int .i64 0),.val (.int .i64 0),.val (.int .i64 0),.val (.int .i64 0)]:=rfl
theorem avj:bK (.int .u32 0)=.val (.int .u32 0):=rfl
theorem asM:bX Tryz.prog 22=some 5:=by kernel_rfl
theorem awC:bK (.slice none 0 0)=.val (.slice none 0 0):=rfl
theorem awQ:dY Tryz.prog 22=true:=by kernel_rfl
theorem aa5:aX Tryz.prog 24=some 1:=by kernel_rfl
theorem avQ:jC Tryz.prog 24=some false:=by kernel_rfl
theorem aot:dX Tryz.prog 24=some 24:=by kernel_rfl
theorem agF:zeroOf Tryz.prog 24=some (.slice none 0 0):=by kernel_rfl
theorem aiW:Tryz.prog.underlying 24=some (.slice 9):=by kernel_rfl
theorem abq:bX Tryz.prog 24=some 9:=by kernel_rfl
theorem awn {k:Bool} {es:List PV} {i:Int} (h0:0≤i) (h1:i<(es.length:Int)):aG Tryz.prog 24 (.lst k 1 es) i=some (.ptr k ((es[i.toNat]?).getD .dead) 0):=uO aiW amT h0 h1
theorem asR {o j n:Nat} {i:Int} (h0:0≤i) (h1:i<(n:Int)):aG Tryz.prog 24 (.row o 1 j n) i=some (.own o 1 (j+i.toNat) 0):=ze aiW amT h0 h1
theorem av9 {k:Bool} {es:List PV} {lo hi:Option Int} (h0:0≤lo.getD 0) (h1:lo.getD 0≤hi.getD es.length) (h2:hi.getD es.length≤es.length):je Tryz.prog 24 (.lst k 1 es) lo hi=some (.lst k 1 ((es.drop (lo.getD 0).toNat).take ((hi.getD es.length).toNat-(lo.getD 0).toNat))):=amy aiW amT h0 h1 h2
theorem arX {ty sz:Nat} {k:Bool} {es:List PV}:qm Tryz.prog 24 ty (.lst k sz es)=some (.val (.int .i64 es.length)):=uy abq
theorem asF {ty o sz i n:Nat}:qm Tryz.prog 24 ty (.row o sz i n)=some (.val (.int .i64 n)):=ady abq
theorem arB {ty:Nat}:qm Tryz.prog 24 ty (.val (.slice none 0 0))=some (.val (.int .i64 0)):=aiw aiW
theorem awt:bK (.slice none 0 0)=.val (.slice none 0 0):=rfl
theorem av2 {Γ:Ctx} (s:AS) (ρ:Operand→PV) (l c:Operand):aY Tryz.prog Γ s ρ (.makeSlice 24 l c)=ajQ 9 1 16 (.string ByteArray.empty) s (ρ l) (ρ c):=ai5 abq asn amT aw0 (by kernel_rfl) rfl s ρ l c
theorem auK {Γ:Ctx} (s:AS) (ρ:Operand→PV) (x y:Operand):aY Tryz.prog Γ s ρ (.call {callee:=.builtin .append,args:=#[x,y],argTypes:=#[24,24]})=afx 9 1 16 s.nx s.ob (ρ x) (aal s.ob (ρ x)) (bB s.ob 1 (ρ y)):=u7 abq asn amT aw0 (by decide) rfl s ρ x y
theorem ao9:Tryz.prog.underlying 30=some (.slice 3):=by kernel_rfl
theorem aa8:bX Tryz.prog 30=some 3:=by kernel_rfl
theorem avK {k:Bool} {es:List PV} {i:Int} (h0:0≤i) (h1:i<(es.length:Int)):aG Tryz.prog 30 (.lst k 1 es) i=some (.ptr k ((es[i.toNat]?).getD .dead) 0):=uO ao9 al2 h0 h1
theorem atr {o j n:Nat} {i:Int} (h0:0≤i) (h1:i<(n:Int)):aG Tryz.prog 30 (.row o 1 j n) i=some (.own o 1 (j+i.toNat) 0):=ze ao9 al2 h0 h1
theorem asl {ty sz:Nat} {k:Bool} {es:List PV}:qm Tryz.prog 30 ty (.lst k sz es)=some (.val (.int .i64 es.length)):=uy aa8
theorem atA {ty o sz i n:Nat}:qm Tryz.prog 30 ty (.row o sz i n)=some (.val (.int .i64 n)):=ady aa8
theorem av1:bK (.slice none 0 0)=.val (.slice none 0 0):=rfl
theorem axv {Γ:Ctx} (s:AS) (ρ:Operand→PV) (l c:Operand):aY Tryz.prog Γ s ρ (.makeSlice 30 l c)=ajQ 3 1 8 (.int .i64 0) s (ρ l) (ρ c):=ai5 aa8 auL al2 axF (by kernel_rfl) rfl s ρ l c
theorem auI {Γ:Ctx} (s:AS) (ρ:Operand→PV) (x y:Operand):aY Tryz.prog Γ s ρ (.call {callee:=.builtin .append,args:=#[x,y],argTypes:=#[30,30]})=afx 3 1 8 s.nx s.ob (ρ x) (aal s.ob (ρ x)) (bB s.ob 1 (ρ y)):=u7 aa8 auL al2 axF (by decide) rfl s ρ x y
theorem ajv:Tryz.prog.underlying 49=some (.slice 70):=by kernel_rfl
theorem ad8:bX Tryz.prog 49=some 70:=by kernel_rfl
theorem axJ {k:Bool} {es:List PV} {i:Int} (h0:0≤i) (h1:i<(es.length:Int)):aG Tryz.prog 49 (.lst k 4 es) i=some (.ptr k ((es[i.toNat]?).getD .dead) 0):=uO ajv afd h0 h1
theorem avT {k:Bool} {es:List PV} {lo hi:Option Int} (h0:0≤lo.getD 0) (h1:lo.getD 0≤hi.getD es.length) (h2:hi.getD es.length≤es.length):je Tryz.prog 49 (.lst k 4 es) lo hi=some (.lst k 4 ((es.drop (lo.getD 0).toNat).take ((hi.getD es.length).toNat-(lo.getD 0).toNat))):=amy ajv afd h0 h1 h2
theorem arW {ty sz:Nat} {k:Bool} {es:List PV}:qm Tryz.prog 49 ty (.lst k sz es)=some (.val (.int .i64 es.length)):=uy ad8
theorem ars {ty o sz i n:Nat}:qm Tryz.prog 49 ty (.row o sz i n)=some (.val (.int .i64 n)):=ady ad8
theorem asz {ty:Nat}:qm Tryz.prog 49 ty (.val (.slice none 0 0))=some (.val (.int .i64 0)):=aiw ajv
theorem awT:bK (.slice none 0 0)=.val (.slice none 0 0):=rfl
theorem atL {Γ:Ctx} (s:AS) (ρ:Operand→PV) (x y:Operand):aY Tryz.prog Γ s ρ (.call {callee:=.builtin .append,args:=#[x,y],argTypes:=#[49,49]})=afx 70 4 32 s.nx s.ob (ρ x) (aal s.ob (ρ x)) (bB s.ob 4 (ρ y)):=u7 ad8 aea afd ase (by decide) rfl s ρ x y
theorem awK:aX Tryz.prog 73=some 1:=by kernel_rfl
theorem avI:jC Tryz.prog 73=some false:=by kernel_rfl
theorem arl:Tryz.prog.underlying 73=some (.slice 79):=by kernel_rfl
theorem abD:bX Tryz.prog 73=some 79:=by kernel_rfl
theorem awD {k:Bool} {es:List PV} {i:Int} (h0:0≤i) (h1:i<(es.length:Int)):aG Tryz.prog 73 (.lst k 7 es) i=some (.ptr k ((es[i.toNat]?).getD .dead) 0):=uO arl ae8 h0 h1
theorem ard {ty sz:Nat} {k:Bool} {es:List PV}:qm Tryz.prog 73 ty (.lst k sz es)=some (.val (.int .i64 es.length)):=uy abD
theorem as5 {ty o sz i n:Nat}:qm Tryz.prog 73 ty (.row o sz i n)=some (.val (.int .i64 n)):=ady abD
theorem awk:bK (.slice none 0 0)=.val (.slice none 0 0):=rfl
theorem ari {Γ:Ctx} (s:AS) (ρ:Operand→PV) (x y:Operand):aY Tryz.prog Γ s ρ (.call {callee:=.builtin .append,args:=#[x,y],argTypes:=#[73,73]})=afx 79 7 56 s.nx s.ob (ρ x) (aal s.ob (ρ x)) (bB s.ob 7 (ρ y)):=u7 abD ab1 ae8 atg (by decide) rfl s ρ x y
theorem al7:Tryz.prog.underlying 102=some (.slice 110):=by kernel_rfl
theorem amd:bX Tryz.prog 102=some 110:=by kernel_rfl
theorem ao4 {o j n:Nat} {i:Int} (h0:0≤i) (h1:i<(n:Int)):aG Tryz.prog 102 (.row o 4 j n) i=some (.own o 4 (j+i.toNat) 0):=ze al7 ai8 h0 h1
theorem avi:bK (.slice none 0 0)=.val (.slice none 0 0):=rfl
theorem asN {Γ:Ctx} (s:AS) (ρ:Operand→PV) (l c:Operand):aY Tryz.prog Γ s ρ (.makeSlice 102 l c)=ajQ 110 4 32 (.agg #[.int .i64 0,.int .i64 0,.int .i64 0,.int .i64 0]) s (ρ l) (ρ c):=ai5 amd amJ ai8 amx (by kernel_rfl) rfl s ρ l c
theorem amC:Tryz.prog.underlying 103=some (.slice 104):=by kernel_rfl
theorem alZ:bX Tryz.prog 103=some 104:=by kernel_rfl
theorem an0 {o j n:Nat} {i:Int} (h0:0≤i) (h1:i<(n:Int)):aG Tryz.prog 103 (.row o 4 j n) i=some (.own o 4 (j+i.toNat) 0):=ze amC ahz h0 h1
theorem arY:bK (.slice none 0 0)=.val (.slice none 0 0):=rfl
theorem at7 {Γ:Ctx} (s:AS) (ρ:Operand→PV) (l c:Operand):aY Tryz.prog Γ s ρ (.makeSlice 103 l c)=ajQ 104 4 4 (.agg #[.bool false,.bool false,.bool false,.bool false]) s (ρ l) (ρ c):=ai5 alZ amA ahz ams (by kernel_rfl) rfl s ρ l c
theorem amt:Tryz.prog.underlying 133=some (.slice 54):=by kernel_rfl
theorem adi:bX Tryz.prog 133=some 54:=by kernel_rfl
theorem arC {k:Bool} {es:List PV} {i:Int} (h0:0≤i) (h1:i<(es.length:Int)):aG Tryz.prog 133 (.lst k 4 es) i=some (.ptr k ((es[i.toNat]?).getD .dead) 0):=uO amt akF h0 h1
theorem aqx {ty sz:Nat} {k:Bool} {es:List PV}:qm Tryz.prog 133 ty (.lst k sz es)=some (.val (.int .i64 es.length)):=uy adi
theorem asQ:bK (.slice none 0 0)=.val (.slice none 0 0):=rfl
theorem ape {Γ:Ctx} (s:AS) (ρ:Operand→PV) (x y:Operand):aY Tryz.prog Γ s ρ (.call {callee:=.builtin .append,args:=#[x,y],argTypes:=#[133,133]})=afx 54 4 32 s.nx s.ob (ρ x) (aal s.ob (ρ x)) (bB s.ob 4 (ρ y)):=u7 adi ahK akF ar4 (by decide) rfl s ρ x y
theorem avU:aX Tryz.prog 23=some 1:=by kernel_rfl
theorem awy:jC Tryz.prog 23=some false:=by kernel_rfl
theorem aks:Tryz.prog.underlying 23=some (.slice 24):=by kernel_rfl
theorem adZ:bX Tryz.prog 23=some 24:=by kernel_rfl
theorem awg {k:Bool} {es:List PV} {i:Int} (h0:0≤i) (h1:i<(es.length:Int)):aG Tryz.prog 23 (.lst k 1 es) i=some (.ptr k ((es[i.toNat]?).getD .dead) 0):=uO aks aa5 h0 h1
theorem arO {o j n:Nat} {i:Int} (h0:0≤i) (h1:i<(n:Int)):aG Tryz.prog 23 (.row o 1 j n) i=some (.own o 1 (j+i.toNat) 0):=ze aks aa5 h0 h1
theorem auq {ty sz:Nat} {k:Bool} {es:List PV}:qm Tryz.prog 23 ty (.lst k sz es)=some (.val (.int .i64 es.length)):=uy adZ
theorem ar7 {ty:Nat}:qm Tryz.prog 23 ty (.val (.slice none 0 0))=some (.val (.int .i64 0)):=aiw aks
theorem awx:bK (.slice none 0 0)=.val (.slice none 0 0):=rfl
theorem awd {Γ:Ctx} (s:AS) (ρ:Operand→PV) (l c:Operand):aY Tryz.prog Γ s ρ (.makeSlice 23 l c)=ajQ 24 1 24 (.slice none 0 0) s (ρ l) (ρ c):=ai5 adZ agF aa5 aot (by kernel_rfl) rfl s ρ l c
theorem arj {Γ:Ctx} (s:AS) (ρ:Operand→PV) (x y:Operand):aY Tryz.prog Γ s ρ (.call {callee:=.builtin .append,args:=#[x,y],argTypes:=#[23,23]})=afx 24 1 24 s.nx s.ob (ρ x) (aal s.ob (ρ x)) (bB s.ob 1 (ρ y)):=u7 adZ agF aa5 aot (by decide) rfl s ρ x y
theorem aqS {k:IntKind} {n:Int} {es:Option (List PV)}:zL Tryz.prog 3 5 false es (some (.int k n))=some (.val (.int .u8 (IntKind.u8.wrap n))):=amV axy avW
theorem apR {k:IntKind} {n:Int} {es:Option (List PV)}:zL Tryz.prog 5 3 false es (some (.int k n))=some (.val (.int .i64 (IntKind.i64.wrap n))):=amV avW axy
theorem aqA {a0:PV}:iC Tryz.prog 22 1 [(0,a0)]=aam 5 1 [a0] (okP 1 a0&&(true)):=pz asM ax2 ax4 _ (by decide) (by decide) rfl
theorem aoC:iC Tryz.prog 23 0 []=aam 24 1 [] (true):=pz adZ aa5 agF _ (by decide) (by decide) rfl
theorem an3 {a0:PV}:iC Tryz.prog 23 1 [(0,a0)]=aam 24 1 [a0] (okP 1 a0&&(true)):=pz adZ aa5 agF _ (by decide) (by decide) rfl
theorem ant:iC Tryz.prog 24 0 []=aam 9 1 [] (true):=pz abq amT asn _ (by decide) (by decide) rfl
theorem ao1 {a0:PV}:iC Tryz.prog 24 1 [(0,a0)]=aam 9 1 [a0] (okP 1 a0&&(true)):=pz abq amT asn _ (by decide) (by decide) rfl
theorem anY:iC Tryz.prog 30 0 []=aam 3 1 [] (true):=pz aa8 al2 auL _ (by decide) (by decide) rfl
theorem an7 {a0:PV}:iC Tryz.prog 30 1 [(0,a0)]=aam 3 1 [a0] (okP 1 a0&&(true)):=pz aa8 al2 auL _ (by decide) (by decide) rfl
theorem aoI:iC Tryz.prog 49 0 []=aam 70 4 [] (true):=pz ad8 afd aea _ (by decide) (by decide) rfl
theorem aqr {a0:PV}:iC Tryz.prog 49 1 [(0,a0)]=aam 70 4 [a0] (okP 4 a0&&(true)):=pz ad8 afd aea _ (by decide) (by decide) rfl
theorem aoL:iC Tryz.prog 73 0 []=aam 79 7 [] (true):=pz abD ae8 ab1 _ (by decide) (by decide) rfl
theorem am8 {a0:PV}:iC Tryz.prog 73 1 [(0,a0)]=aam 79 7 [a0] (okP 7 a0&&(true)):=pz abD ae8 ab1 _ (by decide) (by decide) rfl
theorem aqd {a0 a1 a2:PV}:iC Tryz.prog 73 3 [(0,a0),(1,a1),(2,a2)]=aam 79 7 [a0,a1,a2] (okP 7 a0&&(okP 7 a1&&(okP 7 a2&&(true)))):=pz abD ae8 ab1 _ (by decide) (by decide) rfl
theorem ajE {a0:PV}:iC Tryz.prog 133 1 [(0,a0)]=aam 54 4 [a0] (okP 4 a0&&(true)):=pz adi akF ahK _ (by decide) (by decide) rfl
theorem mixed:Tryz.prog.follows .mixedOrders=true:=by kernel_rfl
attribute[push_cast high]
 axn awu avM
attribute[push_cast]
 ax9 al2 ayw axF auL axy ayo ayx ayq axK ayp axQ awJ ayu ax2 ax4 avW ayr ayz ayi ayv amT aya aw0 asn awm awp awH ayh ayt awO avH axE awX axj aw3 aur aqP aoG ang ana anE awY awi avG axx aoO anz anM an2 aof av8 axp akF av4 ar4 ahK anv aqj apF aoi aui avX axf av6 aw5 avO awr afd axu ase aea aqh apQ aoW aqM asc axl aw9 axC axb ae8 aww atg ab1 aqz aqg anq apJ ar0 axi awR axe aw8 axh axc aev aqN am0 ap7 asZ awZ awV avF aw1 av5 avL aeX anS am5 au5 axD av0 awz ahz ams amA al5 apT as6 ai8 amx amJ ame apZ ata avj asM awC awQ aa5 avQ aot agF aiW abq awn asR av9 arX asF arB awt av2 auK ao9 aa8 avK atr asl atA av1 axv auI ajv ad8 axJ avT arW ars asz awT atL awK avI arl abD awD ard as5 awk ari al7 amd ao4 avi asN amC alZ an0 arY at7 amt adi arC aqx asQ ape avU awy aks adZ awg arO auq ar7 awx awd arj aqS apR aqA aoC an3 ant ao1 anY an7 aoI aqr aoL am8 aqd ajE
end
end Go.Proofs.YtmmafcjjlbgnkaaGreat
namespace Go.Proofs
open Go.Shelf
def YtmmafcjjlbgnkaaGreat.abu:Go.Shelf.Ren:=⟨fun|137=>118|217=>124|266=>126|n=>n,fun|9=>9|5=>5|3=>3|n=>n,fun|n=>n⟩
theorem YtmmafcjjlbgnkaaGreat.aoN:Go.Proofs.Lays.n137 Tryz.prog YtmmafcjjlbgnkaaGreat.abu:={
 mixed:=by kernel_rfl
 f137:=Tryz.func118.trans (congrArg some (by kernel_rfl))
 f217:=Tryz.func124.trans (congrArg some (by kernel_rfl))
 f266:=Tryz.func126.trans (congrArg some (by kernel_rfl))
 t3:=Tryz.underlying3
 a3:=Tryz.isAgg3
 z3:=Tryz.sizeOf3
 v3:=Tryz.zeroValue3
 t5:=Tryz.underlying5
 a5:=Tryz.isAgg5
 z5:=Tryz.sizeOf5
 v5:=Tryz.zeroValue5
 t9:=Tryz.underlying9
 a9:=Tryz.isAgg9
 z9:=Tryz.sizeOf9
 v9:=Tryz.zeroValue9}
open Go.RowKit in
theorem YtmmafcjjlbgnkaaGreat.strings_IndexByte (s:ByteArray) (c:Int) (w:World):
 Calls Tryz.prog 118 #[.string s,.int .u8 c] w fun e w'=>e=.returned (.int .i64 (Lib.indexByte s.data.toList c.toNat.toUInt8))∧w'=w:=Any.strings_IndexByte YtmmafcjjlbgnkaaGreat.aoN s c w
end Go.Proofs
namespace Go.Proofs.YtmmafcjjlbgnkaaGreat
open Go.RowKit
set_option linter.all false
set_option maxHeartbeats 32000000
noncomputable section
def PV.le (p q:PV):Prop:=∀(g:Gh) (w:World) (v:Value),Rep g w p v→Rep g w q v
theorem PV.le_refl (p:PV):p.le p:=fun _ _ _ h=>h
theorem nil_le (k:Bool) (sz:Nat):(PV.val (.slice none 0 0)).le (.lst k sz []):=fun g w v h=>by simp only[Rep]at h⊢;subst h;exact⟨none,0,rfl,Nat.le_refl _,by omega,.inl trivial⟩
def leL:List PV→List PV→Prop
 |[],[]=>True
 |p::ps,q::qs=>p.le q∧leL ps qs
 |_,_=>False
theorem acp:∀(l:List PV),leL l l
 |[]=>trivial
 |p::l=>⟨p.le_refl,acp l⟩
theorem aaW {g:Gh} {w:World}:∀{ps qs:List PV} {vs:List Value},leL ps qs→bI g w ps vs→bI g w qs vs
 |[],[],vs,_,h=>h
 |p::ps,q::qs,vs,hl,h=>by simp only[bI]at h⊢;obtain⟨v,vs',rfl,h1,h2⟩:=h;exact⟨v,vs',rfl,hl.1 _ _ _ h1,aaW hl.2 h2⟩
 |[],_::_,vs,hl,_=>hl.elim
 |_::_,[],vs,hl,_=>hl.elim
theorem oD {ps qs:List PV} (h:leL ps qs):(PV.tup ps).le (.tup qs):=fun g w v hv=>by simp only[Rep]at hv⊢;obtain⟨vs,rfl,h1⟩:=hv;exact⟨vs,rfl,aaW h h1⟩
theorem Sound.weak {P:Program} {f:Nat} {φ φ':Fun} (h:Sound P f φ) (hw:∀ps r,φ' ps=some r→∃ps' r',leL ps ps'∧φ ps'=some r'∧r'.le r):Sound P f φ':=by intro w J ps args r hr hJ hT hargs;obtain⟨ps',r',h1,h2,h3⟩:=hw ps r hr;refine(h w J ps' args r' h2 hJ hT (aaW h1 hargs)).mono ?_;rintro e w' ⟨v,rfl,hb,hrep⟩;exact⟨v,rfl,hb,fun g' hg=>h3 _ _ _ (hrep g' hg)⟩
def nrm (sz:Nat):PV→PV
 | .val (.slice none 0 0)=> .lst false sz []
 |p=>p
theorem arN (sz:Nat) (p:PV):p.le (nrm sz p):=by
 unfold nrm;split
 ·exact nil_le _ _
 ·exact p.le_refl
theorem afX (sz:Nat):∀ps:List PV,leL ps (ps.map (nrm sz))
 |[]=>trivial
 |p::ps=>⟨arN sz p,afX sz ps⟩
def axq (sz:Nat) (φ:Fun):Fun:=fun ps=>φ (ps.map (nrm sz))
theorem Sound.nil {P:Program} {f:Nat} {φ:Fun} (h:Sound P f φ) (sz:Nat):Sound P f (axq sz φ):=
 h.weak fun ps r hr=>⟨_,r,afX sz ps,hr,PV.le_refl _⟩
section
variable {P:Program} {Γ:Ctx}
theorem fU (hm:P.follows .mixedOrders=true) {f:Nat} {fn:Func} {c:Code} {φ:Fun} (hΓ:au P Γ) (hf:P.funcs[f]?=some fn) (hb:fn.body=some c) (N:Nat) (hN:fn.ntmps=N) (rs:List ResultVar) (hrs:fn.results.toList=rs) (hc:codeOk Γ true N c=true)
 (h:∀ps r,φ ps=some r→ps.length≤N∧pq P Γ N c (fun x s'=>∃r',r'.le r∧Post P rs r' x s') (bM ps).tm (fun _=>none) 0):Sound P f φ:=by
 obtain⟨φ',h1,h2⟩:=yT hm hΓ hf hb N hN rs hrs hc (fun ps=>∃r,φ ps=some r) (fun ps r'=>∀r,φ ps=some r→r'.le r) (fun ps ⟨r,hr⟩=>(h ps r hr).1) (fun ps ⟨r,hr⟩=>by refine aiT (fun x s' hx=>?_) _ _ (h ps r hr).2;obtain⟨r',k1,k2⟩:=hx;exact⟨r',fun r1 hr1=>by rw[hr]at hr1;cases hr1;exact k1,k2⟩)
 refine h1.weak fun ps r hr=>?_;obtain⟨r',k1,k2⟩:=h2 ps ⟨r,hr⟩;exact⟨ps,r',acp _,k1,k2 r hr⟩
theorem bS {rs:List ResultVar} {r r':PV} {tm:Nat→PV} {ob:bn} {nx:Nat} {x:X} (hx:x=.normal∨x=.ret) (h:((eY P ⟨tm,ob,nx⟩ rs).bind fun qs=>reify true 0 ob fuel (fG qs))=some r') (hl:r'.le r):∃r',r'.le r∧Post P rs r' x ⟨tm,ob,nx⟩:=⟨r',hl,hx,h⟩
end
theorem aeR {n f sz:Nat} {ob:bn} {k:Bool}:reify false n ob (f+1) (.lst k sz [])=some (.lst false sz []):=by simp[reify]
attribute[push_cast]
 aeR
def nP (sz:Nat) (es:List PV) (x:Nat):PV:=match es with|[]=> .val (.slice none 0 0)|_::_=> .row x sz 0 es.length
def nO (T sz:Nat) (es:List PV) (x:Nat):List (Nat×aU):=match es with|[]=>[]|_::_=>[(x,T,sz,es)]
theorem eG {sz x:Nat}:nP sz [] x=.val (.slice none 0 0):=rfl
theorem dM {T sz x:Nat}:nO T sz [] x=[]:=rfl
theorem aA {sz x:Nat} {es:List PV} (h:0<es.length):nP sz es x=.row x sz 0 es.length:=by
 cases es with
 |nil=>simp at h
 |cons e es=>rfl
theorem aD {T sz x:Nat} {es:List PV} (h:0<es.length):nO T sz es x=[(x,T,sz,es)]:=by
 cases es with
 |nil=>simp at h
 |cons e es=>rfl
attribute[push_cast]
 eG dM
attribute[push_cast low]
 aA aD
theorem amZ {P:Program} {t:Nat} {x y:Operand} {a b:ByteArray} (h:a.size+b.size≤9223372036854775807):mK P .add t x y (some (.string a)) (some (.string b))=some (.val (.string (a++b))):=by
 have h2:¬(((a.size+b.size:Nat):Int)>IntKind.i64.max):=by
  have:IntKind.i64.max=9223372036854775807:=by decide
  rw[this];omega
 have:av P (do eqGuard .add t x y (.string a) (.string b);binOp .add t (.string a) (.string b))=some (.string (a++b)):=by
  show av P (Op.stringOp .add a b)=_;unfold Op.stringOp;dsimp only
  rw[if_neg h2];rfl
 simp only[mK,this,Option.map_some]
theorem size_push (ns:List Int) (r:ByteArray):(ns.foldl (fun r n=>r.push (UInt8.ofNat n.toNat)) r).size=r.size+ns.length:=by
 induction ns generalizing r with
 |nil=>simp
 |cons n ns ih=>rw[List.foldl_cons,ih,List.length_cons,ByteArray.size_push];omega
theorem pX (ns:List Int):(bytesOf ns).size=ns.length:=by unfold bytesOf;rw[size_push];simp
attribute[push_cast]
 amZ pX ByteArray.size_append iQ
theorem afn {out:List Nat} {ob:bn} {l:List PV}:l.mapM (cZ out ob fuel)=l.mapM (cZ out ob 8):=rfl
attribute[push_cast]
 afn
abbrev afk:=List PV→Option (PV×List aU)
def jW (P:Program) (f:Nat) (Ψ:afk):Prop:=eO P f fun ps cs=>if cs=[]then Ψ ps else none
def lK (nm:Nat→Nat):Nat→PV→Option PV
 |0,_=>none
 |n+1,p=>match p with
  | .val v=>some (.val v)
  | .dead=>some .dead
  | .lst k sz es=>if k=false∧es≠[]then none else(es.mapM (lK nm n)).map (.lst k sz)
  | .ptr k e o=>if k=false then none else(lK nm n e).map (.ptr k · o)
  | .own o sz i f=>some (.own (nm o) sz i f)
  | .row o sz i m=>some (.row (nm o) sz i m)
  | .agg cs=>(cs.mapM (lK nm n)).map .agg
  | .tup cs=>(cs.mapM (lK nm n)).map .tup
theorem Rep.lK {nm:Nat→Nat} {g g':Gh} {w:World} (hI:∀b,g.I true b→g'.I true b) (ho:∀o,g.D o→g'.β (nm o)=g.β o∧g'.κ (nm o)=g.κ o∧g'.D (nm o)):
 ∀(f:Nat) (p q:PV) (v:Value),Rep g w p v→Proofs.YtmmafcjjlbgnkaaGreat.lK nm f p=some q→Rep g' w q v
 |0,p,q,v,h,hr=>by simp[Proofs.YtmmafcjjlbgnkaaGreat.lK]at hr
 |f+1,p,q,v,h,hr=>by
  cases p with
  |val u=>simp only[Proofs.YtmmafcjjlbgnkaaGreat.lK,Option.some.injEq]at hr;subst hr;simpa [Rep]using h
  |dead=>simp only[Proofs.YtmmafcjjlbgnkaaGreat.lK,Option.some.injEq]at hr;subst hr;simp[Rep]
  |lst k sz es=>
   simp only[Proofs.YtmmafcjjlbgnkaaGreat.lK]at hr;split at hr
   ·cases hr
   ·rename_i hk
    simp only[Option.map_eq_some_iff]at hr;obtain⟨es',h1,rfl⟩:=hr;have hl:=(bD h1).1;simp only[Rep]at h⊢;obtain⟨a,cap,rfl,h2,h3,h4⟩:=h;refine⟨a,cap,by rw[hl],by omega,h3,?_⟩;rcases h4 with rfl|⟨b,off,rfl,h5,h6⟩
    ·left;exact List.eq_nil_of_length_eq_zero (by simpa using hl)
    ·by_cases hnil:es=[]
     ·left;subst hnil;exact List.eq_nil_of_length_eq_zero (by simpa using hl)
     ·right
      cases k with
      |false=>simp[hnil]at hk
      |true=>exact⟨b,off,rfl,hI _ h5,bf.conv (g:=g) (g':=g') (Rep.lK hI ho f) h6 h1⟩
  |ptr k e o=>
   simp only[Proofs.YtmmafcjjlbgnkaaGreat.lK]at hr;split at hr
   ·cases hr
   ·rename_i hk
    simp only[Option.map_eq_some_iff]at hr;obtain⟨e',h1,rfl⟩:=hr;simp only[Rep]at h⊢;obtain⟨b,off,rfl,h2,u,h3,h4⟩:=h;cases k with
    |false=>simp at hk
    |true=>exact⟨b,off,rfl,hI _ h2,u,Rep.lK hI ho f e e' u h3 h1,h4⟩
  |own o sz i f'=>simp only[Proofs.YtmmafcjjlbgnkaaGreat.lK,Option.some.injEq]at hr;subst hr;simp only[Rep]at h⊢;obtain⟨e1,_,e3⟩:=ho o h.2;exact⟨by rw[e1];exact h.1,e3⟩
  |row o sz i m=>simp only[Proofs.YtmmafcjjlbgnkaaGreat.lK,Option.some.injEq]at hr;subst hr;simp only[Rep]at h⊢;obtain⟨c,h1,h2,h3,h4,h5⟩:=h;obtain⟨e1,e2,e3⟩:=ho o h5;exact⟨c,by rw[e1];exact h1,h2,h3,by rw[e2];exact h4,e3⟩
  |agg cs=>simp only[Proofs.YtmmafcjjlbgnkaaGreat.lK,Option.map_eq_some_iff]at hr;obtain⟨cs',h1,rfl⟩:=hr;simp only[Rep]at h⊢;obtain⟨vs,rfl,h2⟩:=h;exact⟨vs,rfl,bI.conv (g:=g) (g':=g') (Rep.lK hI ho f) h2 h1⟩
  |tup cs=>simp only[Proofs.YtmmafcjjlbgnkaaGreat.lK,Option.map_eq_some_iff]at hr;obtain⟨cs',h1,rfl⟩:=hr;simp only[Rep]at h⊢;obtain⟨vs,rfl,h2⟩:=h;exact⟨vs,rfl,bI.conv (g:=g) (g':=g') (Rep.lK hI ho f) h2 h1⟩
def xV (nm:Nat→Nat) (f:Nat) (c:aU):Option aU:=(c.2.2.mapM (lK nm f)).map fun es=>(c.1,c.2.1,es)
def aaX (Ψ:afk):iD:=fun ps cs=>(ps.mapM (reify false 0 (fun o=>cs[o]?) fuel)).bind fun qs=>(Ψ qs).bind fun rc=>(lK (cs.length+ ·) fuel rc.1).bind fun r=>(rc.2.mapM (xV (cs.length+ ·) fuel)).map fun cs'=>(r,cs++cs')
theorem jW.lift {P:Program} {f:Nat} {Ψ:afk} (h:jW P f Ψ):eO P f (aaX Ψ):=by
 intro w J β κ ps cs args r cs2 hr hJ hO hT hargs;unfold aaX at hr;simp only[Option.bind_eq_some_iff,Option.map_eq_some_iff]at hr;obtain⟨qs,h1,⟨r0,cs0⟩,h2,r1,h3,cs1,h4,h5⟩:=hr;simp only[Prod.mk.injEq]at h5;obtain⟨rfl,rfl⟩:=h5;dsimp only at h3 h4
 let n:=cs.length
 let J':Bool→Nat→Prop:=fun k b=>k=false∧((∃k',J k' b)∨∃o,o<n∧b=β o)
 have hJ':∀k b,J' k b→b<w.heap.size:=fun k b hb=>by
  rcases hb.2 with⟨k',hk⟩|⟨o,ho,rfl⟩
  ·exact hJ k' b hk
  ·exact(hO.lt o ho).1
 have hargs':bI (d9 J' (fun _=>0) (fun _=>0) 0) w qs args.toList:=by
  refine bI.conv (g:=d9 J β κ n) (g':=d9 J' (fun _=>0) (fun _=>0) 0) (Rep.seen (fr:=false) (n:=0) (s:=sK ps cs) (g:=d9 J β κ n) (g':=d9 J' (fun _=>0) (fun _=>0) 0) (fun o c ho=>hO.at_ o c ho) ⟨fun _=>⟨fun k b hb=>⟨rfl,.inl ⟨k,hb⟩⟩,fun o ho=>?_⟩,fun e=>by cases e⟩ fuel) hargs h1
  obtain⟨c,hc⟩:=Option.isSome_iff_exists.1 ho;exact⟨rfl,.inr ⟨o,(List.getElem?_eq_some_iff.1 hc).1,rfl⟩⟩
 have hO':sI J' w (fun _=>0) (fun _=>0) []:=⟨fun o ho=>by simp at ho,fun o o' ho=>by simp at ho,fun o c ho=>by simp at ho⟩;refine(h w J' (fun _=>0) (fun _=>0) qs [] args r0 cs0 (by simpa using h2) hJ' hO' (hT.io fun t _ ⟨o,ho,_⟩=>by simp at ho) hargs').mono ?_;rintro e w' ⟨v,β',κ',M,rfl,hfr,_,_,hnew,hM,hO2,hrep⟩;have hfr':∀b,b<w.heap.size→w'.heap[b]?=w.heap[b]?:=fun b hb=>hfr.block b hb (fun⟨o,ho,_⟩=>by simp at ho);have hl1:=(bD h4).1
 let β2:Nat→Nat:=fun o=>if o<n then β o else β' (o-n)
 let κ2:Nat→Nat:=fun o=>if o<n then κ o else κ' (o-n)
 have hTI:∀b,(d9 (addN J' M) β' κ' cs0.length).I true b→(d9 (addN J M) β2 κ2 (cs++cs1).length).I true b:=fun b hb=>by
  rcases hb with⟨h6,_⟩|⟨_,h6⟩
  ·cases h6
  ·exact .inr ⟨rfl,h6⟩
 have hTo:∀o,(d9 (addN J' M) β' κ' cs0.length).D o→(d9 (addN J M) β2 κ2 (cs++cs1).length).β (n+o)=(d9 (addN J' M) β' κ' cs0.length).β o∧(d9 (addN J M) β2 κ2 (cs++cs1).length).κ (n+o)=(d9 (addN J' M) β' κ' cs0.length).κ o∧(d9 (addN J M) β2 κ2 (cs++cs1).length).D (n+o):=fun o ho=>by
  have h6:o<cs0.length:=ho.1;refine⟨?_,?_,⟨?_,fun q=>q⟩⟩
  ·simp only[d9,β2];rw[if_neg (by omega)];congr 1;omega
  ·simp only[d9,κ2];rw[if_neg (by omega)];congr 1;omega
  ·simp only[d9,List.length_append];omega
 have hblk:∀i,i<cs0.length→w.heap.size≤β' i∧β' i<w'.heap.size∧∀k,¬addN J' M k (β' i):=fun i hi=>⟨hnew i (Nat.zero_le _) hi,(hO2.lt i hi).1,(hO2.lt i hi).2⟩;refine⟨v,β2,κ2,M,rfl,⟨hfr.os,hfr.tape,hfr.output,hfr.size,fun b hb _=>hfr' b hb⟩,by simp,fun o ho=>⟨by simp only[β2];rw[if_pos ho],by simp only[κ2];rw[if_pos ho]⟩,fun o h6 h7=>?_,hM,⟨fun o ho=>?_,fun o o' ho ho' he=>?_,fun o c hc=>?_⟩,Rep.lK (g:=d9 (addN J' M) β' κ' cs0.length) hTI hTo fuel _ _ _ hrep h3⟩
 ·simp only[β2]
  rw[if_neg (by omega)];rw[List.length_append]at h7;exact(hblk (o-n) (by omega)).1
 ·rw[List.length_append]at ho
  simp only[β2];split
  ·rename_i hlt
   refine⟨Nat.lt_of_lt_of_le (hO.lt o hlt).1 hfr.size,fun k hb=>?_⟩;rcases hb with hb|⟨_,hb⟩
   ·exact(hO.lt o hlt).2 k hb
   ·have:=(hM _ hb).1
    have:=(hO.lt o hlt).1;omega
  ·rename_i hlt
   obtain⟨k1,k2,k3⟩:=hblk (o-n) (by omega);refine⟨k2,fun k hb=>?_⟩;rcases hb with hb|⟨hk,hb⟩
   ·have:=hJ k _ hb
    omega
   ·exact k3 true (.inr ⟨rfl,hb⟩)
 ·rw[List.length_append]at ho ho'
  simp only[β2]at he;split at he
  ·rename_i hlt
   split at he
   ·rename_i hlt'
    exact hO.inj o o' hlt hlt' he
   ·rename_i hlt'
    have:=(hblk (o'-n) (by omega)).1;have:=(hO.lt o hlt).1;omega
  ·rename_i hlt
   split at he
   ·rename_i hlt'
    have:=(hblk (o-n) (by omega)).1;have:=(hO.lt o' hlt').1;omega
   ·rename_i hlt'
    have:=hO2.inj (o-n) (o'-n) (by omega) (by omega) he;omega
 ·by_cases hlt:o<n
  ·have hc0:cs[o]?=some c:=by rwa[List.getElem?_append_left hlt]at hc
   have h6:=hO.at_ o c hc0;refine h6.mono (g:=d9 J β κ n) (g':=d9 (addN J M) β2 κ2 (cs++cs1).length) ⟨fun k b hb=> .inl hb,fun o1 ho1=>⟨?_,fun q=>q⟩,fun o1 ho1=>?_,fun o1 ho1=>?_⟩ ⟨hlt,fun q=>q⟩ (fun k b hb=>hfr' b (hJ k b hb)) (hfr' _ (hO.lt o hlt).1)
   ·have h7:o1<n:=ho1.1
    simp only[d9,List.length_append];omega
   ·have h7:o1<n:=ho1.1
    simp only[d9,β2];rw[if_pos h7]
   ·have h7:o1<n:=ho1.1
    simp only[d9,κ2];rw[if_pos h7]
  ·have hc1:cs1[o-n]?=some c:=by rwa[List.getElem?_append_right (by omega)]at hc
   obtain⟨c0,hc0,hrc⟩:=mapM_at h4 hc1;obtain⟨⟨arr,m1,m2⟩,m3,m4⟩:=hO2.at_ (o-n) c0 hc0;unfold xV at hrc;rw[Option.map_eq_some_iff]at hrc;obtain⟨es,h6,rfl⟩:=hrc;have hl:=(bD h6).1;have e1:β2 o=β' (o-n):=by simp only[β2];rw[if_neg hlt]
   have e2:κ2 o=κ' (o-n):=by simp only[κ2];rw[if_neg hlt]
   refine⟨⟨arr,by simp only[d9,e1];exact m1,by simp only[d9,e2];exact m2⟩,by simp only[d9,e2,hl];exact m3,?_⟩;simp only[d9,e1];exact bf.conv (g:=d9 (addN J' M) β' κ' cs0.length) (g':=d9 (addN J M) β2 κ2 (cs++cs1).length) (Rep.lK (g:=d9 (addN J' M) β' κ' cs0.length) hTI hTo fuel) m4 h6
def aaA (Ψ:afk):Fun:=fun ps=>(Ψ ps).bind fun rc=>reify true 0 (fun o=>rc.2[o]?) fuel rc.1
theorem jW.pure {P:Program} {f:Nat} {Ψ:afk} (h:jW P f Ψ):Sound P f (aaA Ψ):=by
 intro w J ps args r hr hJ hT hargs;unfold aaA at hr;simp only[Option.bind_eq_some_iff]at hr;obtain⟨⟨r0,cs0⟩,h2,h3⟩:=hr;dsimp only at h3
 let J':Bool→Nat→Prop:=fun k b=>k=false∧J b
 have hO':sI J' w (fun _=>0) (fun _=>0) []:=⟨fun o ho=>by simp at ho,fun o o' ho=>by simp at ho,fun o c ho=>by simp at ho⟩;refine(h w J' (fun _=>0) (fun _=>0) ps [] args r0 cs0 (by simpa using h2) (fun k b hb=>hJ b hb.2) hO' (hT.io fun t _ ⟨o,ho,_⟩=>by simp at ho) hargs).mono ?_;rintro e w' ⟨v,β',κ',M,rfl,hfr,_,_,hnew,hM,hO2,hrep⟩;refine⟨v,rfl,⟨hfr.os,hfr.tape,hfr.output,hfr.size,fun b hb=>hfr.block b hb (fun⟨o,ho,_⟩=>by simp at ho)⟩,fun g' hg=>?_⟩;refine Rep.seen (fr:=true) (n:=0) (s:=sK ps cs0) (g:=d9 (addN J' M) β' κ' cs0.length) (g':=g') (fun o c ho=>hO2.at_ o c ho) ⟨fun e=>(by cases e),fun _=>⟨fun b hb=>?_,fun o ho _=>?_⟩⟩ fuel _ _ _ hrep h3
 ·rcases hb with⟨h6,_⟩|⟨_,h6⟩
  ·cases h6
  ·exact hg b (hM b h6).1 (hM b h6).2
 ·obtain⟨c,hc⟩:=Option.isSome_iff_exists.1 ho
  have hlt:=(List.getElem?_eq_some_iff.1 hc).1;exact hg _ (hnew o (Nat.zero_le _) hlt) (hO2.lt o hlt).1
section
variable {P:Program} {Γ:Ctx}
theorem r9 (hm:P.follows .mixedOrders=true) {f:Nat} {fn:Func} {c:Code} {Ψ:afk} (hΓ:au P Γ) (hf:P.funcs[f]?=some fn) (hb:fn.body=some c) (N:Nat) (hN:fn.ntmps=N) (rs:List ResultVar) (hrs:fn.results.toList=rs) (hc:codeOk Γ true N c=true)
 (h:∀ps r cs',Ψ ps=some (r,cs')→ps.length≤N∧pq P Γ N c (jU P rs 0 r cs') (bM ps).tm kr 0):jW P f Ψ:=by
 refine ag0 hm hΓ hf hb N hN rs hrs hc fun ps cs r cs' hr=>?_;split at hr
 ·rename_i hcs
  exact⟨hcs,h ps r cs' hr⟩
 ·cases hr
end
section
variable {α β γ δ ρ:Type} {A:Dec α} {B:Dec β} {C:Dec γ} {D:Dec δ} {ps:List PV} {r:ρ}
def G1 (A:Dec α) (F:α→Option ρ) (ps:List PV):Option ρ:=match ps with|[p]=>(A.d p).bind F|_=>none
def G4 (A:Dec α) (B:Dec β) (C:Dec γ) (D:Dec δ) (F:α→β→γ→δ→Option ρ) (ps:List PV):Option ρ:=match ps with|[p,q,r,s]=>(A.d p).bind fun a=>(B.d q).bind fun b=>(C.d r).bind fun c=>(D.d s).bind fun d=>F a b c d|_=>none
theorem agW {F:α→Option ρ} (h:G1 A F ps=some r):∃a,ps=[A.e a]∧F a=some r:=by
 unfold G1 at h;split at h
 ·rw[Option.bind_eq_some_iff]at h
  obtain⟨a,h1,h2⟩:=h;exact⟨a,by rw[A.h _ _ h1],h2⟩
 ·cases h
theorem ab3 {F:α→β→γ→δ→Option ρ} (h:G4 A B C D F ps=some r):∃a b c d,ps=[A.e a,B.e b,C.e c,D.e d]∧F a b c d=some r:=by
 unfold G4 at h;split at h
 ·simp only[Option.bind_eq_some_iff]at h
  obtain⟨a,h1,b,h2,c,h3,d,h4,h5⟩:=h;exact⟨a,b,c,d,by rw[A.h _ _ h1,B.h _ _ h2,C.h _ _ h3,D.h _ _ h4],h5⟩
 ·cases h
theorem aqE {F:α→Option ρ} (a:α):G1 A F [A.e a]=F a:=by simp[G1,A.h']
theorem aox {F:α→β→γ→δ→Option ρ} (a:α) (b:β) (c:γ) (d:δ):G4 A B C D F [A.e a,B.e b,C.e c,D.e d]=F a b c d:=by simp[G4,A.h',B.h',C.h',D.h']
end
def nC (T sz:Nat) (es:List PV):List aU:=match es with|[]=>[]|_::_=>[(T,sz,es)]
theorem alP {T sz:Nat}:nC T sz []=[]:=rfl
theorem amo {T sz:Nat} {es:List PV} (h:0<es.length):nC T sz es=[(T,sz,es)]:=by
 cases es with
 |nil=>simp at h
 |cons e es=>rfl
section
variable {Ψ:afk} {α:Type} {g:α→Value} {l:List α} {T sz:Nat}
theorem aky {ps qs:List PV} {cs cs0 cs1:List aU} {r r1:PV} (h1:ps.mapM (reify false 0 (fun o=>cs[o]?) fuel)=some qs) (h2:Ψ qs=some (r,cs0)) (h3:lK (cs.length+ ·) fuel r=some r1) (h4:cs0.mapM (xV (cs.length+ ·) fuel)=some cs1):aaX Ψ ps cs=some (r1,cs++cs1):=by
 unfold aaX;rw[h1,Option.bind_some,h2,Option.bind_some];dsimp only
 rw[h3,Option.bind_some,h4];rfl
theorem mR {ps:List PV} {cs0:List aU} {r r1:PV} (h2:Ψ ps=some (r,cs0)) (h3:reify true 0 (fun o=>cs0[o]?) fuel r=some r1):aaA Ψ ps=some r1:=by unfold aaA;rw[h2,Option.bind_some,h3]
theorem yR {nm:Nat→Nat}:∀{f:Nat} {p:PV},dW f p=true→lK nm f p=some p
 |0,_,h=>by simp[dW]at h
 |f+1,p,h=>by
  cases p with
  |val v=>rfl
  |dead=>rfl
  |agg cs=>
   have h2:∀c∈cs,dW f c=true:=by simpa [dW]using h
   simp only[Proofs.YtmmafcjjlbgnkaaGreat.lK];rw[dG fun c hc=>yR (h2 c hc)];rfl
  |_=>simp[dW]at h
theorem aer {β:Type} {nm:Nat→Nat} {f:Nat} {g:β→PV} {l:List β} (h:∀x,dW 2 (g x)=true):(l.map g).mapM (lK nm (f+2))=some (l.map g):=
 dG fun e he=>by obtain⟨x,_,rfl⟩:=List.mem_map.1 he;exact yR (jy (by omega) (h x))
theorem uz {nm:Nat→Nat}:xV nm fuel (T,sz,l.map fun x=>PV.val (g x))=some (T,sz,l.map fun x=>PV.val (g x)):=by unfold xV;show((l.map fun x=>PV.val (g x)).mapM (lK nm (6+2))).map _=_;rw[aer fun _=>rfl];rfl
end
theorem af4 {nm:Nat→Option Nat} {l:List PV}:l.mapM (fH nm fuel)=l.mapM (fH nm 8):=rfl
attribute[push_cast]
 af4
section
variable {P:Program} {Γ:Ctx}
theorem aie (hm:P.follows .mixedOrders=true) {f:Nat} {fn:Func} {c:Code} (hΓ:au P Γ) (hf:P.funcs[f]?=some fn) (hb:fn.body=some c) (N:Nat) (hN:fn.ntmps=N) (rs:List ResultVar) (hrs:fn.results.toList=rs) (hc:codeOk Γ true N c=true)
 (D:List PV→List aU→Prop) (R:List PV→List aU→PV→List aU→Prop) (hlen:∀ps cs,D ps cs→ps.length≤N)
 (h:∀ps cs,D ps cs→pq P Γ N c (fun x s'=>∃r cs',R ps cs r cs'∧jU P rs cs.length r cs' x s') (bM ps).tm (fun o=>cs[o]?) cs.length):∃Φ:iD,eO P f Φ∧∀ps cs,D ps cs→∃r cs',Φ ps cs=some (r,cs')∧R ps cs r cs':=by
 classical
 subst hN hrs
 let Z:List PV→List aU→PV×List aU→Prop:=fun ps cs r=>D ps cs∧R ps cs r.1 r.2∧∃x s',Ev P Γ fn.ntmps c (sK ps cs) x s'∧jU P fn.results.toList cs.length r.1 r.2 x s'
 let Φ:iD:=fun ps cs=>if h:∃r,Z ps cs r then some (Classical.choose h)else none
 have hΦ:∀ps cs r,Φ ps cs=some r→Z ps cs r:=fun ps cs r hr=>by
  simp only[Φ]at hr;split at hr
  ·rename_i hz
   cases hr;exact Classical.choose_spec hz
  ·cases hr
 refine⟨Φ,ow hΓ hf hb (fun ps cs r hr=>hlen ps cs (hΦ ps cs r hr).1) fun ps cs r cs' hr=>?_,fun ps cs hd=>?_⟩
 ·obtain⟨_,_,x,s',h1,h2,news,h3,h4,h5,h6⟩:=hΦ ps cs (r,cs') hr
  rw[Option.bind_eq_some_iff]at h5;obtain⟨qs,h8,h9⟩:=h5;refine⟨x,s',qs,List.range cs.length++news,h1,h2,h8,h9,by simp,fun o ho=>?_,?_,h6⟩
  ·rw[List.getElem?_append_left (by simpa using ho),List.getElem?_range ho]
  ·rw[List.nodup_append]
   exact⟨List.nodup_range,h4,fun a ha b hb e=>by have:=h3 b hb;have:=List.mem_range.1 ha;omega⟩
 ·obtain⟨x,s',h1,r,cs',h2,h3⟩:=yS (mixed:=true) (fun _=>hm) c _ _ hc (h ps cs hd)
  have hz:∃r,Z ps cs r:=⟨(r,cs'),hd,h2,x,s',h1,h3⟩;have he:Φ ps cs=some (Classical.choose hz):=by simp only[Φ];rw[dif_pos hz]
  exact⟨(Classical.choose hz).1,(Classical.choose hz).2,he,(hΦ ps cs _ he).2.1⟩
end
section
variable {P:Program} {tm:Nat→PV} {ob:bn} {nx:Nat} {rs:List ResultVar} {r:PV} {c':aU} {x:X} {R:PV→List aU→Prop}
theorem asL (hx:x=.normal∨x=.ret) (h1:((eY P ⟨tm,ob,nx⟩ rs).bind fun qs=>cZ [0] ob fuel (fG qs))=some r) (h2:oq [0] ob fuel 0=some c') (hR:R r [c']):∃r cs',R r cs'∧jU P rs 1 r cs' x ⟨tm,ob,nx⟩:=⟨r,[c'],hR,as0 hx h1 h2⟩
theorem auH (hx:x=.normal∨x=.ret) (h1:((eY P ⟨tm,ob,nx⟩ rs).bind fun qs=>cZ [] ob fuel (fG qs))=some r) (hR:R r []):∃r cs',R r cs'∧jU P rs 0 r cs' x ⟨tm,ob,nx⟩:=⟨r,[],hR,l7 hx h1⟩
end
structure Fgn where
 bk:Nat→Prop
 at_:World→Prop
 keep:∀w w':World,(∀i,bk i→w'.heap[i]?=w.heap[i]?)→at_ w→at_ w'
def Fgn.no:Fgn:=⟨fun _=>False,fun _=>True,fun _ _ _ _=>trivial⟩
structure HzC (io:IoS) (w00 w0:World) (B:Nat) (bk:Nat→Prop):Prop where
 ne:∀i,io.wr i∨io.im i∨io.it i→¬bk i
 lo:∀i,io.wr i∨io.it i→B≤i
 lt:∀i,io.wr i→i<w0.heap.size
 hb:∀b,bk b→b<w0.heap.size
 sz:B≤w0.heap.size
 fr:Fr (fun i=>bk i∨B≤i) w00 w0
 tk:∀t∈tks,t<B∧¬bk t
def Zt (P:Program) (N B:Nat) (w00:World) (s:AS) (σ:Fgn) (a:Act) (w:World):Prop:=
 (∃io w0 g,Rel io w0 N g s a w∧HzC io w00 w0 B σ.bk)∧σ.at_ w
section
variable {P:Program} {N B:Nat} {w00:World}
theorem HzC.iO {io:IoS} {w0:World} {bk:Nat→Prop} (h:HzC io w00 w0 B bk) {g:Gh} {s:AS} {a:Act} {w:World} (hr:Rel io w0 N g s a w) {kk:Bool} {i:Nat} (hi:g.I kk i):i<w.heap.size∧¬bk i:=by
 refine⟨hr.lt _ _ hi,?_⟩;cases kk with
 |false=>exact h.ne i (.inr (.inl (hr.old i hi)))
 |true=>
  rcases hr.new i hi with⟨h1,_⟩|h1
  ·exact fun e=>by have:=h.hb i e;omega
  ·exact h.ne i (.inr (.inr h1))
theorem HzC.dQ {io:IoS} {w0:World} {bk:Nat→Prop} (h:HzC io w00 w0 B bk) {g:Gh} {s:AS} {a:Act} {w:World} (hr:Rel io w0 N g s a w) {o:Nat} {c:Nat×Nat×List PV} (ho:s.ob o=some c):g.β o<w.heap.size∧¬bk (g.β o)∧B≤g.β o:=by
 obtain⟨h1,h2,h3,h4⟩:=hr.ob o c ho;obtain⟨arr,ha,_⟩:=h4.1;refine⟨lt_of_heap ha,?_,?_⟩
 ·rcases h2 with h2|h2
  ·exact fun e=>by have:=h.hb _ e;omega
  ·exact h.ne _ (.inl h2)
 ·rcases h2 with h2|h2
  ·have:=h.sz;omega
  ·exact h.lo _ (.inl h2)
theorem Rel.ano {io:IoS} {w0 w w':World} {bk bk':Nat→Prop} {g:Gh} {s:AS} {a:Act} (hr:Rel io w0 N g s a w) (hC:HzC io w00 w0 B bk) (hf:Fr bk' w w')
 (h1:∀i,i<w.heap.size→bk' i→bk i) (h2:∀i,bk i→bk' i) (h3:∀b,bk' b→b<w'.heap.size):∃io',Rel io' w' N g s a w'∧HzC io' w00 w' B bk':=by
 have hI:∀kk i,g.I kk i→w'.heap[i]?=w.heap[i]?:=fun kk i hi=>by obtain⟨q1,q2⟩:=hC.iO hr hi;exact hf.block i q1 fun e=>q2 (h1 i q1 e)
 have hsz:B≤w.heap.size:=Nat.le_trans hC.sz hr.fr.size;have htk:∀t∈tks,¬bk' t:=fun t ht e=>(hC.tk t ht).2 (h1 t (by have:=(hC.tk t ht).1;omega) e);refine⟨{wr:=fun i=>∃o,(s.ob o).isSome∧i=g.β o,im:=g.I false,m:=0,β0:=fun _=>0,κ0:=fun _=>0,it:=g.I true},⟨hr.nt,hr.df,fun t=>(hr.tm t).mono (Gh.le_refl g) hI,fun o c ho=>?_,hr.inj,hr.nx,fun kk i hi=>Nat.lt_of_lt_of_le (hr.lt kk i hi) hf.size,fun i hi=> .inr hi,Fr.refl _ _,fun i hi=>hi,⟨fun o ho=>(Nat.not_lt_zero o ho).elim,fun o ho=>(Nat.not_lt_zero o ho).elim⟩,fun o ho=>False.elim ho,?_⟩,⟨fun i hi=>?_,fun i hi=>?_,fun i hi=>?_,h3,Nat.le_trans hsz hf.size,?_,fun t ht=>⟨(hC.tk t ht).1,htk t ht⟩⟩⟩
 ·obtain⟨k1,k2,k3,k4⟩:=hr.ob o c ho
  obtain⟨q1,q2,q3⟩:=hC.dQ hr ho;exact⟨k1,.inr ⟨o,by simp[ho],rfl⟩,k3,k4.mono (Gh.le_refl g) k1 hI (hf.block _ q1 fun e=>q2 (h1 _ q1 e))⟩
 ·have t1:jv w (fun i=>bk' i):=hr.tab.keep hr.fr fun t ht e=>htk t ht e
  refine t1.keep hf ?_;rintro t ht ⟨o,ho,rfl⟩;obtain⟨c,hc⟩:=Option.isSome_iff_exists.1 ho;have:=(hC.dQ hr hc).2.2;have:=(hC.tk _ ht).1;omega
 ·rcases hi with⟨o,ho,rfl⟩|hi|hi
  ·obtain⟨c,hc⟩:=Option.isSome_iff_exists.1 ho
   obtain⟨q1,q2,q3⟩:=hC.dQ hr hc;exact fun e=>q2 (h1 _ q1 e)
  ·obtain⟨q1,q2⟩:=hC.iO hr hi
   exact fun e=>q2 (h1 _ q1 e)
  ·obtain⟨q1,q2⟩:=hC.iO hr hi
   exact fun e=>q2 (h1 _ q1 e)
 ·rcases hi with⟨o,ho,rfl⟩|hi
  ·obtain⟨c,hc⟩:=Option.isSome_iff_exists.1 ho
   exact(hC.dQ hr hc).2.2
  ·rcases hr.new i hi with⟨q,_⟩|q
   ·exact Nat.le_trans hC.sz q
   ·exact hC.lo i (.inr q)
 ·obtain⟨o,ho,rfl⟩:=hi
  obtain⟨c,hc⟩:=Option.isSome_iff_exists.1 ho;exact Nat.lt_of_lt_of_le (hC.dQ hr hc).1 hf.size
 ·have hf1:Fr (fun i=>bk' i∨B≤i) w0 w:=⟨hr.fr.os,hr.fr.tape,hr.fr.output,hr.fr.size,fun i hi hn=>hr.fr.block i hi fun q=>hn (.inr (hC.lo i (.inl q)))⟩
  refine⟨hf.os.trans (hf1.os.trans hC.fr.os),hf.tape.trans (hf1.tape.trans hC.fr.tape),hf.output.trans (hf1.output.trans hC.fr.output),Nat.le_trans hC.fr.size (Nat.le_trans hf1.size hf.size),fun i hi hn=>?_⟩;have g1:=hC.fr.block i hi fun q=>hn (q.imp (h2 i) id);have g2:=hf1.block i (Nat.lt_of_lt_of_le hi hC.fr.size) hn;have g3:=hf.block i (Nat.lt_of_lt_of_le hi (Nat.le_trans hC.fr.size hf1.size)) fun q=>hn (.inl q);exact g3.trans (g2.trans g1)
theorem Fgn.same {io:IoS} {w0:World} {σ:Fgn} {g g':Gh} {s s':AS} {a a':Act} {w w':World} (hC:HzC io w00 w0 B σ.bk) (h1:Rel io w0 N g s a w) (h2:Rel io w0 N g' s' a' w') (hM:σ.at_ w):σ.at_ w':=
 σ.keep w w' (fun i hi=>by have q:∀{g:Gh} {s:AS} {a:Act} {w:World},Rel io w0 N g s a w→w.heap[i]?=w0.heap[i]?:=fun hr=>hr.fr.block i (hC.hb i hi) fun q=>hC.ne i (.inl q) hi;rw[q h1,q h2]) hM
structure HZ (P:Program) (N B:Nat) (w00:World) (c:Code) (K:X→AS→Fgn→Prop) (s:AS) (σ:Fgn):Prop where
 go:∀a w,Zt P N B w00 s σ a w→∀Q:Exit→Act→World→Prop,(∀x s' σ' a' w',Zt P N B w00 s' σ' a' w'→K x s' σ'→Q x.pV a' w')→CWp P c Q a w
variable {c c1 c2:Code} {K:X→AS→Fgn→Prop} {s s':AS} {σ:Fgn}
theorem HZ.seq (h:HZ P N B w00 c1 (fun x s' σ'=>match x with| .normal=>HZ P N B w00 c2 K s' σ'| .exit id=>K (.exit id) s' σ'| .ret=>K .ret s' σ') s σ):HZ P N B w00 (.seq c1 c2) K s σ:=HZ.mk fun a w hs Q hQ=>by
 refine wp_seq (CWp.wp (h.go a w hs _ fun x s' σ' a' w' hs' hk=>?_));cases x with
 |normal=>exact(hk.go a' w' hs' Q hQ).wp
 |exit id=>exact hQ _ s' σ' a' w' hs' hk
 |ret=>exact hQ _ s' σ' a' w' hs' hk
theorem HZ.block {id:Nat} (h:HZ P N B w00 c (fun x s' σ'=>K (x.out id) s' σ') s σ):HZ P N B w00 (.block id c) K s σ:=HZ.mk fun a w hs Q hQ=>by
 refine wp_block (CWp.wp (h.go a w hs _ fun x s' σ' a' w' hs' hk=>?_));have:=hQ _ s' σ' a' w' hs' hk;cases x with
 |normal=>exact this
 |ret=>exact this
 |exit id'=>
  simp only[X.pV,Exit.inBlock,X.out]at this⊢;split
  ·rename_i hid;simpa [hid]using this
  ·rename_i hid;simpa [hid]using this
theorem HZ.ret (h:K .ret s σ):HZ P N B w00 .ret K s σ:=HZ.mk fun a w hs Q hQ=>wp_ret (hQ .ret s σ a w hs h)
theorem Zt.forget {a:Act} {w:World} (h:Zt P N B w00 s σ a w) (hf:s.forget s'):Zt P N B w00 s' σ a w:=by obtain⟨⟨io,w0,g,hr,hC⟩,hM⟩:=h;exact⟨⟨io,w0,g,hr.forget hf,hC⟩,hM⟩
theorem HZ.forget (hf:s.forget s') (h:HZ P N B w00 c K s' σ):HZ P N B w00 c K s σ:=HZ.mk fun a w hs Q hQ=>h.go a w (hs.forget hf) Q hQ
theorem HZ.loop {α:Type} (S:α→AS) (I:α→Fgn→Prop) (μ:α→Nat) (i:α) (hi:I i σ) (hs:s.forget (S i))
 (h:∀i σ,I i σ→HZ P N B w00 c (fun x s' σ'=>match x with| .normal=>∃j,I j σ'∧μ j<μ i∧s'.forget (S j)| .exit id=>K (.exit id) s' σ'| .ret=>K .ret s' σ') (S i) σ):HZ P N B w00 (.loop c) K s σ:=by
 have key:∀n i σ,μ i=n→I i σ→∀a w,Zt P N B w00 (S i) σ a w→∀Q:Exit→Act→World→Prop,(∀x s' σ' a' w',Zt P N B w00 s' σ' a' w'→K x s' σ'→Q x.pV a' w')→jl P c Q a w:=by
  intro n
  induction n using Nat.strongRecOn with
  |_ n ih=>
   intro i σ hn hi a w hst Q hQ;refine jl.step (CWp.wp ((h i σ hi).go a w hst _ fun x s' σ' a' w' hst' hk=>?_));cases x with
   |normal=>obtain⟨j,hj,hlt,hf⟩:=hk;exact ih (μ j) (hn▸hlt) j σ' rfl hj a' w' (hst'.forget hf) Q hQ
   |exit id=>exact hQ _ s' σ' a' w' hst' hk
   |ret=>exact hQ _ s' σ' a' w' hst' hk
 exact HZ.mk fun a w hst Q hQ=>key _ i σ rfl hi a w (hst.forget hs) Q hQ
theorem HZ.eng {Γ:Ctx} (hm:P.follows .mixedOrders=true) (hΓ:au P Γ) (hc:codeOk Γ true N c=true) (hp:pq P Γ N c (fun x s'=>K x s' σ) s.tm s.ob s.nx):HZ P N B w00 c K s σ:=HZ.mk fun a w hs Q hQ=>by obtain⟨⟨io,w0,g,hr,hC⟩,hM⟩:=hs;obtain⟨x,s',h1,h2⟩:=yS (fun _=>hm) c _ _ hc hp;exact h1.cwp hΓ.w (fun b hb=>hC.lt b hb) g a w Q hr fun g' a' w' hr'=>hQ x s' σ a' w' ⟨⟨io,w0,g',hr',hC⟩,Fgn.same hC hr hr' hM⟩ h2
structure ZO (P:Program) (N B:Nat) (w00:World) (ops:Array Oper) (j:Nat) (l:List Oper) (K:AS→Fgn→Prop) (s:AS) (σ:Fgn):Prop where
 go:ops.toList.drop j=l→∀a w,Zt P N B w00 s σ a w→∀Q:Exit→Act→World→Prop,(∀s' σ' a' w',Zt P N B w00 s' σ' a' w'→K s' σ'→Q .normal a' w')→wpOps P ops Q (List.range' j l.length) a w
variable {ops:Array Oper} {J:AS→Fgn→Prop} {j:Nat} {o:Oper} {l l1 l2:List Oper}
theorem HZ.each {id:Nat} {os:List Oper} (h:ZO P N B w00 os.toArray 0 os (K .normal) s σ):HZ P N B w00 (.region id os.toArray false) K s σ:=HZ.mk fun a w hs Q hQ=>by refine wp_region ?_;have:=h.go (by simp) a w hs Q fun s' σ' a' w' hs' hk=>hQ .normal s' σ' a' w' hs' hk;rw[List.range_eq_range'];simpa using this
theorem ZO.nil (h:J s σ):ZO P N B w00 ops j [] J s σ:=ZO.mk fun _ a w hs Q hQ=>hQ s σ a w hs h
theorem ahG {Γ:Ctx} {imm:Md} {io:IoS} {w0:World} {Q:Exit→Act→World→Prop} {s1:AS} (hΓ:eT P Γ io.wr w0) (hio:∀b,io b→b<w0.heap.size) (hd:∀o∈ops.toList,fZ N o=true):∀(l1:List Oper) (j:Nat) {g:Gh} {s:AS} {a:Act} {w:World},ops.toList.drop j=l1++l2→Rel io w0 N g s a w→
 gG P Γ imm ops l1 s=some s1→(∀g' a' w',Rel io w0 N g' s1 a' w'→wpOps P ops Q (List.range' (j+l1.length) l2.length) a' w')→wpOps P ops Q (List.range' j (l1++l2).length) a w
 |[],j,g,s,a,w,hl,h,he,hQ=>by simp only[gG,Option.some.injEq]at he;subst he;exact hQ g a w h
 |o::l,j,g,s,a,w,hl,h,he,hQ=>by
  have hk:ops.toList[j]?=some o:=by have:=congrArg (·[0]?) hl;simpa using this
  have hk':ops[j]?=some o:=by simpa using hk
  have hl':ops.toList.drop (j+1)=l++l2:=by rw[←List.drop_drop,hl];rfl
  simp only[gG]at he;split at he
  ·rename_i s2 h2
   simp only[List.cons_append,List.length_cons,List.range'_succ];rw[wpOps_cons];exact aae h hΓ hio (hd o (List.mem_of_getElem? hk)) h2 hk' fun g' a' w' hr=>ahG hΓ hio hd l (j+1) hl' hr he fun g2 a2 w2 hr2=>by
    have:=hQ g2 a2 w2 hr2
    rwa[List.length_cons,show j+(l.length+1)=j+1+l.length by omega]at this
  ·cases he
theorem ZO.pre {Γ:Ctx} {imm:Md} {os:List Oper} (n:Nat) (hΓ:au P Γ) (hd:os.toArray.all (fZ N)=true) (h1:l.take n=l1) (h2:l.drop n=l2) {gs:List (Option Nat)} (hg:os.map (·.dst)=gs) (hp:wq P Γ imm gs l1 (fun s1=>ZO P N B w00 os.toArray (j+l1.length) l2 J s1 σ) s.tm s.ob s.nx):ZO P N B w00 os.toArray j l J s σ:=ZO.mk fun hl a w hs Q hQ=>by
 obtain⟨⟨io,w0,g,hr,hC⟩,hM⟩:=hs;have hl12:l=l1++l2:=by rw[←h1,←h2,List.take_append_drop]
 subst hg;rw[show os.map (·.dst)=os.toArray.toList.map (·.dst) by simp,←kX]at hp;obtain⟨s1,e1,e2⟩:=nE _ _ hp;rw[hl12]at hl⊢;refine ahG hΓ.w (fun b hb=>hC.lt b hb) (fun o ho=>(Array.all_eq_true_iff_forall_mem.1 hd) o (by simpa using ho)) l1 j hl hr e1 fun g' a' w' hr'=>?_;refine e2.go ?_ a' w' ⟨⟨io,w0,g',hr',hC⟩,Fgn.same hC hr hr' hM⟩ Q hQ;rw[←List.drop_drop,hl];simp
theorem ZO.one (hg:o.guard=none) (h:∀a w,Zt P N B w00 s σ a w→∀(Kn:Act→World→Prop) (Q:Exit→Act→World→Prop),(∀s' σ' a' w',Zt P N B w00 s' σ' a' w'→ZO P N B w00 ops (j+1) l J s' σ'→Kn a' w')→o.wp P a w Kn Q):ZO P N B w00 ops j (o::l) J s σ:=ZO.mk fun hl a w hs Q hQ=>by
 have hk:ops.toList[j]?=some o:=by have:=congrArg (·[0]?) hl;simpa using this
 have hk':ops[j]?=some o:=by simpa using hk
 have hl':ops.toList.drop (j+1)=l:=by rw[←List.drop_drop,hl];rfl
 simp only[List.length_cons,List.range'_succ];rw[wpOps_cons];unfold wpOp;simp only[hk'];have hw:Region.wanted o (yielded ops a.tmps)=true:=by simp[Region.wanted,hg]
 rw[hw];simp only[if_true];left;exact h a w hs _ _ fun s' σ' a' w' hs' hh=>hh.go hl' a' w' hs' Q hQ
theorem Zt.put {a:Act} {w:World} (h:Zt P N B w00 s σ a w) {d:Option Nat} (hd:∀x,d=some x→x<N) {p:PV} {v:Value} (hv:∀(g:Gh) (w:World),Rep g w p v):Zt P N B w00 (s.put d p) σ (a.put d v) w:=by obtain⟨⟨io,w0,g,hr,hC⟩,hM⟩:=h;exact⟨⟨io,w0,g,hr.put hd (hv g w),hC⟩,hM⟩
theorem Zt.mZ {a:Act} {w w':World} {σ':Fgn} (h:Zt P N B w00 s σ a w) (hf:Fr σ'.bk w w') (h1:∀i,i<w.heap.size→σ'.bk i→σ.bk i) (h2:∀i,σ.bk i→σ'.bk i) (h3:∀b,σ'.bk b→b<w'.heap.size) (hM:σ'.at_ w'):Zt P N B w00 s σ' a w':=by obtain⟨⟨io,w0,g,hr,hC⟩,_⟩:=h;obtain⟨io',k1,k2⟩:=hr.ano hC hf h1 h2 h3;exact⟨⟨io',w',g,k1,k2⟩,hM⟩
theorem HZ.cut {Lf:List (Nat×PV)} {O:List (Nat×Nat×Nat×List PV)} {x:Nat} (h1:agree s.tm Lf) (h2:jk s.ob O) (h3:s.nx=x) (h:HZ P N B w00 c K ⟨lk Lf,lo O,x⟩ σ):HZ P N B w00 c K s σ:=
 HZ.forget (s':=mkS Lf O x) (gV (fT h1) (eF h2) h3) h
theorem HZ.xW {α:Type} (Lf:α→List (Nat×PV)) (O:α→List (Nat×Nat×Nat×List PV)) (XX:α→Nat) (I:α→Fgn→Prop) (μ:α→Nat) (i:α) (hi:I i σ) (h1:agree s.tm (Lf i)) (h2:jk s.ob (O i)) (h3:s.nx=XX i)
 (h:∀i σ,I i σ→HZ P N B w00 c (fun x s' σ'=>match x with| .normal=>∃j,I j σ'∧μ j<μ i∧agree s'.tm (Lf j)∧jk s'.ob (O j)∧s'.nx=XX j| .exit id=>K (.exit id) s' σ'| .ret=>K .ret s' σ') ⟨lk (Lf i),lo (O i),XX i⟩ σ):HZ P N B w00 (.loop c) K s σ:=by
 refine HZ.loop (fun i=>mkS (Lf i) (O i) (XX i)) I μ i hi (gV (fT h1) (eF h2) h3) fun i σ hi=>⟨fun a w hs Q hQ=>(h i σ hi).go a w hs Q fun x s' σ' a' w' hs' hk=>hQ x s' σ' a' w' hs' ?_⟩;cases x with
 |normal=>obtain⟨j,k1,k2,k3,k4,k5⟩:=hk;exact⟨j,k1,k2,gV (fT k3) (eF k4) k5⟩
 |exit id=>exact hk
 |ret=>exact hk
theorem HZ.start {ps:List PV} (h:HZ P N B w00 c K ⟨(bM ps).tm,fun _=>none,0⟩ σ):HZ P N B w00 c K (bM ps) σ:=h
end
section
variable {P:Program} {N B:Nat} {w00:World} {c:Code}
theorem ach {fn:Func} {ps:List PV} {args:Array Value} {w:World} {Jm:Nat→Prop} (hJ:∀b,Jm b→b<w.heap.size) (hT:jv w (fun _=>False)) (hargs:bI (kG Jm) w ps args.toList) (hle:ps.length≤fn.ntmps):
 Rel ⟨fun _=>False,Jm,0,fun _=>0,fun _=>0,fun _=>False,fun _=>False⟩ w fn.ntmps (kG Jm) (bM ps) {tmps:=args++Array.replicate (fn.ntmps-args.size) undef,defers:=[]} w:=by
 have hsz:args.size=ps.length:=by simpa using hargs.get.1
 refine⟨by simp;omega,rfl,fun t=>?_,fun o c ho=>(by cases ho),fun o o' ho=>(by cases ho),rfl,fun k b hi=>hJ b hi.2,fun b hi=>(by cases hi.1),Fr.refl _ _,fun b hi=>hi.2,⟨fun o ho=>(Nat.not_lt_zero o ho).elim,fun o ho=>(Nat.not_lt_zero o ho).elim⟩,fun o ho=>False.elim ho,hT⟩;simp only[bM];cases hp:ps[t]? with
 |none=>
  have hge:ps.length≤t:=by simpa using hp
  have:(args++Array.replicate (fn.ntmps-args.size) undef).getD t undef=undef:=by simp only[Array.getD_eq_getD_getElem?];rw[Array.getElem?_append_right (by omega)];simp only[Array.getElem?_replicate];split<;>rfl
  rw[this];simp[Rep]
 |some p=>
  obtain⟨v,hv,hrep⟩:=hargs.get.2 t p hp;have hlt:t<args.size:=by have:=(List.getElem?_eq_some_iff.1 hp).1;omega
  have:(args++Array.replicate (fn.ntmps-args.size) undef).getD t undef=v:=by
   simp only[Array.getD_eq_getD_getElem?];rw[Array.getElem?_append_left hlt];have:args[t]?=some v:=by simpa using hv
   simp[this]
  rw[this];exact hrep
theorem ai4 {w:World} {io:Nat→Prop} (hT:jv w io):∀t∈tks,t<w.heap.size:=fun t ht=>hT.lt t ht
theorem HZ.sound {f:Nat} {fn:Func} {rs:List ResultVar} {φ:Fun} (hf:P.funcs[f]?=some fn) (hb:fn.body=some c) (hN:fn.ntmps=N) (hrs:fn.results.toList=rs)
 (h:∀ps r,φ ps=some r→ps.length≤N∧∀B w00,HZ P N B w00 c (fun x s' σ'=>(x=.normal∨x=.ret)∧(∃r',(∀(g:Gh) (w:World) (v:Value),Rep g w r' v→Rep g w r v)∧((eY P s' rs).bind fun qs=>reify true 0 s'.ob fuel (fG qs))=some r')∧∀i,σ'.bk i→B≤i) (bM ps) Fgn.no):Sound P f φ:=by
 intro w Jm ps args r hr hJ hT hargs;subst hN hrs;obtain⟨hlen,h⟩:=h ps r hr;refine calls_of_wp hf hb (CWp.wp ((h w.heap.size w).go _ _ ⟨⟨_,w,_,ach hJ hT hargs hlen,⟨fun i hi e=>e,fun i hi=>?_,fun i hi=>False.elim hi,fun b' e=>False.elim e,Nat.le_refl _,Fr.refl _ _,fun t ht=>⟨ai4 hT t ht,fun e=>e⟩⟩⟩,trivial⟩ _ fun x s' σ' a' w' hs' hk=>?_))
 ·rcases hi with hi|hi<;>exact False.elim hi
 ·obtain⟨hx,⟨r',hle,hres⟩,hbb⟩:=hk
  obtain⟨⟨io,w0,g,hrel,hC⟩,hM'⟩:=hs';rw[Option.bind_eq_some_iff]at hres;obtain⟨qs,hres,hreify⟩:=hres;have hbel:Below w.heap.size w w':=by have hf1:Fr (fun i=>w.heap.size≤i) w0 w':=⟨hrel.fr.os,hrel.fr.tape,hrel.fr.output,hrel.fr.size,fun i hi hn=>hrel.fr.block i hi fun q=>hn (hC.lo i (.inl q))⟩;refine⟨hf1.os.trans hC.fr.os,hf1.tape.trans hC.fr.tape,hf1.output.trans hC.fr.output,Nat.le_trans hC.fr.size hf1.size,fun i hi=>?_⟩;refine(hf1.block i (Nat.lt_of_lt_of_le hi hC.fr.size) (by omega)).trans (hC.fr.block i hi fun q=>q.elim (fun q=>?_) fun q=>by omega);have:=hbb i q;omega
  have hend:a'.defers=[]∧∃v,(results fn a'.tmps).run P w'=.ok v w'∧((∃v',Ending.returned v=.returned v'∧Below w.heap.size w w'∧∀g'':Gh,(∀b,w.heap.size≤b→b<w'.heap.size→g''.I true b)→Rep g'' w' r v')):=by
   obtain⟨v,h1,h2⟩:=gD hrel hres;refine⟨hrel.df,v,h1,v,rfl,hbel,fun g'' hg=>hle _ _ _ ?_⟩;refine Rep.seen (fun o c ho=>(hrel.ob o c ho).2.2.2) ⟨fun hh=>(by cases hh),fun _=>⟨fun b hb=>hg b ?_ (hrel.lt true b hb),fun o ho _=>?_⟩⟩ fuel _ _ _ h2 hreify
   ·rcases hrel.new b hb with⟨q,_⟩|q
    ·exact Nat.le_trans hC.sz q
    ·exact hC.lo b (.inr q)
   ·obtain⟨c,hc⟩:=Option.isSome_iff_exists.1 ho
    obtain⟨q1,q2,q3⟩:=hC.dQ hrel hc;exact hg _ q3 q1
  rcases hx with rfl|rfl<;>exact hend
end
section
variable {P:Program} {N B:Nat} {w00:World}
variable {ops:Array Oper} {J:AS→Fgn→Prop} {s:AS} {σ:Fgn}
theorem ZO.wh {o:Oper} {j:Nat} {l:List Oper} {f:Nat} {c:Call} (ho:o.op=.call c) (hc:c.callee=.value (.func f)) (hf:Fnd P f) (hg:o.guard=none) (hd:∀x,o.dst=some x→x<N) (R:Value→Fgn→Prop)
 (hcall:∀a w,Zt P N B w00 s σ a w→Calls P f (c.args.map a.eval) w fun e w'=>∃v σ',e=.returned v∧R v σ'∧Fr σ'.bk w w'∧(∀i,i<w.heap.size→σ'.bk i→σ.bk i)∧(∀i,σ.bk i→σ'.bk i)∧(∀b,σ'.bk b→b<w'.heap.size)∧σ'.at_ w')
 (h:∀v σ',R v σ'→ZO P N B w00 ops (j+1) l J (s.put o.dst (.val v)) σ'):ZO P N B w00 ops j (o::l) J s σ:=by
 refine ZO.one hg fun a w hst Kn Q hK=>?_;obtain⟨fn,hfn,hname,hbody⟩:=hf;have hrun:(execOp a.eval o).run P w=.ok (.enter f (c.args.map a.eval)) w:=by unfold execOp;simp only[ho,resolve,hc,Act.eval,Deferred.ofValue,Sem.run_bind,Sem.run_pure,Result.andThen_ok,invoke,callFunc,run_program,hfn];simp[hname,hbody]
 unfold Oper.wp;rw[hrun,Oper.upon_enter];refine(hcall a w hst).mono ?_;rintro e w' ⟨v,σ',rfl,hR,h1,h2,h3,h4,h5⟩;exact hK _ _ _ _ ((hst.mZ h1 h2 h3 h4 h5).put hd fun g w=>by simp[Rep]) (h v σ' hR)
end
section
variable {P:Program} {N:Nat} {c:Code}
theorem HZ.calls {f:Nat} {fn:Func} {rs:List ResultVar} {ps:List PV} {args:Array Value} {w:World} {σ:Fgn} {Jm:Nat→Prop} (hf:P.funcs[f]?=some fn) (hb:fn.body=some c) (hN:fn.ntmps=N) (hrs:fn.results.toList=rs)
 (hσ:∀b,σ.bk b→b<w.heap.size) (hat:σ.at_ w) (hT:jv w σ.bk) (hJ:∀b,Jm b→b<w.heap.size) (hJσ:∀b,Jm b→¬σ.bk b) (hargs:bI (kG Jm) w ps args.toList) (hlen:ps.length≤N) (R:PV→Fgn→Prop)
 (h:HZ P N w.heap.size w c (fun x s' σ'=>(x=.normal∨x=.ret)∧(∃qs,eY P s' rs=some qs∧R (fG qs) σ')∧∀i,σ'.bk i→σ.bk i∨w.heap.size≤i) (bM ps) σ):
 Calls P f args w fun e w'=>∃v σ' p g,e=.returned v∧R p σ'∧Rep g w' p v∧Fr σ.bk w w'∧(∀i,σ'.bk i→i<w'.heap.size∧(σ.bk i∨w.heap.size≤i))∧σ'.at_ w':=by
 subst hN hrs;have hT0:jv w (fun _=>False):=hT.io fun _ _ q=>False.elim q;refine calls_of_wp hf hb (CWp.wp (h.go _ _ ⟨⟨_,w,_,ach hJ hT0 hargs hlen,⟨fun i hi e=>?_,fun i hi=>?_,fun i hi=>False.elim hi,hσ,Nat.le_refl _,Fr.refl _ _,fun t ht=>⟨ai4 hT0 t ht,hT.apart t ht⟩⟩⟩,hat⟩ _ fun x s' σ' a' w' hs' hk=>?_))
 ·rcases hi with hi|hi|hi
  ·exact False.elim hi
  ·exact hJσ i hi e
  ·exact False.elim hi
 ·rcases hi with hi|hi<;>exact False.elim hi
 ·obtain⟨hx,⟨qs,hres,hR⟩,hbb⟩:=hk
  obtain⟨⟨io,w0,g,hrel,hC⟩,hM'⟩:=hs';have hf1:Fr (fun i=>σ.bk i∨w.heap.size≤i) w0 w':=⟨hrel.fr.os,hrel.fr.tape,hrel.fr.output,hrel.fr.size,fun i hi hn=>hrel.fr.block i hi fun q=>hn (.inr (hC.lo i (.inl q)))⟩;have hfr:Fr σ.bk w w':=⟨hf1.os.trans hC.fr.os,hf1.tape.trans hC.fr.tape,hf1.output.trans hC.fr.output,Nat.le_trans hC.fr.size hf1.size,fun i hi hn=>by
   refine(hf1.block i (Nat.lt_of_lt_of_le hi hC.fr.size) fun q=>q.elim hn (by omega)).trans (hC.fr.block i hi fun q=>q.elim (fun q=>?_) (by omega));rcases hbb i q with q|q
   ·exact hn q
   ·omega⟩
  have hend:a'.defers=[]∧∃v,(results fn a'.tmps).run P w'=.ok v w'∧(∃v' σ' p g,Ending.returned v=.returned v'∧R p σ'∧Rep g w' p v'∧Fr σ.bk w w'∧(∀i,σ'.bk i→i<w'.heap.size∧(σ.bk i∨w.heap.size≤i))∧σ'.at_ w'):=by obtain⟨v,h1,h2⟩:=gD hrel hres;exact⟨hrel.df,v,h1,v,σ',fG qs,g,rfl,hR,h2,hfr,fun i hi=>⟨Nat.lt_of_lt_of_le (hC.hb i hi) hrel.fr.size,hbb i hi⟩,hM'⟩
  rcases hx with rfl|rfl<;>exact hend
theorem Rel.avt {io:IoS} {w0:World} {g:Gh} {s:AS} {a:Act} {w:World} (h:Rel io w0 N g s a w) {x:Operand} {q:PV} (hq:reify false 0 s.ob fuel (Proofs.YtmmafcjjlbgnkaaGreat.look s.tm x)=some q):Rep (kG fun i=>i<w.heap.size) w q (a.eval x):=by refine Rep.seen (fr:=false) (n:=0) (s:=s) (g':=kG fun i=>i<w.heap.size) (fun o c ho=>(h.ob o c ho).2.2.2) ⟨fun _=>⟨fun k b hb=>⟨rfl,h.lt k b hb⟩,fun o ho=>⟨rfl,?_⟩⟩,fun e=>by cases e⟩ fuel _ _ _ (h.look x) hq;obtain⟨c,hc⟩:=Option.isSome_iff_exists.1 ho;obtain⟨arr,ha,_⟩:=(h.ob o c hc).2.2.2.1;exact lt_of_heap ha
end
end
end Go.Proofs.YtmmafcjjlbgnkaaGreat
