/- What the proof rests on, part 6: contracts of functions. No condition beyond what each states. -/
import Derived.Test.YtmmafcjjlbgnkaaGreatDoorZBiE5
namespace Go.Proofs.YtmmafcjjlbgnkaaGreatDoor
open Go.RowKit
set_option linter.all false
set_option maxHeartbeats 32000000
noncomputable section
theorem aG6:bn (.int .i64 0)=.val (.int .i64 0):=rfl
theorem apD:aY Tryz.prog 3=some 1:=by kernel_rfl
theorem aG8:jH Tryz.prog 3=some false:=by kernel_rfl
theorem aE6:dO Tryz.prog 3=some 8:=by kernel_rfl
theorem aCr:zeroOf Tryz.prog 3=some (.int .i64 0):=by kernel_rfl
theorem aGo:Tryz.prog.underlying 3=some (.int .i64):=by kernel_rfl
theorem aG1:bn (.int .i64 0)=.val (.int .i64 0):=rfl
theorem aG7:fA Tryz.prog 3=false:=by kernel_rfl
theorem aG5:isStr Tryz.prog 3=false:=by kernel_rfl
theorem aGy:aY Tryz.prog 4=some 1:=by kernel_rfl
theorem aHk:jH Tryz.prog 4=some false:=by kernel_rfl
theorem aGM:Tryz.prog.underlying 4=some .bool:=by kernel_rfl
theorem aF6 {x y:Operand} {a b:Bool}:mq Tryz.prog .neq 4 x y (some (.bool a)) (some (.bool b))=some (.val (.bool (!(a==b)))):=awY aGM
theorem aHj:bn (.bool false)=.val (.bool false):=rfl
theorem aGK:aY Tryz.prog 5=some 1:=by kernel_rfl
theorem aGP:zeroOf Tryz.prog 5=some (.int .u8 0):=by kernel_rfl
theorem aFh:Tryz.prog.underlying 5=some (.int .u8):=by kernel_rfl
theorem aG2:bn (.int .u8 0)=.val (.int .u8 0):=rfl
theorem aHm:fA Tryz.prog 5=false:=by kernel_rfl
theorem aHf:isStr Tryz.prog 5=false:=by kernel_rfl
theorem aHi:bn (.agg #[.int .i64 0,.int .i64 0,.bool false,.int .u8 0])=.agg [.val (.int .i64 0),.val (.int .i64 0),.val (.bool false),.val (.int .u8 0)]:=rfl
theorem auj:aY Tryz.prog 9=some 1:=by kernel_rfl
theorem aG3:jH Tryz.prog 9=some false:=by kernel_rfl
theorem aFc:dO Tryz.prog 9=some 16:=by kernel_rfl
theorem aDx:zeroOf Tryz.prog 9=some (.string ByteArray.empty):=by kernel_rfl
theorem aEM:Tryz.prog.underlying 9=some .string:=by kernel_rfl
theorem aFt {ty:Nat} {s:ByteArray}:p8 Tryz.prog 9 ty (.val (.string s))=some (.val (.int .i64 s.size)):=aDu aEM
theorem aFl {s:ByteArray} {i:Int} (h0:0≤i) (h1:i<s.size):aEq Tryz.prog 9 (some (.string s)) (some (.int .i64 i))=some (.val (.int .u8 (at8 s i.toNat))):=aBw aEM h0 h1
theorem aHh:bn (.string ByteArray.empty)=.val (.string ByteArray.empty):=rfl
theorem aHo:isStr Tryz.prog 9=true:=by kernel_rfl
theorem aFD:bn (.int .u64 0)=.val (.int .u64 0):=rfl
theorem aFU:bn (.agg #[.string ByteArray.empty,.int .u64 0])=.agg [.val (.string ByteArray.empty),.val (.int .u64 0)]:=rfl
theorem aFo:bn (.int .i32 0)=.val (.int .i32 0):=rfl
theorem aER:bn (.agg #[.slice none 0 0,.slice none 0 0,.int .i64 0,.int .i64 0,.int .i64 0])=.agg [.val (.slice none 0 0),.val (.slice none 0 0),.val (.int .i64 0),.val (.int .i64 0),.val (.int .i64 0)]:=rfl
theorem aFY:aY Tryz.prog 26=some 5:=by kernel_rfl
theorem aGj:jH Tryz.prog 26=some true:=by kernel_rfl
theorem aCY:zeroOf Tryz.prog 26=some (.agg #[.slice none 0 0,.slice none 0 0,.int .i64 0,.int .i64 0,.int .i64 0]):=by kernel_rfl
theorem au2:aV Tryz.prog 26 0=some 0:=by kernel_rfl
theorem avw:aV Tryz.prog 26 1=some 1:=by kernel_rfl
theorem ay7:aV Tryz.prog 26 2=some 2:=by kernel_rfl
theorem ayj:aV Tryz.prog 26 3=some 3:=by kernel_rfl
theorem aw9:aV Tryz.prog 26 4=some 4:=by kernel_rfl
theorem aFP:bn (.agg #[.slice none 0 0,.slice none 0 0,.int .i64 0,.int .i64 0,.int .i64 0])=.agg [.val (.slice none 0 0),.val (.slice none 0 0),.val (.int .i64 0),.val (.int .i64 0),.val (.int .i64 0)]:=rfl
theorem aGa {Γ:Ctx} (s:AS) (ρ:Operand→PV):bf Tryz.prog Γ s ρ (.alloc 26)=some (.own s.nx 5 0 0,upd s.ob s.nx (some (26,5,[.agg [.val (.slice none 0 0),.val (.slice none 0 0),.val (.int .i64 0),.val (.int .i64 0),.val (.int .i64 0)]])),s.nx+1):=adr aCY (by kernel_rfl) rfl rfl s ρ
theorem aFm:aY Tryz.prog 38=some 5:=by kernel_rfl
theorem aFi:jH Tryz.prog 38=some true:=by kernel_rfl
theorem axm:aV Tryz.prog 38 0=some 0:=by kernel_rfl
theorem awz:aV Tryz.prog 38 1=some 1:=by kernel_rfl
theorem auR:aV Tryz.prog 38 2=some 2:=by kernel_rfl
theorem avK:aV Tryz.prog 38 3=some 3:=by kernel_rfl
theorem awM:aV Tryz.prog 38 4=some 4:=by kernel_rfl
theorem aFd:bn (.agg #[.slice none 0 0,.slice none 0 0,.int .i64 0,.int .i64 0,.int .i64 0])=.agg [.val (.slice none 0 0),.val (.slice none 0 0),.val (.int .i64 0),.val (.int .i64 0),.val (.int .i64 0)]:=rfl
theorem aFQ:bn (.agg #[.int .i64 0,.int .i64 0,.int .i64 0,.int .i64 0])=.agg [.val (.int .i64 0),.val (.int .i64 0),.val (.int .i64 0),.val (.int .i64 0)]:=rfl
theorem aqb:aY Tryz.prog 60=some 4:=by kernel_rfl
theorem aEU:jH Tryz.prog 60=some true:=by kernel_rfl
theorem azv:dO Tryz.prog 60=some 32:=by kernel_rfl
theorem ak4:zeroOf Tryz.prog 60=some (.agg #[.int .i64 0,.int .i64 0,.int .i64 0,.int .i64 0]):=by kernel_rfl
theorem axb:aV Tryz.prog 60 0=some 0:=by kernel_rfl
theorem axf:aV Tryz.prog 60 1=some 1:=by kernel_rfl
theorem avC:aV Tryz.prog 60 2=some 2:=by kernel_rfl
theorem axU:aV Tryz.prog 60 3=some 3:=by kernel_rfl
theorem aEd:bZ Tryz.prog 60=some #[(0,1),(1,1),(2,1),(3,1)]:=by kernel_rfl
theorem aGf (ps:List (Nat×PV)):dZ Tryz.prog 60 ps=(kG (plF [(0,1),(1,1),(2,1),(3,1)]) [.val (.int .i64 0),.val (.int .i64 0),.val (.int .i64 0),.val (.int .i64 0)] ps).map .agg:=afk ak4 rfl aEd ps
theorem aEZ:bn (.agg #[.int .i64 0,.int .i64 0,.int .i64 0,.int .i64 0])=.agg [.val (.int .i64 0),.val (.int .i64 0),.val (.int .i64 0),.val (.int .i64 0)]:=rfl
theorem aEO {Γ:Ctx} (s:AS) (ρ:Operand→PV):bf Tryz.prog Γ s ρ (.alloc 60)=some (.own s.nx 4 0 0,upd s.ob s.nx (some (60,4,[.agg [.val (.int .i64 0),.val (.int .i64 0),.val (.int .i64 0),.val (.int .i64 0)]])),s.nx+1):=adr ak4 (by kernel_rfl) rfl rfl s ρ
theorem aFu {Γ:Ctx} {ob:bG} {ρ:Operand→PV} {ty:Nat}:aZ Tryz.prog Γ ob ρ ty (.build 60 #[])=some (.agg [.val (.int .i64 0),.val (.int .i64 0),.val (.int .i64 0),.val (.int .i64 0)]):=(show dZ Tryz.prog 60 []=some (.agg [.val (.int .i64 0),.val (.int .i64 0),.val (.int .i64 0),.val (.int .i64 0)])from by kernel_rfl)
theorem aF9:bn (.agg #[.string ByteArray.empty,.int .i64 0])=.agg [.val (.string ByteArray.empty),.val (.int .i64 0)]:=rfl
theorem aiK:aY Tryz.prog 71=some 2:=by kernel_rfl
theorem aFf:jH Tryz.prog 71=some true:=by kernel_rfl
theorem aDc:dO Tryz.prog 71=some 24:=by kernel_rfl
theorem ai9:zeroOf Tryz.prog 71=some (.agg #[.string ByteArray.empty,.int .i64 0]):=by kernel_rfl
theorem axI:aV Tryz.prog 71 0=some 0:=by kernel_rfl
theorem aym:aV Tryz.prog 71 1=some 1:=by kernel_rfl
theorem azW:bZ Tryz.prog 71=some #[(0,1),(1,1)]:=by kernel_rfl
theorem aED (ps:List (Nat×PV)):dZ Tryz.prog 71 ps=(kG (plF [(0,1),(1,1)]) [.val (.string ByteArray.empty),.val (.int .i64 0)] ps).map .agg:=afk ai9 rfl azW ps
theorem aEK:bn (.agg #[.string ByteArray.empty,.int .i64 0])=.agg [.val (.string ByteArray.empty),.val (.int .i64 0)]:=rfl
theorem aFj {Γ:Ctx} (s:AS) (ρ:Operand→PV):bf Tryz.prog Γ s ρ (.alloc 71)=some (.own s.nx 2 0 0,upd s.ob s.nx (some (71,2,[.agg [.val (.string ByteArray.empty),.val (.int .i64 0)]])),s.nx+1):=adr ai9 (by kernel_rfl) rfl rfl s ρ
theorem aFF:bn (.agg #[.slice none 0 0,.int .i64 0])=.agg [.val (.slice none 0 0),.val (.int .i64 0)]:=rfl
theorem aF7:bn (.agg #[.slice none 0 0,.int .i64 0])=.agg [.val (.slice none 0 0),.val (.int .i64 0)]:=rfl
theorem aGu:bn (.agg #[.int .i64 0,.bool false,.int .i64 0,.int .i64 0])=.agg [.val (.int .i64 0),.val (.bool false),.val (.int .i64 0),.val (.int .i64 0)]:=rfl
theorem ai6:aY Tryz.prog 88=some 4:=by kernel_rfl
theorem aFA:jH Tryz.prog 88=some true:=by kernel_rfl
theorem aB2:dO Tryz.prog 88=some 32:=by kernel_rfl
theorem ajo:zeroOf Tryz.prog 88=some (.agg #[.int .i64 0,.bool false,.int .i64 0,.int .i64 0]):=by kernel_rfl
theorem ayS:aV Tryz.prog 88 0=some 0:=by kernel_rfl
theorem avO:aV Tryz.prog 88 1=some 1:=by kernel_rfl
theorem ayR:aV Tryz.prog 88 2=some 2:=by kernel_rfl
theorem ayh:aV Tryz.prog 88 3=some 3:=by kernel_rfl
theorem aAL:bZ Tryz.prog 88=some #[(0,1),(1,1),(2,1),(3,1)]:=by kernel_rfl
theorem aFL (ps:List (Nat×PV)):dZ Tryz.prog 88 ps=(kG (plF [(0,1),(1,1),(2,1),(3,1)]) [.val (.int .i64 0),.val (.bool false),.val (.int .i64 0),.val (.int .i64 0)] ps).map .agg:=afk ajo rfl aAL ps
theorem aE8:bn (.agg #[.int .i64 0,.bool false,.int .i64 0,.int .i64 0])=.agg [.val (.int .i64 0),.val (.bool false),.val (.int .i64 0),.val (.int .i64 0)]:=rfl
theorem aFH {Γ:Ctx} (s:AS) (ρ:Operand→PV):bf Tryz.prog Γ s ρ (.alloc 88)=some (.own s.nx 4 0 0,upd s.ob s.nx (some (88,4,[.agg [.val (.int .i64 0),.val (.bool false),.val (.int .i64 0),.val (.int .i64 0)]])),s.nx+1):=adr ajo (by kernel_rfl) rfl rfl s ρ
theorem aAw:bn (.agg #[.int .i64 0,.int .i64 0,.int .i64 0,.int .i64 0,.int .i64 0,.int .i64 0,.bool false])=.agg [.val (.int .i64 0),.val (.int .i64 0),.val (.int .i64 0),.val (.int .i64 0),.val (.int .i64 0),.val (.int .i64 0),.val (.bool false)]:=rfl
theorem zT:aY Tryz.prog 111=some 7:=by kernel_rfl
theorem aBF:jH Tryz.prog 111=some true:=by kernel_rfl
theorem atl:dO Tryz.prog 111=some 56:=by kernel_rfl
theorem xU:zeroOf Tryz.prog 111=some (.agg #[.int .i64 0,.int .i64 0,.int .i64 0,.int .i64 0,.int .i64 0,.int .i64 0,.bool false]):=by kernel_rfl
theorem aqM:aV Tryz.prog 111 0=some 0:=by kernel_rfl
theorem aqP:aV Tryz.prog 111 1=some 1:=by kernel_rfl
theorem apC:aV Tryz.prog 111 2=some 5:=by kernel_rfl
theorem aqE:aV Tryz.prog 111 3=some 6:=by kernel_rfl
theorem atv:bZ Tryz.prog 111=some #[(0,1),(1,4),(5,1),(6,1)]:=by kernel_rfl
theorem aB4 (ps:List (Nat×PV)):dZ Tryz.prog 111 ps=(kG (plF [(0,1),(1,4),(5,1),(6,1)]) [.val (.int .i64 0),.val (.int .i64 0),.val (.int .i64 0),.val (.int .i64 0),.val (.int .i64 0),.val (.int .i64 0),.val (.bool false)] ps).map .agg:=afk xU rfl atv ps
theorem aAa:bn (.agg #[.int .i64 0,.int .i64 0,.int .i64 0,.int .i64 0,.int .i64 0,.int .i64 0,.bool false])=.agg [.val (.int .i64 0),.val (.int .i64 0),.val (.int .i64 0),.val (.int .i64 0),.val (.int .i64 0),.val (.int .i64 0),.val (.bool false)]:=rfl
theorem aCe {Γ:Ctx} (s:AS) (ρ:Operand→PV):bf Tryz.prog Γ s ρ (.alloc 111)=some (.own s.nx 7 0 0,upd s.ob s.nx (some (111,7,[.agg [.val (.int .i64 0),.val (.int .i64 0),.val (.int .i64 0),.val (.int .i64 0),.val (.int .i64 0),.val (.int .i64 0),.val (.bool false)]])),s.nx+1):=adr xU (by kernel_rfl) rfl rfl s ρ
theorem aBQ:bn (.int .u64 0)=.val (.int .u64 0):=rfl
theorem adA:aY Tryz.prog 136=some 2:=by kernel_rfl
theorem aDY:jH Tryz.prog 136=some true:=by kernel_rfl
theorem atG:dO Tryz.prog 136=some 16:=by kernel_rfl
theorem acs:zeroOf Tryz.prog 136=some (.agg #[.int .i64 0,.int .i64 0]):=by kernel_rfl
theorem atI:Tryz.prog.underlying 136=some (.array 2 3):=by kernel_rfl
theorem av3 {o sz j f:Nat} {i:Int} (h0:0≤i) (h1:i<2):aI Tryz.prog 136 (.own o sz j f) i=some (.own o sz j (f+i.toNat)):=by rw[anY atI apD h0 h1,Nat.mul_one]
theorem aDT (ps:List (Nat×PV)):dZ Tryz.prog 136 ps=(kG (plF [(0,1),(1,1)]) [.val (.int .i64 0),.val (.int .i64 0)] ps).map .agg:=aDH acs rfl (by kernel_rfl) (pl:=#[(0,1),(1,1)]) (by kernel_rfl) ps
theorem aCJ:bn (.agg #[.int .i64 0,.int .i64 0])=.agg [.val (.int .i64 0),.val (.int .i64 0)]:=rfl
theorem aD2 {Γ:Ctx} (s:AS) (ρ:Operand→PV):bf Tryz.prog Γ s ρ (.alloc 136)=some (.own s.nx 2 0 0,upd s.ob s.nx (some (136,2,[.agg [.val (.int .i64 0),.val (.int .i64 0)]])),s.nx+1):=adr acs (by kernel_rfl) rfl rfl s ρ
theorem aDm:bn (.agg #[.int .i64 0,.bool false,.int .i64 0])=.agg [.val (.int .i64 0),.val (.bool false),.val (.int .i64 0)]:=rfl
theorem azU:aY Tryz.prog 145=some 3:=by kernel_rfl
theorem aCb:jH Tryz.prog 145=some true:=by kernel_rfl
theorem zO:zeroOf Tryz.prog 145=some (.agg #[.int .i64 0,.bool false,.int .i64 0]):=by kernel_rfl
theorem arh:aV Tryz.prog 145 0=some 0:=by kernel_rfl
theorem ao8:aV Tryz.prog 145 1=some 1:=by kernel_rfl
theorem aqr:aV Tryz.prog 145 2=some 2:=by kernel_rfl
theorem atX:bZ Tryz.prog 145=some #[(0,1),(1,1),(2,1)]:=by kernel_rfl
theorem aAE (ps:List (Nat×PV)):dZ Tryz.prog 145 ps=(kG (plF [(0,1),(1,1),(2,1)]) [.val (.int .i64 0),.val (.bool false),.val (.int .i64 0)] ps).map .agg:=afk zO rfl atX ps
theorem aC4:bn (.agg #[.int .i64 0,.bool false,.int .i64 0])=.agg [.val (.int .i64 0),.val (.bool false),.val (.int .i64 0)]:=rfl
theorem aBK {Γ:Ctx} (s:AS) (ρ:Operand→PV):bf Tryz.prog Γ s ρ (.alloc 145)=some (.own s.nx 3 0 0,upd s.ob s.nx (some (145,3,[.agg [.val (.int .i64 0),.val (.bool false),.val (.int .i64 0)]])),s.nx+1):=adr zO (by kernel_rfl) rfl rfl s ρ
theorem azX {Γ:Ctx} {ob:bG} {ρ:Operand→PV} {ty:Nat}:aZ Tryz.prog Γ ob ρ ty (.build 145 #[])=some (.agg [.val (.int .i64 0),.val (.bool false),.val (.int .i64 0)]):=(show dZ Tryz.prog 145 []=some (.agg [.val (.int .i64 0),.val (.bool false),.val (.int .i64 0)])from by kernel_rfl)
theorem atZ:Tryz.prog.underlying 145=some (.struct (Go.Program.fieldsOf Tryz.prog 145)):=by kernel_rfl
theorem aC2:bn (.agg #[.int .i64 0,.int .i64 0,.bool false,.int .i64 0])=.agg [.val (.int .i64 0),.val (.int .i64 0),.val (.bool false),.val (.int .i64 0)]:=rfl
theorem aBR:aY Tryz.prog 147=some 4:=by kernel_rfl
theorem aCg:jH Tryz.prog 147=some true:=by kernel_rfl
theorem zR:zeroOf Tryz.prog 147=some (.agg #[.int .i64 0,.int .i64 0,.bool false,.int .i64 0]):=by kernel_rfl
theorem asS:aV Tryz.prog 147 0=some 0:=by kernel_rfl
theorem aqf:aV Tryz.prog 147 1=some 1:=by kernel_rfl
theorem aty:bZ Tryz.prog 147=some #[(0,1),(1,3)]:=by kernel_rfl
theorem aBl (ps:List (Nat×PV)):dZ Tryz.prog 147 ps=(kG (plF [(0,1),(1,3)]) [.val (.int .i64 0),.val (.int .i64 0),.val (.bool false),.val (.int .i64 0)] ps).map .agg:=afk zR rfl aty ps
theorem aAG:bn (.agg #[.int .i64 0,.int .i64 0,.bool false,.int .i64 0])=.agg [.val (.int .i64 0),.val (.int .i64 0),.val (.bool false),.val (.int .i64 0)]:=rfl
theorem aAX {Γ:Ctx} (s:AS) (ρ:Operand→PV):bf Tryz.prog Γ s ρ (.alloc 147)=some (.own s.nx 4 0 0,upd s.ob s.nx (some (147,4,[.agg [.val (.int .i64 0),.val (.int .i64 0),.val (.bool false),.val (.int .i64 0)]])),s.nx+1):=adr zR (by kernel_rfl) rfl rfl s ρ
theorem aC3 {Γ:Ctx} {ob:bG} {ρ:Operand→PV} {ty:Nat}:aZ Tryz.prog Γ ob ρ ty (.build 147 #[])=some (.agg [.val (.int .i64 0),.val (.int .i64 0),.val (.bool false),.val (.int .i64 0)]):=(show dZ Tryz.prog 147 []=some (.agg [.val (.int .i64 0),.val (.int .i64 0),.val (.bool false),.val (.int .i64 0)])from by kernel_rfl)
theorem akF:aY Tryz.prog 153=some 4:=by kernel_rfl
theorem aum:dO Tryz.prog 153=some 4:=by kernel_rfl
theorem atK:zeroOf Tryz.prog 153=some (.agg #[.bool false,.bool false,.bool false,.bool false]):=by kernel_rfl
theorem auv:Tryz.prog.underlying 153=some (.array 4 4):=by kernel_rfl
theorem au8 {o sz j f:Nat} {i:Int} (h0:0≤i) (h1:i<4):aI Tryz.prog 153 (.own o sz j f) i=some (.own o sz j (f+i.toNat)):=by rw[anY auv aGy h0 h1,Nat.mul_one]
theorem aBU:bn (.agg #[.bool false,.bool false,.bool false,.bool false])=.agg [.val (.bool false),.val (.bool false),.val (.bool false),.val (.bool false)]:=rfl
theorem al6:aY Tryz.prog 158=some 4:=by kernel_rfl
theorem atj:dO Tryz.prog 158=some 32:=by kernel_rfl
theorem auo:zeroOf Tryz.prog 158=some (.agg #[.int .i64 0,.int .i64 0,.int .i64 0,.int .i64 0]):=by kernel_rfl
theorem aud:Tryz.prog.underlying 158=some (.array 4 3):=by kernel_rfl
theorem axT {o sz j f:Nat} {i:Int} (h0:0≤i) (h1:i<4):aI Tryz.prog 158 (.own o sz j f) i=some (.own o sz j (f+i.toNat)):=by rw[anY aud apD h0 h1,Nat.mul_one]
theorem aEa:bn (.agg #[.int .i64 0,.int .i64 0,.int .i64 0,.int .i64 0])=.agg [.val (.int .i64 0),.val (.int .i64 0),.val (.int .i64 0),.val (.int .i64 0)]:=rfl
theorem aDo:bn (.agg #[.int .u8 0,.int .u8 0,.int .u8 0,.int .u8 0,.int .u8 0,.int .u8 0,.int .u8 0,.int .u8 0,.int .u8 0,.int .u8 0,.int .u8 0,.int .u8 0,.int .u8 0,.int .u8 0,.int .u8 0,.int .u8 0,.int .u8 0,.int .u8 0,.int .u8 0,.int .u8 0,.int .u8 0,.int .u8 0,.int .u8 0,.int .u8 0])=.agg [.val (.int .u8 0),.val (.int .u8 0),.val (.int .u8 0),.val (.int .u8 0),.val (.int .u8 0),.val (.int .u8 0),.val (.int .u8 0),.val (.int .u8 0),.val (.int .u8 0),.val (.int .u8 0),.val (.int .u8 0),.val (.int .u8 0),.val (.int .u8 0),.val (.int .u8 0),.val (.int .u8 0),.val (.int .u8 0),.val (.int .u8 0),.val (.int .u8 0),.val (.int .u8 0),.val (.int .u8 0),.val (.int .u8 0),.val (.int .u8 0),.val (.int .u8 0),.val (.int .u8 0)]:=rfl
theorem aCj:bn (.int .u64 0)=.val (.int .u64 0):=rfl
theorem aCG:bn (.int .i64 0)=.val (.int .i64 0):=rfl
theorem aBH:bn (.int .u32 0)=.val (.int .u32 0):=rfl
theorem azO:bn (.agg #[.int .u64 0,.int .u64 0,.int .u64 0,.int .u64 0,.int .u64 0,.int .u64 0,.int .u64 0,.int .u64 0,.int .u64 0,.int .u64 0,.int .u64 0,.int .u64 0,.int .u64 0,.int .u64 0,.int .u64 0,.int .u64 0,.int .u64 0,.int .u64 0,.int .u64 0,.int .u64 0])=.agg [.val (.int .u64 0),.val (.int .u64 0),.val (.int .u64 0),.val (.int .u64 0),.val (.int .u64 0),.val (.int .u64 0),.val (.int .u64 0),.val (.int .u64 0),.val (.int .u64 0),.val (.int .u64 0),.val (.int .u64 0),.val (.int .u64 0),.val (.int .u64 0),.val (.int .u64 0),.val (.int .u64 0),.val (.int .u64 0),.val (.int .u64 0),.val (.int .u64 0),.val (.int .u64 0),.val (.int .u64 0)]:=rfl
theorem aA8:bn (.int .u64 0)=.val (.int .u64 0):=rfl
theorem azD:bn (.agg #[.int .u8 0,.int .u8 0])=.agg [.val (.int .u8 0),.val (.int .u8 0)]:=rfl
theorem aBo:bn (.agg #[.int .u8 0,.int .u8 0])=.agg [.val (.int .u8 0),.val (.int .u8 0)]:=rfl
theorem aA3:bn (.agg #[.int .u8 0,.int .u8 0,.int .u8 0,.int .u8 0,.int .u8 0,.int .u8 0,.int .u8 0,.int .u8 0,.int .u8 0,.int .u8 0,.int .u8 0,.int .u8 0,.int .u8 0,.int .u8 0,.int .u8 0,.int .u8 0,.int .u8 0,.int .u8 0,.int .u8 0,.int .u8 0,.int .u8 0,.int .u8 0,.int .u8 0,.int .u8 0,.int .u8 0,.int .u8 0,.int .u8 0,.int .u8 0,.int .u8 0,.int .u8 0,.int .u8 0,.int .u8 0])=.agg [.val (.int .u8 0),.val (.int .u8 0),.val (.int .u8 0),.val (.int .u8 0),.val (.int .u8 0),.val (.int .u8 0),.val (.int .u8 0),.val (.int .u8 0),.val (.int .u8 0),.val (.int .u8 0),.val (.int .u8 0),.val (.int .u8 0),.val (.int .u8 0),.val (.int .u8 0),.val (.int .u8 0),.val (.int .u8 0),.val (.int .u8 0),.val (.int .u8 0),.val (.int .u8 0),.val (.int .u8 0),.val (.int .u8 0),.val (.int .u8 0),.val (.int .u8 0),.val (.int .u8 0),.val (.int .u8 0),.val (.int .u8 0),.val (.int .u8 0),.val (.int .u8 0),.val (.int .u8 0),.val (.int .u8 0),.val (.int .u8 0),.val (.int .u8 0)]:=rfl
theorem aAd:bn (.agg #[.string ByteArray.empty])=.agg [.val (.string ByteArray.empty)]:=rfl
theorem azJ:bn (.agg #[.string ByteArray.empty])=.agg [.val (.string ByteArray.empty)]:=rfl
theorem aAW:bn (.agg #[.int .u8 0,.int .u8 0,.int .u8 0,.int .u8 0,.int .u8 0,.int .u8 0,.int .u8 0,.int .u8 0,.int .u8 0,.int .u8 0,.int .u8 0,.int .u8 0,.int .u8 0,.int .u8 0,.int .u8 0,.int .u8 0,.int .u8 0,.int .u8 0,.int .u8 0,.int .u8 0,.int .u8 0,.int .u8 0,.int .u8 0,.int .u8 0,.int .u8 0,.int .u8 0,.int .u8 0,.int .u8 0,.int .u8 0,.int .u8 0,.int .u8 0,.int .u8 0])=.agg [.val (.int .u8 0),.val (.int .u8 0),.val (.int .u8 0),.val (.int .u8 0),.val (.int .u8 0),.val (.int .u8 0),.val (.int .u8 0),.val (.int .u8 0),.val (.int .u8 0),.val (.int .u8 0),.val (.int .u8 0),.val (.int .u8 0),.val (.int .u8 0),.val (.int .u8 0),.val (.int .u8 0),.val (.int .u8 0),.val (.int .u8 0),.val (.int .u8 0),.val (.int .u8 0),.val (.int .u8 0),.val (.int .u8 0),.val (.int .u8 0),.val (.int .u8 0),.val (.int .u8 0),.val (.int .u8 0),.val (.int .u8 0),.val (.int .u8 0),.val (.int .u8 0),.val (.int .u8 0),.val (.int .u8 0),.val (.int .u8 0),.val (.int .u8 0)]:=rfl
theorem azN:bn (.agg #[.int .u8 0,.int .u8 0,.int .u8 0,.int .u8 0,.int .u8 0,.int .u8 0,.int .u8 0,.int .u8 0,.int .u8 0,.int .u8 0,.int .u8 0,.int .u8 0,.int .u8 0,.int .u8 0,.int .u8 0,.int .u8 0,.int .u8 0,.int .u8 0,.int .u8 0,.int .u8 0,.int .u8 0,.int .u8 0,.int .u8 0,.int .u8 0,.int .u8 0,.int .u8 0,.int .u8 0,.int .u8 0,.int .u8 0,.int .u8 0,.int .u8 0,.int .u8 0,.int .u8 0,.int .u8 0,.int .u8 0,.int .u8 0,.int .u8 0,.int .u8 0,.int .u8 0,.int .u8 0,.int .u8 0,.int .u8 0,.int .u8 0,.int .u8 0,.int .u8 0,.int .u8 0,.int .u8 0,.int .u8 0,.int .u8 0,.int .u8 0,.int .u8 0,.int .u8 0,.int .u8 0,.int .u8 0,.int .u8 0,.int .u8 0,.int .u8 0,.int .u8 0,.int .u8 0,.int .u8 0,.int .u8 0,.int .u8 0,.int .u8 0,.int .u8 0])=.agg [.val (.int .u8 0),.val (.int .u8 0),.val (.int .u8 0),.val (.int .u8 0),.val (.int .u8 0),.val (.int .u8 0),.val (.int .u8 0),.val (.int .u8 0),.val (.int .u8 0),.val (.int .u8 0),.val (.int .u8 0),.val (.int .u8 0),.val (.int .u8 0),.val (.int .u8 0),.val (.int .u8 0),.val (.int .u8 0),.val (.int .u8 0),.val (.int .u8 0),.val (.int .u8 0),.val (.int .u8 0),.val (.int .u8 0),.val (.int .u8 0),.val (.int .u8 0),.val (.int .u8 0),.val (.int .u8 0),.val (.int .u8 0),.val (.int .u8 0),.val (.int .u8 0),.val (.int .u8 0),.val (.int .u8 0),.val (.int .u8 0),.val (.int .u8 0),.val (.int .u8 0),.val (.int .u8 0),.val (.int .u8 0),.val (.int .u8 0),.val (.int .u8 0),.val (.int .u8 0),.val (.int .u8 0),.val (.int .u8 0),.val (.int .u8 0),.val (.int .u8 0),.val (.int .u8 0),.val (.int .u8 0),.val (.int .u8 0),.val (.int .u8 0),.val (.int .u8 0),.val (.int .u8 0),.val (.int .u8 0),.val (.int .u8 0),.val (.int .u8 0),.val (.int .u8 0),.val (.int .u8 0),.val (.int .u8 0),.val (.int .u8 0),.val (.int .u8 0),.val (.int .u8 0),.val (.int .u8 0),.val (.int .u8 0),.val (.int .u8 0),.val (.int .u8 0),.val (.int .u8 0),.val (.int .u8 0),.val (.int .u8 0)]:=rfl
theorem aAz:cZ Tryz.prog 22=some 5:=by kernel_rfl
theorem aE9:bn (.slice none 0 0)=.val (.slice none 0 0):=rfl
theorem aEE:fA Tryz.prog 22=true:=by kernel_rfl
theorem ad3:aY Tryz.prog 24=some 1:=by kernel_rfl
theorem aGh:jH Tryz.prog 24=some false:=by kernel_rfl
theorem ayJ:dO Tryz.prog 24=some 24:=by kernel_rfl
theorem ako:zeroOf Tryz.prog 24=some (.slice none 0 0):=by kernel_rfl
theorem aoi:Tryz.prog.underlying 24=some (.slice 9):=by kernel_rfl
theorem aeF:cZ Tryz.prog 24=some 9:=by kernel_rfl
theorem aFW {k:Bool} {es:List PV} {i:Int} (h0:0≤i) (h1:i<(es.length:Int)):aI Tryz.prog 24 (.lst k 1 es) i=some (.ptr k ((es[i.toNat]?).getD .dead) 0):=uq aoi auj h0 h1
theorem aCT {o j n:Nat} {i:Int} (h0:0≤i) (h1:i<(n:Int)):aI Tryz.prog 24 (.row o 1 j n) i=some (.own o 1 (j+i.toNat) 0):=wQ aoi auj h0 h1
theorem aF2 {k:Bool} {es:List PV} {lo hi:Option Int} (h0:0≤lo.getD 0) (h1:lo.getD 0≤hi.getD es.length) (h2:hi.getD es.length≤es.length):j6 Tryz.prog 24 (.lst k 1 es) lo hi=some (.lst k 1 ((es.drop (lo.getD 0).toNat).take ((hi.getD es.length).toNat-(lo.getD 0).toNat))):=atL aoi auj h0 h1 h2
theorem aA2 {ty sz:Nat} {k:Bool} {es:List PV}:p8 Tryz.prog 24 ty (.lst k sz es)=some (.val (.int .i64 es.length)):=uF aeF
theorem aBi {ty o sz i n:Nat}:p8 Tryz.prog 24 ty (.row o sz i n)=some (.val (.int .i64 n)):=zM aeF
theorem aC7 {ty:Nat}:p8 Tryz.prog 24 ty (.val (.slice none 0 0))=some (.val (.int .i64 0)):=ahO aoi
theorem aGi:bn (.slice none 0 0)=.val (.slice none 0 0):=rfl
theorem aFs {Γ:Ctx} (s:AS) (ρ:Operand→PV) (l c:Operand):bf Tryz.prog Γ s ρ (.makeSlice 24 l c)=arR 9 1 16 (.string ByteArray.empty) s (ρ l) (ρ c):=anN aeF aDx auj aFc (by kernel_rfl) rfl s ρ l c
theorem azM {Γ:Ctx} (s:AS) (ρ:Operand→PV) (x y:Operand):bf Tryz.prog Γ s ρ (.call {callee:=.builtin .append,args:=#[x,y],argTypes:=#[24,24]})=agA 9 1 16 s.nx s.ob (ρ x) (ab8 s.ob (ρ x)) (bF s.ob 1 (ρ y)):=uz aeF aDx auj aFc (by decide) rfl s ρ x y
theorem ayL:Tryz.prog.underlying 48=some (.slice 3):=by kernel_rfl
theorem aeP:cZ Tryz.prog 48=some 3:=by kernel_rfl
theorem aGt {k:Bool} {es:List PV} {i:Int} (h0:0≤i) (h1:i<(es.length:Int)):aI Tryz.prog 48 (.lst k 1 es) i=some (.ptr k ((es[i.toNat]?).getD .dead) 0):=uq ayL apD h0 h1
theorem aAC {o j n:Nat} {i:Int} (h0:0≤i) (h1:i<(n:Int)):aI Tryz.prog 48 (.row o 1 j n) i=some (.own o 1 (j+i.toNat) 0):=wQ ayL apD h0 h1
theorem azs {ty sz:Nat} {k:Bool} {es:List PV}:p8 Tryz.prog 48 ty (.lst k sz es)=some (.val (.int .i64 es.length)):=uF aeP
theorem aBk {ty o sz i n:Nat}:p8 Tryz.prog 48 ty (.row o sz i n)=some (.val (.int .i64 n)):=zM aeP
theorem aF4:bn (.slice none 0 0)=.val (.slice none 0 0):=rfl
theorem aGn {Γ:Ctx} (s:AS) (ρ:Operand→PV) (l c:Operand):bf Tryz.prog Γ s ρ (.makeSlice 48 l c)=arR 3 1 8 (.int .i64 0) s (ρ l) (ρ c):=anN aeP aCr apD aE6 (by kernel_rfl) rfl s ρ l c
theorem azS {Γ:Ctx} (s:AS) (ρ:Operand→PV) (x y:Operand):bf Tryz.prog Γ s ρ (.call {callee:=.builtin .append,args:=#[x,y],argTypes:=#[48,48]})=agA 3 1 8 s.nx s.ob (ρ x) (ab8 s.ob (ρ x)) (bF s.ob 1 (ρ y)):=uz aeP aCr apD aE6 (by decide) rfl s ρ x y
theorem asK:Tryz.prog.underlying 53=some (.slice 88):=by kernel_rfl
theorem aiq:cZ Tryz.prog 53=some 88:=by kernel_rfl
theorem aFv {k:Bool} {es:List PV} {i:Int} (h0:0≤i) (h1:i<(es.length:Int)):aI Tryz.prog 53 (.lst k 4 es) i=some (.ptr k ((es[i.toNat]?).getD .dead) 0):=uq asK ai6 h0 h1
theorem aEF {k:Bool} {es:List PV} {lo hi:Option Int} (h0:0≤lo.getD 0) (h1:lo.getD 0≤hi.getD es.length) (h2:hi.getD es.length≤es.length):j6 Tryz.prog 53 (.lst k 4 es) lo hi=some (.lst k 4 ((es.drop (lo.getD 0).toNat).take ((hi.getD es.length).toNat-(lo.getD 0).toNat))):=atL asK ai6 h0 h1 h2
theorem aDL {ty sz:Nat} {k:Bool} {es:List PV}:p8 Tryz.prog 53 ty (.lst k sz es)=some (.val (.int .i64 es.length)):=uF aiq
theorem aDj {ty o sz i n:Nat}:p8 Tryz.prog 53 ty (.row o sz i n)=some (.val (.int .i64 n)):=zM aiq
theorem aBL {ty:Nat}:p8 Tryz.prog 53 ty (.val (.slice none 0 0))=some (.val (.int .i64 0)):=ahO asK
theorem aE0:bn (.slice none 0 0)=.val (.slice none 0 0):=rfl
theorem azF {Γ:Ctx} (s:AS) (ρ:Operand→PV) (x y:Operand):bf Tryz.prog Γ s ρ (.call {callee:=.builtin .append,args:=#[x,y],argTypes:=#[53,53]})=agA 88 4 32 s.nx s.ob (ρ x) (ab8 s.ob (ρ x)) (bF s.ob 4 (ρ y)):=uz aiq ajo ai6 aB2 (by decide) rfl s ρ x y
theorem axq:Tryz.prog.underlying 68=some (.slice 71):=by kernel_rfl
theorem ai8:cZ Tryz.prog 68=some 71:=by kernel_rfl
theorem aFr {k:Bool} {es:List PV} {i:Int} (h0:0≤i) (h1:i<(es.length:Int)):aI Tryz.prog 68 (.lst k 2 es) i=some (.ptr k ((es[i.toNat]?).getD .dead) 0):=uq axq aiK h0 h1
theorem aBe {o j n:Nat} {i:Int} (h0:0≤i) (h1:i<(n:Int)):aI Tryz.prog 68 (.row o 2 j n) i=some (.own o 2 (j+i.toNat) 0):=wQ axq aiK h0 h1
theorem aBY {ty sz:Nat} {k:Bool} {es:List PV}:p8 Tryz.prog 68 ty (.lst k sz es)=some (.val (.int .i64 es.length)):=uF ai8
theorem aAb {ty o sz i n:Nat}:p8 Tryz.prog 68 ty (.row o sz i n)=some (.val (.int .i64 n)):=zM ai8
theorem aFG:bn (.slice none 0 0)=.val (.slice none 0 0):=rfl
theorem azz {Γ:Ctx} (s:AS) (ρ:Operand→PV) (x y:Operand):bf Tryz.prog Γ s ρ (.call {callee:=.builtin .append,args:=#[x,y],argTypes:=#[68,68]})=agA 71 2 24 s.nx s.ob (ρ x) (ab8 s.ob (ρ x)) (bF s.ob 2 (ρ y)):=uz ai8 ai9 aiK aDc (by decide) rfl s ρ x y
theorem aDO:aY Tryz.prog 105=some 1:=by kernel_rfl
theorem aAv:jH Tryz.prog 105=some false:=by kernel_rfl
theorem auz:Tryz.prog.underlying 105=some (.slice 111):=by kernel_rfl
theorem xA:cZ Tryz.prog 105=some 111:=by kernel_rfl
theorem aAx {k:Bool} {es:List PV} {i:Int} (h0:0≤i) (h1:i<(es.length:Int)):aI Tryz.prog 105 (.lst k 7 es) i=some (.ptr k ((es[i.toNat]?).getD .dead) 0):=uq auz zT h0 h1
theorem ayk {ty sz:Nat} {k:Bool} {es:List PV}:p8 Tryz.prog 105 ty (.lst k sz es)=some (.val (.int .i64 es.length)):=uF xA
theorem awt {ty o sz i n:Nat}:p8 Tryz.prog 105 ty (.row o sz i n)=some (.val (.int .i64 n)):=zM xA
theorem aDC:bn (.slice none 0 0)=.val (.slice none 0 0):=rfl
theorem awf {Γ:Ctx} (s:AS) (ρ:Operand→PV) (x y:Operand):bf Tryz.prog Γ s ρ (.call {callee:=.builtin .append,args:=#[x,y],argTypes:=#[105,105]})=agA 111 7 56 s.nx s.ob (ρ x) (ab8 s.ob (ρ x)) (bF s.ob 7 (ρ y)):=uz xA xU zT atl (by decide) rfl s ρ x y
theorem ahC:Tryz.prog.underlying 134=some (.slice 136):=by kernel_rfl
theorem ac3:cZ Tryz.prog 134=some 136:=by kernel_rfl
theorem aCk {k:Bool} {es:List PV} {i:Int} (h0:0≤i) (h1:i<(es.length:Int)):aI Tryz.prog 134 (.lst k 2 es) i=some (.ptr k ((es[i.toNat]?).getD .dead) 0):=uq ahC adA h0 h1
theorem avp {o j n:Nat} {i:Int} (h0:0≤i) (h1:i<(n:Int)):aI Tryz.prog 134 (.row o 2 j n) i=some (.own o 2 (j+i.toNat) 0):=wQ ahC adA h0 h1
theorem ayD {ty sz:Nat} {k:Bool} {es:List PV}:p8 Tryz.prog 134 ty (.lst k sz es)=some (.val (.int .i64 es.length)):=uF ac3
theorem avg {ty o sz i n:Nat}:p8 Tryz.prog 134 ty (.row o sz i n)=some (.val (.int .i64 n)):=zM ac3
theorem ayQ {ty:Nat}:p8 Tryz.prog 134 ty (.val (.slice none 0 0))=some (.val (.int .i64 0)):=ahO ahC
theorem azP:bn (.slice none 0 0)=.val (.slice none 0 0):=rfl
theorem ayU {Γ:Ctx} (s:AS) (ρ:Operand→PV) (x y:Operand):bf Tryz.prog Γ s ρ (.call {callee:=.builtin .append,args:=#[x,y],argTypes:=#[134,134]})=agA 136 2 16 s.nx s.ob (ρ x) (ab8 s.ob (ρ x)) (bF s.ob 2 (ρ y)):=uz ac3 acs adA atG (by decide) rfl s ρ x y
theorem aub:Tryz.prog.underlying 151=some (.slice 158):=by kernel_rfl
theorem aul:cZ Tryz.prog 151=some 158:=by kernel_rfl
theorem axF {o j n:Nat} {i:Int} (h0:0≤i) (h1:i<(n:Int)):aI Tryz.prog 151 (.row o 4 j n) i=some (.own o 4 (j+i.toNat) 0):=wQ aub al6 h0 h1
theorem aAK:bn (.slice none 0 0)=.val (.slice none 0 0):=rfl
theorem aDG {Γ:Ctx} (s:AS) (ρ:Operand→PV) (l c:Operand):bf Tryz.prog Γ s ρ (.makeSlice 151 l c)=arR 158 4 32 (.agg #[.int .i64 0,.int .i64 0,.int .i64 0,.int .i64 0]) s (ρ l) (ρ c):=anN aul auo al6 atj (by kernel_rfl) rfl s ρ l c
theorem at1:Tryz.prog.underlying 152=some (.slice 153):=by kernel_rfl
theorem atr:cZ Tryz.prog 152=some 153:=by kernel_rfl
theorem axa {o j n:Nat} {i:Int} (h0:0≤i) (h1:i<(n:Int)):aI Tryz.prog 152 (.row o 4 j n) i=some (.own o 4 (j+i.toNat) 0):=wQ at1 akF h0 h1
theorem aDM:bn (.slice none 0 0)=.val (.slice none 0 0):=rfl
theorem aBv {Γ:Ctx} (s:AS) (ρ:Operand→PV) (l c:Operand):bf Tryz.prog Γ s ρ (.makeSlice 152 l c)=arR 153 4 4 (.agg #[.bool false,.bool false,.bool false,.bool false]) s (ρ l) (ρ c):=anN atr atK akF aum (by kernel_rfl) rfl s ρ l c
theorem auB:Tryz.prog.underlying 245=some (.slice 60):=by kernel_rfl
theorem agT:cZ Tryz.prog 245=some 60:=by kernel_rfl
theorem aBB {k:Bool} {es:List PV} {i:Int} (h0:0≤i) (h1:i<(es.length:Int)):aI Tryz.prog 245 (.lst k 4 es) i=some (.ptr k ((es[i.toNat]?).getD .dead) 0):=uq auB aqb h0 h1
theorem avX {ty sz:Nat} {k:Bool} {es:List PV}:p8 Tryz.prog 245 ty (.lst k sz es)=some (.val (.int .i64 es.length)):=uF agT
theorem aDz:bn (.slice none 0 0)=.val (.slice none 0 0):=rfl
theorem axC {Γ:Ctx} (s:AS) (ρ:Operand→PV) (x y:Operand):bf Tryz.prog Γ s ρ (.call {callee:=.builtin .append,args:=#[x,y],argTypes:=#[245,245]})=agA 60 4 32 s.nx s.ob (ρ x) (ab8 s.ob (ρ x)) (bF s.ob 4 (ρ y)):=uz agT ak4 aqb azv (by decide) rfl s ρ x y
theorem aGq:aY Tryz.prog 23=some 1:=by kernel_rfl
theorem aE2:jH Tryz.prog 23=some false:=by kernel_rfl
theorem asP:Tryz.prog.underlying 23=some (.slice 24):=by kernel_rfl
theorem ajX:cZ Tryz.prog 23=some 24:=by kernel_rfl
theorem aGk {k:Bool} {es:List PV} {i:Int} (h0:0≤i) (h1:i<(es.length:Int)):aI Tryz.prog 23 (.lst k 1 es) i=some (.ptr k ((es[i.toNat]?).getD .dead) 0):=uq asP ad3 h0 h1
theorem az7 {o j n:Nat} {i:Int} (h0:0≤i) (h1:i<(n:Int)):aI Tryz.prog 23 (.row o 1 j n) i=some (.own o 1 (j+i.toNat) 0):=wQ asP ad3 h0 h1
theorem aAD {ty sz:Nat} {k:Bool} {es:List PV}:p8 Tryz.prog 23 ty (.lst k sz es)=some (.val (.int .i64 es.length)):=uF ajX
theorem aDy {ty:Nat}:p8 Tryz.prog 23 ty (.val (.slice none 0 0))=some (.val (.int .i64 0)):=ahO asP
theorem aFk:bn (.slice none 0 0)=.val (.slice none 0 0):=rfl
theorem aFT {Γ:Ctx} (s:AS) (ρ:Operand→PV) (l c:Operand):bf Tryz.prog Γ s ρ (.makeSlice 23 l c)=arR 24 1 24 (.slice none 0 0) s (ρ l) (ρ c):=anN ajX ako ad3 ayJ (by kernel_rfl) rfl s ρ l c
theorem aDW {Γ:Ctx} (s:AS) (ρ:Operand→PV) (x y:Operand):bf Tryz.prog Γ s ρ (.call {callee:=.builtin .append,args:=#[x,y],argTypes:=#[23,23]})=agA 24 1 24 s.nx s.ob (ρ x) (ab8 s.ob (ρ x)) (bF s.ob 1 (ρ y)):=uz ajX ako ad3 ayJ (by decide) rfl s ρ x y
theorem axZ {k:IntKind} {n:Int} {es:Option (List PV)}:ads Tryz.prog 3 5 false es (some (.int k n))=some (.val (.int .u8 (IntKind.u8.wrap n))):=auy aGo aFh
theorem azb {k:IntKind} {n:Int} {es:Option (List PV)}:ads Tryz.prog 5 3 false es (some (.int k n))=some (.val (.int .i64 (IntKind.i64.wrap n))):=auy aFh aGo
theorem axV {a0:PV}:iL Tryz.prog 22 1 [(0,a0)]=ab3 5 1 [a0] (okP 1 a0&&(true)):=oK aAz aGK aGP _ (by decide) (by decide) rfl
theorem avb:iL Tryz.prog 23 0 []=ab3 24 1 [] (true):=oK ajX ad3 ako _ (by decide) (by decide) rfl
theorem avS {a0:PV}:iL Tryz.prog 23 1 [(0,a0)]=ab3 24 1 [a0] (okP 1 a0&&(true)):=oK ajX ad3 ako _ (by decide) (by decide) rfl
theorem ayi:iL Tryz.prog 24 0 []=ab3 9 1 [] (true):=oK aeF auj aDx _ (by decide) (by decide) rfl
theorem axi {a0:PV}:iL Tryz.prog 24 1 [(0,a0)]=ab3 9 1 [a0] (okP 1 a0&&(true)):=oK aeF auj aDx _ (by decide) (by decide) rfl
theorem awc:iL Tryz.prog 48 0 []=ab3 3 1 [] (true):=oK aeP apD aCr _ (by decide) (by decide) rfl
theorem axS {a0:PV}:iL Tryz.prog 48 1 [(0,a0)]=ab3 3 1 [a0] (okP 1 a0&&(true)):=oK aeP apD aCr _ (by decide) (by decide) rfl
theorem awq:iL Tryz.prog 53 0 []=ab3 88 4 [] (true):=oK aiq ai6 ajo _ (by decide) (by decide) rfl
theorem auK {a0:PV}:iL Tryz.prog 53 1 [(0,a0)]=ab3 88 4 [a0] (okP 4 a0&&(true)):=oK aiq ai6 ajo _ (by decide) (by decide) rfl
theorem awp:iL Tryz.prog 68 0 []=ab3 71 2 [] (true):=oK ai8 aiK ai9 _ (by decide) (by decide) rfl
theorem avF {a0:PV}:iL Tryz.prog 68 1 [(0,a0)]=ab3 71 2 [a0] (okP 2 a0&&(true)):=oK ai8 aiK ai9 _ (by decide) (by decide) rfl
theorem ar1:iL Tryz.prog 105 0 []=ab3 111 7 [] (true):=oK xA zT xU _ (by decide) (by decide) rfl
theorem apL {a0:PV}:iL Tryz.prog 105 1 [(0,a0)]=ab3 111 7 [a0] (okP 7 a0&&(true)):=oK xA zT xU _ (by decide) (by decide) rfl
theorem aqh {a0 a1 a2:PV}:iL Tryz.prog 105 3 [(0,a0),(1,a1),(2,a2)]=ab3 111 7 [a0,a1,a2] (okP 7 a0&&(okP 7 a1&&(okP 7 a2&&(true)))):=oK xA zT xU _ (by decide) (by decide) rfl
theorem arK {a0:PV}:iL Tryz.prog 134 1 [(0,a0)]=ab3 136 2 [a0] (okP 2 a0&&(true)):=oK ac3 adA acs _ (by decide) (by decide) rfl
theorem arz {a0:PV}:iL Tryz.prog 245 1 [(0,a0)]=ab3 60 4 [a0] (okP 4 a0&&(true)):=oK agT aqb ak4 _ (by decide) (by decide) rfl
theorem mixed:Tryz.prog.follows .mixedOrders=true:=by kernel_rfl
attribute[push_cast high]
 aFu azX aC3
attribute[push_cast]
 aG6 apD aG8 aE6 aCr aGo aG1 aG7 aG5 aGy aHk aGM aF6 aHj aGK aGP aFh aG2 aHm aHf aHi auj aG3 aFc aDx aEM aFt aFl aHh aHo aFD aFU aFo aER aFY aGj aCY au2 avw ay7 ayj aw9 aFP aGa aFm aFi axm awz auR avK awM aFd aFQ aqb aEU azv ak4 axb axf avC axU aEd aGf aEZ aEO aF9 aiK aFf aDc ai9 axI aym azW aED aEK aFj aFF aF7 aGu ai6 aFA aB2 ajo ayS avO ayR ayh aAL aFL aE8 aFH aAw zT aBF atl xU aqM aqP apC aqE atv aB4 aAa aCe aBQ adA aDY atG acs atI av3 aDT aCJ aD2 aDm azU aCb zO arh ao8 aqr atX aAE aC4 aBK aC2 aBR aCg zR asS aqf aty aBl aAG aAX akF aum atK auv au8 aBU al6 atj auo aud axT aEa aDo aCj aCG aBH azO aA8 azD aBo aA3 aAd azJ aAW azN aAz aE9 aEE ad3 aGh ayJ ako aoi aeF aFW aCT aF2 aA2 aBi aC7 aGi aFs azM ayL aeP aGt aAC azs aBk aF4 aGn azS asK aiq aFv aEF aDL aDj aBL aE0 azF axq ai8 aFr aBe aBY aAb aFG azz aDO aAv auz xA aAx ayk awt aDC awf ahC ac3 aCk avp ayD avg ayQ azP ayU aub aul axF aAK aDG at1 atr axa aDM aBv auB agT aBB avX aDz axC aGq aE2 asP ajX aGk az7 aAD aDy aFk aFT aDW axZ azb axV avb avS ayi axi awc axS awq auK awp avF ar1 apL aqh arK arz
end
end Go.Proofs.YtmmafcjjlbgnkaaGreatDoor
namespace Go.Proofs
open Go.Shelf
def YtmmafcjjlbgnkaaGreatDoor.wz:Go.Shelf.Ren:=⟨fun|156=>76|165=>107|166=>108|169=>109|240=>149|241=>150|276=>199|277=>200|n=>n,fun|31=>24|9=>9|3=>3|4=>4|0=>0|20=>20|72=>124|76=>94|70=>122|37=>22|75=>93|127=>176|164=>210|5=>5|80=>126|n=>n,fun|n=>n⟩
theorem YtmmafcjjlbgnkaaGreatDoor.aki:Go.Proofs.Lays.n156 Tryz.prog YtmmafcjjlbgnkaaGreatDoor.wz:={
 mixed:=by kernel_rfl
 f156:=Tryz.func76.trans (congrArg some (by kernel_rfl))
 f165:=Tryz.func107.trans (congrArg some (by kernel_rfl))
 f166:=Tryz.func108.trans (congrArg some (by kernel_rfl))
 f169:=Tryz.func109.trans (congrArg some (by kernel_rfl))
 f240:=Tryz.func149.trans (congrArg some (by kernel_rfl))
 f241:=Tryz.func150.trans (congrArg some (by kernel_rfl))
 f276:=Tryz.func199.trans (congrArg some (by kernel_rfl))
 f277:=Tryz.func200.trans (congrArg some (by kernel_rfl))
 t0:=Tryz.underlying0
 a0:=Tryz.isAgg0
 z0:=Tryz.sizeOf0
 v0:=Tryz.zeroValue0
 t3:=Tryz.underlying3
 a3:=Tryz.isAgg3
 z3:=Tryz.sizeOf3
 v3:=Tryz.zeroValue3
 t4:=Tryz.underlying4
 a4:=Tryz.isAgg4
 z4:=Tryz.sizeOf4
 v4:=Tryz.zeroValue4
 t9:=Tryz.underlying9
 a9:=Tryz.isAgg9
 z9:=Tryz.sizeOf9
 v9:=Tryz.zeroValue9
 t20:=Tryz.underlying20
 a20:=Tryz.isAgg20
 z20:=Tryz.sizeOf20
 v20:=Tryz.zeroValue20
 t31:=Tryz.underlying24
 a31:=Tryz.isAgg24
 z31:=Tryz.sizeOf24
 v31:=Tryz.zeroValue24
 t37:=Tryz.underlying22
 a37:=Tryz.isAgg22
 z37:=Tryz.sizeOf22
 v37:=Tryz.zeroValue22
 t70:=Tryz.underlying122
 a70:=Tryz.isAgg122
 z70:=Tryz.sizeOf122
 v70:=Tryz.zeroValue122
 t72:=Tryz.underlying124
 a72:=Tryz.isAgg124
 z72:=Tryz.sizeOf124
 v72:=Tryz.zeroValue124
 t75:=Tryz.underlying93
 a75:=Tryz.isAgg93
 z75:=Tryz.sizeOf93
 v75:=Tryz.zeroValue93
 t76:=Tryz.underlying94
 a76:=Tryz.isAgg94
 z76:=Tryz.sizeOf94
 v76:=Tryz.zeroValue94
 t127:=Tryz.underlying176
 a127:=Tryz.isAgg176
 z127:=Tryz.sizeOf176
 v127:=Tryz.zeroValue176
 t164:=Tryz.underlying210
 a164:=Tryz.isAgg210
 z164:=Tryz.sizeOf210
 v164:=Tryz.zeroValue210}
theorem YtmmafcjjlbgnkaaGreatDoor.lD:Builder.Extra Tryz.prog YtmmafcjjlbgnkaaGreatDoor.wz:={
 sizeBuilder:=by kernel_rfl
 liesBuilder:=by kernel_rfl
 t5:=Tryz.underlying5
 a5:=Tryz.isAgg5
 z5:=Tryz.sizeOf5
 v5:=Tryz.zeroValue5
 infoByte:=by kernel_rfl
 cellsByte:=by kernel_rfl
 sizeByte:=by kernel_rfl
 neB5:=by decide}
open Go.RowKit in
theorem YtmmafcjjlbgnkaaGreatDoor.strings_Join_none (a:Option Addr) (c:Nat) (sep:ByteArray) (w:World):
 Calls Tryz.prog 76 #[.slice a 0 c,.string sep] w fun e w'=>e=.returned (.string ⟨#[]⟩)∧w'=w:=Any.strings_Join_none YtmmafcjjlbgnkaaGreatDoor.aki YtmmafcjjlbgnkaaGreatDoor.lD a c sep w
open Go.RowKit in
theorem YtmmafcjjlbgnkaaGreatDoor.strings_Join (bk o c:Nat) (xs:List ByteArray) (sep:ByteArray) (w:World) (hcells:∀(j:Nat) x,xs[j]?=some x→w.cell? ⟨bk,o+j,none⟩=some (.string x)) (hbk:bk<w.heap.size) (hN:xs.length≤140737488355328) (hcap:xs.length≤c) (hlen:(Lib.join (xs.map (·.data.toList)) sep.data.toList).length≤140737488355328):
 Calls Tryz.prog 76 #[.slice (some ⟨bk,o,none⟩) xs.length c,.string sep] w fun e w'=>e=.returned (.string ⟨(Lib.join (xs.map (·.data.toList)) sep.data.toList).toArray⟩)∧Below w.heap.size w w':=Any.strings_Join YtmmafcjjlbgnkaaGreatDoor.aki YtmmafcjjlbgnkaaGreatDoor.lD bk o c xs sep w hcells hbk hN hcap hlen
def YtmmafcjjlbgnkaaGreatDoor.aeZ:Go.Shelf.Ren:=⟨fun|137=>234|217=>188|266=>225|n=>n,fun|9=>9|5=>5|3=>3|n=>n,fun|n=>n⟩
theorem YtmmafcjjlbgnkaaGreatDoor.ayO:Go.Proofs.Lays.n137 Tryz.prog YtmmafcjjlbgnkaaGreatDoor.aeZ:={
 mixed:=by kernel_rfl
 f137:=Tryz.func234.trans (congrArg some (by kernel_rfl))
 f217:=Tryz.func188.trans (congrArg some (by kernel_rfl))
 f266:=Tryz.func225.trans (congrArg some (by kernel_rfl))
 t3:=Tryz.underlying3
 a3:=Tryz.isAgg3
 z3:=Tryz.sizeOf3
 v3:=Tryz.zeroValue3
 t5:=Tryz.underlying5
 a5:=Tryz.isAgg5
 z5:=Tryz.sizeOf5
 v5:=Tryz.zeroValue5
 t9:=Tryz.underlying9
 a9:=Tryz.isAgg9
 z9:=Tryz.sizeOf9
 v9:=Tryz.zeroValue9}
open Go.RowKit in
theorem YtmmafcjjlbgnkaaGreatDoor.strings_IndexByte (s:ByteArray) (c:Int) (w:World):
 Calls Tryz.prog 234 #[.string s,.int .u8 c] w fun e w'=>e=.returned (.int .i64 (Lib.indexByte s.data.toList c.toNat.toUInt8))∧w'=w:=Any.strings_IndexByte YtmmafcjjlbgnkaaGreatDoor.ayO s c w
def YtmmafcjjlbgnkaaGreatDoor.ach:Go.Shelf.Ren:=⟨fun|171=>39|243=>74|246=>104|283=>140|284=>141|285=>142|286=>143|129=>161|317=>192|318=>193|319=>194|320=>195|337=>227|338=>228|n=>n,fun|3=>3|9=>9|2=>2|4=>4|171=>164|0=>0|53=>165|37=>22|5=>5|173=>168|212=>202|51=>186|20=>20|213=>203|46=>131|232=>241|233=>242|n=>n,fun|17=>1|18=>6|19=>7|n=>n⟩
theorem YtmmafcjjlbgnkaaGreatDoor.apQ:Go.Proofs.LaysM.n171 Tryz.prog YtmmafcjjlbgnkaaGreatDoor.ach:={
 mixed:=by kernel_rfl
 f129:=Tryz.func161.trans (congrArg some (by kernel_rfl))
 f171:=Tryz.func39.trans (congrArg some (by kernel_rfl))
 f243:=Tryz.func74.trans (congrArg some (by kernel_rfl))
 f246:=Tryz.func104.trans (congrArg some (by kernel_rfl))
 f283:=Tryz.func140.trans (congrArg some (by kernel_rfl))
 f284:=Tryz.func141.trans (congrArg some (by kernel_rfl))
 f285:=Tryz.func142.trans (congrArg some (by kernel_rfl))
 f286:=Tryz.func143.trans (congrArg some (by kernel_rfl))
 f317:=Tryz.func192.trans (congrArg some (by kernel_rfl))
 f318:=Tryz.func193.trans (congrArg some (by kernel_rfl))
 f319:=Tryz.func194.trans (congrArg some (by kernel_rfl))
 f320:=Tryz.func195.trans (congrArg some (by kernel_rfl))
 f337:=Tryz.func227.trans (congrArg some (by kernel_rfl))
 f338:=Tryz.func228.trans (congrArg some (by kernel_rfl))
 t0:=Tryz.underlying0
 a0:=Tryz.isAgg0
 z0:=Tryz.sizeOf0
 v0:=Tryz.zeroValue0
 t2:=Tryz.underlying2
 a2:=Tryz.isAgg2
 z2:=Tryz.sizeOf2
 v2:=Tryz.zeroValue2
 t3:=Tryz.underlying3
 a3:=Tryz.isAgg3
 z3:=Tryz.sizeOf3
 v3:=Tryz.zeroValue3
 t4:=Tryz.underlying4
 a4:=Tryz.isAgg4
 z4:=Tryz.sizeOf4
 v4:=Tryz.zeroValue4
 t5:=Tryz.underlying5
 a5:=Tryz.isAgg5
 z5:=Tryz.sizeOf5
 v5:=Tryz.zeroValue5
 t9:=Tryz.underlying9
 a9:=Tryz.isAgg9
 z9:=Tryz.sizeOf9
 v9:=Tryz.zeroValue9
 t20:=Tryz.underlying20
 a20:=Tryz.isAgg20
 z20:=Tryz.sizeOf20
 v20:=Tryz.zeroValue20
 t37:=Tryz.underlying22
 a37:=Tryz.isAgg22
 z37:=Tryz.sizeOf22
 v37:=Tryz.zeroValue22
 t46:=Tryz.underlying131
 a46:=Tryz.isAgg131
 z46:=Tryz.sizeOf131
 v46:=Tryz.zeroValue131
 t51:=Tryz.underlying186
 a51:=Tryz.isAgg186
 z51:=Tryz.sizeOf186
 v51:=Tryz.zeroValue186
 t53:=Tryz.underlying165
 a53:=Tryz.isAgg165
 z53:=Tryz.sizeOf165
 v53:=Tryz.zeroValue165
 t171:=Tryz.underlying164
 a171:=Tryz.isAgg164
 z171:=Tryz.sizeOf164
 v171:=Tryz.zeroValue164
 t173:=Tryz.underlying168
 a173:=Tryz.isAgg168
 z173:=Tryz.sizeOf168
 v173:=Tryz.zeroValue168
 t212:=Tryz.underlying202
 a212:=Tryz.isAgg202
 z212:=Tryz.sizeOf202
 v212:=Tryz.zeroValue202
 t213:=Tryz.underlying203
 a213:=Tryz.isAgg203
 z213:=Tryz.sizeOf203
 t232:=Tryz.underlying241
 a232:=Tryz.isAgg241
 z232:=Tryz.sizeOf241
 v232:=Tryz.zeroValue241
 t233:=Tryz.underlying242
 a233:=Tryz.isAgg242
 z233:=Tryz.sizeOf242
 v233:=Tryz.zeroValue242
 g17:=by kernel_rfl
 g18:=by kernel_rfl
 g19:=by kernel_rfl
 i0:=by kernel_rfl
 i2:=by kernel_rfl
 i3:=by kernel_rfl
 i4:=by kernel_rfl
 i5:=by kernel_rfl
 i9:=by kernel_rfl
 i20:=by kernel_rfl
 i37:=by kernel_rfl
 i46:=by kernel_rfl
 i51:=by kernel_rfl
 i53:=by kernel_rfl
 i171:=by kernel_rfl
 i173:=by kernel_rfl
 i212:=by kernel_rfl
 i232:=by kernel_rfl
 i233:=by kernel_rfl
 m17:=by kernel_rfl
 m18:=by kernel_rfl
 m19:=by kernel_rfl}
open Go.RowKit Go.Sort Go.Lib in
theorem YtmmafcjjlbgnkaaGreatDoor.strconv_Itoa (n:Int) (h0:-9223372036854775808≤n) (h1:n≤9223372036854775807) (w:World) (htab:Lib.TabIs Tryz.prog w "internal/strconv.uint64pow10" .u64 Lib.pow10Tab):
 Calls Tryz.prog 39 #[.int .i64 n] w fun e w'=>e=.returned (.string ⟨(Lib.itoa n).toArray⟩)∧∃k os,w'=grow (w.drewN k) os:=Any.strconv_Itoa YtmmafcjjlbgnkaaGreatDoor.apQ n h0 h1 w htab
def YtmmafcjjlbgnkaaGreatDoor.afL:Go.Shelf.Ren:=⟨fun|143=>103|219=>139|217=>188|225=>189|224=>190|267=>191|266=>225|314=>226|n=>n,fun|9=>9|3=>3|4=>4|5=>5|46=>131|146=>229|51=>186|n=>n,fun|1=>0|n=>n⟩
theorem YtmmafcjjlbgnkaaGreatDoor.axv:Go.Proofs.Lays.n143 Tryz.prog YtmmafcjjlbgnkaaGreatDoor.afL:={
 mixed:=by kernel_rfl
 f143:=Tryz.func103.trans (congrArg some (by kernel_rfl))
 f217:=Tryz.func188.trans (congrArg some (by kernel_rfl))
 f219:=Tryz.func139.trans (congrArg some (by kernel_rfl))
 f224:=Tryz.func190.trans (congrArg some (by kernel_rfl))
 f225:=Tryz.func189.trans (congrArg some (by kernel_rfl))
 f266:=Tryz.func225.trans (congrArg some (by kernel_rfl))
 f267:=Tryz.func191.trans (congrArg some (by kernel_rfl))
 f314:=Tryz.func226.trans (congrArg some (by kernel_rfl))
 t3:=Tryz.underlying3
 a3:=Tryz.isAgg3
 z3:=Tryz.sizeOf3
 v3:=Tryz.zeroValue3
 t4:=Tryz.underlying4
 a4:=Tryz.isAgg4
 z4:=Tryz.sizeOf4
 v4:=Tryz.zeroValue4
 t5:=Tryz.underlying5
 a5:=Tryz.isAgg5
 z5:=Tryz.sizeOf5
 v5:=Tryz.zeroValue5
 t9:=Tryz.underlying9
 a9:=Tryz.isAgg9
 z9:=Tryz.sizeOf9
 v9:=Tryz.zeroValue9
 t46:=Tryz.underlying131
 a46:=Tryz.isAgg131
 z46:=Tryz.sizeOf131
 v46:=Tryz.zeroValue131
 t51:=Tryz.underlying186
 a51:=Tryz.isAgg186
 z51:=Tryz.sizeOf186
 v51:=Tryz.zeroValue186
 t146:=Tryz.underlying229
 a146:=Tryz.isAgg229
 z146:=Tryz.sizeOf229
 v146:=Tryz.zeroValue229
 g1:=by kernel_rfl}
open Go.RowKit Go.Lib in
theorem YtmmafcjjlbgnkaaGreatDoor.strings_Index_one (s:ByteArray) (c:UInt8) (w:World):
 Calls Tryz.prog 103 #[.string s,.string ⟨#[c]⟩] w fun e w'=>e=.returned (.int .i64 (Lib.indexByte s.data.toList c))∧w'=w:=Any.strings_Index_one YtmmafcjjlbgnkaaGreatDoor.axv s c w
def YtmmafcjjlbgnkaaGreatDoor.afi:Go.Shelf.Ren:=⟨fun|138=>102|195=>136|218=>138|143=>103|219=>139|217=>188|225=>189|224=>190|267=>191|266=>225|314=>226|n=>n,fun|9=>9|3=>3|4=>4|5=>5|0=>0|46=>131|146=>229|51=>186|n=>n,fun|1=>0|n=>n⟩
theorem YtmmafcjjlbgnkaaGreatDoor.av2:Go.Proofs.Lays.n138 Tryz.prog YtmmafcjjlbgnkaaGreatDoor.afi:={
 mixed:=by kernel_rfl
 f138:=Tryz.func102.trans (congrArg some (by kernel_rfl))
 f143:=Tryz.func103.trans (congrArg some (by kernel_rfl))
 f195:=Tryz.func136.trans (congrArg some (by kernel_rfl))
 f217:=Tryz.func188.trans (congrArg some (by kernel_rfl))
 f218:=Tryz.func138.trans (congrArg some (by kernel_rfl))
 f219:=Tryz.func139.trans (congrArg some (by kernel_rfl))
 f224:=Tryz.func190.trans (congrArg some (by kernel_rfl))
 f225:=Tryz.func189.trans (congrArg some (by kernel_rfl))
 f266:=Tryz.func225.trans (congrArg some (by kernel_rfl))
 f267:=Tryz.func191.trans (congrArg some (by kernel_rfl))
 f314:=Tryz.func226.trans (congrArg some (by kernel_rfl))
 t0:=Tryz.underlying0
 a0:=Tryz.isAgg0
 z0:=Tryz.sizeOf0
 v0:=Tryz.zeroValue0
 t3:=Tryz.underlying3
 a3:=Tryz.isAgg3
 z3:=Tryz.sizeOf3
 v3:=Tryz.zeroValue3
 t4:=Tryz.underlying4
 a4:=Tryz.isAgg4
 z4:=Tryz.sizeOf4
 v4:=Tryz.zeroValue4
 t5:=Tryz.underlying5
 a5:=Tryz.isAgg5
 z5:=Tryz.sizeOf5
 v5:=Tryz.zeroValue5
 t9:=Tryz.underlying9
 a9:=Tryz.isAgg9
 z9:=Tryz.sizeOf9
 v9:=Tryz.zeroValue9
 t46:=Tryz.underlying131
 a46:=Tryz.isAgg131
 z46:=Tryz.sizeOf131
 v46:=Tryz.zeroValue131
 t51:=Tryz.underlying186
 a51:=Tryz.isAgg186
 z51:=Tryz.sizeOf186
 v51:=Tryz.zeroValue186
 t146:=Tryz.underlying229
 a146:=Tryz.isAgg229
 z146:=Tryz.sizeOf229
 v146:=Tryz.zeroValue229
 g1:=by kernel_rfl}
open Go.RowKit Go.Lib in
theorem YtmmafcjjlbgnkaaGreatDoor.strings_Count_one (s:ByteArray) (c:UInt8) (w:World):
 Calls Tryz.prog 102 #[.string s,.string ⟨#[c]⟩] w fun e w'=>e=.returned (.int .i64 (Lib.countByte s.data.toList c))∧w'=w:=Any.strings_Count_one YtmmafcjjlbgnkaaGreatDoor.av2 s c w
def YtmmafcjjlbgnkaaGreatDoor.ae9:Go.Shelf.Ren:=⟨fun|100=>44|207=>78|n=>n,fun|9=>9|4=>4|3=>3|n=>n,fun|n=>n⟩
theorem YtmmafcjjlbgnkaaGreatDoor.awh:Go.Proofs.Lays.n100 Tryz.prog YtmmafcjjlbgnkaaGreatDoor.ae9:={
 mixed:=by kernel_rfl
 f100:=Tryz.func44.trans (congrArg some (by kernel_rfl))
 f207:=Tryz.func78.trans (congrArg some (by kernel_rfl))
 t3:=Tryz.underlying3
 a3:=Tryz.isAgg3
 z3:=Tryz.sizeOf3
 v3:=Tryz.zeroValue3
 t4:=Tryz.underlying4
 a4:=Tryz.isAgg4
 z4:=Tryz.sizeOf4
 v4:=Tryz.zeroValue4
 t9:=Tryz.underlying9
 a9:=Tryz.isAgg9
 z9:=Tryz.sizeOf9
 v9:=Tryz.zeroValue9}
open Go.RowKit Go.Lib in
theorem YtmmafcjjlbgnkaaGreatDoor.strings_HasSuffix (s p:ByteArray) (w:World) (hs:s.size≤9223372036854775807):
 Calls Tryz.prog 44 #[.string s,.string p] w fun e w'=>e=.returned (.bool (Lib.hasSuffix s.data.toList p.data.toList))∧w'=w:=Any.strings_HasSuffix YtmmafcjjlbgnkaaGreatDoor.awh s p w hs
def YtmmafcjjlbgnkaaGreatDoor.aeo:Go.Shelf.Ren:=⟨fun|102=>43|209=>77|207=>78|n=>n,fun|9=>9|4=>4|3=>3|n=>n,fun|n=>n⟩
theorem YtmmafcjjlbgnkaaGreatDoor.ayP:Go.Proofs.Lays.n102 Tryz.prog YtmmafcjjlbgnkaaGreatDoor.aeo:={
 mixed:=by kernel_rfl
 f102:=Tryz.func43.trans (congrArg some (by kernel_rfl))
 f207:=Tryz.func78.trans (congrArg some (by kernel_rfl))
 f209:=Tryz.func77.trans (congrArg some (by kernel_rfl))
 t3:=Tryz.underlying3
 a3:=Tryz.isAgg3
 z3:=Tryz.sizeOf3
 v3:=Tryz.zeroValue3
 t4:=Tryz.underlying4
 a4:=Tryz.isAgg4
 z4:=Tryz.sizeOf4
 v4:=Tryz.zeroValue4
 t9:=Tryz.underlying9
 a9:=Tryz.isAgg9
 z9:=Tryz.sizeOf9
 v9:=Tryz.zeroValue9}
open Go.RowKit Go.Lib in
theorem YtmmafcjjlbgnkaaGreatDoor.strings_TrimSuffix (s p:ByteArray) (w:World) (hs:s.size≤9223372036854775807):
 Calls Tryz.prog 43 #[.string s,.string p] w fun e w'=>e=.returned (.string ⟨(Lib.trimSuffix s.data.toList p.data.toList).toArray⟩)∧w'=w:=Any.strings_TrimSuffix YtmmafcjjlbgnkaaGreatDoor.ayP s p w hs
def YtmmafcjjlbgnkaaGreatDoor.afD:Go.Shelf.Ren:=⟨fun|221=>73|268=>101|138=>102|143=>103|195=>136|197=>137|218=>138|219=>139|260=>187|217=>188|225=>189|224=>190|267=>191|266=>225|314=>226|n=>n,fun|9=>9|3=>3|31=>24|4=>4|0=>0|105=>161|21=>21|5=>5|46=>131|119=>225|139=>228|138=>227|146=>229|51=>186|n=>n,fun|1=>0|3=>4|4=>5|n=>n⟩
theorem YtmmafcjjlbgnkaaGreatDoor.awm:Go.Proofs.Lays.n221 Tryz.prog YtmmafcjjlbgnkaaGreatDoor.afD:={
 mixed:=by kernel_rfl
 f138:=Tryz.func102.trans (congrArg some (by kernel_rfl))
 f143:=Tryz.func103.trans (congrArg some (by kernel_rfl))
 f195:=Tryz.func136.trans (congrArg some (by kernel_rfl))
 f197:=Tryz.func137.trans (congrArg some (by kernel_rfl))
 f217:=Tryz.func188.trans (congrArg some (by kernel_rfl))
 f218:=Tryz.func138.trans (congrArg some (by kernel_rfl))
 f219:=Tryz.func139.trans (congrArg some (by kernel_rfl))
 f221:=Tryz.func73.trans (congrArg some (by kernel_rfl))
 f224:=Tryz.func190.trans (congrArg some (by kernel_rfl))
 f225:=Tryz.func189.trans (congrArg some (by kernel_rfl))
 f260:=Tryz.func187.trans (congrArg some (by kernel_rfl))
 f266:=Tryz.func225.trans (congrArg some (by kernel_rfl))
 f267:=Tryz.func191.trans (congrArg some (by kernel_rfl))
 f268:=Tryz.func101.trans (congrArg some (by kernel_rfl))
 f314:=Tryz.func226.trans (congrArg some (by kernel_rfl))
 t0:=Tryz.underlying0
 a0:=Tryz.isAgg0
 z0:=Tryz.sizeOf0
 v0:=Tryz.zeroValue0
 t3:=Tryz.underlying3
 a3:=Tryz.isAgg3
 z3:=Tryz.sizeOf3
 v3:=Tryz.zeroValue3
 t4:=Tryz.underlying4
 a4:=Tryz.isAgg4
 z4:=Tryz.sizeOf4
 v4:=Tryz.zeroValue4
 t5:=Tryz.underlying5
 a5:=Tryz.isAgg5
 z5:=Tryz.sizeOf5
 v5:=Tryz.zeroValue5
 t9:=Tryz.underlying9
 a9:=Tryz.isAgg9
 z9:=Tryz.sizeOf9
 v9:=Tryz.zeroValue9
 t21:=Tryz.underlying21
 a21:=Tryz.isAgg21
 z21:=Tryz.sizeOf21
 v21:=Tryz.zeroValue21
 t31:=Tryz.underlying24
 a31:=Tryz.isAgg24
 z31:=Tryz.sizeOf24
 v31:=Tryz.zeroValue24
 t46:=Tryz.underlying131
 a46:=Tryz.isAgg131
 z46:=Tryz.sizeOf131
 v46:=Tryz.zeroValue131
 t51:=Tryz.underlying186
 a51:=Tryz.isAgg186
 z51:=Tryz.sizeOf186
 v51:=Tryz.zeroValue186
 t105:=Tryz.underlying161
 a105:=Tryz.isAgg161
 z105:=Tryz.sizeOf161
 v105:=Tryz.zeroValue161
 t119:=Tryz.underlying225
 a119:=Tryz.isAgg225
 z119:=Tryz.sizeOf225
 t138:=Tryz.underlying227
 a138:=Tryz.isAgg227
 z138:=Tryz.sizeOf227
 v138:=Tryz.zeroValue227
 t139:=Tryz.underlying228
 a139:=Tryz.isAgg228
 z139:=Tryz.sizeOf228
 v139:=Tryz.zeroValue228
 t146:=Tryz.underlying229
 a146:=Tryz.isAgg229
 z146:=Tryz.sizeOf229
 v146:=Tryz.zeroValue229
 g1:=by kernel_rfl
 g3:=by kernel_rfl
 g4:=by kernel_rfl}
def YtmmafcjjlbgnkaaGreatDoor.ab5:Go.Shelf.Ren:=⟨fun|20=>84|n=>n,fun|22=>48|3=>3|4=>4|0=>0|n=>n,fun|n=>n⟩
theorem YtmmafcjjlbgnkaaGreatDoor.aoM:Go.Proofs.Lays2.n20 Tryz.prog YtmmafcjjlbgnkaaGreatDoor.ab5:={
 mixed:=by kernel_rfl
 f20:=Tryz.func84.trans (congrArg some (by kernel_rfl))
 t0:=Tryz.underlying0
 a0:=Tryz.isAgg0
 z0:=Tryz.sizeOf0
 v0:=Tryz.zeroValue0
 t3:=Tryz.underlying3
 a3:=Tryz.isAgg3
 z3:=Tryz.sizeOf3
 v3:=Tryz.zeroValue3
 t4:=Tryz.underlying4
 a4:=Tryz.isAgg4
 z4:=Tryz.sizeOf4
 v4:=Tryz.zeroValue4
 t22:=Tryz.underlying48
 a22:=Tryz.isAgg48
 z22:=Tryz.sizeOf48
 v22:=Tryz.zeroValue48
 i3:=by kernel_rfl}
open Go.RowKit Go.Lib Go.Sort in
theorem YtmmafcjjlbgnkaaGreatDoor.slices_Compact_int (blk off cap:Nat) (zs:List Int) (w:World) (hH:Holds (Value.int .i64) w blk off zs.toArray) (hsz:zs.length≤9223372036854775807) (hcap:zs.length≤cap):
 Calls Tryz.prog 84 #[.slice (some ⟨blk,off,none⟩) zs.length cap] w fun e w'=>e=.returned (.slice (some ⟨blk,off,none⟩) (Lib.compact zs).length cap)∧∃q,w'=putRow (Value.int .i64) (Sort.ahead w q) blk off (Lib.compact zs++List.replicate (zs.length-(Lib.compact zs).length) 0).toArray:=Any.slices_Compact_int YtmmafcjjlbgnkaaGreatDoor.aoM blk off cap zs w hH hsz hcap
def YtmmafcjjlbgnkaaGreatDoor.uK:Go.Shelf.Ren:=⟨fun|5=>83|8=>113|7=>112|19=>160|20=>161|10=>151|11=>152|12=>153|13=>154|14=>155|15=>156|16=>157|17=>158|18=>159|30=>201|31=>202|32=>203|33=>204|34=>205|35=>206|40=>231|n=>n,fun|23=>48|25=>3|3=>3|32=>131|22=>48|0=>0|44=>186|46=>165|4=>4|36=>179|35=>178|41=>65|5=>5|9=>9|53=>213|57=>217|63=>235|64=>236|n=>n,fun|n=>n⟩
theorem YtmmafcjjlbgnkaaGreatDoor.adS:Go.Proofs.SlLaysM.n5 Tryz.prog YtmmafcjjlbgnkaaGreatDoor.uK:={
 mixed:=by kernel_rfl
 f5:=⟨Tryz.f83.name,by decide,Tryz.func83.trans (congrArg some (by kernel_rfl))⟩
 f7:=⟨Tryz.f112.name,by decide,Tryz.func112.trans (congrArg some (by kernel_rfl))⟩
 f8:=Tryz.func113.trans (congrArg some (by kernel_rfl))
 f10:=⟨Tryz.f151.name,by decide,Tryz.func151.trans (congrArg some (by kernel_rfl))⟩
 f11:=⟨Tryz.f152.name,by decide,Tryz.func152.trans (congrArg some (by kernel_rfl))⟩
 f12:=⟨Tryz.f153.name,by decide,Tryz.func153.trans (congrArg some (by kernel_rfl))⟩
 f13:=⟨Tryz.f154.name,by decide,Tryz.func154.trans (congrArg some (by kernel_rfl))⟩
 f14:=⟨Tryz.f155.name,by decide,Tryz.func155.trans (congrArg some (by kernel_rfl))⟩
 f15:=⟨Tryz.f156.name,by decide,Tryz.func156.trans (congrArg some (by kernel_rfl))⟩
 f16:=⟨Tryz.f157.name,by decide,Tryz.func157.trans (congrArg some (by kernel_rfl))⟩
 f17:=⟨Tryz.f158.name,by decide,Tryz.func158.trans (congrArg some (by kernel_rfl))⟩
 f18:=⟨Tryz.f159.name,by decide,Tryz.func159.trans (congrArg some (by kernel_rfl))⟩
 f19:=Tryz.func160.trans (congrArg some (by kernel_rfl))
 f20:=Tryz.func161.trans (congrArg some (by kernel_rfl))
 f30:=⟨Tryz.f201.name,by decide,Tryz.func201.trans (congrArg some (by kernel_rfl))⟩
 f31:=Tryz.func202.trans (congrArg some (by kernel_rfl))
 f32:=Tryz.func203.trans (congrArg some (by kernel_rfl))
 f33:=⟨Tryz.f204.name,by decide,Tryz.func204.trans (congrArg some (by kernel_rfl))⟩
 f34:=⟨Tryz.f205.name,by decide,Tryz.func205.trans (congrArg some (by kernel_rfl))⟩
 f35:=⟨Tryz.f206.name,by decide,Tryz.func206.trans (congrArg some (by kernel_rfl))⟩
 f40:=⟨Tryz.f231.name,by decide,Tryz.func231.trans (congrArg some (by kernel_rfl))⟩
 t0:=Tryz.underlying0
 a0:=Tryz.isAgg0
 z0:=Tryz.sizeOf0
 v0:=Tryz.zeroValue0
 t3:=Tryz.underlying3
 a3:=Tryz.isAgg3
 z3:=Tryz.sizeOf3
 v3:=Tryz.zeroValue3
 t4:=Tryz.underlying4
 a4:=Tryz.isAgg4
 z4:=Tryz.sizeOf4
 v4:=Tryz.zeroValue4
 t5:=Tryz.underlying5
 a5:=Tryz.isAgg5
 z5:=Tryz.sizeOf5
 v5:=Tryz.zeroValue5
 t9:=Tryz.underlying9
 a9:=Tryz.isAgg9
 z9:=Tryz.sizeOf9
 v9:=Tryz.zeroValue9
 t22:=Tryz.underlying48
 a22:=Tryz.isAgg48
 z22:=Tryz.sizeOf48
 v22:=Tryz.zeroValue48
 t23:=Tryz.underlying48
 a23:=Tryz.isAgg48
 z23:=Tryz.sizeOf48
 v23:=Tryz.zeroValue48
 t25:=Tryz.underlying3
 a25:=Tryz.isAgg3
 z25:=Tryz.sizeOf3
 v25:=Tryz.zeroValue3
 t32:=Tryz.underlying131
 a32:=Tryz.isAgg131
 z32:=Tryz.sizeOf131
 v32:=Tryz.zeroValue131
 t35:=Tryz.underlying178
 a35:=Tryz.isAgg178
 z35:=Tryz.sizeOf178
 v35:=Tryz.zeroValue178
 t36:=Tryz.underlying179
 a36:=Tryz.isAgg179
 z36:=Tryz.sizeOf179
 v36:=Tryz.zeroValue179
 t41:=Tryz.underlying65
 a41:=Tryz.isAgg65
 z41:=Tryz.sizeOf65
 v41:=Tryz.zeroValue65
 t44:=Tryz.underlying186
 a44:=Tryz.isAgg186
 z44:=Tryz.sizeOf186
 v44:=Tryz.zeroValue186
 t46:=Tryz.underlying165
 a46:=Tryz.isAgg165
 z46:=Tryz.sizeOf165
 v46:=Tryz.zeroValue165
 t53:=Tryz.underlying213
 a53:=Tryz.isAgg213
 z53:=Tryz.sizeOf213
 v53:=Tryz.zeroValue213
 t57:=Tryz.underlying217
 a57:=Tryz.isAgg217
 z57:=Tryz.sizeOf217
 v57:=Tryz.zeroValue217
 t63:=Tryz.underlying235
 a63:=Tryz.isAgg235
 z63:=Tryz.sizeOf235
 v63:=Tryz.zeroValue235
 t64:=Tryz.underlying236
 a64:=Tryz.isAgg236
 z64:=Tryz.sizeOf236
 v64:=Tryz.zeroValue236}
open Go.Sort Go.RowKit in
theorem YtmmafcjjlbgnkaaGreatDoor.slices_Sort_int (blk off cap:Nat) (zs:List Int) (w:World) (hH:Holds (Value.int .i64) w blk off zs.toArray) (hblk:blk<w.heap.size) (hsz:zs.length<4611686018427387904):
 Calls Tryz.prog 83 #[.slice (some ⟨blk,off,none⟩) zs.length cap] w fun e w'=>e=.returned (.tuple #[])∧∃n os,w'=grow (putRow (Value.int .i64) (Sort.ahead w n) blk off (zs.mergeSort fun x y=>decide (x≤y)).toArray) os:=AnyM.slices_Sort_int YtmmafcjjlbgnkaaGreatDoor.adS blk off cap zs w hH hblk hsz
def YtmmafcjjlbgnkaaGreatDoor.uP:Go.Shelf.Ren:=⟨fun|6=>85|8=>113|9=>114|19=>160|20=>161|21=>162|22=>163|23=>164|24=>165|25=>166|26=>167|27=>168|28=>169|29=>170|36=>207|31=>202|32=>203|37=>208|38=>209|39=>210|41=>232|n=>n,fun|27=>24|29=>9|3=>3|32=>131|26=>24|0=>0|44=>186|46=>165|4=>4|36=>179|35=>178|41=>65|5=>5|9=>9|53=>213|57=>217|63=>235|64=>236|n=>n,fun|n=>n⟩
theorem YtmmafcjjlbgnkaaGreatDoor.um:Go.Proofs.SlLaysM.n6 Tryz.prog YtmmafcjjlbgnkaaGreatDoor.uP:={
 mixed:=by kernel_rfl
 f6:=⟨Tryz.f85.name,by decide,Tryz.func85.trans (congrArg some (by kernel_rfl))⟩
 f8:=Tryz.func113.trans (congrArg some (by kernel_rfl))
 f9:=⟨Tryz.f114.name,by decide,Tryz.func114.trans (congrArg some (by kernel_rfl))⟩
 f19:=Tryz.func160.trans (congrArg some (by kernel_rfl))
 f20:=Tryz.func161.trans (congrArg some (by kernel_rfl))
 f21:=⟨Tryz.f162.name,by decide,Tryz.func162.trans (congrArg some (by kernel_rfl))⟩
 f22:=⟨Tryz.f163.name,by decide,Tryz.func163.trans (congrArg some (by kernel_rfl))⟩
 f23:=⟨Tryz.f164.name,by decide,Tryz.func164.trans (congrArg some (by kernel_rfl))⟩
 f24:=⟨Tryz.f165.name,by decide,Tryz.func165.trans (congrArg some (by kernel_rfl))⟩
 f25:=⟨Tryz.f166.name,by decide,Tryz.func166.trans (congrArg some (by kernel_rfl))⟩
 f26:=⟨Tryz.f167.name,by decide,Tryz.func167.trans (congrArg some (by kernel_rfl))⟩
 f27:=⟨Tryz.f168.name,by decide,Tryz.func168.trans (congrArg some (by kernel_rfl))⟩
 f28:=⟨Tryz.f169.name,by decide,Tryz.func169.trans (congrArg some (by kernel_rfl))⟩
 f29:=⟨Tryz.f170.name,by decide,Tryz.func170.trans (congrArg some (by kernel_rfl))⟩
 f31:=Tryz.func202.trans (congrArg some (by kernel_rfl))
 f32:=Tryz.func203.trans (congrArg some (by kernel_rfl))
 f36:=⟨Tryz.f207.name,by decide,Tryz.func207.trans (congrArg some (by kernel_rfl))⟩
 f37:=⟨Tryz.f208.name,by decide,Tryz.func208.trans (congrArg some (by kernel_rfl))⟩
 f38:=⟨Tryz.f209.name,by decide,Tryz.func209.trans (congrArg some (by kernel_rfl))⟩
 f39:=⟨Tryz.f210.name,by decide,Tryz.func210.trans (congrArg some (by kernel_rfl))⟩
 f41:=⟨Tryz.f232.name,by decide,Tryz.func232.trans (congrArg some (by kernel_rfl))⟩
 t0:=Tryz.underlying0
 a0:=Tryz.isAgg0
 z0:=Tryz.sizeOf0
 v0:=Tryz.zeroValue0
 t3:=Tryz.underlying3
 a3:=Tryz.isAgg3
 z3:=Tryz.sizeOf3
 v3:=Tryz.zeroValue3
 t4:=Tryz.underlying4
 a4:=Tryz.isAgg4
 z4:=Tryz.sizeOf4
 v4:=Tryz.zeroValue4
 t5:=Tryz.underlying5
 a5:=Tryz.isAgg5
 z5:=Tryz.sizeOf5
 v5:=Tryz.zeroValue5
 t9:=Tryz.underlying9
 a9:=Tryz.isAgg9
 z9:=Tryz.sizeOf9
 v9:=Tryz.zeroValue9
 t26:=Tryz.underlying24
 a26:=Tryz.isAgg24
 z26:=Tryz.sizeOf24
 v26:=Tryz.zeroValue24
 t27:=Tryz.underlying24
 a27:=Tryz.isAgg24
 z27:=Tryz.sizeOf24
 v27:=Tryz.zeroValue24
 t29:=Tryz.underlying9
 a29:=Tryz.isAgg9
 z29:=Tryz.sizeOf9
 v29:=Tryz.zeroValue9
 t32:=Tryz.underlying131
 a32:=Tryz.isAgg131
 z32:=Tryz.sizeOf131
 v32:=Tryz.zeroValue131
 t35:=Tryz.underlying178
 a35:=Tryz.isAgg178
 z35:=Tryz.sizeOf178
 v35:=Tryz.zeroValue178
 t36:=Tryz.underlying179
 a36:=Tryz.isAgg179
 z36:=Tryz.sizeOf179
 v36:=Tryz.zeroValue179
 t41:=Tryz.underlying65
 a41:=Tryz.isAgg65
 z41:=Tryz.sizeOf65
 v41:=Tryz.zeroValue65
 t44:=Tryz.underlying186
 a44:=Tryz.isAgg186
 z44:=Tryz.sizeOf186
 v44:=Tryz.zeroValue186
 t46:=Tryz.underlying165
 a46:=Tryz.isAgg165
 z46:=Tryz.sizeOf165
 v46:=Tryz.zeroValue165
 t53:=Tryz.underlying213
 a53:=Tryz.isAgg213
 z53:=Tryz.sizeOf213
 v53:=Tryz.zeroValue213
 t57:=Tryz.underlying217
 a57:=Tryz.isAgg217
 z57:=Tryz.sizeOf217
 v57:=Tryz.zeroValue217
 t63:=Tryz.underlying235
 a63:=Tryz.isAgg235
 z63:=Tryz.sizeOf235
 v63:=Tryz.zeroValue235
 t64:=Tryz.underlying236
 a64:=Tryz.isAgg236
 z64:=Tryz.sizeOf236
 v64:=Tryz.zeroValue236}
open Go.Sort Go.RowKit in
theorem YtmmafcjjlbgnkaaGreatDoor.slices_Sort_string (blk off cap:Nat) (ss:List (List UInt8)) (w:World) (hH:Holds encStr w blk off ss.toArray) (hblk:blk<w.heap.size) (hsz:ss.length<4611686018427387904):
 Calls Tryz.prog 85 #[.slice (some ⟨blk,off,none⟩) ss.length cap] w fun e w'=>e=.returned (.tuple #[])∧∃n os,w'=grow (putRow encStr (Sort.ahead w n) blk off (ss.mergeSort fun x y=>decide (x≤y)).toArray) os:=AnyM.slices_Sort_string YtmmafcjjlbgnkaaGreatDoor.um blk off cap ss w hH hblk hsz
open Go.RowKit Go.Sort in
theorem YtmmafcjjlbgnkaaGreatDoor.slices_Sort_string_none (p:Option Addr) (cap:Nat) (w:World):
 Calls Tryz.prog 85 #[.slice p 0 cap] w fun e w'=>e=.returned (.tuple #[])∧w'=w:=AnyM.slices_Sort_string_none YtmmafcjjlbgnkaaGreatDoor.um p cap w
end Go.Proofs
namespace Go.Proofs.YtmmafcjjlbgnkaaGreatDoor
open Go.RowKit
set_option linter.all false
set_option maxHeartbeats 32000000
noncomputable section
def PV.le (p q:PV):Prop:=∀(g:Gh) (w:World) (v:Value),Rep g w p v→Rep g w q v
theorem PV.le_refl (p:PV):p.le p:=fun _ _ _ h=>h
theorem nil_le (k:Bool) (sz:Nat):(PV.val (.slice none 0 0)).le (.lst k sz []):=fun g w v h=>by simp only[Rep]at h⊢;subst h;exact⟨none,0,rfl,Nat.le_refl _,by omega,.inl trivial⟩
def leL:List PV→List PV→Prop
 |[],[]=>True
 |p::ps,q::qs=>p.le q∧leL ps qs
 |_,_=>False
theorem ahl:∀(l:List PV),leL l l
 |[]=>trivial
 |p::l=>⟨p.le_refl,ahl l⟩
theorem aaR {g:Gh} {w:World}:∀{ps qs:List PV} {vs:List Value},leL ps qs→bL g w ps vs→bL g w qs vs
 |[],[],vs,_,h=>h
 |p::ps,q::qs,vs,hl,h=>by simp only[bL]at h⊢;obtain⟨v,vs',rfl,h1,h2⟩:=h;exact⟨v,vs',rfl,hl.1 _ _ _ h1,aaR hl.2 h2⟩
 |[],_::_,vs,hl,_=>hl.elim
 |_::_,[],vs,hl,_=>hl.elim
theorem qL {ps qs:List PV} (h:leL ps qs):(PV.tup ps).le (.tup qs):=fun g w v hv=>by simp only[Rep]at hv⊢;obtain⟨vs,rfl,h1⟩:=hv;exact⟨vs,rfl,aaR h h1⟩
theorem Sound.weak {P:Program} {f:Nat} {φ φ':Fun} (h:Sound P f φ) (hw:∀ps r,φ' ps=some r→∃ps' r',leL ps ps'∧φ ps'=some r'∧r'.le r):Sound P f φ':=by intro w J ps args r hr hJ hT hargs;obtain⟨ps',r',h1,h2,h3⟩:=hw ps r hr;refine(h w J ps' args r' h2 hJ hT (aaR h1 hargs)).mono ?_;rintro e w' ⟨v,rfl,hb,hrep⟩;exact⟨v,rfl,hb,fun g' hg=>h3 _ _ _ (hrep g' hg)⟩
def nrm (sz:Nat):PV→PV
 | .val (.slice none 0 0)=> .lst false sz []
 |p=>p
theorem aAm (sz:Nat) (p:PV):p.le (nrm sz p):=by
 unfold nrm;split
 ·exact nil_le _ _
 ·exact p.le_refl
theorem aeJ (sz:Nat):∀ps:List PV,leL ps (ps.map (nrm sz))
 |[]=>trivial
 |p::ps=>⟨aAm sz p,aeJ sz ps⟩
def ayt (sz:Nat) (φ:Fun):Fun:=fun ps=>φ (ps.map (nrm sz))
theorem Sound.nil {P:Program} {f:Nat} {φ:Fun} (h:Sound P f φ) (sz:Nat):Sound P f (ayt sz φ):=
 h.weak fun ps r hr=>⟨_,r,aeJ sz ps,hr,PV.le_refl _⟩
section
variable {P:Program} {Γ:Ctx}
theorem gB (hm:P.follows .mixedOrders=true) {f:Nat} {fn:Func} {c:Code} {φ:Fun} (hΓ:au P Γ) (hf:P.funcs[f]?=some fn) (hb:fn.body=some c) (N:Nat) (hN:fn.ntmps=N) (rs:List ResultVar) (hrs:fn.results.toList=rs) (hc:codeOk Γ true N c=true)
 (h:∀ps r,φ ps=some r→ps.length≤N∧pq P Γ N c (fun x s'=>∃r',r'.le r∧Post P rs r' x s') (bX ps).tm (fun _=>none) 0):Sound P f φ:=by
 obtain⟨φ',h1,h2⟩:=ada hm hΓ hf hb N hN rs hrs hc (fun ps=>∃r,φ ps=some r) (fun ps r'=>∀r,φ ps=some r→r'.le r) (fun ps ⟨r,hr⟩=>(h ps r hr).1) (fun ps ⟨r,hr⟩=>by refine ak0 (fun x s' hx=>?_) _ _ (h ps r hr).2;obtain⟨r',k1,k2⟩:=hx;exact⟨r',fun r1 hr1=>by rw[hr]at hr1;cases hr1;exact k1,k2⟩)
 refine h1.weak fun ps r hr=>?_;obtain⟨r',k1,k2⟩:=h2 ps ⟨r,hr⟩;exact⟨ps,r',ahl _,k1,k2 r hr⟩
theorem cO {rs:List ResultVar} {r r':PV} {tm:Nat→PV} {ob:bG} {nx:Nat} {x:X} (hx:x=.normal∨x=.ret) (h:((fU P ⟨tm,ob,nx⟩ rs).bind fun qs=>reify true 0 ob fuel (gM qs))=some r') (hl:r'.le r):∃r',r'.le r∧Post P rs r' x ⟨tm,ob,nx⟩:=⟨r',hl,hx,h⟩
end
theorem ajV {n f sz:Nat} {ob:bG} {k:Bool}:reify false n ob (f+1) (.lst k sz [])=some (.lst false sz []):=by simp[reify]
attribute[push_cast]
 ajV
def nP (sz:Nat) (es:List PV) (x:Nat):PV:=match es with|[]=> .val (.slice none 0 0)|_::_=> .row x sz 0 es.length
def nO (T sz:Nat) (es:List PV) (x:Nat):List (Nat×aS):=match es with|[]=>[]|_::_=>[(x,T,sz,es)]
theorem bW {sz x:Nat}:nP sz [] x=.val (.slice none 0 0):=rfl
theorem bU {T sz x:Nat}:nO T sz [] x=[]:=rfl
theorem axK {T sz x:Nat} {e:PV} {es:List PV}:nO T sz (e::es) x=[(x,T,sz,e::es)]:=rfl
theorem av {sz x:Nat} {es:List PV} (h:0<es.length):nP sz es x=.row x sz 0 es.length:=by
 cases es with
 |nil=>simp at h
 |cons e es=>rfl
theorem ay {T sz x:Nat} {es:List PV} (h:0<es.length):nO T sz es x=[(x,T,sz,es)]:=by
 cases es with
 |nil=>simp at h
 |cons e es=>rfl
attribute[push_cast]
 bW bU
attribute[push_cast low]
 av ay
theorem auZ {P:Program} {t:Nat} {x y:Operand} {a b:ByteArray} (h:a.size+b.size≤9223372036854775807):mq P .add t x y (some (.string a)) (some (.string b))=some (.val (.string (a++b))):=by
 have h2:¬(((a.size+b.size:Nat):Int)>IntKind.i64.max):=by
  have:IntKind.i64.max=9223372036854775807:=by decide
  rw[this];omega
 have:aA P (do eqGuard .add t x y (.string a) (.string b);binOp .add t (.string a) (.string b))=some (.string (a++b)):=by
  show aA P (Op.stringOp .add a b)=_;unfold Op.stringOp;dsimp only
  rw[if_neg h2];rfl
 simp only[mq,this,Option.map_some]
theorem size_push (ns:List Int) (r:ByteArray):(ns.foldl (fun r n=>r.push (UInt8.ofNat n.toNat)) r).size=r.size+ns.length:=by
 induction ns generalizing r with
 |nil=>simp
 |cons n ns ih=>rw[List.foldl_cons,ih,List.length_cons,ByteArray.size_push];omega
theorem jJ (ns:List Int):(bytesOf ns).size=ns.length:=by unfold bytesOf;rw[size_push];simp
attribute[push_cast]
 auZ jJ ByteArray.size_append jO
def lN (l:List ByteArray) (sep:ByteArray):ByteArray:=⟨(Lib.join (l.map (·.data.toList)) sep.data.toList).toArray⟩
def ahg:Fun:=F2 dSs dS fun l sep=>if l.length≤1048576∧(lN l sep).size≤140737488355328 then some (.val (.string (lN l sep)))else none
theorem ac2 {l:List ByteArray} {sep:ByteArray} (h:l.length≤1048576) (h2:(lN l sep).size≤140737488355328):ahg [.lst false 1 (l.map fun s=> .val (.string s)),.val (.string sep)]=some (.val (.string (lN l sep))):=
 (fZ (A:=dSs) (B:=dS) l sep).trans (if_pos ⟨h,h2⟩)
theorem anB {g:Gh} {w:World} {b off:Nat} {l:List ByteArray} (h:bB g w 1 (l.map fun s=>PV.val (.string s)) b off):∀(j:Nat) x,l[j]?=some x→w.cell? ⟨b,off+j,none⟩=some (.string x):=fun j x hx=>by obtain⟨u,h1,h2,_⟩:=h.get (i:=j) (e:=.val (.string x)) (by simp[hx]);simp only[Rep]at h1;subst h1;have:=h2.2 0 (by simp[Value.cells]);simpa [Value.cells]using this
theorem aiH {P:Program} {f:Nat} (H0:∀(a:Option Addr) (c:Nat) (sep:ByteArray) (w:World),Calls P f #[.slice a 0 c,.string sep] w fun e w'=>e=.returned (.string ⟨#[]⟩)∧w'=w)
 (H1:∀(bk o c:Nat) (xs:List ByteArray) (sep:ByteArray) (w:World),(∀(j:Nat) x,xs[j]?=some x→w.cell? ⟨bk,o+j,none⟩=some (.string x))→bk<w.heap.size→xs.length≤140737488355328→xs.length≤c→(Lib.join (xs.map (·.data.toList)) sep.data.toList).length≤140737488355328→
   Calls P f #[.slice (some ⟨bk,o,none⟩) xs.length c,.string sep] w fun e w'=>e=.returned (.string ⟨(Lib.join (xs.map (·.data.toList)) sep.data.toList).toArray⟩)∧Below w.heap.size w w'):Sound P f ahg:=by
 intro w J ps args r hr hJ hT hargs;obtain⟨l,sep,rfl,hq⟩:=iD hr;split at hq
 case isFalse=>cases hq
 case isTrue hok=>
 cases hq;have hargs:=hargs;simp only[bL]at hargs;obtain⟨v1,vs1,e1,h1,v2,vs2,rfl,h2,rfl⟩:=hargs;obtain rfl:args=#[v1,v2]:=by obtain⟨a⟩:=args;simp only at e1;rw[e1]
 simp only[dSs,dL,dS,Rep]at h1 h2;subst h2;obtain⟨a,cap,rfl,k1,k2,k3⟩:=h1;simp only[List.length_map]at k1⊢;have hsz:(lN l sep).size=(Lib.join (l.map (·.data.toList)) sep.data.toList).length:=by simp[lN,ByteArray.size]
 rcases k3 with k3|⟨b,off,rfl,k4,k5⟩
 ·have:l=[]:=by simpa using k3
  subst this;refine(H0 a cap sep w).mono ?_;rintro e w' ⟨rfl,rfl⟩;exact⟨_,rfl,Below.refl _ _,fun g' _=>by simp only[Rep];rfl⟩
 ·refine(H1 b off cap l sep w (anB k5) (hJ b k4.2) (by omega) k1 (by omega)).mono ?_
  rintro e w' ⟨rfl,hb⟩;exact⟨_,rfl,hb,fun g' _=>by simp only[Rep];rfl⟩
theorem tX (sep:List UInt8):∀(r:List (List UInt8)),(Lib.joinTail sep r).length=(r.map List.length).sum+r.length*sep.length
 |[]=>by simp[Lib.joinTail]
 |x::r=>by have ih:=tX sep r;unfold Lib.joinTail at ih⊢;simp only[List.map_cons,List.flatten_cons,List.length_append,List.sum_cons,List.length_cons,ih,Nat.add_mul];omega
def zi (l:List ByteArray):Nat:=(l.map (·.size)).sum
theorem zC (l:List ByteArray) (sep:ByteArray):(lN l sep).size=zi l+(l.length-1)*sep.size:=by
 have hsz:(lN l sep).size=(Lib.join (l.map (·.data.toList)) sep.data.toList).length:=by simp[lN,ByteArray.size]
 rw[hsz];clear hsz;have e:∀s:ByteArray,s.data.toList.length=s.size:=fun s=>Array.length_toList;cases l with
 |nil=>simp[Lib.join_nil,zi]
 |cons x r=>rw[List.map_cons,Lib.join_cons,List.length_append,tX];simp only[List.map_map,List.length_map,zi,List.map_cons,List.sum_cons,List.length_cons,Nat.add_sub_cancel,e];have h2:(List.length∘fun x:ByteArray=>x.data.toList)=fun x=>x.size:=funext fun s=>e s;rw[h2];omega
theorem aml {l:List ByteArray} {c:Nat} (h:∀i:Nat,(l[i]?.getD .empty).size≤c):zi l≤l.length*c:=by
 induction l with
 |nil=>simp[zi]
 |cons x l ih=>
  have h0:=h 0;have:=ih fun i=>by simpa using h (i+1)
  simp only[List.getElem?_cons_zero,Option.getD_some]at h0;simp only[zi,List.map_cons,List.sum_cons,List.length_cons,Nat.add_mul,Nat.one_mul]at this⊢;omega
theorem avh:Sound Tryz.prog 76 ahg:=aiH YtmmafcjjlbgnkaaGreatDoor.strings_Join_none YtmmafcjjlbgnkaaGreatDoor.strings_Join
theorem jC {α β:Type} {P:Program} {m:Sem α} {f:α→Sem β} {a:α} (h:aA P m=some a):aA P (m>>=f)=aA P (f a):=by
 induction m with
 |pure x=>simp only[aA,Option.some.injEq]at h;subst h;rfl
 |program k ih=>exact ih P h
 |_=>simp[aA]at h
theorem abb {P:Program} {v:Int} {m:Nat} {k:BoundsCode} (h:0≤v) (h2:v≤m):aA P (Instr.sliceBound (.int .i64 v) m k)=some v.toNat:=by have e:Instr.sliceBound (.int .i64 v) m k=(if 0≤v∧v≤m then pure v.toNat else boundsPanic .i64 v m k):=rfl;rw[e,if_pos ⟨h,h2⟩];rfl
theorem auE {P:Program} {t:Nat} {d:TypeDesc} (hu:P.underlying t=some d):aA P (underlying t)=some d:=by unfold underlying;rw[jC (a:=P) rfl];simp only[hu];rfl
theorem sps {P:Program} {t:Nat} {s:ByteArray} {lo hi:Option Int} (hu:P.underlying t=some .string) (h0:0≤lo.getD 0) (h1:lo.getD 0≤hi.getD s.size) (h2:hi.getD s.size≤s.size):
 azj P t (.val (.string s)) (some lo) (some hi)=some (.val (.string (s.extract (lo.getD 0).toNat (hi.getD s.size).toNat))):=by
 have hb:aA P (Instr.sliceBounds false s.size s.size (lo.map (Value.int .i64)) (hi.map (Value.int .i64)) none)=some ((lo.getD 0).toNat,(hi.getD s.size).toNat,s.size):=by
  unfold Instr.sliceBounds;rw[jC (a:=s.size) rfl];cases hi with
  |none=>
   simp only[Option.map_none,Option.getD_none]at h1⊢;rw[jC (a:=s.size) rfl];cases lo with
   |none=>simp only[Option.map_none,Option.getD_none,Int.toNat_natCast];rw[jC (a:=0) rfl];rfl
   |some l=>simp only[Option.map_some,Option.getD_some,Int.toNat_natCast]at h0 h1⊢;rw[jC (abb h0 h1)];rfl
  |some h=>
   simp only[Option.map_some,Option.getD_some]at h1 h2⊢;have h3:0≤h:=by omega
   rw[jC (abb h3 h2)];cases lo with
   |none=>simp only[Option.map_none,Option.getD_none];rw[jC (a:=0) rfl];rfl
   |some l=>simp only[Option.map_some,Option.getD_some]at h0 h1⊢;rw[jC (abb h0 (by omega))];rfl
 have hs:aA P (Instr.sliceAt t (.string s) (lo.map (Value.int .i64)) (hi.map (Value.int .i64)) none)=some (.string (s.extract (lo.getD 0).toNat (hi.getD s.size).toNat)):=by
  unfold Instr.sliceAt;rw[jC (auE hu)];dsimp only
  unfold Instr.slice;rw[jC (auE hu)];dsimp only
  simp only[Option.isSome_none,Bool.false_eq_true,if_false];rw[jC hb];rfl
 show(aA P _).map _=_;rw[hs];rfl
theorem auT {s:ByteArray} {lo hi:Option Int} (h0:0≤lo.getD 0) (h1:lo.getD 0≤hi.getD s.size) (h2:hi.getD s.size≤s.size):
 azj Tryz.prog 9 (.val (.string s)) (some lo) (some hi)=some (.val (.string (s.extract (lo.getD 0).toNat (hi.getD s.size).toNat))):=sps Tryz.underlying9 h0 h1 h2
attribute[push_cast]
 auT
theorem avJ {o nx:Nat}:uL [o] nx 1=some nx:=by simp[uL,p9]
theorem ajf {out:List Nat} {ob:bG} {l:List PV}:l.mapM (dA out ob fuel)=l.mapM (dA out ob 8):=rfl
attribute[push_cast]
 ajf avJ
end
end Go.Proofs.YtmmafcjjlbgnkaaGreatDoor
