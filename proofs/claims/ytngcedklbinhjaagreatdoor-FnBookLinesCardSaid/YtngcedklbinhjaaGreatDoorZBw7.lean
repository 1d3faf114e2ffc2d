/- What the proof rests on, part 7: contracts of functions. No condition beyond what each states. -/
import Derived.Test.YtngcedklbinhjaaGreatDoorZBw6
namespace Go.Proofs.YtngcedklbinhjaaGreatDoor
open Go.RowKit
set_option linter.all false
theorem aDP : aR Tryz.prog 2 = some 1 := by kernel_rfl
theorem aD4 : eu Tryz.prog 2 = some false := by kernel_rfl
theorem aEk : bL Tryz.prog 2 = some 8 := by kernel_rfl
theorem aDB : zeroOf Tryz.prog 2 = some (.int .i64 0) := by kernel_rfl
theorem abS : Tryz.prog.underlying 2 = some (.int .i64) := by kernel_rfl
theorem aEl : dF (.int .i64 0) = .val (.int .i64 0) := rfl
theorem aDY {Γ : Ctx} (s : AS) (ρ : Operand → PV) : aQ Tryz.prog Γ s ρ (.alloc 2) = some (.own s.nx 1 0 0, upd s.ob s.nx (some (2, 1, [.val (.int .i64 0)])), s.nx + 1) := fZ aDB (by kernel_rfl) rfl rfl s ρ
theorem aDR : aB Tryz.prog 2 = false := by kernel_rfl
theorem aEd : isStr Tryz.prog 2 = false := by kernel_rfl
theorem wU : aR Tryz.prog 3 = some 1 := by kernel_rfl
theorem aEc : eu Tryz.prog 3 = some false := by kernel_rfl
theorem az0 : bL Tryz.prog 3 = some 8 := by kernel_rfl
theorem agf : zeroOf Tryz.prog 3 = some (.int .i64 0) := by kernel_rfl
theorem acL : Tryz.prog.underlying 3 = some (.int .i64) := by kernel_rfl
theorem aD0 : dF (.int .i64 0) = .val (.int .i64 0) := rfl
theorem aDH {Γ : Ctx} (s : AS) (ρ : Operand → PV) : aQ Tryz.prog Γ s ρ (.alloc 3) = some (.own s.nx 1 0 0, upd s.ob s.nx (some (3, 1, [.val (.int .i64 0)])), s.nx + 1) := fZ agf (by kernel_rfl) rfl rfl s ρ
theorem aEu : aB Tryz.prog 3 = false := by kernel_rfl
theorem aD9 : isStr Tryz.prog 3 = false := by kernel_rfl
theorem aAP : aR Tryz.prog 4 = some 1 := by kernel_rfl
theorem aEq : eu Tryz.prog 4 = some false := by kernel_rfl
theorem aEC : bL Tryz.prog 4 = some 1 := by kernel_rfl
theorem aDF : zeroOf Tryz.prog 4 = some (.bool false) := by kernel_rfl
theorem azx : Tryz.prog.underlying 4 = some .bool := by kernel_rfl
theorem aCI {x y : Operand} {a b : Bool} : jB Tryz.prog .eql 4 x y (some (.bool a)) (some (.bool b)) = some (.val (.bool (a == b))) := aqT azx
theorem aA3 {x y : Operand} {a b : Bool} : jB Tryz.prog .neq 4 x y (some (.bool a)) (some (.bool b)) = some (.val (.bool (!(a == b)))) := an5 azx
theorem aDW : dF (.bool false) = .val (.bool false) := rfl
theorem aEA {Γ : Ctx} (s : AS) (ρ : Operand → PV) : aQ Tryz.prog Γ s ρ (.alloc 4) = some (.own s.nx 1 0 0, upd s.ob s.nx (some (4, 1, [.val (.bool false)])), s.nx + 1) := fZ aDF (by kernel_rfl) rfl rfl s ρ
theorem aEy : aB Tryz.prog 4 = false := by kernel_rfl
theorem aEi : isStr Tryz.prog 4 = false := by kernel_rfl
theorem ake : aR Tryz.prog 5 = some 1 := by kernel_rfl
theorem aD2 : eu Tryz.prog 5 = some false := by kernel_rfl
theorem azr : bL Tryz.prog 5 = some 1 := by kernel_rfl
theorem au2 : zeroOf Tryz.prog 5 = some (.int .u8 0) := by kernel_rfl
theorem abh : Tryz.prog.underlying 5 = some (.int .u8) := by kernel_rfl
theorem aDV : dF (.int .u8 0) = .val (.int .u8 0) := rfl
theorem aEg {Γ : Ctx} (s : AS) (ρ : Operand → PV) : aQ Tryz.prog Γ s ρ (.alloc 5) = some (.own s.nx 1 0 0, upd s.ob s.nx (some (5, 1, [.val (.int .u8 0)])), s.nx + 1) := fZ au2 (by kernel_rfl) rfl rfl s ρ
theorem aEp : aB Tryz.prog 5 = false := by kernel_rfl
theorem aEe : isStr Tryz.prog 5 = false := by kernel_rfl
theorem aD5 : aR Tryz.prog 7 = some 4 := by kernel_rfl
theorem aD3 : eu Tryz.prog 7 = some true := by kernel_rfl
theorem aDL : bL Tryz.prog 7 = some 24 := by kernel_rfl
theorem aAm : zeroOf Tryz.prog 7 = some (.agg #[.int .i64 0, .int .i64 0, .bool false, .int .u8 0]) := by kernel_rfl
theorem atT : aD Tryz.prog 7 0 = some 0 := by kernel_rfl
theorem auz : aD Tryz.prog 7 1 = some 1 := by kernel_rfl
theorem avf : aD Tryz.prog 7 2 = some 2 := by kernel_rfl
theorem awJ : aD Tryz.prog 7 3 = some 3 := by kernel_rfl
theorem aDA : aZ Tryz.prog 7 = some #[(0, 1), (1, 1), (2, 1), (3, 1)] := by kernel_rfl
theorem aEw (ps : List (Nat × PV)) : bN Tryz.prog 7 ps = (gT (plF [(0, 1), (1, 1), (2, 1), (3, 1)]) [.val (.int .i64 0), .val (.int .i64 0), .val (.bool false), .val (.int .u8 0)] ps).map .agg := lI aAm rfl aDA ps
theorem aDU : dF (.agg #[.int .i64 0, .int .i64 0, .bool false, .int .u8 0]) = .agg [.val (.int .i64 0), .val (.int .i64 0), .val (.bool false), .val (.int .u8 0)] := rfl
theorem aDS {Γ : Ctx} (s : AS) (ρ : Operand → PV) : aQ Tryz.prog Γ s ρ (.alloc 7) = some (.own s.nx 4 0 0, upd s.ob s.nx (some (7, 4, [.agg [.val (.int .i64 0), .val (.int .i64 0), .val (.bool false), .val (.int .u8 0)]])), s.nx + 1) := fZ aAm (by kernel_rfl) rfl rfl s ρ
theorem aEs {Γ : Ctx} {ob : aF} {ρ : Operand → PV} {ty : Nat} : aY Tryz.prog Γ ob ρ ty (.build 7 #[]) = some (.agg [.val (.int .i64 0), .val (.int .i64 0), .val (.bool false), .val (.int .u8 0)]) := (show bN Tryz.prog 7 [] = some (.agg [.val (.int .i64 0), .val (.int .i64 0), .val (.bool false), .val (.int .u8 0)]) from by kernel_rfl)
theorem aEb : aB Tryz.prog 7 = false := by kernel_rfl
theorem aDM : isStr Tryz.prog 7 = false := by kernel_rfl
theorem acw : aR Tryz.prog 9 = some 1 := by kernel_rfl
theorem aEf : eu Tryz.prog 9 = some false := by kernel_rfl
theorem aBn : bL Tryz.prog 9 = some 16 := by kernel_rfl
theorem akd : zeroOf Tryz.prog 9 = some (.string ByteArray.empty) := by kernel_rfl
theorem aCz : Tryz.prog.underlying 9 = some .string := by kernel_rfl
theorem aBb {ty : Nat} {s : ByteArray} : mF Tryz.prog 9 ty (.val (.string s)) = some (.val (.int .i64 s.size)) := ayh aCz
theorem aAa {s : ByteArray} {i : Int} (h0 : 0 ≤ i) (h1 : i < s.size) : azh Tryz.prog 9 (some (.string s)) (some (.int .i64 i)) = some (.val (.int .u8 (at8 s i.toNat))) := au8 aCz h0 h1
theorem aDX : dF (.string ByteArray.empty) = .val (.string ByteArray.empty) := rfl
theorem aEh {Γ : Ctx} (s : AS) (ρ : Operand → PV) : aQ Tryz.prog Γ s ρ (.alloc 9) = some (.own s.nx 1 0 0, upd s.ob s.nx (some (9, 1, [.val (.string ByteArray.empty)])), s.nx + 1) := fZ akd (by kernel_rfl) rfl rfl s ρ
theorem aEB : aB Tryz.prog 9 = false := by kernel_rfl
theorem aDT : isStr Tryz.prog 9 = true := by kernel_rfl
theorem aCD : aR Tryz.prog 12 = some 1 := by kernel_rfl
theorem aC3 : eu Tryz.prog 12 = some false := by kernel_rfl
theorem azO : bL Tryz.prog 12 = some 8 := by kernel_rfl
theorem awx : zeroOf Tryz.prog 12 = some (.int .u64 0) := by kernel_rfl
theorem nX : Tryz.prog.underlying 12 = some (.int .u64) := by kernel_rfl
theorem aC8 : dF (.int .u64 0) = .val (.int .u64 0) := rfl
theorem aBi {Γ : Ctx} (s : AS) (ρ : Operand → PV) : aQ Tryz.prog Γ s ρ (.alloc 12) = some (.own s.nx 1 0 0, upd s.ob s.nx (some (12, 1, [.val (.int .u64 0)])), s.nx + 1) := fZ awx (by kernel_rfl) rfl rfl s ρ
theorem aBe : aB Tryz.prog 12 = false := by kernel_rfl
theorem aC4 : isStr Tryz.prog 12 = false := by kernel_rfl
theorem azL : aR Tryz.prog 13 = some 2 := by kernel_rfl
theorem aA4 : eu Tryz.prog 13 = some true := by kernel_rfl
theorem azC : bL Tryz.prog 13 = some 24 := by kernel_rfl
theorem arQ : zeroOf Tryz.prog 13 = some (.agg #[.string ByteArray.empty, .int .u64 0]) := by kernel_rfl
theorem aqy : aD Tryz.prog 13 0 = some 0 := by kernel_rfl
theorem aox : aD Tryz.prog 13 1 = some 1 := by kernel_rfl
theorem atF : aZ Tryz.prog 13 = some #[(0, 1), (1, 1)] := by kernel_rfl
theorem aAR (ps : List (Nat × PV)) : bN Tryz.prog 13 ps = (gT (plF [(0, 1), (1, 1)]) [.val (.string ByteArray.empty), .val (.int .u64 0)] ps).map .agg := lI arQ rfl atF ps
theorem azN : dF (.agg #[.string ByteArray.empty, .int .u64 0]) = .agg [.val (.string ByteArray.empty), .val (.int .u64 0)] := rfl
theorem aDz {Γ : Ctx} (s : AS) (ρ : Operand → PV) : aQ Tryz.prog Γ s ρ (.alloc 13) = some (.own s.nx 2 0 0, upd s.ob s.nx (some (13, 2, [.agg [.val (.string ByteArray.empty), .val (.int .u64 0)]])), s.nx + 1) := fZ arQ (by kernel_rfl) rfl rfl s ρ
theorem aCG {Γ : Ctx} {ob : aF} {ρ : Operand → PV} {ty : Nat} : aY Tryz.prog Γ ob ρ ty (.build 13 #[]) = some (.agg [.val (.string ByteArray.empty), .val (.int .u64 0)]) := (show bN Tryz.prog 13 [] = some (.agg [.val (.string ByteArray.empty), .val (.int .u64 0)]) from by kernel_rfl)
theorem az4 : aB Tryz.prog 13 = false := by kernel_rfl
theorem aAC : isStr Tryz.prog 13 = false := by kernel_rfl
theorem aDf : aR Tryz.prog 21 = some 1 := by kernel_rfl
theorem aDm : eu Tryz.prog 21 = some false := by kernel_rfl
theorem aBp : bL Tryz.prog 21 = some 4 := by kernel_rfl
theorem ays : zeroOf Tryz.prog 21 = some (.int .i32 0) := by kernel_rfl
theorem nT : Tryz.prog.underlying 21 = some (.int .i32) := by kernel_rfl
theorem aDw : dF (.int .i32 0) = .val (.int .i32 0) := rfl
theorem aC7 {Γ : Ctx} (s : AS) (ρ : Operand → PV) : aQ Tryz.prog Γ s ρ (.alloc 21) = some (.own s.nx 1 0 0, upd s.ob s.nx (some (21, 1, [.val (.int .i32 0)])), s.nx + 1) := fZ ays (by kernel_rfl) rfl rfl s ρ
theorem aAE : aB Tryz.prog 21 = false := by kernel_rfl
theorem aAN : isStr Tryz.prog 21 = false := by kernel_rfl
theorem aCd : aR Tryz.prog 39 = some 5 := by kernel_rfl
theorem aCP : eu Tryz.prog 39 = some true := by kernel_rfl
theorem aCf : bL Tryz.prog 39 = some 72 := by kernel_rfl
theorem arF : zeroOf Tryz.prog 39 = some (.agg #[.slice none 0 0, .slice none 0 0, .int .i64 0, .int .i64 0, .int .i64 0]) := by kernel_rfl
theorem aqG : aD Tryz.prog 39 0 = some 0 := by kernel_rfl
theorem asC : aD Tryz.prog 39 1 = some 1 := by kernel_rfl
theorem aqF : aD Tryz.prog 39 2 = some 2 := by kernel_rfl
theorem ari : aD Tryz.prog 39 3 = some 3 := by kernel_rfl
theorem aq2 : aD Tryz.prog 39 4 = some 4 := by kernel_rfl
theorem avt : aZ Tryz.prog 39 = some #[(0, 1), (1, 1), (2, 1), (3, 1), (4, 1)] := by kernel_rfl
theorem aBE (ps : List (Nat × PV)) : bN Tryz.prog 39 ps = (gT (plF [(0, 1), (1, 1), (2, 1), (3, 1), (4, 1)]) [.val (.slice none 0 0), .val (.slice none 0 0), .val (.int .i64 0), .val (.int .i64 0), .val (.int .i64 0)] ps).map .agg := lI arF rfl avt ps
theorem aCq : dF (.agg #[.slice none 0 0, .slice none 0 0, .int .i64 0, .int .i64 0, .int .i64 0]) = .agg [.val (.slice none 0 0), .val (.slice none 0 0), .val (.int .i64 0), .val (.int .i64 0), .val (.int .i64 0)] := rfl
theorem aBm {Γ : Ctx} (s : AS) (ρ : Operand → PV) : aQ Tryz.prog Γ s ρ (.alloc 39) = some (.own s.nx 5 0 0, upd s.ob s.nx (some (39, 5, [.agg [.val (.slice none 0 0), .val (.slice none 0 0), .val (.int .i64 0), .val (.int .i64 0), .val (.int .i64 0)]])), s.nx + 1) := fZ arF (by kernel_rfl) rfl rfl s ρ
theorem aBx {Γ : Ctx} {ob : aF} {ρ : Operand → PV} {ty : Nat} : aY Tryz.prog Γ ob ρ ty (.build 39 #[]) = some (.agg [.val (.slice none 0 0), .val (.slice none 0 0), .val (.int .i64 0), .val (.int .i64 0), .val (.int .i64 0)]) := (show bN Tryz.prog 39 [] = some (.agg [.val (.slice none 0 0), .val (.slice none 0 0), .val (.int .i64 0), .val (.int .i64 0), .val (.int .i64 0)]) from by kernel_rfl)
theorem aCT : aB Tryz.prog 39 = false := by kernel_rfl
theorem az8 : isStr Tryz.prog 39 = false := by kernel_rfl
theorem aDy : aR Tryz.prog 40 = some 5 := by kernel_rfl
theorem aBS : eu Tryz.prog 40 = some true := by kernel_rfl
theorem aCt : bL Tryz.prog 40 = some 72 := by kernel_rfl
theorem akM : zeroOf Tryz.prog 40 = some (.agg #[.slice none 0 0, .slice none 0 0, .int .i64 0, .int .i64 0, .int .i64 0]) := by kernel_rfl
theorem aqU : aD Tryz.prog 40 0 = some 0 := by kernel_rfl
theorem aq6 : aD Tryz.prog 40 1 = some 1 := by kernel_rfl
theorem asL : aD Tryz.prog 40 2 = some 2 := by kernel_rfl
theorem as9 : aD Tryz.prog 40 3 = some 3 := by kernel_rfl
theorem aqv : aD Tryz.prog 40 4 = some 4 := by kernel_rfl
theorem atL : aZ Tryz.prog 40 = some #[(0, 1), (1, 1), (2, 1), (3, 1), (4, 1)] := by kernel_rfl
theorem azR (ps : List (Nat × PV)) : bN Tryz.prog 40 ps = (gT (plF [(0, 1), (1, 1), (2, 1), (3, 1), (4, 1)]) [.val (.slice none 0 0), .val (.slice none 0 0), .val (.int .i64 0), .val (.int .i64 0), .val (.int .i64 0)] ps).map .agg := lI akM rfl atL ps
theorem aCy : dF (.agg #[.slice none 0 0, .slice none 0 0, .int .i64 0, .int .i64 0, .int .i64 0]) = .agg [.val (.slice none 0 0), .val (.slice none 0 0), .val (.int .i64 0), .val (.int .i64 0), .val (.int .i64 0)] := rfl
theorem aAy {Γ : Ctx} (s : AS) (ρ : Operand → PV) : aQ Tryz.prog Γ s ρ (.alloc 40) = some (.own s.nx 5 0 0, upd s.ob s.nx (some (40, 5, [.agg [.val (.slice none 0 0), .val (.slice none 0 0), .val (.int .i64 0), .val (.int .i64 0), .val (.int .i64 0)]])), s.nx + 1) := fZ akM (by kernel_rfl) rfl rfl s ρ
theorem aDg {Γ : Ctx} {ob : aF} {ρ : Operand → PV} {ty : Nat} : aY Tryz.prog Γ ob ρ ty (.build 40 #[]) = some (.agg [.val (.slice none 0 0), .val (.slice none 0 0), .val (.int .i64 0), .val (.int .i64 0), .val (.int .i64 0)]) := (show bN Tryz.prog 40 [] = some (.agg [.val (.slice none 0 0), .val (.slice none 0 0), .val (.int .i64 0), .val (.int .i64 0), .val (.int .i64 0)]) from by kernel_rfl)
theorem az5 : aB Tryz.prog 40 = false := by kernel_rfl
theorem aBY : isStr Tryz.prog 40 = false := by kernel_rfl
theorem aCc : aR Tryz.prog 53 = some 4 := by kernel_rfl
theorem aBs : eu Tryz.prog 53 = some true := by kernel_rfl
theorem azl : bL Tryz.prog 53 = some 32 := by kernel_rfl
theorem aqA : zeroOf Tryz.prog 53 = some (.agg #[.int .i64 0, .int .i64 0, .int .i64 0, .int .i64 0]) := by kernel_rfl
theorem aq7 : aD Tryz.prog 53 0 = some 0 := by kernel_rfl
theorem aop : aD Tryz.prog 53 1 = some 1 := by kernel_rfl
theorem aqR : aD Tryz.prog 53 2 = some 2 := by kernel_rfl
theorem aqj : aD Tryz.prog 53 3 = some 3 := by kernel_rfl
theorem ay3 : aZ Tryz.prog 53 = some #[(0, 1), (1, 1), (2, 1), (3, 1)] := by kernel_rfl
theorem aAx (ps : List (Nat × PV)) : bN Tryz.prog 53 ps = (gT (plF [(0, 1), (1, 1), (2, 1), (3, 1)]) [.val (.int .i64 0), .val (.int .i64 0), .val (.int .i64 0), .val (.int .i64 0)] ps).map .agg := lI aqA rfl ay3 ps
theorem aB0 : dF (.agg #[.int .i64 0, .int .i64 0, .int .i64 0, .int .i64 0]) = .agg [.val (.int .i64 0), .val (.int .i64 0), .val (.int .i64 0), .val (.int .i64 0)] := rfl
theorem aBL {Γ : Ctx} (s : AS) (ρ : Operand → PV) : aQ Tryz.prog Γ s ρ (.alloc 53) = some (.own s.nx 4 0 0, upd s.ob s.nx (some (53, 4, [.agg [.val (.int .i64 0), .val (.int .i64 0), .val (.int .i64 0), .val (.int .i64 0)]])), s.nx + 1) := fZ aqA (by kernel_rfl) rfl rfl s ρ
theorem aBa {Γ : Ctx} {ob : aF} {ρ : Operand → PV} {ty : Nat} : aY Tryz.prog Γ ob ρ ty (.build 53 #[]) = some (.agg [.val (.int .i64 0), .val (.int .i64 0), .val (.int .i64 0), .val (.int .i64 0)]) := (show bN Tryz.prog 53 [] = some (.agg [.val (.int .i64 0), .val (.int .i64 0), .val (.int .i64 0), .val (.int .i64 0)]) from by kernel_rfl)
theorem aCA : aB Tryz.prog 53 = false := by kernel_rfl
theorem azv : isStr Tryz.prog 53 = false := by kernel_rfl
theorem vN : aR Tryz.prog 54 = some 4 := by kernel_rfl
theorem azB : eu Tryz.prog 54 = some true := by kernel_rfl
theorem asS : bL Tryz.prog 54 = some 32 := by kernel_rfl
theorem aeI : zeroOf Tryz.prog 54 = some (.agg #[.int .i64 0, .int .i64 0, .int .i64 0, .int .i64 0]) := by kernel_rfl
theorem aoL : aD Tryz.prog 54 0 = some 0 := by kernel_rfl
theorem arC : aD Tryz.prog 54 1 = some 1 := by kernel_rfl
theorem atc : aD Tryz.prog 54 2 = some 2 := by kernel_rfl
theorem arJ : aD Tryz.prog 54 3 = some 3 := by kernel_rfl
theorem ave : aZ Tryz.prog 54 = some #[(0, 1), (1, 1), (2, 1), (3, 1)] := by kernel_rfl
theorem azJ (ps : List (Nat × PV)) : bN Tryz.prog 54 ps = (gT (plF [(0, 1), (1, 1), (2, 1), (3, 1)]) [.val (.int .i64 0), .val (.int .i64 0), .val (.int .i64 0), .val (.int .i64 0)] ps).map .agg := lI aeI rfl ave ps
theorem aAt : dF (.agg #[.int .i64 0, .int .i64 0, .int .i64 0, .int .i64 0]) = .agg [.val (.int .i64 0), .val (.int .i64 0), .val (.int .i64 0), .val (.int .i64 0)] := rfl
theorem aCs {Γ : Ctx} (s : AS) (ρ : Operand → PV) : aQ Tryz.prog Γ s ρ (.alloc 54) = some (.own s.nx 4 0 0, upd s.ob s.nx (some (54, 4, [.agg [.val (.int .i64 0), .val (.int .i64 0), .val (.int .i64 0), .val (.int .i64 0)]])), s.nx + 1) := fZ aeI (by kernel_rfl) rfl rfl s ρ
theorem azV {Γ : Ctx} {ob : aF} {ρ : Operand → PV} {ty : Nat} : aY Tryz.prog Γ ob ρ ty (.build 54 #[]) = some (.agg [.val (.int .i64 0), .val (.int .i64 0), .val (.int .i64 0), .val (.int .i64 0)]) := (show bN Tryz.prog 54 [] = some (.agg [.val (.int .i64 0), .val (.int .i64 0), .val (.int .i64 0), .val (.int .i64 0)]) from by kernel_rfl)
theorem avJ : Tryz.prog.underlying 54 = some (.struct (Go.Program.fieldsOf Tryz.prog 54)) := by kernel_rfl
theorem awK {a0 b0 : Int} {a1 b1 : Int} {a2 b2 : Int} {a3 b3 : Int} : amC Tryz.prog [.int .i64 a0, .int .i64 a1, .int .i64 a2, .int .i64 a3] [.int .i64 b0, .int .i64 b1, .int .i64 b2, .int .i64 b3] (Go.Program.fieldsOf Tryz.prog 54).toList = some ((a0 == b0) && ((a1 == b1) && ((a2 == b2) && ((a3 == b3) && true)))) := by kernel_rfl
theorem ale {x y : Operand} {a0 b0 : Int} {a1 b1 : Int} {a2 b2 : Int} {a3 b3 : Int} : jB Tryz.prog .eql 54 x y (some (.agg #[.int .i64 a0, .int .i64 a1, .int .i64 a2, .int .i64 a3])) (some (.agg #[.int .i64 b0, .int .i64 b1, .int .i64 b2, .int .i64 b3])) = some (.val (.bool ((a0 == b0) && ((a1 == b1) && ((a2 == b2) && ((a3 == b3) && true)))))) := ace avJ (by kernel_rfl) (by kernel_rfl) awK
theorem amY {x y : Operand} {a0 b0 : Int} {a1 b1 : Int} {a2 b2 : Int} {a3 b3 : Int} : jB Tryz.prog .neq 54 x y (some (.agg #[.int .i64 a0, .int .i64 a1, .int .i64 a2, .int .i64 a3])) (some (.agg #[.int .i64 b0, .int .i64 b1, .int .i64 b2, .int .i64 b3])) = some (.val (.bool (!((a0 == b0) && ((a1 == b1) && ((a2 == b2) && ((a3 == b3) && true))))))) := abW avJ (by kernel_rfl) (by kernel_rfl) awK
theorem aBI : aB Tryz.prog 54 = false := by kernel_rfl
theorem aBr : isStr Tryz.prog 54 = false := by kernel_rfl
theorem aAQ : aR Tryz.prog 55 = some 7 := by kernel_rfl
theorem azu : eu Tryz.prog 55 = some true := by kernel_rfl
theorem az2 : bL Tryz.prog 55 = some 56 := by kernel_rfl
theorem aqr : zeroOf Tryz.prog 55 = some (.agg #[.int .i64 0, .int .i64 0, .int .i64 0, .int .i64 0, .int .i64 0, .int .i64 0, .bool false]) := by kernel_rfl
theorem as1 : aD Tryz.prog 55 0 = some 0 := by kernel_rfl
theorem arY : aD Tryz.prog 55 1 = some 1 := by kernel_rfl
theorem aoh : aD Tryz.prog 55 2 = some 5 := by kernel_rfl
theorem ao3 : aD Tryz.prog 55 3 = some 6 := by kernel_rfl
theorem av1 : aZ Tryz.prog 55 = some #[(0, 1), (1, 4), (5, 1), (6, 1)] := by kernel_rfl
theorem aCJ (ps : List (Nat × PV)) : bN Tryz.prog 55 ps = (gT (plF [(0, 1), (1, 4), (5, 1), (6, 1)]) [.val (.int .i64 0), .val (.int .i64 0), .val (.int .i64 0), .val (.int .i64 0), .val (.int .i64 0), .val (.int .i64 0), .val (.bool false)] ps).map .agg := lI aqr rfl av1 ps
theorem azX : dF (.agg #[.int .i64 0, .int .i64 0, .int .i64 0, .int .i64 0, .int .i64 0, .int .i64 0, .bool false]) = .agg [.val (.int .i64 0), .val (.int .i64 0), .val (.int .i64 0), .val (.int .i64 0), .val (.int .i64 0), .val (.int .i64 0), .val (.bool false)] := rfl
theorem aDt {Γ : Ctx} (s : AS) (ρ : Operand → PV) : aQ Tryz.prog Γ s ρ (.alloc 55) = some (.own s.nx 7 0 0, upd s.ob s.nx (some (55, 7, [.agg [.val (.int .i64 0), .val (.int .i64 0), .val (.int .i64 0), .val (.int .i64 0), .val (.int .i64 0), .val (.int .i64 0), .val (.bool false)]])), s.nx + 1) := fZ aqr (by kernel_rfl) rfl rfl s ρ
theorem aDl {Γ : Ctx} {ob : aF} {ρ : Operand → PV} {ty : Nat} : aY Tryz.prog Γ ob ρ ty (.build 55 #[]) = some (.agg [.val (.int .i64 0), .val (.int .i64 0), .val (.int .i64 0), .val (.int .i64 0), .val (.int .i64 0), .val (.int .i64 0), .val (.bool false)]) := (show bN Tryz.prog 55 [] = some (.agg [.val (.int .i64 0), .val (.int .i64 0), .val (.int .i64 0), .val (.int .i64 0), .val (.int .i64 0), .val (.int .i64 0), .val (.bool false)]) from by kernel_rfl)
theorem aBh : aB Tryz.prog 55 = false := by kernel_rfl
theorem aB8 : isStr Tryz.prog 55 = false := by kernel_rfl
theorem rE : aR Tryz.prog 56 = some 7 := by kernel_rfl
theorem azE : eu Tryz.prog 56 = some true := by kernel_rfl
theorem aoc : bL Tryz.prog 56 = some 56 := by kernel_rfl
theorem zC : zeroOf Tryz.prog 56 = some (.agg #[.int .i64 0, .int .i64 0, .int .i64 0, .int .i64 0, .int .i64 0, .int .i64 0, .bool false]) := by kernel_rfl
theorem ar1 : aD Tryz.prog 56 0 = some 0 := by kernel_rfl
theorem ard : aD Tryz.prog 56 1 = some 1 := by kernel_rfl
theorem aqW : aD Tryz.prog 56 2 = some 5 := by kernel_rfl
theorem aoq : aD Tryz.prog 56 3 = some 6 := by kernel_rfl
theorem auP : aZ Tryz.prog 56 = some #[(0, 1), (1, 4), (5, 1), (6, 1)] := by kernel_rfl
theorem aBl (ps : List (Nat × PV)) : bN Tryz.prog 56 ps = (gT (plF [(0, 1), (1, 4), (5, 1), (6, 1)]) [.val (.int .i64 0), .val (.int .i64 0), .val (.int .i64 0), .val (.int .i64 0), .val (.int .i64 0), .val (.int .i64 0), .val (.bool false)] ps).map .agg := lI zC rfl auP ps
theorem az7 : dF (.agg #[.int .i64 0, .int .i64 0, .int .i64 0, .int .i64 0, .int .i64 0, .int .i64 0, .bool false]) = .agg [.val (.int .i64 0), .val (.int .i64 0), .val (.int .i64 0), .val (.int .i64 0), .val (.int .i64 0), .val (.int .i64 0), .val (.bool false)] := rfl
theorem aDn {Γ : Ctx} (s : AS) (ρ : Operand → PV) : aQ Tryz.prog Γ s ρ (.alloc 56) = some (.own s.nx 7 0 0, upd s.ob s.nx (some (56, 7, [.agg [.val (.int .i64 0), .val (.int .i64 0), .val (.int .i64 0), .val (.int .i64 0), .val (.int .i64 0), .val (.int .i64 0), .val (.bool false)]])), s.nx + 1) := fZ zC (by kernel_rfl) rfl rfl s ρ
theorem azA {Γ : Ctx} {ob : aF} {ρ : Operand → PV} {ty : Nat} : aY Tryz.prog Γ ob ρ ty (.build 56 #[]) = some (.agg [.val (.int .i64 0), .val (.int .i64 0), .val (.int .i64 0), .val (.int .i64 0), .val (.int .i64 0), .val (.int .i64 0), .val (.bool false)]) := (show bN Tryz.prog 56 [] = some (.agg [.val (.int .i64 0), .val (.int .i64 0), .val (.int .i64 0), .val (.int .i64 0), .val (.int .i64 0), .val (.int .i64 0), .val (.bool false)]) from by kernel_rfl)
theorem aCp : aB Tryz.prog 56 = false := by kernel_rfl
theorem aAr : isStr Tryz.prog 56 = false := by kernel_rfl
theorem aDd : aR Tryz.prog 65 = some 3 := by kernel_rfl
theorem azG : eu Tryz.prog 65 = some true := by kernel_rfl
theorem aC1 : bL Tryz.prog 65 = some 24 := by kernel_rfl
theorem aoE : zeroOf Tryz.prog 65 = some (.agg #[.int .i64 0, .bool false, .int .i64 0]) := by kernel_rfl
theorem aqu : aD Tryz.prog 65 0 = some 0 := by kernel_rfl
theorem aoK : aD Tryz.prog 65 1 = some 1 := by kernel_rfl
theorem aot : aD Tryz.prog 65 2 = some 2 := by kernel_rfl
theorem awm : aZ Tryz.prog 65 = some #[(0, 1), (1, 1), (2, 1)] := by kernel_rfl
theorem aAn (ps : List (Nat × PV)) : bN Tryz.prog 65 ps = (gT (plF [(0, 1), (1, 1), (2, 1)]) [.val (.int .i64 0), .val (.bool false), .val (.int .i64 0)] ps).map .agg := lI aoE rfl awm ps
theorem aB6 : dF (.agg #[.int .i64 0, .bool false, .int .i64 0]) = .agg [.val (.int .i64 0), .val (.bool false), .val (.int .i64 0)] := rfl
theorem az6 {Γ : Ctx} (s : AS) (ρ : Operand → PV) : aQ Tryz.prog Γ s ρ (.alloc 65) = some (.own s.nx 3 0 0, upd s.ob s.nx (some (65, 3, [.agg [.val (.int .i64 0), .val (.bool false), .val (.int .i64 0)]])), s.nx + 1) := fZ aoE (by kernel_rfl) rfl rfl s ρ
theorem aAT {Γ : Ctx} {ob : aF} {ρ : Operand → PV} {ty : Nat} : aY Tryz.prog Γ ob ρ ty (.build 65 #[]) = some (.agg [.val (.int .i64 0), .val (.bool false), .val (.int .i64 0)]) := (show bN Tryz.prog 65 [] = some (.agg [.val (.int .i64 0), .val (.bool false), .val (.int .i64 0)]) from by kernel_rfl)
theorem awl : Tryz.prog.underlying 65 = some (.struct (Go.Program.fieldsOf Tryz.prog 65)) := by kernel_rfl
theorem ayg {a0 b0 : Int} {a1 b1 : Bool} {a2 b2 : Int} : amC Tryz.prog [.int .i64 a0, .bool a1, .int .i64 a2] [.int .i64 b0, .bool b1, .int .i64 b2] (Go.Program.fieldsOf Tryz.prog 65).toList = some ((a0 == b0) && ((a1 == b1) && ((a2 == b2) && true))) := by kernel_rfl
theorem al4 {x y : Operand} {a0 b0 : Int} {a1 b1 : Bool} {a2 b2 : Int} : jB Tryz.prog .eql 65 x y (some (.agg #[.int .i64 a0, .bool a1, .int .i64 a2])) (some (.agg #[.int .i64 b0, .bool b1, .int .i64 b2])) = some (.val (.bool ((a0 == b0) && ((a1 == b1) && ((a2 == b2) && true))))) := ace awl (by kernel_rfl) (by kernel_rfl) ayg
theorem amJ {x y : Operand} {a0 b0 : Int} {a1 b1 : Bool} {a2 b2 : Int} : jB Tryz.prog .neq 65 x y (some (.agg #[.int .i64 a0, .bool a1, .int .i64 a2])) (some (.agg #[.int .i64 b0, .bool b1, .int .i64 b2])) = some (.val (.bool (!((a0 == b0) && ((a1 == b1) && ((a2 == b2) && true)))))) := abW awl (by kernel_rfl) (by kernel_rfl) ayg
theorem aCQ : aB Tryz.prog 65 = false := by kernel_rfl
theorem aCM : isStr Tryz.prog 65 = false := by kernel_rfl
theorem aDp : aR Tryz.prog 66 = some 3 := by kernel_rfl
theorem aAg : eu Tryz.prog 66 = some true := by kernel_rfl
theorem aAU : bL Tryz.prog 66 = some 24 := by kernel_rfl
theorem afs : zeroOf Tryz.prog 66 = some (.agg #[.int .i64 0, .bool false, .int .i64 0]) := by kernel_rfl
theorem an7 : aD Tryz.prog 66 0 = some 0 := by kernel_rfl
theorem asr : aD Tryz.prog 66 1 = some 1 := by kernel_rfl
theorem asG : aD Tryz.prog 66 2 = some 2 := by kernel_rfl
theorem ax0 : aZ Tryz.prog 66 = some #[(0, 1), (1, 1), (2, 1)] := by kernel_rfl
theorem aAj (ps : List (Nat × PV)) : bN Tryz.prog 66 ps = (gT (plF [(0, 1), (1, 1), (2, 1)]) [.val (.int .i64 0), .val (.bool false), .val (.int .i64 0)] ps).map .agg := lI afs rfl ax0 ps
theorem azq : dF (.agg #[.int .i64 0, .bool false, .int .i64 0]) = .agg [.val (.int .i64 0), .val (.bool false), .val (.int .i64 0)] := rfl
theorem az9 {Γ : Ctx} (s : AS) (ρ : Operand → PV) : aQ Tryz.prog Γ s ρ (.alloc 66) = some (.own s.nx 3 0 0, upd s.ob s.nx (some (66, 3, [.agg [.val (.int .i64 0), .val (.bool false), .val (.int .i64 0)]])), s.nx + 1) := fZ afs (by kernel_rfl) rfl rfl s ρ
theorem aCr {Γ : Ctx} {ob : aF} {ρ : Operand → PV} {ty : Nat} : aY Tryz.prog Γ ob ρ ty (.build 66 #[]) = some (.agg [.val (.int .i64 0), .val (.bool false), .val (.int .i64 0)]) := (show bN Tryz.prog 66 [] = some (.agg [.val (.int .i64 0), .val (.bool false), .val (.int .i64 0)]) from by kernel_rfl)
theorem amt : Tryz.prog.underlying 66 = some (.struct (Go.Program.fieldsOf Tryz.prog 66)) := by kernel_rfl
theorem axR {a0 b0 : Int} {a1 b1 : Bool} {a2 b2 : Int} : amC Tryz.prog [.int .i64 a0, .bool a1, .int .i64 a2] [.int .i64 b0, .bool b1, .int .i64 b2] (Go.Program.fieldsOf Tryz.prog 66).toList = some ((a0 == b0) && ((a1 == b1) && ((a2 == b2) && true))) := by kernel_rfl
theorem ak7 {x y : Operand} {a0 b0 : Int} {a1 b1 : Bool} {a2 b2 : Int} : jB Tryz.prog .eql 66 x y (some (.agg #[.int .i64 a0, .bool a1, .int .i64 a2])) (some (.agg #[.int .i64 b0, .bool b1, .int .i64 b2])) = some (.val (.bool ((a0 == b0) && ((a1 == b1) && ((a2 == b2) && true))))) := ace amt (by kernel_rfl) (by kernel_rfl) axR
theorem anb {x y : Operand} {a0 b0 : Int} {a1 b1 : Bool} {a2 b2 : Int} : jB Tryz.prog .neq 66 x y (some (.agg #[.int .i64 a0, .bool a1, .int .i64 a2])) (some (.agg #[.int .i64 b0, .bool b1, .int .i64 b2])) = some (.val (.bool (!((a0 == b0) && ((a1 == b1) && ((a2 == b2) && true)))))) := abW amt (by kernel_rfl) (by kernel_rfl) axR
theorem aBv : aB Tryz.prog 66 = false := by kernel_rfl
theorem aA2 : isStr Tryz.prog 66 = false := by kernel_rfl
theorem aDo : aR Tryz.prog 67 = some 4 := by kernel_rfl
theorem aDu : eu Tryz.prog 67 = some true := by kernel_rfl
theorem aBy : bL Tryz.prog 67 = some 32 := by kernel_rfl
theorem ata : zeroOf Tryz.prog 67 = some (.agg #[.int .i64 0, .int .i64 0, .bool false, .int .i64 0]) := by kernel_rfl
theorem aql : aD Tryz.prog 67 0 = some 0 := by kernel_rfl
theorem ar5 : aD Tryz.prog 67 1 = some 1 := by kernel_rfl
theorem atH : aZ Tryz.prog 67 = some #[(0, 1), (1, 3)] := by kernel_rfl
theorem az3 (ps : List (Nat × PV)) : bN Tryz.prog 67 ps = (gT (plF [(0, 1), (1, 3)]) [.val (.int .i64 0), .val (.int .i64 0), .val (.bool false), .val (.int .i64 0)] ps).map .agg := lI ata rfl atH ps
theorem aBN : dF (.agg #[.int .i64 0, .int .i64 0, .bool false, .int .i64 0]) = .agg [.val (.int .i64 0), .val (.int .i64 0), .val (.bool false), .val (.int .i64 0)] := rfl
theorem aCC {Γ : Ctx} (s : AS) (ρ : Operand → PV) : aQ Tryz.prog Γ s ρ (.alloc 67) = some (.own s.nx 4 0 0, upd s.ob s.nx (some (67, 4, [.agg [.val (.int .i64 0), .val (.int .i64 0), .val (.bool false), .val (.int .i64 0)]])), s.nx + 1) := fZ ata (by kernel_rfl) rfl rfl s ρ
theorem aBk {Γ : Ctx} {ob : aF} {ρ : Operand → PV} {ty : Nat} : aY Tryz.prog Γ ob ρ ty (.build 67 #[]) = some (.agg [.val (.int .i64 0), .val (.int .i64 0), .val (.bool false), .val (.int .i64 0)]) := (show bN Tryz.prog 67 [] = some (.agg [.val (.int .i64 0), .val (.int .i64 0), .val (.bool false), .val (.int .i64 0)]) from by kernel_rfl)
theorem aBQ : aB Tryz.prog 67 = false := by kernel_rfl
theorem aAz : isStr Tryz.prog 67 = false := by kernel_rfl
theorem azs : aR Tryz.prog 68 = some 4 := by kernel_rfl
theorem aAs : eu Tryz.prog 68 = some true := by kernel_rfl
theorem aAL : bL Tryz.prog 68 = some 32 := by kernel_rfl
theorem ae9 : zeroOf Tryz.prog 68 = some (.agg #[.int .i64 0, .int .i64 0, .bool false, .int .i64 0]) := by kernel_rfl
theorem ao4 : aD Tryz.prog 68 0 = some 0 := by kernel_rfl
theorem aqm : aD Tryz.prog 68 1 = some 1 := by kernel_rfl
theorem awI : aZ Tryz.prog 68 = some #[(0, 1), (1, 3)] := by kernel_rfl
theorem aBu (ps : List (Nat × PV)) : bN Tryz.prog 68 ps = (gT (plF [(0, 1), (1, 3)]) [.val (.int .i64 0), .val (.int .i64 0), .val (.bool false), .val (.int .i64 0)] ps).map .agg := lI ae9 rfl awI ps
theorem aC0 : dF (.agg #[.int .i64 0, .int .i64 0, .bool false, .int .i64 0]) = .agg [.val (.int .i64 0), .val (.int .i64 0), .val (.bool false), .val (.int .i64 0)] := rfl
theorem aAk {Γ : Ctx} (s : AS) (ρ : Operand → PV) : aQ Tryz.prog Γ s ρ (.alloc 68) = some (.own s.nx 4 0 0, upd s.ob s.nx (some (68, 4, [.agg [.val (.int .i64 0), .val (.int .i64 0), .val (.bool false), .val (.int .i64 0)]])), s.nx + 1) := fZ ae9 (by kernel_rfl) rfl rfl s ρ
theorem aAO {Γ : Ctx} {ob : aF} {ρ : Operand → PV} {ty : Nat} : aY Tryz.prog Γ ob ρ ty (.build 68 #[]) = some (.agg [.val (.int .i64 0), .val (.int .i64 0), .val (.bool false), .val (.int .i64 0)]) := (show bN Tryz.prog 68 [] = some (.agg [.val (.int .i64 0), .val (.int .i64 0), .val (.bool false), .val (.int .i64 0)]) from by kernel_rfl)
theorem aB1 : aB Tryz.prog 68 = false := by kernel_rfl
theorem aDj : isStr Tryz.prog 68 = false := by kernel_rfl
theorem aA5 : aR Tryz.prog 83 = some 2 := by kernel_rfl
theorem aCX : eu Tryz.prog 83 = some true := by kernel_rfl
theorem aB4 : bL Tryz.prog 83 = some 32 := by kernel_rfl
theorem ash : zeroOf Tryz.prog 83 = some (.agg #[.slice none 0 0, .int .i64 0]) := by kernel_rfl
theorem aqY : aD Tryz.prog 83 0 = some 0 := by kernel_rfl
theorem asf : aD Tryz.prog 83 1 = some 1 := by kernel_rfl
theorem aw0 : aZ Tryz.prog 83 = some #[(0, 1), (1, 1)] := by kernel_rfl
theorem aCj (ps : List (Nat × PV)) : bN Tryz.prog 83 ps = (gT (plF [(0, 1), (1, 1)]) [.val (.slice none 0 0), .val (.int .i64 0)] ps).map .agg := lI ash rfl aw0 ps
theorem aCH : dF (.agg #[.slice none 0 0, .int .i64 0]) = .agg [.val (.slice none 0 0), .val (.int .i64 0)] := rfl
theorem aBw {Γ : Ctx} (s : AS) (ρ : Operand → PV) : aQ Tryz.prog Γ s ρ (.alloc 83) = some (.own s.nx 2 0 0, upd s.ob s.nx (some (83, 2, [.agg [.val (.slice none 0 0), .val (.int .i64 0)]])), s.nx + 1) := fZ ash (by kernel_rfl) rfl rfl s ρ
theorem aA0 {Γ : Ctx} {ob : aF} {ρ : Operand → PV} {ty : Nat} : aY Tryz.prog Γ ob ρ ty (.build 83 #[]) = some (.agg [.val (.slice none 0 0), .val (.int .i64 0)]) := (show bN Tryz.prog 83 [] = some (.agg [.val (.slice none 0 0), .val (.int .i64 0)]) from by kernel_rfl)
theorem aCw : aB Tryz.prog 83 = false := by kernel_rfl
theorem aCO : isStr Tryz.prog 83 = false := by kernel_rfl
theorem aCh : aR Tryz.prog 84 = some 2 := by kernel_rfl
theorem aB3 : eu Tryz.prog 84 = some true := by kernel_rfl
theorem aCn : bL Tryz.prog 84 = some 32 := by kernel_rfl
theorem aqI : zeroOf Tryz.prog 84 = some (.agg #[.slice none 0 0, .int .i64 0]) := by kernel_rfl
theorem arx : aD Tryz.prog 84 0 = some 0 := by kernel_rfl
theorem apC : aD Tryz.prog 84 1 = some 1 := by kernel_rfl
theorem atQ : aZ Tryz.prog 84 = some #[(0, 1), (1, 1)] := by kernel_rfl
theorem aCY (ps : List (Nat × PV)) : bN Tryz.prog 84 ps = (gT (plF [(0, 1), (1, 1)]) [.val (.slice none 0 0), .val (.int .i64 0)] ps).map .agg := lI aqI rfl atQ ps
theorem aBG : dF (.agg #[.slice none 0 0, .int .i64 0]) = .agg [.val (.slice none 0 0), .val (.int .i64 0)] := rfl
theorem aCN {Γ : Ctx} (s : AS) (ρ : Operand → PV) : aQ Tryz.prog Γ s ρ (.alloc 84) = some (.own s.nx 2 0 0, upd s.ob s.nx (some (84, 2, [.agg [.val (.slice none 0 0), .val (.int .i64 0)]])), s.nx + 1) := fZ aqI (by kernel_rfl) rfl rfl s ρ
theorem aDr {Γ : Ctx} {ob : aF} {ρ : Operand → PV} {ty : Nat} : aY Tryz.prog Γ ob ρ ty (.build 84 #[]) = some (.agg [.val (.slice none 0 0), .val (.int .i64 0)]) := (show bN Tryz.prog 84 [] = some (.agg [.val (.slice none 0 0), .val (.int .i64 0)]) from by kernel_rfl)
theorem aBP : aB Tryz.prog 84 = false := by kernel_rfl
theorem azK : isStr Tryz.prog 84 = false := by kernel_rfl
theorem xg : aR Tryz.prog 95 = some 4 := by kernel_rfl
theorem azz : eu Tryz.prog 95 = some true := by kernel_rfl
theorem arw : bL Tryz.prog 95 = some 4 := by kernel_rfl
theorem agR : zeroOf Tryz.prog 95 = some (.agg #[.bool false, .bool false, .bool false, .bool false]) := by kernel_rfl
theorem asl : Tryz.prog.underlying 95 = some (.array 4 4) := by kernel_rfl
theorem atC {o sz j f : Nat} {i : Int} (h0 : 0 ≤ i) (h1 : i < 4) : aP Tryz.prog 95 (.own o sz j f) i = some (.own o sz j (f + i.toNat)) := by rw [anM asl aAP h0 h1, Nat.mul_one]
theorem auW {k : Bool} {x : PV} {f : Nat} {i : Int} (h0 : 0 ≤ i) (h1 : i < 4) : aP Tryz.prog 95 (.ptr k x f) i = some (.ptr k x (f + i.toNat)) := by rw [ahv asl aAP h0 h1, Nat.mul_one]
theorem aCl (ps : List (Nat × PV)) : bN Tryz.prog 95 ps = (gT (plF [(0, 1), (1, 1), (2, 1), (3, 1)]) [.val (.bool false), .val (.bool false), .val (.bool false), .val (.bool false)] ps).map .agg := anV agR rfl (by kernel_rfl) (pl := #[(0, 1), (1, 1), (2, 1), (3, 1)]) (by kernel_rfl) ps
theorem az1 : dF (.agg #[.bool false, .bool false, .bool false, .bool false]) = .agg [.val (.bool false), .val (.bool false), .val (.bool false), .val (.bool false)] := rfl
theorem azZ {Γ : Ctx} (s : AS) (ρ : Operand → PV) : aQ Tryz.prog Γ s ρ (.alloc 95) = some (.own s.nx 4 0 0, upd s.ob s.nx (some (95, 4, [.agg [.val (.bool false), .val (.bool false), .val (.bool false), .val (.bool false)]])), s.nx + 1) := fZ agR (by kernel_rfl) rfl rfl s ρ
theorem aBo : aB Tryz.prog 95 = false := by kernel_rfl
theorem aBz : isStr Tryz.prog 95 = false := by kernel_rfl
theorem pI : aR Tryz.prog 101 = some 4 := by kernel_rfl
theorem avT : eu Tryz.prog 101 = some true := by kernel_rfl
theorem ahS : bL Tryz.prog 101 = some 32 := by kernel_rfl
theorem aak : zeroOf Tryz.prog 101 = some (.agg #[.int .i64 0, .int .i64 0, .int .i64 0, .int .i64 0]) := by kernel_rfl
theorem ahW : Tryz.prog.underlying 101 = some (.array 4 3) := by kernel_rfl
theorem as5 {o sz j f : Nat} {i : Int} (h0 : 0 ≤ i) (h1 : i < 4) : aP Tryz.prog 101 (.own o sz j f) i = some (.own o sz j (f + i.toNat)) := by rw [anM ahW wU h0 h1, Nat.mul_one]
theorem apG {k : Bool} {x : PV} {f : Nat} {i : Int} (h0 : 0 ≤ i) (h1 : i < 4) : aP Tryz.prog 101 (.ptr k x f) i = some (.ptr k x (f + i.toNat)) := by rw [ahv ahW wU h0 h1, Nat.mul_one]
theorem ax3 (ps : List (Nat × PV)) : bN Tryz.prog 101 ps = (gT (plF [(0, 1), (1, 1), (2, 1), (3, 1)]) [.val (.int .i64 0), .val (.int .i64 0), .val (.int .i64 0), .val (.int .i64 0)] ps).map .agg := anV aak rfl (by kernel_rfl) (pl := #[(0, 1), (1, 1), (2, 1), (3, 1)]) (by kernel_rfl) ps
theorem avl : dF (.agg #[.int .i64 0, .int .i64 0, .int .i64 0, .int .i64 0]) = .agg [.val (.int .i64 0), .val (.int .i64 0), .val (.int .i64 0), .val (.int .i64 0)] := rfl
theorem atO {Γ : Ctx} (s : AS) (ρ : Operand → PV) : aQ Tryz.prog Γ s ρ (.alloc 101) = some (.own s.nx 4 0 0, upd s.ob s.nx (some (101, 4, [.agg [.val (.int .i64 0), .val (.int .i64 0), .val (.int .i64 0), .val (.int .i64 0)]])), s.nx + 1) := fZ aak (by kernel_rfl) rfl rfl s ρ
theorem aw4 : aB Tryz.prog 101 = false := by kernel_rfl
theorem ayL : isStr Tryz.prog 101 = false := by kernel_rfl
theorem au4 : aR Tryz.prog 134 = some 1 := by kernel_rfl
theorem awD : eu Tryz.prog 134 = some false := by kernel_rfl
theorem axc : bL Tryz.prog 134 = some 8 := by kernel_rfl
theorem anP : zeroOf Tryz.prog 134 = some (.int .u64 0) := by kernel_rfl
theorem iZ : Tryz.prog.underlying 134 = some (.int .u64) := by kernel_rfl
theorem awU : dF (.int .u64 0) = .val (.int .u64 0) := rfl
theorem ayB {Γ : Ctx} (s : AS) (ρ : Operand → PV) : aQ Tryz.prog Γ s ρ (.alloc 134) = some (.own s.nx 1 0 0, upd s.ob s.nx (some (134, 1, [.val (.int .u64 0)])), s.nx + 1) := fZ anP (by kernel_rfl) rfl rfl s ρ
theorem ayv : aB Tryz.prog 134 = false := by kernel_rfl
theorem ayd : isStr Tryz.prog 134 = false := by kernel_rfl
theorem aw3 : aR Tryz.prog 138 = some 2 := by kernel_rfl
theorem auk : eu Tryz.prog 138 = some true := by kernel_rfl
theorem axK : bL Tryz.prog 138 = some 2 := by kernel_rfl
theorem ag7 : zeroOf Tryz.prog 138 = some (.agg #[.int .u8 0, .int .u8 0]) := by kernel_rfl
theorem akz : aD Tryz.prog 138 0 = some 0 := by kernel_rfl
theorem akE : aD Tryz.prog 138 1 = some 1 := by kernel_rfl
theorem ant : aZ Tryz.prog 138 = some #[(0, 1), (1, 1)] := by kernel_rfl
theorem avC (ps : List (Nat × PV)) : bN Tryz.prog 138 ps = (gT (plF [(0, 1), (1, 1)]) [.val (.int .u8 0), .val (.int .u8 0)] ps).map .agg := lI ag7 rfl ant ps
theorem avM : dF (.agg #[.int .u8 0, .int .u8 0]) = .agg [.val (.int .u8 0), .val (.int .u8 0)] := rfl
theorem avb {Γ : Ctx} (s : AS) (ρ : Operand → PV) : aQ Tryz.prog Γ s ρ (.alloc 138) = some (.own s.nx 2 0 0, upd s.ob s.nx (some (138, 2, [.agg [.val (.int .u8 0), .val (.int .u8 0)]])), s.nx + 1) := fZ ag7 (by kernel_rfl) rfl rfl s ρ
theorem awq {Γ : Ctx} {ob : aF} {ρ : Operand → PV} {ty : Nat} : aY Tryz.prog Γ ob ρ ty (.build 138 #[]) = some (.agg [.val (.int .u8 0), .val (.int .u8 0)]) := (show bN Tryz.prog 138 [] = some (.agg [.val (.int .u8 0), .val (.int .u8 0)]) from by kernel_rfl)
theorem auN : aB Tryz.prog 138 = false := by kernel_rfl
theorem avH : isStr Tryz.prog 138 = false := by kernel_rfl
theorem axp : aR Tryz.prog 139 = some 2 := by kernel_rfl
theorem av2 : eu Tryz.prog 139 = some true := by kernel_rfl
theorem ayQ : bL Tryz.prog 139 = some 2 := by kernel_rfl
theorem agL : zeroOf Tryz.prog 139 = some (.agg #[.int .u8 0, .int .u8 0]) := by kernel_rfl
theorem amS : aD Tryz.prog 139 0 = some 0 := by kernel_rfl
theorem akG : aD Tryz.prog 139 1 = some 1 := by kernel_rfl
theorem anH : aZ Tryz.prog 139 = some #[(0, 1), (1, 1)] := by kernel_rfl
theorem aue (ps : List (Nat × PV)) : bN Tryz.prog 139 ps = (gT (plF [(0, 1), (1, 1)]) [.val (.int .u8 0), .val (.int .u8 0)] ps).map .agg := lI agL rfl anH ps
theorem axL : dF (.agg #[.int .u8 0, .int .u8 0]) = .agg [.val (.int .u8 0), .val (.int .u8 0)] := rfl
theorem aty {Γ : Ctx} (s : AS) (ρ : Operand → PV) : aQ Tryz.prog Γ s ρ (.alloc 139) = some (.own s.nx 2 0 0, upd s.ob s.nx (some (139, 2, [.agg [.val (.int .u8 0), .val (.int .u8 0)]])), s.nx + 1) := fZ agL (by kernel_rfl) rfl rfl s ρ
theorem axA {Γ : Ctx} {ob : aF} {ρ : Operand → PV} {ty : Nat} : aY Tryz.prog Γ ob ρ ty (.build 139 #[]) = some (.agg [.val (.int .u8 0), .val (.int .u8 0)]) := (show bN Tryz.prog 139 [] = some (.agg [.val (.int .u8 0), .val (.int .u8 0)]) from by kernel_rfl)
theorem ayV : aB Tryz.prog 139 = false := by kernel_rfl
theorem atE : isStr Tryz.prog 139 = false := by kernel_rfl
theorem avg : aR Tryz.prog 140 = some 32 := by kernel_rfl
theorem atY : eu Tryz.prog 140 = some true := by kernel_rfl
theorem avK : bL Tryz.prog 140 = some 32 := by kernel_rfl
theorem anR : zeroOf Tryz.prog 140 = some (.agg #[.int .u8 0, .int .u8 0, .int .u8 0, .int .u8 0, .int .u8 0, .int .u8 0, .int .u8 0, .int .u8 0, .int .u8 0, .int .u8 0, .int .u8 0, .int .u8 0, .int .u8 0, .int .u8 0, .int .u8 0, .int .u8 0, .int .u8 0, .int .u8 0, .int .u8 0, .int .u8 0, .int .u8 0, .int .u8 0, .int .u8 0, .int .u8 0, .int .u8 0, .int .u8 0, .int .u8 0, .int .u8 0, .int .u8 0, .int .u8 0, .int .u8 0, .int .u8 0]) := by kernel_rfl
theorem at5 : Tryz.prog.underlying 140 = some (.array 16 139) := by kernel_rfl
theorem axz : dF (.agg #[.int .u8 0, .int .u8 0, .int .u8 0, .int .u8 0, .int .u8 0, .int .u8 0, .int .u8 0, .int .u8 0, .int .u8 0, .int .u8 0, .int .u8 0, .int .u8 0, .int .u8 0, .int .u8 0, .int .u8 0, .int .u8 0, .int .u8 0, .int .u8 0, .int .u8 0, .int .u8 0, .int .u8 0, .int .u8 0, .int .u8 0, .int .u8 0, .int .u8 0, .int .u8 0, .int .u8 0, .int .u8 0, .int .u8 0, .int .u8 0, .int .u8 0, .int .u8 0]) = .agg [.val (.int .u8 0), .val (.int .u8 0), .val (.int .u8 0), .val (.int .u8 0), .val (.int .u8 0), .val (.int .u8 0), .val (.int .u8 0), .val (.int .u8 0), .val (.int .u8 0), .val (.int .u8 0), .val (.int .u8 0), .val (.int .u8 0), .val (.int .u8 0), .val (.int .u8 0), .val (.int .u8 0), .val (.int .u8 0), .val (.int .u8 0), .val (.int .u8 0), .val (.int .u8 0), .val (.int .u8 0), .val (.int .u8 0), .val (.int .u8 0), .val (.int .u8 0), .val (.int .u8 0), .val (.int .u8 0), .val (.int .u8 0), .val (.int .u8 0), .val (.int .u8 0), .val (.int .u8 0), .val (.int .u8 0), .val (.int .u8 0), .val (.int .u8 0)] := rfl
theorem axb {Γ : Ctx} (s : AS) (ρ : Operand → PV) : aQ Tryz.prog Γ s ρ (.alloc 140) = some (.own s.nx 32 0 0, upd s.ob s.nx (some (140, 32, [.agg [.val (.int .u8 0), .val (.int .u8 0), .val (.int .u8 0), .val (.int .u8 0), .val (.int .u8 0), .val (.int .u8 0), .val (.int .u8 0), .val (.int .u8 0), .val (.int .u8 0), .val (.int .u8 0), .val (.int .u8 0), .val (.int .u8 0), .val (.int .u8 0), .val (.int .u8 0), .val (.int .u8 0), .val (.int .u8 0), .val (.int .u8 0), .val (.int .u8 0), .val (.int .u8 0), .val (.int .u8 0), .val (.int .u8 0), .val (.int .u8 0), .val (.int .u8 0), .val (.int .u8 0), .val (.int .u8 0), .val (.int .u8 0), .val (.int .u8 0), .val (.int .u8 0), .val (.int .u8 0), .val (.int .u8 0), .val (.int .u8 0), .val (.int .u8 0)]])), s.nx + 1) := fZ anR (by kernel_rfl) rfl rfl s ρ
theorem ava : aB Tryz.prog 140 = false := by kernel_rfl
theorem auA : isStr Tryz.prog 140 = false := by kernel_rfl
theorem avm : aR Tryz.prog 141 = some 1 := by kernel_rfl
theorem ax1 : eu Tryz.prog 141 = some false := by kernel_rfl
theorem axS : bL Tryz.prog 141 = some 4 := by kernel_rfl
theorem anG : zeroOf Tryz.prog 141 = some (.int .u32 0) := by kernel_rfl
theorem jd : Tryz.prog.underlying 141 = some (.int .u32) := by kernel_rfl
theorem axa : dF (.int .u32 0) = .val (.int .u32 0) := rfl
theorem avV {Γ : Ctx} (s : AS) (ρ : Operand → PV) : aQ Tryz.prog Γ s ρ (.alloc 141) = some (.own s.nx 1 0 0, upd s.ob s.nx (some (141, 1, [.val (.int .u32 0)])), s.nx + 1) := fZ anG (by kernel_rfl) rfl rfl s ρ
theorem atN : aB Tryz.prog 141 = false := by kernel_rfl
theorem awZ : isStr Tryz.prog 141 = false := by kernel_rfl
theorem aCe : aR Tryz.prog 22 = some 1 := by kernel_rfl
theorem aCR : eu Tryz.prog 22 = some false := by kernel_rfl
theorem aAI : bL Tryz.prog 22 = some 24 := by kernel_rfl
theorem axB : zeroOf Tryz.prog 22 = some (.slice none 0 0) := by kernel_rfl
theorem abB : Tryz.prog.underlying 22 = some (.slice 5) := by kernel_rfl
theorem abF : eY Tryz.prog 22 = some 5 := by kernel_rfl
theorem aCx {k : Bool} {es : List PV} {i : Int} (h0 : 0 ≤ i) (h1 : i < (es.length : Int)) : aP Tryz.prog 22 (.lst k 1 es) i = some (.ptr k ((es[i.toNat]?).getD .dead) 0) := qU abB ake h0 h1
theorem au6 {o j n : Nat} {i : Int} (h0 : 0 ≤ i) (h1 : i < (n : Int)) : aP Tryz.prog 22 (.row o 1 j n) i = some (.own o 1 (j + i.toNat) 0) := qR abB ake h0 h1
theorem aAJ {k : Bool} {es : List PV} {lo hi : Option Int} (h0 : 0 ≤ lo.getD 0) (h1 : lo.getD 0 ≤ hi.getD es.length) (h2 : hi.getD es.length ≤ es.length) : bV Tryz.prog 22 (.lst k 1 es) lo hi = some (.lst k 1 ((es.drop (lo.getD 0).toNat).take ((hi.getD es.length).toNat - (lo.getD 0).toNat))) := qZ abB ake h0 h1 h2
theorem avI {o i n : Nat} {lo hi : Option Int} (h0 : 0 ≤ lo.getD 0) (h1 : lo.getD 0 < hi.getD n) (h2 : hi.getD n ≤ n) : bV Tryz.prog 22 (.row o 1 i n) lo hi = some (.row o 1 (i + (lo.getD 0).toNat) ((hi.getD n).toNat - (lo.getD 0).toNat)) := jC abB ake h0 h1 h2
theorem atI {o i n : Nat} {lo hi : Option Int} (h0 : 0 ≤ lo.getD 0) (h1 : lo.getD 0 = hi.getD n) (h2 : hi.getD n ≤ n) : bV Tryz.prog 22 (.row o 1 i n) lo hi = some (.lst true 1 []) := jF abB ake h0 h1 h2
theorem at1 {ty sz : Nat} {k : Bool} {es : List PV} : mF Tryz.prog 22 ty (.lst k sz es) = some (.val (.int .i64 es.length)) := qX abF
theorem auV {ty o sz i n : Nat} : mF Tryz.prog 22 ty (.row o sz i n) = some (.val (.int .i64 n)) := qY abF
theorem au9 {ty : Nat} : mF Tryz.prog 22 ty (.val (.slice none 0 0)) = some (.val (.int .i64 0)) := qV abB
theorem aA9 : dF (.slice none 0 0) = .val (.slice none 0 0) := rfl
theorem aBW {Γ : Ctx} (s : AS) (ρ : Operand → PV) : aQ Tryz.prog Γ s ρ (.alloc 22) = some (.own s.nx 1 0 0, upd s.ob s.nx (some (22, 1, [.val (.slice none 0 0)])), s.nx + 1) := fZ axB (by kernel_rfl) rfl rfl s ρ
theorem azM {Γ : Ctx} (s : AS) (ρ : Operand → PV) (l c : Operand) : aQ Tryz.prog Γ s ρ (.makeSlice 22 l c) = agm 5 1 1 (.int .u8 0) s (ρ l) (ρ c) := aas abF au2 ake azr (by kernel_rfl) rfl s ρ l c
theorem avu {Γ : Ctx} (s : AS) (ρ : Operand → PV) (x y : Operand) : aQ Tryz.prog Γ s ρ (.call { callee := .builtin .append, args := #[x, y], argTypes := #[22, 22] }) = adE 5 1 1 s.nx s.ob (ρ x) (qL s.ob (ρ x)) (bZ s.ob 1 (ρ y)) := qO abF au2 ake azr (by decide) rfl s ρ x y
theorem avO {Γ : Ctx} (s : AS) (ρ : Operand → PV) (x y : Operand) (t' : Nat) : aQ Tryz.prog Γ s ρ (.call { callee := .builtin .copy, args := #[x, y], argTypes := #[22, t'] }) = cpX 1 s.nx s.ob (ρ x) (qL s.ob (ρ x)) (ko s.ob 1 (ρ y)) := qP abF ake s ρ x y t'
theorem aCi : aB Tryz.prog 22 = true := by kernel_rfl
theorem aBR : isStr Tryz.prog 22 = false := by kernel_rfl
theorem vQ : aR Tryz.prog 23 = some 1 := by kernel_rfl
theorem aAX : eu Tryz.prog 23 = some false := by kernel_rfl
theorem asn : bL Tryz.prog 23 = some 24 := by kernel_rfl
theorem ajT : zeroOf Tryz.prog 23 = some (.slice none 0 0) := by kernel_rfl
theorem acj : Tryz.prog.underlying 23 = some (.slice 9) := by kernel_rfl
theorem rJ : eY Tryz.prog 23 = some 9 := by kernel_rfl
theorem azH {k : Bool} {es : List PV} {i : Int} (h0 : 0 ≤ i) (h1 : i < (es.length : Int)) : aP Tryz.prog 23 (.lst k 1 es) i = some (.ptr k ((es[i.toNat]?).getD .dead) 0) := qU acj acw h0 h1
theorem ayC {o j n : Nat} {i : Int} (h0 : 0 ≤ i) (h1 : i < (n : Int)) : aP Tryz.prog 23 (.row o 1 j n) i = some (.own o 1 (j + i.toNat) 0) := qR acj acw h0 h1
theorem aDc {k : Bool} {es : List PV} {lo hi : Option Int} (h0 : 0 ≤ lo.getD 0) (h1 : lo.getD 0 ≤ hi.getD es.length) (h2 : hi.getD es.length ≤ es.length) : bV Tryz.prog 23 (.lst k 1 es) lo hi = some (.lst k 1 ((es.drop (lo.getD 0).toNat).take ((hi.getD es.length).toNat - (lo.getD 0).toNat))) := qZ acj acw h0 h1 h2
theorem aup {o i n : Nat} {lo hi : Option Int} (h0 : 0 ≤ lo.getD 0) (h1 : lo.getD 0 < hi.getD n) (h2 : hi.getD n ≤ n) : bV Tryz.prog 23 (.row o 1 i n) lo hi = some (.row o 1 (i + (lo.getD 0).toNat) ((hi.getD n).toNat - (lo.getD 0).toNat)) := jC acj acw h0 h1 h2
theorem axt {o i n : Nat} {lo hi : Option Int} (h0 : 0 ≤ lo.getD 0) (h1 : lo.getD 0 = hi.getD n) (h2 : hi.getD n ≤ n) : bV Tryz.prog 23 (.row o 1 i n) lo hi = some (.lst true 1 []) := jF acj acw h0 h1 h2
theorem atS {ty sz : Nat} {k : Bool} {es : List PV} : mF Tryz.prog 23 ty (.lst k sz es) = some (.val (.int .i64 es.length)) := qX rJ
theorem au7 {ty o sz i n : Nat} : mF Tryz.prog 23 ty (.row o sz i n) = some (.val (.int .i64 n)) := qY rJ
theorem ay0 {ty : Nat} : mF Tryz.prog 23 ty (.val (.slice none 0 0)) = some (.val (.int .i64 0)) := qV acj
theorem aAq : dF (.slice none 0 0) = .val (.slice none 0 0) := rfl
theorem aCW {Γ : Ctx} (s : AS) (ρ : Operand → PV) : aQ Tryz.prog Γ s ρ (.alloc 23) = some (.own s.nx 1 0 0, upd s.ob s.nx (some (23, 1, [.val (.slice none 0 0)])), s.nx + 1) := fZ ajT (by kernel_rfl) rfl rfl s ρ
theorem aCB {Γ : Ctx} (s : AS) (ρ : Operand → PV) (l c : Operand) : aQ Tryz.prog Γ s ρ (.makeSlice 23 l c) = agm 9 1 16 (.string ByteArray.empty) s (ρ l) (ρ c) := aas rJ akd acw aBn (by kernel_rfl) rfl s ρ l c
theorem auK {Γ : Ctx} (s : AS) (ρ : Operand → PV) (x y : Operand) : aQ Tryz.prog Γ s ρ (.call { callee := .builtin .append, args := #[x, y], argTypes := #[23, 23] }) = adE 9 1 16 s.nx s.ob (ρ x) (qL s.ob (ρ x)) (bZ s.ob 1 (ρ y)) := qO rJ akd acw aBn (by decide) rfl s ρ x y
theorem avN {Γ : Ctx} (s : AS) (ρ : Operand → PV) (x y : Operand) (t' : Nat) : aQ Tryz.prog Γ s ρ (.call { callee := .builtin .copy, args := #[x, y], argTypes := #[23, t'] }) = cpX 1 s.nx s.ob (ρ x) (qL s.ob (ρ x)) (ko s.ob 1 (ρ y)) := qP rJ acw s ρ x y t'
theorem aBq : aB Tryz.prog 23 = false := by kernel_rfl
theorem aDs : isStr Tryz.prog 23 = false := by kernel_rfl
theorem azS : aR Tryz.prog 30 = some 1 := by kernel_rfl
theorem aBV : eu Tryz.prog 30 = some false := by kernel_rfl
theorem aCk : bL Tryz.prog 30 = some 24 := by kernel_rfl
theorem awC : zeroOf Tryz.prog 30 = some (.slice none 0 0) := by kernel_rfl
theorem abN : Tryz.prog.underlying 30 = some (.slice 56) := by kernel_rfl
theorem wV : eY Tryz.prog 30 = some 56 := by kernel_rfl
theorem aC2 {k : Bool} {es : List PV} {i : Int} (h0 : 0 ≤ i) (h1 : i < (es.length : Int)) : aP Tryz.prog 30 (.lst k 7 es) i = some (.ptr k ((es[i.toNat]?).getD .dead) 0) := qU abN rE h0 h1
theorem auL {o j n : Nat} {i : Int} (h0 : 0 ≤ i) (h1 : i < (n : Int)) : aP Tryz.prog 30 (.row o 7 j n) i = some (.own o 7 (j + i.toNat) 0) := qR abN rE h0 h1
theorem aBf {k : Bool} {es : List PV} {lo hi : Option Int} (h0 : 0 ≤ lo.getD 0) (h1 : lo.getD 0 ≤ hi.getD es.length) (h2 : hi.getD es.length ≤ es.length) : bV Tryz.prog 30 (.lst k 7 es) lo hi = some (.lst k 7 ((es.drop (lo.getD 0).toNat).take ((hi.getD es.length).toNat - (lo.getD 0).toNat))) := qZ abN rE h0 h1 h2
theorem axw {o i n : Nat} {lo hi : Option Int} (h0 : 0 ≤ lo.getD 0) (h1 : lo.getD 0 < hi.getD n) (h2 : hi.getD n ≤ n) : bV Tryz.prog 30 (.row o 7 i n) lo hi = some (.row o 7 (i + (lo.getD 0).toNat) ((hi.getD n).toNat - (lo.getD 0).toNat)) := jC abN rE h0 h1 h2
theorem axG {o i n : Nat} {lo hi : Option Int} (h0 : 0 ≤ lo.getD 0) (h1 : lo.getD 0 = hi.getD n) (h2 : hi.getD n ≤ n) : bV Tryz.prog 30 (.row o 7 i n) lo hi = some (.lst true 7 []) := jF abN rE h0 h1 h2
theorem axD {ty sz : Nat} {k : Bool} {es : List PV} : mF Tryz.prog 30 ty (.lst k sz es) = some (.val (.int .i64 es.length)) := qX wV
theorem awO {ty o sz i n : Nat} : mF Tryz.prog 30 ty (.row o sz i n) = some (.val (.int .i64 n)) := qY wV
theorem axr {ty : Nat} : mF Tryz.prog 30 ty (.val (.slice none 0 0)) = some (.val (.int .i64 0)) := qV abN
theorem aC9 : dF (.slice none 0 0) = .val (.slice none 0 0) := rfl
theorem aBZ {Γ : Ctx} (s : AS) (ρ : Operand → PV) : aQ Tryz.prog Γ s ρ (.alloc 30) = some (.own s.nx 1 0 0, upd s.ob s.nx (some (30, 1, [.val (.slice none 0 0)])), s.nx + 1) := fZ awC (by kernel_rfl) rfl rfl s ρ
theorem aBT {Γ : Ctx} (s : AS) (ρ : Operand → PV) (l c : Operand) : aQ Tryz.prog Γ s ρ (.makeSlice 30 l c) = agm 56 7 56 (.agg #[.int .i64 0, .int .i64 0, .int .i64 0, .int .i64 0, .int .i64 0, .int .i64 0, .bool false]) s (ρ l) (ρ c) := aas wV zC rE aoc (by kernel_rfl) rfl s ρ l c
theorem awL {Γ : Ctx} (s : AS) (ρ : Operand → PV) (x y : Operand) : aQ Tryz.prog Γ s ρ (.call { callee := .builtin .append, args := #[x, y], argTypes := #[30, 30] }) = adE 56 7 56 s.nx s.ob (ρ x) (qL s.ob (ρ x)) (bZ s.ob 7 (ρ y)) := qO wV zC rE aoc (by decide) rfl s ρ x y
theorem awc {Γ : Ctx} (s : AS) (ρ : Operand → PV) (x y : Operand) (t' : Nat) : aQ Tryz.prog Γ s ρ (.call { callee := .builtin .copy, args := #[x, y], argTypes := #[30, t'] }) = cpX 7 s.nx s.ob (ρ x) (qL s.ob (ρ x)) (ko s.ob 7 (ρ y)) := qP wV rE s ρ x y t'
theorem aDi : aB Tryz.prog 30 = false := by kernel_rfl
theorem aAv : isStr Tryz.prog 30 = false := by kernel_rfl
theorem aBg : aR Tryz.prog 33 = some 1 := by kernel_rfl
theorem aAp : eu Tryz.prog 33 = some false := by kernel_rfl
theorem aBt : bL Tryz.prog 33 = some 24 := by kernel_rfl
theorem axV : zeroOf Tryz.prog 33 = some (.slice none 0 0) := by kernel_rfl
theorem abM : Tryz.prog.underlying 33 = some (.slice 3) := by kernel_rfl
theorem pU : eY Tryz.prog 33 = some 3 := by kernel_rfl
theorem aAi {k : Bool} {es : List PV} {i : Int} (h0 : 0 ≤ i) (h1 : i < (es.length : Int)) : aP Tryz.prog 33 (.lst k 1 es) i = some (.ptr k ((es[i.toNat]?).getD .dead) 0) := qU abM wU h0 h1
theorem atV {o j n : Nat} {i : Int} (h0 : 0 ≤ i) (h1 : i < (n : Int)) : aP Tryz.prog 33 (.row o 1 j n) i = some (.own o 1 (j + i.toNat) 0) := qR abM wU h0 h1
theorem azo {k : Bool} {es : List PV} {lo hi : Option Int} (h0 : 0 ≤ lo.getD 0) (h1 : lo.getD 0 ≤ hi.getD es.length) (h2 : hi.getD es.length ≤ es.length) : bV Tryz.prog 33 (.lst k 1 es) lo hi = some (.lst k 1 ((es.drop (lo.getD 0).toNat).take ((hi.getD es.length).toNat - (lo.getD 0).toNat))) := qZ abM wU h0 h1 h2
theorem ayJ {o i n : Nat} {lo hi : Option Int} (h0 : 0 ≤ lo.getD 0) (h1 : lo.getD 0 < hi.getD n) (h2 : hi.getD n ≤ n) : bV Tryz.prog 33 (.row o 1 i n) lo hi = some (.row o 1 (i + (lo.getD 0).toNat) ((hi.getD n).toNat - (lo.getD 0).toNat)) := jC abM wU h0 h1 h2
theorem aw9 {o i n : Nat} {lo hi : Option Int} (h0 : 0 ≤ lo.getD 0) (h1 : lo.getD 0 = hi.getD n) (h2 : hi.getD n ≤ n) : bV Tryz.prog 33 (.row o 1 i n) lo hi = some (.lst true 1 []) := jF abM wU h0 h1 h2
theorem aws {ty sz : Nat} {k : Bool} {es : List PV} : mF Tryz.prog 33 ty (.lst k sz es) = some (.val (.int .i64 es.length)) := qX pU
theorem atA {ty o sz i n : Nat} : mF Tryz.prog 33 ty (.row o sz i n) = some (.val (.int .i64 n)) := qY pU
theorem av9 {ty : Nat} : mF Tryz.prog 33 ty (.val (.slice none 0 0)) = some (.val (.int .i64 0)) := qV abM
theorem aA7 : dF (.slice none 0 0) = .val (.slice none 0 0) := rfl
theorem aB2 {Γ : Ctx} (s : AS) (ρ : Operand → PV) : aQ Tryz.prog Γ s ρ (.alloc 33) = some (.own s.nx 1 0 0, upd s.ob s.nx (some (33, 1, [.val (.slice none 0 0)])), s.nx + 1) := fZ axV (by kernel_rfl) rfl rfl s ρ
theorem aAD {Γ : Ctx} (s : AS) (ρ : Operand → PV) (l c : Operand) : aQ Tryz.prog Γ s ρ (.makeSlice 33 l c) = agm 3 1 8 (.int .i64 0) s (ρ l) (ρ c) := aas pU agf wU az0 (by kernel_rfl) rfl s ρ l c
theorem ayX {Γ : Ctx} (s : AS) (ρ : Operand → PV) (x y : Operand) : aQ Tryz.prog Γ s ρ (.call { callee := .builtin .append, args := #[x, y], argTypes := #[33, 33] }) = adE 3 1 8 s.nx s.ob (ρ x) (qL s.ob (ρ x)) (bZ s.ob 1 (ρ y)) := qO pU agf wU az0 (by decide) rfl s ρ x y
theorem auH {Γ : Ctx} (s : AS) (ρ : Operand → PV) (x y : Operand) (t' : Nat) : aQ Tryz.prog Γ s ρ (.call { callee := .builtin .copy, args := #[x, y], argTypes := #[33, t'] }) = cpX 1 s.nx s.ob (ρ x) (qL s.ob (ρ x)) (ko s.ob 1 (ρ y)) := qP pU wU s ρ x y t'
theorem azw : aB Tryz.prog 33 = false := by kernel_rfl
theorem aBX : isStr Tryz.prog 33 = false := by kernel_rfl
theorem azy : aR Tryz.prog 93 = some 1 := by kernel_rfl
theorem aCb : eu Tryz.prog 93 = some false := by kernel_rfl
theorem aBJ : bL Tryz.prog 93 = some 24 := by kernel_rfl
theorem aul : zeroOf Tryz.prog 93 = some (.slice none 0 0) := by kernel_rfl
theorem acU : Tryz.prog.underlying 93 = some (.slice 101) := by kernel_rfl
theorem ae0 : eY Tryz.prog 93 = some 101 := by kernel_rfl
theorem aAS {k : Bool} {es : List PV} {i : Int} (h0 : 0 ≤ i) (h1 : i < (es.length : Int)) : aP Tryz.prog 93 (.lst k 4 es) i = some (.ptr k ((es[i.toNat]?).getD .dead) 0) := qU acU pI h0 h1
theorem axq {o j n : Nat} {i : Int} (h0 : 0 ≤ i) (h1 : i < (n : Int)) : aP Tryz.prog 93 (.row o 4 j n) i = some (.own o 4 (j + i.toNat) 0) := qR acU pI h0 h1
theorem aAo {k : Bool} {es : List PV} {lo hi : Option Int} (h0 : 0 ≤ lo.getD 0) (h1 : lo.getD 0 ≤ hi.getD es.length) (h2 : hi.getD es.length ≤ es.length) : bV Tryz.prog 93 (.lst k 4 es) lo hi = some (.lst k 4 ((es.drop (lo.getD 0).toNat).take ((hi.getD es.length).toNat - (lo.getD 0).toNat))) := qZ acU pI h0 h1 h2
theorem auq {o i n : Nat} {lo hi : Option Int} (h0 : 0 ≤ lo.getD 0) (h1 : lo.getD 0 < hi.getD n) (h2 : hi.getD n ≤ n) : bV Tryz.prog 93 (.row o 4 i n) lo hi = some (.row o 4 (i + (lo.getD 0).toNat) ((hi.getD n).toNat - (lo.getD 0).toNat)) := jC acU pI h0 h1 h2
theorem auS {o i n : Nat} {lo hi : Option Int} (h0 : 0 ≤ lo.getD 0) (h1 : lo.getD 0 = hi.getD n) (h2 : hi.getD n ≤ n) : bV Tryz.prog 93 (.row o 4 i n) lo hi = some (.lst true 4 []) := jF acU pI h0 h1 h2
theorem ayw {ty sz : Nat} {k : Bool} {es : List PV} : mF Tryz.prog 93 ty (.lst k sz es) = some (.val (.int .i64 es.length)) := qX ae0
theorem awp {ty o sz i n : Nat} : mF Tryz.prog 93 ty (.row o sz i n) = some (.val (.int .i64 n)) := qY ae0
theorem axE {ty : Nat} : mF Tryz.prog 93 ty (.val (.slice none 0 0)) = some (.val (.int .i64 0)) := qV acU
theorem aCm : dF (.slice none 0 0) = .val (.slice none 0 0) := rfl
theorem azQ {Γ : Ctx} (s : AS) (ρ : Operand → PV) : aQ Tryz.prog Γ s ρ (.alloc 93) = some (.own s.nx 1 0 0, upd s.ob s.nx (some (93, 1, [.val (.slice none 0 0)])), s.nx + 1) := fZ aul (by kernel_rfl) rfl rfl s ρ
theorem aAA {Γ : Ctx} (s : AS) (ρ : Operand → PV) (l c : Operand) : aQ Tryz.prog Γ s ρ (.makeSlice 93 l c) = agm 101 4 32 (.agg #[.int .i64 0, .int .i64 0, .int .i64 0, .int .i64 0]) s (ρ l) (ρ c) := aas ae0 aak pI ahS (by kernel_rfl) rfl s ρ l c
theorem axv {Γ : Ctx} (s : AS) (ρ : Operand → PV) (x y : Operand) : aQ Tryz.prog Γ s ρ (.call { callee := .builtin .append, args := #[x, y], argTypes := #[93, 93] }) = adE 101 4 32 s.nx s.ob (ρ x) (qL s.ob (ρ x)) (bZ s.ob 4 (ρ y)) := qO ae0 aak pI ahS (by decide) rfl s ρ x y
theorem at0 {Γ : Ctx} (s : AS) (ρ : Operand → PV) (x y : Operand) (t' : Nat) : aQ Tryz.prog Γ s ρ (.call { callee := .builtin .copy, args := #[x, y], argTypes := #[93, t'] }) = cpX 4 s.nx s.ob (ρ x) (qL s.ob (ρ x)) (ko s.ob 4 (ρ y)) := qP ae0 pI s ρ x y t'
theorem aBC : aB Tryz.prog 93 = false := by kernel_rfl
theorem aCv : isStr Tryz.prog 93 = false := by kernel_rfl
theorem aDv : aR Tryz.prog 94 = some 1 := by kernel_rfl
theorem aBU : eu Tryz.prog 94 = some false := by kernel_rfl
theorem aCo : bL Tryz.prog 94 = some 24 := by kernel_rfl
theorem auG : zeroOf Tryz.prog 94 = some (.slice none 0 0) := by kernel_rfl
theorem acO : Tryz.prog.underlying 94 = some (.slice 95) := by kernel_rfl
theorem af4 : eY Tryz.prog 94 = some 95 := by kernel_rfl
theorem aAF {k : Bool} {es : List PV} {i : Int} (h0 : 0 ≤ i) (h1 : i < (es.length : Int)) : aP Tryz.prog 94 (.lst k 4 es) i = some (.ptr k ((es[i.toNat]?).getD .dead) 0) := qU acO xg h0 h1
theorem avh {o j n : Nat} {i : Int} (h0 : 0 ≤ i) (h1 : i < (n : Int)) : aP Tryz.prog 94 (.row o 4 j n) i = some (.own o 4 (j + i.toNat) 0) := qR acO xg h0 h1
theorem azt {k : Bool} {es : List PV} {lo hi : Option Int} (h0 : 0 ≤ lo.getD 0) (h1 : lo.getD 0 ≤ hi.getD es.length) (h2 : hi.getD es.length ≤ es.length) : bV Tryz.prog 94 (.lst k 4 es) lo hi = some (.lst k 4 ((es.drop (lo.getD 0).toNat).take ((hi.getD es.length).toNat - (lo.getD 0).toNat))) := qZ acO xg h0 h1 h2
theorem ax6 {o i n : Nat} {lo hi : Option Int} (h0 : 0 ≤ lo.getD 0) (h1 : lo.getD 0 < hi.getD n) (h2 : hi.getD n ≤ n) : bV Tryz.prog 94 (.row o 4 i n) lo hi = some (.row o 4 (i + (lo.getD 0).toNat) ((hi.getD n).toNat - (lo.getD 0).toNat)) := jC acO xg h0 h1 h2
theorem auw {o i n : Nat} {lo hi : Option Int} (h0 : 0 ≤ lo.getD 0) (h1 : lo.getD 0 = hi.getD n) (h2 : hi.getD n ≤ n) : bV Tryz.prog 94 (.row o 4 i n) lo hi = some (.lst true 4 []) := jF acO xg h0 h1 h2
theorem atB {ty sz : Nat} {k : Bool} {es : List PV} : mF Tryz.prog 94 ty (.lst k sz es) = some (.val (.int .i64 es.length)) := qX af4
theorem auf {ty o sz i n : Nat} : mF Tryz.prog 94 ty (.row o sz i n) = some (.val (.int .i64 n)) := qY af4
theorem ayn {ty : Nat} : mF Tryz.prog 94 ty (.val (.slice none 0 0)) = some (.val (.int .i64 0)) := qV acO
theorem aCL : dF (.slice none 0 0) = .val (.slice none 0 0) := rfl
theorem azP {Γ : Ctx} (s : AS) (ρ : Operand → PV) : aQ Tryz.prog Γ s ρ (.alloc 94) = some (.own s.nx 1 0 0, upd s.ob s.nx (some (94, 1, [.val (.slice none 0 0)])), s.nx + 1) := fZ auG (by kernel_rfl) rfl rfl s ρ
theorem aDb {Γ : Ctx} (s : AS) (ρ : Operand → PV) (l c : Operand) : aQ Tryz.prog Γ s ρ (.makeSlice 94 l c) = agm 95 4 4 (.agg #[.bool false, .bool false, .bool false, .bool false]) s (ρ l) (ρ c) := aas af4 agR xg arw (by kernel_rfl) rfl s ρ l c
theorem avB {Γ : Ctx} (s : AS) (ρ : Operand → PV) (x y : Operand) : aQ Tryz.prog Γ s ρ (.call { callee := .builtin .append, args := #[x, y], argTypes := #[94, 94] }) = adE 95 4 4 s.nx s.ob (ρ x) (qL s.ob (ρ x)) (bZ s.ob 4 (ρ y)) := qO af4 agR xg arw (by decide) rfl s ρ x y
theorem ayc {Γ : Ctx} (s : AS) (ρ : Operand → PV) (x y : Operand) (t' : Nat) : aQ Tryz.prog Γ s ρ (.call { callee := .builtin .copy, args := #[x, y], argTypes := #[94, t'] }) = cpX 4 s.nx s.ob (ρ x) (qL s.ob (ρ x)) (ko s.ob 4 (ρ y)) := qP af4 xg s ρ x y t'
theorem aAK : aB Tryz.prog 94 = false := by kernel_rfl
theorem aAb : isStr Tryz.prog 94 = false := by kernel_rfl
theorem auj : aR Tryz.prog 132 = some 1 := by kernel_rfl
theorem axU : eu Tryz.prog 132 = some false := by kernel_rfl
theorem auT : bL Tryz.prog 132 = some 24 := by kernel_rfl
theorem anj : zeroOf Tryz.prog 132 = some (.slice none 0 0) := by kernel_rfl
theorem um : Tryz.prog.underlying 132 = some (.slice 54) := by kernel_rfl
theorem vg : eY Tryz.prog 132 = some 54 := by kernel_rfl
theorem awh {k : Bool} {es : List PV} {i : Int} (h0 : 0 ≤ i) (h1 : i < (es.length : Int)) : aP Tryz.prog 132 (.lst k 4 es) i = some (.ptr k ((es[i.toNat]?).getD .dead) 0) := qU um vN h0 h1
theorem arM {o j n : Nat} {i : Int} (h0 : 0 ≤ i) (h1 : i < (n : Int)) : aP Tryz.prog 132 (.row o 4 j n) i = some (.own o 4 (j + i.toNat) 0) := qR um vN h0 h1
theorem axf {k : Bool} {es : List PV} {lo hi : Option Int} (h0 : 0 ≤ lo.getD 0) (h1 : lo.getD 0 ≤ hi.getD es.length) (h2 : hi.getD es.length ≤ es.length) : bV Tryz.prog 132 (.lst k 4 es) lo hi = some (.lst k 4 ((es.drop (lo.getD 0).toNat).take ((hi.getD es.length).toNat - (lo.getD 0).toNat))) := qZ um vN h0 h1 h2
theorem asP {o i n : Nat} {lo hi : Option Int} (h0 : 0 ≤ lo.getD 0) (h1 : lo.getD 0 < hi.getD n) (h2 : hi.getD n ≤ n) : bV Tryz.prog 132 (.row o 4 i n) lo hi = some (.row o 4 (i + (lo.getD 0).toNat) ((hi.getD n).toNat - (lo.getD 0).toNat)) := jC um vN h0 h1 h2
theorem apz {o i n : Nat} {lo hi : Option Int} (h0 : 0 ≤ lo.getD 0) (h1 : lo.getD 0 = hi.getD n) (h2 : hi.getD n ≤ n) : bV Tryz.prog 132 (.row o 4 i n) lo hi = some (.lst true 4 []) := jF um vN h0 h1 h2
theorem asM {ty sz : Nat} {k : Bool} {es : List PV} : mF Tryz.prog 132 ty (.lst k sz es) = some (.val (.int .i64 es.length)) := qX vg
theorem aqC {ty o sz i n : Nat} : mF Tryz.prog 132 ty (.row o sz i n) = some (.val (.int .i64 n)) := qY vg
theorem ar0 {ty : Nat} : mF Tryz.prog 132 ty (.val (.slice none 0 0)) = some (.val (.int .i64 0)) := qV um
theorem avF : dF (.slice none 0 0) = .val (.slice none 0 0) := rfl
theorem aw5 {Γ : Ctx} (s : AS) (ρ : Operand → PV) : aQ Tryz.prog Γ s ρ (.alloc 132) = some (.own s.nx 1 0 0, upd s.ob s.nx (some (132, 1, [.val (.slice none 0 0)])), s.nx + 1) := fZ anj (by kernel_rfl) rfl rfl s ρ
theorem awk {Γ : Ctx} (s : AS) (ρ : Operand → PV) (l c : Operand) : aQ Tryz.prog Γ s ρ (.makeSlice 132 l c) = agm 54 4 32 (.agg #[.int .i64 0, .int .i64 0, .int .i64 0, .int .i64 0]) s (ρ l) (ρ c) := aas vg aeI vN asS (by kernel_rfl) rfl s ρ l c
theorem aqS {Γ : Ctx} (s : AS) (ρ : Operand → PV) (x y : Operand) : aQ Tryz.prog Γ s ρ (.call { callee := .builtin .append, args := #[x, y], argTypes := #[132, 132] }) = adE 54 4 32 s.nx s.ob (ρ x) (qL s.ob (ρ x)) (bZ s.ob 4 (ρ y)) := qO vg aeI vN asS (by decide) rfl s ρ x y
theorem apS {Γ : Ctx} (s : AS) (ρ : Operand → PV) (x y : Operand) (t' : Nat) : aQ Tryz.prog Γ s ρ (.call { callee := .builtin .copy, args := #[x, y], argTypes := #[132, t'] }) = cpX 4 s.nx s.ob (ρ x) (qL s.ob (ρ x)) (ko s.ob 4 (ρ y)) := qP vg vN s ρ x y t'
theorem awz : aB Tryz.prog 132 = false := by kernel_rfl
theorem awv : isStr Tryz.prog 132 = false := by kernel_rfl
theorem aAZ : aR Tryz.prog 38 = some 1 := by kernel_rfl
theorem azI : eu Tryz.prog 38 = some false := by kernel_rfl
theorem aDh : bL Tryz.prog 38 = some 24 := by kernel_rfl
theorem av7 : zeroOf Tryz.prog 38 = some (.slice none 0 0) := by kernel_rfl
theorem acI : Tryz.prog.underlying 38 = some (.slice 23) := by kernel_rfl
theorem abL : eY Tryz.prog 38 = some 23 := by kernel_rfl
theorem azm {k : Bool} {es : List PV} {i : Int} (h0 : 0 ≤ i) (h1 : i < (es.length : Int)) : aP Tryz.prog 38 (.lst k 1 es) i = some (.ptr k ((es[i.toNat]?).getD .dead) 0) := qU acI vQ h0 h1
theorem axW {o j n : Nat} {i : Int} (h0 : 0 ≤ i) (h1 : i < (n : Int)) : aP Tryz.prog 38 (.row o 1 j n) i = some (.own o 1 (j + i.toNat) 0) := qR acI vQ h0 h1
theorem aAw {k : Bool} {es : List PV} {lo hi : Option Int} (h0 : 0 ≤ lo.getD 0) (h1 : lo.getD 0 ≤ hi.getD es.length) (h2 : hi.getD es.length ≤ es.length) : bV Tryz.prog 38 (.lst k 1 es) lo hi = some (.lst k 1 ((es.drop (lo.getD 0).toNat).take ((hi.getD es.length).toNat - (lo.getD 0).toNat))) := qZ acI vQ h0 h1 h2
theorem axN {o i n : Nat} {lo hi : Option Int} (h0 : 0 ≤ lo.getD 0) (h1 : lo.getD 0 < hi.getD n) (h2 : hi.getD n ≤ n) : bV Tryz.prog 38 (.row o 1 i n) lo hi = some (.row o 1 (i + (lo.getD 0).toNat) ((hi.getD n).toNat - (lo.getD 0).toNat)) := jC acI vQ h0 h1 h2
theorem aud {o i n : Nat} {lo hi : Option Int} (h0 : 0 ≤ lo.getD 0) (h1 : lo.getD 0 = hi.getD n) (h2 : hi.getD n ≤ n) : bV Tryz.prog 38 (.row o 1 i n) lo hi = some (.lst true 1 []) := jF acI vQ h0 h1 h2
theorem awt {ty sz : Nat} {k : Bool} {es : List PV} : mF Tryz.prog 38 ty (.lst k sz es) = some (.val (.int .i64 es.length)) := qX abL
theorem atz {ty o sz i n : Nat} : mF Tryz.prog 38 ty (.row o sz i n) = some (.val (.int .i64 n)) := qY abL
theorem avU {ty : Nat} : mF Tryz.prog 38 ty (.val (.slice none 0 0)) = some (.val (.int .i64 0)) := qV acI
theorem aAW : dF (.slice none 0 0) = .val (.slice none 0 0) := rfl
theorem aAY {Γ : Ctx} (s : AS) (ρ : Operand → PV) : aQ Tryz.prog Γ s ρ (.alloc 38) = some (.own s.nx 1 0 0, upd s.ob s.nx (some (38, 1, [.val (.slice none 0 0)])), s.nx + 1) := fZ av7 (by kernel_rfl) rfl rfl s ρ
theorem aA6 {Γ : Ctx} (s : AS) (ρ : Operand → PV) (l c : Operand) : aQ Tryz.prog Γ s ρ (.makeSlice 38 l c) = agm 23 1 24 (.slice none 0 0) s (ρ l) (ρ c) := aas abL ajT vQ asn (by kernel_rfl) rfl s ρ l c
theorem awH {Γ : Ctx} (s : AS) (ρ : Operand → PV) (x y : Operand) : aQ Tryz.prog Γ s ρ (.call { callee := .builtin .append, args := #[x, y], argTypes := #[38, 38] }) = adE 23 1 24 s.nx s.ob (ρ x) (qL s.ob (ρ x)) (bZ s.ob 1 (ρ y)) := qO abL ajT vQ asn (by decide) rfl s ρ x y
theorem awM {Γ : Ctx} (s : AS) (ρ : Operand → PV) (x y : Operand) (t' : Nat) : aQ Tryz.prog Γ s ρ (.call { callee := .builtin .copy, args := #[x, y], argTypes := #[38, t'] }) = cpX 1 s.nx s.ob (ρ x) (qL s.ob (ρ x)) (ko s.ob 1 (ρ y)) := qP abL vQ s ρ x y t'
theorem aAu : aB Tryz.prog 38 = false := by kernel_rfl
theorem aAG : isStr Tryz.prog 38 = false := by kernel_rfl
theorem arO {k : IntKind} {n : Int} {es : Option (List PV)} : dK Tryz.prog 2 2 false es (some (.int k n)) = some (.val (.int .i64 (IntKind.i64.wrap n))) := bU abS abS
theorem aqp {k : IntKind} {n : Int} {es : Option (List PV)} : dK Tryz.prog 2 3 false es (some (.int k n)) = some (.val (.int .i64 (IntKind.i64.wrap n))) := bU abS acL
theorem ao6 {k : IntKind} {n : Int} {es : Option (List PV)} : dK Tryz.prog 2 5 false es (some (.int k n)) = some (.val (.int .u8 (IntKind.u8.wrap n))) := bU abS abh
theorem alO {k : IntKind} {n : Int} {es : Option (List PV)} : dK Tryz.prog 2 12 false es (some (.int k n)) = some (.val (.int .u64 (IntKind.u64.wrap n))) := bU abS nX
theorem akw {k : IntKind} {n : Int} {es : Option (List PV)} : dK Tryz.prog 2 21 false es (some (.int k n)) = some (.val (.int .i32 (IntKind.i32.wrap n))) := bU abS nT
theorem ahh {k : IntKind} {n : Int} {es : Option (List PV)} : dK Tryz.prog 2 134 false es (some (.int k n)) = some (.val (.int .u64 (IntKind.u64.wrap n))) := bU abS iZ
theorem ajQ {k : IntKind} {n : Int} {es : Option (List PV)} : dK Tryz.prog 2 141 false es (some (.int k n)) = some (.val (.int .u32 (IntKind.u32.wrap n))) := bU abS jd
theorem asz {k : IntKind} {n : Int} {es : Option (List PV)} : dK Tryz.prog 3 2 false es (some (.int k n)) = some (.val (.int .i64 (IntKind.i64.wrap n))) := bU acL abS
theorem aof {k : IntKind} {n : Int} {es : Option (List PV)} : dK Tryz.prog 3 3 false es (some (.int k n)) = some (.val (.int .i64 (IntKind.i64.wrap n))) := bU acL acL
theorem aqs {k : IntKind} {n : Int} {es : Option (List PV)} : dK Tryz.prog 3 5 false es (some (.int k n)) = some (.val (.int .u8 (IntKind.u8.wrap n))) := bU acL abh
theorem amh {k : IntKind} {n : Int} {es : Option (List PV)} : dK Tryz.prog 3 12 false es (some (.int k n)) = some (.val (.int .u64 (IntKind.u64.wrap n))) := bU acL nX
theorem akB {k : IntKind} {n : Int} {es : Option (List PV)} : dK Tryz.prog 3 21 false es (some (.int k n)) = some (.val (.int .i32 (IntKind.i32.wrap n))) := bU acL nT
theorem aic {k : IntKind} {n : Int} {es : Option (List PV)} : dK Tryz.prog 3 134 false es (some (.int k n)) = some (.val (.int .u64 (IntKind.u64.wrap n))) := bU acL iZ
theorem aj0 {k : IntKind} {n : Int} {es : Option (List PV)} : dK Tryz.prog 3 141 false es (some (.int k n)) = some (.val (.int .u32 (IntKind.u32.wrap n))) := bU acL jd
theorem asc {k : IntKind} {n : Int} {es : Option (List PV)} : dK Tryz.prog 5 2 false es (some (.int k n)) = some (.val (.int .i64 (IntKind.i64.wrap n))) := bU abh abS
theorem ar8 {k : IntKind} {n : Int} {es : Option (List PV)} : dK Tryz.prog 5 3 false es (some (.int k n)) = some (.val (.int .i64 (IntKind.i64.wrap n))) := bU abh acL
theorem apJ {k : IntKind} {n : Int} {es : Option (List PV)} : dK Tryz.prog 5 5 false es (some (.int k n)) = some (.val (.int .u8 (IntKind.u8.wrap n))) := bU abh abh
theorem alq {k : IntKind} {n : Int} {es : Option (List PV)} : dK Tryz.prog 5 12 false es (some (.int k n)) = some (.val (.int .u64 (IntKind.u64.wrap n))) := bU abh nX
theorem alv {k : IntKind} {n : Int} {es : Option (List PV)} : dK Tryz.prog 5 21 false es (some (.int k n)) = some (.val (.int .i32 (IntKind.i32.wrap n))) := bU abh nT
theorem ahw {k : IntKind} {n : Int} {es : Option (List PV)} : dK Tryz.prog 5 134 false es (some (.int k n)) = some (.val (.int .u64 (IntKind.u64.wrap n))) := bU abh iZ
theorem aib {k : IntKind} {n : Int} {es : Option (List PV)} : dK Tryz.prog 5 141 false es (some (.int k n)) = some (.val (.int .u32 (IntKind.u32.wrap n))) := bU abh jd
theorem akH {k : IntKind} {n : Int} {es : Option (List PV)} : dK Tryz.prog 12 2 false es (some (.int k n)) = some (.val (.int .i64 (IntKind.i64.wrap n))) := bU nX abS
theorem alF {k : IntKind} {n : Int} {es : Option (List PV)} : dK Tryz.prog 12 3 false es (some (.int k n)) = some (.val (.int .i64 (IntKind.i64.wrap n))) := bU nX acL
theorem al1 {k : IntKind} {n : Int} {es : Option (List PV)} : dK Tryz.prog 12 5 false es (some (.int k n)) = some (.val (.int .u8 (IntKind.u8.wrap n))) := bU nX abh
theorem ajA {k : IntKind} {n : Int} {es : Option (List PV)} : dK Tryz.prog 12 12 false es (some (.int k n)) = some (.val (.int .u64 (IntKind.u64.wrap n))) := bU nX nX
theorem ahq {k : IntKind} {n : Int} {es : Option (List PV)} : dK Tryz.prog 12 21 false es (some (.int k n)) = some (.val (.int .i32 (IntKind.i32.wrap n))) := bU nX nT
theorem aeP {k : IntKind} {n : Int} {es : Option (List PV)} : dK Tryz.prog 12 134 false es (some (.int k n)) = some (.val (.int .u64 (IntKind.u64.wrap n))) := bU nX iZ
theorem afg {k : IntKind} {n : Int} {es : Option (List PV)} : dK Tryz.prog 12 141 false es (some (.int k n)) = some (.val (.int .u32 (IntKind.u32.wrap n))) := bU nX jd
theorem akL {k : IntKind} {n : Int} {es : Option (List PV)} : dK Tryz.prog 21 2 false es (some (.int k n)) = some (.val (.int .i64 (IntKind.i64.wrap n))) := bU nT abS
theorem amc {k : IntKind} {n : Int} {es : Option (List PV)} : dK Tryz.prog 21 3 false es (some (.int k n)) = some (.val (.int .i64 (IntKind.i64.wrap n))) := bU nT acL
theorem anc {k : IntKind} {n : Int} {es : Option (List PV)} : dK Tryz.prog 21 5 false es (some (.int k n)) = some (.val (.int .u8 (IntKind.u8.wrap n))) := bU nT abh
theorem ajN {k : IntKind} {n : Int} {es : Option (List PV)} : dK Tryz.prog 21 12 false es (some (.int k n)) = some (.val (.int .u64 (IntKind.u64.wrap n))) := bU nT nX
theorem ajw {k : IntKind} {n : Int} {es : Option (List PV)} : dK Tryz.prog 21 21 false es (some (.int k n)) = some (.val (.int .i32 (IntKind.i32.wrap n))) := bU nT nT
theorem afd {k : IntKind} {n : Int} {es : Option (List PV)} : dK Tryz.prog 21 134 false es (some (.int k n)) = some (.val (.int .u64 (IntKind.u64.wrap n))) := bU nT iZ
theorem aeZ {k : IntKind} {n : Int} {es : Option (List PV)} : dK Tryz.prog 21 141 false es (some (.int k n)) = some (.val (.int .u32 (IntKind.u32.wrap n))) := bU nT jd
theorem ahH {k : IntKind} {n : Int} {es : Option (List PV)} : dK Tryz.prog 134 2 false es (some (.int k n)) = some (.val (.int .i64 (IntKind.i64.wrap n))) := bU iZ abS
theorem ahI {k : IntKind} {n : Int} {es : Option (List PV)} : dK Tryz.prog 134 3 false es (some (.int k n)) = some (.val (.int .i64 (IntKind.i64.wrap n))) := bU iZ acL
theorem agp {k : IntKind} {n : Int} {es : Option (List PV)} : dK Tryz.prog 134 5 false es (some (.int k n)) = some (.val (.int .u8 (IntKind.u8.wrap n))) := bU iZ abh
theorem aey {k : IntKind} {n : Int} {es : Option (List PV)} : dK Tryz.prog 134 12 false es (some (.int k n)) = some (.val (.int .u64 (IntKind.u64.wrap n))) := bU iZ nX
theorem af6 {k : IntKind} {n : Int} {es : Option (List PV)} : dK Tryz.prog 134 21 false es (some (.int k n)) = some (.val (.int .i32 (IntKind.i32.wrap n))) := bU iZ nT
theorem ab1 {k : IntKind} {n : Int} {es : Option (List PV)} : dK Tryz.prog 134 134 false es (some (.int k n)) = some (.val (.int .u64 (IntKind.u64.wrap n))) := bU iZ iZ
theorem abt {k : IntKind} {n : Int} {es : Option (List PV)} : dK Tryz.prog 134 141 false es (some (.int k n)) = some (.val (.int .u32 (IntKind.u32.wrap n))) := bU iZ jd
theorem aip {k : IntKind} {n : Int} {es : Option (List PV)} : dK Tryz.prog 141 2 false es (some (.int k n)) = some (.val (.int .i64 (IntKind.i64.wrap n))) := bU jd abS
theorem aiX {k : IntKind} {n : Int} {es : Option (List PV)} : dK Tryz.prog 141 3 false es (some (.int k n)) = some (.val (.int .i64 (IntKind.i64.wrap n))) := bU jd acL
theorem ai3 {k : IntKind} {n : Int} {es : Option (List PV)} : dK Tryz.prog 141 5 false es (some (.int k n)) = some (.val (.int .u8 (IntKind.u8.wrap n))) := bU jd abh
theorem afb {k : IntKind} {n : Int} {es : Option (List PV)} : dK Tryz.prog 141 12 false es (some (.int k n)) = some (.val (.int .u64 (IntKind.u64.wrap n))) := bU jd nX
theorem aeF {k : IntKind} {n : Int} {es : Option (List PV)} : dK Tryz.prog 141 21 false es (some (.int k n)) = some (.val (.int .i32 (IntKind.i32.wrap n))) := bU jd nT
theorem acE {k : IntKind} {n : Int} {es : Option (List PV)} : dK Tryz.prog 141 134 false es (some (.int k n)) = some (.val (.int .u64 (IntKind.u64.wrap n))) := bU jd iZ
theorem acY {k : IntKind} {n : Int} {es : Option (List PV)} : dK Tryz.prog 141 141 false es (some (.int k n)) = some (.val (.int .u32 (IntKind.u32.wrap n))) := bU jd jd
theorem arf {a0 : PV} : gP Tryz.prog 22 1 [(0, a0)] = vk 5 1 [a0] (okP 1 a0 && (true)) := jS abF ake au2 _ (by decide) (by decide) rfl
theorem aoJ : gP Tryz.prog 23 0 [] = vk 9 1 [] (true) := jS rJ acw akd _ (by decide) (by decide) rfl
theorem asg {a0 : PV} : gP Tryz.prog 23 1 [(0, a0)] = vk 9 1 [a0] (okP 1 a0 && (true)) := jS rJ acw akd _ (by decide) (by decide) rfl
theorem aru {a0 a1 a2 a3 a4 : PV} : gP Tryz.prog 23 5 [(0, a0), (1, a1), (2, a2), (3, a3), (4, a4)] = vk 9 1 [a0, a1, a2, a3, a4] (okP 1 a0 && (okP 1 a1 && (okP 1 a2 && (okP 1 a3 && (okP 1 a4 && (true)))))) := jS rJ acw akd _ (by decide) (by decide) rfl
theorem arR {a0 a1 a2 a3 a4 a5 a6 a7 : PV} : gP Tryz.prog 23 8 [(0, a0), (1, a1), (2, a2), (3, a3), (4, a4), (5, a5), (6, a6), (7, a7)] = vk 9 1 [a0, a1, a2, a3, a4, a5, a6, a7] (okP 1 a0 && (okP 1 a1 && (okP 1 a2 && (okP 1 a3 && (okP 1 a4 && (okP 1 a5 && (okP 1 a6 && (okP 1 a7 && (true))))))))) := jS rJ acw akd _ (by decide) (by decide) rfl
theorem akV {a0 a1 a2 a3 a4 a5 a6 a7 a8 a9 a10 a11 : PV} : gP Tryz.prog 23 12 [(0, a0), (1, a1), (2, a2), (3, a3), (4, a4), (5, a5), (6, a6), (7, a7), (8, a8), (9, a9), (10, a10), (11, a11)] = vk 9 1 [a0, a1, a2, a3, a4, a5, a6, a7, a8, a9, a10, a11] (okP 1 a0 && (okP 1 a1 && (okP 1 a2 && (okP 1 a3 && (okP 1 a4 && (okP 1 a5 && (okP 1 a6 && (okP 1 a7 && (okP 1 a8 && (okP 1 a9 && (okP 1 a10 && (okP 1 a11 && (true))))))))))))) := jS rJ acw akd _ (by decide) (by decide) rfl
theorem amx {a0 a1 a2 a3 a4 a5 a6 a7 a8 a9 a10 a11 a12 a13 a14 : PV} : gP Tryz.prog 23 15 [(0, a0), (1, a1), (2, a2), (3, a3), (4, a4), (5, a5), (6, a6), (7, a7), (8, a8), (9, a9), (10, a10), (11, a11), (12, a12), (13, a13), (14, a14)] = vk 9 1 [a0, a1, a2, a3, a4, a5, a6, a7, a8, a9, a10, a11, a12, a13, a14] (okP 1 a0 && (okP 1 a1 && (okP 1 a2 && (okP 1 a3 && (okP 1 a4 && (okP 1 a5 && (okP 1 a6 && (okP 1 a7 && (okP 1 a8 && (okP 1 a9 && (okP 1 a10 && (okP 1 a11 && (okP 1 a12 && (okP 1 a13 && (okP 1 a14 && (true)))))))))))))))) := jS rJ acw akd _ (by decide) (by decide) rfl
theorem aro : gP Tryz.prog 30 0 [] = vk 56 7 [] (true) := jS wV rE zC _ (by decide) (by decide) rfl
theorem arG {a0 : PV} : gP Tryz.prog 30 1 [(0, a0)] = vk 56 7 [a0] (okP 7 a0 && (true)) := jS wV rE zC _ (by decide) (by decide) rfl
theorem as2 {a0 a1 a2 : PV} : gP Tryz.prog 30 3 [(0, a0), (1, a1), (2, a2)] = vk 56 7 [a0, a1, a2] (okP 7 a0 && (okP 7 a1 && (okP 7 a2 && (true)))) := jS wV rE zC _ (by decide) (by decide) rfl
theorem arW : gP Tryz.prog 33 0 [] = vk 3 1 [] (true) := jS pU wU agf _ (by decide) (by decide) rfl
theorem aqJ {a0 : PV} : gP Tryz.prog 33 1 [(0, a0)] = vk 3 1 [a0] (okP 1 a0 && (true)) := jS pU wU agf _ (by decide) (by decide) rfl
theorem arp {a0 a1 : PV} : gP Tryz.prog 33 2 [(0, a0), (1, a1)] = vk 3 1 [a0, a1] (okP 1 a0 && (okP 1 a1 && (true))) := jS pU wU agf _ (by decide) (by decide) rfl
theorem aor {a0 a1 a2 : PV} : gP Tryz.prog 33 3 [(0, a0), (1, a1), (2, a2)] = vk 3 1 [a0, a1, a2] (okP 1 a0 && (okP 1 a1 && (okP 1 a2 && (true)))) := jS pU wU agf _ (by decide) (by decide) rfl
theorem arK {a0 a1 a2 a3 a4 a5 : PV} : gP Tryz.prog 33 6 [(0, a0), (1, a1), (2, a2), (3, a3), (4, a4), (5, a5)] = vk 3 1 [a0, a1, a2, a3, a4, a5] (okP 1 a0 && (okP 1 a1 && (okP 1 a2 && (okP 1 a3 && (okP 1 a4 && (okP 1 a5 && (true))))))) := jS pU wU agf _ (by decide) (by decide) rfl
theorem asW {a0 a1 a2 a3 a4 a5 a6 : PV} : gP Tryz.prog 33 7 [(0, a0), (1, a1), (2, a2), (3, a3), (4, a4), (5, a5), (6, a6)] = vk 3 1 [a0, a1, a2, a3, a4, a5, a6] (okP 1 a0 && (okP 1 a1 && (okP 1 a2 && (okP 1 a3 && (okP 1 a4 && (okP 1 a5 && (okP 1 a6 && (true)))))))) := jS pU wU agf _ (by decide) (by decide) rfl
theorem apZ {a0 a1 a2 a3 a4 a5 a6 a7 a8 : PV} : gP Tryz.prog 33 9 [(0, a0), (1, a1), (2, a2), (3, a3), (4, a4), (5, a5), (6, a6), (7, a7), (8, a8)] = vk 3 1 [a0, a1, a2, a3, a4, a5, a6, a7, a8] (okP 1 a0 && (okP 1 a1 && (okP 1 a2 && (okP 1 a3 && (okP 1 a4 && (okP 1 a5 && (okP 1 a6 && (okP 1 a7 && (okP 1 a8 && (true)))))))))) := jS pU wU agf _ (by decide) (by decide) rfl
theorem amP {a0 a1 a2 a3 a4 a5 a6 a7 a8 a9 : PV} : gP Tryz.prog 33 10 [(0, a0), (1, a1), (2, a2), (3, a3), (4, a4), (5, a5), (6, a6), (7, a7), (8, a8), (9, a9)] = vk 3 1 [a0, a1, a2, a3, a4, a5, a6, a7, a8, a9] (okP 1 a0 && (okP 1 a1 && (okP 1 a2 && (okP 1 a3 && (okP 1 a4 && (okP 1 a5 && (okP 1 a6 && (okP 1 a7 && (okP 1 a8 && (okP 1 a9 && (true))))))))))) := jS pU wU agf _ (by decide) (by decide) rfl
theorem arq {a0 : PV} : gP Tryz.prog 38 1 [(0, a0)] = vk 23 1 [a0] (okP 1 a0 && (true)) := jS abL vQ ajT _ (by decide) (by decide) rfl
theorem am7 {a0 : PV} : gP Tryz.prog 132 1 [(0, a0)] = vk 54 4 [a0] (okP 4 a0 && (true)) := jS vg vN aeI _ (by decide) (by decide) rfl
theorem mixed : Tryz.prog.follows .mixedOrders = true := by kernel_rfl
attribute [push_cast high]
 aEs aCG aBx aDg aBa azV aDl azA aAT aCr aBk aAO aA0 aDr awq axA
attribute [push_cast]
 aDP aD4 aEk aDB abS aEl aDY aDR aEd wU aEc az0 agf acL aD0 aDH aEu aD9 aAP aEq aEC aDF azx aCI aA3 aDW aEA aEy aEi ake aD2 azr au2 abh aDV aEg aEp aEe aD5 aD3 aDL aAm atT auz avf awJ aDA aEw aDU aDS aEb aDM acw aEf aBn akd aCz aBb aAa aDX aEh aEB aDT aCD aC3 azO awx nX aC8 aBi aBe aC4 azL aA4 azC arQ aqy aox atF aAR azN aDz az4 aAC aDf aDm aBp ays nT aDw aC7 aAE aAN aCd aCP aCf arF aqG asC aqF ari aq2 avt aBE aCq aBm aCT az8 aDy aBS aCt akM aqU aq6 asL as9 aqv atL azR aCy aAy az5 aBY aCc aBs azl aqA aq7 aop aqR aqj ay3 aAx aB0 aBL aCA azv vN azB asS aeI aoL arC atc arJ ave azJ aAt aCs ale amY aBI aBr aAQ azu az2 aqr as1 arY aoh ao3 av1 aCJ azX aDt aBh aB8 rE azE aoc zC ar1 ard aqW aoq auP aBl az7 aDn aCp aAr aDd azG aC1 aoE aqu aoK aot awm aAn aB6 az6 al4 amJ aCQ aCM aDp aAg aAU afs an7 asr asG ax0 aAj azq az9 ak7 anb aBv aA2 aDo aDu aBy ata aql ar5 atH az3 aBN aCC aBQ aAz azs aAs aAL ae9 ao4 aqm awI aBu aC0 aAk aB1 aDj aA5 aCX aB4 ash aqY asf aw0 aCj aCH aBw aCw aCO aCh aB3 aCn aqI arx apC atQ aCY aBG aCN aBP azK xg azz arw agR asl atC auW aCl az1 azZ aBo aBz pI avT ahS aak ahW as5 apG ax3 avl atO aw4 ayL au4 awD axc anP iZ awU ayB ayv ayd aw3 auk axK ag7 akz akE ant avC avM avb auN avH axp av2 ayQ agL amS akG anH aue axL aty ayV atE avg atY avK anR at5 axz axb ava auA avm ax1 axS anG jd axa avV atN awZ aCe aCR aAI axB abB abF aCx au6 aAJ avI atI at1 auV au9 aA9 aBW azM avu avO aCi aBR vQ aAX asn ajT acj rJ azH ayC aDc aup axt atS au7 ay0 aAq aCW aCB auK avN aBq aDs azS aBV aCk awC abN wV aC2 auL aBf axw axG axD awO axr aC9 aBZ aBT awL awc aDi aAv aBg aAp aBt axV abM pU aAi atV azo ayJ aw9 aws atA av9 aA7 aB2 aAD ayX auH azw aBX azy aCb aBJ aul acU ae0 aAS axq aAo auq auS ayw awp axE aCm azQ aAA axv at0 aBC aCv aDv aBU aCo auG acO af4 aAF avh azt ax6 auw atB auf ayn aCL azP aDb avB ayc aAK aAb auj axU auT anj um vg awh arM axf asP apz asM aqC ar0 avF aw5 awk aqS apS awz awv aAZ azI aDh av7 acI abL azm axW aAw axN aud awt atz avU aAW aAY aA6 awH awM aAu aAG arO aqp ao6 alO akw ahh ajQ asz aof aqs amh akB aic aj0 asc ar8 apJ alq alv ahw aib akH alF al1 ajA ahq aeP afg akL amc anc ajN ajw afd aeZ ahH ahI agp aey af6 ab1 abt aip aiX ai3 afb aeF acE acY arf aoJ asg aru arR akV amx aro arG as2 arW aqJ arp aor arK asW apZ amP arq am7
end Go.Proofs.YtngcedklbinhjaaGreatDoor
