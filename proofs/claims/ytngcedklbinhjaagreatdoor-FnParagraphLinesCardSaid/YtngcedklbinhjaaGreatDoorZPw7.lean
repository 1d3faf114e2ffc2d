/- What the proof rests on, part 7: contracts of functions. No condition beyond what each states. -/
import Derived.Test.YtngcedklbinhjaaGreatDoorZPw6
namespace Go.Proofs.YtngcedklbinhjaaGreatDoor
open Go.RowKit
set_option linter.all false
theorem sz_2 : tySize Tryz.prog 2 = some 1 := by kernel_rfl
theorem ag_2 : tyAgg Tryz.prog 2 = some false := by kernel_rfl
theorem by_2 : tyBytes Tryz.prog 2 = some 8 := by kernel_rfl
theorem ze_2 : zeroOf Tryz.prog 2 = some (.int .i64 0) := by kernel_rfl
theorem un_2 : Tryz.prog.underlying 2 = some (.int .i64) := by kernel_rfl
theorem oz_2 : ofVal (.int .i64 0) = .val (.int .i64 0) := rfl
theorem ea_2 {Γ : Ctx} (s : AS) (ρ : Operand → PV) : evEff Tryz.prog Γ s ρ (.alloc 2) = some (.own s.nx 1 0 0, upd s.ob s.nx (some (2, 1, [.val (.int .i64 0)])), s.nx + 1) := ea_of ze_2 (by kernel_rfl) rfl rfl s ρ
theorem bs_2 : isByteSlice Tryz.prog 2 = false := by kernel_rfl
theorem is_2 : isStr Tryz.prog 2 = false := by kernel_rfl
theorem sz_3 : tySize Tryz.prog 3 = some 1 := by kernel_rfl
theorem ag_3 : tyAgg Tryz.prog 3 = some false := by kernel_rfl
theorem by_3 : tyBytes Tryz.prog 3 = some 8 := by kernel_rfl
theorem ze_3 : zeroOf Tryz.prog 3 = some (.int .i64 0) := by kernel_rfl
theorem un_3 : Tryz.prog.underlying 3 = some (.int .i64) := by kernel_rfl
theorem oz_3 : ofVal (.int .i64 0) = .val (.int .i64 0) := rfl
theorem ea_3 {Γ : Ctx} (s : AS) (ρ : Operand → PV) : evEff Tryz.prog Γ s ρ (.alloc 3) = some (.own s.nx 1 0 0, upd s.ob s.nx (some (3, 1, [.val (.int .i64 0)])), s.nx + 1) := ea_of ze_3 (by kernel_rfl) rfl rfl s ρ
theorem bs_3 : isByteSlice Tryz.prog 3 = false := by kernel_rfl
theorem is_3 : isStr Tryz.prog 3 = false := by kernel_rfl
theorem sz_4 : tySize Tryz.prog 4 = some 1 := by kernel_rfl
theorem ag_4 : tyAgg Tryz.prog 4 = some false := by kernel_rfl
theorem by_4 : tyBytes Tryz.prog 4 = some 1 := by kernel_rfl
theorem ze_4 : zeroOf Tryz.prog 4 = some (.bool false) := by kernel_rfl
theorem un_4 : Tryz.prog.underlying 4 = some .bool := by kernel_rfl
theorem bqe_4 {x y : Operand} {a b : Bool} : binP Tryz.prog .eql 4 x y (some (.bool a)) (some (.bool b)) = some (.val (.bool (a == b))) := bp_eqlB un_4
theorem bqn_4 {x y : Operand} {a b : Bool} : binP Tryz.prog .neq 4 x y (some (.bool a)) (some (.bool b)) = some (.val (.bool (!(a == b)))) := bp_neqB un_4
theorem oz_4 : ofVal (.bool false) = .val (.bool false) := rfl
theorem ea_4 {Γ : Ctx} (s : AS) (ρ : Operand → PV) : evEff Tryz.prog Γ s ρ (.alloc 4) = some (.own s.nx 1 0 0, upd s.ob s.nx (some (4, 1, [.val (.bool false)])), s.nx + 1) := ea_of ze_4 (by kernel_rfl) rfl rfl s ρ
theorem bs_4 : isByteSlice Tryz.prog 4 = false := by kernel_rfl
theorem is_4 : isStr Tryz.prog 4 = false := by kernel_rfl
theorem sz_5 : tySize Tryz.prog 5 = some 1 := by kernel_rfl
theorem ag_5 : tyAgg Tryz.prog 5 = some false := by kernel_rfl
theorem by_5 : tyBytes Tryz.prog 5 = some 1 := by kernel_rfl
theorem ze_5 : zeroOf Tryz.prog 5 = some (.int .u8 0) := by kernel_rfl
theorem un_5 : Tryz.prog.underlying 5 = some (.int .u8) := by kernel_rfl
theorem oz_5 : ofVal (.int .u8 0) = .val (.int .u8 0) := rfl
theorem ea_5 {Γ : Ctx} (s : AS) (ρ : Operand → PV) : evEff Tryz.prog Γ s ρ (.alloc 5) = some (.own s.nx 1 0 0, upd s.ob s.nx (some (5, 1, [.val (.int .u8 0)])), s.nx + 1) := ea_of ze_5 (by kernel_rfl) rfl rfl s ρ
theorem bs_5 : isByteSlice Tryz.prog 5 = false := by kernel_rfl
theorem is_5 : isStr Tryz.prog 5 = false := by kernel_rfl
theorem sz_7 : tySize Tryz.prog 7 = some 4 := by kernel_rfl
theorem ag_7 : tyAgg Tryz.prog 7 = some true := by kernel_rfl
theorem by_7 : tyBytes Tryz.prog 7 = some 24 := by kernel_rfl
theorem ze_7 : zeroOf Tryz.prog 7 = some (.agg #[.int .i64 0, .int .i64 0, .bool false, .int .u8 0]) := by kernel_rfl
theorem fo_7_0 : fieldOff Tryz.prog 7 0 = some 0 := by kernel_rfl
theorem fo_7_1 : fieldOff Tryz.prog 7 1 = some 1 := by kernel_rfl
theorem fo_7_2 : fieldOff Tryz.prog 7 2 = some 2 := by kernel_rfl
theorem fo_7_3 : fieldOff Tryz.prog 7 3 = some 3 := by kernel_rfl
theorem pl_7 : structPlaces Tryz.prog 7 = some #[(0, 1), (1, 1), (2, 1), (3, 1)] := by kernel_rfl
theorem bl_7 (ps : List (Nat × PV)) : evBuild Tryz.prog 7 ps = (fillP (plF [(0, 1), (1, 1), (2, 1), (3, 1)]) [.val (.int .i64 0), .val (.int .i64 0), .val (.bool false), .val (.int .u8 0)] ps).map .agg := bl_of ze_7 rfl pl_7 ps
theorem oz_7 : ofVal (.agg #[.int .i64 0, .int .i64 0, .bool false, .int .u8 0]) = .agg [.val (.int .i64 0), .val (.int .i64 0), .val (.bool false), .val (.int .u8 0)] := rfl
theorem ea_7 {Γ : Ctx} (s : AS) (ρ : Operand → PV) : evEff Tryz.prog Γ s ρ (.alloc 7) = some (.own s.nx 4 0 0, upd s.ob s.nx (some (7, 4, [.agg [.val (.int .i64 0), .val (.int .i64 0), .val (.bool false), .val (.int .u8 0)]])), s.nx + 1) := ea_of ze_7 (by kernel_rfl) rfl rfl s ρ
theorem bz_7 {Γ : Ctx} {ob : Objs} {ρ : Operand → PV} {ty : Nat} : evVal Tryz.prog Γ ob ρ ty (.build 7 #[]) = some (.agg [.val (.int .i64 0), .val (.int .i64 0), .val (.bool false), .val (.int .u8 0)]) := (show evBuild Tryz.prog 7 [] = some (.agg [.val (.int .i64 0), .val (.int .i64 0), .val (.bool false), .val (.int .u8 0)]) from by kernel_rfl)
theorem bs_7 : isByteSlice Tryz.prog 7 = false := by kernel_rfl
theorem is_7 : isStr Tryz.prog 7 = false := by kernel_rfl
theorem sz_9 : tySize Tryz.prog 9 = some 1 := by kernel_rfl
theorem ag_9 : tyAgg Tryz.prog 9 = some false := by kernel_rfl
theorem by_9 : tyBytes Tryz.prog 9 = some 16 := by kernel_rfl
theorem ze_9 : zeroOf Tryz.prog 9 = some (.string ByteArray.empty) := by kernel_rfl
theorem un_9 : Tryz.prog.underlying 9 = some .string := by kernel_rfl
theorem lps_9 {ty : Nat} {s : ByteArray} : lenP Tryz.prog 9 ty (.val (.string s)) = some (.val (.int .i64 s.size)) := lp_str un_9
theorem ixs_9 {s : ByteArray} {i : Int} (h0 : 0 ≤ i) (h1 : i < s.size) : idxP Tryz.prog 9 (some (.string s)) (some (.int .i64 i)) = some (.val (.int .u8 (at8 s i.toNat))) := ix_str un_9 h0 h1
theorem oz_9 : ofVal (.string ByteArray.empty) = .val (.string ByteArray.empty) := rfl
theorem ea_9 {Γ : Ctx} (s : AS) (ρ : Operand → PV) : evEff Tryz.prog Γ s ρ (.alloc 9) = some (.own s.nx 1 0 0, upd s.ob s.nx (some (9, 1, [.val (.string ByteArray.empty)])), s.nx + 1) := ea_of ze_9 (by kernel_rfl) rfl rfl s ρ
theorem bs_9 : isByteSlice Tryz.prog 9 = false := by kernel_rfl
theorem is_9 : isStr Tryz.prog 9 = true := by kernel_rfl
theorem sz_12 : tySize Tryz.prog 12 = some 1 := by kernel_rfl
theorem ag_12 : tyAgg Tryz.prog 12 = some false := by kernel_rfl
theorem by_12 : tyBytes Tryz.prog 12 = some 8 := by kernel_rfl
theorem ze_12 : zeroOf Tryz.prog 12 = some (.int .u64 0) := by kernel_rfl
theorem un_12 : Tryz.prog.underlying 12 = some (.int .u64) := by kernel_rfl
theorem oz_12 : ofVal (.int .u64 0) = .val (.int .u64 0) := rfl
theorem ea_12 {Γ : Ctx} (s : AS) (ρ : Operand → PV) : evEff Tryz.prog Γ s ρ (.alloc 12) = some (.own s.nx 1 0 0, upd s.ob s.nx (some (12, 1, [.val (.int .u64 0)])), s.nx + 1) := ea_of ze_12 (by kernel_rfl) rfl rfl s ρ
theorem bs_12 : isByteSlice Tryz.prog 12 = false := by kernel_rfl
theorem is_12 : isStr Tryz.prog 12 = false := by kernel_rfl
theorem sz_13 : tySize Tryz.prog 13 = some 2 := by kernel_rfl
theorem ag_13 : tyAgg Tryz.prog 13 = some true := by kernel_rfl
theorem by_13 : tyBytes Tryz.prog 13 = some 24 := by kernel_rfl
theorem ze_13 : zeroOf Tryz.prog 13 = some (.agg #[.string ByteArray.empty, .int .u64 0]) := by kernel_rfl
theorem fo_13_0 : fieldOff Tryz.prog 13 0 = some 0 := by kernel_rfl
theorem fo_13_1 : fieldOff Tryz.prog 13 1 = some 1 := by kernel_rfl
theorem pl_13 : structPlaces Tryz.prog 13 = some #[(0, 1), (1, 1)] := by kernel_rfl
theorem bl_13 (ps : List (Nat × PV)) : evBuild Tryz.prog 13 ps = (fillP (plF [(0, 1), (1, 1)]) [.val (.string ByteArray.empty), .val (.int .u64 0)] ps).map .agg := bl_of ze_13 rfl pl_13 ps
theorem oz_13 : ofVal (.agg #[.string ByteArray.empty, .int .u64 0]) = .agg [.val (.string ByteArray.empty), .val (.int .u64 0)] := rfl
theorem ea_13 {Γ : Ctx} (s : AS) (ρ : Operand → PV) : evEff Tryz.prog Γ s ρ (.alloc 13) = some (.own s.nx 2 0 0, upd s.ob s.nx (some (13, 2, [.agg [.val (.string ByteArray.empty), .val (.int .u64 0)]])), s.nx + 1) := ea_of ze_13 (by kernel_rfl) rfl rfl s ρ
theorem bz_13 {Γ : Ctx} {ob : Objs} {ρ : Operand → PV} {ty : Nat} : evVal Tryz.prog Γ ob ρ ty (.build 13 #[]) = some (.agg [.val (.string ByteArray.empty), .val (.int .u64 0)]) := (show evBuild Tryz.prog 13 [] = some (.agg [.val (.string ByteArray.empty), .val (.int .u64 0)]) from by kernel_rfl)
theorem bs_13 : isByteSlice Tryz.prog 13 = false := by kernel_rfl
theorem is_13 : isStr Tryz.prog 13 = false := by kernel_rfl
theorem sz_21 : tySize Tryz.prog 21 = some 1 := by kernel_rfl
theorem ag_21 : tyAgg Tryz.prog 21 = some false := by kernel_rfl
theorem by_21 : tyBytes Tryz.prog 21 = some 4 := by kernel_rfl
theorem ze_21 : zeroOf Tryz.prog 21 = some (.int .i32 0) := by kernel_rfl
theorem un_21 : Tryz.prog.underlying 21 = some (.int .i32) := by kernel_rfl
theorem oz_21 : ofVal (.int .i32 0) = .val (.int .i32 0) := rfl
theorem ea_21 {Γ : Ctx} (s : AS) (ρ : Operand → PV) : evEff Tryz.prog Γ s ρ (.alloc 21) = some (.own s.nx 1 0 0, upd s.ob s.nx (some (21, 1, [.val (.int .i32 0)])), s.nx + 1) := ea_of ze_21 (by kernel_rfl) rfl rfl s ρ
theorem bs_21 : isByteSlice Tryz.prog 21 = false := by kernel_rfl
theorem is_21 : isStr Tryz.prog 21 = false := by kernel_rfl
theorem sz_39 : tySize Tryz.prog 39 = some 5 := by kernel_rfl
theorem ag_39 : tyAgg Tryz.prog 39 = some true := by kernel_rfl
theorem by_39 : tyBytes Tryz.prog 39 = some 72 := by kernel_rfl
theorem ze_39 : zeroOf Tryz.prog 39 = some (.agg #[.slice none 0 0, .slice none 0 0, .int .i64 0, .int .i64 0, .int .i64 0]) := by kernel_rfl
theorem fo_39_0 : fieldOff Tryz.prog 39 0 = some 0 := by kernel_rfl
theorem fo_39_1 : fieldOff Tryz.prog 39 1 = some 1 := by kernel_rfl
theorem fo_39_2 : fieldOff Tryz.prog 39 2 = some 2 := by kernel_rfl
theorem fo_39_3 : fieldOff Tryz.prog 39 3 = some 3 := by kernel_rfl
theorem fo_39_4 : fieldOff Tryz.prog 39 4 = some 4 := by kernel_rfl
theorem pl_39 : structPlaces Tryz.prog 39 = some #[(0, 1), (1, 1), (2, 1), (3, 1), (4, 1)] := by kernel_rfl
theorem bl_39 (ps : List (Nat × PV)) : evBuild Tryz.prog 39 ps = (fillP (plF [(0, 1), (1, 1), (2, 1), (3, 1), (4, 1)]) [.val (.slice none 0 0), .val (.slice none 0 0), .val (.int .i64 0), .val (.int .i64 0), .val (.int .i64 0)] ps).map .agg := bl_of ze_39 rfl pl_39 ps
theorem oz_39 : ofVal (.agg #[.slice none 0 0, .slice none 0 0, .int .i64 0, .int .i64 0, .int .i64 0]) = .agg [.val (.slice none 0 0), .val (.slice none 0 0), .val (.int .i64 0), .val (.int .i64 0), .val (.int .i64 0)] := rfl
theorem ea_39 {Γ : Ctx} (s : AS) (ρ : Operand → PV) : evEff Tryz.prog Γ s ρ (.alloc 39) = some (.own s.nx 5 0 0, upd s.ob s.nx (some (39, 5, [.agg [.val (.slice none 0 0), .val (.slice none 0 0), .val (.int .i64 0), .val (.int .i64 0), .val (.int .i64 0)]])), s.nx + 1) := ea_of ze_39 (by kernel_rfl) rfl rfl s ρ
theorem bz_39 {Γ : Ctx} {ob : Objs} {ρ : Operand → PV} {ty : Nat} : evVal Tryz.prog Γ ob ρ ty (.build 39 #[]) = some (.agg [.val (.slice none 0 0), .val (.slice none 0 0), .val (.int .i64 0), .val (.int .i64 0), .val (.int .i64 0)]) := (show evBuild Tryz.prog 39 [] = some (.agg [.val (.slice none 0 0), .val (.slice none 0 0), .val (.int .i64 0), .val (.int .i64 0), .val (.int .i64 0)]) from by kernel_rfl)
theorem bs_39 : isByteSlice Tryz.prog 39 = false := by kernel_rfl
theorem is_39 : isStr Tryz.prog 39 = false := by kernel_rfl
theorem sz_40 : tySize Tryz.prog 40 = some 5 := by kernel_rfl
theorem ag_40 : tyAgg Tryz.prog 40 = some true := by kernel_rfl
theorem by_40 : tyBytes Tryz.prog 40 = some 72 := by kernel_rfl
theorem ze_40 : zeroOf Tryz.prog 40 = some (.agg #[.slice none 0 0, .slice none 0 0, .int .i64 0, .int .i64 0, .int .i64 0]) := by kernel_rfl
theorem fo_40_0 : fieldOff Tryz.prog 40 0 = some 0 := by kernel_rfl
theorem fo_40_1 : fieldOff Tryz.prog 40 1 = some 1 := by kernel_rfl
theorem fo_40_2 : fieldOff Tryz.prog 40 2 = some 2 := by kernel_rfl
theorem fo_40_3 : fieldOff Tryz.prog 40 3 = some 3 := by kernel_rfl
theorem fo_40_4 : fieldOff Tryz.prog 40 4 = some 4 := by kernel_rfl
theorem pl_40 : structPlaces Tryz.prog 40 = some #[(0, 1), (1, 1), (2, 1), (3, 1), (4, 1)] := by kernel_rfl
theorem bl_40 (ps : List (Nat × PV)) : evBuild Tryz.prog 40 ps = (fillP (plF [(0, 1), (1, 1), (2, 1), (3, 1), (4, 1)]) [.val (.slice none 0 0), .val (.slice none 0 0), .val (.int .i64 0), .val (.int .i64 0), .val (.int .i64 0)] ps).map .agg := bl_of ze_40 rfl pl_40 ps
theorem oz_40 : ofVal (.agg #[.slice none 0 0, .slice none 0 0, .int .i64 0, .int .i64 0, .int .i64 0]) = .agg [.val (.slice none 0 0), .val (.slice none 0 0), .val (.int .i64 0), .val (.int .i64 0), .val (.int .i64 0)] := rfl
theorem ea_40 {Γ : Ctx} (s : AS) (ρ : Operand → PV) : evEff Tryz.prog Γ s ρ (.alloc 40) = some (.own s.nx 5 0 0, upd s.ob s.nx (some (40, 5, [.agg [.val (.slice none 0 0), .val (.slice none 0 0), .val (.int .i64 0), .val (.int .i64 0), .val (.int .i64 0)]])), s.nx + 1) := ea_of ze_40 (by kernel_rfl) rfl rfl s ρ
theorem bz_40 {Γ : Ctx} {ob : Objs} {ρ : Operand → PV} {ty : Nat} : evVal Tryz.prog Γ ob ρ ty (.build 40 #[]) = some (.agg [.val (.slice none 0 0), .val (.slice none 0 0), .val (.int .i64 0), .val (.int .i64 0), .val (.int .i64 0)]) := (show evBuild Tryz.prog 40 [] = some (.agg [.val (.slice none 0 0), .val (.slice none 0 0), .val (.int .i64 0), .val (.int .i64 0), .val (.int .i64 0)]) from by kernel_rfl)
theorem bs_40 : isByteSlice Tryz.prog 40 = false := by kernel_rfl
theorem is_40 : isStr Tryz.prog 40 = false := by kernel_rfl
theorem sz_53 : tySize Tryz.prog 53 = some 4 := by kernel_rfl
theorem ag_53 : tyAgg Tryz.prog 53 = some true := by kernel_rfl
theorem by_53 : tyBytes Tryz.prog 53 = some 32 := by kernel_rfl
theorem ze_53 : zeroOf Tryz.prog 53 = some (.agg #[.int .i64 0, .int .i64 0, .int .i64 0, .int .i64 0]) := by kernel_rfl
theorem fo_53_0 : fieldOff Tryz.prog 53 0 = some 0 := by kernel_rfl
theorem fo_53_1 : fieldOff Tryz.prog 53 1 = some 1 := by kernel_rfl
theorem fo_53_2 : fieldOff Tryz.prog 53 2 = some 2 := by kernel_rfl
theorem fo_53_3 : fieldOff Tryz.prog 53 3 = some 3 := by kernel_rfl
theorem pl_53 : structPlaces Tryz.prog 53 = some #[(0, 1), (1, 1), (2, 1), (3, 1)] := by kernel_rfl
theorem bl_53 (ps : List (Nat × PV)) : evBuild Tryz.prog 53 ps = (fillP (plF [(0, 1), (1, 1), (2, 1), (3, 1)]) [.val (.int .i64 0), .val (.int .i64 0), .val (.int .i64 0), .val (.int .i64 0)] ps).map .agg := bl_of ze_53 rfl pl_53 ps
theorem oz_53 : ofVal (.agg #[.int .i64 0, .int .i64 0, .int .i64 0, .int .i64 0]) = .agg [.val (.int .i64 0), .val (.int .i64 0), .val (.int .i64 0), .val (.int .i64 0)] := rfl
theorem ea_53 {Γ : Ctx} (s : AS) (ρ : Operand → PV) : evEff Tryz.prog Γ s ρ (.alloc 53) = some (.own s.nx 4 0 0, upd s.ob s.nx (some (53, 4, [.agg [.val (.int .i64 0), .val (.int .i64 0), .val (.int .i64 0), .val (.int .i64 0)]])), s.nx + 1) := ea_of ze_53 (by kernel_rfl) rfl rfl s ρ
theorem bz_53 {Γ : Ctx} {ob : Objs} {ρ : Operand → PV} {ty : Nat} : evVal Tryz.prog Γ ob ρ ty (.build 53 #[]) = some (.agg [.val (.int .i64 0), .val (.int .i64 0), .val (.int .i64 0), .val (.int .i64 0)]) := (show evBuild Tryz.prog 53 [] = some (.agg [.val (.int .i64 0), .val (.int .i64 0), .val (.int .i64 0), .val (.int .i64 0)]) from by kernel_rfl)
theorem bs_53 : isByteSlice Tryz.prog 53 = false := by kernel_rfl
theorem is_53 : isStr Tryz.prog 53 = false := by kernel_rfl
theorem sz_54 : tySize Tryz.prog 54 = some 4 := by kernel_rfl
theorem ag_54 : tyAgg Tryz.prog 54 = some true := by kernel_rfl
theorem by_54 : tyBytes Tryz.prog 54 = some 32 := by kernel_rfl
theorem ze_54 : zeroOf Tryz.prog 54 = some (.agg #[.int .i64 0, .int .i64 0, .int .i64 0, .int .i64 0]) := by kernel_rfl
theorem fo_54_0 : fieldOff Tryz.prog 54 0 = some 0 := by kernel_rfl
theorem fo_54_1 : fieldOff Tryz.prog 54 1 = some 1 := by kernel_rfl
theorem fo_54_2 : fieldOff Tryz.prog 54 2 = some 2 := by kernel_rfl
theorem fo_54_3 : fieldOff Tryz.prog 54 3 = some 3 := by kernel_rfl
theorem pl_54 : structPlaces Tryz.prog 54 = some #[(0, 1), (1, 1), (2, 1), (3, 1)] := by kernel_rfl
theorem bl_54 (ps : List (Nat × PV)) : evBuild Tryz.prog 54 ps = (fillP (plF [(0, 1), (1, 1), (2, 1), (3, 1)]) [.val (.int .i64 0), .val (.int .i64 0), .val (.int .i64 0), .val (.int .i64 0)] ps).map .agg := bl_of ze_54 rfl pl_54 ps
theorem oz_54 : ofVal (.agg #[.int .i64 0, .int .i64 0, .int .i64 0, .int .i64 0]) = .agg [.val (.int .i64 0), .val (.int .i64 0), .val (.int .i64 0), .val (.int .i64 0)] := rfl
theorem ea_54 {Γ : Ctx} (s : AS) (ρ : Operand → PV) : evEff Tryz.prog Γ s ρ (.alloc 54) = some (.own s.nx 4 0 0, upd s.ob s.nx (some (54, 4, [.agg [.val (.int .i64 0), .val (.int .i64 0), .val (.int .i64 0), .val (.int .i64 0)]])), s.nx + 1) := ea_of ze_54 (by kernel_rfl) rfl rfl s ρ
theorem bz_54 {Γ : Ctx} {ob : Objs} {ρ : Operand → PV} {ty : Nat} : evVal Tryz.prog Γ ob ρ ty (.build 54 #[]) = some (.agg [.val (.int .i64 0), .val (.int .i64 0), .val (.int .i64 0), .val (.int .i64 0)]) := (show evBuild Tryz.prog 54 [] = some (.agg [.val (.int .i64 0), .val (.int .i64 0), .val (.int .i64 0), .val (.int .i64 0)]) from by kernel_rfl)
theorem fd_54 : Tryz.prog.underlying 54 = some (.struct (Go.Program.fieldsOf Tryz.prog 54)) := by kernel_rfl
theorem ef_54 {a0 b0 : Int} {a1 b1 : Int} {a2 b2 : Int} {a3 b3 : Int} : eqFl Tryz.prog [.int .i64 a0, .int .i64 a1, .int .i64 a2, .int .i64 a3] [.int .i64 b0, .int .i64 b1, .int .i64 b2, .int .i64 b3] (Go.Program.fieldsOf Tryz.prog 54).toList = some ((a0 == b0) && ((a1 == b1) && ((a2 == b2) && ((a3 == b3) && true)))) := by kernel_rfl
theorem sqeql_54 {x y : Operand} {a0 b0 : Int} {a1 b1 : Int} {a2 b2 : Int} {a3 b3 : Int} : binP Tryz.prog .eql 54 x y (some (.agg #[.int .i64 a0, .int .i64 a1, .int .i64 a2, .int .i64 a3])) (some (.agg #[.int .i64 b0, .int .i64 b1, .int .i64 b2, .int .i64 b3])) = some (.val (.bool ((a0 == b0) && ((a1 == b1) && ((a2 == b2) && ((a3 == b3) && true)))))) := bp_eqlA fd_54 (by kernel_rfl) (by kernel_rfl) ef_54
theorem sqneq_54 {x y : Operand} {a0 b0 : Int} {a1 b1 : Int} {a2 b2 : Int} {a3 b3 : Int} : binP Tryz.prog .neq 54 x y (some (.agg #[.int .i64 a0, .int .i64 a1, .int .i64 a2, .int .i64 a3])) (some (.agg #[.int .i64 b0, .int .i64 b1, .int .i64 b2, .int .i64 b3])) = some (.val (.bool (!((a0 == b0) && ((a1 == b1) && ((a2 == b2) && ((a3 == b3) && true))))))) := bp_neqA fd_54 (by kernel_rfl) (by kernel_rfl) ef_54
theorem bs_54 : isByteSlice Tryz.prog 54 = false := by kernel_rfl
theorem is_54 : isStr Tryz.prog 54 = false := by kernel_rfl
theorem sz_55 : tySize Tryz.prog 55 = some 7 := by kernel_rfl
theorem ag_55 : tyAgg Tryz.prog 55 = some true := by kernel_rfl
theorem by_55 : tyBytes Tryz.prog 55 = some 56 := by kernel_rfl
theorem ze_55 : zeroOf Tryz.prog 55 = some (.agg #[.int .i64 0, .int .i64 0, .int .i64 0, .int .i64 0, .int .i64 0, .int .i64 0, .bool false]) := by kernel_rfl
theorem fo_55_0 : fieldOff Tryz.prog 55 0 = some 0 := by kernel_rfl
theorem fo_55_1 : fieldOff Tryz.prog 55 1 = some 1 := by kernel_rfl
theorem fo_55_2 : fieldOff Tryz.prog 55 2 = some 5 := by kernel_rfl
theorem fo_55_3 : fieldOff Tryz.prog 55 3 = some 6 := by kernel_rfl
theorem pl_55 : structPlaces Tryz.prog 55 = some #[(0, 1), (1, 4), (5, 1), (6, 1)] := by kernel_rfl
theorem bl_55 (ps : List (Nat × PV)) : evBuild Tryz.prog 55 ps = (fillP (plF [(0, 1), (1, 4), (5, 1), (6, 1)]) [.val (.int .i64 0), .val (.int .i64 0), .val (.int .i64 0), .val (.int .i64 0), .val (.int .i64 0), .val (.int .i64 0), .val (.bool false)] ps).map .agg := bl_of ze_55 rfl pl_55 ps
theorem oz_55 : ofVal (.agg #[.int .i64 0, .int .i64 0, .int .i64 0, .int .i64 0, .int .i64 0, .int .i64 0, .bool false]) = .agg [.val (.int .i64 0), .val (.int .i64 0), .val (.int .i64 0), .val (.int .i64 0), .val (.int .i64 0), .val (.int .i64 0), .val (.bool false)] := rfl
theorem ea_55 {Γ : Ctx} (s : AS) (ρ : Operand → PV) : evEff Tryz.prog Γ s ρ (.alloc 55) = some (.own s.nx 7 0 0, upd s.ob s.nx (some (55, 7, [.agg [.val (.int .i64 0), .val (.int .i64 0), .val (.int .i64 0), .val (.int .i64 0), .val (.int .i64 0), .val (.int .i64 0), .val (.bool false)]])), s.nx + 1) := ea_of ze_55 (by kernel_rfl) rfl rfl s ρ
theorem bz_55 {Γ : Ctx} {ob : Objs} {ρ : Operand → PV} {ty : Nat} : evVal Tryz.prog Γ ob ρ ty (.build 55 #[]) = some (.agg [.val (.int .i64 0), .val (.int .i64 0), .val (.int .i64 0), .val (.int .i64 0), .val (.int .i64 0), .val (.int .i64 0), .val (.bool false)]) := (show evBuild Tryz.prog 55 [] = some (.agg [.val (.int .i64 0), .val (.int .i64 0), .val (.int .i64 0), .val (.int .i64 0), .val (.int .i64 0), .val (.int .i64 0), .val (.bool false)]) from by kernel_rfl)
theorem bs_55 : isByteSlice Tryz.prog 55 = false := by kernel_rfl
theorem is_55 : isStr Tryz.prog 55 = false := by kernel_rfl
theorem sz_56 : tySize Tryz.prog 56 = some 7 := by kernel_rfl
theorem ag_56 : tyAgg Tryz.prog 56 = some true := by kernel_rfl
theorem by_56 : tyBytes Tryz.prog 56 = some 56 := by kernel_rfl
theorem ze_56 : zeroOf Tryz.prog 56 = some (.agg #[.int .i64 0, .int .i64 0, .int .i64 0, .int .i64 0, .int .i64 0, .int .i64 0, .bool false]) := by kernel_rfl
theorem fo_56_0 : fieldOff Tryz.prog 56 0 = some 0 := by kernel_rfl
theorem fo_56_1 : fieldOff Tryz.prog 56 1 = some 1 := by kernel_rfl
theorem fo_56_2 : fieldOff Tryz.prog 56 2 = some 5 := by kernel_rfl
theorem fo_56_3 : fieldOff Tryz.prog 56 3 = some 6 := by kernel_rfl
theorem pl_56 : structPlaces Tryz.prog 56 = some #[(0, 1), (1, 4), (5, 1), (6, 1)] := by kernel_rfl
theorem bl_56 (ps : List (Nat × PV)) : evBuild Tryz.prog 56 ps = (fillP (plF [(0, 1), (1, 4), (5, 1), (6, 1)]) [.val (.int .i64 0), .val (.int .i64 0), .val (.int .i64 0), .val (.int .i64 0), .val (.int .i64 0), .val (.int .i64 0), .val (.bool false)] ps).map .agg := bl_of ze_56 rfl pl_56 ps
theorem oz_56 : ofVal (.agg #[.int .i64 0, .int .i64 0, .int .i64 0, .int .i64 0, .int .i64 0, .int .i64 0, .bool false]) = .agg [.val (.int .i64 0), .val (.int .i64 0), .val (.int .i64 0), .val (.int .i64 0), .val (.int .i64 0), .val (.int .i64 0), .val (.bool false)] := rfl
theorem ea_56 {Γ : Ctx} (s : AS) (ρ : Operand → PV) : evEff Tryz.prog Γ s ρ (.alloc 56) = some (.own s.nx 7 0 0, upd s.ob s.nx (some (56, 7, [.agg [.val (.int .i64 0), .val (.int .i64 0), .val (.int .i64 0), .val (.int .i64 0), .val (.int .i64 0), .val (.int .i64 0), .val (.bool false)]])), s.nx + 1) := ea_of ze_56 (by kernel_rfl) rfl rfl s ρ
theorem bz_56 {Γ : Ctx} {ob : Objs} {ρ : Operand → PV} {ty : Nat} : evVal Tryz.prog Γ ob ρ ty (.build 56 #[]) = some (.agg [.val (.int .i64 0), .val (.int .i64 0), .val (.int .i64 0), .val (.int .i64 0), .val (.int .i64 0), .val (.int .i64 0), .val (.bool false)]) := (show evBuild Tryz.prog 56 [] = some (.agg [.val (.int .i64 0), .val (.int .i64 0), .val (.int .i64 0), .val (.int .i64 0), .val (.int .i64 0), .val (.int .i64 0), .val (.bool false)]) from by kernel_rfl)
theorem bs_56 : isByteSlice Tryz.prog 56 = false := by kernel_rfl
theorem is_56 : isStr Tryz.prog 56 = false := by kernel_rfl
theorem sz_65 : tySize Tryz.prog 65 = some 3 := by kernel_rfl
theorem ag_65 : tyAgg Tryz.prog 65 = some true := by kernel_rfl
theorem by_65 : tyBytes Tryz.prog 65 = some 24 := by kernel_rfl
theorem ze_65 : zeroOf Tryz.prog 65 = some (.agg #[.int .i64 0, .bool false, .int .i64 0]) := by kernel_rfl
theorem fo_65_0 : fieldOff Tryz.prog 65 0 = some 0 := by kernel_rfl
theorem fo_65_1 : fieldOff Tryz.prog 65 1 = some 1 := by kernel_rfl
theorem fo_65_2 : fieldOff Tryz.prog 65 2 = some 2 := by kernel_rfl
theorem pl_65 : structPlaces Tryz.prog 65 = some #[(0, 1), (1, 1), (2, 1)] := by kernel_rfl
theorem bl_65 (ps : List (Nat × PV)) : evBuild Tryz.prog 65 ps = (fillP (plF [(0, 1), (1, 1), (2, 1)]) [.val (.int .i64 0), .val (.bool false), .val (.int .i64 0)] ps).map .agg := bl_of ze_65 rfl pl_65 ps
theorem oz_65 : ofVal (.agg #[.int .i64 0, .bool false, .int .i64 0]) = .agg [.val (.int .i64 0), .val (.bool false), .val (.int .i64 0)] := rfl
theorem ea_65 {Γ : Ctx} (s : AS) (ρ : Operand → PV) : evEff Tryz.prog Γ s ρ (.alloc 65) = some (.own s.nx 3 0 0, upd s.ob s.nx (some (65, 3, [.agg [.val (.int .i64 0), .val (.bool false), .val (.int .i64 0)]])), s.nx + 1) := ea_of ze_65 (by kernel_rfl) rfl rfl s ρ
theorem bz_65 {Γ : Ctx} {ob : Objs} {ρ : Operand → PV} {ty : Nat} : evVal Tryz.prog Γ ob ρ ty (.build 65 #[]) = some (.agg [.val (.int .i64 0), .val (.bool false), .val (.int .i64 0)]) := (show evBuild Tryz.prog 65 [] = some (.agg [.val (.int .i64 0), .val (.bool false), .val (.int .i64 0)]) from by kernel_rfl)
theorem fd_65 : Tryz.prog.underlying 65 = some (.struct (Go.Program.fieldsOf Tryz.prog 65)) := by kernel_rfl
theorem ef_65 {a0 b0 : Int} {a1 b1 : Bool} {a2 b2 : Int} : eqFl Tryz.prog [.int .i64 a0, .bool a1, .int .i64 a2] [.int .i64 b0, .bool b1, .int .i64 b2] (Go.Program.fieldsOf Tryz.prog 65).toList = some ((a0 == b0) && ((a1 == b1) && ((a2 == b2) && true))) := by kernel_rfl
theorem sqeql_65 {x y : Operand} {a0 b0 : Int} {a1 b1 : Bool} {a2 b2 : Int} : binP Tryz.prog .eql 65 x y (some (.agg #[.int .i64 a0, .bool a1, .int .i64 a2])) (some (.agg #[.int .i64 b0, .bool b1, .int .i64 b2])) = some (.val (.bool ((a0 == b0) && ((a1 == b1) && ((a2 == b2) && true))))) := bp_eqlA fd_65 (by kernel_rfl) (by kernel_rfl) ef_65
theorem sqneq_65 {x y : Operand} {a0 b0 : Int} {a1 b1 : Bool} {a2 b2 : Int} : binP Tryz.prog .neq 65 x y (some (.agg #[.int .i64 a0, .bool a1, .int .i64 a2])) (some (.agg #[.int .i64 b0, .bool b1, .int .i64 b2])) = some (.val (.bool (!((a0 == b0) && ((a1 == b1) && ((a2 == b2) && true)))))) := bp_neqA fd_65 (by kernel_rfl) (by kernel_rfl) ef_65
theorem bs_65 : isByteSlice Tryz.prog 65 = false := by kernel_rfl
theorem is_65 : isStr Tryz.prog 65 = false := by kernel_rfl
theorem sz_66 : tySize Tryz.prog 66 = some 3 := by kernel_rfl
theorem ag_66 : tyAgg Tryz.prog 66 = some true := by kernel_rfl
theorem by_66 : tyBytes Tryz.prog 66 = some 24 := by kernel_rfl
theorem ze_66 : zeroOf Tryz.prog 66 = some (.agg #[.int .i64 0, .bool false, .int .i64 0]) := by kernel_rfl
theorem fo_66_0 : fieldOff Tryz.prog 66 0 = some 0 := by kernel_rfl
theorem fo_66_1 : fieldOff Tryz.prog 66 1 = some 1 := by kernel_rfl
theorem fo_66_2 : fieldOff Tryz.prog 66 2 = some 2 := by kernel_rfl
theorem pl_66 : structPlaces Tryz.prog 66 = some #[(0, 1), (1, 1), (2, 1)] := by kernel_rfl
theorem bl_66 (ps : List (Nat × PV)) : evBuild Tryz.prog 66 ps = (fillP (plF [(0, 1), (1, 1), (2, 1)]) [.val (.int .i64 0), .val (.bool false), .val (.int .i64 0)] ps).map .agg := bl_of ze_66 rfl pl_66 ps
theorem oz_66 : ofVal (.agg #[.int .i64 0, .bool false, .int .i64 0]) = .agg [.val (.int .i64 0), .val (.bool false), .val (.int .i64 0)] := rfl
theorem ea_66 {Γ : Ctx} (s : AS) (ρ : Operand → PV) : evEff Tryz.prog Γ s ρ (.alloc 66) = some (.own s.nx 3 0 0, upd s.ob s.nx (some (66, 3, [.agg [.val (.int .i64 0), .val (.bool false), .val (.int .i64 0)]])), s.nx + 1) := ea_of ze_66 (by kernel_rfl) rfl rfl s ρ
theorem bz_66 {Γ : Ctx} {ob : Objs} {ρ : Operand → PV} {ty : Nat} : evVal Tryz.prog Γ ob ρ ty (.build 66 #[]) = some (.agg [.val (.int .i64 0), .val (.bool false), .val (.int .i64 0)]) := (show evBuild Tryz.prog 66 [] = some (.agg [.val (.int .i64 0), .val (.bool false), .val (.int .i64 0)]) from by kernel_rfl)
theorem fd_66 : Tryz.prog.underlying 66 = some (.struct (Go.Program.fieldsOf Tryz.prog 66)) := by kernel_rfl
theorem ef_66 {a0 b0 : Int} {a1 b1 : Bool} {a2 b2 : Int} : eqFl Tryz.prog [.int .i64 a0, .bool a1, .int .i64 a2] [.int .i64 b0, .bool b1, .int .i64 b2] (Go.Program.fieldsOf Tryz.prog 66).toList = some ((a0 == b0) && ((a1 == b1) && ((a2 == b2) && true))) := by kernel_rfl
theorem sqeql_66 {x y : Operand} {a0 b0 : Int} {a1 b1 : Bool} {a2 b2 : Int} : binP Tryz.prog .eql 66 x y (some (.agg #[.int .i64 a0, .bool a1, .int .i64 a2])) (some (.agg #[.int .i64 b0, .bool b1, .int .i64 b2])) = some (.val (.bool ((a0 == b0) && ((a1 == b1) && ((a2 == b2) && true))))) := bp_eqlA fd_66 (by kernel_rfl) (by kernel_rfl) ef_66
theorem sqneq_66 {x y : Operand} {a0 b0 : Int} {a1 b1 : Bool} {a2 b2 : Int} : binP Tryz.prog .neq 66 x y (some (.agg #[.int .i64 a0, .bool a1, .int .i64 a2])) (some (.agg #[.int .i64 b0, .bool b1, .int .i64 b2])) = some (.val (.bool (!((a0 == b0) && ((a1 == b1) && ((a2 == b2) && true)))))) := bp_neqA fd_66 (by kernel_rfl) (by kernel_rfl) ef_66
theorem bs_66 : isByteSlice Tryz.prog 66 = false := by kernel_rfl
theorem is_66 : isStr Tryz.prog 66 = false := by kernel_rfl
theorem sz_67 : tySize Tryz.prog 67 = some 4 := by kernel_rfl
theorem ag_67 : tyAgg Tryz.prog 67 = some true := by kernel_rfl
theorem by_67 : tyBytes Tryz.prog 67 = some 32 := by kernel_rfl
theorem ze_67 : zeroOf Tryz.prog 67 = some (.agg #[.int .i64 0, .int .i64 0, .bool false, .int .i64 0]) := by kernel_rfl
theorem fo_67_0 : fieldOff Tryz.prog 67 0 = some 0 := by kernel_rfl
theorem fo_67_1 : fieldOff Tryz.prog 67 1 = some 1 := by kernel_rfl
theorem pl_67 : structPlaces Tryz.prog 67 = some #[(0, 1), (1, 3)] := by kernel_rfl
theorem bl_67 (ps : List (Nat × PV)) : evBuild Tryz.prog 67 ps = (fillP (plF [(0, 1), (1, 3)]) [.val (.int .i64 0), .val (.int .i64 0), .val (.bool false), .val (.int .i64 0)] ps).map .agg := bl_of ze_67 rfl pl_67 ps
theorem oz_67 : ofVal (.agg #[.int .i64 0, .int .i64 0, .bool false, .int .i64 0]) = .agg [.val (.int .i64 0), .val (.int .i64 0), .val (.bool false), .val (.int .i64 0)] := rfl
theorem ea_67 {Γ : Ctx} (s : AS) (ρ : Operand → PV) : evEff Tryz.prog Γ s ρ (.alloc 67) = some (.own s.nx 4 0 0, upd s.ob s.nx (some (67, 4, [.agg [.val (.int .i64 0), .val (.int .i64 0), .val (.bool false), .val (.int .i64 0)]])), s.nx + 1) := ea_of ze_67 (by kernel_rfl) rfl rfl s ρ
theorem bz_67 {Γ : Ctx} {ob : Objs} {ρ : Operand → PV} {ty : Nat} : evVal Tryz.prog Γ ob ρ ty (.build 67 #[]) = some (.agg [.val (.int .i64 0), .val (.int .i64 0), .val (.bool false), .val (.int .i64 0)]) := (show evBuild Tryz.prog 67 [] = some (.agg [.val (.int .i64 0), .val (.int .i64 0), .val (.bool false), .val (.int .i64 0)]) from by kernel_rfl)
theorem bs_67 : isByteSlice Tryz.prog 67 = false := by kernel_rfl
theorem is_67 : isStr Tryz.prog 67 = false := by kernel_rfl
theorem sz_68 : tySize Tryz.prog 68 = some 4 := by kernel_rfl
theorem ag_68 : tyAgg Tryz.prog 68 = some true := by kernel_rfl
theorem by_68 : tyBytes Tryz.prog 68 = some 32 := by kernel_rfl
theorem ze_68 : zeroOf Tryz.prog 68 = some (.agg #[.int .i64 0, .int .i64 0, .bool false, .int .i64 0]) := by kernel_rfl
theorem fo_68_0 : fieldOff Tryz.prog 68 0 = some 0 := by kernel_rfl
theorem fo_68_1 : fieldOff Tryz.prog 68 1 = some 1 := by kernel_rfl
theorem pl_68 : structPlaces Tryz.prog 68 = some #[(0, 1), (1, 3)] := by kernel_rfl
theorem bl_68 (ps : List (Nat × PV)) : evBuild Tryz.prog 68 ps = (fillP (plF [(0, 1), (1, 3)]) [.val (.int .i64 0), .val (.int .i64 0), .val (.bool false), .val (.int .i64 0)] ps).map .agg := bl_of ze_68 rfl pl_68 ps
theorem oz_68 : ofVal (.agg #[.int .i64 0, .int .i64 0, .bool false, .int .i64 0]) = .agg [.val (.int .i64 0), .val (.int .i64 0), .val (.bool false), .val (.int .i64 0)] := rfl
theorem ea_68 {Γ : Ctx} (s : AS) (ρ : Operand → PV) : evEff Tryz.prog Γ s ρ (.alloc 68) = some (.own s.nx 4 0 0, upd s.ob s.nx (some (68, 4, [.agg [.val (.int .i64 0), .val (.int .i64 0), .val (.bool false), .val (.int .i64 0)]])), s.nx + 1) := ea_of ze_68 (by kernel_rfl) rfl rfl s ρ
theorem bz_68 {Γ : Ctx} {ob : Objs} {ρ : Operand → PV} {ty : Nat} : evVal Tryz.prog Γ ob ρ ty (.build 68 #[]) = some (.agg [.val (.int .i64 0), .val (.int .i64 0), .val (.bool false), .val (.int .i64 0)]) := (show evBuild Tryz.prog 68 [] = some (.agg [.val (.int .i64 0), .val (.int .i64 0), .val (.bool false), .val (.int .i64 0)]) from by kernel_rfl)
theorem bs_68 : isByteSlice Tryz.prog 68 = false := by kernel_rfl
theorem is_68 : isStr Tryz.prog 68 = false := by kernel_rfl
theorem sz_83 : tySize Tryz.prog 83 = some 2 := by kernel_rfl
theorem ag_83 : tyAgg Tryz.prog 83 = some true := by kernel_rfl
theorem by_83 : tyBytes Tryz.prog 83 = some 32 := by kernel_rfl
theorem ze_83 : zeroOf Tryz.prog 83 = some (.agg #[.slice none 0 0, .int .i64 0]) := by kernel_rfl
theorem fo_83_0 : fieldOff Tryz.prog 83 0 = some 0 := by kernel_rfl
theorem fo_83_1 : fieldOff Tryz.prog 83 1 = some 1 := by kernel_rfl
theorem pl_83 : structPlaces Tryz.prog 83 = some #[(0, 1), (1, 1)] := by kernel_rfl
theorem bl_83 (ps : List (Nat × PV)) : evBuild Tryz.prog 83 ps = (fillP (plF [(0, 1), (1, 1)]) [.val (.slice none 0 0), .val (.int .i64 0)] ps).map .agg := bl_of ze_83 rfl pl_83 ps
theorem oz_83 : ofVal (.agg #[.slice none 0 0, .int .i64 0]) = .agg [.val (.slice none 0 0), .val (.int .i64 0)] := rfl
theorem ea_83 {Γ : Ctx} (s : AS) (ρ : Operand → PV) : evEff Tryz.prog Γ s ρ (.alloc 83) = some (.own s.nx 2 0 0, upd s.ob s.nx (some (83, 2, [.agg [.val (.slice none 0 0), .val (.int .i64 0)]])), s.nx + 1) := ea_of ze_83 (by kernel_rfl) rfl rfl s ρ
theorem bz_83 {Γ : Ctx} {ob : Objs} {ρ : Operand → PV} {ty : Nat} : evVal Tryz.prog Γ ob ρ ty (.build 83 #[]) = some (.agg [.val (.slice none 0 0), .val (.int .i64 0)]) := (show evBuild Tryz.prog 83 [] = some (.agg [.val (.slice none 0 0), .val (.int .i64 0)]) from by kernel_rfl)
theorem bs_83 : isByteSlice Tryz.prog 83 = false := by kernel_rfl
theorem is_83 : isStr Tryz.prog 83 = false := by kernel_rfl
theorem sz_84 : tySize Tryz.prog 84 = some 2 := by kernel_rfl
theorem ag_84 : tyAgg Tryz.prog 84 = some true := by kernel_rfl
theorem by_84 : tyBytes Tryz.prog 84 = some 32 := by kernel_rfl
theorem ze_84 : zeroOf Tryz.prog 84 = some (.agg #[.slice none 0 0, .int .i64 0]) := by kernel_rfl
theorem fo_84_0 : fieldOff Tryz.prog 84 0 = some 0 := by kernel_rfl
theorem fo_84_1 : fieldOff Tryz.prog 84 1 = some 1 := by kernel_rfl
theorem pl_84 : structPlaces Tryz.prog 84 = some #[(0, 1), (1, 1)] := by kernel_rfl
theorem bl_84 (ps : List (Nat × PV)) : evBuild Tryz.prog 84 ps = (fillP (plF [(0, 1), (1, 1)]) [.val (.slice none 0 0), .val (.int .i64 0)] ps).map .agg := bl_of ze_84 rfl pl_84 ps
theorem oz_84 : ofVal (.agg #[.slice none 0 0, .int .i64 0]) = .agg [.val (.slice none 0 0), .val (.int .i64 0)] := rfl
theorem ea_84 {Γ : Ctx} (s : AS) (ρ : Operand → PV) : evEff Tryz.prog Γ s ρ (.alloc 84) = some (.own s.nx 2 0 0, upd s.ob s.nx (some (84, 2, [.agg [.val (.slice none 0 0), .val (.int .i64 0)]])), s.nx + 1) := ea_of ze_84 (by kernel_rfl) rfl rfl s ρ
theorem bz_84 {Γ : Ctx} {ob : Objs} {ρ : Operand → PV} {ty : Nat} : evVal Tryz.prog Γ ob ρ ty (.build 84 #[]) = some (.agg [.val (.slice none 0 0), .val (.int .i64 0)]) := (show evBuild Tryz.prog 84 [] = some (.agg [.val (.slice none 0 0), .val (.int .i64 0)]) from by kernel_rfl)
theorem bs_84 : isByteSlice Tryz.prog 84 = false := by kernel_rfl
theorem is_84 : isStr Tryz.prog 84 = false := by kernel_rfl
theorem sz_95 : tySize Tryz.prog 95 = some 4 := by kernel_rfl
theorem ag_95 : tyAgg Tryz.prog 95 = some true := by kernel_rfl
theorem by_95 : tyBytes Tryz.prog 95 = some 4 := by kernel_rfl
theorem ze_95 : zeroOf Tryz.prog 95 = some (.agg #[.bool false, .bool false, .bool false, .bool false]) := by kernel_rfl
theorem un_95 : Tryz.prog.underlying 95 = some (.array 4 4) := by kernel_rfl
theorem ixa_95 {o sz j f : Nat} {i : Int} (h0 : 0 ≤ i) (h1 : i < 4) : evIndexAddr Tryz.prog 95 (.own o sz j f) i = some (.own o sz j (f + i.toNat)) := by rw [ixa_of un_95 sz_4 h0 h1, Nat.mul_one]
theorem ixp_95 {k : Bool} {x : PV} {f : Nat} {i : Int} (h0 : 0 ≤ i) (h1 : i < 4) : evIndexAddr Tryz.prog 95 (.ptr k x f) i = some (.ptr k x (f + i.toNat)) := by rw [ixap_of un_95 sz_4 h0 h1, Nat.mul_one]
theorem bl_95 (ps : List (Nat × PV)) : evBuild Tryz.prog 95 ps = (fillP (plF [(0, 1), (1, 1), (2, 1), (3, 1)]) [.val (.bool false), .val (.bool false), .val (.bool false), .val (.bool false)] ps).map .agg := bla_of ze_95 rfl (by kernel_rfl) (pl := #[(0, 1), (1, 1), (2, 1), (3, 1)]) (by kernel_rfl) ps
theorem oz_95 : ofVal (.agg #[.bool false, .bool false, .bool false, .bool false]) = .agg [.val (.bool false), .val (.bool false), .val (.bool false), .val (.bool false)] := rfl
theorem ea_95 {Γ : Ctx} (s : AS) (ρ : Operand → PV) : evEff Tryz.prog Γ s ρ (.alloc 95) = some (.own s.nx 4 0 0, upd s.ob s.nx (some (95, 4, [.agg [.val (.bool false), .val (.bool false), .val (.bool false), .val (.bool false)]])), s.nx + 1) := ea_of ze_95 (by kernel_rfl) rfl rfl s ρ
theorem bs_95 : isByteSlice Tryz.prog 95 = false := by kernel_rfl
theorem is_95 : isStr Tryz.prog 95 = false := by kernel_rfl
theorem sz_101 : tySize Tryz.prog 101 = some 4 := by kernel_rfl
theorem ag_101 : tyAgg Tryz.prog 101 = some true := by kernel_rfl
theorem by_101 : tyBytes Tryz.prog 101 = some 32 := by kernel_rfl
theorem ze_101 : zeroOf Tryz.prog 101 = some (.agg #[.int .i64 0, .int .i64 0, .int .i64 0, .int .i64 0]) := by kernel_rfl
theorem un_101 : Tryz.prog.underlying 101 = some (.array 4 3) := by kernel_rfl
theorem ixa_101 {o sz j f : Nat} {i : Int} (h0 : 0 ≤ i) (h1 : i < 4) : evIndexAddr Tryz.prog 101 (.own o sz j f) i = some (.own o sz j (f + i.toNat)) := by rw [ixa_of un_101 sz_3 h0 h1, Nat.mul_one]
theorem ixp_101 {k : Bool} {x : PV} {f : Nat} {i : Int} (h0 : 0 ≤ i) (h1 : i < 4) : evIndexAddr Tryz.prog 101 (.ptr k x f) i = some (.ptr k x (f + i.toNat)) := by rw [ixap_of un_101 sz_3 h0 h1, Nat.mul_one]
theorem bl_101 (ps : List (Nat × PV)) : evBuild Tryz.prog 101 ps = (fillP (plF [(0, 1), (1, 1), (2, 1), (3, 1)]) [.val (.int .i64 0), .val (.int .i64 0), .val (.int .i64 0), .val (.int .i64 0)] ps).map .agg := bla_of ze_101 rfl (by kernel_rfl) (pl := #[(0, 1), (1, 1), (2, 1), (3, 1)]) (by kernel_rfl) ps
theorem oz_101 : ofVal (.agg #[.int .i64 0, .int .i64 0, .int .i64 0, .int .i64 0]) = .agg [.val (.int .i64 0), .val (.int .i64 0), .val (.int .i64 0), .val (.int .i64 0)] := rfl
theorem ea_101 {Γ : Ctx} (s : AS) (ρ : Operand → PV) : evEff Tryz.prog Γ s ρ (.alloc 101) = some (.own s.nx 4 0 0, upd s.ob s.nx (some (101, 4, [.agg [.val (.int .i64 0), .val (.int .i64 0), .val (.int .i64 0), .val (.int .i64 0)]])), s.nx + 1) := ea_of ze_101 (by kernel_rfl) rfl rfl s ρ
theorem bs_101 : isByteSlice Tryz.prog 101 = false := by kernel_rfl
theorem is_101 : isStr Tryz.prog 101 = false := by kernel_rfl
theorem sz_134 : tySize Tryz.prog 134 = some 1 := by kernel_rfl
theorem ag_134 : tyAgg Tryz.prog 134 = some false := by kernel_rfl
theorem by_134 : tyBytes Tryz.prog 134 = some 8 := by kernel_rfl
theorem ze_134 : zeroOf Tryz.prog 134 = some (.int .u64 0) := by kernel_rfl
theorem un_134 : Tryz.prog.underlying 134 = some (.int .u64) := by kernel_rfl
theorem oz_134 : ofVal (.int .u64 0) = .val (.int .u64 0) := rfl
theorem ea_134 {Γ : Ctx} (s : AS) (ρ : Operand → PV) : evEff Tryz.prog Γ s ρ (.alloc 134) = some (.own s.nx 1 0 0, upd s.ob s.nx (some (134, 1, [.val (.int .u64 0)])), s.nx + 1) := ea_of ze_134 (by kernel_rfl) rfl rfl s ρ
theorem bs_134 : isByteSlice Tryz.prog 134 = false := by kernel_rfl
theorem is_134 : isStr Tryz.prog 134 = false := by kernel_rfl
theorem sz_138 : tySize Tryz.prog 138 = some 2 := by kernel_rfl
theorem ag_138 : tyAgg Tryz.prog 138 = some true := by kernel_rfl
theorem by_138 : tyBytes Tryz.prog 138 = some 2 := by kernel_rfl
theorem ze_138 : zeroOf Tryz.prog 138 = some (.agg #[.int .u8 0, .int .u8 0]) := by kernel_rfl
theorem fo_138_0 : fieldOff Tryz.prog 138 0 = some 0 := by kernel_rfl
theorem fo_138_1 : fieldOff Tryz.prog 138 1 = some 1 := by kernel_rfl
theorem pl_138 : structPlaces Tryz.prog 138 = some #[(0, 1), (1, 1)] := by kernel_rfl
theorem bl_138 (ps : List (Nat × PV)) : evBuild Tryz.prog 138 ps = (fillP (plF [(0, 1), (1, 1)]) [.val (.int .u8 0), .val (.int .u8 0)] ps).map .agg := bl_of ze_138 rfl pl_138 ps
theorem oz_138 : ofVal (.agg #[.int .u8 0, .int .u8 0]) = .agg [.val (.int .u8 0), .val (.int .u8 0)] := rfl
theorem ea_138 {Γ : Ctx} (s : AS) (ρ : Operand → PV) : evEff Tryz.prog Γ s ρ (.alloc 138) = some (.own s.nx 2 0 0, upd s.ob s.nx (some (138, 2, [.agg [.val (.int .u8 0), .val (.int .u8 0)]])), s.nx + 1) := ea_of ze_138 (by kernel_rfl) rfl rfl s ρ
theorem bz_138 {Γ : Ctx} {ob : Objs} {ρ : Operand → PV} {ty : Nat} : evVal Tryz.prog Γ ob ρ ty (.build 138 #[]) = some (.agg [.val (.int .u8 0), .val (.int .u8 0)]) := (show evBuild Tryz.prog 138 [] = some (.agg [.val (.int .u8 0), .val (.int .u8 0)]) from by kernel_rfl)
theorem bs_138 : isByteSlice Tryz.prog 138 = false := by kernel_rfl
theorem is_138 : isStr Tryz.prog 138 = false := by kernel_rfl
theorem sz_139 : tySize Tryz.prog 139 = some 2 := by kernel_rfl
theorem ag_139 : tyAgg Tryz.prog 139 = some true := by kernel_rfl
theorem by_139 : tyBytes Tryz.prog 139 = some 2 := by kernel_rfl
theorem ze_139 : zeroOf Tryz.prog 139 = some (.agg #[.int .u8 0, .int .u8 0]) := by kernel_rfl
theorem fo_139_0 : fieldOff Tryz.prog 139 0 = some 0 := by kernel_rfl
theorem fo_139_1 : fieldOff Tryz.prog 139 1 = some 1 := by kernel_rfl
theorem pl_139 : structPlaces Tryz.prog 139 = some #[(0, 1), (1, 1)] := by kernel_rfl
theorem bl_139 (ps : List (Nat × PV)) : evBuild Tryz.prog 139 ps = (fillP (plF [(0, 1), (1, 1)]) [.val (.int .u8 0), .val (.int .u8 0)] ps).map .agg := bl_of ze_139 rfl pl_139 ps
theorem oz_139 : ofVal (.agg #[.int .u8 0, .int .u8 0]) = .agg [.val (.int .u8 0), .val (.int .u8 0)] := rfl
theorem ea_139 {Γ : Ctx} (s : AS) (ρ : Operand → PV) : evEff Tryz.prog Γ s ρ (.alloc 139) = some (.own s.nx 2 0 0, upd s.ob s.nx (some (139, 2, [.agg [.val (.int .u8 0), .val (.int .u8 0)]])), s.nx + 1) := ea_of ze_139 (by kernel_rfl) rfl rfl s ρ
theorem bz_139 {Γ : Ctx} {ob : Objs} {ρ : Operand → PV} {ty : Nat} : evVal Tryz.prog Γ ob ρ ty (.build 139 #[]) = some (.agg [.val (.int .u8 0), .val (.int .u8 0)]) := (show evBuild Tryz.prog 139 [] = some (.agg [.val (.int .u8 0), .val (.int .u8 0)]) from by kernel_rfl)
theorem bs_139 : isByteSlice Tryz.prog 139 = false := by kernel_rfl
theorem is_139 : isStr Tryz.prog 139 = false := by kernel_rfl
theorem sz_140 : tySize Tryz.prog 140 = some 32 := by kernel_rfl
theorem ag_140 : tyAgg Tryz.prog 140 = some true := by kernel_rfl
theorem by_140 : tyBytes Tryz.prog 140 = some 32 := by kernel_rfl
theorem ze_140 : zeroOf Tryz.prog 140 = some (.agg #[.int .u8 0, .int .u8 0, .int .u8 0, .int .u8 0, .int .u8 0, .int .u8 0, .int .u8 0, .int .u8 0, .int .u8 0, .int .u8 0, .int .u8 0, .int .u8 0, .int .u8 0, .int .u8 0, .int .u8 0, .int .u8 0, .int .u8 0, .int .u8 0, .int .u8 0, .int .u8 0, .int .u8 0, .int .u8 0, .int .u8 0, .int .u8 0, .int .u8 0, .int .u8 0, .int .u8 0, .int .u8 0, .int .u8 0, .int .u8 0, .int .u8 0, .int .u8 0]) := by kernel_rfl
theorem un_140 : Tryz.prog.underlying 140 = some (.array 16 139) := by kernel_rfl
theorem oz_140 : ofVal (.agg #[.int .u8 0, .int .u8 0, .int .u8 0, .int .u8 0, .int .u8 0, .int .u8 0, .int .u8 0, .int .u8 0, .int .u8 0, .int .u8 0, .int .u8 0, .int .u8 0, .int .u8 0, .int .u8 0, .int .u8 0, .int .u8 0, .int .u8 0, .int .u8 0, .int .u8 0, .int .u8 0, .int .u8 0, .int .u8 0, .int .u8 0, .int .u8 0, .int .u8 0, .int .u8 0, .int .u8 0, .int .u8 0, .int .u8 0, .int .u8 0, .int .u8 0, .int .u8 0]) = .agg [.val (.int .u8 0), .val (.int .u8 0), .val (.int .u8 0), .val (.int .u8 0), .val (.int .u8 0), .val (.int .u8 0), .val (.int .u8 0), .val (.int .u8 0), .val (.int .u8 0), .val (.int .u8 0), .val (.int .u8 0), .val (.int .u8 0), .val (.int .u8 0), .val (.int .u8 0), .val (.int .u8 0), .val (.int .u8 0), .val (.int .u8 0), .val (.int .u8 0), .val (.int .u8 0), .val (.int .u8 0), .val (.int .u8 0), .val (.int .u8 0), .val (.int .u8 0), .val (.int .u8 0), .val (.int .u8 0), .val (.int .u8 0), .val (.int .u8 0), .val (.int .u8 0), .val (.int .u8 0), .val (.int .u8 0), .val (.int .u8 0), .val (.int .u8 0)] := rfl
theorem ea_140 {Γ : Ctx} (s : AS) (ρ : Operand → PV) : evEff Tryz.prog Γ s ρ (.alloc 140) = some (.own s.nx 32 0 0, upd s.ob s.nx (some (140, 32, [.agg [.val (.int .u8 0), .val (.int .u8 0), .val (.int .u8 0), .val (.int .u8 0), .val (.int .u8 0), .val (.int .u8 0), .val (.int .u8 0), .val (.int .u8 0), .val (.int .u8 0), .val (.int .u8 0), .val (.int .u8 0), .val (.int .u8 0), .val (.int .u8 0), .val (.int .u8 0), .val (.int .u8 0), .val (.int .u8 0), .val (.int .u8 0), .val (.int .u8 0), .val (.int .u8 0), .val (.int .u8 0), .val (.int .u8 0), .val (.int .u8 0), .val (.int .u8 0), .val (.int .u8 0), .val (.int .u8 0), .val (.int .u8 0), .val (.int .u8 0), .val (.int .u8 0), .val (.int .u8 0), .val (.int .u8 0), .val (.int .u8 0), .val (.int .u8 0)]])), s.nx + 1) := ea_of ze_140 (by kernel_rfl) rfl rfl s ρ
theorem bs_140 : isByteSlice Tryz.prog 140 = false := by kernel_rfl
theorem is_140 : isStr Tryz.prog 140 = false := by kernel_rfl
theorem sz_141 : tySize Tryz.prog 141 = some 1 := by kernel_rfl
theorem ag_141 : tyAgg Tryz.prog 141 = some false := by kernel_rfl
theorem by_141 : tyBytes Tryz.prog 141 = some 4 := by kernel_rfl
theorem ze_141 : zeroOf Tryz.prog 141 = some (.int .u32 0) := by kernel_rfl
theorem un_141 : Tryz.prog.underlying 141 = some (.int .u32) := by kernel_rfl
theorem oz_141 : ofVal (.int .u32 0) = .val (.int .u32 0) := rfl
theorem ea_141 {Γ : Ctx} (s : AS) (ρ : Operand → PV) : evEff Tryz.prog Γ s ρ (.alloc 141) = some (.own s.nx 1 0 0, upd s.ob s.nx (some (141, 1, [.val (.int .u32 0)])), s.nx + 1) := ea_of ze_141 (by kernel_rfl) rfl rfl s ρ
theorem bs_141 : isByteSlice Tryz.prog 141 = false := by kernel_rfl
theorem is_141 : isStr Tryz.prog 141 = false := by kernel_rfl
theorem sz_22 : tySize Tryz.prog 22 = some 1 := by kernel_rfl
theorem ag_22 : tyAgg Tryz.prog 22 = some false := by kernel_rfl
theorem by_22 : tyBytes Tryz.prog 22 = some 24 := by kernel_rfl
theorem ze_22 : zeroOf Tryz.prog 22 = some (.slice none 0 0) := by kernel_rfl
theorem un_22 : Tryz.prog.underlying 22 = some (.slice 5) := by kernel_rfl
theorem el_22 : tyElem Tryz.prog 22 = some 5 := by kernel_rfl
theorem ix_22 {k : Bool} {es : List PV} {i : Int} (h0 : 0 ≤ i) (h1 : i < (es.length : Int)) : evIndexAddr Tryz.prog 22 (.lst k 1 es) i = some (.ptr k ((es[i.toNat]?).getD .dead) 0) := ix_lst un_22 sz_5 h0 h1
theorem ixr_22 {o j n : Nat} {i : Int} (h0 : 0 ≤ i) (h1 : i < (n : Int)) : evIndexAddr Tryz.prog 22 (.row o 1 j n) i = some (.own o 1 (j + i.toNat) 0) := ix_row un_22 sz_5 h0 h1
theorem sl_22 {k : Bool} {es : List PV} {lo hi : Option Int} (h0 : 0 ≤ lo.getD 0) (h1 : lo.getD 0 ≤ hi.getD es.length) (h2 : hi.getD es.length ≤ es.length) : evSlice Tryz.prog 22 (.lst k 1 es) lo hi = some (.lst k 1 ((es.drop (lo.getD 0).toNat).take ((hi.getD es.length).toNat - (lo.getD 0).toNat))) := sl_lst un_22 sz_5 h0 h1 h2
theorem slr_22 {o i n : Nat} {lo hi : Option Int} (h0 : 0 ≤ lo.getD 0) (h1 : lo.getD 0 < hi.getD n) (h2 : hi.getD n ≤ n) : evSlice Tryz.prog 22 (.row o 1 i n) lo hi = some (.row o 1 (i + (lo.getD 0).toNat) ((hi.getD n).toNat - (lo.getD 0).toNat)) := sl_rowlt un_22 sz_5 h0 h1 h2
theorem sle_22 {o i n : Nat} {lo hi : Option Int} (h0 : 0 ≤ lo.getD 0) (h1 : lo.getD 0 = hi.getD n) (h2 : hi.getD n ≤ n) : evSlice Tryz.prog 22 (.row o 1 i n) lo hi = some (.lst true 1 []) := sl_roweq un_22 sz_5 h0 h1 h2
theorem lpl_22 {ty sz : Nat} {k : Bool} {es : List PV} : lenP Tryz.prog 22 ty (.lst k sz es) = some (.val (.int .i64 es.length)) := lp_lst el_22
theorem lpr_22 {ty o sz i n : Nat} : lenP Tryz.prog 22 ty (.row o sz i n) = some (.val (.int .i64 n)) := lp_row el_22
theorem lpn_22 {ty : Nat} : lenP Tryz.prog 22 ty (.val (.slice none 0 0)) = some (.val (.int .i64 0)) := lp_nil un_22
theorem oz_22 : ofVal (.slice none 0 0) = .val (.slice none 0 0) := rfl
theorem ea_22 {Γ : Ctx} (s : AS) (ρ : Operand → PV) : evEff Tryz.prog Γ s ρ (.alloc 22) = some (.own s.nx 1 0 0, upd s.ob s.nx (some (22, 1, [.val (.slice none 0 0)])), s.nx + 1) := ea_of ze_22 (by kernel_rfl) rfl rfl s ρ
theorem em_22 {Γ : Ctx} (s : AS) (ρ : Operand → PV) (l c : Operand) : evEff Tryz.prog Γ s ρ (.makeSlice 22 l c) = mkEv 5 1 1 (.int .u8 0) s (ρ l) (ρ c) := em_of el_22 ze_5 sz_5 by_5 (by kernel_rfl) rfl s ρ l c
theorem eap_22 {Γ : Ctx} (s : AS) (ρ : Operand → PV) (x y : Operand) : evEff Tryz.prog Γ s ρ (.call { callee := .builtin .append, args := #[x, y], argTypes := #[22, 22] }) = apEv 5 1 1 s.nx s.ob (ρ x) (obOf s.ob (ρ x)) (sliceEs s.ob 1 (ρ y)) := eap_of el_22 ze_5 sz_5 by_5 (by decide) rfl s ρ x y
theorem ecp_22 {Γ : Ctx} (s : AS) (ρ : Operand → PV) (x y : Operand) (t' : Nat) : evEff Tryz.prog Γ s ρ (.call { callee := .builtin .copy, args := #[x, y], argTypes := #[22, t'] }) = cpX 1 s.nx s.ob (ρ x) (obOf s.ob (ρ x)) (srcEs s.ob 1 (ρ y)) := ecp_of el_22 sz_5 s ρ x y t'
theorem bs_22 : isByteSlice Tryz.prog 22 = true := by kernel_rfl
theorem is_22 : isStr Tryz.prog 22 = false := by kernel_rfl
theorem sz_23 : tySize Tryz.prog 23 = some 1 := by kernel_rfl
theorem ag_23 : tyAgg Tryz.prog 23 = some false := by kernel_rfl
theorem by_23 : tyBytes Tryz.prog 23 = some 24 := by kernel_rfl
theorem ze_23 : zeroOf Tryz.prog 23 = some (.slice none 0 0) := by kernel_rfl
theorem un_23 : Tryz.prog.underlying 23 = some (.slice 9) := by kernel_rfl
theorem el_23 : tyElem Tryz.prog 23 = some 9 := by kernel_rfl
theorem ix_23 {k : Bool} {es : List PV} {i : Int} (h0 : 0 ≤ i) (h1 : i < (es.length : Int)) : evIndexAddr Tryz.prog 23 (.lst k 1 es) i = some (.ptr k ((es[i.toNat]?).getD .dead) 0) := ix_lst un_23 sz_9 h0 h1
theorem ixr_23 {o j n : Nat} {i : Int} (h0 : 0 ≤ i) (h1 : i < (n : Int)) : evIndexAddr Tryz.prog 23 (.row o 1 j n) i = some (.own o 1 (j + i.toNat) 0) := ix_row un_23 sz_9 h0 h1
theorem sl_23 {k : Bool} {es : List PV} {lo hi : Option Int} (h0 : 0 ≤ lo.getD 0) (h1 : lo.getD 0 ≤ hi.getD es.length) (h2 : hi.getD es.length ≤ es.length) : evSlice Tryz.prog 23 (.lst k 1 es) lo hi = some (.lst k 1 ((es.drop (lo.getD 0).toNat).take ((hi.getD es.length).toNat - (lo.getD 0).toNat))) := sl_lst un_23 sz_9 h0 h1 h2
theorem slr_23 {o i n : Nat} {lo hi : Option Int} (h0 : 0 ≤ lo.getD 0) (h1 : lo.getD 0 < hi.getD n) (h2 : hi.getD n ≤ n) : evSlice Tryz.prog 23 (.row o 1 i n) lo hi = some (.row o 1 (i + (lo.getD 0).toNat) ((hi.getD n).toNat - (lo.getD 0).toNat)) := sl_rowlt un_23 sz_9 h0 h1 h2
theorem sle_23 {o i n : Nat} {lo hi : Option Int} (h0 : 0 ≤ lo.getD 0) (h1 : lo.getD 0 = hi.getD n) (h2 : hi.getD n ≤ n) : evSlice Tryz.prog 23 (.row o 1 i n) lo hi = some (.lst true 1 []) := sl_roweq un_23 sz_9 h0 h1 h2
theorem lpl_23 {ty sz : Nat} {k : Bool} {es : List PV} : lenP Tryz.prog 23 ty (.lst k sz es) = some (.val (.int .i64 es.length)) := lp_lst el_23
theorem lpr_23 {ty o sz i n : Nat} : lenP Tryz.prog 23 ty (.row o sz i n) = some (.val (.int .i64 n)) := lp_row el_23
theorem lpn_23 {ty : Nat} : lenP Tryz.prog 23 ty (.val (.slice none 0 0)) = some (.val (.int .i64 0)) := lp_nil un_23
theorem oz_23 : ofVal (.slice none 0 0) = .val (.slice none 0 0) := rfl
theorem ea_23 {Γ : Ctx} (s : AS) (ρ : Operand → PV) : evEff Tryz.prog Γ s ρ (.alloc 23) = some (.own s.nx 1 0 0, upd s.ob s.nx (some (23, 1, [.val (.slice none 0 0)])), s.nx + 1) := ea_of ze_23 (by kernel_rfl) rfl rfl s ρ
theorem em_23 {Γ : Ctx} (s : AS) (ρ : Operand → PV) (l c : Operand) : evEff Tryz.prog Γ s ρ (.makeSlice 23 l c) = mkEv 9 1 16 (.string ByteArray.empty) s (ρ l) (ρ c) := em_of el_23 ze_9 sz_9 by_9 (by kernel_rfl) rfl s ρ l c
theorem eap_23 {Γ : Ctx} (s : AS) (ρ : Operand → PV) (x y : Operand) : evEff Tryz.prog Γ s ρ (.call { callee := .builtin .append, args := #[x, y], argTypes := #[23, 23] }) = apEv 9 1 16 s.nx s.ob (ρ x) (obOf s.ob (ρ x)) (sliceEs s.ob 1 (ρ y)) := eap_of el_23 ze_9 sz_9 by_9 (by decide) rfl s ρ x y
theorem ecp_23 {Γ : Ctx} (s : AS) (ρ : Operand → PV) (x y : Operand) (t' : Nat) : evEff Tryz.prog Γ s ρ (.call { callee := .builtin .copy, args := #[x, y], argTypes := #[23, t'] }) = cpX 1 s.nx s.ob (ρ x) (obOf s.ob (ρ x)) (srcEs s.ob 1 (ρ y)) := ecp_of el_23 sz_9 s ρ x y t'
theorem bs_23 : isByteSlice Tryz.prog 23 = false := by kernel_rfl
theorem is_23 : isStr Tryz.prog 23 = false := by kernel_rfl
theorem sz_30 : tySize Tryz.prog 30 = some 1 := by kernel_rfl
theorem ag_30 : tyAgg Tryz.prog 30 = some false := by kernel_rfl
theorem by_30 : tyBytes Tryz.prog 30 = some 24 := by kernel_rfl
theorem ze_30 : zeroOf Tryz.prog 30 = some (.slice none 0 0) := by kernel_rfl
theorem un_30 : Tryz.prog.underlying 30 = some (.slice 56) := by kernel_rfl
theorem el_30 : tyElem Tryz.prog 30 = some 56 := by kernel_rfl
theorem ix_30 {k : Bool} {es : List PV} {i : Int} (h0 : 0 ≤ i) (h1 : i < (es.length : Int)) : evIndexAddr Tryz.prog 30 (.lst k 7 es) i = some (.ptr k ((es[i.toNat]?).getD .dead) 0) := ix_lst un_30 sz_56 h0 h1
theorem ixr_30 {o j n : Nat} {i : Int} (h0 : 0 ≤ i) (h1 : i < (n : Int)) : evIndexAddr Tryz.prog 30 (.row o 7 j n) i = some (.own o 7 (j + i.toNat) 0) := ix_row un_30 sz_56 h0 h1
theorem sl_30 {k : Bool} {es : List PV} {lo hi : Option Int} (h0 : 0 ≤ lo.getD 0) (h1 : lo.getD 0 ≤ hi.getD es.length) (h2 : hi.getD es.length ≤ es.length) : evSlice Tryz.prog 30 (.lst k 7 es) lo hi = some (.lst k 7 ((es.drop (lo.getD 0).toNat).take ((hi.getD es.length).toNat - (lo.getD 0).toNat))) := sl_lst un_30 sz_56 h0 h1 h2
theorem slr_30 {o i n : Nat} {lo hi : Option Int} (h0 : 0 ≤ lo.getD 0) (h1 : lo.getD 0 < hi.getD n) (h2 : hi.getD n ≤ n) : evSlice Tryz.prog 30 (.row o 7 i n) lo hi = some (.row o 7 (i + (lo.getD 0).toNat) ((hi.getD n).toNat - (lo.getD 0).toNat)) := sl_rowlt un_30 sz_56 h0 h1 h2
theorem sle_30 {o i n : Nat} {lo hi : Option Int} (h0 : 0 ≤ lo.getD 0) (h1 : lo.getD 0 = hi.getD n) (h2 : hi.getD n ≤ n) : evSlice Tryz.prog 30 (.row o 7 i n) lo hi = some (.lst true 7 []) := sl_roweq un_30 sz_56 h0 h1 h2
theorem lpl_30 {ty sz : Nat} {k : Bool} {es : List PV} : lenP Tryz.prog 30 ty (.lst k sz es) = some (.val (.int .i64 es.length)) := lp_lst el_30
theorem lpr_30 {ty o sz i n : Nat} : lenP Tryz.prog 30 ty (.row o sz i n) = some (.val (.int .i64 n)) := lp_row el_30
theorem lpn_30 {ty : Nat} : lenP Tryz.prog 30 ty (.val (.slice none 0 0)) = some (.val (.int .i64 0)) := lp_nil un_30
theorem oz_30 : ofVal (.slice none 0 0) = .val (.slice none 0 0) := rfl
theorem ea_30 {Γ : Ctx} (s : AS) (ρ : Operand → PV) : evEff Tryz.prog Γ s ρ (.alloc 30) = some (.own s.nx 1 0 0, upd s.ob s.nx (some (30, 1, [.val (.slice none 0 0)])), s.nx + 1) := ea_of ze_30 (by kernel_rfl) rfl rfl s ρ
theorem em_30 {Γ : Ctx} (s : AS) (ρ : Operand → PV) (l c : Operand) : evEff Tryz.prog Γ s ρ (.makeSlice 30 l c) = mkEv 56 7 56 (.agg #[.int .i64 0, .int .i64 0, .int .i64 0, .int .i64 0, .int .i64 0, .int .i64 0, .bool false]) s (ρ l) (ρ c) := em_of el_30 ze_56 sz_56 by_56 (by kernel_rfl) rfl s ρ l c
theorem eap_30 {Γ : Ctx} (s : AS) (ρ : Operand → PV) (x y : Operand) : evEff Tryz.prog Γ s ρ (.call { callee := .builtin .append, args := #[x, y], argTypes := #[30, 30] }) = apEv 56 7 56 s.nx s.ob (ρ x) (obOf s.ob (ρ x)) (sliceEs s.ob 7 (ρ y)) := eap_of el_30 ze_56 sz_56 by_56 (by decide) rfl s ρ x y
theorem ecp_30 {Γ : Ctx} (s : AS) (ρ : Operand → PV) (x y : Operand) (t' : Nat) : evEff Tryz.prog Γ s ρ (.call { callee := .builtin .copy, args := #[x, y], argTypes := #[30, t'] }) = cpX 7 s.nx s.ob (ρ x) (obOf s.ob (ρ x)) (srcEs s.ob 7 (ρ y)) := ecp_of el_30 sz_56 s ρ x y t'
theorem bs_30 : isByteSlice Tryz.prog 30 = false := by kernel_rfl
theorem is_30 : isStr Tryz.prog 30 = false := by kernel_rfl
theorem sz_33 : tySize Tryz.prog 33 = some 1 := by kernel_rfl
theorem ag_33 : tyAgg Tryz.prog 33 = some false := by kernel_rfl
theorem by_33 : tyBytes Tryz.prog 33 = some 24 := by kernel_rfl
theorem ze_33 : zeroOf Tryz.prog 33 = some (.slice none 0 0) := by kernel_rfl
theorem un_33 : Tryz.prog.underlying 33 = some (.slice 3) := by kernel_rfl
theorem el_33 : tyElem Tryz.prog 33 = some 3 := by kernel_rfl
theorem ix_33 {k : Bool} {es : List PV} {i : Int} (h0 : 0 ≤ i) (h1 : i < (es.length : Int)) : evIndexAddr Tryz.prog 33 (.lst k 1 es) i = some (.ptr k ((es[i.toNat]?).getD .dead) 0) := ix_lst un_33 sz_3 h0 h1
theorem ixr_33 {o j n : Nat} {i : Int} (h0 : 0 ≤ i) (h1 : i < (n : Int)) : evIndexAddr Tryz.prog 33 (.row o 1 j n) i = some (.own o 1 (j + i.toNat) 0) := ix_row un_33 sz_3 h0 h1
theorem sl_33 {k : Bool} {es : List PV} {lo hi : Option Int} (h0 : 0 ≤ lo.getD 0) (h1 : lo.getD 0 ≤ hi.getD es.length) (h2 : hi.getD es.length ≤ es.length) : evSlice Tryz.prog 33 (.lst k 1 es) lo hi = some (.lst k 1 ((es.drop (lo.getD 0).toNat).take ((hi.getD es.length).toNat - (lo.getD 0).toNat))) := sl_lst un_33 sz_3 h0 h1 h2
theorem slr_33 {o i n : Nat} {lo hi : Option Int} (h0 : 0 ≤ lo.getD 0) (h1 : lo.getD 0 < hi.getD n) (h2 : hi.getD n ≤ n) : evSlice Tryz.prog 33 (.row o 1 i n) lo hi = some (.row o 1 (i + (lo.getD 0).toNat) ((hi.getD n).toNat - (lo.getD 0).toNat)) := sl_rowlt un_33 sz_3 h0 h1 h2
theorem sle_33 {o i n : Nat} {lo hi : Option Int} (h0 : 0 ≤ lo.getD 0) (h1 : lo.getD 0 = hi.getD n) (h2 : hi.getD n ≤ n) : evSlice Tryz.prog 33 (.row o 1 i n) lo hi = some (.lst true 1 []) := sl_roweq un_33 sz_3 h0 h1 h2
theorem lpl_33 {ty sz : Nat} {k : Bool} {es : List PV} : lenP Tryz.prog 33 ty (.lst k sz es) = some (.val (.int .i64 es.length)) := lp_lst el_33
theorem lpr_33 {ty o sz i n : Nat} : lenP Tryz.prog 33 ty (.row o sz i n) = some (.val (.int .i64 n)) := lp_row el_33
theorem lpn_33 {ty : Nat} : lenP Tryz.prog 33 ty (.val (.slice none 0 0)) = some (.val (.int .i64 0)) := lp_nil un_33
theorem oz_33 : ofVal (.slice none 0 0) = .val (.slice none 0 0) := rfl
theorem ea_33 {Γ : Ctx} (s : AS) (ρ : Operand → PV) : evEff Tryz.prog Γ s ρ (.alloc 33) = some (.own s.nx 1 0 0, upd s.ob s.nx (some (33, 1, [.val (.slice none 0 0)])), s.nx + 1) := ea_of ze_33 (by kernel_rfl) rfl rfl s ρ
theorem em_33 {Γ : Ctx} (s : AS) (ρ : Operand → PV) (l c : Operand) : evEff Tryz.prog Γ s ρ (.makeSlice 33 l c) = mkEv 3 1 8 (.int .i64 0) s (ρ l) (ρ c) := em_of el_33 ze_3 sz_3 by_3 (by kernel_rfl) rfl s ρ l c
theorem eap_33 {Γ : Ctx} (s : AS) (ρ : Operand → PV) (x y : Operand) : evEff Tryz.prog Γ s ρ (.call { callee := .builtin .append, args := #[x, y], argTypes := #[33, 33] }) = apEv 3 1 8 s.nx s.ob (ρ x) (obOf s.ob (ρ x)) (sliceEs s.ob 1 (ρ y)) := eap_of el_33 ze_3 sz_3 by_3 (by decide) rfl s ρ x y
theorem ecp_33 {Γ : Ctx} (s : AS) (ρ : Operand → PV) (x y : Operand) (t' : Nat) : evEff Tryz.prog Γ s ρ (.call { callee := .builtin .copy, args := #[x, y], argTypes := #[33, t'] }) = cpX 1 s.nx s.ob (ρ x) (obOf s.ob (ρ x)) (srcEs s.ob 1 (ρ y)) := ecp_of el_33 sz_3 s ρ x y t'
theorem bs_33 : isByteSlice Tryz.prog 33 = false := by kernel_rfl
theorem is_33 : isStr Tryz.prog 33 = false := by kernel_rfl
theorem sz_93 : tySize Tryz.prog 93 = some 1 := by kernel_rfl
theorem ag_93 : tyAgg Tryz.prog 93 = some false := by kernel_rfl
theorem by_93 : tyBytes Tryz.prog 93 = some 24 := by kernel_rfl
theorem ze_93 : zeroOf Tryz.prog 93 = some (.slice none 0 0) := by kernel_rfl
theorem un_93 : Tryz.prog.underlying 93 = some (.slice 101) := by kernel_rfl
theorem el_93 : tyElem Tryz.prog 93 = some 101 := by kernel_rfl
theorem ix_93 {k : Bool} {es : List PV} {i : Int} (h0 : 0 ≤ i) (h1 : i < (es.length : Int)) : evIndexAddr Tryz.prog 93 (.lst k 4 es) i = some (.ptr k ((es[i.toNat]?).getD .dead) 0) := ix_lst un_93 sz_101 h0 h1
theorem ixr_93 {o j n : Nat} {i : Int} (h0 : 0 ≤ i) (h1 : i < (n : Int)) : evIndexAddr Tryz.prog 93 (.row o 4 j n) i = some (.own o 4 (j + i.toNat) 0) := ix_row un_93 sz_101 h0 h1
theorem sl_93 {k : Bool} {es : List PV} {lo hi : Option Int} (h0 : 0 ≤ lo.getD 0) (h1 : lo.getD 0 ≤ hi.getD es.length) (h2 : hi.getD es.length ≤ es.length) : evSlice Tryz.prog 93 (.lst k 4 es) lo hi = some (.lst k 4 ((es.drop (lo.getD 0).toNat).take ((hi.getD es.length).toNat - (lo.getD 0).toNat))) := sl_lst un_93 sz_101 h0 h1 h2
theorem slr_93 {o i n : Nat} {lo hi : Option Int} (h0 : 0 ≤ lo.getD 0) (h1 : lo.getD 0 < hi.getD n) (h2 : hi.getD n ≤ n) : evSlice Tryz.prog 93 (.row o 4 i n) lo hi = some (.row o 4 (i + (lo.getD 0).toNat) ((hi.getD n).toNat - (lo.getD 0).toNat)) := sl_rowlt un_93 sz_101 h0 h1 h2
theorem sle_93 {o i n : Nat} {lo hi : Option Int} (h0 : 0 ≤ lo.getD 0) (h1 : lo.getD 0 = hi.getD n) (h2 : hi.getD n ≤ n) : evSlice Tryz.prog 93 (.row o 4 i n) lo hi = some (.lst true 4 []) := sl_roweq un_93 sz_101 h0 h1 h2
theorem lpl_93 {ty sz : Nat} {k : Bool} {es : List PV} : lenP Tryz.prog 93 ty (.lst k sz es) = some (.val (.int .i64 es.length)) := lp_lst el_93
theorem lpr_93 {ty o sz i n : Nat} : lenP Tryz.prog 93 ty (.row o sz i n) = some (.val (.int .i64 n)) := lp_row el_93
theorem lpn_93 {ty : Nat} : lenP Tryz.prog 93 ty (.val (.slice none 0 0)) = some (.val (.int .i64 0)) := lp_nil un_93
theorem oz_93 : ofVal (.slice none 0 0) = .val (.slice none 0 0) := rfl
theorem ea_93 {Γ : Ctx} (s : AS) (ρ : Operand → PV) : evEff Tryz.prog Γ s ρ (.alloc 93) = some (.own s.nx 1 0 0, upd s.ob s.nx (some (93, 1, [.val (.slice none 0 0)])), s.nx + 1) := ea_of ze_93 (by kernel_rfl) rfl rfl s ρ
theorem em_93 {Γ : Ctx} (s : AS) (ρ : Operand → PV) (l c : Operand) : evEff Tryz.prog Γ s ρ (.makeSlice 93 l c) = mkEv 101 4 32 (.agg #[.int .i64 0, .int .i64 0, .int .i64 0, .int .i64 0]) s (ρ l) (ρ c) := em_of el_93 ze_101 sz_101 by_101 (by kernel_rfl) rfl s ρ l c
theorem eap_93 {Γ : Ctx} (s : AS) (ρ : Operand → PV) (x y : Operand) : evEff Tryz.prog Γ s ρ (.call { callee := .builtin .append, args := #[x, y], argTypes := #[93, 93] }) = apEv 101 4 32 s.nx s.ob (ρ x) (obOf s.ob (ρ x)) (sliceEs s.ob 4 (ρ y)) := eap_of el_93 ze_101 sz_101 by_101 (by decide) rfl s ρ x y
theorem ecp_93 {Γ : Ctx} (s : AS) (ρ : Operand → PV) (x y : Operand) (t' : Nat) : evEff Tryz.prog Γ s ρ (.call { callee := .builtin .copy, args := #[x, y], argTypes := #[93, t'] }) = cpX 4 s.nx s.ob (ρ x) (obOf s.ob (ρ x)) (srcEs s.ob 4 (ρ y)) := ecp_of el_93 sz_101 s ρ x y t'
theorem bs_93 : isByteSlice Tryz.prog 93 = false := by kernel_rfl
theorem is_93 : isStr Tryz.prog 93 = false := by kernel_rfl
theorem sz_94 : tySize Tryz.prog 94 = some 1 := by kernel_rfl
theorem ag_94 : tyAgg Tryz.prog 94 = some false := by kernel_rfl
theorem by_94 : tyBytes Tryz.prog 94 = some 24 := by kernel_rfl
theorem ze_94 : zeroOf Tryz.prog 94 = some (.slice none 0 0) := by kernel_rfl
theorem un_94 : Tryz.prog.underlying 94 = some (.slice 95) := by kernel_rfl
theorem el_94 : tyElem Tryz.prog 94 = some 95 := by kernel_rfl
theorem ix_94 {k : Bool} {es : List PV} {i : Int} (h0 : 0 ≤ i) (h1 : i < (es.length : Int)) : evIndexAddr Tryz.prog 94 (.lst k 4 es) i = some (.ptr k ((es[i.toNat]?).getD .dead) 0) := ix_lst un_94 sz_95 h0 h1
theorem ixr_94 {o j n : Nat} {i : Int} (h0 : 0 ≤ i) (h1 : i < (n : Int)) : evIndexAddr Tryz.prog 94 (.row o 4 j n) i = some (.own o 4 (j + i.toNat) 0) := ix_row un_94 sz_95 h0 h1
theorem sl_94 {k : Bool} {es : List PV} {lo hi : Option Int} (h0 : 0 ≤ lo.getD 0) (h1 : lo.getD 0 ≤ hi.getD es.length) (h2 : hi.getD es.length ≤ es.length) : evSlice Tryz.prog 94 (.lst k 4 es) lo hi = some (.lst k 4 ((es.drop (lo.getD 0).toNat).take ((hi.getD es.length).toNat - (lo.getD 0).toNat))) := sl_lst un_94 sz_95 h0 h1 h2
theorem slr_94 {o i n : Nat} {lo hi : Option Int} (h0 : 0 ≤ lo.getD 0) (h1 : lo.getD 0 < hi.getD n) (h2 : hi.getD n ≤ n) : evSlice Tryz.prog 94 (.row o 4 i n) lo hi = some (.row o 4 (i + (lo.getD 0).toNat) ((hi.getD n).toNat - (lo.getD 0).toNat)) := sl_rowlt un_94 sz_95 h0 h1 h2
theorem sle_94 {o i n : Nat} {lo hi : Option Int} (h0 : 0 ≤ lo.getD 0) (h1 : lo.getD 0 = hi.getD n) (h2 : hi.getD n ≤ n) : evSlice Tryz.prog 94 (.row o 4 i n) lo hi = some (.lst true 4 []) := sl_roweq un_94 sz_95 h0 h1 h2
theorem lpl_94 {ty sz : Nat} {k : Bool} {es : List PV} : lenP Tryz.prog 94 ty (.lst k sz es) = some (.val (.int .i64 es.length)) := lp_lst el_94
theorem lpr_94 {ty o sz i n : Nat} : lenP Tryz.prog 94 ty (.row o sz i n) = some (.val (.int .i64 n)) := lp_row el_94
theorem lpn_94 {ty : Nat} : lenP Tryz.prog 94 ty (.val (.slice none 0 0)) = some (.val (.int .i64 0)) := lp_nil un_94
theorem oz_94 : ofVal (.slice none 0 0) = .val (.slice none 0 0) := rfl
theorem ea_94 {Γ : Ctx} (s : AS) (ρ : Operand → PV) : evEff Tryz.prog Γ s ρ (.alloc 94) = some (.own s.nx 1 0 0, upd s.ob s.nx (some (94, 1, [.val (.slice none 0 0)])), s.nx + 1) := ea_of ze_94 (by kernel_rfl) rfl rfl s ρ
theorem em_94 {Γ : Ctx} (s : AS) (ρ : Operand → PV) (l c : Operand) : evEff Tryz.prog Γ s ρ (.makeSlice 94 l c) = mkEv 95 4 4 (.agg #[.bool false, .bool false, .bool false, .bool false]) s (ρ l) (ρ c) := em_of el_94 ze_95 sz_95 by_95 (by kernel_rfl) rfl s ρ l c
theorem eap_94 {Γ : Ctx} (s : AS) (ρ : Operand → PV) (x y : Operand) : evEff Tryz.prog Γ s ρ (.call { callee := .builtin .append, args := #[x, y], argTypes := #[94, 94] }) = apEv 95 4 4 s.nx s.ob (ρ x) (obOf s.ob (ρ x)) (sliceEs s.ob 4 (ρ y)) := eap_of el_94 ze_95 sz_95 by_95 (by decide) rfl s ρ x y
theorem ecp_94 {Γ : Ctx} (s : AS) (ρ : Operand → PV) (x y : Operand) (t' : Nat) : evEff Tryz.prog Γ s ρ (.call { callee := .builtin .copy, args := #[x, y], argTypes := #[94, t'] }) = cpX 4 s.nx s.ob (ρ x) (obOf s.ob (ρ x)) (srcEs s.ob 4 (ρ y)) := ecp_of el_94 sz_95 s ρ x y t'
theorem bs_94 : isByteSlice Tryz.prog 94 = false := by kernel_rfl
theorem is_94 : isStr Tryz.prog 94 = false := by kernel_rfl
theorem sz_132 : tySize Tryz.prog 132 = some 1 := by kernel_rfl
theorem ag_132 : tyAgg Tryz.prog 132 = some false := by kernel_rfl
theorem by_132 : tyBytes Tryz.prog 132 = some 24 := by kernel_rfl
theorem ze_132 : zeroOf Tryz.prog 132 = some (.slice none 0 0) := by kernel_rfl
theorem un_132 : Tryz.prog.underlying 132 = some (.slice 54) := by kernel_rfl
theorem el_132 : tyElem Tryz.prog 132 = some 54 := by kernel_rfl
theorem ix_132 {k : Bool} {es : List PV} {i : Int} (h0 : 0 ≤ i) (h1 : i < (es.length : Int)) : evIndexAddr Tryz.prog 132 (.lst k 4 es) i = some (.ptr k ((es[i.toNat]?).getD .dead) 0) := ix_lst un_132 sz_54 h0 h1
theorem ixr_132 {o j n : Nat} {i : Int} (h0 : 0 ≤ i) (h1 : i < (n : Int)) : evIndexAddr Tryz.prog 132 (.row o 4 j n) i = some (.own o 4 (j + i.toNat) 0) := ix_row un_132 sz_54 h0 h1
theorem sl_132 {k : Bool} {es : List PV} {lo hi : Option Int} (h0 : 0 ≤ lo.getD 0) (h1 : lo.getD 0 ≤ hi.getD es.length) (h2 : hi.getD es.length ≤ es.length) : evSlice Tryz.prog 132 (.lst k 4 es) lo hi = some (.lst k 4 ((es.drop (lo.getD 0).toNat).take ((hi.getD es.length).toNat - (lo.getD 0).toNat))) := sl_lst un_132 sz_54 h0 h1 h2
theorem slr_132 {o i n : Nat} {lo hi : Option Int} (h0 : 0 ≤ lo.getD 0) (h1 : lo.getD 0 < hi.getD n) (h2 : hi.getD n ≤ n) : evSlice Tryz.prog 132 (.row o 4 i n) lo hi = some (.row o 4 (i + (lo.getD 0).toNat) ((hi.getD n).toNat - (lo.getD 0).toNat)) := sl_rowlt un_132 sz_54 h0 h1 h2
theorem sle_132 {o i n : Nat} {lo hi : Option Int} (h0 : 0 ≤ lo.getD 0) (h1 : lo.getD 0 = hi.getD n) (h2 : hi.getD n ≤ n) : evSlice Tryz.prog 132 (.row o 4 i n) lo hi = some (.lst true 4 []) := sl_roweq un_132 sz_54 h0 h1 h2
theorem lpl_132 {ty sz : Nat} {k : Bool} {es : List PV} : lenP Tryz.prog 132 ty (.lst k sz es) = some (.val (.int .i64 es.length)) := lp_lst el_132
theorem lpr_132 {ty o sz i n : Nat} : lenP Tryz.prog 132 ty (.row o sz i n) = some (.val (.int .i64 n)) := lp_row el_132
theorem lpn_132 {ty : Nat} : lenP Tryz.prog 132 ty (.val (.slice none 0 0)) = some (.val (.int .i64 0)) := lp_nil un_132
theorem oz_132 : ofVal (.slice none 0 0) = .val (.slice none 0 0) := rfl
theorem ea_132 {Γ : Ctx} (s : AS) (ρ : Operand → PV) : evEff Tryz.prog Γ s ρ (.alloc 132) = some (.own s.nx 1 0 0, upd s.ob s.nx (some (132, 1, [.val (.slice none 0 0)])), s.nx + 1) := ea_of ze_132 (by kernel_rfl) rfl rfl s ρ
theorem em_132 {Γ : Ctx} (s : AS) (ρ : Operand → PV) (l c : Operand) : evEff Tryz.prog Γ s ρ (.makeSlice 132 l c) = mkEv 54 4 32 (.agg #[.int .i64 0, .int .i64 0, .int .i64 0, .int .i64 0]) s (ρ l) (ρ c) := em_of el_132 ze_54 sz_54 by_54 (by kernel_rfl) rfl s ρ l c
theorem eap_132 {Γ : Ctx} (s : AS) (ρ : Operand → PV) (x y : Operand) : evEff Tryz.prog Γ s ρ (.call { callee := .builtin .append, args := #[x, y], argTypes := #[132, 132] }) = apEv 54 4 32 s.nx s.ob (ρ x) (obOf s.ob (ρ x)) (sliceEs s.ob 4 (ρ y)) := eap_of el_132 ze_54 sz_54 by_54 (by decide) rfl s ρ x y
theorem ecp_132 {Γ : Ctx} (s : AS) (ρ : Operand → PV) (x y : Operand) (t' : Nat) : evEff Tryz.prog Γ s ρ (.call { callee := .builtin .copy, args := #[x, y], argTypes := #[132, t'] }) = cpX 4 s.nx s.ob (ρ x) (obOf s.ob (ρ x)) (srcEs s.ob 4 (ρ y)) := ecp_of el_132 sz_54 s ρ x y t'
theorem bs_132 : isByteSlice Tryz.prog 132 = false := by kernel_rfl
theorem is_132 : isStr Tryz.prog 132 = false := by kernel_rfl
theorem sz_38 : tySize Tryz.prog 38 = some 1 := by kernel_rfl
theorem ag_38 : tyAgg Tryz.prog 38 = some false := by kernel_rfl
theorem by_38 : tyBytes Tryz.prog 38 = some 24 := by kernel_rfl
theorem ze_38 : zeroOf Tryz.prog 38 = some (.slice none 0 0) := by kernel_rfl
theorem un_38 : Tryz.prog.underlying 38 = some (.slice 23) := by kernel_rfl
theorem el_38 : tyElem Tryz.prog 38 = some 23 := by kernel_rfl
theorem ix_38 {k : Bool} {es : List PV} {i : Int} (h0 : 0 ≤ i) (h1 : i < (es.length : Int)) : evIndexAddr Tryz.prog 38 (.lst k 1 es) i = some (.ptr k ((es[i.toNat]?).getD .dead) 0) := ix_lst un_38 sz_23 h0 h1
theorem ixr_38 {o j n : Nat} {i : Int} (h0 : 0 ≤ i) (h1 : i < (n : Int)) : evIndexAddr Tryz.prog 38 (.row o 1 j n) i = some (.own o 1 (j + i.toNat) 0) := ix_row un_38 sz_23 h0 h1
theorem sl_38 {k : Bool} {es : List PV} {lo hi : Option Int} (h0 : 0 ≤ lo.getD 0) (h1 : lo.getD 0 ≤ hi.getD es.length) (h2 : hi.getD es.length ≤ es.length) : evSlice Tryz.prog 38 (.lst k 1 es) lo hi = some (.lst k 1 ((es.drop (lo.getD 0).toNat).take ((hi.getD es.length).toNat - (lo.getD 0).toNat))) := sl_lst un_38 sz_23 h0 h1 h2
theorem slr_38 {o i n : Nat} {lo hi : Option Int} (h0 : 0 ≤ lo.getD 0) (h1 : lo.getD 0 < hi.getD n) (h2 : hi.getD n ≤ n) : evSlice Tryz.prog 38 (.row o 1 i n) lo hi = some (.row o 1 (i + (lo.getD 0).toNat) ((hi.getD n).toNat - (lo.getD 0).toNat)) := sl_rowlt un_38 sz_23 h0 h1 h2
theorem sle_38 {o i n : Nat} {lo hi : Option Int} (h0 : 0 ≤ lo.getD 0) (h1 : lo.getD 0 = hi.getD n) (h2 : hi.getD n ≤ n) : evSlice Tryz.prog 38 (.row o 1 i n) lo hi = some (.lst true 1 []) := sl_roweq un_38 sz_23 h0 h1 h2
theorem lpl_38 {ty sz : Nat} {k : Bool} {es : List PV} : lenP Tryz.prog 38 ty (.lst k sz es) = some (.val (.int .i64 es.length)) := lp_lst el_38
theorem lpr_38 {ty o sz i n : Nat} : lenP Tryz.prog 38 ty (.row o sz i n) = some (.val (.int .i64 n)) := lp_row el_38
theorem lpn_38 {ty : Nat} : lenP Tryz.prog 38 ty (.val (.slice none 0 0)) = some (.val (.int .i64 0)) := lp_nil un_38
theorem oz_38 : ofVal (.slice none 0 0) = .val (.slice none 0 0) := rfl
theorem ea_38 {Γ : Ctx} (s : AS) (ρ : Operand → PV) : evEff Tryz.prog Γ s ρ (.alloc 38) = some (.own s.nx 1 0 0, upd s.ob s.nx (some (38, 1, [.val (.slice none 0 0)])), s.nx + 1) := ea_of ze_38 (by kernel_rfl) rfl rfl s ρ
theorem em_38 {Γ : Ctx} (s : AS) (ρ : Operand → PV) (l c : Operand) : evEff Tryz.prog Γ s ρ (.makeSlice 38 l c) = mkEv 23 1 24 (.slice none 0 0) s (ρ l) (ρ c) := em_of el_38 ze_23 sz_23 by_23 (by kernel_rfl) rfl s ρ l c
theorem eap_38 {Γ : Ctx} (s : AS) (ρ : Operand → PV) (x y : Operand) : evEff Tryz.prog Γ s ρ (.call { callee := .builtin .append, args := #[x, y], argTypes := #[38, 38] }) = apEv 23 1 24 s.nx s.ob (ρ x) (obOf s.ob (ρ x)) (sliceEs s.ob 1 (ρ y)) := eap_of el_38 ze_23 sz_23 by_23 (by decide) rfl s ρ x y
theorem ecp_38 {Γ : Ctx} (s : AS) (ρ : Operand → PV) (x y : Operand) (t' : Nat) : evEff Tryz.prog Γ s ρ (.call { callee := .builtin .copy, args := #[x, y], argTypes := #[38, t'] }) = cpX 1 s.nx s.ob (ρ x) (obOf s.ob (ρ x)) (srcEs s.ob 1 (ρ y)) := ecp_of el_38 sz_23 s ρ x y t'
theorem bs_38 : isByteSlice Tryz.prog 38 = false := by kernel_rfl
theorem is_38 : isStr Tryz.prog 38 = false := by kernel_rfl
theorem cvi_2_2 {k : IntKind} {n : Int} {es : Option (List PV)} : convP Tryz.prog 2 2 false es (some (.int k n)) = some (.val (.int .i64 (IntKind.i64.wrap n))) := cv_int un_2 un_2
theorem cvi_2_3 {k : IntKind} {n : Int} {es : Option (List PV)} : convP Tryz.prog 2 3 false es (some (.int k n)) = some (.val (.int .i64 (IntKind.i64.wrap n))) := cv_int un_2 un_3
theorem cvi_2_5 {k : IntKind} {n : Int} {es : Option (List PV)} : convP Tryz.prog 2 5 false es (some (.int k n)) = some (.val (.int .u8 (IntKind.u8.wrap n))) := cv_int un_2 un_5
theorem cvi_2_12 {k : IntKind} {n : Int} {es : Option (List PV)} : convP Tryz.prog 2 12 false es (some (.int k n)) = some (.val (.int .u64 (IntKind.u64.wrap n))) := cv_int un_2 un_12
theorem cvi_2_21 {k : IntKind} {n : Int} {es : Option (List PV)} : convP Tryz.prog 2 21 false es (some (.int k n)) = some (.val (.int .i32 (IntKind.i32.wrap n))) := cv_int un_2 un_21
theorem cvi_2_134 {k : IntKind} {n : Int} {es : Option (List PV)} : convP Tryz.prog 2 134 false es (some (.int k n)) = some (.val (.int .u64 (IntKind.u64.wrap n))) := cv_int un_2 un_134
theorem cvi_2_141 {k : IntKind} {n : Int} {es : Option (List PV)} : convP Tryz.prog 2 141 false es (some (.int k n)) = some (.val (.int .u32 (IntKind.u32.wrap n))) := cv_int un_2 un_141
theorem cvi_3_2 {k : IntKind} {n : Int} {es : Option (List PV)} : convP Tryz.prog 3 2 false es (some (.int k n)) = some (.val (.int .i64 (IntKind.i64.wrap n))) := cv_int un_3 un_2
theorem cvi_3_3 {k : IntKind} {n : Int} {es : Option (List PV)} : convP Tryz.prog 3 3 false es (some (.int k n)) = some (.val (.int .i64 (IntKind.i64.wrap n))) := cv_int un_3 un_3
theorem cvi_3_5 {k : IntKind} {n : Int} {es : Option (List PV)} : convP Tryz.prog 3 5 false es (some (.int k n)) = some (.val (.int .u8 (IntKind.u8.wrap n))) := cv_int un_3 un_5
theorem cvi_3_12 {k : IntKind} {n : Int} {es : Option (List PV)} : convP Tryz.prog 3 12 false es (some (.int k n)) = some (.val (.int .u64 (IntKind.u64.wrap n))) := cv_int un_3 un_12
theorem cvi_3_21 {k : IntKind} {n : Int} {es : Option (List PV)} : convP Tryz.prog 3 21 false es (some (.int k n)) = some (.val (.int .i32 (IntKind.i32.wrap n))) := cv_int un_3 un_21
theorem cvi_3_134 {k : IntKind} {n : Int} {es : Option (List PV)} : convP Tryz.prog 3 134 false es (some (.int k n)) = some (.val (.int .u64 (IntKind.u64.wrap n))) := cv_int un_3 un_134
theorem cvi_3_141 {k : IntKind} {n : Int} {es : Option (List PV)} : convP Tryz.prog 3 141 false es (some (.int k n)) = some (.val (.int .u32 (IntKind.u32.wrap n))) := cv_int un_3 un_141
theorem cvi_5_2 {k : IntKind} {n : Int} {es : Option (List PV)} : convP Tryz.prog 5 2 false es (some (.int k n)) = some (.val (.int .i64 (IntKind.i64.wrap n))) := cv_int un_5 un_2
theorem cvi_5_3 {k : IntKind} {n : Int} {es : Option (List PV)} : convP Tryz.prog 5 3 false es (some (.int k n)) = some (.val (.int .i64 (IntKind.i64.wrap n))) := cv_int un_5 un_3
theorem cvi_5_5 {k : IntKind} {n : Int} {es : Option (List PV)} : convP Tryz.prog 5 5 false es (some (.int k n)) = some (.val (.int .u8 (IntKind.u8.wrap n))) := cv_int un_5 un_5
theorem cvi_5_12 {k : IntKind} {n : Int} {es : Option (List PV)} : convP Tryz.prog 5 12 false es (some (.int k n)) = some (.val (.int .u64 (IntKind.u64.wrap n))) := cv_int un_5 un_12
theorem cvi_5_21 {k : IntKind} {n : Int} {es : Option (List PV)} : convP Tryz.prog 5 21 false es (some (.int k n)) = some (.val (.int .i32 (IntKind.i32.wrap n))) := cv_int un_5 un_21
theorem cvi_5_134 {k : IntKind} {n : Int} {es : Option (List PV)} : convP Tryz.prog 5 134 false es (some (.int k n)) = some (.val (.int .u64 (IntKind.u64.wrap n))) := cv_int un_5 un_134
theorem cvi_5_141 {k : IntKind} {n : Int} {es : Option (List PV)} : convP Tryz.prog 5 141 false es (some (.int k n)) = some (.val (.int .u32 (IntKind.u32.wrap n))) := cv_int un_5 un_141
theorem cvi_12_2 {k : IntKind} {n : Int} {es : Option (List PV)} : convP Tryz.prog 12 2 false es (some (.int k n)) = some (.val (.int .i64 (IntKind.i64.wrap n))) := cv_int un_12 un_2
theorem cvi_12_3 {k : IntKind} {n : Int} {es : Option (List PV)} : convP Tryz.prog 12 3 false es (some (.int k n)) = some (.val (.int .i64 (IntKind.i64.wrap n))) := cv_int un_12 un_3
theorem cvi_12_5 {k : IntKind} {n : Int} {es : Option (List PV)} : convP Tryz.prog 12 5 false es (some (.int k n)) = some (.val (.int .u8 (IntKind.u8.wrap n))) := cv_int un_12 un_5
theorem cvi_12_12 {k : IntKind} {n : Int} {es : Option (List PV)} : convP Tryz.prog 12 12 false es (some (.int k n)) = some (.val (.int .u64 (IntKind.u64.wrap n))) := cv_int un_12 un_12
theorem cvi_12_21 {k : IntKind} {n : Int} {es : Option (List PV)} : convP Tryz.prog 12 21 false es (some (.int k n)) = some (.val (.int .i32 (IntKind.i32.wrap n))) := cv_int un_12 un_21
theorem cvi_12_134 {k : IntKind} {n : Int} {es : Option (List PV)} : convP Tryz.prog 12 134 false es (some (.int k n)) = some (.val (.int .u64 (IntKind.u64.wrap n))) := cv_int un_12 un_134
theorem cvi_12_141 {k : IntKind} {n : Int} {es : Option (List PV)} : convP Tryz.prog 12 141 false es (some (.int k n)) = some (.val (.int .u32 (IntKind.u32.wrap n))) := cv_int un_12 un_141
theorem cvi_21_2 {k : IntKind} {n : Int} {es : Option (List PV)} : convP Tryz.prog 21 2 false es (some (.int k n)) = some (.val (.int .i64 (IntKind.i64.wrap n))) := cv_int un_21 un_2
theorem cvi_21_3 {k : IntKind} {n : Int} {es : Option (List PV)} : convP Tryz.prog 21 3 false es (some (.int k n)) = some (.val (.int .i64 (IntKind.i64.wrap n))) := cv_int un_21 un_3
theorem cvi_21_5 {k : IntKind} {n : Int} {es : Option (List PV)} : convP Tryz.prog 21 5 false es (some (.int k n)) = some (.val (.int .u8 (IntKind.u8.wrap n))) := cv_int un_21 un_5
theorem cvi_21_12 {k : IntKind} {n : Int} {es : Option (List PV)} : convP Tryz.prog 21 12 false es (some (.int k n)) = some (.val (.int .u64 (IntKind.u64.wrap n))) := cv_int un_21 un_12
theorem cvi_21_21 {k : IntKind} {n : Int} {es : Option (List PV)} : convP Tryz.prog 21 21 false es (some (.int k n)) = some (.val (.int .i32 (IntKind.i32.wrap n))) := cv_int un_21 un_21
theorem cvi_21_134 {k : IntKind} {n : Int} {es : Option (List PV)} : convP Tryz.prog 21 134 false es (some (.int k n)) = some (.val (.int .u64 (IntKind.u64.wrap n))) := cv_int un_21 un_134
theorem cvi_21_141 {k : IntKind} {n : Int} {es : Option (List PV)} : convP Tryz.prog 21 141 false es (some (.int k n)) = some (.val (.int .u32 (IntKind.u32.wrap n))) := cv_int un_21 un_141
theorem cvi_134_2 {k : IntKind} {n : Int} {es : Option (List PV)} : convP Tryz.prog 134 2 false es (some (.int k n)) = some (.val (.int .i64 (IntKind.i64.wrap n))) := cv_int un_134 un_2
theorem cvi_134_3 {k : IntKind} {n : Int} {es : Option (List PV)} : convP Tryz.prog 134 3 false es (some (.int k n)) = some (.val (.int .i64 (IntKind.i64.wrap n))) := cv_int un_134 un_3
theorem cvi_134_5 {k : IntKind} {n : Int} {es : Option (List PV)} : convP Tryz.prog 134 5 false es (some (.int k n)) = some (.val (.int .u8 (IntKind.u8.wrap n))) := cv_int un_134 un_5
theorem cvi_134_12 {k : IntKind} {n : Int} {es : Option (List PV)} : convP Tryz.prog 134 12 false es (some (.int k n)) = some (.val (.int .u64 (IntKind.u64.wrap n))) := cv_int un_134 un_12
theorem cvi_134_21 {k : IntKind} {n : Int} {es : Option (List PV)} : convP Tryz.prog 134 21 false es (some (.int k n)) = some (.val (.int .i32 (IntKind.i32.wrap n))) := cv_int un_134 un_21
theorem cvi_134_134 {k : IntKind} {n : Int} {es : Option (List PV)} : convP Tryz.prog 134 134 false es (some (.int k n)) = some (.val (.int .u64 (IntKind.u64.wrap n))) := cv_int un_134 un_134
theorem cvi_134_141 {k : IntKind} {n : Int} {es : Option (List PV)} : convP Tryz.prog 134 141 false es (some (.int k n)) = some (.val (.int .u32 (IntKind.u32.wrap n))) := cv_int un_134 un_141
theorem cvi_141_2 {k : IntKind} {n : Int} {es : Option (List PV)} : convP Tryz.prog 141 2 false es (some (.int k n)) = some (.val (.int .i64 (IntKind.i64.wrap n))) := cv_int un_141 un_2
theorem cvi_141_3 {k : IntKind} {n : Int} {es : Option (List PV)} : convP Tryz.prog 141 3 false es (some (.int k n)) = some (.val (.int .i64 (IntKind.i64.wrap n))) := cv_int un_141 un_3
theorem cvi_141_5 {k : IntKind} {n : Int} {es : Option (List PV)} : convP Tryz.prog 141 5 false es (some (.int k n)) = some (.val (.int .u8 (IntKind.u8.wrap n))) := cv_int un_141 un_5
theorem cvi_141_12 {k : IntKind} {n : Int} {es : Option (List PV)} : convP Tryz.prog 141 12 false es (some (.int k n)) = some (.val (.int .u64 (IntKind.u64.wrap n))) := cv_int un_141 un_12
theorem cvi_141_21 {k : IntKind} {n : Int} {es : Option (List PV)} : convP Tryz.prog 141 21 false es (some (.int k n)) = some (.val (.int .i32 (IntKind.i32.wrap n))) := cv_int un_141 un_21
theorem cvi_141_134 {k : IntKind} {n : Int} {es : Option (List PV)} : convP Tryz.prog 141 134 false es (some (.int k n)) = some (.val (.int .u64 (IntKind.u64.wrap n))) := cv_int un_141 un_134
theorem cvi_141_141 {k : IntKind} {n : Int} {es : Option (List PV)} : convP Tryz.prog 141 141 false es (some (.int k n)) = some (.val (.int .u32 (IntKind.u32.wrap n))) := cv_int un_141 un_141
theorem rw_22_1 {a0 : PV} : rowEs Tryz.prog 22 1 [(0, a0)] = rowC 5 1 [a0] (okP 1 a0 && (true)) := rw_of el_22 sz_5 ze_5 _ (by decide) (by decide) rfl
theorem rw_23_0 : rowEs Tryz.prog 23 0 [] = rowC 9 1 [] (true) := rw_of el_23 sz_9 ze_9 _ (by decide) (by decide) rfl
theorem rw_23_1 {a0 : PV} : rowEs Tryz.prog 23 1 [(0, a0)] = rowC 9 1 [a0] (okP 1 a0 && (true)) := rw_of el_23 sz_9 ze_9 _ (by decide) (by decide) rfl
theorem rw_23_5 {a0 a1 a2 a3 a4 : PV} : rowEs Tryz.prog 23 5 [(0, a0), (1, a1), (2, a2), (3, a3), (4, a4)] = rowC 9 1 [a0, a1, a2, a3, a4] (okP 1 a0 && (okP 1 a1 && (okP 1 a2 && (okP 1 a3 && (okP 1 a4 && (true)))))) := rw_of el_23 sz_9 ze_9 _ (by decide) (by decide) rfl
theorem rw_23_8 {a0 a1 a2 a3 a4 a5 a6 a7 : PV} : rowEs Tryz.prog 23 8 [(0, a0), (1, a1), (2, a2), (3, a3), (4, a4), (5, a5), (6, a6), (7, a7)] = rowC 9 1 [a0, a1, a2, a3, a4, a5, a6, a7] (okP 1 a0 && (okP 1 a1 && (okP 1 a2 && (okP 1 a3 && (okP 1 a4 && (okP 1 a5 && (okP 1 a6 && (okP 1 a7 && (true))))))))) := rw_of el_23 sz_9 ze_9 _ (by decide) (by decide) rfl
theorem rw_23_12 {a0 a1 a2 a3 a4 a5 a6 a7 a8 a9 a10 a11 : PV} : rowEs Tryz.prog 23 12 [(0, a0), (1, a1), (2, a2), (3, a3), (4, a4), (5, a5), (6, a6), (7, a7), (8, a8), (9, a9), (10, a10), (11, a11)] = rowC 9 1 [a0, a1, a2, a3, a4, a5, a6, a7, a8, a9, a10, a11] (okP 1 a0 && (okP 1 a1 && (okP 1 a2 && (okP 1 a3 && (okP 1 a4 && (okP 1 a5 && (okP 1 a6 && (okP 1 a7 && (okP 1 a8 && (okP 1 a9 && (okP 1 a10 && (okP 1 a11 && (true))))))))))))) := rw_of el_23 sz_9 ze_9 _ (by decide) (by decide) rfl
theorem rw_23_15 {a0 a1 a2 a3 a4 a5 a6 a7 a8 a9 a10 a11 a12 a13 a14 : PV} : rowEs Tryz.prog 23 15 [(0, a0), (1, a1), (2, a2), (3, a3), (4, a4), (5, a5), (6, a6), (7, a7), (8, a8), (9, a9), (10, a10), (11, a11), (12, a12), (13, a13), (14, a14)] = rowC 9 1 [a0, a1, a2, a3, a4, a5, a6, a7, a8, a9, a10, a11, a12, a13, a14] (okP 1 a0 && (okP 1 a1 && (okP 1 a2 && (okP 1 a3 && (okP 1 a4 && (okP 1 a5 && (okP 1 a6 && (okP 1 a7 && (okP 1 a8 && (okP 1 a9 && (okP 1 a10 && (okP 1 a11 && (okP 1 a12 && (okP 1 a13 && (okP 1 a14 && (true)))))))))))))))) := rw_of el_23 sz_9 ze_9 _ (by decide) (by decide) rfl
theorem rw_30_0 : rowEs Tryz.prog 30 0 [] = rowC 56 7 [] (true) := rw_of el_30 sz_56 ze_56 _ (by decide) (by decide) rfl
theorem rw_30_1 {a0 : PV} : rowEs Tryz.prog 30 1 [(0, a0)] = rowC 56 7 [a0] (okP 7 a0 && (true)) := rw_of el_30 sz_56 ze_56 _ (by decide) (by decide) rfl
theorem rw_30_3 {a0 a1 a2 : PV} : rowEs Tryz.prog 30 3 [(0, a0), (1, a1), (2, a2)] = rowC 56 7 [a0, a1, a2] (okP 7 a0 && (okP 7 a1 && (okP 7 a2 && (true)))) := rw_of el_30 sz_56 ze_56 _ (by decide) (by decide) rfl
theorem rw_33_0 : rowEs Tryz.prog 33 0 [] = rowC 3 1 [] (true) := rw_of el_33 sz_3 ze_3 _ (by decide) (by decide) rfl
theorem rw_33_1 {a0 : PV} : rowEs Tryz.prog 33 1 [(0, a0)] = rowC 3 1 [a0] (okP 1 a0 && (true)) := rw_of el_33 sz_3 ze_3 _ (by decide) (by decide) rfl
theorem rw_33_2 {a0 a1 : PV} : rowEs Tryz.prog 33 2 [(0, a0), (1, a1)] = rowC 3 1 [a0, a1] (okP 1 a0 && (okP 1 a1 && (true))) := rw_of el_33 sz_3 ze_3 _ (by decide) (by decide) rfl
theorem rw_33_3 {a0 a1 a2 : PV} : rowEs Tryz.prog 33 3 [(0, a0), (1, a1), (2, a2)] = rowC 3 1 [a0, a1, a2] (okP 1 a0 && (okP 1 a1 && (okP 1 a2 && (true)))) := rw_of el_33 sz_3 ze_3 _ (by decide) (by decide) rfl
theorem rw_33_6 {a0 a1 a2 a3 a4 a5 : PV} : rowEs Tryz.prog 33 6 [(0, a0), (1, a1), (2, a2), (3, a3), (4, a4), (5, a5)] = rowC 3 1 [a0, a1, a2, a3, a4, a5] (okP 1 a0 && (okP 1 a1 && (okP 1 a2 && (okP 1 a3 && (okP 1 a4 && (okP 1 a5 && (true))))))) := rw_of el_33 sz_3 ze_3 _ (by decide) (by decide) rfl
theorem rw_33_7 {a0 a1 a2 a3 a4 a5 a6 : PV} : rowEs Tryz.prog 33 7 [(0, a0), (1, a1), (2, a2), (3, a3), (4, a4), (5, a5), (6, a6)] = rowC 3 1 [a0, a1, a2, a3, a4, a5, a6] (okP 1 a0 && (okP 1 a1 && (okP 1 a2 && (okP 1 a3 && (okP 1 a4 && (okP 1 a5 && (okP 1 a6 && (true)))))))) := rw_of el_33 sz_3 ze_3 _ (by decide) (by decide) rfl
theorem rw_33_9 {a0 a1 a2 a3 a4 a5 a6 a7 a8 : PV} : rowEs Tryz.prog 33 9 [(0, a0), (1, a1), (2, a2), (3, a3), (4, a4), (5, a5), (6, a6), (7, a7), (8, a8)] = rowC 3 1 [a0, a1, a2, a3, a4, a5, a6, a7, a8] (okP 1 a0 && (okP 1 a1 && (okP 1 a2 && (okP 1 a3 && (okP 1 a4 && (okP 1 a5 && (okP 1 a6 && (okP 1 a7 && (okP 1 a8 && (true)))))))))) := rw_of el_33 sz_3 ze_3 _ (by decide) (by decide) rfl
theorem rw_33_10 {a0 a1 a2 a3 a4 a5 a6 a7 a8 a9 : PV} : rowEs Tryz.prog 33 10 [(0, a0), (1, a1), (2, a2), (3, a3), (4, a4), (5, a5), (6, a6), (7, a7), (8, a8), (9, a9)] = rowC 3 1 [a0, a1, a2, a3, a4, a5, a6, a7, a8, a9] (okP 1 a0 && (okP 1 a1 && (okP 1 a2 && (okP 1 a3 && (okP 1 a4 && (okP 1 a5 && (okP 1 a6 && (okP 1 a7 && (okP 1 a8 && (okP 1 a9 && (true))))))))))) := rw_of el_33 sz_3 ze_3 _ (by decide) (by decide) rfl
theorem rw_38_1 {a0 : PV} : rowEs Tryz.prog 38 1 [(0, a0)] = rowC 23 1 [a0] (okP 1 a0 && (true)) := rw_of el_38 sz_23 ze_23 _ (by decide) (by decide) rfl
theorem rw_132_1 {a0 : PV} : rowEs Tryz.prog 132 1 [(0, a0)] = rowC 54 4 [a0] (okP 4 a0 && (true)) := rw_of el_132 sz_54 ze_54 _ (by decide) (by decide) rfl
theorem mixed : Tryz.prog.follows .mixedOrders = true := by kernel_rfl
attribute [push_cast high]
  bz_7 bz_13 bz_39 bz_40 bz_53 bz_54 bz_55 bz_56 bz_65 bz_66 bz_67 bz_68 bz_83 bz_84 bz_138 bz_139
attribute [push_cast]
  sz_2 ag_2 by_2 ze_2 un_2 oz_2 ea_2 bs_2 is_2 sz_3 ag_3 by_3 ze_3 un_3 oz_3 ea_3 bs_3 is_3 sz_4 ag_4 by_4 ze_4 un_4 bqe_4 bqn_4 oz_4 ea_4 bs_4 is_4 sz_5 ag_5 by_5 ze_5 un_5 oz_5 ea_5 bs_5 is_5 sz_7 ag_7 by_7 ze_7 fo_7_0 fo_7_1 fo_7_2 fo_7_3 pl_7 bl_7 oz_7 ea_7 bs_7 is_7 sz_9 ag_9 by_9 ze_9 un_9 lps_9 ixs_9 oz_9 ea_9 bs_9 is_9 sz_12 ag_12 by_12 ze_12 un_12 oz_12 ea_12 bs_12 is_12 sz_13 ag_13 by_13 ze_13 fo_13_0 fo_13_1 pl_13 bl_13 oz_13 ea_13 bs_13 is_13 sz_21 ag_21 by_21 ze_21 un_21 oz_21 ea_21 bs_21 is_21 sz_39 ag_39 by_39 ze_39 fo_39_0 fo_39_1 fo_39_2 fo_39_3 fo_39_4 pl_39 bl_39 oz_39 ea_39 bs_39 is_39 sz_40 ag_40 by_40 ze_40 fo_40_0 fo_40_1 fo_40_2 fo_40_3 fo_40_4 pl_40 bl_40 oz_40 ea_40 bs_40 is_40 sz_53 ag_53 by_53 ze_53 fo_53_0 fo_53_1 fo_53_2 fo_53_3 pl_53 bl_53 oz_53 ea_53 bs_53 is_53 sz_54 ag_54 by_54 ze_54 fo_54_0 fo_54_1 fo_54_2 fo_54_3 pl_54 bl_54 oz_54 ea_54 sqeql_54 sqneq_54 bs_54 is_54 sz_55 ag_55 by_55 ze_55 fo_55_0 fo_55_1 fo_55_2 fo_55_3 pl_55 bl_55 oz_55 ea_55 bs_55 is_55 sz_56 ag_56 by_56 ze_56 fo_56_0 fo_56_1 fo_56_2 fo_56_3 pl_56 bl_56 oz_56 ea_56 bs_56 is_56 sz_65 ag_65 by_65 ze_65 fo_65_0 fo_65_1 fo_65_2 pl_65 bl_65 oz_65 ea_65 sqeql_65 sqneq_65 bs_65 is_65 sz_66 ag_66 by_66 ze_66 fo_66_0 fo_66_1 fo_66_2 pl_66 bl_66 oz_66 ea_66 sqeql_66 sqneq_66 bs_66 is_66 sz_67 ag_67 by_67 ze_67 fo_67_0 fo_67_1 pl_67 bl_67 oz_67 ea_67 bs_67 is_67 sz_68 ag_68 by_68 ze_68 fo_68_0 fo_68_1 pl_68 bl_68 oz_68 ea_68 bs_68 is_68 sz_83 ag_83 by_83 ze_83 fo_83_0 fo_83_1 pl_83 bl_83 oz_83 ea_83 bs_83 is_83 sz_84 ag_84 by_84 ze_84 fo_84_0 fo_84_1 pl_84 bl_84 oz_84 ea_84 bs_84 is_84 sz_95 ag_95 by_95 ze_95 un_95 ixa_95 ixp_95 bl_95 oz_95 ea_95 bs_95 is_95 sz_101 ag_101 by_101 ze_101 un_101 ixa_101 ixp_101 bl_101 oz_101 ea_101 bs_101 is_101 sz_134 ag_134 by_134 ze_134 un_134 oz_134 ea_134 bs_134 is_134 sz_138 ag_138 by_138 ze_138 fo_138_0 fo_138_1 pl_138 bl_138 oz_138 ea_138 bs_138 is_138 sz_139 ag_139 by_139 ze_139 fo_139_0 fo_139_1 pl_139 bl_139 oz_139 ea_139 bs_139 is_139 sz_140 ag_140 by_140 ze_140 un_140 oz_140 ea_140 bs_140 is_140 sz_141 ag_141 by_141 ze_141 un_141 oz_141 ea_141 bs_141 is_141 sz_22 ag_22 by_22 ze_22 un_22 el_22 ix_22 ixr_22 sl_22 slr_22 sle_22 lpl_22 lpr_22 lpn_22 oz_22 ea_22 em_22 eap_22 ecp_22 bs_22 is_22 sz_23 ag_23 by_23 ze_23 un_23 el_23 ix_23 ixr_23 sl_23 slr_23 sle_23 lpl_23 lpr_23 lpn_23 oz_23 ea_23 em_23 eap_23 ecp_23 bs_23 is_23 sz_30 ag_30 by_30 ze_30 un_30 el_30 ix_30 ixr_30 sl_30 slr_30 sle_30 lpl_30 lpr_30 lpn_30 oz_30 ea_30 em_30 eap_30 ecp_30 bs_30 is_30 sz_33 ag_33 by_33 ze_33 un_33 el_33 ix_33 ixr_33 sl_33 slr_33 sle_33 lpl_33 lpr_33 lpn_33 oz_33 ea_33 em_33 eap_33 ecp_33 bs_33 is_33 sz_93 ag_93 by_93 ze_93 un_93 el_93 ix_93 ixr_93 sl_93 slr_93 sle_93 lpl_93 lpr_93 lpn_93 oz_93 ea_93 em_93 eap_93 ecp_93 bs_93 is_93 sz_94 ag_94 by_94 ze_94 un_94 el_94 ix_94 ixr_94 sl_94 slr_94 sle_94 lpl_94 lpr_94 lpn_94 oz_94 ea_94 em_94 eap_94 ecp_94 bs_94 is_94 sz_132 ag_132 by_132 ze_132 un_132 el_132 ix_132 ixr_132 sl_132 slr_132 sle_132 lpl_132 lpr_132 lpn_132 oz_132 ea_132 em_132 eap_132 ecp_132 bs_132 is_132 sz_38 ag_38 by_38 ze_38 un_38 el_38 ix_38 ixr_38 sl_38 slr_38 sle_38 lpl_38 lpr_38 lpn_38 oz_38 ea_38 em_38 eap_38 ecp_38 bs_38 is_38 cvi_2_2 cvi_2_3 cvi_2_5 cvi_2_12 cvi_2_21 cvi_2_134 cvi_2_141 cvi_3_2 cvi_3_3 cvi_3_5 cvi_3_12 cvi_3_21 cvi_3_134 cvi_3_141 cvi_5_2 cvi_5_3 cvi_5_5 cvi_5_12 cvi_5_21 cvi_5_134 cvi_5_141 cvi_12_2 cvi_12_3 cvi_12_5 cvi_12_12 cvi_12_21 cvi_12_134 cvi_12_141 cvi_21_2 cvi_21_3 cvi_21_5 cvi_21_12 cvi_21_21 cvi_21_134 cvi_21_141 cvi_134_2 cvi_134_3 cvi_134_5 cvi_134_12 cvi_134_21 cvi_134_134 cvi_134_141 cvi_141_2 cvi_141_3 cvi_141_5 cvi_141_12 cvi_141_21 cvi_141_134 cvi_141_141 rw_22_1 rw_23_0 rw_23_1 rw_23_5 rw_23_8 rw_23_12 rw_23_15 rw_30_0 rw_30_1 rw_30_3 rw_33_0 rw_33_1 rw_33_2 rw_33_3 rw_33_6 rw_33_7 rw_33_9 rw_33_10 rw_38_1 rw_132_1
end Go.Proofs.YtngcedklbinhjaaGreatDoor
