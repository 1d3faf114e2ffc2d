/- What the proof rests on, part 7: contracts of functions. No condition beyond what each states. -/
import Derived.Test.YtpggpdbipajchaaDoorZIoD6
namespace Go.Proofs.YtpggpdbipajchaaDoor
open Go.RowKit
set_option linter.all false
theorem sz_2 : tySize Tryd.prog 2 = some 1 := by kernel_rfl
theorem ag_2 : tyAgg Tryd.prog 2 = some false := by kernel_rfl
theorem by_2 : tyBytes Tryd.prog 2 = some 8 := by kernel_rfl
theorem ze_2 : zeroOf Tryd.prog 2 = some (.int .i64 0) := by kernel_rfl
theorem un_2 : Tryd.prog.underlying 2 = some (.int .i64) := by kernel_rfl
theorem oz_2 : ofVal (.int .i64 0) = .val (.int .i64 0) := rfl
theorem ea_2 {Γ : Ctx} (s : AS) (ρ : Operand → PV) : evEff Tryd.prog Γ s ρ (.alloc 2) = some (.own s.nx 1 0 0, upd s.ob s.nx (some (2, 1, [.val (.int .i64 0)])), s.nx + 1) := ea_of ze_2 (by kernel_rfl) rfl rfl s ρ
theorem bs_2 : isByteSlice Tryd.prog 2 = false := by kernel_rfl
theorem is_2 : isStr Tryd.prog 2 = false := by kernel_rfl
theorem sz_3 : tySize Tryd.prog 3 = some 1 := by kernel_rfl
theorem ag_3 : tyAgg Tryd.prog 3 = some false := by kernel_rfl
theorem by_3 : tyBytes Tryd.prog 3 = some 8 := by kernel_rfl
theorem ze_3 : zeroOf Tryd.prog 3 = some (.int .i64 0) := by kernel_rfl
theorem un_3 : Tryd.prog.underlying 3 = some (.int .i64) := by kernel_rfl
theorem oz_3 : ofVal (.int .i64 0) = .val (.int .i64 0) := rfl
theorem ea_3 {Γ : Ctx} (s : AS) (ρ : Operand → PV) : evEff Tryd.prog Γ s ρ (.alloc 3) = some (.own s.nx 1 0 0, upd s.ob s.nx (some (3, 1, [.val (.int .i64 0)])), s.nx + 1) := ea_of ze_3 (by kernel_rfl) rfl rfl s ρ
theorem bs_3 : isByteSlice Tryd.prog 3 = false := by kernel_rfl
theorem is_3 : isStr Tryd.prog 3 = false := by kernel_rfl
theorem sz_4 : tySize Tryd.prog 4 = some 1 := by kernel_rfl
theorem ag_4 : tyAgg Tryd.prog 4 = some false := by kernel_rfl
theorem by_4 : tyBytes Tryd.prog 4 = some 1 := by kernel_rfl
theorem ze_4 : zeroOf Tryd.prog 4 = some (.bool false) := by kernel_rfl
theorem un_4 : Tryd.prog.underlying 4 = some .bool := by kernel_rfl
theorem bqe_4 {x y : Operand} {a b : Bool} : binP Tryd.prog .eql 4 x y (some (.bool a)) (some (.bool b)) = some (.val (.bool (a == b))) := bp_eqlB un_4
theorem bqn_4 {x y : Operand} {a b : Bool} : binP Tryd.prog .neq 4 x y (some (.bool a)) (some (.bool b)) = some (.val (.bool (!(a == b)))) := bp_neqB un_4
theorem oz_4 : ofVal (.bool false) = .val (.bool false) := rfl
theorem ea_4 {Γ : Ctx} (s : AS) (ρ : Operand → PV) : evEff Tryd.prog Γ s ρ (.alloc 4) = some (.own s.nx 1 0 0, upd s.ob s.nx (some (4, 1, [.val (.bool false)])), s.nx + 1) := ea_of ze_4 (by kernel_rfl) rfl rfl s ρ
theorem bs_4 : isByteSlice Tryd.prog 4 = false := by kernel_rfl
theorem is_4 : isStr Tryd.prog 4 = false := by kernel_rfl
theorem sz_5 : tySize Tryd.prog 5 = some 1 := by kernel_rfl
theorem ag_5 : tyAgg Tryd.prog 5 = some false := by kernel_rfl
theorem by_5 : tyBytes Tryd.prog 5 = some 1 := by kernel_rfl
theorem ze_5 : zeroOf Tryd.prog 5 = some (.int .u8 0) := by kernel_rfl
theorem un_5 : Tryd.prog.underlying 5 = some (.int .u8) := by kernel_rfl
theorem oz_5 : ofVal (.int .u8 0) = .val (.int .u8 0) := rfl
theorem ea_5 {Γ : Ctx} (s : AS) (ρ : Operand → PV) : evEff Tryd.prog Γ s ρ (.alloc 5) = some (.own s.nx 1 0 0, upd s.ob s.nx (some (5, 1, [.val (.int .u8 0)])), s.nx + 1) := ea_of ze_5 (by kernel_rfl) rfl rfl s ρ
theorem bs_5 : isByteSlice Tryd.prog 5 = false := by kernel_rfl
theorem is_5 : isStr Tryd.prog 5 = false := by kernel_rfl
theorem sz_7 : tySize Tryd.prog 7 = some 4 := by kernel_rfl
theorem ag_7 : tyAgg Tryd.prog 7 = some true := by kernel_rfl
theorem by_7 : tyBytes Tryd.prog 7 = some 24 := by kernel_rfl
theorem ze_7 : zeroOf Tryd.prog 7 = some (.agg #[.int .i64 0, .int .i64 0, .bool false, .int .u8 0]) := by kernel_rfl
theorem fo_7_0 : fieldOff Tryd.prog 7 0 = some 0 := by kernel_rfl
theorem fo_7_1 : fieldOff Tryd.prog 7 1 = some 1 := by kernel_rfl
theorem fo_7_2 : fieldOff Tryd.prog 7 2 = some 2 := by kernel_rfl
theorem fo_7_3 : fieldOff Tryd.prog 7 3 = some 3 := by kernel_rfl
theorem pl_7 : structPlaces Tryd.prog 7 = some #[(0, 1), (1, 1), (2, 1), (3, 1)] := by kernel_rfl
theorem bl_7 (ps : List (Nat × PV)) : evBuild Tryd.prog 7 ps = (fillP (plF [(0, 1), (1, 1), (2, 1), (3, 1)]) [.val (.int .i64 0), .val (.int .i64 0), .val (.bool false), .val (.int .u8 0)] ps).map .agg := bl_of ze_7 rfl pl_7 ps
theorem oz_7 : ofVal (.agg #[.int .i64 0, .int .i64 0, .bool false, .int .u8 0]) = .agg [.val (.int .i64 0), .val (.int .i64 0), .val (.bool false), .val (.int .u8 0)] := rfl
theorem ea_7 {Γ : Ctx} (s : AS) (ρ : Operand → PV) : evEff Tryd.prog Γ s ρ (.alloc 7) = some (.own s.nx 4 0 0, upd s.ob s.nx (some (7, 4, [.agg [.val (.int .i64 0), .val (.int .i64 0), .val (.bool false), .val (.int .u8 0)]])), s.nx + 1) := ea_of ze_7 (by kernel_rfl) rfl rfl s ρ
theorem bz_7 {Γ : Ctx} {ob : Objs} {ρ : Operand → PV} {ty : Nat} : evVal Tryd.prog Γ ob ρ ty (.build 7 #[]) = some (.agg [.val (.int .i64 0), .val (.int .i64 0), .val (.bool false), .val (.int .u8 0)]) := (show evBuild Tryd.prog 7 [] = some (.agg [.val (.int .i64 0), .val (.int .i64 0), .val (.bool false), .val (.int .u8 0)]) from by kernel_rfl)
theorem bs_7 : isByteSlice Tryd.prog 7 = false := by kernel_rfl
theorem is_7 : isStr Tryd.prog 7 = false := by kernel_rfl
theorem sz_9 : tySize Tryd.prog 9 = some 1 := by kernel_rfl
theorem ag_9 : tyAgg Tryd.prog 9 = some false := by kernel_rfl
theorem by_9 : tyBytes Tryd.prog 9 = some 16 := by kernel_rfl
theorem ze_9 : zeroOf Tryd.prog 9 = some (.string ByteArray.empty) := by kernel_rfl
theorem un_9 : Tryd.prog.underlying 9 = some .string := by kernel_rfl
theorem lps_9 {ty : Nat} {s : ByteArray} : lenP Tryd.prog 9 ty (.val (.string s)) = some (.val (.int .i64 s.size)) := lp_str un_9
theorem ixs_9 {s : ByteArray} {i : Int} (h0 : 0 ≤ i) (h1 : i < s.size) : idxP Tryd.prog 9 (some (.string s)) (some (.int .i64 i)) = some (.val (.int .u8 (at8 s i.toNat))) := ix_str un_9 h0 h1
theorem oz_9 : ofVal (.string ByteArray.empty) = .val (.string ByteArray.empty) := rfl
theorem ea_9 {Γ : Ctx} (s : AS) (ρ : Operand → PV) : evEff Tryd.prog Γ s ρ (.alloc 9) = some (.own s.nx 1 0 0, upd s.ob s.nx (some (9, 1, [.val (.string ByteArray.empty)])), s.nx + 1) := ea_of ze_9 (by kernel_rfl) rfl rfl s ρ
theorem bs_9 : isByteSlice Tryd.prog 9 = false := by kernel_rfl
theorem is_9 : isStr Tryd.prog 9 = true := by kernel_rfl
theorem sz_12 : tySize Tryd.prog 12 = some 1 := by kernel_rfl
theorem ag_12 : tyAgg Tryd.prog 12 = some false := by kernel_rfl
theorem by_12 : tyBytes Tryd.prog 12 = some 8 := by kernel_rfl
theorem ze_12 : zeroOf Tryd.prog 12 = some (.int .u64 0) := by kernel_rfl
theorem un_12 : Tryd.prog.underlying 12 = some (.int .u64) := by kernel_rfl
theorem oz_12 : ofVal (.int .u64 0) = .val (.int .u64 0) := rfl
theorem ea_12 {Γ : Ctx} (s : AS) (ρ : Operand → PV) : evEff Tryd.prog Γ s ρ (.alloc 12) = some (.own s.nx 1 0 0, upd s.ob s.nx (some (12, 1, [.val (.int .u64 0)])), s.nx + 1) := ea_of ze_12 (by kernel_rfl) rfl rfl s ρ
theorem bs_12 : isByteSlice Tryd.prog 12 = false := by kernel_rfl
theorem is_12 : isStr Tryd.prog 12 = false := by kernel_rfl
theorem sz_13 : tySize Tryd.prog 13 = some 2 := by kernel_rfl
theorem ag_13 : tyAgg Tryd.prog 13 = some true := by kernel_rfl
theorem by_13 : tyBytes Tryd.prog 13 = some 24 := by kernel_rfl
theorem ze_13 : zeroOf Tryd.prog 13 = some (.agg #[.string ByteArray.empty, .int .u64 0]) := by kernel_rfl
theorem fo_13_0 : fieldOff Tryd.prog 13 0 = some 0 := by kernel_rfl
theorem fo_13_1 : fieldOff Tryd.prog 13 1 = some 1 := by kernel_rfl
theorem pl_13 : structPlaces Tryd.prog 13 = some #[(0, 1), (1, 1)] := by kernel_rfl
theorem bl_13 (ps : List (Nat × PV)) : evBuild Tryd.prog 13 ps = (fillP (plF [(0, 1), (1, 1)]) [.val (.string ByteArray.empty), .val (.int .u64 0)] ps).map .agg := bl_of ze_13 rfl pl_13 ps
theorem oz_13 : ofVal (.agg #[.string ByteArray.empty, .int .u64 0]) = .agg [.val (.string ByteArray.empty), .val (.int .u64 0)] := rfl
theorem ea_13 {Γ : Ctx} (s : AS) (ρ : Operand → PV) : evEff Tryd.prog Γ s ρ (.alloc 13) = some (.own s.nx 2 0 0, upd s.ob s.nx (some (13, 2, [.agg [.val (.string ByteArray.empty), .val (.int .u64 0)]])), s.nx + 1) := ea_of ze_13 (by kernel_rfl) rfl rfl s ρ
theorem bz_13 {Γ : Ctx} {ob : Objs} {ρ : Operand → PV} {ty : Nat} : evVal Tryd.prog Γ ob ρ ty (.build 13 #[]) = some (.agg [.val (.string ByteArray.empty), .val (.int .u64 0)]) := (show evBuild Tryd.prog 13 [] = some (.agg [.val (.string ByteArray.empty), .val (.int .u64 0)]) from by kernel_rfl)
theorem bs_13 : isByteSlice Tryd.prog 13 = false := by kernel_rfl
theorem is_13 : isStr Tryd.prog 13 = false := by kernel_rfl
theorem sz_21 : tySize Tryd.prog 21 = some 1 := by kernel_rfl
theorem ag_21 : tyAgg Tryd.prog 21 = some false := by kernel_rfl
theorem by_21 : tyBytes Tryd.prog 21 = some 4 := by kernel_rfl
theorem ze_21 : zeroOf Tryd.prog 21 = some (.int .i32 0) := by kernel_rfl
theorem un_21 : Tryd.prog.underlying 21 = some (.int .i32) := by kernel_rfl
theorem oz_21 : ofVal (.int .i32 0) = .val (.int .i32 0) := rfl
theorem ea_21 {Γ : Ctx} (s : AS) (ρ : Operand → PV) : evEff Tryd.prog Γ s ρ (.alloc 21) = some (.own s.nx 1 0 0, upd s.ob s.nx (some (21, 1, [.val (.int .i32 0)])), s.nx + 1) := ea_of ze_21 (by kernel_rfl) rfl rfl s ρ
theorem bs_21 : isByteSlice Tryd.prog 21 = false := by kernel_rfl
theorem is_21 : isStr Tryd.prog 21 = false := by kernel_rfl
theorem sz_25 : tySize Tryd.prog 25 = some 2 := by kernel_rfl
theorem ag_25 : tyAgg Tryd.prog 25 = some true := by kernel_rfl
theorem by_25 : tyBytes Tryd.prog 25 = some 32 := by kernel_rfl
theorem ze_25 : zeroOf Tryd.prog 25 = some (.agg #[.int .i64 0, .slice none 0 0]) := by kernel_rfl
theorem fo_25_0 : fieldOff Tryd.prog 25 0 = some 0 := by kernel_rfl
theorem fo_25_1 : fieldOff Tryd.prog 25 1 = some 1 := by kernel_rfl
theorem pl_25 : structPlaces Tryd.prog 25 = some #[(0, 1), (1, 1)] := by kernel_rfl
theorem bl_25 (ps : List (Nat × PV)) : evBuild Tryd.prog 25 ps = (fillP (plF [(0, 1), (1, 1)]) [.val (.int .i64 0), .val (.slice none 0 0)] ps).map .agg := bl_of ze_25 rfl pl_25 ps
theorem oz_25 : ofVal (.agg #[.int .i64 0, .slice none 0 0]) = .agg [.val (.int .i64 0), .val (.slice none 0 0)] := rfl
theorem ea_25 {Γ : Ctx} (s : AS) (ρ : Operand → PV) : evEff Tryd.prog Γ s ρ (.alloc 25) = some (.own s.nx 2 0 0, upd s.ob s.nx (some (25, 2, [.agg [.val (.int .i64 0), .val (.slice none 0 0)]])), s.nx + 1) := ea_of ze_25 (by kernel_rfl) rfl rfl s ρ
theorem bz_25 {Γ : Ctx} {ob : Objs} {ρ : Operand → PV} {ty : Nat} : evVal Tryd.prog Γ ob ρ ty (.build 25 #[]) = some (.agg [.val (.int .i64 0), .val (.slice none 0 0)]) := (show evBuild Tryd.prog 25 [] = some (.agg [.val (.int .i64 0), .val (.slice none 0 0)]) from by kernel_rfl)
theorem bs_25 : isByteSlice Tryd.prog 25 = false := by kernel_rfl
theorem is_25 : isStr Tryd.prog 25 = false := by kernel_rfl
theorem sz_26 : tySize Tryd.prog 26 = some 2 := by kernel_rfl
theorem ag_26 : tyAgg Tryd.prog 26 = some true := by kernel_rfl
theorem by_26 : tyBytes Tryd.prog 26 = some 32 := by kernel_rfl
theorem ze_26 : zeroOf Tryd.prog 26 = some (.agg #[.int .i64 0, .slice none 0 0]) := by kernel_rfl
theorem fo_26_0 : fieldOff Tryd.prog 26 0 = some 0 := by kernel_rfl
theorem fo_26_1 : fieldOff Tryd.prog 26 1 = some 1 := by kernel_rfl
theorem pl_26 : structPlaces Tryd.prog 26 = some #[(0, 1), (1, 1)] := by kernel_rfl
theorem bl_26 (ps : List (Nat × PV)) : evBuild Tryd.prog 26 ps = (fillP (plF [(0, 1), (1, 1)]) [.val (.int .i64 0), .val (.slice none 0 0)] ps).map .agg := bl_of ze_26 rfl pl_26 ps
theorem oz_26 : ofVal (.agg #[.int .i64 0, .slice none 0 0]) = .agg [.val (.int .i64 0), .val (.slice none 0 0)] := rfl
theorem ea_26 {Γ : Ctx} (s : AS) (ρ : Operand → PV) : evEff Tryd.prog Γ s ρ (.alloc 26) = some (.own s.nx 2 0 0, upd s.ob s.nx (some (26, 2, [.agg [.val (.int .i64 0), .val (.slice none 0 0)]])), s.nx + 1) := ea_of ze_26 (by kernel_rfl) rfl rfl s ρ
theorem bz_26 {Γ : Ctx} {ob : Objs} {ρ : Operand → PV} {ty : Nat} : evVal Tryd.prog Γ ob ρ ty (.build 26 #[]) = some (.agg [.val (.int .i64 0), .val (.slice none 0 0)]) := (show evBuild Tryd.prog 26 [] = some (.agg [.val (.int .i64 0), .val (.slice none 0 0)]) from by kernel_rfl)
theorem bs_26 : isByteSlice Tryd.prog 26 = false := by kernel_rfl
theorem is_26 : isStr Tryd.prog 26 = false := by kernel_rfl
theorem sz_60 : tySize Tryd.prog 60 = some 2 := by kernel_rfl
theorem ag_60 : tyAgg Tryd.prog 60 = some true := by kernel_rfl
theorem by_60 : tyBytes Tryd.prog 60 = some 24 := by kernel_rfl
theorem ze_60 : zeroOf Tryd.prog 60 = some (.agg #[.string ByteArray.empty, .int .i64 0]) := by kernel_rfl
theorem fo_60_0 : fieldOff Tryd.prog 60 0 = some 0 := by kernel_rfl
theorem fo_60_1 : fieldOff Tryd.prog 60 1 = some 1 := by kernel_rfl
theorem pl_60 : structPlaces Tryd.prog 60 = some #[(0, 1), (1, 1)] := by kernel_rfl
theorem bl_60 (ps : List (Nat × PV)) : evBuild Tryd.prog 60 ps = (fillP (plF [(0, 1), (1, 1)]) [.val (.string ByteArray.empty), .val (.int .i64 0)] ps).map .agg := bl_of ze_60 rfl pl_60 ps
theorem oz_60 : ofVal (.agg #[.string ByteArray.empty, .int .i64 0]) = .agg [.val (.string ByteArray.empty), .val (.int .i64 0)] := rfl
theorem ea_60 {Γ : Ctx} (s : AS) (ρ : Operand → PV) : evEff Tryd.prog Γ s ρ (.alloc 60) = some (.own s.nx 2 0 0, upd s.ob s.nx (some (60, 2, [.agg [.val (.string ByteArray.empty), .val (.int .i64 0)]])), s.nx + 1) := ea_of ze_60 (by kernel_rfl) rfl rfl s ρ
theorem bz_60 {Γ : Ctx} {ob : Objs} {ρ : Operand → PV} {ty : Nat} : evVal Tryd.prog Γ ob ρ ty (.build 60 #[]) = some (.agg [.val (.string ByteArray.empty), .val (.int .i64 0)]) := (show evBuild Tryd.prog 60 [] = some (.agg [.val (.string ByteArray.empty), .val (.int .i64 0)]) from by kernel_rfl)
theorem bs_60 : isByteSlice Tryd.prog 60 = false := by kernel_rfl
theorem is_60 : isStr Tryd.prog 60 = false := by kernel_rfl
theorem sz_61 : tySize Tryd.prog 61 = some 2 := by kernel_rfl
theorem ag_61 : tyAgg Tryd.prog 61 = some true := by kernel_rfl
theorem by_61 : tyBytes Tryd.prog 61 = some 24 := by kernel_rfl
theorem ze_61 : zeroOf Tryd.prog 61 = some (.agg #[.string ByteArray.empty, .int .i64 0]) := by kernel_rfl
theorem fo_61_0 : fieldOff Tryd.prog 61 0 = some 0 := by kernel_rfl
theorem fo_61_1 : fieldOff Tryd.prog 61 1 = some 1 := by kernel_rfl
theorem pl_61 : structPlaces Tryd.prog 61 = some #[(0, 1), (1, 1)] := by kernel_rfl
theorem bl_61 (ps : List (Nat × PV)) : evBuild Tryd.prog 61 ps = (fillP (plF [(0, 1), (1, 1)]) [.val (.string ByteArray.empty), .val (.int .i64 0)] ps).map .agg := bl_of ze_61 rfl pl_61 ps
theorem oz_61 : ofVal (.agg #[.string ByteArray.empty, .int .i64 0]) = .agg [.val (.string ByteArray.empty), .val (.int .i64 0)] := rfl
theorem ea_61 {Γ : Ctx} (s : AS) (ρ : Operand → PV) : evEff Tryd.prog Γ s ρ (.alloc 61) = some (.own s.nx 2 0 0, upd s.ob s.nx (some (61, 2, [.agg [.val (.string ByteArray.empty), .val (.int .i64 0)]])), s.nx + 1) := ea_of ze_61 (by kernel_rfl) rfl rfl s ρ
theorem bz_61 {Γ : Ctx} {ob : Objs} {ρ : Operand → PV} {ty : Nat} : evVal Tryd.prog Γ ob ρ ty (.build 61 #[]) = some (.agg [.val (.string ByteArray.empty), .val (.int .i64 0)]) := (show evBuild Tryd.prog 61 [] = some (.agg [.val (.string ByteArray.empty), .val (.int .i64 0)]) from by kernel_rfl)
theorem fd_61 : Tryd.prog.underlying 61 = some (.struct (Go.Program.fieldsOf Tryd.prog 61)) := by kernel_rfl
theorem ef_61 {a0 b0 : ByteArray} {a1 b1 : Int} : eqFl Tryd.prog [.string a0, .int .i64 a1] [.string b0, .int .i64 b1] (Go.Program.fieldsOf Tryd.prog 61).toList = some ((a0.toList == b0.toList) && ((a1 == b1) && true)) := by kernel_rfl
theorem sqeql_61 {x y : Operand} {a0 b0 : ByteArray} {a1 b1 : Int} : binP Tryd.prog .eql 61 x y (some (.agg #[.string a0, .int .i64 a1])) (some (.agg #[.string b0, .int .i64 b1])) = some (.val (.bool ((a0.toList == b0.toList) && ((a1 == b1) && true)))) := bp_eqlA fd_61 (by kernel_rfl) (by kernel_rfl) ef_61
theorem sqneq_61 {x y : Operand} {a0 b0 : ByteArray} {a1 b1 : Int} : binP Tryd.prog .neq 61 x y (some (.agg #[.string a0, .int .i64 a1])) (some (.agg #[.string b0, .int .i64 b1])) = some (.val (.bool (!((a0.toList == b0.toList) && ((a1 == b1) && true))))) := bp_neqA fd_61 (by kernel_rfl) (by kernel_rfl) ef_61
theorem bs_61 : isByteSlice Tryd.prog 61 = false := by kernel_rfl
theorem is_61 : isStr Tryd.prog 61 = false := by kernel_rfl
theorem sz_73 : tySize Tryd.prog 73 = some 4 := by kernel_rfl
theorem ag_73 : tyAgg Tryd.prog 73 = some true := by kernel_rfl
theorem by_73 : tyBytes Tryd.prog 73 = some 32 := by kernel_rfl
theorem ze_73 : zeroOf Tryd.prog 73 = some (.agg #[.int .i64 0, .int .i64 0, .int .i64 0, .int .i64 0]) := by kernel_rfl
theorem fo_73_0 : fieldOff Tryd.prog 73 0 = some 0 := by kernel_rfl
theorem fo_73_1 : fieldOff Tryd.prog 73 1 = some 1 := by kernel_rfl
theorem fo_73_2 : fieldOff Tryd.prog 73 2 = some 2 := by kernel_rfl
theorem fo_73_3 : fieldOff Tryd.prog 73 3 = some 3 := by kernel_rfl
theorem pl_73 : structPlaces Tryd.prog 73 = some #[(0, 1), (1, 1), (2, 1), (3, 1)] := by kernel_rfl
theorem bl_73 (ps : List (Nat × PV)) : evBuild Tryd.prog 73 ps = (fillP (plF [(0, 1), (1, 1), (2, 1), (3, 1)]) [.val (.int .i64 0), .val (.int .i64 0), .val (.int .i64 0), .val (.int .i64 0)] ps).map .agg := bl_of ze_73 rfl pl_73 ps
theorem oz_73 : ofVal (.agg #[.int .i64 0, .int .i64 0, .int .i64 0, .int .i64 0]) = .agg [.val (.int .i64 0), .val (.int .i64 0), .val (.int .i64 0), .val (.int .i64 0)] := rfl
theorem ea_73 {Γ : Ctx} (s : AS) (ρ : Operand → PV) : evEff Tryd.prog Γ s ρ (.alloc 73) = some (.own s.nx 4 0 0, upd s.ob s.nx (some (73, 4, [.agg [.val (.int .i64 0), .val (.int .i64 0), .val (.int .i64 0), .val (.int .i64 0)]])), s.nx + 1) := ea_of ze_73 (by kernel_rfl) rfl rfl s ρ
theorem bz_73 {Γ : Ctx} {ob : Objs} {ρ : Operand → PV} {ty : Nat} : evVal Tryd.prog Γ ob ρ ty (.build 73 #[]) = some (.agg [.val (.int .i64 0), .val (.int .i64 0), .val (.int .i64 0), .val (.int .i64 0)]) := (show evBuild Tryd.prog 73 [] = some (.agg [.val (.int .i64 0), .val (.int .i64 0), .val (.int .i64 0), .val (.int .i64 0)]) from by kernel_rfl)
theorem bs_73 : isByteSlice Tryd.prog 73 = false := by kernel_rfl
theorem is_73 : isStr Tryd.prog 73 = false := by kernel_rfl
theorem sz_74 : tySize Tryd.prog 74 = some 4 := by kernel_rfl
theorem ag_74 : tyAgg Tryd.prog 74 = some true := by kernel_rfl
theorem by_74 : tyBytes Tryd.prog 74 = some 32 := by kernel_rfl
theorem ze_74 : zeroOf Tryd.prog 74 = some (.agg #[.int .i64 0, .int .i64 0, .int .i64 0, .int .i64 0]) := by kernel_rfl
theorem fo_74_0 : fieldOff Tryd.prog 74 0 = some 0 := by kernel_rfl
theorem fo_74_1 : fieldOff Tryd.prog 74 1 = some 1 := by kernel_rfl
theorem fo_74_2 : fieldOff Tryd.prog 74 2 = some 2 := by kernel_rfl
theorem fo_74_3 : fieldOff Tryd.prog 74 3 = some 3 := by kernel_rfl
theorem pl_74 : structPlaces Tryd.prog 74 = some #[(0, 1), (1, 1), (2, 1), (3, 1)] := by kernel_rfl
theorem bl_74 (ps : List (Nat × PV)) : evBuild Tryd.prog 74 ps = (fillP (plF [(0, 1), (1, 1), (2, 1), (3, 1)]) [.val (.int .i64 0), .val (.int .i64 0), .val (.int .i64 0), .val (.int .i64 0)] ps).map .agg := bl_of ze_74 rfl pl_74 ps
theorem oz_74 : ofVal (.agg #[.int .i64 0, .int .i64 0, .int .i64 0, .int .i64 0]) = .agg [.val (.int .i64 0), .val (.int .i64 0), .val (.int .i64 0), .val (.int .i64 0)] := rfl
theorem ea_74 {Γ : Ctx} (s : AS) (ρ : Operand → PV) : evEff Tryd.prog Γ s ρ (.alloc 74) = some (.own s.nx 4 0 0, upd s.ob s.nx (some (74, 4, [.agg [.val (.int .i64 0), .val (.int .i64 0), .val (.int .i64 0), .val (.int .i64 0)]])), s.nx + 1) := ea_of ze_74 (by kernel_rfl) rfl rfl s ρ
theorem bz_74 {Γ : Ctx} {ob : Objs} {ρ : Operand → PV} {ty : Nat} : evVal Tryd.prog Γ ob ρ ty (.build 74 #[]) = some (.agg [.val (.int .i64 0), .val (.int .i64 0), .val (.int .i64 0), .val (.int .i64 0)]) := (show evBuild Tryd.prog 74 [] = some (.agg [.val (.int .i64 0), .val (.int .i64 0), .val (.int .i64 0), .val (.int .i64 0)]) from by kernel_rfl)
theorem fd_74 : Tryd.prog.underlying 74 = some (.struct (Go.Program.fieldsOf Tryd.prog 74)) := by kernel_rfl
theorem ef_74 {a0 b0 : Int} {a1 b1 : Int} {a2 b2 : Int} {a3 b3 : Int} : eqFl Tryd.prog [.int .i64 a0, .int .i64 a1, .int .i64 a2, .int .i64 a3] [.int .i64 b0, .int .i64 b1, .int .i64 b2, .int .i64 b3] (Go.Program.fieldsOf Tryd.prog 74).toList = some ((a0 == b0) && ((a1 == b1) && ((a2 == b2) && ((a3 == b3) && true)))) := by kernel_rfl
theorem sqeql_74 {x y : Operand} {a0 b0 : Int} {a1 b1 : Int} {a2 b2 : Int} {a3 b3 : Int} : binP Tryd.prog .eql 74 x y (some (.agg #[.int .i64 a0, .int .i64 a1, .int .i64 a2, .int .i64 a3])) (some (.agg #[.int .i64 b0, .int .i64 b1, .int .i64 b2, .int .i64 b3])) = some (.val (.bool ((a0 == b0) && ((a1 == b1) && ((a2 == b2) && ((a3 == b3) && true)))))) := bp_eqlA fd_74 (by kernel_rfl) (by kernel_rfl) ef_74
theorem sqneq_74 {x y : Operand} {a0 b0 : Int} {a1 b1 : Int} {a2 b2 : Int} {a3 b3 : Int} : binP Tryd.prog .neq 74 x y (some (.agg #[.int .i64 a0, .int .i64 a1, .int .i64 a2, .int .i64 a3])) (some (.agg #[.int .i64 b0, .int .i64 b1, .int .i64 b2, .int .i64 b3])) = some (.val (.bool (!((a0 == b0) && ((a1 == b1) && ((a2 == b2) && ((a3 == b3) && true))))))) := bp_neqA fd_74 (by kernel_rfl) (by kernel_rfl) ef_74
theorem bs_74 : isByteSlice Tryd.prog 74 = false := by kernel_rfl
theorem is_74 : isStr Tryd.prog 74 = false := by kernel_rfl
theorem sz_80 : tySize Tryd.prog 80 = some 2 := by kernel_rfl
theorem ag_80 : tyAgg Tryd.prog 80 = some true := by kernel_rfl
theorem by_80 : tyBytes Tryd.prog 80 = some 16 := by kernel_rfl
theorem ze_80 : zeroOf Tryd.prog 80 = some (.agg #[.int .i64 0, .int .i64 0]) := by kernel_rfl
theorem un_80 : Tryd.prog.underlying 80 = some (.array 2 3) := by kernel_rfl
theorem ixa_80 {o sz j f : Nat} {i : Int} (h0 : 0 ≤ i) (h1 : i < 2) : evIndexAddr Tryd.prog 80 (.own o sz j f) i = some (.own o sz j (f + i.toNat)) := by rw [ixa_of un_80 sz_3 h0 h1, Nat.mul_one]
theorem ixp_80 {k : Bool} {x : PV} {f : Nat} {i : Int} (h0 : 0 ≤ i) (h1 : i < 2) : evIndexAddr Tryd.prog 80 (.ptr k x f) i = some (.ptr k x (f + i.toNat)) := by rw [ixap_of un_80 sz_3 h0 h1, Nat.mul_one]
theorem bl_80 (ps : List (Nat × PV)) : evBuild Tryd.prog 80 ps = (fillP (plF [(0, 1), (1, 1)]) [.val (.int .i64 0), .val (.int .i64 0)] ps).map .agg := bla_of ze_80 rfl (by kernel_rfl) (pl := #[(0, 1), (1, 1)]) (by kernel_rfl) ps
theorem oz_80 : ofVal (.agg #[.int .i64 0, .int .i64 0]) = .agg [.val (.int .i64 0), .val (.int .i64 0)] := rfl
theorem ea_80 {Γ : Ctx} (s : AS) (ρ : Operand → PV) : evEff Tryd.prog Γ s ρ (.alloc 80) = some (.own s.nx 2 0 0, upd s.ob s.nx (some (80, 2, [.agg [.val (.int .i64 0), .val (.int .i64 0)]])), s.nx + 1) := ea_of ze_80 (by kernel_rfl) rfl rfl s ρ
theorem bs_80 : isByteSlice Tryd.prog 80 = false := by kernel_rfl
theorem is_80 : isStr Tryd.prog 80 = false := by kernel_rfl
theorem sz_90 : tySize Tryd.prog 90 = some 2 := by kernel_rfl
theorem ag_90 : tyAgg Tryd.prog 90 = some true := by kernel_rfl
theorem by_90 : tyBytes Tryd.prog 90 = some 24 := by kernel_rfl
theorem ze_90 : zeroOf Tryd.prog 90 = some (.agg #[.string ByteArray.empty, .int .i64 0]) := by kernel_rfl
theorem fo_90_0 : fieldOff Tryd.prog 90 0 = some 0 := by kernel_rfl
theorem fo_90_1 : fieldOff Tryd.prog 90 1 = some 1 := by kernel_rfl
theorem pl_90 : structPlaces Tryd.prog 90 = some #[(0, 1), (1, 1)] := by kernel_rfl
theorem bl_90 (ps : List (Nat × PV)) : evBuild Tryd.prog 90 ps = (fillP (plF [(0, 1), (1, 1)]) [.val (.string ByteArray.empty), .val (.int .i64 0)] ps).map .agg := bl_of ze_90 rfl pl_90 ps
theorem oz_90 : ofVal (.agg #[.string ByteArray.empty, .int .i64 0]) = .agg [.val (.string ByteArray.empty), .val (.int .i64 0)] := rfl
theorem ea_90 {Γ : Ctx} (s : AS) (ρ : Operand → PV) : evEff Tryd.prog Γ s ρ (.alloc 90) = some (.own s.nx 2 0 0, upd s.ob s.nx (some (90, 2, [.agg [.val (.string ByteArray.empty), .val (.int .i64 0)]])), s.nx + 1) := ea_of ze_90 (by kernel_rfl) rfl rfl s ρ
theorem bz_90 {Γ : Ctx} {ob : Objs} {ρ : Operand → PV} {ty : Nat} : evVal Tryd.prog Γ ob ρ ty (.build 90 #[]) = some (.agg [.val (.string ByteArray.empty), .val (.int .i64 0)]) := (show evBuild Tryd.prog 90 [] = some (.agg [.val (.string ByteArray.empty), .val (.int .i64 0)]) from by kernel_rfl)
theorem fd_90 : Tryd.prog.underlying 90 = some (.struct (Go.Program.fieldsOf Tryd.prog 90)) := by kernel_rfl
theorem ef_90 {a0 b0 : ByteArray} {a1 b1 : Int} : eqFl Tryd.prog [.string a0, .int .i64 a1] [.string b0, .int .i64 b1] (Go.Program.fieldsOf Tryd.prog 90).toList = some ((a0.toList == b0.toList) && ((a1 == b1) && true)) := by kernel_rfl
theorem sqeql_90 {x y : Operand} {a0 b0 : ByteArray} {a1 b1 : Int} : binP Tryd.prog .eql 90 x y (some (.agg #[.string a0, .int .i64 a1])) (some (.agg #[.string b0, .int .i64 b1])) = some (.val (.bool ((a0.toList == b0.toList) && ((a1 == b1) && true)))) := bp_eqlA fd_90 (by kernel_rfl) (by kernel_rfl) ef_90
theorem sqneq_90 {x y : Operand} {a0 b0 : ByteArray} {a1 b1 : Int} : binP Tryd.prog .neq 90 x y (some (.agg #[.string a0, .int .i64 a1])) (some (.agg #[.string b0, .int .i64 b1])) = some (.val (.bool (!((a0.toList == b0.toList) && ((a1 == b1) && true))))) := bp_neqA fd_90 (by kernel_rfl) (by kernel_rfl) ef_90
theorem bs_90 : isByteSlice Tryd.prog 90 = false := by kernel_rfl
theorem is_90 : isStr Tryd.prog 90 = false := by kernel_rfl
theorem sz_101 : tySize Tryd.prog 101 = some 2 := by kernel_rfl
theorem ag_101 : tyAgg Tryd.prog 101 = some true := by kernel_rfl
theorem by_101 : tyBytes Tryd.prog 101 = some 32 := by kernel_rfl
theorem ze_101 : zeroOf Tryd.prog 101 = some (.agg #[.slice none 0 0, .int .i64 0]) := by kernel_rfl
theorem fo_101_0 : fieldOff Tryd.prog 101 0 = some 0 := by kernel_rfl
theorem fo_101_1 : fieldOff Tryd.prog 101 1 = some 1 := by kernel_rfl
theorem pl_101 : structPlaces Tryd.prog 101 = some #[(0, 1), (1, 1)] := by kernel_rfl
theorem bl_101 (ps : List (Nat × PV)) : evBuild Tryd.prog 101 ps = (fillP (plF [(0, 1), (1, 1)]) [.val (.slice none 0 0), .val (.int .i64 0)] ps).map .agg := bl_of ze_101 rfl pl_101 ps
theorem oz_101 : ofVal (.agg #[.slice none 0 0, .int .i64 0]) = .agg [.val (.slice none 0 0), .val (.int .i64 0)] := rfl
theorem ea_101 {Γ : Ctx} (s : AS) (ρ : Operand → PV) : evEff Tryd.prog Γ s ρ (.alloc 101) = some (.own s.nx 2 0 0, upd s.ob s.nx (some (101, 2, [.agg [.val (.slice none 0 0), .val (.int .i64 0)]])), s.nx + 1) := ea_of ze_101 (by kernel_rfl) rfl rfl s ρ
theorem bz_101 {Γ : Ctx} {ob : Objs} {ρ : Operand → PV} {ty : Nat} : evVal Tryd.prog Γ ob ρ ty (.build 101 #[]) = some (.agg [.val (.slice none 0 0), .val (.int .i64 0)]) := (show evBuild Tryd.prog 101 [] = some (.agg [.val (.slice none 0 0), .val (.int .i64 0)]) from by kernel_rfl)
theorem bs_101 : isByteSlice Tryd.prog 101 = false := by kernel_rfl
theorem is_101 : isStr Tryd.prog 101 = false := by kernel_rfl
theorem sz_102 : tySize Tryd.prog 102 = some 2 := by kernel_rfl
theorem ag_102 : tyAgg Tryd.prog 102 = some true := by kernel_rfl
theorem by_102 : tyBytes Tryd.prog 102 = some 32 := by kernel_rfl
theorem ze_102 : zeroOf Tryd.prog 102 = some (.agg #[.slice none 0 0, .int .i64 0]) := by kernel_rfl
theorem fo_102_0 : fieldOff Tryd.prog 102 0 = some 0 := by kernel_rfl
theorem fo_102_1 : fieldOff Tryd.prog 102 1 = some 1 := by kernel_rfl
theorem pl_102 : structPlaces Tryd.prog 102 = some #[(0, 1), (1, 1)] := by kernel_rfl
theorem bl_102 (ps : List (Nat × PV)) : evBuild Tryd.prog 102 ps = (fillP (plF [(0, 1), (1, 1)]) [.val (.slice none 0 0), .val (.int .i64 0)] ps).map .agg := bl_of ze_102 rfl pl_102 ps
theorem oz_102 : ofVal (.agg #[.slice none 0 0, .int .i64 0]) = .agg [.val (.slice none 0 0), .val (.int .i64 0)] := rfl
theorem ea_102 {Γ : Ctx} (s : AS) (ρ : Operand → PV) : evEff Tryd.prog Γ s ρ (.alloc 102) = some (.own s.nx 2 0 0, upd s.ob s.nx (some (102, 2, [.agg [.val (.slice none 0 0), .val (.int .i64 0)]])), s.nx + 1) := ea_of ze_102 (by kernel_rfl) rfl rfl s ρ
theorem bz_102 {Γ : Ctx} {ob : Objs} {ρ : Operand → PV} {ty : Nat} : evVal Tryd.prog Γ ob ρ ty (.build 102 #[]) = some (.agg [.val (.slice none 0 0), .val (.int .i64 0)]) := (show evBuild Tryd.prog 102 [] = some (.agg [.val (.slice none 0 0), .val (.int .i64 0)]) from by kernel_rfl)
theorem bs_102 : isByteSlice Tryd.prog 102 = false := by kernel_rfl
theorem is_102 : isStr Tryd.prog 102 = false := by kernel_rfl
theorem sz_127 : tySize Tryd.prog 127 = some 1 := by kernel_rfl
theorem ag_127 : tyAgg Tryd.prog 127 = some false := by kernel_rfl
theorem by_127 : tyBytes Tryd.prog 127 = some 8 := by kernel_rfl
theorem ze_127 : zeroOf Tryd.prog 127 = some (.int .u64 0) := by kernel_rfl
theorem un_127 : Tryd.prog.underlying 127 = some (.int .u64) := by kernel_rfl
theorem oz_127 : ofVal (.int .u64 0) = .val (.int .u64 0) := rfl
theorem ea_127 {Γ : Ctx} (s : AS) (ρ : Operand → PV) : evEff Tryd.prog Γ s ρ (.alloc 127) = some (.own s.nx 1 0 0, upd s.ob s.nx (some (127, 1, [.val (.int .u64 0)])), s.nx + 1) := ea_of ze_127 (by kernel_rfl) rfl rfl s ρ
theorem bs_127 : isByteSlice Tryd.prog 127 = false := by kernel_rfl
theorem is_127 : isStr Tryd.prog 127 = false := by kernel_rfl
theorem sz_143 : tySize Tryd.prog 143 = some 1 := by kernel_rfl
theorem ag_143 : tyAgg Tryd.prog 143 = some false := by kernel_rfl
theorem by_143 : tyBytes Tryd.prog 143 = some 8 := by kernel_rfl
theorem ze_143 : zeroOf Tryd.prog 143 = some (.int .i64 0) := by kernel_rfl
theorem un_143 : Tryd.prog.underlying 143 = some (.int .i64) := by kernel_rfl
theorem oz_143 : ofVal (.int .i64 0) = .val (.int .i64 0) := rfl
theorem ea_143 {Γ : Ctx} (s : AS) (ρ : Operand → PV) : evEff Tryd.prog Γ s ρ (.alloc 143) = some (.own s.nx 1 0 0, upd s.ob s.nx (some (143, 1, [.val (.int .i64 0)])), s.nx + 1) := ea_of ze_143 (by kernel_rfl) rfl rfl s ρ
theorem bs_143 : isByteSlice Tryd.prog 143 = false := by kernel_rfl
theorem is_143 : isStr Tryd.prog 143 = false := by kernel_rfl
theorem sz_152 : tySize Tryd.prog 152 = some 1 := by kernel_rfl
theorem ag_152 : tyAgg Tryd.prog 152 = some false := by kernel_rfl
theorem by_152 : tyBytes Tryd.prog 152 = some 4 := by kernel_rfl
theorem ze_152 : zeroOf Tryd.prog 152 = some (.int .u32 0) := by kernel_rfl
theorem un_152 : Tryd.prog.underlying 152 = some (.int .u32) := by kernel_rfl
theorem oz_152 : ofVal (.int .u32 0) = .val (.int .u32 0) := rfl
theorem ea_152 {Γ : Ctx} (s : AS) (ρ : Operand → PV) : evEff Tryd.prog Γ s ρ (.alloc 152) = some (.own s.nx 1 0 0, upd s.ob s.nx (some (152, 1, [.val (.int .u32 0)])), s.nx + 1) := ea_of ze_152 (by kernel_rfl) rfl rfl s ρ
theorem bs_152 : isByteSlice Tryd.prog 152 = false := by kernel_rfl
theorem is_152 : isStr Tryd.prog 152 = false := by kernel_rfl
theorem sz_154 : tySize Tryd.prog 154 = some 1 := by kernel_rfl
theorem ag_154 : tyAgg Tryd.prog 154 = some false := by kernel_rfl
theorem by_154 : tyBytes Tryd.prog 154 = some 8 := by kernel_rfl
theorem ze_154 : zeroOf Tryd.prog 154 = some (.int .u64 0) := by kernel_rfl
theorem un_154 : Tryd.prog.underlying 154 = some (.int .u64) := by kernel_rfl
theorem oz_154 : ofVal (.int .u64 0) = .val (.int .u64 0) := rfl
theorem ea_154 {Γ : Ctx} (s : AS) (ρ : Operand → PV) : evEff Tryd.prog Γ s ρ (.alloc 154) = some (.own s.nx 1 0 0, upd s.ob s.nx (some (154, 1, [.val (.int .u64 0)])), s.nx + 1) := ea_of ze_154 (by kernel_rfl) rfl rfl s ρ
theorem bs_154 : isByteSlice Tryd.prog 154 = false := by kernel_rfl
theorem is_154 : isStr Tryd.prog 154 = false := by kernel_rfl
theorem sz_165 : tySize Tryd.prog 165 = some 24 := by kernel_rfl
theorem ag_165 : tyAgg Tryd.prog 165 = some true := by kernel_rfl
theorem by_165 : tyBytes Tryd.prog 165 = some 24 := by kernel_rfl
theorem ze_165 : zeroOf Tryd.prog 165 = some (.agg #[.int .u8 0, .int .u8 0, .int .u8 0, .int .u8 0, .int .u8 0, .int .u8 0, .int .u8 0, .int .u8 0, .int .u8 0, .int .u8 0, .int .u8 0, .int .u8 0, .int .u8 0, .int .u8 0, .int .u8 0, .int .u8 0, .int .u8 0, .int .u8 0, .int .u8 0, .int .u8 0, .int .u8 0, .int .u8 0, .int .u8 0, .int .u8 0]) := by kernel_rfl
theorem un_165 : Tryd.prog.underlying 165 = some (.array 24 5) := by kernel_rfl
theorem oz_165 : ofVal (.agg #[.int .u8 0, .int .u8 0, .int .u8 0, .int .u8 0, .int .u8 0, .int .u8 0, .int .u8 0, .int .u8 0, .int .u8 0, .int .u8 0, .int .u8 0, .int .u8 0, .int .u8 0, .int .u8 0, .int .u8 0, .int .u8 0, .int .u8 0, .int .u8 0, .int .u8 0, .int .u8 0, .int .u8 0, .int .u8 0, .int .u8 0, .int .u8 0]) = .agg [.val (.int .u8 0), .val (.int .u8 0), .val (.int .u8 0), .val (.int .u8 0), .val (.int .u8 0), .val (.int .u8 0), .val (.int .u8 0), .val (.int .u8 0), .val (.int .u8 0), .val (.int .u8 0), .val (.int .u8 0), .val (.int .u8 0), .val (.int .u8 0), .val (.int .u8 0), .val (.int .u8 0), .val (.int .u8 0), .val (.int .u8 0), .val (.int .u8 0), .val (.int .u8 0), .val (.int .u8 0), .val (.int .u8 0), .val (.int .u8 0), .val (.int .u8 0), .val (.int .u8 0)] := rfl
theorem ea_165 {Γ : Ctx} (s : AS) (ρ : Operand → PV) : evEff Tryd.prog Γ s ρ (.alloc 165) = some (.own s.nx 24 0 0, upd s.ob s.nx (some (165, 24, [.agg [.val (.int .u8 0), .val (.int .u8 0), .val (.int .u8 0), .val (.int .u8 0), .val (.int .u8 0), .val (.int .u8 0), .val (.int .u8 0), .val (.int .u8 0), .val (.int .u8 0), .val (.int .u8 0), .val (.int .u8 0), .val (.int .u8 0), .val (.int .u8 0), .val (.int .u8 0), .val (.int .u8 0), .val (.int .u8 0), .val (.int .u8 0), .val (.int .u8 0), .val (.int .u8 0), .val (.int .u8 0), .val (.int .u8 0), .val (.int .u8 0), .val (.int .u8 0), .val (.int .u8 0)]])), s.nx + 1) := ea_of ze_165 (by kernel_rfl) rfl rfl s ρ
theorem bs_165 : isByteSlice Tryd.prog 165 = false := by kernel_rfl
theorem is_165 : isStr Tryd.prog 165 = false := by kernel_rfl
theorem sz_180 : tySize Tryd.prog 180 = some 1 := by kernel_rfl
theorem ag_180 : tyAgg Tryd.prog 180 = some false := by kernel_rfl
theorem by_180 : tyBytes Tryd.prog 180 = some 8 := by kernel_rfl
theorem ze_180 : zeroOf Tryd.prog 180 = some (.int .u64 0) := by kernel_rfl
theorem un_180 : Tryd.prog.underlying 180 = some (.int .u64) := by kernel_rfl
theorem oz_180 : ofVal (.int .u64 0) = .val (.int .u64 0) := rfl
theorem ea_180 {Γ : Ctx} (s : AS) (ρ : Operand → PV) : evEff Tryd.prog Γ s ρ (.alloc 180) = some (.own s.nx 1 0 0, upd s.ob s.nx (some (180, 1, [.val (.int .u64 0)])), s.nx + 1) := ea_of ze_180 (by kernel_rfl) rfl rfl s ρ
theorem bs_180 : isByteSlice Tryd.prog 180 = false := by kernel_rfl
theorem is_180 : isStr Tryd.prog 180 = false := by kernel_rfl
theorem sz_189 : tySize Tryd.prog 189 = some 20 := by kernel_rfl
theorem ag_189 : tyAgg Tryd.prog 189 = some true := by kernel_rfl
theorem by_189 : tyBytes Tryd.prog 189 = some 160 := by kernel_rfl
theorem ze_189 : zeroOf Tryd.prog 189 = some (.agg #[.int .u64 0, .int .u64 0, .int .u64 0, .int .u64 0, .int .u64 0, .int .u64 0, .int .u64 0, .int .u64 0, .int .u64 0, .int .u64 0, .int .u64 0, .int .u64 0, .int .u64 0, .int .u64 0, .int .u64 0, .int .u64 0, .int .u64 0, .int .u64 0, .int .u64 0, .int .u64 0]) := by kernel_rfl
theorem un_189 : Tryd.prog.underlying 189 = some (.array 20 154) := by kernel_rfl
theorem oz_189 : ofVal (.agg #[.int .u64 0, .int .u64 0, .int .u64 0, .int .u64 0, .int .u64 0, .int .u64 0, .int .u64 0, .int .u64 0, .int .u64 0, .int .u64 0, .int .u64 0, .int .u64 0, .int .u64 0, .int .u64 0, .int .u64 0, .int .u64 0, .int .u64 0, .int .u64 0, .int .u64 0, .int .u64 0]) = .agg [.val (.int .u64 0), .val (.int .u64 0), .val (.int .u64 0), .val (.int .u64 0), .val (.int .u64 0), .val (.int .u64 0), .val (.int .u64 0), .val (.int .u64 0), .val (.int .u64 0), .val (.int .u64 0), .val (.int .u64 0), .val (.int .u64 0), .val (.int .u64 0), .val (.int .u64 0), .val (.int .u64 0), .val (.int .u64 0), .val (.int .u64 0), .val (.int .u64 0), .val (.int .u64 0), .val (.int .u64 0)] := rfl
theorem ea_189 {Γ : Ctx} (s : AS) (ρ : Operand → PV) : evEff Tryd.prog Γ s ρ (.alloc 189) = some (.own s.nx 20 0 0, upd s.ob s.nx (some (189, 20, [.agg [.val (.int .u64 0), .val (.int .u64 0), .val (.int .u64 0), .val (.int .u64 0), .val (.int .u64 0), .val (.int .u64 0), .val (.int .u64 0), .val (.int .u64 0), .val (.int .u64 0), .val (.int .u64 0), .val (.int .u64 0), .val (.int .u64 0), .val (.int .u64 0), .val (.int .u64 0), .val (.int .u64 0), .val (.int .u64 0), .val (.int .u64 0), .val (.int .u64 0), .val (.int .u64 0), .val (.int .u64 0)]])), s.nx + 1) := ea_of ze_189 (by kernel_rfl) rfl rfl s ρ
theorem bs_189 : isByteSlice Tryd.prog 189 = false := by kernel_rfl
theorem is_189 : isStr Tryd.prog 189 = false := by kernel_rfl
theorem sz_202 : tySize Tryd.prog 202 = some 2 := by kernel_rfl
theorem ag_202 : tyAgg Tryd.prog 202 = some true := by kernel_rfl
theorem by_202 : tyBytes Tryd.prog 202 = some 2 := by kernel_rfl
theorem ze_202 : zeroOf Tryd.prog 202 = some (.agg #[.int .u8 0, .int .u8 0]) := by kernel_rfl
theorem fo_202_0 : fieldOff Tryd.prog 202 0 = some 0 := by kernel_rfl
theorem fo_202_1 : fieldOff Tryd.prog 202 1 = some 1 := by kernel_rfl
theorem pl_202 : structPlaces Tryd.prog 202 = some #[(0, 1), (1, 1)] := by kernel_rfl
theorem bl_202 (ps : List (Nat × PV)) : evBuild Tryd.prog 202 ps = (fillP (plF [(0, 1), (1, 1)]) [.val (.int .u8 0), .val (.int .u8 0)] ps).map .agg := bl_of ze_202 rfl pl_202 ps
theorem oz_202 : ofVal (.agg #[.int .u8 0, .int .u8 0]) = .agg [.val (.int .u8 0), .val (.int .u8 0)] := rfl
theorem ea_202 {Γ : Ctx} (s : AS) (ρ : Operand → PV) : evEff Tryd.prog Γ s ρ (.alloc 202) = some (.own s.nx 2 0 0, upd s.ob s.nx (some (202, 2, [.agg [.val (.int .u8 0), .val (.int .u8 0)]])), s.nx + 1) := ea_of ze_202 (by kernel_rfl) rfl rfl s ρ
theorem bz_202 {Γ : Ctx} {ob : Objs} {ρ : Operand → PV} {ty : Nat} : evVal Tryd.prog Γ ob ρ ty (.build 202 #[]) = some (.agg [.val (.int .u8 0), .val (.int .u8 0)]) := (show evBuild Tryd.prog 202 [] = some (.agg [.val (.int .u8 0), .val (.int .u8 0)]) from by kernel_rfl)
theorem bs_202 : isByteSlice Tryd.prog 202 = false := by kernel_rfl
theorem is_202 : isStr Tryd.prog 202 = false := by kernel_rfl
theorem sz_203 : tySize Tryd.prog 203 = some 2 := by kernel_rfl
theorem ag_203 : tyAgg Tryd.prog 203 = some true := by kernel_rfl
theorem by_203 : tyBytes Tryd.prog 203 = some 2 := by kernel_rfl
theorem ze_203 : zeroOf Tryd.prog 203 = some (.agg #[.int .u8 0, .int .u8 0]) := by kernel_rfl
theorem fo_203_0 : fieldOff Tryd.prog 203 0 = some 0 := by kernel_rfl
theorem fo_203_1 : fieldOff Tryd.prog 203 1 = some 1 := by kernel_rfl
theorem pl_203 : structPlaces Tryd.prog 203 = some #[(0, 1), (1, 1)] := by kernel_rfl
theorem bl_203 (ps : List (Nat × PV)) : evBuild Tryd.prog 203 ps = (fillP (plF [(0, 1), (1, 1)]) [.val (.int .u8 0), .val (.int .u8 0)] ps).map .agg := bl_of ze_203 rfl pl_203 ps
theorem oz_203 : ofVal (.agg #[.int .u8 0, .int .u8 0]) = .agg [.val (.int .u8 0), .val (.int .u8 0)] := rfl
theorem ea_203 {Γ : Ctx} (s : AS) (ρ : Operand → PV) : evEff Tryd.prog Γ s ρ (.alloc 203) = some (.own s.nx 2 0 0, upd s.ob s.nx (some (203, 2, [.agg [.val (.int .u8 0), .val (.int .u8 0)]])), s.nx + 1) := ea_of ze_203 (by kernel_rfl) rfl rfl s ρ
theorem bz_203 {Γ : Ctx} {ob : Objs} {ρ : Operand → PV} {ty : Nat} : evVal Tryd.prog Γ ob ρ ty (.build 203 #[]) = some (.agg [.val (.int .u8 0), .val (.int .u8 0)]) := (show evBuild Tryd.prog 203 [] = some (.agg [.val (.int .u8 0), .val (.int .u8 0)]) from by kernel_rfl)
theorem bs_203 : isByteSlice Tryd.prog 203 = false := by kernel_rfl
theorem is_203 : isStr Tryd.prog 203 = false := by kernel_rfl
theorem sz_204 : tySize Tryd.prog 204 = some 32 := by kernel_rfl
theorem ag_204 : tyAgg Tryd.prog 204 = some true := by kernel_rfl
theorem by_204 : tyBytes Tryd.prog 204 = some 32 := by kernel_rfl
theorem ze_204 : zeroOf Tryd.prog 204 = some (.agg #[.int .u8 0, .int .u8 0, .int .u8 0, .int .u8 0, .int .u8 0, .int .u8 0, .int .u8 0, .int .u8 0, .int .u8 0, .int .u8 0, .int .u8 0, .int .u8 0, .int .u8 0, .int .u8 0, .int .u8 0, .int .u8 0, .int .u8 0, .int .u8 0, .int .u8 0, .int .u8 0, .int .u8 0, .int .u8 0, .int .u8 0, .int .u8 0, .int .u8 0, .int .u8 0, .int .u8 0, .int .u8 0, .int .u8 0, .int .u8 0, .int .u8 0, .int .u8 0]) := by kernel_rfl
theorem un_204 : Tryd.prog.underlying 204 = some (.array 16 203) := by kernel_rfl
theorem oz_204 : ofVal (.agg #[.int .u8 0, .int .u8 0, .int .u8 0, .int .u8 0, .int .u8 0, .int .u8 0, .int .u8 0, .int .u8 0, .int .u8 0, .int .u8 0, .int .u8 0, .int .u8 0, .int .u8 0, .int .u8 0, .int .u8 0, .int .u8 0, .int .u8 0, .int .u8 0, .int .u8 0, .int .u8 0, .int .u8 0, .int .u8 0, .int .u8 0, .int .u8 0, .int .u8 0, .int .u8 0, .int .u8 0, .int .u8 0, .int .u8 0, .int .u8 0, .int .u8 0, .int .u8 0]) = .agg [.val (.int .u8 0), .val (.int .u8 0), .val (.int .u8 0), .val (.int .u8 0), .val (.int .u8 0), .val (.int .u8 0), .val (.int .u8 0), .val (.int .u8 0), .val (.int .u8 0), .val (.int .u8 0), .val (.int .u8 0), .val (.int .u8 0), .val (.int .u8 0), .val (.int .u8 0), .val (.int .u8 0), .val (.int .u8 0), .val (.int .u8 0), .val (.int .u8 0), .val (.int .u8 0), .val (.int .u8 0), .val (.int .u8 0), .val (.int .u8 0), .val (.int .u8 0), .val (.int .u8 0), .val (.int .u8 0), .val (.int .u8 0), .val (.int .u8 0), .val (.int .u8 0), .val (.int .u8 0), .val (.int .u8 0), .val (.int .u8 0), .val (.int .u8 0)] := rfl
theorem ea_204 {Γ : Ctx} (s : AS) (ρ : Operand → PV) : evEff Tryd.prog Γ s ρ (.alloc 204) = some (.own s.nx 32 0 0, upd s.ob s.nx (some (204, 32, [.agg [.val (.int .u8 0), .val (.int .u8 0), .val (.int .u8 0), .val (.int .u8 0), .val (.int .u8 0), .val (.int .u8 0), .val (.int .u8 0), .val (.int .u8 0), .val (.int .u8 0), .val (.int .u8 0), .val (.int .u8 0), .val (.int .u8 0), .val (.int .u8 0), .val (.int .u8 0), .val (.int .u8 0), .val (.int .u8 0), .val (.int .u8 0), .val (.int .u8 0), .val (.int .u8 0), .val (.int .u8 0), .val (.int .u8 0), .val (.int .u8 0), .val (.int .u8 0), .val (.int .u8 0), .val (.int .u8 0), .val (.int .u8 0), .val (.int .u8 0), .val (.int .u8 0), .val (.int .u8 0), .val (.int .u8 0), .val (.int .u8 0), .val (.int .u8 0)]])), s.nx + 1) := ea_of ze_204 (by kernel_rfl) rfl rfl s ρ
theorem bs_204 : isByteSlice Tryd.prog 204 = false := by kernel_rfl
theorem is_204 : isStr Tryd.prog 204 = false := by kernel_rfl
theorem sz_208 : tySize Tryd.prog 208 = some 1 := by kernel_rfl
theorem ag_208 : tyAgg Tryd.prog 208 = some true := by kernel_rfl
theorem by_208 : tyBytes Tryd.prog 208 = some 16 := by kernel_rfl
theorem ze_208 : zeroOf Tryd.prog 208 = some (.agg #[.string ByteArray.empty]) := by kernel_rfl
theorem fo_208_0 : fieldOff Tryd.prog 208 0 = some 0 := by kernel_rfl
theorem pl_208 : structPlaces Tryd.prog 208 = some #[(0, 1)] := by kernel_rfl
theorem bl_208 (ps : List (Nat × PV)) : evBuild Tryd.prog 208 ps = (fillP (plF [(0, 1)]) [.val (.string ByteArray.empty)] ps).map .agg := bl_of ze_208 rfl pl_208 ps
theorem oz_208 : ofVal (.agg #[.string ByteArray.empty]) = .agg [.val (.string ByteArray.empty)] := rfl
theorem ea_208 {Γ : Ctx} (s : AS) (ρ : Operand → PV) : evEff Tryd.prog Γ s ρ (.alloc 208) = some (.own s.nx 1 0 0, upd s.ob s.nx (some (208, 1, [.agg [.val (.string ByteArray.empty)]])), s.nx + 1) := ea_of ze_208 (by kernel_rfl) rfl rfl s ρ
theorem bz_208 {Γ : Ctx} {ob : Objs} {ρ : Operand → PV} {ty : Nat} : evVal Tryd.prog Γ ob ρ ty (.build 208 #[]) = some (.agg [.val (.string ByteArray.empty)]) := (show evBuild Tryd.prog 208 [] = some (.agg [.val (.string ByteArray.empty)]) from by kernel_rfl)
theorem bs_208 : isByteSlice Tryd.prog 208 = false := by kernel_rfl
theorem is_208 : isStr Tryd.prog 208 = false := by kernel_rfl
theorem sz_209 : tySize Tryd.prog 209 = some 1 := by kernel_rfl
theorem ag_209 : tyAgg Tryd.prog 209 = some true := by kernel_rfl
theorem by_209 : tyBytes Tryd.prog 209 = some 16 := by kernel_rfl
theorem ze_209 : zeroOf Tryd.prog 209 = some (.agg #[.string ByteArray.empty]) := by kernel_rfl
theorem fo_209_0 : fieldOff Tryd.prog 209 0 = some 0 := by kernel_rfl
theorem pl_209 : structPlaces Tryd.prog 209 = some #[(0, 1)] := by kernel_rfl
theorem bl_209 (ps : List (Nat × PV)) : evBuild Tryd.prog 209 ps = (fillP (plF [(0, 1)]) [.val (.string ByteArray.empty)] ps).map .agg := bl_of ze_209 rfl pl_209 ps
theorem oz_209 : ofVal (.agg #[.string ByteArray.empty]) = .agg [.val (.string ByteArray.empty)] := rfl
theorem ea_209 {Γ : Ctx} (s : AS) (ρ : Operand → PV) : evEff Tryd.prog Γ s ρ (.alloc 209) = some (.own s.nx 1 0 0, upd s.ob s.nx (some (209, 1, [.agg [.val (.string ByteArray.empty)]])), s.nx + 1) := ea_of ze_209 (by kernel_rfl) rfl rfl s ρ
theorem bz_209 {Γ : Ctx} {ob : Objs} {ρ : Operand → PV} {ty : Nat} : evVal Tryd.prog Γ ob ρ ty (.build 209 #[]) = some (.agg [.val (.string ByteArray.empty)]) := (show evBuild Tryd.prog 209 [] = some (.agg [.val (.string ByteArray.empty)]) from by kernel_rfl)
theorem bs_209 : isByteSlice Tryd.prog 209 = false := by kernel_rfl
theorem is_209 : isStr Tryd.prog 209 = false := by kernel_rfl
theorem sz_210 : tySize Tryd.prog 210 = some 32 := by kernel_rfl
theorem ag_210 : tyAgg Tryd.prog 210 = some true := by kernel_rfl
theorem by_210 : tyBytes Tryd.prog 210 = some 32 := by kernel_rfl
theorem ze_210 : zeroOf Tryd.prog 210 = some (.agg #[.int .u8 0, .int .u8 0, .int .u8 0, .int .u8 0, .int .u8 0, .int .u8 0, .int .u8 0, .int .u8 0, .int .u8 0, .int .u8 0, .int .u8 0, .int .u8 0, .int .u8 0, .int .u8 0, .int .u8 0, .int .u8 0, .int .u8 0, .int .u8 0, .int .u8 0, .int .u8 0, .int .u8 0, .int .u8 0, .int .u8 0, .int .u8 0, .int .u8 0, .int .u8 0, .int .u8 0, .int .u8 0, .int .u8 0, .int .u8 0, .int .u8 0, .int .u8 0]) := by kernel_rfl
theorem un_210 : Tryd.prog.underlying 210 = some (.array 32 5) := by kernel_rfl
theorem oz_210 : ofVal (.agg #[.int .u8 0, .int .u8 0, .int .u8 0, .int .u8 0, .int .u8 0, .int .u8 0, .int .u8 0, .int .u8 0, .int .u8 0, .int .u8 0, .int .u8 0, .int .u8 0, .int .u8 0, .int .u8 0, .int .u8 0, .int .u8 0, .int .u8 0, .int .u8 0, .int .u8 0, .int .u8 0, .int .u8 0, .int .u8 0, .int .u8 0, .int .u8 0, .int .u8 0, .int .u8 0, .int .u8 0, .int .u8 0, .int .u8 0, .int .u8 0, .int .u8 0, .int .u8 0]) = .agg [.val (.int .u8 0), .val (.int .u8 0), .val (.int .u8 0), .val (.int .u8 0), .val (.int .u8 0), .val (.int .u8 0), .val (.int .u8 0), .val (.int .u8 0), .val (.int .u8 0), .val (.int .u8 0), .val (.int .u8 0), .val (.int .u8 0), .val (.int .u8 0), .val (.int .u8 0), .val (.int .u8 0), .val (.int .u8 0), .val (.int .u8 0), .val (.int .u8 0), .val (.int .u8 0), .val (.int .u8 0), .val (.int .u8 0), .val (.int .u8 0), .val (.int .u8 0), .val (.int .u8 0), .val (.int .u8 0), .val (.int .u8 0), .val (.int .u8 0), .val (.int .u8 0), .val (.int .u8 0), .val (.int .u8 0), .val (.int .u8 0), .val (.int .u8 0)] := rfl
theorem ea_210 {Γ : Ctx} (s : AS) (ρ : Operand → PV) : evEff Tryd.prog Γ s ρ (.alloc 210) = some (.own s.nx 32 0 0, upd s.ob s.nx (some (210, 32, [.agg [.val (.int .u8 0), .val (.int .u8 0), .val (.int .u8 0), .val (.int .u8 0), .val (.int .u8 0), .val (.int .u8 0), .val (.int .u8 0), .val (.int .u8 0), .val (.int .u8 0), .val (.int .u8 0), .val (.int .u8 0), .val (.int .u8 0), .val (.int .u8 0), .val (.int .u8 0), .val (.int .u8 0), .val (.int .u8 0), .val (.int .u8 0), .val (.int .u8 0), .val (.int .u8 0), .val (.int .u8 0), .val (.int .u8 0), .val (.int .u8 0), .val (.int .u8 0), .val (.int .u8 0), .val (.int .u8 0), .val (.int .u8 0), .val (.int .u8 0), .val (.int .u8 0), .val (.int .u8 0), .val (.int .u8 0), .val (.int .u8 0), .val (.int .u8 0)]])), s.nx + 1) := ea_of ze_210 (by kernel_rfl) rfl rfl s ρ
theorem bs_210 : isByteSlice Tryd.prog 210 = false := by kernel_rfl
theorem is_210 : isStr Tryd.prog 210 = false := by kernel_rfl
theorem sz_211 : tySize Tryd.prog 211 = some 64 := by kernel_rfl
theorem ag_211 : tyAgg Tryd.prog 211 = some true := by kernel_rfl
theorem by_211 : tyBytes Tryd.prog 211 = some 64 := by kernel_rfl
theorem ze_211 : zeroOf Tryd.prog 211 = some (.agg #[.int .u8 0, .int .u8 0, .int .u8 0, .int .u8 0, .int .u8 0, .int .u8 0, .int .u8 0, .int .u8 0, .int .u8 0, .int .u8 0, .int .u8 0, .int .u8 0, .int .u8 0, .int .u8 0, .int .u8 0, .int .u8 0, .int .u8 0, .int .u8 0, .int .u8 0, .int .u8 0, .int .u8 0, .int .u8 0, .int .u8 0, .int .u8 0, .int .u8 0, .int .u8 0, .int .u8 0, .int .u8 0, .int .u8 0, .int .u8 0, .int .u8 0, .int .u8 0, .int .u8 0, .int .u8 0, .int .u8 0, .int .u8 0, .int .u8 0, .int .u8 0, .int .u8 0, .int .u8 0, .int .u8 0, .int .u8 0, .int .u8 0, .int .u8 0, .int .u8 0, .int .u8 0, .int .u8 0, .int .u8 0, .int .u8 0, .int .u8 0, .int .u8 0, .int .u8 0, .int .u8 0, .int .u8 0, .int .u8 0, .int .u8 0, .int .u8 0, .int .u8 0, .int .u8 0, .int .u8 0, .int .u8 0, .int .u8 0, .int .u8 0, .int .u8 0]) := by kernel_rfl
theorem un_211 : Tryd.prog.underlying 211 = some (.array 64 5) := by kernel_rfl
theorem oz_211 : ofVal (.agg #[.int .u8 0, .int .u8 0, .int .u8 0, .int .u8 0, .int .u8 0, .int .u8 0, .int .u8 0, .int .u8 0, .int .u8 0, .int .u8 0, .int .u8 0, .int .u8 0, .int .u8 0, .int .u8 0, .int .u8 0, .int .u8 0, .int .u8 0, .int .u8 0, .int .u8 0, .int .u8 0, .int .u8 0, .int .u8 0, .int .u8 0, .int .u8 0, .int .u8 0, .int .u8 0, .int .u8 0, .int .u8 0, .int .u8 0, .int .u8 0, .int .u8 0, .int .u8 0, .int .u8 0, .int .u8 0, .int .u8 0, .int .u8 0, .int .u8 0, .int .u8 0, .int .u8 0, .int .u8 0, .int .u8 0, .int .u8 0, .int .u8 0, .int .u8 0, .int .u8 0, .int .u8 0, .int .u8 0, .int .u8 0, .int .u8 0, .int .u8 0, .int .u8 0, .int .u8 0, .int .u8 0, .int .u8 0, .int .u8 0, .int .u8 0, .int .u8 0, .int .u8 0, .int .u8 0, .int .u8 0, .int .u8 0, .int .u8 0, .int .u8 0, .int .u8 0]) = .agg [.val (.int .u8 0), .val (.int .u8 0), .val (.int .u8 0), .val (.int .u8 0), .val (.int .u8 0), .val (.int .u8 0), .val (.int .u8 0), .val (.int .u8 0), .val (.int .u8 0), .val (.int .u8 0), .val (.int .u8 0), .val (.int .u8 0), .val (.int .u8 0), .val (.int .u8 0), .val (.int .u8 0), .val (.int .u8 0), .val (.int .u8 0), .val (.int .u8 0), .val (.int .u8 0), .val (.int .u8 0), .val (.int .u8 0), .val (.int .u8 0), .val (.int .u8 0), .val (.int .u8 0), .val (.int .u8 0), .val (.int .u8 0), .val (.int .u8 0), .val (.int .u8 0), .val (.int .u8 0), .val (.int .u8 0), .val (.int .u8 0), .val (.int .u8 0), .val (.int .u8 0), .val (.int .u8 0), .val (.int .u8 0), .val (.int .u8 0), .val (.int .u8 0), .val (.int .u8 0), .val (.int .u8 0), .val (.int .u8 0), .val (.int .u8 0), .val (.int .u8 0), .val (.int .u8 0), .val (.int .u8 0), .val (.int .u8 0), .val (.int .u8 0), .val (.int .u8 0), .val (.int .u8 0), .val (.int .u8 0), .val (.int .u8 0), .val (.int .u8 0), .val (.int .u8 0), .val (.int .u8 0), .val (.int .u8 0), .val (.int .u8 0), .val (.int .u8 0), .val (.int .u8 0), .val (.int .u8 0), .val (.int .u8 0), .val (.int .u8 0), .val (.int .u8 0), .val (.int .u8 0), .val (.int .u8 0), .val (.int .u8 0)] := rfl
theorem ea_211 {Γ : Ctx} (s : AS) (ρ : Operand → PV) : evEff Tryd.prog Γ s ρ (.alloc 211) = some (.own s.nx 64 0 0, upd s.ob s.nx (some (211, 64, [.agg [.val (.int .u8 0), .val (.int .u8 0), .val (.int .u8 0), .val (.int .u8 0), .val (.int .u8 0), .val (.int .u8 0), .val (.int .u8 0), .val (.int .u8 0), .val (.int .u8 0), .val (.int .u8 0), .val (.int .u8 0), .val (.int .u8 0), .val (.int .u8 0), .val (.int .u8 0), .val (.int .u8 0), .val (.int .u8 0), .val (.int .u8 0), .val (.int .u8 0), .val (.int .u8 0), .val (.int .u8 0), .val (.int .u8 0), .val (.int .u8 0), .val (.int .u8 0), .val (.int .u8 0), .val (.int .u8 0), .val (.int .u8 0), .val (.int .u8 0), .val (.int .u8 0), .val (.int .u8 0), .val (.int .u8 0), .val (.int .u8 0), .val (.int .u8 0), .val (.int .u8 0), .val (.int .u8 0), .val (.int .u8 0), .val (.int .u8 0), .val (.int .u8 0), .val (.int .u8 0), .val (.int .u8 0), .val (.int .u8 0), .val (.int .u8 0), .val (.int .u8 0), .val (.int .u8 0), .val (.int .u8 0), .val (.int .u8 0), .val (.int .u8 0), .val (.int .u8 0), .val (.int .u8 0), .val (.int .u8 0), .val (.int .u8 0), .val (.int .u8 0), .val (.int .u8 0), .val (.int .u8 0), .val (.int .u8 0), .val (.int .u8 0), .val (.int .u8 0), .val (.int .u8 0), .val (.int .u8 0), .val (.int .u8 0), .val (.int .u8 0), .val (.int .u8 0), .val (.int .u8 0), .val (.int .u8 0), .val (.int .u8 0)]])), s.nx + 1) := ea_of ze_211 (by kernel_rfl) rfl rfl s ρ
theorem bs_211 : isByteSlice Tryd.prog 211 = false := by kernel_rfl
theorem is_211 : isStr Tryd.prog 211 = false := by kernel_rfl
theorem sz_22 : tySize Tryd.prog 22 = some 1 := by kernel_rfl
theorem ag_22 : tyAgg Tryd.prog 22 = some false := by kernel_rfl
theorem by_22 : tyBytes Tryd.prog 22 = some 24 := by kernel_rfl
theorem ze_22 : zeroOf Tryd.prog 22 = some (.slice none 0 0) := by kernel_rfl
theorem un_22 : Tryd.prog.underlying 22 = some (.slice 9) := by kernel_rfl
theorem el_22 : tyElem Tryd.prog 22 = some 9 := by kernel_rfl
theorem ix_22 {k : Bool} {es : List PV} {i : Int} (h0 : 0 ≤ i) (h1 : i < (es.length : Int)) : evIndexAddr Tryd.prog 22 (.lst k 1 es) i = some (.ptr k ((es[i.toNat]?).getD .dead) 0) := ix_lst un_22 sz_9 h0 h1
theorem ixr_22 {o j n : Nat} {i : Int} (h0 : 0 ≤ i) (h1 : i < (n : Int)) : evIndexAddr Tryd.prog 22 (.row o 1 j n) i = some (.own o 1 (j + i.toNat) 0) := ix_row un_22 sz_9 h0 h1
theorem sl_22 {k : Bool} {es : List PV} {lo hi : Option Int} (h0 : 0 ≤ lo.getD 0) (h1 : lo.getD 0 ≤ hi.getD es.length) (h2 : hi.getD es.length ≤ es.length) : evSlice Tryd.prog 22 (.lst k 1 es) lo hi = some (.lst k 1 ((es.drop (lo.getD 0).toNat).take ((hi.getD es.length).toNat - (lo.getD 0).toNat))) := sl_lst un_22 sz_9 h0 h1 h2
theorem slr_22 {o i n : Nat} {lo hi : Option Int} (h0 : 0 ≤ lo.getD 0) (h1 : lo.getD 0 < hi.getD n) (h2 : hi.getD n ≤ n) : evSlice Tryd.prog 22 (.row o 1 i n) lo hi = some (.row o 1 (i + (lo.getD 0).toNat) ((hi.getD n).toNat - (lo.getD 0).toNat)) := sl_rowlt un_22 sz_9 h0 h1 h2
theorem sle_22 {o i n : Nat} {lo hi : Option Int} (h0 : 0 ≤ lo.getD 0) (h1 : lo.getD 0 = hi.getD n) (h2 : hi.getD n ≤ n) : evSlice Tryd.prog 22 (.row o 1 i n) lo hi = some (.lst true 1 []) := sl_roweq un_22 sz_9 h0 h1 h2
theorem lpl_22 {ty sz : Nat} {k : Bool} {es : List PV} : lenP Tryd.prog 22 ty (.lst k sz es) = some (.val (.int .i64 es.length)) := lp_lst el_22
theorem lpr_22 {ty o sz i n : Nat} : lenP Tryd.prog 22 ty (.row o sz i n) = some (.val (.int .i64 n)) := lp_row el_22
theorem lpn_22 {ty : Nat} : lenP Tryd.prog 22 ty (.val (.slice none 0 0)) = some (.val (.int .i64 0)) := lp_nil un_22
theorem oz_22 : ofVal (.slice none 0 0) = .val (.slice none 0 0) := rfl
theorem ea_22 {Γ : Ctx} (s : AS) (ρ : Operand → PV) : evEff Tryd.prog Γ s ρ (.alloc 22) = some (.own s.nx 1 0 0, upd s.ob s.nx (some (22, 1, [.val (.slice none 0 0)])), s.nx + 1) := ea_of ze_22 (by kernel_rfl) rfl rfl s ρ
theorem em_22 {Γ : Ctx} (s : AS) (ρ : Operand → PV) (l c : Operand) : evEff Tryd.prog Γ s ρ (.makeSlice 22 l c) = mkEv 9 1 16 (.string ByteArray.empty) s (ρ l) (ρ c) := em_of el_22 ze_9 sz_9 by_9 (by kernel_rfl) rfl s ρ l c
theorem eap_22 {Γ : Ctx} (s : AS) (ρ : Operand → PV) (x y : Operand) : evEff Tryd.prog Γ s ρ (.call { callee := .builtin .append, args := #[x, y], argTypes := #[22, 22] }) = apEv 9 1 16 s.nx s.ob (ρ x) (obOf s.ob (ρ x)) (sliceEs s.ob 1 (ρ y)) := eap_of el_22 ze_9 sz_9 by_9 (by decide) rfl s ρ x y
theorem ecp_22 {Γ : Ctx} (s : AS) (ρ : Operand → PV) (x y : Operand) (t' : Nat) : evEff Tryd.prog Γ s ρ (.call { callee := .builtin .copy, args := #[x, y], argTypes := #[22, t'] }) = cpX 1 s.nx s.ob (ρ x) (obOf s.ob (ρ x)) (srcEs s.ob 1 (ρ y)) := ecp_of el_22 sz_9 s ρ x y t'
theorem bs_22 : isByteSlice Tryd.prog 22 = false := by kernel_rfl
theorem is_22 : isStr Tryd.prog 22 = false := by kernel_rfl
theorem sz_24 : tySize Tryd.prog 24 = some 1 := by kernel_rfl
theorem ag_24 : tyAgg Tryd.prog 24 = some false := by kernel_rfl
theorem by_24 : tyBytes Tryd.prog 24 = some 24 := by kernel_rfl
theorem ze_24 : zeroOf Tryd.prog 24 = some (.slice none 0 0) := by kernel_rfl
theorem un_24 : Tryd.prog.underlying 24 = some (.slice 5) := by kernel_rfl
theorem el_24 : tyElem Tryd.prog 24 = some 5 := by kernel_rfl
theorem ix_24 {k : Bool} {es : List PV} {i : Int} (h0 : 0 ≤ i) (h1 : i < (es.length : Int)) : evIndexAddr Tryd.prog 24 (.lst k 1 es) i = some (.ptr k ((es[i.toNat]?).getD .dead) 0) := ix_lst un_24 sz_5 h0 h1
theorem ixr_24 {o j n : Nat} {i : Int} (h0 : 0 ≤ i) (h1 : i < (n : Int)) : evIndexAddr Tryd.prog 24 (.row o 1 j n) i = some (.own o 1 (j + i.toNat) 0) := ix_row un_24 sz_5 h0 h1
theorem sl_24 {k : Bool} {es : List PV} {lo hi : Option Int} (h0 : 0 ≤ lo.getD 0) (h1 : lo.getD 0 ≤ hi.getD es.length) (h2 : hi.getD es.length ≤ es.length) : evSlice Tryd.prog 24 (.lst k 1 es) lo hi = some (.lst k 1 ((es.drop (lo.getD 0).toNat).take ((hi.getD es.length).toNat - (lo.getD 0).toNat))) := sl_lst un_24 sz_5 h0 h1 h2
theorem slr_24 {o i n : Nat} {lo hi : Option Int} (h0 : 0 ≤ lo.getD 0) (h1 : lo.getD 0 < hi.getD n) (h2 : hi.getD n ≤ n) : evSlice Tryd.prog 24 (.row o 1 i n) lo hi = some (.row o 1 (i + (lo.getD 0).toNat) ((hi.getD n).toNat - (lo.getD 0).toNat)) := sl_rowlt un_24 sz_5 h0 h1 h2
theorem sle_24 {o i n : Nat} {lo hi : Option Int} (h0 : 0 ≤ lo.getD 0) (h1 : lo.getD 0 = hi.getD n) (h2 : hi.getD n ≤ n) : evSlice Tryd.prog 24 (.row o 1 i n) lo hi = some (.lst true 1 []) := sl_roweq un_24 sz_5 h0 h1 h2
theorem lpl_24 {ty sz : Nat} {k : Bool} {es : List PV} : lenP Tryd.prog 24 ty (.lst k sz es) = some (.val (.int .i64 es.length)) := lp_lst el_24
theorem lpr_24 {ty o sz i n : Nat} : lenP Tryd.prog 24 ty (.row o sz i n) = some (.val (.int .i64 n)) := lp_row el_24
theorem lpn_24 {ty : Nat} : lenP Tryd.prog 24 ty (.val (.slice none 0 0)) = some (.val (.int .i64 0)) := lp_nil un_24
theorem oz_24 : ofVal (.slice none 0 0) = .val (.slice none 0 0) := rfl
theorem ea_24 {Γ : Ctx} (s : AS) (ρ : Operand → PV) : evEff Tryd.prog Γ s ρ (.alloc 24) = some (.own s.nx 1 0 0, upd s.ob s.nx (some (24, 1, [.val (.slice none 0 0)])), s.nx + 1) := ea_of ze_24 (by kernel_rfl) rfl rfl s ρ
theorem em_24 {Γ : Ctx} (s : AS) (ρ : Operand → PV) (l c : Operand) : evEff Tryd.prog Γ s ρ (.makeSlice 24 l c) = mkEv 5 1 1 (.int .u8 0) s (ρ l) (ρ c) := em_of el_24 ze_5 sz_5 by_5 (by kernel_rfl) rfl s ρ l c
theorem eap_24 {Γ : Ctx} (s : AS) (ρ : Operand → PV) (x y : Operand) : evEff Tryd.prog Γ s ρ (.call { callee := .builtin .append, args := #[x, y], argTypes := #[24, 24] }) = apEv 5 1 1 s.nx s.ob (ρ x) (obOf s.ob (ρ x)) (sliceEs s.ob 1 (ρ y)) := eap_of el_24 ze_5 sz_5 by_5 (by decide) rfl s ρ x y
theorem ecp_24 {Γ : Ctx} (s : AS) (ρ : Operand → PV) (x y : Operand) (t' : Nat) : evEff Tryd.prog Γ s ρ (.call { callee := .builtin .copy, args := #[x, y], argTypes := #[24, t'] }) = cpX 1 s.nx s.ob (ρ x) (obOf s.ob (ρ x)) (srcEs s.ob 1 (ρ y)) := ecp_of el_24 sz_5 s ρ x y t'
theorem bs_24 : isByteSlice Tryd.prog 24 = true := by kernel_rfl
theorem is_24 : isStr Tryd.prog 24 = false := by kernel_rfl
theorem sz_40 : tySize Tryd.prog 40 = some 1 := by kernel_rfl
theorem ag_40 : tyAgg Tryd.prog 40 = some false := by kernel_rfl
theorem by_40 : tyBytes Tryd.prog 40 = some 24 := by kernel_rfl
theorem ze_40 : zeroOf Tryd.prog 40 = some (.slice none 0 0) := by kernel_rfl
theorem un_40 : Tryd.prog.underlying 40 = some (.slice 3) := by kernel_rfl
theorem el_40 : tyElem Tryd.prog 40 = some 3 := by kernel_rfl
theorem ix_40 {k : Bool} {es : List PV} {i : Int} (h0 : 0 ≤ i) (h1 : i < (es.length : Int)) : evIndexAddr Tryd.prog 40 (.lst k 1 es) i = some (.ptr k ((es[i.toNat]?).getD .dead) 0) := ix_lst un_40 sz_3 h0 h1
theorem ixr_40 {o j n : Nat} {i : Int} (h0 : 0 ≤ i) (h1 : i < (n : Int)) : evIndexAddr Tryd.prog 40 (.row o 1 j n) i = some (.own o 1 (j + i.toNat) 0) := ix_row un_40 sz_3 h0 h1
theorem sl_40 {k : Bool} {es : List PV} {lo hi : Option Int} (h0 : 0 ≤ lo.getD 0) (h1 : lo.getD 0 ≤ hi.getD es.length) (h2 : hi.getD es.length ≤ es.length) : evSlice Tryd.prog 40 (.lst k 1 es) lo hi = some (.lst k 1 ((es.drop (lo.getD 0).toNat).take ((hi.getD es.length).toNat - (lo.getD 0).toNat))) := sl_lst un_40 sz_3 h0 h1 h2
theorem slr_40 {o i n : Nat} {lo hi : Option Int} (h0 : 0 ≤ lo.getD 0) (h1 : lo.getD 0 < hi.getD n) (h2 : hi.getD n ≤ n) : evSlice Tryd.prog 40 (.row o 1 i n) lo hi = some (.row o 1 (i + (lo.getD 0).toNat) ((hi.getD n).toNat - (lo.getD 0).toNat)) := sl_rowlt un_40 sz_3 h0 h1 h2
theorem sle_40 {o i n : Nat} {lo hi : Option Int} (h0 : 0 ≤ lo.getD 0) (h1 : lo.getD 0 = hi.getD n) (h2 : hi.getD n ≤ n) : evSlice Tryd.prog 40 (.row o 1 i n) lo hi = some (.lst true 1 []) := sl_roweq un_40 sz_3 h0 h1 h2
theorem lpl_40 {ty sz : Nat} {k : Bool} {es : List PV} : lenP Tryd.prog 40 ty (.lst k sz es) = some (.val (.int .i64 es.length)) := lp_lst el_40
theorem lpr_40 {ty o sz i n : Nat} : lenP Tryd.prog 40 ty (.row o sz i n) = some (.val (.int .i64 n)) := lp_row el_40
theorem lpn_40 {ty : Nat} : lenP Tryd.prog 40 ty (.val (.slice none 0 0)) = some (.val (.int .i64 0)) := lp_nil un_40
theorem oz_40 : ofVal (.slice none 0 0) = .val (.slice none 0 0) := rfl
theorem ea_40 {Γ : Ctx} (s : AS) (ρ : Operand → PV) : evEff Tryd.prog Γ s ρ (.alloc 40) = some (.own s.nx 1 0 0, upd s.ob s.nx (some (40, 1, [.val (.slice none 0 0)])), s.nx + 1) := ea_of ze_40 (by kernel_rfl) rfl rfl s ρ
theorem em_40 {Γ : Ctx} (s : AS) (ρ : Operand → PV) (l c : Operand) : evEff Tryd.prog Γ s ρ (.makeSlice 40 l c) = mkEv 3 1 8 (.int .i64 0) s (ρ l) (ρ c) := em_of el_40 ze_3 sz_3 by_3 (by kernel_rfl) rfl s ρ l c
theorem eap_40 {Γ : Ctx} (s : AS) (ρ : Operand → PV) (x y : Operand) : evEff Tryd.prog Γ s ρ (.call { callee := .builtin .append, args := #[x, y], argTypes := #[40, 40] }) = apEv 3 1 8 s.nx s.ob (ρ x) (obOf s.ob (ρ x)) (sliceEs s.ob 1 (ρ y)) := eap_of el_40 ze_3 sz_3 by_3 (by decide) rfl s ρ x y
theorem ecp_40 {Γ : Ctx} (s : AS) (ρ : Operand → PV) (x y : Operand) (t' : Nat) : evEff Tryd.prog Γ s ρ (.call { callee := .builtin .copy, args := #[x, y], argTypes := #[40, t'] }) = cpX 1 s.nx s.ob (ρ x) (obOf s.ob (ρ x)) (srcEs s.ob 1 (ρ y)) := ecp_of el_40 sz_3 s ρ x y t'
theorem bs_40 : isByteSlice Tryd.prog 40 = false := by kernel_rfl
theorem is_40 : isStr Tryd.prog 40 = false := by kernel_rfl
theorem sz_51 : tySize Tryd.prog 51 = some 1 := by kernel_rfl
theorem ag_51 : tyAgg Tryd.prog 51 = some false := by kernel_rfl
theorem by_51 : tyBytes Tryd.prog 51 = some 24 := by kernel_rfl
theorem ze_51 : zeroOf Tryd.prog 51 = some (.slice none 0 0) := by kernel_rfl
theorem un_51 : Tryd.prog.underlying 51 = some (.slice 90) := by kernel_rfl
theorem el_51 : tyElem Tryd.prog 51 = some 90 := by kernel_rfl
theorem ix_51 {k : Bool} {es : List PV} {i : Int} (h0 : 0 ≤ i) (h1 : i < (es.length : Int)) : evIndexAddr Tryd.prog 51 (.lst k 2 es) i = some (.ptr k ((es[i.toNat]?).getD .dead) 0) := ix_lst un_51 sz_90 h0 h1
theorem ixr_51 {o j n : Nat} {i : Int} (h0 : 0 ≤ i) (h1 : i < (n : Int)) : evIndexAddr Tryd.prog 51 (.row o 2 j n) i = some (.own o 2 (j + i.toNat) 0) := ix_row un_51 sz_90 h0 h1
theorem sl_51 {k : Bool} {es : List PV} {lo hi : Option Int} (h0 : 0 ≤ lo.getD 0) (h1 : lo.getD 0 ≤ hi.getD es.length) (h2 : hi.getD es.length ≤ es.length) : evSlice Tryd.prog 51 (.lst k 2 es) lo hi = some (.lst k 2 ((es.drop (lo.getD 0).toNat).take ((hi.getD es.length).toNat - (lo.getD 0).toNat))) := sl_lst un_51 sz_90 h0 h1 h2
theorem slr_51 {o i n : Nat} {lo hi : Option Int} (h0 : 0 ≤ lo.getD 0) (h1 : lo.getD 0 < hi.getD n) (h2 : hi.getD n ≤ n) : evSlice Tryd.prog 51 (.row o 2 i n) lo hi = some (.row o 2 (i + (lo.getD 0).toNat) ((hi.getD n).toNat - (lo.getD 0).toNat)) := sl_rowlt un_51 sz_90 h0 h1 h2
theorem sle_51 {o i n : Nat} {lo hi : Option Int} (h0 : 0 ≤ lo.getD 0) (h1 : lo.getD 0 = hi.getD n) (h2 : hi.getD n ≤ n) : evSlice Tryd.prog 51 (.row o 2 i n) lo hi = some (.lst true 2 []) := sl_roweq un_51 sz_90 h0 h1 h2
theorem lpl_51 {ty sz : Nat} {k : Bool} {es : List PV} : lenP Tryd.prog 51 ty (.lst k sz es) = some (.val (.int .i64 es.length)) := lp_lst el_51
theorem lpr_51 {ty o sz i n : Nat} : lenP Tryd.prog 51 ty (.row o sz i n) = some (.val (.int .i64 n)) := lp_row el_51
theorem lpn_51 {ty : Nat} : lenP Tryd.prog 51 ty (.val (.slice none 0 0)) = some (.val (.int .i64 0)) := lp_nil un_51
theorem oz_51 : ofVal (.slice none 0 0) = .val (.slice none 0 0) := rfl
theorem ea_51 {Γ : Ctx} (s : AS) (ρ : Operand → PV) : evEff Tryd.prog Γ s ρ (.alloc 51) = some (.own s.nx 1 0 0, upd s.ob s.nx (some (51, 1, [.val (.slice none 0 0)])), s.nx + 1) := ea_of ze_51 (by kernel_rfl) rfl rfl s ρ
theorem em_51 {Γ : Ctx} (s : AS) (ρ : Operand → PV) (l c : Operand) : evEff Tryd.prog Γ s ρ (.makeSlice 51 l c) = mkEv 90 2 24 (.agg #[.string ByteArray.empty, .int .i64 0]) s (ρ l) (ρ c) := em_of el_51 ze_90 sz_90 by_90 (by kernel_rfl) rfl s ρ l c
theorem eap_51 {Γ : Ctx} (s : AS) (ρ : Operand → PV) (x y : Operand) : evEff Tryd.prog Γ s ρ (.call { callee := .builtin .append, args := #[x, y], argTypes := #[51, 51] }) = apEv 90 2 24 s.nx s.ob (ρ x) (obOf s.ob (ρ x)) (sliceEs s.ob 2 (ρ y)) := eap_of el_51 ze_90 sz_90 by_90 (by decide) rfl s ρ x y
theorem ecp_51 {Γ : Ctx} (s : AS) (ρ : Operand → PV) (x y : Operand) (t' : Nat) : evEff Tryd.prog Γ s ρ (.call { callee := .builtin .copy, args := #[x, y], argTypes := #[51, t'] }) = cpX 2 s.nx s.ob (ρ x) (obOf s.ob (ρ x)) (srcEs s.ob 2 (ρ y)) := ecp_of el_51 sz_90 s ρ x y t'
theorem bs_51 : isByteSlice Tryd.prog 51 = false := by kernel_rfl
theorem is_51 : isStr Tryd.prog 51 = false := by kernel_rfl
theorem sz_54 : tySize Tryd.prog 54 = some 1 := by kernel_rfl
theorem ag_54 : tyAgg Tryd.prog 54 = some false := by kernel_rfl
theorem by_54 : tyBytes Tryd.prog 54 = some 24 := by kernel_rfl
theorem ze_54 : zeroOf Tryd.prog 54 = some (.slice none 0 0) := by kernel_rfl
theorem un_54 : Tryd.prog.underlying 54 = some (.slice 61) := by kernel_rfl
theorem el_54 : tyElem Tryd.prog 54 = some 61 := by kernel_rfl
theorem ix_54 {k : Bool} {es : List PV} {i : Int} (h0 : 0 ≤ i) (h1 : i < (es.length : Int)) : evIndexAddr Tryd.prog 54 (.lst k 2 es) i = some (.ptr k ((es[i.toNat]?).getD .dead) 0) := ix_lst un_54 sz_61 h0 h1
theorem ixr_54 {o j n : Nat} {i : Int} (h0 : 0 ≤ i) (h1 : i < (n : Int)) : evIndexAddr Tryd.prog 54 (.row o 2 j n) i = some (.own o 2 (j + i.toNat) 0) := ix_row un_54 sz_61 h0 h1
theorem sl_54 {k : Bool} {es : List PV} {lo hi : Option Int} (h0 : 0 ≤ lo.getD 0) (h1 : lo.getD 0 ≤ hi.getD es.length) (h2 : hi.getD es.length ≤ es.length) : evSlice Tryd.prog 54 (.lst k 2 es) lo hi = some (.lst k 2 ((es.drop (lo.getD 0).toNat).take ((hi.getD es.length).toNat - (lo.getD 0).toNat))) := sl_lst un_54 sz_61 h0 h1 h2
theorem slr_54 {o i n : Nat} {lo hi : Option Int} (h0 : 0 ≤ lo.getD 0) (h1 : lo.getD 0 < hi.getD n) (h2 : hi.getD n ≤ n) : evSlice Tryd.prog 54 (.row o 2 i n) lo hi = some (.row o 2 (i + (lo.getD 0).toNat) ((hi.getD n).toNat - (lo.getD 0).toNat)) := sl_rowlt un_54 sz_61 h0 h1 h2
theorem sle_54 {o i n : Nat} {lo hi : Option Int} (h0 : 0 ≤ lo.getD 0) (h1 : lo.getD 0 = hi.getD n) (h2 : hi.getD n ≤ n) : evSlice Tryd.prog 54 (.row o 2 i n) lo hi = some (.lst true 2 []) := sl_roweq un_54 sz_61 h0 h1 h2
theorem lpl_54 {ty sz : Nat} {k : Bool} {es : List PV} : lenP Tryd.prog 54 ty (.lst k sz es) = some (.val (.int .i64 es.length)) := lp_lst el_54
theorem lpr_54 {ty o sz i n : Nat} : lenP Tryd.prog 54 ty (.row o sz i n) = some (.val (.int .i64 n)) := lp_row el_54
theorem lpn_54 {ty : Nat} : lenP Tryd.prog 54 ty (.val (.slice none 0 0)) = some (.val (.int .i64 0)) := lp_nil un_54
theorem oz_54 : ofVal (.slice none 0 0) = .val (.slice none 0 0) := rfl
theorem ea_54 {Γ : Ctx} (s : AS) (ρ : Operand → PV) : evEff Tryd.prog Γ s ρ (.alloc 54) = some (.own s.nx 1 0 0, upd s.ob s.nx (some (54, 1, [.val (.slice none 0 0)])), s.nx + 1) := ea_of ze_54 (by kernel_rfl) rfl rfl s ρ
theorem em_54 {Γ : Ctx} (s : AS) (ρ : Operand → PV) (l c : Operand) : evEff Tryd.prog Γ s ρ (.makeSlice 54 l c) = mkEv 61 2 24 (.agg #[.string ByteArray.empty, .int .i64 0]) s (ρ l) (ρ c) := em_of el_54 ze_61 sz_61 by_61 (by kernel_rfl) rfl s ρ l c
theorem eap_54 {Γ : Ctx} (s : AS) (ρ : Operand → PV) (x y : Operand) : evEff Tryd.prog Γ s ρ (.call { callee := .builtin .append, args := #[x, y], argTypes := #[54, 54] }) = apEv 61 2 24 s.nx s.ob (ρ x) (obOf s.ob (ρ x)) (sliceEs s.ob 2 (ρ y)) := eap_of el_54 ze_61 sz_61 by_61 (by decide) rfl s ρ x y
theorem ecp_54 {Γ : Ctx} (s : AS) (ρ : Operand → PV) (x y : Operand) (t' : Nat) : evEff Tryd.prog Γ s ρ (.call { callee := .builtin .copy, args := #[x, y], argTypes := #[54, t'] }) = cpX 2 s.nx s.ob (ρ x) (obOf s.ob (ρ x)) (srcEs s.ob 2 (ρ y)) := ecp_of el_54 sz_61 s ρ x y t'
theorem bs_54 : isByteSlice Tryd.prog 54 = false := by kernel_rfl
theorem is_54 : isStr Tryd.prog 54 = false := by kernel_rfl
theorem sz_78 : tySize Tryd.prog 78 = some 1 := by kernel_rfl
theorem ag_78 : tyAgg Tryd.prog 78 = some false := by kernel_rfl
theorem by_78 : tyBytes Tryd.prog 78 = some 24 := by kernel_rfl
theorem ze_78 : zeroOf Tryd.prog 78 = some (.slice none 0 0) := by kernel_rfl
theorem un_78 : Tryd.prog.underlying 78 = some (.slice 80) := by kernel_rfl
theorem el_78 : tyElem Tryd.prog 78 = some 80 := by kernel_rfl
theorem ix_78 {k : Bool} {es : List PV} {i : Int} (h0 : 0 ≤ i) (h1 : i < (es.length : Int)) : evIndexAddr Tryd.prog 78 (.lst k 2 es) i = some (.ptr k ((es[i.toNat]?).getD .dead) 0) := ix_lst un_78 sz_80 h0 h1
theorem ixr_78 {o j n : Nat} {i : Int} (h0 : 0 ≤ i) (h1 : i < (n : Int)) : evIndexAddr Tryd.prog 78 (.row o 2 j n) i = some (.own o 2 (j + i.toNat) 0) := ix_row un_78 sz_80 h0 h1
theorem sl_78 {k : Bool} {es : List PV} {lo hi : Option Int} (h0 : 0 ≤ lo.getD 0) (h1 : lo.getD 0 ≤ hi.getD es.length) (h2 : hi.getD es.length ≤ es.length) : evSlice Tryd.prog 78 (.lst k 2 es) lo hi = some (.lst k 2 ((es.drop (lo.getD 0).toNat).take ((hi.getD es.length).toNat - (lo.getD 0).toNat))) := sl_lst un_78 sz_80 h0 h1 h2
theorem slr_78 {o i n : Nat} {lo hi : Option Int} (h0 : 0 ≤ lo.getD 0) (h1 : lo.getD 0 < hi.getD n) (h2 : hi.getD n ≤ n) : evSlice Tryd.prog 78 (.row o 2 i n) lo hi = some (.row o 2 (i + (lo.getD 0).toNat) ((hi.getD n).toNat - (lo.getD 0).toNat)) := sl_rowlt un_78 sz_80 h0 h1 h2
theorem sle_78 {o i n : Nat} {lo hi : Option Int} (h0 : 0 ≤ lo.getD 0) (h1 : lo.getD 0 = hi.getD n) (h2 : hi.getD n ≤ n) : evSlice Tryd.prog 78 (.row o 2 i n) lo hi = some (.lst true 2 []) := sl_roweq un_78 sz_80 h0 h1 h2
theorem lpl_78 {ty sz : Nat} {k : Bool} {es : List PV} : lenP Tryd.prog 78 ty (.lst k sz es) = some (.val (.int .i64 es.length)) := lp_lst el_78
theorem lpr_78 {ty o sz i n : Nat} : lenP Tryd.prog 78 ty (.row o sz i n) = some (.val (.int .i64 n)) := lp_row el_78
theorem lpn_78 {ty : Nat} : lenP Tryd.prog 78 ty (.val (.slice none 0 0)) = some (.val (.int .i64 0)) := lp_nil un_78
theorem oz_78 : ofVal (.slice none 0 0) = .val (.slice none 0 0) := rfl
theorem ea_78 {Γ : Ctx} (s : AS) (ρ : Operand → PV) : evEff Tryd.prog Γ s ρ (.alloc 78) = some (.own s.nx 1 0 0, upd s.ob s.nx (some (78, 1, [.val (.slice none 0 0)])), s.nx + 1) := ea_of ze_78 (by kernel_rfl) rfl rfl s ρ
theorem em_78 {Γ : Ctx} (s : AS) (ρ : Operand → PV) (l c : Operand) : evEff Tryd.prog Γ s ρ (.makeSlice 78 l c) = mkEv 80 2 16 (.agg #[.int .i64 0, .int .i64 0]) s (ρ l) (ρ c) := em_of el_78 ze_80 sz_80 by_80 (by kernel_rfl) rfl s ρ l c
theorem eap_78 {Γ : Ctx} (s : AS) (ρ : Operand → PV) (x y : Operand) : evEff Tryd.prog Γ s ρ (.call { callee := .builtin .append, args := #[x, y], argTypes := #[78, 78] }) = apEv 80 2 16 s.nx s.ob (ρ x) (obOf s.ob (ρ x)) (sliceEs s.ob 2 (ρ y)) := eap_of el_78 ze_80 sz_80 by_80 (by decide) rfl s ρ x y
theorem ecp_78 {Γ : Ctx} (s : AS) (ρ : Operand → PV) (x y : Operand) (t' : Nat) : evEff Tryd.prog Γ s ρ (.call { callee := .builtin .copy, args := #[x, y], argTypes := #[78, t'] }) = cpX 2 s.nx s.ob (ρ x) (obOf s.ob (ρ x)) (srcEs s.ob 2 (ρ y)) := ecp_of el_78 sz_80 s ρ x y t'
theorem bs_78 : isByteSlice Tryd.prog 78 = false := by kernel_rfl
theorem is_78 : isStr Tryd.prog 78 = false := by kernel_rfl
theorem cvi_2_2 {k : IntKind} {n : Int} {es : Option (List PV)} : convP Tryd.prog 2 2 false es (some (.int k n)) = some (.val (.int .i64 (IntKind.i64.wrap n))) := cv_int un_2 un_2
theorem cvi_2_3 {k : IntKind} {n : Int} {es : Option (List PV)} : convP Tryd.prog 2 3 false es (some (.int k n)) = some (.val (.int .i64 (IntKind.i64.wrap n))) := cv_int un_2 un_3
theorem cvi_2_5 {k : IntKind} {n : Int} {es : Option (List PV)} : convP Tryd.prog 2 5 false es (some (.int k n)) = some (.val (.int .u8 (IntKind.u8.wrap n))) := cv_int un_2 un_5
theorem cvi_2_12 {k : IntKind} {n : Int} {es : Option (List PV)} : convP Tryd.prog 2 12 false es (some (.int k n)) = some (.val (.int .u64 (IntKind.u64.wrap n))) := cv_int un_2 un_12
theorem cvi_2_21 {k : IntKind} {n : Int} {es : Option (List PV)} : convP Tryd.prog 2 21 false es (some (.int k n)) = some (.val (.int .i32 (IntKind.i32.wrap n))) := cv_int un_2 un_21
theorem cvi_2_127 {k : IntKind} {n : Int} {es : Option (List PV)} : convP Tryd.prog 2 127 false es (some (.int k n)) = some (.val (.int .u64 (IntKind.u64.wrap n))) := cv_int un_2 un_127
theorem cvi_2_143 {k : IntKind} {n : Int} {es : Option (List PV)} : convP Tryd.prog 2 143 false es (some (.int k n)) = some (.val (.int .i64 (IntKind.i64.wrap n))) := cv_int un_2 un_143
theorem cvi_2_152 {k : IntKind} {n : Int} {es : Option (List PV)} : convP Tryd.prog 2 152 false es (some (.int k n)) = some (.val (.int .u32 (IntKind.u32.wrap n))) := cv_int un_2 un_152
theorem cvi_2_154 {k : IntKind} {n : Int} {es : Option (List PV)} : convP Tryd.prog 2 154 false es (some (.int k n)) = some (.val (.int .u64 (IntKind.u64.wrap n))) := cv_int un_2 un_154
theorem cvi_2_180 {k : IntKind} {n : Int} {es : Option (List PV)} : convP Tryd.prog 2 180 false es (some (.int k n)) = some (.val (.int .u64 (IntKind.u64.wrap n))) := cv_int un_2 un_180
theorem cvi_3_2 {k : IntKind} {n : Int} {es : Option (List PV)} : convP Tryd.prog 3 2 false es (some (.int k n)) = some (.val (.int .i64 (IntKind.i64.wrap n))) := cv_int un_3 un_2
theorem cvi_3_3 {k : IntKind} {n : Int} {es : Option (List PV)} : convP Tryd.prog 3 3 false es (some (.int k n)) = some (.val (.int .i64 (IntKind.i64.wrap n))) := cv_int un_3 un_3
theorem cvi_3_5 {k : IntKind} {n : Int} {es : Option (List PV)} : convP Tryd.prog 3 5 false es (some (.int k n)) = some (.val (.int .u8 (IntKind.u8.wrap n))) := cv_int un_3 un_5
theorem cvi_3_12 {k : IntKind} {n : Int} {es : Option (List PV)} : convP Tryd.prog 3 12 false es (some (.int k n)) = some (.val (.int .u64 (IntKind.u64.wrap n))) := cv_int un_3 un_12
theorem cvi_3_21 {k : IntKind} {n : Int} {es : Option (List PV)} : convP Tryd.prog 3 21 false es (some (.int k n)) = some (.val (.int .i32 (IntKind.i32.wrap n))) := cv_int un_3 un_21
theorem cvi_3_127 {k : IntKind} {n : Int} {es : Option (List PV)} : convP Tryd.prog 3 127 false es (some (.int k n)) = some (.val (.int .u64 (IntKind.u64.wrap n))) := cv_int un_3 un_127
theorem cvi_3_143 {k : IntKind} {n : Int} {es : Option (List PV)} : convP Tryd.prog 3 143 false es (some (.int k n)) = some (.val (.int .i64 (IntKind.i64.wrap n))) := cv_int un_3 un_143
theorem cvi_3_152 {k : IntKind} {n : Int} {es : Option (List PV)} : convP Tryd.prog 3 152 false es (some (.int k n)) = some (.val (.int .u32 (IntKind.u32.wrap n))) := cv_int un_3 un_152
theorem cvi_3_154 {k : IntKind} {n : Int} {es : Option (List PV)} : convP Tryd.prog 3 154 false es (some (.int k n)) = some (.val (.int .u64 (IntKind.u64.wrap n))) := cv_int un_3 un_154
theorem cvi_3_180 {k : IntKind} {n : Int} {es : Option (List PV)} : convP Tryd.prog 3 180 false es (some (.int k n)) = some (.val (.int .u64 (IntKind.u64.wrap n))) := cv_int un_3 un_180
theorem cvi_5_2 {k : IntKind} {n : Int} {es : Option (List PV)} : convP Tryd.prog 5 2 false es (some (.int k n)) = some (.val (.int .i64 (IntKind.i64.wrap n))) := cv_int un_5 un_2
theorem cvi_5_3 {k : IntKind} {n : Int} {es : Option (List PV)} : convP Tryd.prog 5 3 false es (some (.int k n)) = some (.val (.int .i64 (IntKind.i64.wrap n))) := cv_int un_5 un_3
theorem cvi_5_5 {k : IntKind} {n : Int} {es : Option (List PV)} : convP Tryd.prog 5 5 false es (some (.int k n)) = some (.val (.int .u8 (IntKind.u8.wrap n))) := cv_int un_5 un_5
theorem cvi_5_12 {k : IntKind} {n : Int} {es : Option (List PV)} : convP Tryd.prog 5 12 false es (some (.int k n)) = some (.val (.int .u64 (IntKind.u64.wrap n))) := cv_int un_5 un_12
theorem cvi_5_21 {k : IntKind} {n : Int} {es : Option (List PV)} : convP Tryd.prog 5 21 false es (some (.int k n)) = some (.val (.int .i32 (IntKind.i32.wrap n))) := cv_int un_5 un_21
theorem cvi_5_127 {k : IntKind} {n : Int} {es : Option (List PV)} : convP Tryd.prog 5 127 false es (some (.int k n)) = some (.val (.int .u64 (IntKind.u64.wrap n))) := cv_int un_5 un_127
theorem cvi_5_143 {k : IntKind} {n : Int} {es : Option (List PV)} : convP Tryd.prog 5 143 false es (some (.int k n)) = some (.val (.int .i64 (IntKind.i64.wrap n))) := cv_int un_5 un_143
theorem cvi_5_152 {k : IntKind} {n : Int} {es : Option (List PV)} : convP Tryd.prog 5 152 false es (some (.int k n)) = some (.val (.int .u32 (IntKind.u32.wrap n))) := cv_int un_5 un_152
theorem cvi_5_154 {k : IntKind} {n : Int} {es : Option (List PV)} : convP Tryd.prog 5 154 false es (some (.int k n)) = some (.val (.int .u64 (IntKind.u64.wrap n))) := cv_int un_5 un_154
theorem cvi_5_180 {k : IntKind} {n : Int} {es : Option (List PV)} : convP Tryd.prog 5 180 false es (some (.int k n)) = some (.val (.int .u64 (IntKind.u64.wrap n))) := cv_int un_5 un_180
theorem cvi_12_2 {k : IntKind} {n : Int} {es : Option (List PV)} : convP Tryd.prog 12 2 false es (some (.int k n)) = some (.val (.int .i64 (IntKind.i64.wrap n))) := cv_int un_12 un_2
theorem cvi_12_3 {k : IntKind} {n : Int} {es : Option (List PV)} : convP Tryd.prog 12 3 false es (some (.int k n)) = some (.val (.int .i64 (IntKind.i64.wrap n))) := cv_int un_12 un_3
theorem cvi_12_5 {k : IntKind} {n : Int} {es : Option (List PV)} : convP Tryd.prog 12 5 false es (some (.int k n)) = some (.val (.int .u8 (IntKind.u8.wrap n))) := cv_int un_12 un_5
theorem cvi_12_12 {k : IntKind} {n : Int} {es : Option (List PV)} : convP Tryd.prog 12 12 false es (some (.int k n)) = some (.val (.int .u64 (IntKind.u64.wrap n))) := cv_int un_12 un_12
theorem cvi_12_21 {k : IntKind} {n : Int} {es : Option (List PV)} : convP Tryd.prog 12 21 false es (some (.int k n)) = some (.val (.int .i32 (IntKind.i32.wrap n))) := cv_int un_12 un_21
theorem cvi_12_127 {k : IntKind} {n : Int} {es : Option (List PV)} : convP Tryd.prog 12 127 false es (some (.int k n)) = some (.val (.int .u64 (IntKind.u64.wrap n))) := cv_int un_12 un_127
theorem cvi_12_143 {k : IntKind} {n : Int} {es : Option (List PV)} : convP Tryd.prog 12 143 false es (some (.int k n)) = some (.val (.int .i64 (IntKind.i64.wrap n))) := cv_int un_12 un_143
theorem cvi_12_152 {k : IntKind} {n : Int} {es : Option (List PV)} : convP Tryd.prog 12 152 false es (some (.int k n)) = some (.val (.int .u32 (IntKind.u32.wrap n))) := cv_int un_12 un_152
theorem cvi_12_154 {k : IntKind} {n : Int} {es : Option (List PV)} : convP Tryd.prog 12 154 false es (some (.int k n)) = some (.val (.int .u64 (IntKind.u64.wrap n))) := cv_int un_12 un_154
theorem cvi_12_180 {k : IntKind} {n : Int} {es : Option (List PV)} : convP Tryd.prog 12 180 false es (some (.int k n)) = some (.val (.int .u64 (IntKind.u64.wrap n))) := cv_int un_12 un_180
theorem cvi_21_2 {k : IntKind} {n : Int} {es : Option (List PV)} : convP Tryd.prog 21 2 false es (some (.int k n)) = some (.val (.int .i64 (IntKind.i64.wrap n))) := cv_int un_21 un_2
theorem cvi_21_3 {k : IntKind} {n : Int} {es : Option (List PV)} : convP Tryd.prog 21 3 false es (some (.int k n)) = some (.val (.int .i64 (IntKind.i64.wrap n))) := cv_int un_21 un_3
theorem cvi_21_5 {k : IntKind} {n : Int} {es : Option (List PV)} : convP Tryd.prog 21 5 false es (some (.int k n)) = some (.val (.int .u8 (IntKind.u8.wrap n))) := cv_int un_21 un_5
theorem cvi_21_12 {k : IntKind} {n : Int} {es : Option (List PV)} : convP Tryd.prog 21 12 false es (some (.int k n)) = some (.val (.int .u64 (IntKind.u64.wrap n))) := cv_int un_21 un_12
theorem cvi_21_21 {k : IntKind} {n : Int} {es : Option (List PV)} : convP Tryd.prog 21 21 false es (some (.int k n)) = some (.val (.int .i32 (IntKind.i32.wrap n))) := cv_int un_21 un_21
theorem cvi_21_127 {k : IntKind} {n : Int} {es : Option (List PV)} : convP Tryd.prog 21 127 false es (some (.int k n)) = some (.val (.int .u64 (IntKind.u64.wrap n))) := cv_int un_21 un_127
theorem cvi_21_143 {k : IntKind} {n : Int} {es : Option (List PV)} : convP Tryd.prog 21 143 false es (some (.int k n)) = some (.val (.int .i64 (IntKind.i64.wrap n))) := cv_int un_21 un_143
theorem cvi_21_152 {k : IntKind} {n : Int} {es : Option (List PV)} : convP Tryd.prog 21 152 false es (some (.int k n)) = some (.val (.int .u32 (IntKind.u32.wrap n))) := cv_int un_21 un_152
theorem cvi_21_154 {k : IntKind} {n : Int} {es : Option (List PV)} : convP Tryd.prog 21 154 false es (some (.int k n)) = some (.val (.int .u64 (IntKind.u64.wrap n))) := cv_int un_21 un_154
theorem cvi_21_180 {k : IntKind} {n : Int} {es : Option (List PV)} : convP Tryd.prog 21 180 false es (some (.int k n)) = some (.val (.int .u64 (IntKind.u64.wrap n))) := cv_int un_21 un_180
theorem cvi_127_2 {k : IntKind} {n : Int} {es : Option (List PV)} : convP Tryd.prog 127 2 false es (some (.int k n)) = some (.val (.int .i64 (IntKind.i64.wrap n))) := cv_int un_127 un_2
theorem cvi_127_3 {k : IntKind} {n : Int} {es : Option (List PV)} : convP Tryd.prog 127 3 false es (some (.int k n)) = some (.val (.int .i64 (IntKind.i64.wrap n))) := cv_int un_127 un_3
theorem cvi_127_5 {k : IntKind} {n : Int} {es : Option (List PV)} : convP Tryd.prog 127 5 false es (some (.int k n)) = some (.val (.int .u8 (IntKind.u8.wrap n))) := cv_int un_127 un_5
theorem cvi_127_12 {k : IntKind} {n : Int} {es : Option (List PV)} : convP Tryd.prog 127 12 false es (some (.int k n)) = some (.val (.int .u64 (IntKind.u64.wrap n))) := cv_int un_127 un_12
theorem cvi_127_21 {k : IntKind} {n : Int} {es : Option (List PV)} : convP Tryd.prog 127 21 false es (some (.int k n)) = some (.val (.int .i32 (IntKind.i32.wrap n))) := cv_int un_127 un_21
theorem cvi_127_127 {k : IntKind} {n : Int} {es : Option (List PV)} : convP Tryd.prog 127 127 false es (some (.int k n)) = some (.val (.int .u64 (IntKind.u64.wrap n))) := cv_int un_127 un_127
theorem cvi_127_143 {k : IntKind} {n : Int} {es : Option (List PV)} : convP Tryd.prog 127 143 false es (some (.int k n)) = some (.val (.int .i64 (IntKind.i64.wrap n))) := cv_int un_127 un_143
theorem cvi_127_152 {k : IntKind} {n : Int} {es : Option (List PV)} : convP Tryd.prog 127 152 false es (some (.int k n)) = some (.val (.int .u32 (IntKind.u32.wrap n))) := cv_int un_127 un_152
theorem cvi_127_154 {k : IntKind} {n : Int} {es : Option (List PV)} : convP Tryd.prog 127 154 false es (some (.int k n)) = some (.val (.int .u64 (IntKind.u64.wrap n))) := cv_int un_127 un_154
theorem cvi_127_180 {k : IntKind} {n : Int} {es : Option (List PV)} : convP Tryd.prog 127 180 false es (some (.int k n)) = some (.val (.int .u64 (IntKind.u64.wrap n))) := cv_int un_127 un_180
theorem cvi_143_2 {k : IntKind} {n : Int} {es : Option (List PV)} : convP Tryd.prog 143 2 false es (some (.int k n)) = some (.val (.int .i64 (IntKind.i64.wrap n))) := cv_int un_143 un_2
theorem cvi_143_3 {k : IntKind} {n : Int} {es : Option (List PV)} : convP Tryd.prog 143 3 false es (some (.int k n)) = some (.val (.int .i64 (IntKind.i64.wrap n))) := cv_int un_143 un_3
theorem cvi_143_5 {k : IntKind} {n : Int} {es : Option (List PV)} : convP Tryd.prog 143 5 false es (some (.int k n)) = some (.val (.int .u8 (IntKind.u8.wrap n))) := cv_int un_143 un_5
theorem cvi_143_12 {k : IntKind} {n : Int} {es : Option (List PV)} : convP Tryd.prog 143 12 false es (some (.int k n)) = some (.val (.int .u64 (IntKind.u64.wrap n))) := cv_int un_143 un_12
theorem cvi_143_21 {k : IntKind} {n : Int} {es : Option (List PV)} : convP Tryd.prog 143 21 false es (some (.int k n)) = some (.val (.int .i32 (IntKind.i32.wrap n))) := cv_int un_143 un_21
theorem cvi_143_127 {k : IntKind} {n : Int} {es : Option (List PV)} : convP Tryd.prog 143 127 false es (some (.int k n)) = some (.val (.int .u64 (IntKind.u64.wrap n))) := cv_int un_143 un_127
theorem cvi_143_143 {k : IntKind} {n : Int} {es : Option (List PV)} : convP Tryd.prog 143 143 false es (some (.int k n)) = some (.val (.int .i64 (IntKind.i64.wrap n))) := cv_int un_143 un_143
theorem cvi_143_152 {k : IntKind} {n : Int} {es : Option (List PV)} : convP Tryd.prog 143 152 false es (some (.int k n)) = some (.val (.int .u32 (IntKind.u32.wrap n))) := cv_int un_143 un_152
theorem cvi_143_154 {k : IntKind} {n : Int} {es : Option (List PV)} : convP Tryd.prog 143 154 false es (some (.int k n)) = some (.val (.int .u64 (IntKind.u64.wrap n))) := cv_int un_143 un_154
theorem cvi_143_180 {k : IntKind} {n : Int} {es : Option (List PV)} : convP Tryd.prog 143 180 false es (some (.int k n)) = some (.val (.int .u64 (IntKind.u64.wrap n))) := cv_int un_143 un_180
theorem cvi_152_2 {k : IntKind} {n : Int} {es : Option (List PV)} : convP Tryd.prog 152 2 false es (some (.int k n)) = some (.val (.int .i64 (IntKind.i64.wrap n))) := cv_int un_152 un_2
theorem cvi_152_3 {k : IntKind} {n : Int} {es : Option (List PV)} : convP Tryd.prog 152 3 false es (some (.int k n)) = some (.val (.int .i64 (IntKind.i64.wrap n))) := cv_int un_152 un_3
theorem cvi_152_5 {k : IntKind} {n : Int} {es : Option (List PV)} : convP Tryd.prog 152 5 false es (some (.int k n)) = some (.val (.int .u8 (IntKind.u8.wrap n))) := cv_int un_152 un_5
theorem cvi_152_12 {k : IntKind} {n : Int} {es : Option (List PV)} : convP Tryd.prog 152 12 false es (some (.int k n)) = some (.val (.int .u64 (IntKind.u64.wrap n))) := cv_int un_152 un_12
theorem cvi_152_21 {k : IntKind} {n : Int} {es : Option (List PV)} : convP Tryd.prog 152 21 false es (some (.int k n)) = some (.val (.int .i32 (IntKind.i32.wrap n))) := cv_int un_152 un_21
theorem cvi_152_127 {k : IntKind} {n : Int} {es : Option (List PV)} : convP Tryd.prog 152 127 false es (some (.int k n)) = some (.val (.int .u64 (IntKind.u64.wrap n))) := cv_int un_152 un_127
theorem cvi_152_143 {k : IntKind} {n : Int} {es : Option (List PV)} : convP Tryd.prog 152 143 false es (some (.int k n)) = some (.val (.int .i64 (IntKind.i64.wrap n))) := cv_int un_152 un_143
theorem cvi_152_152 {k : IntKind} {n : Int} {es : Option (List PV)} : convP Tryd.prog 152 152 false es (some (.int k n)) = some (.val (.int .u32 (IntKind.u32.wrap n))) := cv_int un_152 un_152
theorem cvi_152_154 {k : IntKind} {n : Int} {es : Option (List PV)} : convP Tryd.prog 152 154 false es (some (.int k n)) = some (.val (.int .u64 (IntKind.u64.wrap n))) := cv_int un_152 un_154
theorem cvi_152_180 {k : IntKind} {n : Int} {es : Option (List PV)} : convP Tryd.prog 152 180 false es (some (.int k n)) = some (.val (.int .u64 (IntKind.u64.wrap n))) := cv_int un_152 un_180
theorem cvi_154_2 {k : IntKind} {n : Int} {es : Option (List PV)} : convP Tryd.prog 154 2 false es (some (.int k n)) = some (.val (.int .i64 (IntKind.i64.wrap n))) := cv_int un_154 un_2
theorem cvi_154_3 {k : IntKind} {n : Int} {es : Option (List PV)} : convP Tryd.prog 154 3 false es (some (.int k n)) = some (.val (.int .i64 (IntKind.i64.wrap n))) := cv_int un_154 un_3
theorem cvi_154_5 {k : IntKind} {n : Int} {es : Option (List PV)} : convP Tryd.prog 154 5 false es (some (.int k n)) = some (.val (.int .u8 (IntKind.u8.wrap n))) := cv_int un_154 un_5
theorem cvi_154_12 {k : IntKind} {n : Int} {es : Option (List PV)} : convP Tryd.prog 154 12 false es (some (.int k n)) = some (.val (.int .u64 (IntKind.u64.wrap n))) := cv_int un_154 un_12
theorem cvi_154_21 {k : IntKind} {n : Int} {es : Option (List PV)} : convP Tryd.prog 154 21 false es (some (.int k n)) = some (.val (.int .i32 (IntKind.i32.wrap n))) := cv_int un_154 un_21
theorem cvi_154_127 {k : IntKind} {n : Int} {es : Option (List PV)} : convP Tryd.prog 154 127 false es (some (.int k n)) = some (.val (.int .u64 (IntKind.u64.wrap n))) := cv_int un_154 un_127
theorem cvi_154_143 {k : IntKind} {n : Int} {es : Option (List PV)} : convP Tryd.prog 154 143 false es (some (.int k n)) = some (.val (.int .i64 (IntKind.i64.wrap n))) := cv_int un_154 un_143
theorem cvi_154_152 {k : IntKind} {n : Int} {es : Option (List PV)} : convP Tryd.prog 154 152 false es (some (.int k n)) = some (.val (.int .u32 (IntKind.u32.wrap n))) := cv_int un_154 un_152
theorem cvi_154_154 {k : IntKind} {n : Int} {es : Option (List PV)} : convP Tryd.prog 154 154 false es (some (.int k n)) = some (.val (.int .u64 (IntKind.u64.wrap n))) := cv_int un_154 un_154
theorem cvi_154_180 {k : IntKind} {n : Int} {es : Option (List PV)} : convP Tryd.prog 154 180 false es (some (.int k n)) = some (.val (.int .u64 (IntKind.u64.wrap n))) := cv_int un_154 un_180
theorem cvi_180_2 {k : IntKind} {n : Int} {es : Option (List PV)} : convP Tryd.prog 180 2 false es (some (.int k n)) = some (.val (.int .i64 (IntKind.i64.wrap n))) := cv_int un_180 un_2
theorem cvi_180_3 {k : IntKind} {n : Int} {es : Option (List PV)} : convP Tryd.prog 180 3 false es (some (.int k n)) = some (.val (.int .i64 (IntKind.i64.wrap n))) := cv_int un_180 un_3
theorem cvi_180_5 {k : IntKind} {n : Int} {es : Option (List PV)} : convP Tryd.prog 180 5 false es (some (.int k n)) = some (.val (.int .u8 (IntKind.u8.wrap n))) := cv_int un_180 un_5
theorem cvi_180_12 {k : IntKind} {n : Int} {es : Option (List PV)} : convP Tryd.prog 180 12 false es (some (.int k n)) = some (.val (.int .u64 (IntKind.u64.wrap n))) := cv_int un_180 un_12
theorem cvi_180_21 {k : IntKind} {n : Int} {es : Option (List PV)} : convP Tryd.prog 180 21 false es (some (.int k n)) = some (.val (.int .i32 (IntKind.i32.wrap n))) := cv_int un_180 un_21
theorem cvi_180_127 {k : IntKind} {n : Int} {es : Option (List PV)} : convP Tryd.prog 180 127 false es (some (.int k n)) = some (.val (.int .u64 (IntKind.u64.wrap n))) := cv_int un_180 un_127
theorem cvi_180_143 {k : IntKind} {n : Int} {es : Option (List PV)} : convP Tryd.prog 180 143 false es (some (.int k n)) = some (.val (.int .i64 (IntKind.i64.wrap n))) := cv_int un_180 un_143
theorem cvi_180_152 {k : IntKind} {n : Int} {es : Option (List PV)} : convP Tryd.prog 180 152 false es (some (.int k n)) = some (.val (.int .u32 (IntKind.u32.wrap n))) := cv_int un_180 un_152
theorem cvi_180_154 {k : IntKind} {n : Int} {es : Option (List PV)} : convP Tryd.prog 180 154 false es (some (.int k n)) = some (.val (.int .u64 (IntKind.u64.wrap n))) := cv_int un_180 un_154
theorem cvi_180_180 {k : IntKind} {n : Int} {es : Option (List PV)} : convP Tryd.prog 180 180 false es (some (.int k n)) = some (.val (.int .u64 (IntKind.u64.wrap n))) := cv_int un_180 un_180
theorem rw_22_0 : rowEs Tryd.prog 22 0 [] = rowC 9 1 [] (true) := rw_of el_22 sz_9 ze_9 _ (by decide) (by decide) rfl
theorem rw_22_1 {a0 : PV} : rowEs Tryd.prog 22 1 [(0, a0)] = rowC 9 1 [a0] (okP 1 a0 && (true)) := rw_of el_22 sz_9 ze_9 _ (by decide) (by decide) rfl
theorem rw_22_4 {a0 a1 a2 a3 : PV} : rowEs Tryd.prog 22 4 [(0, a0), (1, a1), (2, a2), (3, a3)] = rowC 9 1 [a0, a1, a2, a3] (okP 1 a0 && (okP 1 a1 && (okP 1 a2 && (okP 1 a3 && (true))))) := rw_of el_22 sz_9 ze_9 _ (by decide) (by decide) rfl
theorem rw_22_5 {a0 a1 a2 a3 a4 : PV} : rowEs Tryd.prog 22 5 [(0, a0), (1, a1), (2, a2), (3, a3), (4, a4)] = rowC 9 1 [a0, a1, a2, a3, a4] (okP 1 a0 && (okP 1 a1 && (okP 1 a2 && (okP 1 a3 && (okP 1 a4 && (true)))))) := rw_of el_22 sz_9 ze_9 _ (by decide) (by decide) rfl
theorem rw_22_14 {a0 a1 a2 a3 a4 a5 a6 a7 a8 a9 a10 a11 a12 a13 : PV} : rowEs Tryd.prog 22 14 [(0, a0), (1, a1), (2, a2), (3, a3), (4, a4), (5, a5), (6, a6), (7, a7), (8, a8), (9, a9), (10, a10), (11, a11), (12, a12), (13, a13)] = rowC 9 1 [a0, a1, a2, a3, a4, a5, a6, a7, a8, a9, a10, a11, a12, a13] (okP 1 a0 && (okP 1 a1 && (okP 1 a2 && (okP 1 a3 && (okP 1 a4 && (okP 1 a5 && (okP 1 a6 && (okP 1 a7 && (okP 1 a8 && (okP 1 a9 && (okP 1 a10 && (okP 1 a11 && (okP 1 a12 && (okP 1 a13 && (true))))))))))))))) := rw_of el_22 sz_9 ze_9 _ (by decide) (by decide) rfl
theorem rw_24_0 : rowEs Tryd.prog 24 0 [] = rowC 5 1 [] (true) := rw_of el_24 sz_5 ze_5 _ (by decide) (by decide) rfl
theorem rw_24_1 {a0 : PV} : rowEs Tryd.prog 24 1 [(0, a0)] = rowC 5 1 [a0] (okP 1 a0 && (true)) := rw_of el_24 sz_5 ze_5 _ (by decide) (by decide) rfl
theorem rw_40_0 : rowEs Tryd.prog 40 0 [] = rowC 3 1 [] (true) := rw_of el_40 sz_3 ze_3 _ (by decide) (by decide) rfl
theorem rw_40_1 {a0 : PV} : rowEs Tryd.prog 40 1 [(0, a0)] = rowC 3 1 [a0] (okP 1 a0 && (true)) := rw_of el_40 sz_3 ze_3 _ (by decide) (by decide) rfl
theorem rw_40_3 {a0 a1 a2 : PV} : rowEs Tryd.prog 40 3 [(0, a0), (1, a1), (2, a2)] = rowC 3 1 [a0, a1, a2] (okP 1 a0 && (okP 1 a1 && (okP 1 a2 && (true)))) := rw_of el_40 sz_3 ze_3 _ (by decide) (by decide) rfl
theorem rw_40_4 {a0 a1 a2 a3 : PV} : rowEs Tryd.prog 40 4 [(0, a0), (1, a1), (2, a2), (3, a3)] = rowC 3 1 [a0, a1, a2, a3] (okP 1 a0 && (okP 1 a1 && (okP 1 a2 && (okP 1 a3 && (true))))) := rw_of el_40 sz_3 ze_3 _ (by decide) (by decide) rfl
theorem rw_40_5 {a0 a1 a2 a3 a4 : PV} : rowEs Tryd.prog 40 5 [(0, a0), (1, a1), (2, a2), (3, a3), (4, a4)] = rowC 3 1 [a0, a1, a2, a3, a4] (okP 1 a0 && (okP 1 a1 && (okP 1 a2 && (okP 1 a3 && (okP 1 a4 && (true)))))) := rw_of el_40 sz_3 ze_3 _ (by decide) (by decide) rfl
theorem rw_40_6 {a0 a1 a2 a3 a4 a5 : PV} : rowEs Tryd.prog 40 6 [(0, a0), (1, a1), (2, a2), (3, a3), (4, a4), (5, a5)] = rowC 3 1 [a0, a1, a2, a3, a4, a5] (okP 1 a0 && (okP 1 a1 && (okP 1 a2 && (okP 1 a3 && (okP 1 a4 && (okP 1 a5 && (true))))))) := rw_of el_40 sz_3 ze_3 _ (by decide) (by decide) rfl
theorem rw_54_0 : rowEs Tryd.prog 54 0 [] = rowC 61 2 [] (true) := rw_of el_54 sz_61 ze_61 _ (by decide) (by decide) rfl
theorem rw_54_1 {a0 : PV} : rowEs Tryd.prog 54 1 [(0, a0)] = rowC 61 2 [a0] (okP 2 a0 && (true)) := rw_of el_54 sz_61 ze_61 _ (by decide) (by decide) rfl
theorem rw_54_3 {a0 a1 a2 : PV} : rowEs Tryd.prog 54 3 [(0, a0), (1, a1), (2, a2)] = rowC 61 2 [a0, a1, a2] (okP 2 a0 && (okP 2 a1 && (okP 2 a2 && (true)))) := rw_of el_54 sz_61 ze_61 _ (by decide) (by decide) rfl
theorem rw_78_1 {a0 : PV} : rowEs Tryd.prog 78 1 [(0, a0)] = rowC 80 2 [a0] (okP 2 a0 && (true)) := rw_of el_78 sz_80 ze_80 _ (by decide) (by decide) rfl
theorem mixed : Tryd.prog.follows .mixedOrders = true := by kernel_rfl
attribute [push_cast high]
  bz_7 bz_13 bz_25 bz_26 bz_60 bz_61 bz_73 bz_74 bz_90 bz_101 bz_102 bz_202 bz_203 bz_208 bz_209
attribute [push_cast]
  sz_2 ag_2 by_2 ze_2 un_2 oz_2 ea_2 bs_2 is_2 sz_3 ag_3 by_3 ze_3 un_3 oz_3 ea_3 bs_3 is_3 sz_4 ag_4 by_4 ze_4 un_4 bqe_4 bqn_4 oz_4 ea_4 bs_4 is_4 sz_5 ag_5 by_5 ze_5 un_5 oz_5 ea_5 bs_5 is_5 sz_7 ag_7 by_7 ze_7 fo_7_0 fo_7_1 fo_7_2 fo_7_3 pl_7 bl_7 oz_7 ea_7 bs_7 is_7 sz_9 ag_9 by_9 ze_9 un_9 lps_9 ixs_9 oz_9 ea_9 bs_9 is_9 sz_12 ag_12 by_12 ze_12 un_12 oz_12 ea_12 bs_12 is_12 sz_13 ag_13 by_13 ze_13 fo_13_0 fo_13_1 pl_13 bl_13 oz_13 ea_13 bs_13 is_13 sz_21 ag_21 by_21 ze_21 un_21 oz_21 ea_21 bs_21 is_21 sz_25 ag_25 by_25 ze_25 fo_25_0 fo_25_1 pl_25 bl_25 oz_25 ea_25 bs_25 is_25 sz_26 ag_26 by_26 ze_26 fo_26_0 fo_26_1 pl_26 bl_26 oz_26 ea_26 bs_26 is_26 sz_60 ag_60 by_60 ze_60 fo_60_0 fo_60_1 pl_60 bl_60 oz_60 ea_60 bs_60 is_60 sz_61 ag_61 by_61 ze_61 fo_61_0 fo_61_1 pl_61 bl_61 oz_61 ea_61 sqeql_61 sqneq_61 bs_61 is_61 sz_73 ag_73 by_73 ze_73 fo_73_0 fo_73_1 fo_73_2 fo_73_3 pl_73 bl_73 oz_73 ea_73 bs_73 is_73 sz_74 ag_74 by_74 ze_74 fo_74_0 fo_74_1 fo_74_2 fo_74_3 pl_74 bl_74 oz_74 ea_74 sqeql_74 sqneq_74 bs_74 is_74 sz_80 ag_80 by_80 ze_80 un_80 ixa_80 ixp_80 bl_80 oz_80 ea_80 bs_80 is_80 sz_90 ag_90 by_90 ze_90 fo_90_0 fo_90_1 pl_90 bl_90 oz_90 ea_90 sqeql_90 sqneq_90 bs_90 is_90 sz_101 ag_101 by_101 ze_101 fo_101_0 fo_101_1 pl_101 bl_101 oz_101 ea_101 bs_101 is_101 sz_102 ag_102 by_102 ze_102 fo_102_0 fo_102_1 pl_102 bl_102 oz_102 ea_102 bs_102 is_102 sz_127 ag_127 by_127 ze_127 un_127 oz_127 ea_127 bs_127 is_127 sz_143 ag_143 by_143 ze_143 un_143 oz_143 ea_143 bs_143 is_143 sz_152 ag_152 by_152 ze_152 un_152 oz_152 ea_152 bs_152 is_152 sz_154 ag_154 by_154 ze_154 un_154 oz_154 ea_154 bs_154 is_154 sz_165 ag_165 by_165 ze_165 un_165 oz_165 ea_165 bs_165 is_165 sz_180 ag_180 by_180 ze_180 un_180 oz_180 ea_180 bs_180 is_180 sz_189 ag_189 by_189 ze_189 un_189 oz_189 ea_189 bs_189 is_189 sz_202 ag_202 by_202 ze_202 fo_202_0 fo_202_1 pl_202 bl_202 oz_202 ea_202 bs_202 is_202 sz_203 ag_203 by_203 ze_203 fo_203_0 fo_203_1 pl_203 bl_203 oz_203 ea_203 bs_203 is_203 sz_204 ag_204 by_204 ze_204 un_204 oz_204 ea_204 bs_204 is_204 sz_208 ag_208 by_208 ze_208 fo_208_0 pl_208 bl_208 oz_208 ea_208 bs_208 is_208 sz_209 ag_209 by_209 ze_209 fo_209_0 pl_209 bl_209 oz_209 ea_209 bs_209 is_209 sz_210 ag_210 by_210 ze_210 un_210 oz_210 ea_210 bs_210 is_210 sz_211 ag_211 by_211 ze_211 un_211 oz_211 ea_211 bs_211 is_211 sz_22 ag_22 by_22 ze_22 un_22 el_22 ix_22 ixr_22 sl_22 slr_22 sle_22 lpl_22 lpr_22 lpn_22 oz_22 ea_22 em_22 eap_22 ecp_22 bs_22 is_22 sz_24 ag_24 by_24 ze_24 un_24 el_24 ix_24 ixr_24 sl_24 slr_24 sle_24 lpl_24 lpr_24 lpn_24 oz_24 ea_24 em_24 eap_24 ecp_24 bs_24 is_24 sz_40 ag_40 by_40 ze_40 un_40 el_40 ix_40 ixr_40 sl_40 slr_40 sle_40 lpl_40 lpr_40 lpn_40 oz_40 ea_40 em_40 eap_40 ecp_40 bs_40 is_40 sz_51 ag_51 by_51 ze_51 un_51 el_51 ix_51 ixr_51 sl_51 slr_51 sle_51 lpl_51 lpr_51 lpn_51 oz_51 ea_51 em_51 eap_51 ecp_51 bs_51 is_51 sz_54 ag_54 by_54 ze_54 un_54 el_54 ix_54 ixr_54 sl_54 slr_54 sle_54 lpl_54 lpr_54 lpn_54 oz_54 ea_54 em_54 eap_54 ecp_54 bs_54 is_54 sz_78 ag_78 by_78 ze_78 un_78 el_78 ix_78 ixr_78 sl_78 slr_78 sle_78 lpl_78 lpr_78 lpn_78 oz_78 ea_78 em_78 eap_78 ecp_78 bs_78 is_78 cvi_2_2 cvi_2_3 cvi_2_5 cvi_2_12 cvi_2_21 cvi_2_127 cvi_2_143 cvi_2_152 cvi_2_154 cvi_2_180 cvi_3_2 cvi_3_3 cvi_3_5 cvi_3_12 cvi_3_21 cvi_3_127 cvi_3_143 cvi_3_152 cvi_3_154 cvi_3_180 cvi_5_2 cvi_5_3 cvi_5_5 cvi_5_12 cvi_5_21 cvi_5_127 cvi_5_143 cvi_5_152 cvi_5_154 cvi_5_180 cvi_12_2 cvi_12_3 cvi_12_5 cvi_12_12 cvi_12_21 cvi_12_127 cvi_12_143 cvi_12_152 cvi_12_154 cvi_12_180 cvi_21_2 cvi_21_3 cvi_21_5 cvi_21_12 cvi_21_21 cvi_21_127 cvi_21_143 cvi_21_152 cvi_21_154 cvi_21_180 cvi_127_2 cvi_127_3 cvi_127_5 cvi_127_12 cvi_127_21 cvi_127_127 cvi_127_143 cvi_127_152 cvi_127_154 cvi_127_180 cvi_143_2 cvi_143_3 cvi_143_5 cvi_143_12 cvi_143_21 cvi_143_127 cvi_143_143 cvi_143_152 cvi_143_154 cvi_143_180 cvi_152_2 cvi_152_3 cvi_152_5 cvi_152_12 cvi_152_21 cvi_152_127 cvi_152_143 cvi_152_152 cvi_152_154 cvi_152_180 cvi_154_2 cvi_154_3 cvi_154_5 cvi_154_12 cvi_154_21 cvi_154_127 cvi_154_143 cvi_154_152 cvi_154_154 cvi_154_180 cvi_180_2 cvi_180_3 cvi_180_5 cvi_180_12 cvi_180_21 cvi_180_127 cvi_180_143 cvi_180_152 cvi_180_154 cvi_180_180 rw_22_0 rw_22_1 rw_22_4 rw_22_5 rw_22_14 rw_24_0 rw_24_1 rw_40_0 rw_40_1 rw_40_3 rw_40_4 rw_40_5 rw_40_6 rw_54_0 rw_54_1 rw_54_3 rw_78_1
end Go.Proofs.YtpggpdbipajchaaDoor
