/- What the proof rests on, part 3: contracts of functions. No condition beyond what each states. -/
import Derived.Test.YtpggpdbipajchaaDoorZRdE2
namespace Go.Proofs.YtpggpdbipajchaaDoor
open Go.RowKit
set_option linter.all false
theorem sz_2 : tySize Tryd.prog 2 = some 1 := by kernel_rfl
theorem ag_2 : tyAgg Tryd.prog 2 = some false := by kernel_rfl
theorem by_2 : tyBytes Tryd.prog 2 = some 8 := by kernel_rfl
theorem ze_2 : zeroOf Tryd.prog 2 = some (.int .i64 0) := by kernel_rfl
theorem un_2 : Tryd.prog.underlying 2 = some (.int .i64) := by kernel_rfl
theorem oz_2 : ofVal (.int .i64 0) = .val (.int .i64 0) := rfl
theorem ea_2 {Γ : Ctx} (s : AS) (ρ : Operand → PV) : evEff Tryd.prog Γ s ρ (.alloc 2) = some (.own s.nx 1 0 0, upd s.ob s.nx (some (2, 1, [.val (.int .i64 0)])), s.nx + 1) := ea_of ze_2 (by kernel_rfl) rfl rfl s ρ
theorem bs_2 : isByteSlice Tryd.prog 2 = false := by kernel_rfl
theorem is_2 : isStr Tryd.prog 2 = false := by kernel_rfl
theorem sz_3 : tySize Tryd.prog 3 = some 1 := by kernel_rfl
theorem ag_3 : tyAgg Tryd.prog 3 = some false := by kernel_rfl
theorem by_3 : tyBytes Tryd.prog 3 = some 8 := by kernel_rfl
theorem ze_3 : zeroOf Tryd.prog 3 = some (.int .i64 0) := by kernel_rfl
theorem un_3 : Tryd.prog.underlying 3 = some (.int .i64) := by kernel_rfl
theorem oz_3 : ofVal (.int .i64 0) = .val (.int .i64 0) := rfl
theorem ea_3 {Γ : Ctx} (s : AS) (ρ : Operand → PV) : evEff Tryd.prog Γ s ρ (.alloc 3) = some (.own s.nx 1 0 0, upd s.ob s.nx (some (3, 1, [.val (.int .i64 0)])), s.nx + 1) := ea_of ze_3 (by kernel_rfl) rfl rfl s ρ
theorem bs_3 : isByteSlice Tryd.prog 3 = false := by kernel_rfl
theorem is_3 : isStr Tryd.prog 3 = false := by kernel_rfl
theorem sz_4 : tySize Tryd.prog 4 = some 1 := by kernel_rfl
theorem ag_4 : tyAgg Tryd.prog 4 = some false := by kernel_rfl
theorem by_4 : tyBytes Tryd.prog 4 = some 1 := by kernel_rfl
theorem ze_4 : zeroOf Tryd.prog 4 = some (.bool false) := by kernel_rfl
theorem un_4 : Tryd.prog.underlying 4 = some .bool := by kernel_rfl
theorem bqe_4 {x y : Operand} {a b : Bool} : binP Tryd.prog .eql 4 x y (some (.bool a)) (some (.bool b)) = some (.val (.bool (a == b))) := bp_eqlB un_4
theorem bqn_4 {x y : Operand} {a b : Bool} : binP Tryd.prog .neq 4 x y (some (.bool a)) (some (.bool b)) = some (.val (.bool (!(a == b)))) := bp_neqB un_4
theorem oz_4 : ofVal (.bool false) = .val (.bool false) := rfl
theorem ea_4 {Γ : Ctx} (s : AS) (ρ : Operand → PV) : evEff Tryd.prog Γ s ρ (.alloc 4) = some (.own s.nx 1 0 0, upd s.ob s.nx (some (4, 1, [.val (.bool false)])), s.nx + 1) := ea_of ze_4 (by kernel_rfl) rfl rfl s ρ
theorem bs_4 : isByteSlice Tryd.prog 4 = false := by kernel_rfl
theorem is_4 : isStr Tryd.prog 4 = false := by kernel_rfl
theorem sz_5 : tySize Tryd.prog 5 = some 1 := by kernel_rfl
theorem ag_5 : tyAgg Tryd.prog 5 = some false := by kernel_rfl
theorem by_5 : tyBytes Tryd.prog 5 = some 1 := by kernel_rfl
theorem ze_5 : zeroOf Tryd.prog 5 = some (.int .u8 0) := by kernel_rfl
theorem un_5 : Tryd.prog.underlying 5 = some (.int .u8) := by kernel_rfl
theorem oz_5 : ofVal (.int .u8 0) = .val (.int .u8 0) := rfl
theorem ea_5 {Γ : Ctx} (s : AS) (ρ : Operand → PV) : evEff Tryd.prog Γ s ρ (.alloc 5) = some (.own s.nx 1 0 0, upd s.ob s.nx (some (5, 1, [.val (.int .u8 0)])), s.nx + 1) := ea_of ze_5 (by kernel_rfl) rfl rfl s ρ
theorem bs_5 : isByteSlice Tryd.prog 5 = false := by kernel_rfl
theorem is_5 : isStr Tryd.prog 5 = false := by kernel_rfl
theorem sz_7 : tySize Tryd.prog 7 = some 4 := by kernel_rfl
theorem ag_7 : tyAgg Tryd.prog 7 = some true := by kernel_rfl
theorem by_7 : tyBytes Tryd.prog 7 = some 24 := by kernel_rfl
theorem ze_7 : zeroOf Tryd.prog 7 = some (.agg #[.int .i64 0, .int .i64 0, .bool false, .int .u8 0]) := by kernel_rfl
theorem fo_7_0 : fieldOff Tryd.prog 7 0 = some 0 := by kernel_rfl
theorem fo_7_1 : fieldOff Tryd.prog 7 1 = some 1 := by kernel_rfl
theorem fo_7_2 : fieldOff Tryd.prog 7 2 = some 2 := by kernel_rfl
theorem fo_7_3 : fieldOff Tryd.prog 7 3 = some 3 := by kernel_rfl
theorem pl_7 : structPlaces Tryd.prog 7 = some #[(0, 1), (1, 1), (2, 1), (3, 1)] := by kernel_rfl
theorem bl_7 (ps : List (Nat × PV)) : evBuild Tryd.prog 7 ps = (fillP (plF [(0, 1), (1, 1), (2, 1), (3, 1)]) [.val (.int .i64 0), .val (.int .i64 0), .val (.bool false), .val (.int .u8 0)] ps).map .agg := bl_of ze_7 rfl pl_7 ps
theorem oz_7 : ofVal (.agg #[.int .i64 0, .int .i64 0, .bool false, .int .u8 0]) = .agg [.val (.int .i64 0), .val (.int .i64 0), .val (.bool false), .val (.int .u8 0)] := rfl
theorem ea_7 {Γ : Ctx} (s : AS) (ρ : Operand → PV) : evEff Tryd.prog Γ s ρ (.alloc 7) = some (.own s.nx 4 0 0, upd s.ob s.nx (some (7, 4, [.agg [.val (.int .i64 0), .val (.int .i64 0), .val (.bool false), .val (.int .u8 0)]])), s.nx + 1) := ea_of ze_7 (by kernel_rfl) rfl rfl s ρ
theorem bz_7 {Γ : Ctx} {ob : Objs} {ρ : Operand → PV} {ty : Nat} : evVal Tryd.prog Γ ob ρ ty (.build 7 #[]) = some (.agg [.val (.int .i64 0), .val (.int .i64 0), .val (.bool false), .val (.int .u8 0)]) := (show evBuild Tryd.prog 7 [] = some (.agg [.val (.int .i64 0), .val (.int .i64 0), .val (.bool false), .val (.int .u8 0)]) from by kernel_rfl)
theorem bs_7 : isByteSlice Tryd.prog 7 = false := by kernel_rfl
theorem is_7 : isStr Tryd.prog 7 = false := by kernel_rfl
theorem sz_9 : tySize Tryd.prog 9 = some 1 := by kernel_rfl
theorem ag_9 : tyAgg Tryd.prog 9 = some false := by kernel_rfl
theorem by_9 : tyBytes Tryd.prog 9 = some 16 := by kernel_rfl
theorem ze_9 : zeroOf Tryd.prog 9 = some (.string ByteArray.empty) := by kernel_rfl
theorem un_9 : Tryd.prog.underlying 9 = some .string := by kernel_rfl
theorem lps_9 {ty : Nat} {s : ByteArray} : lenP Tryd.prog 9 ty (.val (.string s)) = some (.val (.int .i64 s.size)) := lp_str un_9
theorem ixs_9 {s : ByteArray} {i : Int} (h0 : 0 ≤ i) (h1 : i < s.size) : idxP Tryd.prog 9 (some (.string s)) (some (.int .i64 i)) = some (.val (.int .u8 (at8 s i.toNat))) := ix_str un_9 h0 h1
theorem oz_9 : ofVal (.string ByteArray.empty) = .val (.string ByteArray.empty) := rfl
theorem ea_9 {Γ : Ctx} (s : AS) (ρ : Operand → PV) : evEff Tryd.prog Γ s ρ (.alloc 9) = some (.own s.nx 1 0 0, upd s.ob s.nx (some (9, 1, [.val (.string ByteArray.empty)])), s.nx + 1) := ea_of ze_9 (by kernel_rfl) rfl rfl s ρ
theorem bs_9 : isByteSlice Tryd.prog 9 = false := by kernel_rfl
theorem is_9 : isStr Tryd.prog 9 = true := by kernel_rfl
theorem sz_12 : tySize Tryd.prog 12 = some 1 := by kernel_rfl
theorem ag_12 : tyAgg Tryd.prog 12 = some false := by kernel_rfl
theorem by_12 : tyBytes Tryd.prog 12 = some 8 := by kernel_rfl
theorem ze_12 : zeroOf Tryd.prog 12 = some (.int .u64 0) := by kernel_rfl
theorem un_12 : Tryd.prog.underlying 12 = some (.int .u64) := by kernel_rfl
theorem oz_12 : ofVal (.int .u64 0) = .val (.int .u64 0) := rfl
theorem ea_12 {Γ : Ctx} (s : AS) (ρ : Operand → PV) : evEff Tryd.prog Γ s ρ (.alloc 12) = some (.own s.nx 1 0 0, upd s.ob s.nx (some (12, 1, [.val (.int .u64 0)])), s.nx + 1) := ea_of ze_12 (by kernel_rfl) rfl rfl s ρ
theorem bs_12 : isByteSlice Tryd.prog 12 = false := by kernel_rfl
theorem is_12 : isStr Tryd.prog 12 = false := by kernel_rfl
theorem sz_13 : tySize Tryd.prog 13 = some 2 := by kernel_rfl
theorem ag_13 : tyAgg Tryd.prog 13 = some true := by kernel_rfl
theorem by_13 : tyBytes Tryd.prog 13 = some 24 := by kernel_rfl
theorem ze_13 : zeroOf Tryd.prog 13 = some (.agg #[.string ByteArray.empty, .int .u64 0]) := by kernel_rfl
theorem fo_13_0 : fieldOff Tryd.prog 13 0 = some 0 := by kernel_rfl
theorem fo_13_1 : fieldOff Tryd.prog 13 1 = some 1 := by kernel_rfl
theorem pl_13 : structPlaces Tryd.prog 13 = some #[(0, 1), (1, 1)] := by kernel_rfl
theorem bl_13 (ps : List (Nat × PV)) : evBuild Tryd.prog 13 ps = (fillP (plF [(0, 1), (1, 1)]) [.val (.string ByteArray.empty), .val (.int .u64 0)] ps).map .agg := bl_of ze_13 rfl pl_13 ps
theorem oz_13 : ofVal (.agg #[.string ByteArray.empty, .int .u64 0]) = .agg [.val (.string ByteArray.empty), .val (.int .u64 0)] := rfl
theorem ea_13 {Γ : Ctx} (s : AS) (ρ : Operand → PV) : evEff Tryd.prog Γ s ρ (.alloc 13) = some (.own s.nx 2 0 0, upd s.ob s.nx (some (13, 2, [.agg [.val (.string ByteArray.empty), .val (.int .u64 0)]])), s.nx + 1) := ea_of ze_13 (by kernel_rfl) rfl rfl s ρ
theorem bz_13 {Γ : Ctx} {ob : Objs} {ρ : Operand → PV} {ty : Nat} : evVal Tryd.prog Γ ob ρ ty (.build 13 #[]) = some (.agg [.val (.string ByteArray.empty), .val (.int .u64 0)]) := (show evBuild Tryd.prog 13 [] = some (.agg [.val (.string ByteArray.empty), .val (.int .u64 0)]) from by kernel_rfl)
theorem bs_13 : isByteSlice Tryd.prog 13 = false := by kernel_rfl
theorem is_13 : isStr Tryd.prog 13 = false := by kernel_rfl
theorem sz_21 : tySize Tryd.prog 21 = some 1 := by kernel_rfl
theorem ag_21 : tyAgg Tryd.prog 21 = some false := by kernel_rfl
theorem by_21 : tyBytes Tryd.prog 21 = some 4 := by kernel_rfl
theorem ze_21 : zeroOf Tryd.prog 21 = some (.int .i32 0) := by kernel_rfl
theorem un_21 : Tryd.prog.underlying 21 = some (.int .i32) := by kernel_rfl
theorem oz_21 : ofVal (.int .i32 0) = .val (.int .i32 0) := rfl
theorem ea_21 {Γ : Ctx} (s : AS) (ρ : Operand → PV) : evEff Tryd.prog Γ s ρ (.alloc 21) = some (.own s.nx 1 0 0, upd s.ob s.nx (some (21, 1, [.val (.int .i32 0)])), s.nx + 1) := ea_of ze_21 (by kernel_rfl) rfl rfl s ρ
theorem bs_21 : isByteSlice Tryd.prog 21 = false := by kernel_rfl
theorem is_21 : isStr Tryd.prog 21 = false := by kernel_rfl
theorem sz_25 : tySize Tryd.prog 25 = some 2 := by kernel_rfl
theorem ag_25 : tyAgg Tryd.prog 25 = some true := by kernel_rfl
theorem by_25 : tyBytes Tryd.prog 25 = some 32 := by kernel_rfl
theorem ze_25 : zeroOf Tryd.prog 25 = some (.agg #[.int .i64 0, .slice none 0 0]) := by kernel_rfl
theorem fo_25_0 : fieldOff Tryd.prog 25 0 = some 0 := by kernel_rfl
theorem fo_25_1 : fieldOff Tryd.prog 25 1 = some 1 := by kernel_rfl
theorem pl_25 : structPlaces Tryd.prog 25 = some #[(0, 1), (1, 1)] := by kernel_rfl
theorem bl_25 (ps : List (Nat × PV)) : evBuild Tryd.prog 25 ps = (fillP (plF [(0, 1), (1, 1)]) [.val (.int .i64 0), .val (.slice none 0 0)] ps).map .agg := bl_of ze_25 rfl pl_25 ps
theorem oz_25 : ofVal (.agg #[.int .i64 0, .slice none 0 0]) = .agg [.val (.int .i64 0), .val (.slice none 0 0)] := rfl
theorem ea_25 {Γ : Ctx} (s : AS) (ρ : Operand → PV) : evEff Tryd.prog Γ s ρ (.alloc 25) = some (.own s.nx 2 0 0, upd s.ob s.nx (some (25, 2, [.agg [.val (.int .i64 0), .val (.slice none 0 0)]])), s.nx + 1) := ea_of ze_25 (by kernel_rfl) rfl rfl s ρ
theorem bz_25 {Γ : Ctx} {ob : Objs} {ρ : Operand → PV} {ty : Nat} : evVal Tryd.prog Γ ob ρ ty (.build 25 #[]) = some (.agg [.val (.int .i64 0), .val (.slice none 0 0)]) := (show evBuild Tryd.prog 25 [] = some (.agg [.val (.int .i64 0), .val (.slice none 0 0)]) from by kernel_rfl)
theorem bs_25 : isByteSlice Tryd.prog 25 = false := by kernel_rfl
theorem is_25 : isStr Tryd.prog 25 = false := by kernel_rfl
theorem sz_26 : tySize Tryd.prog 26 = some 2 := by kernel_rfl
theorem ag_26 : tyAgg Tryd.prog 26 = some true := by kernel_rfl
theorem by_26 : tyBytes Tryd.prog 26 = some 32 := by kernel_rfl
theorem ze_26 : zeroOf Tryd.prog 26 = some (.agg #[.int .i64 0, .slice none 0 0]) := by kernel_rfl
theorem fo_26_0 : fieldOff Tryd.prog 26 0 = some 0 := by kernel_rfl
theorem fo_26_1 : fieldOff Tryd.prog 26 1 = some 1 := by kernel_rfl
theorem pl_26 : structPlaces Tryd.prog 26 = some #[(0, 1), (1, 1)] := by kernel_rfl
theorem bl_26 (ps : List (Nat × PV)) : evBuild Tryd.prog 26 ps = (fillP (plF [(0, 1), (1, 1)]) [.val (.int .i64 0), .val (.slice none 0 0)] ps).map .agg := bl_of ze_26 rfl pl_26 ps
theorem oz_26 : ofVal (.agg #[.int .i64 0, .slice none 0 0]) = .agg [.val (.int .i64 0), .val (.slice none 0 0)] := rfl
theorem ea_26 {Γ : Ctx} (s : AS) (ρ : Operand → PV) : evEff Tryd.prog Γ s ρ (.alloc 26) = some (.own s.nx 2 0 0, upd s.ob s.nx (some (26, 2, [.agg [.val (.int .i64 0), .val (.slice none 0 0)]])), s.nx + 1) := ea_of ze_26 (by kernel_rfl) rfl rfl s ρ
theorem bz_26 {Γ : Ctx} {ob : Objs} {ρ : Operand → PV} {ty : Nat} : evVal Tryd.prog Γ ob ρ ty (.build 26 #[]) = some (.agg [.val (.int .i64 0), .val (.slice none 0 0)]) := (show evBuild Tryd.prog 26 [] = some (.agg [.val (.int .i64 0), .val (.slice none 0 0)]) from by kernel_rfl)
theorem bs_26 : isByteSlice Tryd.prog 26 = false := by kernel_rfl
theorem is_26 : isStr Tryd.prog 26 = false := by kernel_rfl
theorem sz_60 : tySize Tryd.prog 60 = some 2 := by kernel_rfl
theorem ag_60 : tyAgg Tryd.prog 60 = some true := by kernel_rfl
theorem by_60 : tyBytes Tryd.prog 60 = some 24 := by kernel_rfl
theorem ze_60 : zeroOf Tryd.prog 60 = some (.agg #[.string ByteArray.empty, .int .i64 0]) := by kernel_rfl
theorem fo_60_0 : fieldOff Tryd.prog 60 0 = some 0 := by kernel_rfl
theorem fo_60_1 : fieldOff Tryd.prog 60 1 = some 1 := by kernel_rfl
theorem pl_60 : structPlaces Tryd.prog 60 = some #[(0, 1), (1, 1)] := by kernel_rfl
theorem bl_60 (ps : List (Nat × PV)) : evBuild Tryd.prog 60 ps = (fillP (plF [(0, 1), (1, 1)]) [.val (.string ByteArray.empty), .val (.int .i64 0)] ps).map .agg := bl_of ze_60 rfl pl_60 ps
theorem oz_60 : ofVal (.agg #[.string ByteArray.empty, .int .i64 0]) = .agg [.val (.string ByteArray.empty), .val (.int .i64 0)] := rfl
theorem ea_60 {Γ : Ctx} (s : AS) (ρ : Operand → PV) : evEff Tryd.prog Γ s ρ (.alloc 60) = some (.own s.nx 2 0 0, upd s.ob s.nx (some (60, 2, [.agg [.val (.string ByteArray.empty), .val (.int .i64 0)]])), s.nx + 1) := ea_of ze_60 (by kernel_rfl) rfl rfl s ρ
theorem bz_60 {Γ : Ctx} {ob : Objs} {ρ : Operand → PV} {ty : Nat} : evVal Tryd.prog Γ ob ρ ty (.build 60 #[]) = some (.agg [.val (.string ByteArray.empty), .val (.int .i64 0)]) := (show evBuild Tryd.prog 60 [] = some (.agg [.val (.string ByteArray.empty), .val (.int .i64 0)]) from by kernel_rfl)
theorem bs_60 : isByteSlice Tryd.prog 60 = false := by kernel_rfl
theorem is_60 : isStr Tryd.prog 60 = false := by kernel_rfl
theorem sz_61 : tySize Tryd.prog 61 = some 2 := by kernel_rfl
theorem ag_61 : tyAgg Tryd.prog 61 = some true := by kernel_rfl
theorem by_61 : tyBytes Tryd.prog 61 = some 24 := by kernel_rfl
theorem ze_61 : zeroOf Tryd.prog 61 = some (.agg #[.string ByteArray.empty, .int .i64 0]) := by kernel_rfl
theorem fo_61_0 : fieldOff Tryd.prog 61 0 = some 0 := by kernel_rfl
theorem fo_61_1 : fieldOff Tryd.prog 61 1 = some 1 := by kernel_rfl
theorem pl_61 : structPlaces Tryd.prog 61 = some #[(0, 1), (1, 1)] := by kernel_rfl
theorem bl_61 (ps : List (Nat × PV)) : evBuild Tryd.prog 61 ps = (fillP (plF [(0, 1), (1, 1)]) [.val (.string ByteArray.empty), .val (.int .i64 0)] ps).map .agg := bl_of ze_61 rfl pl_61 ps
theorem oz_61 : ofVal (.agg #[.string ByteArray.empty, .int .i64 0]) = .agg [.val (.string ByteArray.empty), .val (.int .i64 0)] := rfl
theorem ea_61 {Γ : Ctx} (s : AS) (ρ : Operand → PV) : evEff Tryd.prog Γ s ρ (.alloc 61) = some (.own s.nx 2 0 0, upd s.ob s.nx (some (61, 2, [.agg [.val (.string ByteArray.empty), .val (.int .i64 0)]])), s.nx + 1) := ea_of ze_61 (by kernel_rfl) rfl rfl s ρ
theorem bz_61 {Γ : Ctx} {ob : Objs} {ρ : Operand → PV} {ty : Nat} : evVal Tryd.prog Γ ob ρ ty (.build 61 #[]) = some (.agg [.val (.string ByteArray.empty), .val (.int .i64 0)]) := (show evBuild Tryd.prog 61 [] = some (.agg [.val (.string ByteArray.empty), .val (.int .i64 0)]) from by kernel_rfl)
theorem fd_61 : Tryd.prog.underlying 61 = some (.struct (Go.Program.fieldsOf Tryd.prog 61)) := by kernel_rfl
theorem ef_61 {a0 b0 : ByteArray} {a1 b1 : Int} : eqFl Tryd.prog [.string a0, .int .i64 a1] [.string b0, .int .i64 b1] (Go.Program.fieldsOf Tryd.prog 61).toList = some ((a0.toList == b0.toList) && ((a1 == b1) && true)) := by kernel_rfl
theorem sqeql_61 {x y : Operand} {a0 b0 : ByteArray} {a1 b1 : Int} : binP Tryd.prog .eql 61 x y (some (.agg #[.string a0, .int .i64 a1])) (some (.agg #[.string b0, .int .i64 b1])) = some (.val (.bool ((a0.toList == b0.toList) && ((a1 == b1) && true)))) := bp_eqlA fd_61 (by kernel_rfl) (by kernel_rfl) ef_61
theorem sqneq_61 {x y : Operand} {a0 b0 : ByteArray} {a1 b1 : Int} : binP Tryd.prog .neq 61 x y (some (.agg #[.string a0, .int .i64 a1])) (some (.agg #[.string b0, .int .i64 b1])) = some (.val (.bool (!((a0.toList == b0.toList) && ((a1 == b1) && true))))) := bp_neqA fd_61 (by kernel_rfl) (by kernel_rfl) ef_61
theorem bs_61 : isByteSlice Tryd.prog 61 = false := by kernel_rfl
theorem is_61 : isStr Tryd.prog 61 = false := by kernel_rfl
theorem sz_73 : tySize Tryd.prog 73 = some 4 := by kernel_rfl
theorem ag_73 : tyAgg Tryd.prog 73 = some true := by kernel_rfl
theorem by_73 : tyBytes Tryd.prog 73 = some 32 := by kernel_rfl
theorem ze_73 : zeroOf Tryd.prog 73 = some (.agg #[.int .i64 0, .int .i64 0, .int .i64 0, .int .i64 0]) := by kernel_rfl
theorem fo_73_0 : fieldOff Tryd.prog 73 0 = some 0 := by kernel_rfl
theorem fo_73_1 : fieldOff Tryd.prog 73 1 = some 1 := by kernel_rfl
theorem fo_73_2 : fieldOff Tryd.prog 73 2 = some 2 := by kernel_rfl
theorem fo_73_3 : fieldOff Tryd.prog 73 3 = some 3 := by kernel_rfl
theorem pl_73 : structPlaces Tryd.prog 73 = some #[(0, 1), (1, 1), (2, 1), (3, 1)] := by kernel_rfl
theorem bl_73 (ps : List (Nat × PV)) : evBuild Tryd.prog 73 ps = (fillP (plF [(0, 1), (1, 1), (2, 1), (3, 1)]) [.val (.int .i64 0), .val (.int .i64 0), .val (.int .i64 0), .val (.int .i64 0)] ps).map .agg := bl_of ze_73 rfl pl_73 ps
theorem oz_73 : ofVal (.agg #[.int .i64 0, .int .i64 0, .int .i64 0, .int .i64 0]) = .agg [.val (.int .i64 0), .val (.int .i64 0), .val (.int .i64 0), .val (.int .i64 0)] := rfl
theorem ea_73 {Γ : Ctx} (s : AS) (ρ : Operand → PV) : evEff Tryd.prog Γ s ρ (.alloc 73) = some (.own s.nx 4 0 0, upd s.ob s.nx (some (73, 4, [.agg [.val (.int .i64 0), .val (.int .i64 0), .val (.int .i64 0), .val (.int .i64 0)]])), s.nx + 1) := ea_of ze_73 (by kernel_rfl) rfl rfl s ρ
theorem bz_73 {Γ : Ctx} {ob : Objs} {ρ : Operand → PV} {ty : Nat} : evVal Tryd.prog Γ ob ρ ty (.build 73 #[]) = some (.agg [.val (.int .i64 0), .val (.int .i64 0), .val (.int .i64 0), .val (.int .i64 0)]) := (show evBuild Tryd.prog 73 [] = some (.agg [.val (.int .i64 0), .val (.int .i64 0), .val (.int .i64 0), .val (.int .i64 0)]) from by kernel_rfl)
theorem bs_73 : isByteSlice Tryd.prog 73 = false := by kernel_rfl
theorem is_73 : isStr Tryd.prog 73 = false := by kernel_rfl
theorem sz_74 : tySize Tryd.prog 74 = some 4 := by kernel_rfl
theorem ag_74 : tyAgg Tryd.prog 74 = some true := by kernel_rfl
theorem by_74 : tyBytes Tryd.prog 74 = some 32 := by kernel_rfl
theorem ze_74 : zeroOf Tryd.prog 74 = some (.agg #[.int .i64 0, .int .i64 0, .int .i64 0, .int .i64 0]) := by kernel_rfl
theorem fo_74_0 : fieldOff Tryd.prog 74 0 = some 0 := by kernel_rfl
theorem fo_74_1 : fieldOff Tryd.prog 74 1 = some 1 := by kernel_rfl
theorem fo_74_2 : fieldOff Tryd.prog 74 2 = some 2 := by kernel_rfl
theorem fo_74_3 : fieldOff Tryd.prog 74 3 = some 3 := by kernel_rfl
theorem pl_74 : structPlaces Tryd.prog 74 = some #[(0, 1), (1, 1), (2, 1), (3, 1)] := by kernel_rfl
theorem bl_74 (ps : List (Nat × PV)) : evBuild Tryd.prog 74 ps = (fillP (plF [(0, 1), (1, 1), (2, 1), (3, 1)]) [.val (.int .i64 0), .val (.int .i64 0), .val (.int .i64 0), .val (.int .i64 0)] ps).map .agg := bl_of ze_74 rfl pl_74 ps
theorem oz_74 : ofVal (.agg #[.int .i64 0, .int .i64 0, .int .i64 0, .int .i64 0]) = .agg [.val (.int .i64 0), .val (.int .i64 0), .val (.int .i64 0), .val (.int .i64 0)] := rfl
theorem ea_74 {Γ : Ctx} (s : AS) (ρ : Operand → PV) : evEff Tryd.prog Γ s ρ (.alloc 74) = some (.own s.nx 4 0 0, upd s.ob s.nx (some (74, 4, [.agg [.val (.int .i64 0), .val (.int .i64 0), .val (.int .i64 0), .val (.int .i64 0)]])), s.nx + 1) := ea_of ze_74 (by kernel_rfl) rfl rfl s ρ
theorem bz_74 {Γ : Ctx} {ob : Objs} {ρ : Operand → PV} {ty : Nat} : evVal Tryd.prog Γ ob ρ ty (.build 74 #[]) = some (.agg [.val (.int .i64 0), .val (.int .i64 0), .val (.int .i64 0), .val (.int .i64 0)]) := (show evBuild Tryd.prog 74 [] = some (.agg [.val (.int .i64 0), .val (.int .i64 0), .val (.int .i64 0), .val (.int .i64 0)]) from by kernel_rfl)
theorem fd_74 : Tryd.prog.underlying 74 = some (.struct (Go.Program.fieldsOf Tryd.prog 74)) := by kernel_rfl
theorem ef_74 {a0 b0 : Int} {a1 b1 : Int} {a2 b2 : Int} {a3 b3 : Int} : eqFl Tryd.prog [.int .i64 a0, .int .i64 a1, .int .i64 a2, .int .i64 a3] [.int .i64 b0, .int .i64 b1, .int .i64 b2, .int .i64 b3] (Go.Program.fieldsOf Tryd.prog 74).toList = some ((a0 == b0) && ((a1 == b1) && ((a2 == b2) && ((a3 == b3) && true)))) := by kernel_rfl
theorem sqeql_74 {x y : Operand} {a0 b0 : Int} {a1 b1 : Int} {a2 b2 : Int} {a3 b3 : Int} : binP Tryd.prog .eql 74 x y (some (.agg #[.int .i64 a0, .int .i64 a1, .int .i64 a2, .int .i64 a3])) (some (.agg #[.int .i64 b0, .int .i64 b1, .int .i64 b2, .int .i64 b3])) = some (.val (.bool ((a0 == b0) && ((a1 == b1) && ((a2 == b2) && ((a3 == b3) && true)))))) := bp_eqlA fd_74 (by kernel_rfl) (by kernel_rfl) ef_74
theorem sqneq_74 {x y : Operand} {a0 b0 : Int} {a1 b1 : Int} {a2 b2 : Int} {a3 b3 : Int} : binP Tryd.prog .neq 74 x y (some (.agg #[.int .i64 a0, .int .i64 a1, .int .i64 a2, .int .i64 a3])) (some (.agg #[.int .i64 b0, .int .i64 b1, .int .i64 b2, .int .i64 b3])) = some (.val (.bool (!((a0 == b0) && ((a1 == b1) && ((a2 == b2) && ((a3 == b3) && true))))))) := bp_neqA fd_74 (by kernel_rfl) (by kernel_rfl) ef_74
theorem bs_74 : isByteSlice Tryd.prog 74 = false := by kernel_rfl
theorem is_74 : isStr Tryd.prog 74 = false := by kernel_rfl
theorem sz_80 : tySize Tryd.prog 80 = some 2 := by kernel_rfl
theorem ag_80 : tyAgg Tryd.prog 80 = some true := by kernel_rfl
theorem by_80 : tyBytes Tryd.prog 80 = some 16 := by kernel_rfl
theorem ze_80 : zeroOf Tryd.prog 80 = some (.agg #[.int .i64 0, .int .i64 0]) := by kernel_rfl
theorem un_80 : Tryd.prog.underlying 80 = some (.array 2 3) := by kernel_rfl
theorem ixa_80 {o sz j f : Nat} {i : Int} (h0 : 0 ≤ i) (h1 : i < 2) : evIndexAddr Tryd.prog 80 (.own o sz j f) i = some (.own o sz j (f + i.toNat)) := by rw [ixa_of un_80 sz_3 h0 h1, Nat.mul_one]
theorem ixp_80 {k : Bool} {x : PV} {f : Nat} {i : Int} (h0 : 0 ≤ i) (h1 : i < 2) : evIndexAddr Tryd.prog 80 (.ptr k x f) i = some (.ptr k x (f + i.toNat)) := by rw [ixap_of un_80 sz_3 h0 h1, Nat.mul_one]
theorem bl_80 (ps : List (Nat × PV)) : evBuild Tryd.prog 80 ps = (fillP (plF [(0, 1), (1, 1)]) [.val (.int .i64 0), .val (.int .i64 0)] ps).map .agg := bla_of ze_80 rfl (by kernel_rfl) (pl := #[(0, 1), (1, 1)]) (by kernel_rfl) ps
theorem oz_80 : ofVal (.agg #[.int .i64 0, .int .i64 0]) = .agg [.val (.int .i64 0), .val (.int .i64 0)] := rfl
theorem ea_80 {Γ : Ctx} (s : AS) (ρ : Operand → PV) : evEff Tryd.prog Γ s ρ (.alloc 80) = some (.own s.nx 2 0 0, upd s.ob s.nx (some (80, 2, [.agg [.val (.int .i64 0), .val (.int .i64 0)]])), s.nx + 1) := ea_of ze_80 (by kernel_rfl) rfl rfl s ρ
theorem bs_80 : isByteSlice Tryd.prog 80 = false := by kernel_rfl
theorem is_80 : isStr Tryd.prog 80 = false := by kernel_rfl
theorem sz_90 : tySize Tryd.prog 90 = some 2 := by kernel_rfl
theorem ag_90 : tyAgg Tryd.prog 90 = some true := by kernel_rfl
theorem by_90 : tyBytes Tryd.prog 90 = some 24 := by kernel_rfl
theorem ze_90 : zeroOf Tryd.prog 90 = some (.agg #[.string ByteArray.empty, .int .i64 0]) := by kernel_rfl
theorem fo_90_0 : fieldOff Tryd.prog 90 0 = some 0 := by kernel_rfl
theorem fo_90_1 : fieldOff Tryd.prog 90 1 = some 1 := by kernel_rfl
theorem pl_90 : structPlaces Tryd.prog 90 = some #[(0, 1), (1, 1)] := by kernel_rfl
theorem bl_90 (ps : List (Nat × PV)) : evBuild Tryd.prog 90 ps = (fillP (plF [(0, 1), (1, 1)]) [.val (.string ByteArray.empty), .val (.int .i64 0)] ps).map .agg := bl_of ze_90 rfl pl_90 ps
theorem oz_90 : ofVal (.agg #[.string ByteArray.empty, .int .i64 0]) = .agg [.val (.string ByteArray.empty), .val (.int .i64 0)] := rfl
theorem ea_90 {Γ : Ctx} (s : AS) (ρ : Operand → PV) : evEff Tryd.prog Γ s ρ (.alloc 90) = some (.own s.nx 2 0 0, upd s.ob s.nx (some (90, 2, [.agg [.val (.string ByteArray.empty), .val (.int .i64 0)]])), s.nx + 1) := ea_of ze_90 (by kernel_rfl) rfl rfl s ρ
theorem bz_90 {Γ : Ctx} {ob : Objs} {ρ : Operand → PV} {ty : Nat} : evVal Tryd.prog Γ ob ρ ty (.build 90 #[]) = some (.agg [.val (.string ByteArray.empty), .val (.int .i64 0)]) := (show evBuild Tryd.prog 90 [] = some (.agg [.val (.string ByteArray.empty), .val (.int .i64 0)]) from by kernel_rfl)
theorem fd_90 : Tryd.prog.underlying 90 = some (.struct (Go.Program.fieldsOf Tryd.prog 90)) := by kernel_rfl
theorem ef_90 {a0 b0 : ByteArray} {a1 b1 : Int} : eqFl Tryd.prog [.string a0, .int .i64 a1] [.string b0, .int .i64 b1] (Go.Program.fieldsOf Tryd.prog 90).toList = some ((a0.toList == b0.toList) && ((a1 == b1) && true)) := by kernel_rfl
theorem sqeql_90 {x y : Operand} {a0 b0 : ByteArray} {a1 b1 : Int} : binP Tryd.prog .eql 90 x y (some (.agg #[.string a0, .int .i64 a1])) (some (.agg #[.string b0, .int .i64 b1])) = some (.val (.bool ((a0.toList == b0.toList) && ((a1 == b1) && true)))) := bp_eqlA fd_90 (by kernel_rfl) (by kernel_rfl) ef_90
theorem sqneq_90 {x y : Operand} {a0 b0 : ByteArray} {a1 b1 : Int} : binP Tryd.prog .neq 90 x y (some (.agg #[.string a0, .int .i64 a1])) (some (.agg #[.string b0, .int .i64 b1])) = some (.val (.bool (!((a0.toList == b0.toList) && ((a1 == b1) && true))))) := bp_neqA fd_90 (by kernel_rfl) (by kernel_rfl) ef_90
theorem bs_90 : isByteSlice Tryd.prog 90 = false := by kernel_rfl
theorem is_90 : isStr Tryd.prog 90 = false := by kernel_rfl
theorem sz_101 : tySize Tryd.prog 101 = some 2 := by kernel_rfl
theorem ag_101 : tyAgg Tryd.prog 101 = some true := by kernel_rfl
theorem by_101 : tyBytes Tryd.prog 101 = some 32 := by kernel_rfl
theorem ze_101 : zeroOf Tryd.prog 101 = some (.agg #[.slice none 0 0, .int .i64 0]) := by kernel_rfl
theorem fo_101_0 : fieldOff Tryd.prog 101 0 = some 0 := by kernel_rfl
theorem fo_101_1 : fieldOff Tryd.prog 101 1 = some 1 := by kernel_rfl
theorem pl_101 : structPlaces Tryd.prog 101 = some #[(0, 1), (1, 1)] := by kernel_rfl
theorem bl_101 (ps : List (Nat × PV)) : evBuild Tryd.prog 101 ps = (fillP (plF [(0, 1), (1, 1)]) [.val (.slice none 0 0), .val (.int .i64 0)] ps).map .agg := bl_of ze_101 rfl pl_101 ps
theorem oz_101 : ofVal (.agg #[.slice none 0 0, .int .i64 0]) = .agg [.val (.slice none 0 0), .val (.int .i64 0)] := rfl
theorem ea_101 {Γ : Ctx} (s : AS) (ρ : Operand → PV) : evEff Tryd.prog Γ s ρ (.alloc 101) = some (.own s.nx 2 0 0, upd s.ob s.nx (some (101, 2, [.agg [.val (.slice none 0 0), .val (.int .i64 0)]])), s.nx + 1) := ea_of ze_101 (by kernel_rfl) rfl rfl s ρ
theorem bz_101 {Γ : Ctx} {ob : Objs} {ρ : Operand → PV} {ty : Nat} : evVal Tryd.prog Γ ob ρ ty (.build 101 #[]) = some (.agg [.val (.slice none 0 0), .val (.int .i64 0)]) := (show evBuild Tryd.prog 101 [] = some (.agg [.val (.slice none 0 0), .val (.int .i64 0)]) from by kernel_rfl)
theorem bs_101 : isByteSlice Tryd.prog 101 = false := by kernel_rfl
theorem is_101 : isStr Tryd.prog 101 = false := by kernel_rfl
theorem sz_102 : tySize Tryd.prog 102 = some 2 := by kernel_rfl
theorem ag_102 : tyAgg Tryd.prog 102 = some true := by kernel_rfl
theorem by_102 : tyBytes Tryd.prog 102 = some 32 := by kernel_rfl
theorem ze_102 : zeroOf Tryd.prog 102 = some (.agg #[.slice none 0 0, .int .i64 0]) := by kernel_rfl
theorem fo_102_0 : fieldOff Tryd.prog 102 0 = some 0 := by kernel_rfl
theorem fo_102_1 : fieldOff Tryd.prog 102 1 = some 1 := by kernel_rfl
theorem pl_102 : structPlaces Tryd.prog 102 = some #[(0, 1), (1, 1)] := by kernel_rfl
theorem bl_102 (ps : List (Nat × PV)) : evBuild Tryd.prog 102 ps = (fillP (plF [(0, 1), (1, 1)]) [.val (.slice none 0 0), .val (.int .i64 0)] ps).map .agg := bl_of ze_102 rfl pl_102 ps
theorem oz_102 : ofVal (.agg #[.slice none 0 0, .int .i64 0]) = .agg [.val (.slice none 0 0), .val (.int .i64 0)] := rfl
theorem ea_102 {Γ : Ctx} (s : AS) (ρ : Operand → PV) : evEff Tryd.prog Γ s ρ (.alloc 102) = some (.own s.nx 2 0 0, upd s.ob s.nx (some (102, 2, [.agg [.val (.slice none 0 0), .val (.int .i64 0)]])), s.nx + 1) := ea_of ze_102 (by kernel_rfl) rfl rfl s ρ
theorem bz_102 {Γ : Ctx} {ob : Objs} {ρ : Operand → PV} {ty : Nat} : evVal Tryd.prog Γ ob ρ ty (.build 102 #[]) = some (.agg [.val (.slice none 0 0), .val (.int .i64 0)]) := (show evBuild Tryd.prog 102 [] = some (.agg [.val (.slice none 0 0), .val (.int .i64 0)]) from by kernel_rfl)
theorem bs_102 : isByteSlice Tryd.prog 102 = false := by kernel_rfl
theorem is_102 : isStr Tryd.prog 102 = false := by kernel_rfl
theorem sz_127 : tySize Tryd.prog 127 = some 1 := by kernel_rfl
theorem ag_127 : tyAgg Tryd.prog 127 = some false := by kernel_rfl
theorem by_127 : tyBytes Tryd.prog 127 = some 8 := by kernel_rfl
theorem ze_127 : zeroOf Tryd.prog 127 = some (.int .u64 0) := by kernel_rfl
theorem un_127 : Tryd.prog.underlying 127 = some (.int .u64) := by kernel_rfl
theorem oz_127 : ofVal (.int .u64 0) = .val (.int .u64 0) := rfl
theorem ea_127 {Γ : Ctx} (s : AS) (ρ : Operand → PV) : evEff Tryd.prog Γ s ρ (.alloc 127) = some (.own s.nx 1 0 0, upd s.ob s.nx (some (127, 1, [.val (.int .u64 0)])), s.nx + 1) := ea_of ze_127 (by kernel_rfl) rfl rfl s ρ
theorem bs_127 : isByteSlice Tryd.prog 127 = false := by kernel_rfl
theorem is_127 : isStr Tryd.prog 127 = false := by kernel_rfl
theorem sz_143 : tySize Tryd.prog 143 = some 1 := by kernel_rfl
theorem ag_143 : tyAgg Tryd.prog 143 = some false := by kernel_rfl
theorem by_143 : tyBytes Tryd.prog 143 = some 8 := by kernel_rfl
theorem ze_143 : zeroOf Tryd.prog 143 = some (.int .i64 0) := by kernel_rfl
theorem un_143 : Tryd.prog.underlying 143 = some (.int .i64) := by kernel_rfl
theorem oz_143 : ofVal (.int .i64 0) = .val (.int .i64 0) := rfl
theorem ea_143 {Γ : Ctx} (s : AS) (ρ : Operand → PV) : evEff Tryd.prog Γ s ρ (.alloc 143) = some (.own s.nx 1 0 0, upd s.ob s.nx (some (143, 1, [.val (.int .i64 0)])), s.nx + 1) := ea_of ze_143 (by kernel_rfl) rfl rfl s ρ
theorem bs_143 : isByteSlice Tryd.prog 143 = false := by kernel_rfl
theorem is_143 : isStr Tryd.prog 143 = false := by kernel_rfl
theorem sz_152 : tySize Tryd.prog 152 = some 1 := by kernel_rfl
theorem ag_152 : tyAgg Tryd.prog 152 = some false := by kernel_rfl
theorem by_152 : tyBytes Tryd.prog 152 = some 4 := by kernel_rfl
theorem ze_152 : zeroOf Tryd.prog 152 = some (.int .u32 0) := by kernel_rfl
theorem un_152 : Tryd.prog.underlying 152 = some (.int .u32) := by kernel_rfl
theorem oz_152 : ofVal (.int .u32 0) = .val (.int .u32 0) := rfl
theorem ea_152 {Γ : Ctx} (s : AS) (ρ : Operand → PV) : evEff Tryd.prog Γ s ρ (.alloc 152) = some (.own s.nx 1 0 0, upd s.ob s.nx (some (152, 1, [.val (.int .u32 0)])), s.nx + 1) := ea_of ze_152 (by kernel_rfl) rfl rfl s ρ
theorem bs_152 : isByteSlice Tryd.prog 152 = false := by kernel_rfl
theorem is_152 : isStr Tryd.prog 152 = false := by kernel_rfl
theorem sz_154 : tySize Tryd.prog 154 = some 1 := by kernel_rfl
theorem ag_154 : tyAgg Tryd.prog 154 = some false := by kernel_rfl
theorem by_154 : tyBytes Tryd.prog 154 = some 8 := by kernel_rfl
theorem ze_154 : zeroOf Tryd.prog 154 = some (.int .u64 0) := by kernel_rfl
theorem un_154 : Tryd.prog.underlying 154 = some (.int .u64) := by kernel_rfl
theorem oz_154 : ofVal (.int .u64 0) = .val (.int .u64 0) := rfl
theorem ea_154 {Γ : Ctx} (s : AS) (ρ : Operand → PV) : evEff Tryd.prog Γ s ρ (.alloc 154) = some (.own s.nx 1 0 0, upd s.ob s.nx (some (154, 1, [.val (.int .u64 0)])), s.nx + 1) := ea_of ze_154 (by kernel_rfl) rfl rfl s ρ
theorem bs_154 : isByteSlice Tryd.prog 154 = false := by kernel_rfl
theorem is_154 : isStr Tryd.prog 154 = false := by kernel_rfl
theorem sz_165 : tySize Tryd.prog 165 = some 24 := by kernel_rfl
theorem ag_165 : tyAgg Tryd.prog 165 = some true := by kernel_rfl
theorem by_165 : tyBytes Tryd.prog 165 = some 24 := by kernel_rfl
theorem ze_165 : zeroOf Tryd.prog 165 = some (.agg #[.int .u8 0, .int .u8 0, .int .u8 0, .int .u8 0, .int .u8 0, .int .u8 0, .int .u8 0, .int .u8 0, .int .u8 0, .int .u8 0, .int .u8 0, .int .u8 0, .int .u8 0, .int .u8 0, .int .u8 0, .int .u8 0, .int .u8 0, .int .u8 0, .int .u8 0, .int .u8 0, .int .u8 0, .int .u8 0, .int .u8 0, .int .u8 0]) := by kernel_rfl
theorem un_165 : Tryd.prog.underlying 165 = some (.array 24 5) := by kernel_rfl
theorem oz_165 : ofVal (.agg #[.int .u8 0, .int .u8 0, .int .u8 0, .int .u8 0, .int .u8 0, .int .u8 0, .int .u8 0, .int .u8 0, .int .u8 0, .int .u8 0, .int .u8 0, .int .u8 0, .int .u8 0, .int .u8 0, .int .u8 0, .int .u8 0, .int .u8 0, .int .u8 0, .int .u8 0, .int .u8 0, .int .u8 0, .int .u8 0, .int .u8 0, .int .u8 0]) = .agg [.val (.int .u8 0), .val (.int .u8 0), .val (.int .u8 0), .val (.int .u8 0), .val (.int .u8 0), .val (.int .u8 0), .val (.int .u8 0), .val (.int .u8 0), .val (.int .u8 0), .val (.int .u8 0), .val (.int .u8 0), .val (.int .u8 0), .val (.int .u8 0), .val (.int .u8 0), .val (.int .u8 0), .val (.int .u8 0), .val (.int .u8 0), .val (.int .u8 0), .val (.int .u8 0), .val (.int .u8 0), .val (.int .u8 0), .val (.int .u8 0), .val (.int .u8 0), .val (.int .u8 0)] := rfl
theorem ea_165 {Γ : Ctx} (s : AS) (ρ : Operand → PV) : evEff Tryd.prog Γ s ρ (.alloc 165) = some (.own s.nx 24 0 0, upd s.ob s.nx (some (165, 24, [.agg [.val (.int .u8 0), .val (.int .u8 0), .val (.int .u8 0), .val (.int .u8 0), .val (.int .u8 0), .val (.int .u8 0), .val (.int .u8 0), .val (.int .u8 0), .val (.int .u8 0), .val (.int .u8 0), .val (.int .u8 0), .val (.int .u8 0), .val (.int .u8 0), .val (.int .u8 0), .val (.int .u8 0), .val (.int .u8 0), .val (.int .u8 0), .val (.int .u8 0), .val (.int .u8 0), .val (.int .u8 0), .val (.int .u8 0), .val (.int .u8 0), .val (.int .u8 0), .val (.int .u8 0)]])), s.nx + 1) := ea_of ze_165 (by kernel_rfl) rfl rfl s ρ
theorem bs_165 : isByteSlice Tryd.prog 165 = false := by kernel_rfl
theorem is_165 : isStr Tryd.prog 165 = false := by kernel_rfl
theorem sz_180 : tySize Tryd.prog 180 = some 1 := by kernel_rfl
theorem ag_180 : tyAgg Tryd.prog 180 = some false := by kernel_rfl
theorem by_180 : tyBytes Tryd.prog 180 = some 8 := by kernel_rfl
theorem ze_180 : zeroOf Tryd.prog 180 = some (.int .u64 0) := by kernel_rfl
theorem un_180 : Tryd.prog.underlying 180 = some (.int .u64) := by kernel_rfl
theorem oz_180 : ofVal (.int .u64 0) = .val (.int .u64 0) := rfl
theorem ea_180 {Γ : Ctx} (s : AS) (ρ : Operand → PV) : evEff Tryd.prog Γ s ρ (.alloc 180) = some (.own s.nx 1 0 0, upd s.ob s.nx (some (180, 1, [.val (.int .u64 0)])), s.nx + 1) := ea_of ze_180 (by kernel_rfl) rfl rfl s ρ
theorem bs_180 : isByteSlice Tryd.prog 180 = false := by kernel_rfl
theorem is_180 : isStr Tryd.prog 180 = false := by kernel_rfl
theorem sz_189 : tySize Tryd.prog 189 = some 20 := by kernel_rfl
theorem ag_189 : tyAgg Tryd.prog 189 = some true := by kernel_rfl
theorem by_189 : tyBytes Tryd.prog 189 = some 160 := by kernel_rfl
theorem ze_189 : zeroOf Tryd.prog 189 = some (.agg #[.int .u64 0, .int .u64 0, .int .u64 0, .int .u64 0, .int .u64 0, .int .u64 0, .int .u64 0, .int .u64 0, .int .u64 0, .int .u64 0, .int .u64 0, .int .u64 0, .int .u64 0, .int .u64 0, .int .u64 0, .int .u64 0, .int .u64 0, .int .u64 0, .int .u64 0, .int .u64 0]) := by kernel_rfl
theorem un_189 : Tryd.prog.underlying 189 = some (.array 20 154) := by kernel_rfl
theorem oz_189 : ofVal (.agg #[.int .u64 0, .int .u64 0, .int .u64 0, .int .u64 0, .int .u64 0, .int .u64 0, .int .u64 0, .int .u64 0, .int .u64 0, .int .u64 0, .int .u64 0, .int .u64 0, .int .u64 0, .int .u64 0, .int .u64 0, .int .u64 0, .int .u64 0, .int .u64 0, .int .u64 0, .int .u64 0]) = .agg [.val (.int .u64 0), .val (.int .u64 0), .val (.int .u64 0), .val (.int .u64 0), .val (.int .u64 0), .val (.int .u64 0), .val (.int .u64 0), .val (.int .u64 0), .val (.int .u64 0), .val (.int .u64 0), .val (.int .u64 0), .val (.int .u64 0), .val (.int .u64 0), .val (.int .u64 0), .val (.int .u64 0), .val (.int .u64 0), .val (.int .u64 0), .val (.int .u64 0), .val (.int .u64 0), .val (.int .u64 0)] := rfl
theorem ea_189 {Γ : Ctx} (s : AS) (ρ : Operand → PV) : evEff Tryd.prog Γ s ρ (.alloc 189) = some (.own s.nx 20 0 0, upd s.ob s.nx (some (189, 20, [.agg [.val (.int .u64 0), .val (.int .u64 0), .val (.int .u64 0), .val (.int .u64 0), .val (.int .u64 0), .val (.int .u64 0), .val (.int .u64 0), .val (.int .u64 0), .val (.int .u64 0), .val (.int .u64 0), .val (.int .u64 0), .val (.int .u64 0), .val (.int .u64 0), .val (.int .u64 0), .val (.int .u64 0), .val (.int .u64 0), .val (.int .u64 0), .val (.int .u64 0), .val (.int .u64 0), .val (.int .u64 0)]])), s.nx + 1) := ea_of ze_189 (by kernel_rfl) rfl rfl s ρ
theorem bs_189 : isByteSlice Tryd.prog 189 = false := by kernel_rfl
theorem is_189 : isStr Tryd.prog 189 = false := by kernel_rfl
theorem sz_202 : tySize Tryd.prog 202 = some 2 := by kernel_rfl
theorem ag_202 : tyAgg Tryd.prog 202 = some true := by kernel_rfl
theorem by_202 : tyBytes Tryd.prog 202 = some 2 := by kernel_rfl
theorem ze_202 : zeroOf Tryd.prog 202 = some (.agg #[.int .u8 0, .int .u8 0]) := by kernel_rfl
theorem fo_202_0 : fieldOff Tryd.prog 202 0 = some 0 := by kernel_rfl
theorem fo_202_1 : fieldOff Tryd.prog 202 1 = some 1 := by kernel_rfl
theorem pl_202 : structPlaces Tryd.prog 202 = some #[(0, 1), (1, 1)] := by kernel_rfl
theorem bl_202 (ps : List (Nat × PV)) : evBuild Tryd.prog 202 ps = (fillP (plF [(0, 1), (1, 1)]) [.val (.int .u8 0), .val (.int .u8 0)] ps).map .agg := bl_of ze_202 rfl pl_202 ps
theorem oz_202 : ofVal (.agg #[.int .u8 0, .int .u8 0]) = .agg [.val (.int .u8 0), .val (.int .u8 0)] := rfl
theorem ea_202 {Γ : Ctx} (s : AS) (ρ : Operand → PV) : evEff Tryd.prog Γ s ρ (.alloc 202) = some (.own s.nx 2 0 0, upd s.ob s.nx (some (202, 2, [.agg [.val (.int .u8 0), .val (.int .u8 0)]])), s.nx + 1) := ea_of ze_202 (by kernel_rfl) rfl rfl s ρ
theorem bz_202 {Γ : Ctx} {ob : Objs} {ρ : Operand → PV} {ty : Nat} : evVal Tryd.prog Γ ob ρ ty (.build 202 #[]) = some (.agg [.val (.int .u8 0), .val (.int .u8 0)]) := (show evBuild Tryd.prog 202 [] = some (.agg [.val (.int .u8 0), .val (.int .u8 0)]) from by kernel_rfl)
theorem bs_202 : isByteSlice Tryd.prog 202 = false := by kernel_rfl
theorem is_202 : isStr Tryd.prog 202 = false := by kernel_rfl
theorem sz_203 : tySize Tryd.prog 203 = some 2 := by kernel_rfl
theorem ag_203 : tyAgg Tryd.prog 203 = some true := by kernel_rfl
theorem by_203 : tyBytes Tryd.prog 203 = some 2 := by kernel_rfl
theorem ze_203 : zeroOf Tryd.prog 203 = some (.agg #[.int .u8 0, .int .u8 0]) := by kernel_rfl
theorem fo_203_0 : fieldOff Tryd.prog 203 0 = some 0 := by kernel_rfl
theorem fo_203_1 : fieldOff Tryd.prog 203 1 = some 1 := by kernel_rfl
theorem pl_203 : structPlaces Tryd.prog 203 = some #[(0, 1), (1, 1)] := by kernel_rfl
theorem bl_203 (ps : List (Nat × PV)) : evBuild Tryd.prog 203 ps = (fillP (plF [(0, 1), (1, 1)]) [.val (.int .u8 0), .val (.int .u8 0)] ps).map .agg := bl_of ze_203 rfl pl_203 ps
theorem oz_203 : ofVal (.agg #[.int .u8 0, .int .u8 0]) = .agg [.val (.int .u8 0), .val (.int .u8 0)] := rfl
theorem ea_203 {Γ : Ctx} (s : AS) (ρ : Operand → PV) : evEff Tryd.prog Γ s ρ (.alloc 203) = some (.own s.nx 2 0 0, upd s.ob s.nx (some (203, 2, [.agg [.val (.int .u8 0), .val (.int .u8 0)]])), s.nx + 1) := ea_of ze_203 (by kernel_rfl) rfl rfl s ρ
theorem bz_203 {Γ : Ctx} {ob : Objs} {ρ : Operand → PV} {ty : Nat} : evVal Tryd.prog Γ ob ρ ty (.build 203 #[]) = some (.agg [.val (.int .u8 0), .val (.int .u8 0)]) := (show evBuild Tryd.prog 203 [] = some (.agg [.val (.int .u8 0), .val (.int .u8 0)]) from by kernel_rfl)
theorem bs_203 : isByteSlice Tryd.prog 203 = false := by kernel_rfl
theorem is_203 : isStr Tryd.prog 203 = false := by kernel_rfl
theorem sz_204 : tySize Tryd.prog 204 = some 32 := by kernel_rfl
theorem ag_204 : tyAgg Tryd.prog 204 = some true := by kernel_rfl
theorem by_204 : tyBytes Tryd.prog 204 = some 32 := by kernel_rfl
theorem ze_204 : zeroOf Tryd.prog 204 = some (.agg #[.int .u8 0, .int .u8 0, .int .u8 0, .int .u8 0, .int .u8 0, .int .u8 0, .int .u8 0, .int .u8 0, .int .u8 0, .int .u8 0, .int .u8 0, .int .u8 0, .int .u8 0, .int .u8 0, .int .u8 0, .int .u8 0, .int .u8 0, .int .u8 0, .int .u8 0, .int .u8 0, .int .u8 0, .int .u8 0, .int .u8 0, .int .u8 0, .int .u8 0, .int .u8 0, .int .u8 0, .int .u8 0, .int .u8 0, .int .u8 0, .int .u8 0, .int .u8 0]) := by kernel_rfl
theorem un_204 : Tryd.prog.underlying 204 = some (.array 16 203) := by kernel_rfl
theorem oz_204 : ofVal (.agg #[.int .u8 0, .int .u8 0, .int .u8 0, .int .u8 0, .int .u8 0, .int .u8 0, .int .u8 0, .int .u8 0, .int .u8 0, .int .u8 0, .int .u8 0, .int .u8 0, .int .u8 0, .int .u8 0, .int .u8 0, .int .u8 0, .int .u8 0, .int .u8 0, .int .u8 0, .int .u8 0, .int .u8 0, .int .u8 0, .int .u8 0, .int .u8 0, .int .u8 0, .int .u8 0, .int .u8 0, .int .u8 0, .int .u8 0, .int .u8 0, .int .u8 0, .int .u8 0]) = .agg [.val (.int .u8 0), .val (.int .u8 0), .val (.int .u8 0), .val (.int .u8 0), .val (.int .u8 0), .val (.int .u8 0), .val (.int .u8 0), .val (.int .u8 0), .val (.int .u8 0), .val (.int .u8 0), .val (.int .u8 0), .val (.int .u8 0), .val (.int .u8 0), .val (.int .u8 0), .val (.int .u8 0), .val (.int .u8 0), .val (.int .u8 0), .val (.int .u8 0), .val (.int .u8 0), .val (.int .u8 0), .val (.int .u8 0), .val (.int .u8 0), .val (.int .u8 0), .val (.int .u8 0), .val (.int .u8 0), .val (.int .u8 0), .val (.int .u8 0), .val (.int .u8 0), .val (.int .u8 0), .val (.int .u8 0), .val (.int .u8 0), .val (.int .u8 0)] := rfl
theorem ea_204 {Γ : Ctx} (s : AS) (ρ : Operand → PV) : evEff Tryd.prog Γ s ρ (.alloc 204) = some (.own s.nx 32 0 0, upd s.ob s.nx (some (204, 32, [.agg [.val (.int .u8 0), .val (.int .u8 0), .val (.int .u8 0), .val (.int .u8 0), .val (.int .u8 0), .val (.int .u8 0), .val (.int .u8 0), .val (.int .u8 0), .val (.int .u8 0), .val (.int .u8 0), .val (.int .u8 0), .val (.int .u8 0), .val (.int .u8 0), .val (.int .u8 0), .val (.int .u8 0), .val (.int .u8 0), .val (.int .u8 0), .val (.int .u8 0), .val (.int .u8 0), .val (.int .u8 0), .val (.int .u8 0), .val (.int .u8 0), .val (.int .u8 0), .val (.int .u8 0), .val (.int .u8 0), .val (.int .u8 0), .val (.int .u8 0), .val (.int .u8 0), .val (.int .u8 0), .val (.int .u8 0), .val (.int .u8 0), .val (.int .u8 0)]])), s.nx + 1) := ea_of ze_204 (by kernel_rfl) rfl rfl s ρ
theorem bs_204 : isByteSlice Tryd.prog 204 = false := by kernel_rfl
theorem is_204 : isStr Tryd.prog 204 = false := by kernel_rfl
theorem sz_208 : tySize Tryd.prog 208 = some 1 := by kernel_rfl
theorem ag_208 : tyAgg Tryd.prog 208 = some true := by kernel_rfl
theorem by_208 : tyBytes Tryd.prog 208 = some 16 := by kernel_rfl
theorem ze_208 : zeroOf Tryd.prog 208 = some (.agg #[.string ByteArray.empty]) := by kernel_rfl
theorem fo_208_0 : fieldOff Tryd.prog 208 0 = some 0 := by kernel_rfl
theorem pl_208 : structPlaces Tryd.prog 208 = some #[(0, 1)] := by kernel_rfl
theorem bl_208 (ps : List (Nat × PV)) : evBuild Tryd.prog 208 ps = (fillP (plF [(0, 1)]) [.val (.string ByteArray.empty)] ps).map .agg := bl_of ze_208 rfl pl_208 ps
theorem oz_208 : ofVal (.agg #[.string ByteArray.empty]) = .agg [.val (.string ByteArray.empty)] := rfl
theorem ea_208 {Γ : Ctx} (s : AS) (ρ : Operand → PV) : evEff Tryd.prog Γ s ρ (.alloc 208) = some (.own s.nx 1 0 0, upd s.ob s.nx (some (208, 1, [.agg [.val (.string ByteArray.empty)]])), s.nx + 1) := ea_of ze_208 (by kernel_rfl) rfl rfl s ρ
theorem bz_208 {Γ : Ctx} {ob : Objs} {ρ : Operand → PV} {ty : Nat} : evVal Tryd.prog Γ ob ρ ty (.build 208 #[]) = some (.agg [.val (.string ByteArray.empty)]) := (show evBuild Tryd.prog 208 [] = some (.agg [.val (.string ByteArray.empty)]) from by kernel_rfl)
theorem bs_208 : isByteSlice Tryd.prog 208 = false := by kernel_rfl
theorem is_208 : isStr Tryd.prog 208 = false := by kernel_rfl
theorem sz_209 : tySize Tryd.prog 209 = some 1 := by kernel_rfl
theorem ag_209 : tyAgg Tryd.prog 209 = some true := by kernel_rfl
theorem by_209 : tyBytes Tryd.prog 209 = some 16 := by kernel_rfl
theorem ze_209 : zeroOf Tryd.prog 209 = some (.agg #[.string ByteArray.empty]) := by kernel_rfl
theorem fo_209_0 : fieldOff Tryd.prog 209 0 = some 0 := by kernel_rfl
theorem pl_209 : structPlaces Tryd.prog 209 = some #[(0, 1)] := by kernel_rfl
theorem bl_209 (ps : List (Nat × PV)) : evBuild Tryd.prog 209 ps = (fillP (plF [(0, 1)]) [.val (.string ByteArray.empty)] ps).map .agg := bl_of ze_209 rfl pl_209 ps
theorem oz_209 : ofVal (.agg #[.string ByteArray.empty]) = .agg [.val (.string ByteArray.empty)] := rfl
theorem ea_209 {Γ : Ctx} (s : AS) (ρ : Operand → PV) : evEff Tryd.prog Γ s ρ (.alloc 209) = some (.own s.nx 1 0 0, upd s.ob s.nx (some (209, 1, [.agg [.val (.string ByteArray.empty)]])), s.nx + 1) := ea_of ze_209 (by kernel_rfl) rfl rfl s ρ
theorem bz_209 {Γ : Ctx} {ob : Objs} {ρ : Operand → PV} {ty : Nat} : evVal Tryd.prog Γ ob ρ ty (.build 209 #[]) = some (.agg [.val (.string ByteArray.empty)]) := (show evBuild Tryd.prog 209 [] = some (.agg [.val (.string ByteArray.empty)]) from by kernel_rfl)
theorem bs_209 : isByteSlice Tryd.prog 209 = false := by kernel_rfl
theorem is_209 : isStr Tryd.prog 209 = false := by kernel_rfl
theorem sz_210 : tySize Tryd.prog 210 = some 32 := by kernel_rfl
theorem ag_210 : tyAgg Tryd.prog 210 = some true := by kernel_rfl
theorem by_210 : tyBytes Tryd.prog 210 = some 32 := by kernel_rfl
theorem ze_210 : zeroOf Tryd.prog 210 = some (.agg #[.int .u8 0, .int .u8 0, .int .u8 0, .int .u8 0, .int .u8 0, .int .u8 0, .int .u8 0, .int .u8 0, .int .u8 0, .int .u8 0, .int .u8 0, .int .u8 0, .int .u8 0, .int .u8 0, .int .u8 0, .int .u8 0, .int .u8 0, .int .u8 0, .int .u8 0, .int .u8 0, .int .u8 0, .int .u8 0, .int .u8 0, .int .u8 0, .int .u8 0, .int .u8 0, .int .u8 0, .int .u8 0, .int .u8 0, .int .u8 0, .int .u8 0, .int .u8 0]) := by kernel_rfl
theorem un_210 : Tryd.prog.underlying 210 = some (.array 32 5) := by kernel_rfl
theorem oz_210 : ofVal (.agg #[.int .u8 0, .int .u8 0, .int .u8 0, .int .u8 0, .int .u8 0, .int .u8 0, .int .u8 0, .int .u8 0, .int .u8 0, .int .u8 0, .int .u8 0, .int .u8 0, .int .u8 0, .int .u8 0, .int .u8 0, .int .u8 0, .int .u8 0, .int .u8 0, .int .u8 0, .int .u8 0, .int .u8 0, .int .u8 0, .int .u8 0, .int .u8 0, .int .u8 0, .int .u8 0, .int .u8 0, .int .u8 0, .int .u8 0, .int .u8 0, .int .u8 0, .int .u8 0]) = .agg [.val (.int .u8 0), .val (.int .u8 0), .val (.int .u8 0), .val (.int .u8 0), .val (.int .u8 0), .val (.int .u8 0), .val (.int .u8 0), .val (.int .u8 0), .val (.int .u8 0), .val (.int .u8 0), .val (.int .u8 0), .val (.int .u8 0), .val (.int .u8 0), .val (.int .u8 0), .val (.int .u8 0), .val (.int .u8 0), .val (.int .u8 0), .val (.int .u8 0), .val (.int .u8 0), .val (.int .u8 0), .val (.int .u8 0), .val (.int .u8 0), .val (.int .u8 0), .val (.int .u8 0), .val (.int .u8 0), .val (.int .u8 0), .val (.int .u8 0), .val (.int .u8 0), .val (.int .u8 0), .val (.int .u8 0), .val (.int .u8 0), .val (.int .u8 0)] := rfl
theorem ea_210 {Γ : Ctx} (s : AS) (ρ : Operand → PV) : evEff Tryd.prog Γ s ρ (.alloc 210) = some (.own s.nx 32 0 0, upd s.ob s.nx (some (210, 32, [.agg [.val (.int .u8 0), .val (.int .u8 0), .val (.int .u8 0), .val (.int .u8 0), .val (.int .u8 0), .val (.int .u8 0), .val (.int .u8 0), .val (.int .u8 0), .val (.int .u8 0), .val (.int .u8 0), .val (.int .u8 0), .val (.int .u8 0), .val (.int .u8 0), .val (.int .u8 0), .val (.int .u8 0), .val (.int .u8 0), .val (.int .u8 0), .val (.int .u8 0), .val (.int .u8 0), .val (.int .u8 0), .val (.int .u8 0), .val (.int .u8 0), .val (.int .u8 0), .val (.int .u8 0), .val (.int .u8 0), .val (.int .u8 0), .val (.int .u8 0), .val (.int .u8 0), .val (.int .u8 0), .val (.int .u8 0), .val (.int .u8 0), .val (.int .u8 0)]])), s.nx + 1) := ea_of ze_210 (by kernel_rfl) rfl rfl s ρ
theorem bs_210 : isByteSlice Tryd.prog 210 = false := by kernel_rfl
theorem is_210 : isStr Tryd.prog 210 = false := by kernel_rfl
theorem sz_211 : tySize Tryd.prog 211 = some 64 := by kernel_rfl
theorem ag_211 : tyAgg Tryd.prog 211 = some true := by kernel_rfl
theorem by_211 : tyBytes Tryd.prog 211 = some 64 := by kernel_rfl
theorem ze_211 : zeroOf Tryd.prog 211 = some (.agg #[.int .u8 0, .int .u8 0, .int .u8 0, .int .u8 0, .int .u8 0, .int .u8 0, .int .u8 0, .int .u8 0, .int .u8 0, .int .u8 0, .int .u8 0, .int .u8 0, .int .u8 0, .int .u8 0, .int .u8 0, .int .u8 0, .int .u8 0, .int .u8 0, .int .u8 0, .int .u8 0, .int .u8 0, .int .u8 0, .int .u8 0, .int .u8 0, .int .u8 0, .int .u8 0, .int .u8 0, .int .u8 0, .int .u8 0, .int .u8 0, .int .u8 0, .int .u8 0, .int .u8 0, .int .u8 0, .int .u8 0, .int .u8 0, .int .u8 0, .int .u8 0, .int .u8 0, .int .u8 0, .int .u8 0, .int .u8 0, .int .u8 0, .int .u8 0, .int .u8 0, .int .u8 0, .int .u8 0, .int .u8 0, .int .u8 0, .int .u8 0, .int .u8 0, .int .u8 0, .int .u8 0, .int .u8 0, .int .u8 0, .int .u8 0, .int .u8 0, .int .u8 0, .int .u8 0, .int .u8 0, .int .u8 0, .int .u8 0, .int .u8 0, .int .u8 0]) := by kernel_rfl
theorem un_211 : Tryd.prog.underlying 211 = some (.array 64 5) := by kernel_rfl
theorem oz_211 : ofVal (.agg #[.int .u8 0, .int .u8 0, .int .u8 0, .int .u8 0, .int .u8 0, .int .u8 0, .int .u8 0, .int .u8 0, .int .u8 0, .int .u8 0, .int .u8 0, .int .u8 0, .int .u8 0, .int .u8 0, .int .u8 0, .int .u8 0, .int .u8 0, .int .u8 0, .int .u8 0, .int .u8 0, .int .u8 0, .int .u8 0, .int .u8 0, .int .u8 0, .int .u8 0, .int .u8 0, .int .u8 0, .int .u8 0, .int .u8 0, .int .u8 0, .int .u8 0, .int .u8 0, .int .u8 0, .int .u8 0, .int .u8 0, .int .u8 0, .int .u8 0, .int .u8 0, .int .u8 0, .int .u8 0, .int .u8 0, .int .u8 0, .int .u8 0, .int .u8 0, .int .u8 0, .int .u8 0, .int .u8 0, .int .u8 0, .int .u8 0, .int .u8 0, .int .u8 0, .int .u8 0, .int .u8 0, .int .u8 0, .int .u8 0, .int .u8 0, .int .u8 0, .int .u8 0, .int .u8 0, .int .u8 0, .int .u8 0, .int .u8 0, .int .u8 0, .int .u8 0]) = .agg [.val (.int .u8 0), .val (.int .u8 0), .val (.int .u8 0), .val (.int .u8 0), .val (.int .u8 0), .val (.int .u8 0), .val (.int .u8 0), .val (.int .u8 0), .val (.int .u8 0), .val (.int .u8 0), .val (.int .u8 0), .val (.int .u8 0), .val (.int .u8 0), .val (.int .u8 0), .val (.int .u8 0), .val (.int .u8 0), .val (.int .u8 0), .val (.int .u8 0), .val (.int .u8 0), .val (.int .u8 0), .val (.int .u8 0), .val (.int .u8 0), .val (.int .u8 0), .val (.int .u8 0), .val (.int .u8 0), .val (.int .u8 0), .val (.int .u8 0), .val (.int .u8 0), .val (.int .u8 0), .val (.int .u8 0), .val (.int .u8 0), .val (.int .u8 0), .val (.int .u8 0), .val (.int .u8 0), .val (.int .u8 0), .val (.int .u8 0), .val (.int .u8 0), .val (.int .u8 0), .val (.int .u8 0), .val (.int .u8 0), .val (.int .u8 0), .val (.int .u8 0), .val (.int .u8 0), .val (.int .u8 0), .val (.int .u8 0), .val (.int .u8 0), .val (.int .u8 0), .val (.int .u8 0), .val (.int .u8 0), .val (.int .u8 0), .val (.int .u8 0), .val (.int .u8 0), .val (.int .u8 0), .val (.int .u8 0), .val (.int .u8 0), .val (.int .u8 0), .val (.int .u8 0), .val (.int .u8 0), .val (.int .u8 0), .val (.int .u8 0), .val (.int .u8 0), .val (.int .u8 0), .val (.int .u8 0), .val (.int .u8 0)] := rfl
theorem ea_211 {Γ : Ctx} (s : AS) (ρ : Operand → PV) : evEff Tryd.prog Γ s ρ (.alloc 211) = some (.own s.nx 64 0 0, upd s.ob s.nx (some (211, 64, [.agg [.val (.int .u8 0), .val (.int .u8 0), .val (.int .u8 0), .val (.int .u8 0), .val (.int .u8 0), .val (.int .u8 0), .val (.int .u8 0), .val (.int .u8 0), .val (.int .u8 0), .val (.int .u8 0), .val (.int .u8 0), .val (.int .u8 0), .val (.int .u8 0), .val (.int .u8 0), .val (.int .u8 0), .val (.int .u8 0), .val (.int .u8 0), .val (.int .u8 0), .val (.int .u8 0), .val (.int .u8 0), .val (.int .u8 0), .val (.int .u8 0), .val (.int .u8 0), .val (.int .u8 0), .val (.int .u8 0), .val (.int .u8 0), .val (.int .u8 0), .val (.int .u8 0), .val (.int .u8 0), .val (.int .u8 0), .val (.int .u8 0), .val (.int .u8 0), .val (.int .u8 0), .val (.int .u8 0), .val (.int .u8 0), .val (.int .u8 0), .val (.int .u8 0), .val (.int .u8 0), .val (.int .u8 0), .val (.int .u8 0), .val (.int .u8 0), .val (.int .u8 0), .val (.int .u8 0), .val (.int .u8 0), .val (.int .u8 0), .val (.int .u8 0), .val (.int .u8 0), .val (.int .u8 0), .val (.int .u8 0), .val (.int .u8 0), .val (.int .u8 0), .val (.int .u8 0), .val (.int .u8 0), .val (.int .u8 0), .val (.int .u8 0), .val (.int .u8 0), .val (.int .u8 0), .val (.int .u8 0), .val (.int .u8 0), .val (.int .u8 0), .val (.int .u8 0), .val (.int .u8 0), .val (.int .u8 0), .val (.int .u8 0)]])), s.nx + 1) := ea_of ze_211 (by kernel_rfl) rfl rfl s ρ
theorem bs_211 : isByteSlice Tryd.prog 211 = false := by kernel_rfl
theorem is_211 : isStr Tryd.prog 211 = false := by kernel_rfl
theorem sz_22 : tySize Tryd.prog 22 = some 1 := by kernel_rfl
theorem ag_22 : tyAgg Tryd.prog 22 = some false := by kernel_rfl
theorem by_22 : tyBytes Tryd.prog 22 = some 24 := by kernel_rfl
theorem ze_22 : zeroOf Tryd.prog 22 = some (.slice none 0 0) := by kernel_rfl
theorem un_22 : Tryd.prog.underlying 22 = some (.slice 9) := by kernel_rfl
theorem el_22 : tyElem Tryd.prog 22 = some 9 := by kernel_rfl
theorem ix_22 {k : Bool} {es : List PV} {i : Int} (h0 : 0 ≤ i) (h1 : i < (es.length : Int)) : evIndexAddr Tryd.prog 22 (.lst k 1 es) i = some (.ptr k ((es[i.toNat]?).getD .dead) 0) := ix_lst un_22 sz_9 h0 h1
theorem ixr_22 {o j n : Nat} {i : Int} (h0 : 0 ≤ i) (h1 : i < (n : Int)) : evIndexAddr Tryd.prog 22 (.row o 1 j n) i = some (.own o 1 (j + i.toNat) 0) := ix_row un_22 sz_9 h0 h1
theorem sl_22 {k : Bool} {es : List PV} {lo hi : Option Int} (h0 : 0 ≤ lo.getD 0) (h1 : lo.getD 0 ≤ hi.getD es.length) (h2 : hi.getD es.length ≤ es.length) : evSlice Tryd.prog 22 (.lst k 1 es) lo hi = some (.lst k 1 ((es.drop (lo.getD 0).toNat).take ((hi.getD es.length).toNat - (lo.getD 0).toNat))) := sl_lst un_22 sz_9 h0 h1 h2
theorem slr_22 {o i n : Nat} {lo hi : Option Int} (h0 : 0 ≤ lo.getD 0) (h1 : lo.getD 0 < hi.getD n) (h2 : hi.getD n ≤ n) : evSlice Tryd.prog 22 (.row o 1 i n) lo hi = some (.row o 1 (i + (lo.getD 0).toNat) ((hi.getD n).toNat - (lo.getD 0).toNat)) := sl_rowlt un_22 sz_9 h0 h1 h2
theorem sle_22 {o i n : Nat} {lo hi : Option Int} (h0 : 0 ≤ lo.getD 0) (h1 : lo.getD 0 = hi.getD n) (h2 : hi.getD n ≤ n) : evSlice Tryd.prog 22 (.row o 1 i n) lo hi = some (.lst true 1 []) := sl_roweq un_22 sz_9 h0 h1 h2
theorem lpl_22 {ty sz : Nat} {k : Bool} {es : List PV} : lenP Tryd.prog 22 ty (.lst k sz es) = some (.val (.int .i64 es.length)) := lp_lst el_22
theorem lpr_22 {ty o sz i n : Nat} : lenP Tryd.prog 22 ty (.row o sz i n) = some (.val (.int .i64 n)) := lp_row el_22
theorem lpn_22 {ty : Nat} : lenP Tryd.prog 22 ty (.val (.slice none 0 0)) = some (.val (.int .i64 0)) := lp_nil un_22
theorem oz_22 : ofVal (.slice none 0 0) = .val (.slice none 0 0) := rfl
theorem ea_22 {Γ : Ctx} (s : AS) (ρ : Operand → PV) : evEff Tryd.prog Γ s ρ (.alloc 22) = some (.own s.nx 1 0 0, upd s.ob s.nx (some (22, 1, [.val (.slice none 0 0)])), s.nx + 1) := ea_of ze_22 (by kernel_rfl) rfl rfl s ρ
theorem em_22 {Γ : Ctx} (s : AS) (ρ : Operand → PV) (l c : Operand) : evEff Tryd.prog Γ s ρ (.makeSlice 22 l c) = mkEv 9 1 16 (.string ByteArray.empty) s (ρ l) (ρ c) := em_of el_22 ze_9 sz_9 by_9 (by kernel_rfl) rfl s ρ l c
theorem eap_22 {Γ : Ctx} (s : AS) (ρ : Operand → PV) (x y : Operand) : evEff Tryd.prog Γ s ρ (.call { callee := .builtin .append, args := #[x, y], argTypes := #[22, 22] }) = apEv 9 1 16 s.nx s.ob (ρ x) (obOf s.ob (ρ x)) (sliceEs s.ob 1 (ρ y)) := eap_of el_22 ze_9 sz_9 by_9 (by decide) rfl s ρ x y
theorem ecp_22 {Γ : Ctx} (s : AS) (ρ : Operand → PV) (x y : Operand) (t' : Nat) : evEff Tryd.prog Γ s ρ (.call { callee := .builtin .copy, args := #[x, y], argTypes := #[22, t'] }) = cpX 1 s.nx s.ob (ρ x) (obOf s.ob (ρ x)) (srcEs s.ob 1 (ρ y)) := ecp_of el_22 sz_9 s ρ x y t'
theorem bs_22 : isByteSlice Tryd.prog 22 = false := by kernel_rfl
theorem is_22 : isStr Tryd.prog 22 = false := by kernel_rfl
theorem sz_24 : tySize Tryd.prog 24 = some 1 := by kernel_rfl
theorem ag_24 : tyAgg Tryd.prog 24 = some false := by kernel_rfl
theorem by_24 : tyBytes Tryd.prog 24 = some 24 := by kernel_rfl
theorem ze_24 : zeroOf Tryd.prog 24 = some (.slice none 0 0) := by kernel_rfl
theorem un_24 : Tryd.prog.underlying 24 = some (.slice 5) := by kernel_rfl
theorem el_24 : tyElem Tryd.prog 24 = some 5 := by kernel_rfl
theorem ix_24 {k : Bool} {es : List PV} {i : Int} (h0 : 0 ≤ i) (h1 : i < (es.length : Int)) : evIndexAddr Tryd.prog 24 (.lst k 1 es) i = some (.ptr k ((es[i.toNat]?).getD .dead) 0) := ix_lst un_24 sz_5 h0 h1
theorem ixr_24 {o j n : Nat} {i : Int} (h0 : 0 ≤ i) (h1 : i < (n : Int)) : evIndexAddr Tryd.prog 24 (.row o 1 j n) i = some (.own o 1 (j + i.toNat) 0) := ix_row un_24 sz_5 h0 h1
theorem sl_24 {k : Bool} {es : List PV} {lo hi : Option Int} (h0 : 0 ≤ lo.getD 0) (h1 : lo.getD 0 ≤ hi.getD es.length) (h2 : hi.getD es.length ≤ es.length) : evSlice Tryd.prog 24 (.lst k 1 es) lo hi = some (.lst k 1 ((es.drop (lo.getD 0).toNat).take ((hi.getD es.length).toNat - (lo.getD 0).toNat))) := sl_lst un_24 sz_5 h0 h1 h2
theorem slr_24 {o i n : Nat} {lo hi : Option Int} (h0 : 0 ≤ lo.getD 0) (h1 : lo.getD 0 < hi.getD n) (h2 : hi.getD n ≤ n) : evSlice Tryd.prog 24 (.row o 1 i n) lo hi = some (.row o 1 (i + (lo.getD 0).toNat) ((hi.getD n).toNat - (lo.getD 0).toNat)) := sl_rowlt un_24 sz_5 h0 h1 h2
theorem sle_24 {o i n : Nat} {lo hi : Option Int} (h0 : 0 ≤ lo.getD 0) (h1 : lo.getD 0 = hi.getD n) (h2 : hi.getD n ≤ n) : evSlice Tryd.prog 24 (.row o 1 i n) lo hi = some (.lst true 1 []) := sl_roweq un_24 sz_5 h0 h1 h2
theorem lpl_24 {ty sz : Nat} {k : Bool} {es : List PV} : lenP Tryd.prog 24 ty (.lst k sz es) = some (.val (.int .i64 es.length)) := lp_lst el_24
theorem lpr_24 {ty o sz i n : Nat} : lenP Tryd.prog 24 ty (.row o sz i n) = some (.val (.int .i64 n)) := lp_row el_24
theorem lpn_24 {ty : Nat} : lenP Tryd.prog 24 ty (.val (.slice none 0 0)) = some (.val (.int .i64 0)) := lp_nil un_24
theorem oz_24 : ofVal (.slice none 0 0) = .val (.slice none 0 0) := rfl
theorem ea_24 {Γ : Ctx} (s : AS) (ρ : Operand → PV) : evEff Tryd.prog Γ s ρ (.alloc 24) = some (.own s.nx 1 0 0, upd s.ob s.nx (some (24, 1, [.val (.slice none 0 0)])), s.nx + 1) := ea_of ze_24 (by kernel_rfl) rfl rfl s ρ
theorem em_24 {Γ : Ctx} (s : AS) (ρ : Operand → PV) (l c : Operand) : evEff Tryd.prog Γ s ρ (.makeSlice 24 l c) = mkEv 5 1 1 (.int .u8 0) s (ρ l) (ρ c) := em_of el_24 ze_5 sz_5 by_5 (by kernel_rfl) rfl s ρ l c
theorem eap_24 {Γ : Ctx} (s : AS) (ρ : Operand → PV) (x y : Operand) : evEff Tryd.prog Γ s ρ (.call { callee := .builtin .append, args := #[x, y], argTypes := #[24, 24] }) = apEv 5 1 1 s.nx s.ob (ρ x) (obOf s.ob (ρ x)) (sliceEs s.ob 1 (ρ y)) := eap_of el_24 ze_5 sz_5 by_5 (by decide) rfl s ρ x y
theorem ecp_24 {Γ : Ctx} (s : AS) (ρ : Operand → PV) (x y : Operand) (t' : Nat) : evEff Tryd.prog Γ s ρ (.call { callee := .builtin .copy, args := #[x, y], argTypes := #[24, t'] }) = cpX 1 s.nx s.ob (ρ x) (obOf s.ob (ρ x)) (srcEs s.ob 1 (ρ y)) := ecp_of el_24 sz_5 s ρ x y t'
theorem bs_24 : isByteSlice Tryd.prog 24 = true := by kernel_rfl
theorem is_24 : isStr Tryd.prog 24 = false := by kernel_rfl
theorem sz_40 : tySize Tryd.prog 40 = some 1 := by kernel_rfl
theorem ag_40 : tyAgg Tryd.prog 40 = some false := by kernel_rfl
theorem by_40 : tyBytes Tryd.prog 40 = some 24 := by kernel_rfl
theorem ze_40 : zeroOf Tryd.prog 40 = some (.slice none 0 0) := by kernel_rfl
theorem un_40 : Tryd.prog.underlying 40 = some (.slice 3) := by kernel_rfl
theorem el_40 : tyElem Tryd.prog 40 = some 3 := by kernel_rfl
theorem ix_40 {k : Bool} {es : List PV} {i : Int} (h0 : 0 ≤ i) (h1 : i < (es.length : Int)) : evIndexAddr Tryd.prog 40 (.lst k 1 es) i = some (.ptr k ((es[i.toNat]?).getD .dead) 0) := ix_lst un_40 sz_3 h0 h1
theorem ixr_40 {o j n : Nat} {i : Int} (h0 : 0 ≤ i) (h1 : i < (n : Int)) : evIndexAddr Tryd.prog 40 (.row o 1 j n) i = some (.own o 1 (j + i.toNat) 0) := ix_row un_40 sz_3 h0 h1
theorem sl_40 {k : Bool} {es : List PV} {lo hi : Option Int} (h0 : 0 ≤ lo.getD 0) (h1 : lo.getD 0 ≤ hi.getD es.length) (h2 : hi.getD es.length ≤ es.length) : evSlice Tryd.prog 40 (.lst k 1 es) lo hi = some (.lst k 1 ((es.drop (lo.getD 0).toNat).take ((hi.getD es.length).toNat - (lo.getD 0).toNat))) := sl_lst un_40 sz_3 h0 h1 h2
theorem slr_40 {o i n : Nat} {lo hi : Option Int} (h0 : 0 ≤ lo.getD 0) (h1 : lo.getD 0 < hi.getD n) (h2 : hi.getD n ≤ n) : evSlice Tryd.prog 40 (.row o 1 i n) lo hi = some (.row o 1 (i + (lo.getD 0).toNat) ((hi.getD n).toNat - (lo.getD 0).toNat)) := sl_rowlt un_40 sz_3 h0 h1 h2
theorem sle_40 {o i n : Nat} {lo hi : Option Int} (h0 : 0 ≤ lo.getD 0) (h1 : lo.getD 0 = hi.getD n) (h2 : hi.getD n ≤ n) : evSlice Tryd.prog 40 (.row o 1 i n) lo hi = some (.lst true 1 []) := sl_roweq un_40 sz_3 h0 h1 h2
theorem lpl_40 {ty sz : Nat} {k : Bool} {es : List PV} : lenP Tryd.prog 40 ty (.lst k sz es) = some (.val (.int .i64 es.length)) := lp_lst el_40
theorem lpr_40 {ty o sz i n : Nat} : lenP Tryd.prog 40 ty (.row o sz i n) = some (.val (.int .i64 n)) := lp_row el_40
theorem lpn_40 {ty : Nat} : lenP Tryd.prog 40 ty (.val (.slice none 0 0)) = some (.val (.int .i64 0)) := lp_nil un_40
theorem oz_40 : ofVal (.slice none 0 0) = .val (.slice none 0 0) := rfl
theorem ea_40 {Γ : Ctx} (s : AS) (ρ : Operand → PV) : evEff Tryd.prog Γ s ρ (.alloc 40) = some (.own s.nx 1 0 0, upd s.ob s.nx (some (40, 1, [.val (.slice none 0 0)])), s.nx + 1) := ea_of ze_40 (by kernel_rfl) rfl rfl s ρ
theorem em_40 {Γ : Ctx} (s : AS) (ρ : Operand → PV) (l c : Operand) : evEff Tryd.prog Γ s ρ (.makeSlice 40 l c) = mkEv 3 1 8 (.int .i64 0) s (ρ l) (ρ c) := em_of el_40 ze_3 sz_3 by_3 (by kernel_rfl) rfl s ρ l c
theorem eap_40 {Γ : Ctx} (s : AS) (ρ : Operand → PV) (x y : Operand) : evEff Tryd.prog Γ s ρ (.call { callee := .builtin .append, args := #[x, y], argTypes := #[40, 40] }) = apEv 3 1 8 s.nx s.ob (ρ x) (obOf s.ob (ρ x)) (sliceEs s.ob 1 (ρ y)) := eap_of el_40 ze_3 sz_3 by_3 (by decide) rfl s ρ x y
theorem ecp_40 {Γ : Ctx} (s : AS) (ρ : Operand → PV) (x y : Operand) (t' : Nat) : evEff Tryd.prog Γ s ρ (.call { callee := .builtin .copy, args := #[x, y], argTypes := #[40, t'] }) = cpX 1 s.nx s.ob (ρ x) (obOf s.ob (ρ x)) (srcEs s.ob 1 (ρ y)) := ecp_of el_40 sz_3 s ρ x y t'
theorem bs_40 : isByteSlice Tryd.prog 40 = false := by kernel_rfl
theorem is_40 : isStr Tryd.prog 40 = false := by kernel_rfl
theorem sz_51 : tySize Tryd.prog 51 = some 1 := by kernel_rfl
theorem ag_51 : tyAgg Tryd.prog 51 = some false := by kernel_rfl
theorem by_51 : tyBytes Tryd.prog 51 = some 24 := by kernel_rfl
theorem ze_51 : zeroOf Tryd.prog 51 = some (.slice none 0 0) := by kernel_rfl
theorem un_51 : Tryd.prog.underlying 51 = some (.slice 90) := by kernel_rfl
theorem el_51 : tyElem Tryd.prog 51 = some 90 := by kernel_rfl
theorem ix_51 {k : Bool} {es : List PV} {i : Int} (h0 : 0 ≤ i) (h1 : i < (es.length : Int)) : evIndexAddr Tryd.prog 51 (.lst k 2 es) i = some (.ptr k ((es[i.toNat]?).getD .dead) 0) := ix_lst un_51 sz_90 h0 h1
theorem ixr_51 {o j n : Nat} {i : Int} (h0 : 0 ≤ i) (h1 : i < (n : Int)) : evIndexAddr Tryd.prog 51 (.row o 2 j n) i = some (.own o 2 (j + i.toNat) 0) := ix_row un_51 sz_90 h0 h1
theorem sl_51 {k : Bool} {es : List PV} {lo hi : Option Int} (h0 : 0 ≤ lo.getD 0) (h1 : lo.getD 0 ≤ hi.getD es.length) (h2 : hi.getD es.length ≤ es.length) : evSlice Tryd.prog 51 (.lst k 2 es) lo hi = some (.lst k 2 ((es.drop (lo.getD 0).toNat).take ((hi.getD es.length).toNat - (lo.getD 0).toNat))) := sl_lst un_51 sz_90 h0 h1 h2
theorem slr_51 {o i n : Nat} {lo hi : Option Int} (h0 : 0 ≤ lo.getD 0) (h1 : lo.getD 0 < hi.getD n) (h2 : hi.getD n ≤ n) : evSlice Tryd.prog 51 (.row o 2 i n) lo hi = some (.row o 2 (i + (lo.getD 0).toNat) ((hi.getD n).toNat - (lo.getD 0).toNat)) := sl_rowlt un_51 sz_90 h0 h1 h2
theorem sle_51 {o i n : Nat} {lo hi : Option Int} (h0 : 0 ≤ lo.getD 0) (h1 : lo.getD 0 = hi.getD n) (h2 : hi.getD n ≤ n) : evSlice Tryd.prog 51 (.row o 2 i n) lo hi = some (.lst true 2 []) := sl_roweq un_51 sz_90 h0 h1 h2
theorem lpl_51 {ty sz : Nat} {k : Bool} {es : List PV} : lenP Tryd.prog 51 ty (.lst k sz es) = some (.val (.int .i64 es.length)) := lp_lst el_51
theorem lpr_51 {ty o sz i n : Nat} : lenP Tryd.prog 51 ty (.row o sz i n) = some (.val (.int .i64 n)) := lp_row el_51
theorem lpn_51 {ty : Nat} : lenP Tryd.prog 51 ty (.val (.slice none 0 0)) = some (.val (.int .i64 0)) := lp_nil un_51
theorem oz_51 : ofVal (.slice none 0 0) = .val (.slice none 0 0) := rfl
theorem ea_51 {Γ : Ctx} (s : AS) (ρ : Operand → PV) : evEff Tryd.prog Γ s ρ (.alloc 51) = some (.own s.nx 1 0 0, upd s.ob s.nx (some (51, 1, [.val (.slice none 0 0)])), s.nx + 1) := ea_of ze_51 (by kernel_rfl) rfl rfl s ρ
theorem em_51 {Γ : Ctx} (s : AS) (ρ : Operand → PV) (l c : Operand) : evEff Tryd.prog Γ s ρ (.makeSlice 51 l c) = mkEv 90 2 24 (.agg #[.string ByteArray.empty, .int .i64 0]) s (ρ l) (ρ c) := em_of el_51 ze_90 sz_90 by_90 (by kernel_rfl) rfl s ρ l c
theorem eap_51 {Γ : Ctx} (s : AS) (ρ : Operand → PV) (x y : Operand) : evEff Tryd.prog Γ s ρ (.call { callee := .builtin .append, args := #[x, y], argTypes := #[51, 51] }) = apEv 90 2 24 s.nx s.ob (ρ x) (obOf s.ob (ρ x)) (sliceEs s.ob 2 (ρ y)) := eap_of el_51 ze_90 sz_90 by_90 (by decide) rfl s ρ x y
theorem ecp_51 {Γ : Ctx} (s : AS) (ρ : Operand → PV) (x y : Operand) (t' : Nat) : evEff Tryd.prog Γ s ρ (.call { callee := .builtin .copy, args := #[x, y], argTypes := #[51, t'] }) = cpX 2 s.nx s.ob (ρ x) (obOf s.ob (ρ x)) (srcEs s.ob 2 (ρ y)) := ecp_of el_51 sz_90 s ρ x y t'
theorem bs_51 : isByteSlice Tryd.prog 51 = false := by kernel_rfl
theorem is_51 : isStr Tryd.prog 51 = false := by kernel_rfl
theorem sz_54 : tySize Tryd.prog 54 = some 1 := by kernel_rfl
theorem ag_54 : tyAgg Tryd.prog 54 = some false := by kernel_rfl
theorem by_54 : tyBytes Tryd.prog 54 = some 24 := by kernel_rfl
theorem ze_54 : zeroOf Tryd.prog 54 = some (.slice none 0 0) := by kernel_rfl
theorem un_54 : Tryd.prog.underlying 54 = some (.slice 61) := by kernel_rfl
theorem el_54 : tyElem Tryd.prog 54 = some 61 := by kernel_rfl
theorem ix_54 {k : Bool} {es : List PV} {i : Int} (h0 : 0 ≤ i) (h1 : i < (es.length : Int)) : evIndexAddr Tryd.prog 54 (.lst k 2 es) i = some (.ptr k ((es[i.toNat]?).getD .dead) 0) := ix_lst un_54 sz_61 h0 h1
theorem ixr_54 {o j n : Nat} {i : Int} (h0 : 0 ≤ i) (h1 : i < (n : Int)) : evIndexAddr Tryd.prog 54 (.row o 2 j n) i = some (.own o 2 (j + i.toNat) 0) := ix_row un_54 sz_61 h0 h1
theorem sl_54 {k : Bool} {es : List PV} {lo hi : Option Int} (h0 : 0 ≤ lo.getD 0) (h1 : lo.getD 0 ≤ hi.getD es.length) (h2 : hi.getD es.length ≤ es.length) : evSlice Tryd.prog 54 (.lst k 2 es) lo hi = some (.lst k 2 ((es.drop (lo.getD 0).toNat).take ((hi.getD es.length).toNat - (lo.getD 0).toNat))) := sl_lst un_54 sz_61 h0 h1 h2
theorem slr_54 {o i n : Nat} {lo hi : Option Int} (h0 : 0 ≤ lo.getD 0) (h1 : lo.getD 0 < hi.getD n) (h2 : hi.getD n ≤ n) : evSlice Tryd.prog 54 (.row o 2 i n) lo hi = some (.row o 2 (i + (lo.getD 0).toNat) ((hi.getD n).toNat - (lo.getD 0).toNat)) := sl_rowlt un_54 sz_61 h0 h1 h2
theorem sle_54 {o i n : Nat} {lo hi : Option Int} (h0 : 0 ≤ lo.getD 0) (h1 : lo.getD 0 = hi.getD n) (h2 : hi.getD n ≤ n) : evSlice Tryd.prog 54 (.row o 2 i n) lo hi = some (.lst true 2 []) := sl_roweq un_54 sz_61 h0 h1 h2
theorem lpl_54 {ty sz : Nat} {k : Bool} {es : List PV} : lenP Tryd.prog 54 ty (.lst k sz es) = some (.val (.int .i64 es.length)) := lp_lst el_54
theorem lpr_54 {ty o sz i n : Nat} : lenP Tryd.prog 54 ty (.row o sz i n) = some (.val (.int .i64 n)) := lp_row el_54
theorem lpn_54 {ty : Nat} : lenP Tryd.prog 54 ty (.val (.slice none 0 0)) = some (.val (.int .i64 0)) := lp_nil un_54
theorem oz_54 : ofVal (.slice none 0 0) = .val (.slice none 0 0) := rfl
theorem ea_54 {Γ : Ctx} (s : AS) (ρ : Operand → PV) : evEff Tryd.prog Γ s ρ (.alloc 54) = some (.own s.nx 1 0 0, upd s.ob s.nx (some (54, 1, [.val (.slice none 0 0)])), s.nx + 1) := ea_of ze_54 (by kernel_rfl) rfl rfl s ρ
theorem em_54 {Γ : Ctx} (s : AS) (ρ : Operand → PV) (l c : Operand) : evEff Tryd.prog Γ s ρ (.makeSlice 54 l c) = mkEv 61 2 24 (.agg #[.string ByteArray.empty, .int .i64 0]) s (ρ l) (ρ c) := em_of el_54 ze_61 sz_61 by_61 (by kernel_rfl) rfl s ρ l c
theorem eap_54 {Γ : Ctx} (s : AS) (ρ : Operand → PV) (x y : Operand) : evEff Tryd.prog Γ s ρ (.call { callee := .builtin .append, args := #[x, y], argTypes := #[54, 54] }) = apEv 61 2 24 s.nx s.ob (ρ x) (obOf s.ob (ρ x)) (sliceEs s.ob 2 (ρ y)) := eap_of el_54 ze_61 sz_61 by_61 (by decide) rfl s ρ x y
theorem ecp_54 {Γ : Ctx} (s : AS) (ρ : Operand → PV) (x y : Operand) (t' : Nat) : evEff Tryd.prog Γ s ρ (.call { callee := .builtin .copy, args := #[x, y], argTypes := #[54, t'] }) = cpX 2 s.nx s.ob (ρ x) (obOf s.ob (ρ x)) (srcEs s.ob 2 (ρ y)) := ecp_of el_54 sz_61 s ρ x y t'
theorem bs_54 : isByteSlice Tryd.prog 54 = false := by kernel_rfl
theorem is_54 : isStr Tryd.prog 54 = false := by kernel_rfl
theorem sz_78 : tySize Tryd.prog 78 = some 1 := by kernel_rfl
theorem ag_78 : tyAgg Tryd.prog 78 = some false := by kernel_rfl
theorem by_78 : tyBytes Tryd.prog 78 = some 24 := by kernel_rfl
theorem ze_78 : zeroOf Tryd.prog 78 = some (.slice none 0 0) := by kernel_rfl
theorem un_78 : Tryd.prog.underlying 78 = some (.slice 80) := by kernel_rfl
theorem el_78 : tyElem Tryd.prog 78 = some 80 := by kernel_rfl
theorem ix_78 {k : Bool} {es : List PV} {i : Int} (h0 : 0 ≤ i) (h1 : i < (es.length : Int)) : evIndexAddr Tryd.prog 78 (.lst k 2 es) i = some (.ptr k ((es[i.toNat]?).getD .dead) 0) := ix_lst un_78 sz_80 h0 h1
theorem ixr_78 {o j n : Nat} {i : Int} (h0 : 0 ≤ i) (h1 : i < (n : Int)) : evIndexAddr Tryd.prog 78 (.row o 2 j n) i = some (.own o 2 (j + i.toNat) 0) := ix_row un_78 sz_80 h0 h1
theorem sl_78 {k : Bool} {es : List PV} {lo hi : Option Int} (h0 : 0 ≤ lo.getD 0) (h1 : lo.getD 0 ≤ hi.getD es.length) (h2 : hi.getD es.length ≤ es.length) : evSlice Tryd.prog 78 (.lst k 2 es) lo hi = some (.lst k 2 ((es.drop (lo.getD 0).toNat).take ((hi.getD es.length).toNat - (lo.getD 0).toNat))) := sl_lst un_78 sz_80 h0 h1 h2
theorem slr_78 {o i n : Nat} {lo hi : Option Int} (h0 : 0 ≤ lo.getD 0) (h1 : lo.getD 0 < hi.getD n) (h2 : hi.getD n ≤ n) : evSlice Tryd.prog 78 (.row o 2 i n) lo hi = some (.row o 2 (i + (lo.getD 0).toNat) ((hi.getD n).toNat - (lo.getD 0).toNat)) := sl_rowlt un_78 sz_80 h0 h1 h2
theorem sle_78 {o i n : Nat} {lo hi : Option Int} (h0 : 0 ≤ lo.getD 0) (h1 : lo.getD 0 = hi.getD n) (h2 : hi.getD n ≤ n) : evSlice Tryd.prog 78 (.row o 2 i n) lo hi = some (.lst true 2 []) := sl_roweq un_78 sz_80 h0 h1 h2
theorem lpl_78 {ty sz : Nat} {k : Bool} {es : List PV} : lenP Tryd.prog 78 ty (.lst k sz es) = some (.val (.int .i64 es.length)) := lp_lst el_78
theorem lpr_78 {ty o sz i n : Nat} : lenP Tryd.prog 78 ty (.row o sz i n) = some (.val (.int .i64 n)) := lp_row el_78
theorem lpn_78 {ty : Nat} : lenP Tryd.prog 78 ty (.val (.slice none 0 0)) = some (.val (.int .i64 0)) := lp_nil un_78
theorem oz_78 : ofVal (.slice none 0 0) = .val (.slice none 0 0) := rfl
theorem ea_78 {Γ : Ctx} (s : AS) (ρ : Operand → PV) : evEff Tryd.prog Γ s ρ (.alloc 78) = some (.own s.nx 1 0 0, upd s.ob s.nx (some (78, 1, [.val (.slice none 0 0)])), s.nx + 1) := ea_of ze_78 (by kernel_rfl) rfl rfl s ρ
theorem em_78 {Γ : Ctx} (s : AS) (ρ : Operand → PV) (l c : Operand) : evEff Tryd.prog Γ s ρ (.makeSlice 78 l c) = mkEv 80 2 16 (.agg #[.int .i64 0, .int .i64 0]) s (ρ l) (ρ c) := em_of el_78 ze_80 sz_80 by_80 (by kernel_rfl) rfl s ρ l c
theorem eap_78 {Γ : Ctx} (s : AS) (ρ : Operand → PV) (x y : Operand) : evEff Tryd.prog Γ s ρ (.call { callee := .builtin .append, args := #[x, y], argTypes := #[78, 78] }) = apEv 80 2 16 s.nx s.ob (ρ x) (obOf s.ob (ρ x)) (sliceEs s.ob 2 (ρ y)) := eap_of el_78 ze_80 sz_80 by_80 (by decide) rfl s ρ x y
theorem ecp_78 {Γ : Ctx} (s : AS) (ρ : Operand → PV) (x y : Operand) (t' : Nat) : evEff Tryd.prog Γ s ρ (.call { callee := .builtin .copy, args := #[x, y], argTypes := #[78, t'] }) = cpX 2 s.nx s.ob (ρ x) (obOf s.ob (ρ x)) (srcEs s.ob 2 (ρ y)) := ecp_of el_78 sz_80 s ρ x y t'
theorem bs_78 : isByteSlice Tryd.prog 78 = false := by kernel_rfl
theorem is_78 : isStr Tryd.prog 78 = false := by kernel_rfl
theorem cvi_2_2 {k : IntKind} {n : Int} {es : Option (List PV)} : convP Tryd.prog 2 2 false es (some (.int k n)) = some (.val (.int .i64 (IntKind.i64.wrap n))) := cv_int un_2 un_2
theorem cvi_2_3 {k : IntKind} {n : Int} {es : Option (List PV)} : convP Tryd.prog 2 3 false es (some (.int k n)) = some (.val (.int .i64 (IntKind.i64.wrap n))) := cv_int un_2 un_3
theorem cvi_2_5 {k : IntKind} {n : Int} {es : Option (List PV)} : convP Tryd.prog 2 5 false es (some (.int k n)) = some (.val (.int .u8 (IntKind.u8.wrap n))) := cv_int un_2 un_5
theorem cvi_2_12 {k : IntKind} {n : Int} {es : Option (List PV)} : convP Tryd.prog 2 12 false es (some (.int k n)) = some (.val (.int .u64 (IntKind.u64.wrap n))) := cv_int un_2 un_12
theorem cvi_2_21 {k : IntKind} {n : Int} {es : Option (List PV)} : convP Tryd.prog 2 21 false es (some (.int k n)) = some (.val (.int .i32 (IntKind.i32.wrap n))) := cv_int un_2 un_21
theorem cvi_2_127 {k : IntKind} {n : Int} {es : Option (List PV)} : convP Tryd.prog 2 127 false es (some (.int k n)) = some (.val (.int .u64 (IntKind.u64.wrap n))) := cv_int un_2 un_127
theorem cvi_2_143 {k : IntKind} {n : Int} {es : Option (List PV)} : convP Tryd.prog 2 143 false es (some (.int k n)) = some (.val (.int .i64 (IntKind.i64.wrap n))) := cv_int un_2 un_143
theorem cvi_2_152 {k : IntKind} {n : Int} {es : Option (List PV)} : convP Tryd.prog 2 152 false es (some (.int k n)) = some (.val (.int .u32 (IntKind.u32.wrap n))) := cv_int un_2 un_152
theorem cvi_2_154 {k : IntKind} {n : Int} {es : Option (List PV)} : convP Tryd.prog 2 154 false es (some (.int k n)) = some (.val (.int .u64 (IntKind.u64.wrap n))) := cv_int un_2 un_154
theorem cvi_2_180 {k : IntKind} {n : Int} {es : Option (List PV)} : convP Tryd.prog 2 180 false es (some (.int k n)) = some (.val (.int .u64 (IntKind.u64.wrap n))) := cv_int un_2 un_180
theorem cvi_3_2 {k : IntKind} {n : Int} {es : Option (List PV)} : convP Tryd.prog 3 2 false es (some (.int k n)) = some (.val (.int .i64 (IntKind.i64.wrap n))) := cv_int un_3 un_2
theorem cvi_3_3 {k : IntKind} {n : Int} {es : Option (List PV)} : convP Tryd.prog 3 3 false es (some (.int k n)) = some (.val (.int .i64 (IntKind.i64.wrap n))) := cv_int un_3 un_3
theorem cvi_3_5 {k : IntKind} {n : Int} {es : Option (List PV)} : convP Tryd.prog 3 5 false es (some (.int k n)) = some (.val (.int .u8 (IntKind.u8.wrap n))) := cv_int un_3 un_5
theorem cvi_3_12 {k : IntKind} {n : Int} {es : Option (List PV)} : convP Tryd.prog 3 12 false es (some (.int k n)) = some (.val (.int .u64 (IntKind.u64.wrap n))) := cv_int un_3 un_12
theorem cvi_3_21 {k : IntKind} {n : Int} {es : Option (List PV)} : convP Tryd.prog 3 21 false es (some (.int k n)) = some (.val (.int .i32 (IntKind.i32.wrap n))) := cv_int un_3 un_21
theorem cvi_3_127 {k : IntKind} {n : Int} {es : Option (List PV)} : convP Tryd.prog 3 127 false es (some (.int k n)) = some (.val (.int .u64 (IntKind.u64.wrap n))) := cv_int un_3 un_127
theorem cvi_3_143 {k : IntKind} {n : Int} {es : Option (List PV)} : convP Tryd.prog 3 143 false es (some (.int k n)) = some (.val (.int .i64 (IntKind.i64.wrap n))) := cv_int un_3 un_143
theorem cvi_3_152 {k : IntKind} {n : Int} {es : Option (List PV)} : convP Tryd.prog 3 152 false es (some (.int k n)) = some (.val (.int .u32 (IntKind.u32.wrap n))) := cv_int un_3 un_152
theorem cvi_3_154 {k : IntKind} {n : Int} {es : Option (List PV)} : convP Tryd.prog 3 154 false es (some (.int k n)) = some (.val (.int .u64 (IntKind.u64.wrap n))) := cv_int un_3 un_154
theorem cvi_3_180 {k : IntKind} {n : Int} {es : Option (List PV)} : convP Tryd.prog 3 180 false es (some (.int k n)) = some (.val (.int .u64 (IntKind.u64.wrap n))) := cv_int un_3 un_180
theorem cvi_5_2 {k : IntKind} {n : Int} {es : Option (List PV)} : convP Tryd.prog 5 2 false es (some (.int k n)) = some (.val (.int .i64 (IntKind.i64.wrap n))) := cv_int un_5 un_2
theorem cvi_5_3 {k : IntKind} {n : Int} {es : Option (List PV)} : convP Tryd.prog 5 3 false es (some (.int k n)) = some (.val (.int .i64 (IntKind.i64.wrap n))) := cv_int un_5 un_3
theorem cvi_5_5 {k : IntKind} {n : Int} {es : Option (List PV)} : convP Tryd.prog 5 5 false es (some (.int k n)) = some (.val (.int .u8 (IntKind.u8.wrap n))) := cv_int un_5 un_5
theorem cvi_5_12 {k : IntKind} {n : Int} {es : Option (List PV)} : convP Tryd.prog 5 12 false es (some (.int k n)) = some (.val (.int .u64 (IntKind.u64.wrap n))) := cv_int un_5 un_12
theorem cvi_5_21 {k : IntKind} {n : Int} {es : Option (List PV)} : convP Tryd.prog 5 21 false es (some (.int k n)) = some (.val (.int .i32 (IntKind.i32.wrap n))) := cv_int un_5 un_21
theorem cvi_5_127 {k : IntKind} {n : Int} {es : Option (List PV)} : convP Tryd.prog 5 127 false es (some (.int k n)) = some (.val (.int .u64 (IntKind.u64.wrap n))) := cv_int un_5 un_127
theorem cvi_5_143 {k : IntKind} {n : Int} {es : Option (List PV)} : convP Tryd.prog 5 143 false es (some (.int k n)) = some (.val (.int .i64 (IntKind.i64.wrap n))) := cv_int un_5 un_143
theorem cvi_5_152 {k : IntKind} {n : Int} {es : Option (List PV)} : convP Tryd.prog 5 152 false es (some (.int k n)) = some (.val (.int .u32 (IntKind.u32.wrap n))) := cv_int un_5 un_152
theorem cvi_5_154 {k : IntKind} {n : Int} {es : Option (List PV)} : convP Tryd.prog 5 154 false es (some (.int k n)) = some (.val (.int .u64 (IntKind.u64.wrap n))) := cv_int un_5 un_154
theorem cvi_5_180 {k : IntKind} {n : Int} {es : Option (List PV)} : convP Tryd.prog 5 180 false es (some (.int k n)) = some (.val (.int .u64 (IntKind.u64.wrap n))) := cv_int un_5 un_180
theorem cvi_12_2 {k : IntKind} {n : Int} {es : Option (List PV)} : convP Tryd.prog 12 2 false es (some (.int k n)) = some (.val (.int .i64 (IntKind.i64.wrap n))) := cv_int un_12 un_2
theorem cvi_12_3 {k : IntKind} {n : Int} {es : Option (List PV)} : convP Tryd.prog 12 3 false es (some (.int k n)) = some (.val (.int .i64 (IntKind.i64.wrap n))) := cv_int un_12 un_3
theorem cvi_12_5 {k : IntKind} {n : Int} {es : Option (List PV)} : convP Tryd.prog 12 5 false es (some (.int k n)) = some (.val (.int .u8 (IntKind.u8.wrap n))) := cv_int un_12 un_5
theorem cvi_12_12 {k : IntKind} {n : Int} {es : Option (List PV)} : convP Tryd.prog 12 12 false es (some (.int k n)) = some (.val (.int .u64 (IntKind.u64.wrap n))) := cv_int un_12 un_12
theorem cvi_12_21 {k : IntKind} {n : Int} {es : Option (List PV)} : convP Tryd.prog 12 21 false es (some (.int k n)) = some (.val (.int .i32 (IntKind.i32.wrap n))) := cv_int un_12 un_21
theorem cvi_12_127 {k : IntKind} {n : Int} {es : Option (List PV)} : convP Tryd.prog 12 127 false es (some (.int k n)) = some (.val (.int .u64 (IntKind.u64.wrap n))) := cv_int un_12 un_127
theorem cvi_12_143 {k : IntKind} {n : Int} {es : Option (List PV)} : convP Tryd.prog 12 143 false es (some (.int k n)) = some (.val (.int .i64 (IntKind.i64.wrap n))) := cv_int un_12 un_143
theorem cvi_12_152 {k : IntKind} {n : Int} {es : Option (List PV)} : convP Tryd.prog 12 152 false es (some (.int k n)) = some (.val (.int .u32 (IntKind.u32.wrap n))) := cv_int un_12 un_152
theorem cvi_12_154 {k : IntKind} {n : Int} {es : Option (List PV)} : convP Tryd.prog 12 154 false es (some (.int k n)) = some (.val (.int .u64 (IntKind.u64.wrap n))) := cv_int un_12 un_154
theorem cvi_12_180 {k : IntKind} {n : Int} {es : Option (List PV)} : convP Tryd.prog 12 180 false es (some (.int k n)) = some (.val (.int .u64 (IntKind.u64.wrap n))) := cv_int un_12 un_180
theorem cvi_21_2 {k : IntKind} {n : Int} {es : Option (List PV)} : convP Tryd.prog 21 2 false es (some (.int k n)) = some (.val (.int .i64 (IntKind.i64.wrap n))) := cv_int un_21 un_2
theorem cvi_21_3 {k : IntKind} {n : Int} {es : Option (List PV)} : convP Tryd.prog 21 3 false es (some (.int k n)) = some (.val (.int .i64 (IntKind.i64.wrap n))) := cv_int un_21 un_3
theorem cvi_21_5 {k : IntKind} {n : Int} {es : Option (List PV)} : convP Tryd.prog 21 5 false es (some (.int k n)) = some (.val (.int .u8 (IntKind.u8.wrap n))) := cv_int un_21 un_5
theorem cvi_21_12 {k : IntKind} {n : Int} {es : Option (List PV)} : convP Tryd.prog 21 12 false es (some (.int k n)) = some (.val (.int .u64 (IntKind.u64.wrap n))) := cv_int un_21 un_12
theorem cvi_21_21 {k : IntKind} {n : Int} {es : Option (List PV)} : convP Tryd.prog 21 21 false es (some (.int k n)) = some (.val (.int .i32 (IntKind.i32.wrap n))) := cv_int un_21 un_21
theorem cvi_21_127 {k : IntKind} {n : Int} {es : Option (List PV)} : convP Tryd.prog 21 127 false es (some (.int k n)) = some (.val (.int .u64 (IntKind.u64.wrap n))) := cv_int un_21 un_127
theorem cvi_21_143 {k : IntKind} {n : Int} {es : Option (List PV)} : convP Tryd.prog 21 143 false es (some (.int k n)) = some (.val (.int .i64 (IntKind.i64.wrap n))) := cv_int un_21 un_143
theorem cvi_21_152 {k : IntKind} {n : Int} {es : Option (List PV)} : convP Tryd.prog 21 152 false es (some (.int k n)) = some (.val (.int .u32 (IntKind.u32.wrap n))) := cv_int un_21 un_152
theorem cvi_21_154 {k : IntKind} {n : Int} {es : Option (List PV)} : convP Tryd.prog 21 154 false es (some (.int k n)) = some (.val (.int .u64 (IntKind.u64.wrap n))) := cv_int un_21 un_154
theorem cvi_21_180 {k : IntKind} {n : Int} {es : Option (List PV)} : convP Tryd.prog 21 180 false es (some (.int k n)) = some (.val (.int .u64 (IntKind.u64.wrap n))) := cv_int un_21 un_180
theorem cvi_127_2 {k : IntKind} {n : Int} {es : Option (List PV)} : convP Tryd.prog 127 2 false es (some (.int k n)) = some (.val (.int .i64 (IntKind.i64.wrap n))) := cv_int un_127 un_2
theorem cvi_127_3 {k : IntKind} {n : Int} {es : Option (List PV)} : convP Tryd.prog 127 3 false es (some (.int k n)) = some (.val (.int .i64 (IntKind.i64.wrap n))) := cv_int un_127 un_3
theorem cvi_127_5 {k : IntKind} {n : Int} {es : Option (List PV)} : convP Tryd.prog 127 5 false es (some (.int k n)) = some (.val (.int .u8 (IntKind.u8.wrap n))) := cv_int un_127 un_5
theorem cvi_127_12 {k : IntKind} {n : Int} {es : Option (List PV)} : convP Tryd.prog 127 12 false es (some (.int k n)) = some (.val (.int .u64 (IntKind.u64.wrap n))) := cv_int un_127 un_12
theorem cvi_127_21 {k : IntKind} {n : Int} {es : Option (List PV)} : convP Tryd.prog 127 21 false es (some (.int k n)) = some (.val (.int .i32 (IntKind.i32.wrap n))) := cv_int un_127 un_21
theorem cvi_127_127 {k : IntKind} {n : Int} {es : Option (List PV)} : convP Tryd.prog 127 127 false es (some (.int k n)) = some (.val (.int .u64 (IntKind.u64.wrap n))) := cv_int un_127 un_127
theorem cvi_127_143 {k : IntKind} {n : Int} {es : Option (List PV)} : convP Tryd.prog 127 143 false es (some (.int k n)) = some (.val (.int .i64 (IntKind.i64.wrap n))) := cv_int un_127 un_143
theorem cvi_127_152 {k : IntKind} {n : Int} {es : Option (List PV)} : convP Tryd.prog 127 152 false es (some (.int k n)) = some (.val (.int .u32 (IntKind.u32.wrap n))) := cv_int un_127 un_152
theorem cvi_127_154 {k : IntKind} {n : Int} {es : Option (List PV)} : convP Tryd.prog 127 154 false es (some (.int k n)) = some (.val (.int .u64 (IntKind.u64.wrap n))) := cv_int un_127 un_154
theorem cvi_127_180 {k : IntKind} {n : Int} {es : Option (List PV)} : convP Tryd.prog 127 180 false es (some (.int k n)) = some (.val (.int .u64 (IntKind.u64.wrap n))) := cv_int un_127 un_180
theorem cvi_143_2 {k : IntKind} {n : Int} {es : Option (List PV)} : convP Tryd.prog 143 2 false es (some (.int k n)) = some (.val (.int .i64 (IntKind.i64.wrap n))) := cv_int un_143 un_2
theorem cvi_143_3 {k : IntKind} {n : Int} {es : Option (List PV)} : convP Tryd.prog 143 3 false es (some (.int k n)) = some (.val (.int .i64 (IntKind.i64.wrap n))) := cv_int un_143 un_3
theorem cvi_143_5 {k : IntKind} {n : Int} {es : Option (List PV)} : convP Tryd.prog 143 5 false es (some (.int k n)) = some (.val (.int .u8 (IntKind.u8.wrap n))) := cv_int un_143 un_5
theorem cvi_143_12 {k : IntKind} {n : Int} {es : Option (List PV)} : convP Tryd.prog 143 12 false es (some (.int k n)) = some (.val (.int .u64 (IntKind.u64.wrap n))) := cv_int un_143 un_12
theorem cvi_143_21 {k : IntKind} {n : Int} {es : Option (List PV)} : convP Tryd.prog 143 21 false es (some (.int k n)) = some (.val (.int .i32 (IntKind.i32.wrap n))) := cv_int un_143 un_21
theorem cvi_143_127 {k : IntKind} {n : Int} {es : Option (List PV)} : convP Tryd.prog 143 127 false es (some (.int k n)) = some (.val (.int .u64 (IntKind.u64.wrap n))) := cv_int un_143 un_127
theorem cvi_143_143 {k : IntKind} {n : Int} {es : Option (List PV)} : convP Tryd.prog 143 143 false es (some (.int k n)) = some (.val (.int .i64 (IntKind.i64.wrap n))) := cv_int un_143 un_143
theorem cvi_143_152 {k : IntKind} {n : Int} {es : Option (List PV)} : convP Tryd.prog 143 152 false es (some (.int k n)) = some (.val (.int .u32 (IntKind.u32.wrap n))) := cv_int un_143 un_152
theorem cvi_143_154 {k : IntKind} {n : Int} {es : Option (List PV)} : convP Tryd.prog 143 154 false es (some (.int k n)) = some (.val (.int .u64 (IntKind.u64.wrap n))) := cv_int un_143 un_154
theorem cvi_143_180 {k : IntKind} {n : Int} {es : Option (List PV)} : convP Tryd.prog 143 180 false es (some (.int k n)) = some (.val (.int .u64 (IntKind.u64.wrap n))) := cv_int un_143 un_180
theorem cvi_152_2 {k : IntKind} {n : Int} {es : Option (List PV)} : convP Tryd.prog 152 2 false es (some (.int k n)) = some (.val (.int .i64 (IntKind.i64.wrap n))) := cv_int un_152 un_2
theorem cvi_152_3 {k : IntKind} {n : Int} {es : Option (List PV)} : convP Tryd.prog 152 3 false es (some (.int k n)) = some (.val (.int .i64 (IntKind.i64.wrap n))) := cv_int un_152 un_3
theorem cvi_152_5 {k : IntKind} {n : Int} {es : Option (List PV)} : convP Tryd.prog 152 5 false es (some (.int k n)) = some (.val (.int .u8 (IntKind.u8.wrap n))) := cv_int un_152 un_5
theorem cvi_152_12 {k : IntKind} {n : Int} {es : Option (List PV)} : convP Tryd.prog 152 12 false es (some (.int k n)) = some (.val (.int .u64 (IntKind.u64.wrap n))) := cv_int un_152 un_12
theorem cvi_152_21 {k : IntKind} {n : Int} {es : Option (List PV)} : convP Tryd.prog 152 21 false es (some (.int k n)) = some (.val (.int .i32 (IntKind.i32.wrap n))) := cv_int un_152 un_21
theorem cvi_152_127 {k : IntKind} {n : Int} {es : Option (List PV)} : convP Tryd.prog 152 127 false es (some (.int k n)) = some (.val (.int .u64 (IntKind.u64.wrap n))) := cv_int un_152 un_127
theorem cvi_152_143 {k : IntKind} {n : Int} {es : Option (List PV)} : convP Tryd.prog 152 143 false es (some (.int k n)) = some (.val (.int .i64 (IntKind.i64.wrap n))) := cv_int un_152 un_143
theorem cvi_152_152 {k : IntKind} {n : Int} {es : Option (List PV)} : convP Tryd.prog 152 152 false es (some (.int k n)) = some (.val (.int .u32 (IntKind.u32.wrap n))) := cv_int un_152 un_152
theorem cvi_152_154 {k : IntKind} {n : Int} {es : Option (List PV)} : convP Tryd.prog 152 154 false es (some (.int k n)) = some (.val (.int .u64 (IntKind.u64.wrap n))) := cv_int un_152 un_154
theorem cvi_152_180 {k : IntKind} {n : Int} {es : Option (List PV)} : convP Tryd.prog 152 180 false es (some (.int k n)) = some (.val (.int .u64 (IntKind.u64.wrap n))) := cv_int un_152 un_180
theorem cvi_154_2 {k : IntKind} {n : Int} {es : Option (List PV)} : convP Tryd.prog 154 2 false es (some (.int k n)) = some (.val (.int .i64 (IntKind.i64.wrap n))) := cv_int un_154 un_2
theorem cvi_154_3 {k : IntKind} {n : Int} {es : Option (List PV)} : convP Tryd.prog 154 3 false es (some (.int k n)) = some (.val (.int .i64 (IntKind.i64.wrap n))) := cv_int un_154 un_3
theorem cvi_154_5 {k : IntKind} {n : Int} {es : Option (List PV)} : convP Tryd.prog 154 5 false es (some (.int k n)) = some (.val (.int .u8 (IntKind.u8.wrap n))) := cv_int un_154 un_5
theorem cvi_154_12 {k : IntKind} {n : Int} {es : Option (List PV)} : convP Tryd.prog 154 12 false es (some (.int k n)) = some (.val (.int .u64 (IntKind.u64.wrap n))) := cv_int un_154 un_12
theorem cvi_154_21 {k : IntKind} {n : Int} {es : Option (List PV)} : convP Tryd.prog 154 21 false es (some (.int k n)) = some (.val (.int .i32 (IntKind.i32.wrap n))) := cv_int un_154 un_21
theorem cvi_154_127 {k : IntKind} {n : Int} {es : Option (List PV)} : convP Tryd.prog 154 127 false es (some (.int k n)) = some (.val (.int .u64 (IntKind.u64.wrap n))) := cv_int un_154 un_127
theorem cvi_154_143 {k : IntKind} {n : Int} {es : Option (List PV)} : convP Tryd.prog 154 143 false es (some (.int k n)) = some (.val (.int .i64 (IntKind.i64.wrap n))) := cv_int un_154 un_143
theorem cvi_154_152 {k : IntKind} {n : Int} {es : Option (List PV)} : convP Tryd.prog 154 152 false es (some (.int k n)) = some (.val (.int .u32 (IntKind.u32.wrap n))) := cv_int un_154 un_152
theorem cvi_154_154 {k : IntKind} {n : Int} {es : Option (List PV)} : convP Tryd.prog 154 154 false es (some (.int k n)) = some (.val (.int .u64 (IntKind.u64.wrap n))) := cv_int un_154 un_154
theorem cvi_154_180 {k : IntKind} {n : Int} {es : Option (List PV)} : convP Tryd.prog 154 180 false es (some (.int k n)) = some (.val (.int .u64 (IntKind.u64.wrap n))) := cv_int un_154 un_180
theorem cvi_180_2 {k : IntKind} {n : Int} {es : Option (List PV)} : convP Tryd.prog 180 2 false es (some (.int k n)) = some (.val (.int .i64 (IntKind.i64.wrap n))) := cv_int un_180 un_2
theorem cvi_180_3 {k : IntKind} {n : Int} {es : Option (List PV)} : convP Tryd.prog 180 3 false es (some (.int k n)) = some (.val (.int .i64 (IntKind.i64.wrap n))) := cv_int un_180 un_3
theorem cvi_180_5 {k : IntKind} {n : Int} {es : Option (List PV)} : convP Tryd.prog 180 5 false es (some (.int k n)) = some (.val (.int .u8 (IntKind.u8.wrap n))) := cv_int un_180 un_5
theorem cvi_180_12 {k : IntKind} {n : Int} {es : Option (List PV)} : convP Tryd.prog 180 12 false es (some (.int k n)) = some (.val (.int .u64 (IntKind.u64.wrap n))) := cv_int un_180 un_12
theorem cvi_180_21 {k : IntKind} {n : Int} {es : Option (List PV)} : convP Tryd.prog 180 21 false es (some (.int k n)) = some (.val (.int .i32 (IntKind.i32.wrap n))) := cv_int un_180 un_21
theorem cvi_180_127 {k : IntKind} {n : Int} {es : Option (List PV)} : convP Tryd.prog 180 127 false es (some (.int k n)) = some (.val (.int .u64 (IntKind.u64.wrap n))) := cv_int un_180 un_127
theorem cvi_180_143 {k : IntKind} {n : Int} {es : Option (List PV)} : convP Tryd.prog 180 143 false es (some (.int k n)) = some (.val (.int .i64 (IntKind.i64.wrap n))) := cv_int un_180 un_143
theorem cvi_180_152 {k : IntKind} {n : Int} {es : Option (List PV)} : convP Tryd.prog 180 152 false es (some (.int k n)) = some (.val (.int .u32 (IntKind.u32.wrap n))) := cv_int un_180 un_152
theorem cvi_180_154 {k : IntKind} {n : Int} {es : Option (List PV)} : convP Tryd.prog 180 154 false es (some (.int k n)) = some (.val (.int .u64 (IntKind.u64.wrap n))) := cv_int un_180 un_154
theorem cvi_180_180 {k : IntKind} {n : Int} {es : Option (List PV)} : convP Tryd.prog 180 180 false es (some (.int k n)) = some (.val (.int .u64 (IntKind.u64.wrap n))) := cv_int un_180 un_180
theorem rw_22_0 : rowEs Tryd.prog 22 0 [] = rowC 9 1 [] (true) := rw_of el_22 sz_9 ze_9 _ (by decide) (by decide) rfl
theorem rw_22_1 {a0 : PV} : rowEs Tryd.prog 22 1 [(0, a0)] = rowC 9 1 [a0] (okP 1 a0 && (true)) := rw_of el_22 sz_9 ze_9 _ (by decide) (by decide) rfl
theorem rw_22_4 {a0 a1 a2 a3 : PV} : rowEs Tryd.prog 22 4 [(0, a0), (1, a1), (2, a2), (3, a3)] = rowC 9 1 [a0, a1, a2, a3] (okP 1 a0 && (okP 1 a1 && (okP 1 a2 && (okP 1 a3 && (true))))) := rw_of el_22 sz_9 ze_9 _ (by decide) (by decide) rfl
theorem rw_22_5 {a0 a1 a2 a3 a4 : PV} : rowEs Tryd.prog 22 5 [(0, a0), (1, a1), (2, a2), (3, a3), (4, a4)] = rowC 9 1 [a0, a1, a2, a3, a4] (okP 1 a0 && (okP 1 a1 && (okP 1 a2 && (okP 1 a3 && (okP 1 a4 && (true)))))) := rw_of el_22 sz_9 ze_9 _ (by decide) (by decide) rfl
theorem rw_22_14 {a0 a1 a2 a3 a4 a5 a6 a7 a8 a9 a10 a11 a12 a13 : PV} : rowEs Tryd.prog 22 14 [(0, a0), (1, a1), (2, a2), (3, a3), (4, a4), (5, a5), (6, a6), (7, a7), (8, a8), (9, a9), (10, a10), (11, a11), (12, a12), (13, a13)] = rowC 9 1 [a0, a1, a2, a3, a4, a5, a6, a7, a8, a9, a10, a11, a12, a13] (okP 1 a0 && (okP 1 a1 && (okP 1 a2 && (okP 1 a3 && (okP 1 a4 && (okP 1 a5 && (okP 1 a6 && (okP 1 a7 && (okP 1 a8 && (okP 1 a9 && (okP 1 a10 && (okP 1 a11 && (okP 1 a12 && (okP 1 a13 && (true))))))))))))))) := rw_of el_22 sz_9 ze_9 _ (by decide) (by decide) rfl
theorem rw_24_0 : rowEs Tryd.prog 24 0 [] = rowC 5 1 [] (true) := rw_of el_24 sz_5 ze_5 _ (by decide) (by decide) rfl
theorem rw_24_1 {a0 : PV} : rowEs Tryd.prog 24 1 [(0, a0)] = rowC 5 1 [a0] (okP 1 a0 && (true)) := rw_of el_24 sz_5 ze_5 _ (by decide) (by decide) rfl
theorem rw_40_0 : rowEs Tryd.prog 40 0 [] = rowC 3 1 [] (true) := rw_of el_40 sz_3 ze_3 _ (by decide) (by decide) rfl
theorem rw_40_1 {a0 : PV} : rowEs Tryd.prog 40 1 [(0, a0)] = rowC 3 1 [a0] (okP 1 a0 && (true)) := rw_of el_40 sz_3 ze_3 _ (by decide) (by decide) rfl
theorem rw_40_3 {a0 a1 a2 : PV} : rowEs Tryd.prog 40 3 [(0, a0), (1, a1), (2, a2)] = rowC 3 1 [a0, a1, a2] (okP 1 a0 && (okP 1 a1 && (okP 1 a2 && (true)))) := rw_of el_40 sz_3 ze_3 _ (by decide) (by decide) rfl
theorem rw_40_4 {a0 a1 a2 a3 : PV} : rowEs Tryd.prog 40 4 [(0, a0), (1, a1), (2, a2), (3, a3)] = rowC 3 1 [a0, a1, a2, a3] (okP 1 a0 && (okP 1 a1 && (okP 1 a2 && (okP 1 a3 && (true))))) := rw_of el_40 sz_3 ze_3 _ (by decide) (by decide) rfl
theorem rw_40_5 {a0 a1 a2 a3 a4 : PV} : rowEs Tryd.prog 40 5 [(0, a0), (1, a1), (2, a2), (3, a3), (4, a4)] = rowC 3 1 [a0, a1, a2, a3, a4] (okP 1 a0 && (okP 1 a1 && (okP 1 a2 && (okP 1 a3 && (okP 1 a4 && (true)))))) := rw_of el_40 sz_3 ze_3 _ (by decide) (by decide) rfl
theorem rw_40_6 {a0 a1 a2 a3 a4 a5 : PV} : rowEs Tryd.prog 40 6 [(0, a0), (1, a1), (2, a2), (3, a3), (4, a4), (5, a5)] = rowC 3 1 [a0, a1, a2, a3, a4, a5] (okP 1 a0 && (okP 1 a1 && (okP 1 a2 && (okP 1 a3 && (okP 1 a4 && (okP 1 a5 && (true))))))) := rw_of el_40 sz_3 ze_3 _ (by decide) (by decide) rfl
theorem rw_54_0 : rowEs Tryd.prog 54 0 [] = rowC 61 2 [] (true) := rw_of el_54 sz_61 ze_61 _ (by decide) (by decide) rfl
theorem rw_54_1 {a0 : PV} : rowEs Tryd.prog 54 1 [(0, a0)] = rowC 61 2 [a0] (okP 2 a0 && (true)) := rw_of el_54 sz_61 ze_61 _ (by decide) (by decide) rfl
theorem rw_54_3 {a0 a1 a2 : PV} : rowEs Tryd.prog 54 3 [(0, a0), (1, a1), (2, a2)] = rowC 61 2 [a0, a1, a2] (okP 2 a0 && (okP 2 a1 && (okP 2 a2 && (true)))) := rw_of el_54 sz_61 ze_61 _ (by decide) (by decide) rfl
theorem rw_78_1 {a0 : PV} : rowEs Tryd.prog 78 1 [(0, a0)] = rowC 80 2 [a0] (okP 2 a0 && (true)) := rw_of el_78 sz_80 ze_80 _ (by decide) (by decide) rfl
theorem mixed : Tryd.prog.follows .mixedOrders = true := by kernel_rfl
attribute [push_cast high]
  bz_7 bz_13 bz_25 bz_26 bz_60 bz_61 bz_73 bz_74 bz_90 bz_101 bz_102 bz_202 bz_203 bz_208 bz_209
attribute [push_cast]
  sz_2 ag_2 by_2 ze_2 un_2 oz_2 ea_2 bs_2 is_2 sz_3 ag_3 by_3 ze_3 un_3 oz_3 ea_3 bs_3 is_3 sz_4 ag_4 by_4 ze_4 un_4 bqe_4 bqn_4 oz_4 ea_4 bs_4 is_4 sz_5 ag_5 by_5 ze_5 un_5 oz_5 ea_5 bs_5 is_5 sz_7 ag_7 by_7 ze_7 fo_7_0 fo_7_1 fo_7_2 fo_7_3 pl_7 bl_7 oz_7 ea_7 bs_7 is_7 sz_9 ag_9 by_9 ze_9 un_9 lps_9 ixs_9 oz_9 ea_9 bs_9 is_9 sz_12 ag_12 by_12 ze_12 un_12 oz_12 ea_12 bs_12 is_12 sz_13 ag_13 by_13 ze_13 fo_13_0 fo_13_1 pl_13 bl_13 oz_13 ea_13 bs_13 is_13 sz_21 ag_21 by_21 ze_21 un_21 oz_21 ea_21 bs_21 is_21 sz_25 ag_25 by_25 ze_25 fo_25_0 fo_25_1 pl_25 bl_25 oz_25 ea_25 bs_25 is_25 sz_26 ag_26 by_26 ze_26 fo_26_0 fo_26_1 pl_26 bl_26 oz_26 ea_26 bs_26 is_26 sz_60 ag_60 by_60 ze_60 fo_60_0 fo_60_1 pl_60 bl_60 oz_60 ea_60 bs_60 is_60 sz_61 ag_61 by_61 ze_61 fo_61_0 fo_61_1 pl_61 bl_61 oz_61 ea_61 sqeql_61 sqneq_61 bs_61 is_61 sz_73 ag_73 by_73 ze_73 fo_73_0 fo_73_1 fo_73_2 fo_73_3 pl_73 bl_73 oz_73 ea_73 bs_73 is_73 sz_74 ag_74 by_74 ze_74 fo_74_0 fo_74_1 fo_74_2 fo_74_3 pl_74 bl_74 oz_74 ea_74 sqeql_74 sqneq_74 bs_74 is_74 sz_80 ag_80 by_80 ze_80 un_80 ixa_80 ixp_80 bl_80 oz_80 ea_80 bs_80 is_80 sz_90 ag_90 by_90 ze_90 fo_90_0 fo_90_1 pl_90 bl_90 oz_90 ea_90 sqeql_90 sqneq_90 bs_90 is_90 sz_101 ag_101 by_101 ze_101 fo_101_0 fo_101_1 pl_101 bl_101 oz_101 ea_101 bs_101 is_101 sz_102 ag_102 by_102 ze_102 fo_102_0 fo_102_1 pl_102 bl_102 oz_102 ea_102 bs_102 is_102 sz_127 ag_127 by_127 ze_127 un_127 oz_127 ea_127 bs_127 is_127 sz_143 ag_143 by_143 ze_143 un_143 oz_143 ea_143 bs_143 is_143 sz_152 ag_152 by_152 ze_152 un_152 oz_152 ea_152 bs_152 is_152 sz_154 ag_154 by_154 ze_154 un_154 oz_154 ea_154 bs_154 is_154 sz_165 ag_165 by_165 ze_165 un_165 oz_165 ea_165 bs_165 is_165 sz_180 ag_180 by_180 ze_180 un_180 oz_180 ea_180 bs_180 is_180 sz_189 ag_189 by_189 ze_189 un_189 oz_189 ea_189 bs_189 is_189 sz_202 ag_202 by_202 ze_202 fo_202_0 fo_202_1 pl_202 bl_202 oz_202 ea_202 bs_202 is_202 sz_203 ag_203 by_203 ze_203 fo_203_0 fo_203_1 pl_203 bl_203 oz_203 ea_203 bs_203 is_203 sz_204 ag_204 by_204 ze_204 un_204 oz_204 ea_204 bs_204 is_204 sz_208 ag_208 by_208 ze_208 fo_208_0 pl_208 bl_208 oz_208 ea_208 bs_208 is_208 sz_209 ag_209 by_209 ze_209 fo_209_0 pl_209 bl_209 oz_209 ea_209 bs_209 is_209 sz_210 ag_210 by_210 ze_210 un_210 oz_210 ea_210 bs_210 is_210 sz_211 ag_211 by_211 ze_211 un_211 oz_211 ea_211 bs_211 is_211 sz_22 ag_22 by_22 ze_22 un_22 el_22 ix_22 ixr_22 sl_22 slr_22 sle_22 lpl_22 lpr_22 lpn_22 oz_22 ea_22 em_22 eap_22 ecp_22 bs_22 is_22 sz_24 ag_24 by_24 ze_24 un_24 el_24 ix_24 ixr_24 sl_24 slr_24 sle_24 lpl_24 lpr_24 lpn_24 oz_24 ea_24 em_24 eap_24 ecp_24 bs_24 is_24 sz_40 ag_40 by_40 ze_40 un_40 el_40 ix_40 ixr_40 sl_40 slr_40 sle_40 lpl_40 lpr_40 lpn_40 oz_40 ea_40 em_40 eap_40 ecp_40 bs_40 is_40 sz_51 ag_51 by_51 ze_51 un_51 el_51 ix_51 ixr_51 sl_51 slr_51 sle_51 lpl_51 lpr_51 lpn_51 oz_51 ea_51 em_51 eap_51 ecp_51 bs_51 is_51 sz_54 ag_54 by_54 ze_54 un_54 el_54 ix_54 ixr_54 sl_54 slr_54 sle_54 lpl_54 lpr_54 lpn_54 oz_54 ea_54 em_54 eap_54 ecp_54 bs_54 is_54 sz_78 ag_78 by_78 ze_78 un_78 el_78 ix_78 ixr_78 sl_78 slr_78 sle_78 lpl_78 lpr_78 lpn_78 oz_78 ea_78 em_78 eap_78 ecp_78 bs_78 is_78 cvi_2_2 cvi_2_3 cvi_2_5 cvi_2_12 cvi_2_21 cvi_2_127 cvi_2_143 cvi_2_152 cvi_2_154 cvi_2_180 cvi_3_2 cvi_3_3 cvi_3_5 cvi_3_12 cvi_3_21 cvi_3_127 cvi_3_143 cvi_3_152 cvi_3_154 cvi_3_180 cvi_5_2 cvi_5_3 cvi_5_5 cvi_5_12 cvi_5_21 cvi_5_127 cvi_5_143 cvi_5_152 cvi_5_154 cvi_5_180 cvi_12_2 cvi_12_3 cvi_12_5 cvi_12_12 cvi_12_21 cvi_12_127 cvi_12_143 cvi_12_152 cvi_12_154 cvi_12_180 cvi_21_2 cvi_21_3 cvi_21_5 cvi_21_12 cvi_21_21 cvi_21_127 cvi_21_143 cvi_21_152 cvi_21_154 cvi_21_180 cvi_127_2 cvi_127_3 cvi_127_5 cvi_127_12 cvi_127_21 cvi_127_127 cvi_127_143 cvi_127_152 cvi_127_154 cvi_127_180 cvi_143_2 cvi_143_3 cvi_143_5 cvi_143_12 cvi_143_21 cvi_143_127 cvi_143_143 cvi_143_152 cvi_143_154 cvi_143_180 cvi_152_2 cvi_152_3 cvi_152_5 cvi_152_12 cvi_152_21 cvi_152_127 cvi_152_143 cvi_152_152 cvi_152_154 cvi_152_180 cvi_154_2 cvi_154_3 cvi_154_5 cvi_154_12 cvi_154_21 cvi_154_127 cvi_154_143 cvi_154_152 cvi_154_154 cvi_154_180 cvi_180_2 cvi_180_3 cvi_180_5 cvi_180_12 cvi_180_21 cvi_180_127 cvi_180_143 cvi_180_152 cvi_180_154 cvi_180_180 rw_22_0 rw_22_1 rw_22_4 rw_22_5 rw_22_14 rw_24_0 rw_24_1 rw_40_0 rw_40_1 rw_40_3 rw_40_4 rw_40_5 rw_40_6 rw_54_0 rw_54_1 rw_54_3 rw_78_1
end Go.Proofs.YtpggpdbipajchaaDoor
namespace Go.Proofs
open Go.Shelf
def YtpggpdbipajchaaDoor.lays156_ren : Go.Shelf.Ren := ⟨fun | 156 => 69 | 165 => 95 | 166 => 96 | 169 => 97 | 240 => 115 | 241 => 116 | 276 => 154 | 277 => 109 | n => n, fun | 31 => 22 | 9 => 9 | 3 => 3 | 4 => 4 | 0 => 0 | 20 => 20 | 72 => 113 | 76 => 117 | 70 => 111 | 37 => 24 | 75 => 116 | 127 => 137 | 164 => 170 | 5 => 5 | 80 => 119 | n => n, fun | n => n⟩
theorem YtpggpdbipajchaaDoor.lays156 : Go.Proofs.Lays.n156 Tryd.prog YtpggpdbipajchaaDoor.lays156_ren := {
  mixed := by kernel_rfl
  f156 := Tryd.func69.trans (congrArg some (by kernel_rfl))
  f165 := Tryd.func95.trans (congrArg some (by kernel_rfl))
  f166 := Tryd.func96.trans (congrArg some (by kernel_rfl))
  f169 := Tryd.func97.trans (congrArg some (by kernel_rfl))
  f240 := Tryd.func115.trans (congrArg some (by kernel_rfl))
  f241 := Tryd.func116.trans (congrArg some (by kernel_rfl))
  f276 := Tryd.func154.trans (congrArg some (by kernel_rfl))
  f277 := Tryd.func109.trans (congrArg some (by kernel_rfl))
  t0 := Tryd.underlying0
  a0 := Tryd.isAgg0
  z0 := Tryd.sizeOf0
  v0 := Tryd.zeroValue0
  t3 := Tryd.underlying3
  a3 := Tryd.isAgg3
  z3 := Tryd.sizeOf3
  v3 := Tryd.zeroValue3
  t4 := Tryd.underlying4
  a4 := Tryd.isAgg4
  z4 := Tryd.sizeOf4
  v4 := Tryd.zeroValue4
  t9 := Tryd.underlying9
  a9 := Tryd.isAgg9
  z9 := Tryd.sizeOf9
  v9 := Tryd.zeroValue9
  t20 := Tryd.underlying20
  a20 := Tryd.isAgg20
  z20 := Tryd.sizeOf20
  v20 := Tryd.zeroValue20
  t31 := Tryd.underlying22
  a31 := Tryd.isAgg22
  z31 := Tryd.sizeOf22
  v31 := Tryd.zeroValue22
  t37 := Tryd.underlying24
  a37 := Tryd.isAgg24
  z37 := Tryd.sizeOf24
  v37 := Tryd.zeroValue24
  t70 := Tryd.underlying111
  a70 := Tryd.isAgg111
  z70 := Tryd.sizeOf111
  v70 := Tryd.zeroValue111
  t72 := Tryd.underlying113
  a72 := Tryd.isAgg113
  z72 := Tryd.sizeOf113
  v72 := Tryd.zeroValue113
  t75 := Tryd.underlying116
  a75 := Tryd.isAgg116
  z75 := Tryd.sizeOf116
  v75 := Tryd.zeroValue116
  t76 := Tryd.underlying117
  a76 := Tryd.isAgg117
  z76 := Tryd.sizeOf117
  v76 := Tryd.zeroValue117
  t127 := Tryd.underlying137
  a127 := Tryd.isAgg137
  z127 := Tryd.sizeOf137
  v127 := Tryd.zeroValue137
  t164 := Tryd.underlying170
  a164 := Tryd.isAgg170
  z164 := Tryd.sizeOf170
  v164 := Tryd.zeroValue170 }
theorem YtpggpdbipajchaaDoor.Builder_Extra_156 : Builder.Extra Tryd.prog YtpggpdbipajchaaDoor.lays156_ren := {
  sizeBuilder := by kernel_rfl
  liesBuilder := by kernel_rfl
  t5 := Tryd.underlying5
  a5 := Tryd.isAgg5
  z5 := Tryd.sizeOf5
  v5 := Tryd.zeroValue5
  infoByte := by kernel_rfl
  cellsByte := by kernel_rfl
  sizeByte := by kernel_rfl
  neB5 := by decide }
open Go.RowKit in
theorem YtpggpdbipajchaaDoor.strings_Join_none (a : Option Addr) (c : Nat) (sep : ByteArray) (w : World) :
    Calls Tryd.prog 69 #[.slice a 0 c, .string sep] w fun e w' => e = .returned (.string ⟨#[]⟩) ∧ w' = w := Any.strings_Join_none YtpggpdbipajchaaDoor.lays156 YtpggpdbipajchaaDoor.Builder_Extra_156 a c sep w
open Go.RowKit in
theorem YtpggpdbipajchaaDoor.strings_Join (bk o c : Nat) (xs : List ByteArray) (sep : ByteArray) (w : World) (hcells : ∀ (j : Nat) x, xs[j]? = some x → w.cell? ⟨bk, o + j, none⟩ = some (.string x)) (hbk : bk < w.heap.size) (hN : xs.length ≤ 140737488355328) (hcap : xs.length ≤ c) (hlen : (Lib.join (xs.map (·.data.toList)) sep.data.toList).length ≤ 140737488355328) :
    Calls Tryd.prog 69 #[.slice (some ⟨bk, o, none⟩) xs.length c, .string sep] w fun e w' => e = .returned (.string ⟨(Lib.join (xs.map (·.data.toList)) sep.data.toList).toArray⟩) ∧ Below w.heap.size w w' := Any.strings_Join YtpggpdbipajchaaDoor.lays156 YtpggpdbipajchaaDoor.Builder_Extra_156 bk o c xs sep w hcells hbk hN hcap hlen
def YtpggpdbipajchaaDoor.laysM171_ren : Go.Shelf.Ren := ⟨fun | 171 => 55 | 243 => 89 | 246 => 111 | 283 => 147 | 284 => 148 | 285 => 149 | 286 => 150 | 129 => 135 | 317 => 173 | 318 => 174 | 319 => 175 | 320 => 176 | 337 => 189 | 338 => 190 | n => n, fun | 3 => 3 | 9 => 9 | 2 => 2 | 4 => 4 | 171 => 165 | 0 => 0 | 53 => 154 | 37 => 24 | 5 => 5 | 173 => 167 | 212 => 189 | 51 => 152 | 20 => 20 | 213 => 190 | 46 => 127 | 232 => 210 | 233 => 211 | n => n, fun | 17 => 1 | 18 => 6 | 19 => 7 | n => n⟩
theorem YtpggpdbipajchaaDoor.laysM171 : Go.Proofs.LaysM.n171 Tryd.prog YtpggpdbipajchaaDoor.laysM171_ren := {
  mixed := by kernel_rfl
  f129 := Tryd.func135.trans (congrArg some (by kernel_rfl))
  f171 := Tryd.func55.trans (congrArg some (by kernel_rfl))
  f243 := Tryd.func89.trans (congrArg some (by kernel_rfl))
  f246 := Tryd.func111.trans (congrArg some (by kernel_rfl))
  f283 := Tryd.func147.trans (congrArg some (by kernel_rfl))
  f284 := Tryd.func148.trans (congrArg some (by kernel_rfl))
  f285 := Tryd.func149.trans (congrArg some (by kernel_rfl))
  f286 := Tryd.func150.trans (congrArg some (by kernel_rfl))
  f317 := Tryd.func173.trans (congrArg some (by kernel_rfl))
  f318 := Tryd.func174.trans (congrArg some (by kernel_rfl))
  f319 := Tryd.func175.trans (congrArg some (by kernel_rfl))
  f320 := Tryd.func176.trans (congrArg some (by kernel_rfl))
  f337 := Tryd.func189.trans (congrArg some (by kernel_rfl))
  f338 := Tryd.func190.trans (congrArg some (by kernel_rfl))
  t0 := Tryd.underlying0
  a0 := Tryd.isAgg0
  z0 := Tryd.sizeOf0
  v0 := Tryd.zeroValue0
  t2 := Tryd.underlying2
  a2 := Tryd.isAgg2
  z2 := Tryd.sizeOf2
  v2 := Tryd.zeroValue2
  t3 := Tryd.underlying3
  a3 := Tryd.isAgg3
  z3 := Tryd.sizeOf3
  v3 := Tryd.zeroValue3
  t4 := Tryd.underlying4
  a4 := Tryd.isAgg4
  z4 := Tryd.sizeOf4
  v4 := Tryd.zeroValue4
  t5 := Tryd.underlying5
  a5 := Tryd.isAgg5
  z5 := Tryd.sizeOf5
  v5 := Tryd.zeroValue5
  t9 := Tryd.underlying9
  a9 := Tryd.isAgg9
  z9 := Tryd.sizeOf9
  v9 := Tryd.zeroValue9
  t20 := Tryd.underlying20
  a20 := Tryd.isAgg20
  z20 := Tryd.sizeOf20
  v20 := Tryd.zeroValue20
  t37 := Tryd.underlying24
  a37 := Tryd.isAgg24
  z37 := Tryd.sizeOf24
  v37 := Tryd.zeroValue24
  t46 := Tryd.underlying127
  a46 := Tryd.isAgg127
  z46 := Tryd.sizeOf127
  v46 := Tryd.zeroValue127
  t51 := Tryd.underlying152
  a51 := Tryd.isAgg152
  z51 := Tryd.sizeOf152
  v51 := Tryd.zeroValue152
  t53 := Tryd.underlying154
  a53 := Tryd.isAgg154
  z53 := Tryd.sizeOf154
  v53 := Tryd.zeroValue154
  t171 := Tryd.underlying165
  a171 := Tryd.isAgg165
  z171 := Tryd.sizeOf165
  v171 := Tryd.zeroValue165
  t173 := Tryd.underlying167
  a173 := Tryd.isAgg167
  z173 := Tryd.sizeOf167
  v173 := Tryd.zeroValue167
  t212 := Tryd.underlying189
  a212 := Tryd.isAgg189
  z212 := Tryd.sizeOf189
  v212 := Tryd.zeroValue189
  t213 := Tryd.underlying190
  a213 := Tryd.isAgg190
  z213 := Tryd.sizeOf190
  t232 := Tryd.underlying210
  a232 := Tryd.isAgg210
  z232 := Tryd.sizeOf210
  v232 := Tryd.zeroValue210
  t233 := Tryd.underlying211
  a233 := Tryd.isAgg211
  z233 := Tryd.sizeOf211
  v233 := Tryd.zeroValue211
  g17 := by kernel_rfl
  g18 := by kernel_rfl
  g19 := by kernel_rfl
  i0 := by kernel_rfl
  i2 := by kernel_rfl
  i3 := by kernel_rfl
  i4 := by kernel_rfl
  i5 := by kernel_rfl
  i9 := by kernel_rfl
  i20 := by kernel_rfl
  i37 := by kernel_rfl
  i46 := by kernel_rfl
  i51 := by kernel_rfl
  i53 := by kernel_rfl
  i171 := by kernel_rfl
  i173 := by kernel_rfl
  i212 := by kernel_rfl
  i232 := by kernel_rfl
  i233 := by kernel_rfl
  m17 := by kernel_rfl
  m18 := by kernel_rfl
  m19 := by kernel_rfl }
open Go.RowKit Go.Sort Go.Lib in
theorem YtpggpdbipajchaaDoor.strconv_Itoa (n : Int) (h0 : -9223372036854775808 ≤ n) (h1 : n ≤ 9223372036854775807) (w : World) (htab : Lib.TabIs Tryd.prog w "internal/strconv.uint64pow10" .u64 Lib.pow10Tab) :
    Calls Tryd.prog 55 #[.int .i64 n] w fun e w' => e = .returned (.string ⟨(Lib.itoa n).toArray⟩) ∧ ∃ k os, w' = grow (w.drewN k) os := Any.strconv_Itoa YtpggpdbipajchaaDoor.laysM171 n h0 h1 w htab
def YtpggpdbipajchaaDoor.laysC172_ren : Go.Shelf.Ren := ⟨fun | 172 => 100 | 244 => 121 | 245 => 122 | 247 => 158 | 279 => 159 | 280 => 160 | 281 => 161 | 282 => 162 | 287 => 184 | 316 => 185 | 171 => 55 | 205 => 186 | 321 => 193 | 322 => 194 | 243 => 89 | 246 => 111 | 283 => 147 | 284 => 148 | 285 => 149 | 286 => 150 | 129 => 135 | 317 => 173 | 318 => 174 | 319 => 175 | 320 => 176 | 337 => 189 | 338 => 190 | n => n, fun | 9 => 9 | 3 => 3 | 75 => 116 | 76 => 117 | 4 => 4 | 5 => 5 | 167 => 174 | 37 => 24 | 0 => 0 | 85 => 175 | 2 => 2 | 168 => 177 | 53 => 154 | 175 => 192 | 46 => 127 | 210 => 196 | 127 => 137 | 145 => 209 | 143 => 207 | 21 => 21 | 171 => 165 | 173 => 167 | 212 => 189 | 51 => 152 | 20 => 20 | 213 => 190 | 232 => 210 | 233 => 211 | 80 => 119 | n => n, fun | 15 => 2 | 16 => 3 | 17 => 1 | 18 => 6 | 19 => 7 | n => n⟩
theorem YtpggpdbipajchaaDoor.laysC172 : Go.Proofs.LaysC.n172 Tryd.prog YtpggpdbipajchaaDoor.laysC172_ren := {
  mixed := by kernel_rfl
  f129 := Tryd.func135.trans (congrArg some (by kernel_rfl))
  f171 := Tryd.func55.trans (congrArg some (by kernel_rfl))
  f172 := Tryd.func100.trans (congrArg some (by kernel_rfl))
  f205 := Tryd.func186.trans (congrArg some (by kernel_rfl))
  f243 := Tryd.func89.trans (congrArg some (by kernel_rfl))
  f244 := Tryd.func121.trans (congrArg some (by kernel_rfl))
  f245 := Tryd.func122.trans (congrArg some (by kernel_rfl))
  f246 := Tryd.func111.trans (congrArg some (by kernel_rfl))
  f247 := Tryd.func158.trans (congrArg some (by kernel_rfl))
  f279 := Tryd.func159.trans (congrArg some (by kernel_rfl))
  f280 := Tryd.func160.trans (congrArg some (by kernel_rfl))
  f281 := Tryd.func161.trans (congrArg some (by kernel_rfl))
  f282 := Tryd.func162.trans (congrArg some (by kernel_rfl))
  f283 := Tryd.func147.trans (congrArg some (by kernel_rfl))
  f284 := Tryd.func148.trans (congrArg some (by kernel_rfl))
  f285 := Tryd.func149.trans (congrArg some (by kernel_rfl))
  f286 := Tryd.func150.trans (congrArg some (by kernel_rfl))
  f287 := Tryd.func184.trans (congrArg some (by kernel_rfl))
  f316 := Tryd.func185.trans (congrArg some (by kernel_rfl))
  f317 := Tryd.func173.trans (congrArg some (by kernel_rfl))
  f318 := Tryd.func174.trans (congrArg some (by kernel_rfl))
  f319 := Tryd.func175.trans (congrArg some (by kernel_rfl))
  f320 := Tryd.func176.trans (congrArg some (by kernel_rfl))
  f321 := Tryd.func193.trans (congrArg some (by kernel_rfl))
  f322 := Tryd.func194.trans (congrArg some (by kernel_rfl))
  f337 := Tryd.func189.trans (congrArg some (by kernel_rfl))
  f338 := Tryd.func190.trans (congrArg some (by kernel_rfl))
  t0 := Tryd.underlying0
  a0 := Tryd.isAgg0
  z0 := Tryd.sizeOf0
  v0 := Tryd.zeroValue0
  t2 := Tryd.underlying2
  a2 := Tryd.isAgg2
  z2 := Tryd.sizeOf2
  v2 := Tryd.zeroValue2
  t3 := Tryd.underlying3
  a3 := Tryd.isAgg3
  z3 := Tryd.sizeOf3
  v3 := Tryd.zeroValue3
  t4 := Tryd.underlying4
  a4 := Tryd.isAgg4
  z4 := Tryd.sizeOf4
  v4 := Tryd.zeroValue4
  t5 := Tryd.underlying5
  a5 := Tryd.isAgg5
  z5 := Tryd.sizeOf5
  v5 := Tryd.zeroValue5
  t9 := Tryd.underlying9
  a9 := Tryd.isAgg9
  z9 := Tryd.sizeOf9
  v9 := Tryd.zeroValue9
  t20 := Tryd.underlying20
  a20 := Tryd.isAgg20
  z20 := Tryd.sizeOf20
  v20 := Tryd.zeroValue20
  t21 := Tryd.underlying21
  a21 := Tryd.isAgg21
  z21 := Tryd.sizeOf21
  v21 := Tryd.zeroValue21
  t37 := Tryd.underlying24
  a37 := Tryd.isAgg24
  z37 := Tryd.sizeOf24
  v37 := Tryd.zeroValue24
  t46 := Tryd.underlying127
  a46 := Tryd.isAgg127
  z46 := Tryd.sizeOf127
  v46 := Tryd.zeroValue127
  t51 := Tryd.underlying152
  a51 := Tryd.isAgg152
  z51 := Tryd.sizeOf152
  v51 := Tryd.zeroValue152
  t53 := Tryd.underlying154
  a53 := Tryd.isAgg154
  z53 := Tryd.sizeOf154
  v53 := Tryd.zeroValue154
  t75 := Tryd.underlying116
  a75 := Tryd.isAgg116
  z75 := Tryd.sizeOf116
  v75 := Tryd.zeroValue116
  t76 := Tryd.underlying117
  a76 := Tryd.isAgg117
  z76 := Tryd.sizeOf117
  v76 := Tryd.zeroValue117
  t85 := Tryd.underlying175
  a85 := Tryd.isAgg175
  z85 := Tryd.sizeOf175
  v85 := Tryd.zeroValue175
  t127 := Tryd.underlying137
  a127 := Tryd.isAgg137
  z127 := Tryd.sizeOf137
  v127 := Tryd.zeroValue137
  t143 := Tryd.underlying207
  a143 := Tryd.isAgg207
  z143 := Tryd.sizeOf207
  v143 := Tryd.zeroValue207
  t145 := Tryd.underlying209
  a145 := Tryd.isAgg209
  z145 := Tryd.sizeOf209
  v145 := Tryd.zeroValue209
  t167 := Tryd.underlying174
  a167 := Tryd.isAgg174
  z167 := Tryd.sizeOf174
  v167 := Tryd.zeroValue174
  t168 := Tryd.underlying177
  a168 := Tryd.isAgg177
  z168 := Tryd.sizeOf177
  v168 := Tryd.zeroValue177
  t171 := Tryd.underlying165
  a171 := Tryd.isAgg165
  z171 := Tryd.sizeOf165
  v171 := Tryd.zeroValue165
  t173 := Tryd.underlying167
  a173 := Tryd.isAgg167
  z173 := Tryd.sizeOf167
  v173 := Tryd.zeroValue167
  t175 := Tryd.underlying192
  a175 := Tryd.isAgg192
  z175 := Tryd.sizeOf192
  v175 := Tryd.zeroValue192
  t210 := Tryd.underlying196
  a210 := Tryd.isAgg196
  z210 := Tryd.sizeOf196
  v210 := Tryd.zeroValue196
  t212 := Tryd.underlying189
  a212 := Tryd.isAgg189
  z212 := Tryd.sizeOf189
  v212 := Tryd.zeroValue189
  t213 := Tryd.underlying190
  a213 := Tryd.isAgg190
  z213 := Tryd.sizeOf190
  t232 := Tryd.underlying210
  a232 := Tryd.isAgg210
  z232 := Tryd.sizeOf210
  v232 := Tryd.zeroValue210
  t233 := Tryd.underlying211
  a233 := Tryd.isAgg211
  z233 := Tryd.sizeOf211
  v233 := Tryd.zeroValue211
  g15 := by kernel_rfl
  g16 := by kernel_rfl
  g17 := by kernel_rfl
  g18 := by kernel_rfl
  g19 := by kernel_rfl
  t80 := Tryd.underlying119
  a80 := Tryd.isAgg119
  z80 := Tryd.sizeOf119
  v80 := Tryd.zeroValue119
  i0 := by kernel_rfl
  i2 := by kernel_rfl
  i3 := by kernel_rfl
  i4 := by kernel_rfl
  i5 := by kernel_rfl
  i9 := by kernel_rfl
  i20 := by kernel_rfl
  i21 := by kernel_rfl
  i37 := by kernel_rfl
  i46 := by kernel_rfl
  i51 := by kernel_rfl
  i53 := by kernel_rfl
  i75 := by kernel_rfl
  i76 := by kernel_rfl
  i80 := by kernel_rfl
  i85 := by kernel_rfl
  i127 := by kernel_rfl
  i143 := by kernel_rfl
  i145 := by kernel_rfl
  i167 := by kernel_rfl
  i168 := by kernel_rfl
  i171 := by kernel_rfl
  i173 := by kernel_rfl
  i175 := by kernel_rfl
  i210 := by kernel_rfl
  i212 := by kernel_rfl
  i232 := by kernel_rfl
  i233 := by kernel_rfl
  m15 := by kernel_rfl
  m16 := by kernel_rfl
  m17 := by kernel_rfl
  m18 := by kernel_rfl
  m19 := by kernel_rfl
  c0 := by kernel_rfl
  c2 := by kernel_rfl
  c3 := by kernel_rfl
  c4 := by kernel_rfl
  c5 := by kernel_rfl
  c9 := by kernel_rfl
  c20 := by kernel_rfl
  c21 := by kernel_rfl
  c37 := by kernel_rfl
  c46 := by kernel_rfl
  c51 := by kernel_rfl
  c53 := by kernel_rfl
  c75 := by kernel_rfl
  c76 := by kernel_rfl
  c80 := by kernel_rfl
  c85 := by kernel_rfl
  c127 := by kernel_rfl
  c143 := by kernel_rfl
  c145 := by kernel_rfl
  c167 := by kernel_rfl
  c168 := by kernel_rfl
  c171 := by kernel_rfl
  c173 := by kernel_rfl
  c175 := by kernel_rfl
  c210 := by kernel_rfl
  c212 := by kernel_rfl
  c213 := by kernel_rfl
  c232 := by kernel_rfl
  c233 := by kernel_rfl }
open Go.RowKit in
theorem YtpggpdbipajchaaDoor.strconv_Atoi_ok (s : ByteArray) (hmax : s.size ≤ 9223372036854775806) (v : Int) (h : Lib.atoiAll s.data.toList = .ok v) (w : World) :
    Calls Tryd.prog 100 #[.string s] w fun e w' => e = .returned (.tuple #[.int .i64 v, .nilIface]) ∧ (w' = w ∨ ∃ t, w' = Lib.bytesWorld w 5 t) := Any.strconv_Atoi_ok YtpggpdbipajchaaDoor.laysC172 s hmax v h w
open Go.RowKit in
theorem YtpggpdbipajchaaDoor.strconv_Atoi_syntax (s : ByteArray) (hlim : s.size ≤ 281474976710656) (h : Lib.atoiAll s.data.toList = (Lib.atoiAll [])) (ev : Value) (w : World) (hv : w.cell? ⟨2, 0, none⟩ = some ev) (hev : ev = .nilIface ∨ ∃ te pe, ev = .iface te pe) :
    Calls Tryd.prog 100 #[.string s] w fun e w' => ∃ N, e = .returned (.tuple #[.int .i64 (0), .iface 177 (.pointer (some ⟨N, 0, none⟩))]) ∧ w.heap.size ≤ N ∧ w'.heap[N]? = some (.cells #[.string ⟨#[65, 116, 111, 105]⟩, .string s, ev] 196 (0, 0)) ∧ Below w.heap.size w w' := Any.strconv_Atoi_syntax YtpggpdbipajchaaDoor.laysC172 s hlim h ev w hv hev
open Go.RowKit in
theorem YtpggpdbipajchaaDoor.strconv_Atoi_range (s : ByteArray) (hlim : s.size ≤ 281474976710656) (h : Lib.atoiAll s.data.toList = .range) (ev : Value) (w : World) (hv : w.cell? ⟨3, 0, none⟩ = some ev) (hev : ev = .nilIface ∨ ∃ te pe, ev = .iface te pe) :
    Calls Tryd.prog 100 #[.string s] w fun e w' => ∃ N, e = .returned (.tuple #[.int .i64 (Lib.atoiSat s.data.toList), .iface 177 (.pointer (some ⟨N, 0, none⟩))]) ∧ w.heap.size ≤ N ∧ w'.heap[N]? = some (.cells #[.string ⟨#[65, 116, 111, 105]⟩, .string s, ev] 196 (0, 0)) ∧ Below w.heap.size w w' := Any.strconv_Atoi_range YtpggpdbipajchaaDoor.laysC172 s hlim h ev w hv hev
def YtpggpdbipajchaaDoor.lays145_ren : Go.Shelf.Ren := ⟨fun | 145 => 99 | 220 => 120 | 219 => 157 | 217 => 182 | 225 => 181 | 224 => 180 | 267 => 183 | 266 => 191 | 314 => 192 | n => n, fun | 9 => 9 | 4 => 4 | 59 => 121 | 3 => 3 | 5 => 5 | 46 => 127 | 146 => 161 | 51 => 152 | n => n, fun | 1 => 0 | n => n⟩
theorem YtpggpdbipajchaaDoor.lays145 : Go.Proofs.Lays.n145 Tryd.prog YtpggpdbipajchaaDoor.lays145_ren := {
  mixed := by kernel_rfl
  f145 := Tryd.func99.trans (congrArg some (by kernel_rfl))
  f217 := Tryd.func182.trans (congrArg some (by kernel_rfl))
  f219 := Tryd.func157.trans (congrArg some (by kernel_rfl))
  f220 := Tryd.func120.trans (congrArg some (by kernel_rfl))
  f224 := Tryd.func180.trans (congrArg some (by kernel_rfl))
  f225 := Tryd.func181.trans (congrArg some (by kernel_rfl))
  f266 := Tryd.func191.trans (congrArg some (by kernel_rfl))
  f267 := Tryd.func183.trans (congrArg some (by kernel_rfl))
  f314 := Tryd.func192.trans (congrArg some (by kernel_rfl))
  t3 := Tryd.underlying3
  a3 := Tryd.isAgg3
  z3 := Tryd.sizeOf3
  v3 := Tryd.zeroValue3
  t4 := Tryd.underlying4
  a4 := Tryd.isAgg4
  z4 := Tryd.sizeOf4
  v4 := Tryd.zeroValue4
  t5 := Tryd.underlying5
  a5 := Tryd.isAgg5
  z5 := Tryd.sizeOf5
  v5 := Tryd.zeroValue5
  t9 := Tryd.underlying9
  a9 := Tryd.isAgg9
  z9 := Tryd.sizeOf9
  v9 := Tryd.zeroValue9
  t46 := Tryd.underlying127
  a46 := Tryd.isAgg127
  z46 := Tryd.sizeOf127
  v46 := Tryd.zeroValue127
  t51 := Tryd.underlying152
  a51 := Tryd.isAgg152
  z51 := Tryd.sizeOf152
  v51 := Tryd.zeroValue152
  t59 := Tryd.underlying121
  a59 := Tryd.isAgg121
  z59 := Tryd.sizeOf121
  v59 := Tryd.zeroValue121
  t146 := Tryd.underlying161
  a146 := Tryd.isAgg161
  z146 := Tryd.sizeOf161
  v146 := Tryd.zeroValue161
  g1 := by kernel_rfl }
open Go.RowKit Go.Lib in
theorem YtpggpdbipajchaaDoor.strings_Cut (s sep : ByteArray) (m : Int) (w : World) (hs : s.size < 4294967281) (hm : w.cell? ⟨0, 0, none⟩ = some (.int .i64 m)) :
    Calls Tryd.prog 99 #[.string s, .string sep] w fun e w' => e = .returned (.tuple #[.string ⟨(Lib.cut s.data.toList sep.data.toList).1.toArray⟩, .string ⟨(Lib.cut s.data.toList sep.data.toList).2.1.toArray⟩, .bool (Lib.cut s.data.toList sep.data.toList).2.2]) ∧ ∃ n, w' = w.drewN n := Any.strings_Cut YtpggpdbipajchaaDoor.lays145 s sep m w hs hm
def YtpggpdbipajchaaDoor.lays146_ren : Go.Shelf.Ren := ⟨fun | 146 => 71 | 221 => 98 | 268 => 117 | 138 => 118 | 143 => 119 | 195 => 155 | 197 => 152 | 218 => 156 | 219 => 157 | 260 => 177 | 217 => 182 | 225 => 181 | 224 => 180 | 267 => 183 | 266 => 191 | 314 => 192 | n => n, fun | 9 => 9 | 31 => 22 | 3 => 3 | 4 => 4 | 0 => 0 | 105 => 134 | 21 => 21 | 5 => 5 | 46 => 127 | 119 => 201 | 139 => 204 | 138 => 203 | 146 => 161 | 51 => 152 | n => n, fun | 1 => 0 | 3 => 4 | 4 => 5 | n => n⟩
theorem YtpggpdbipajchaaDoor.lays146 : Go.Proofs.Lays.n146 Tryd.prog YtpggpdbipajchaaDoor.lays146_ren := {
  mixed := by kernel_rfl
  f138 := Tryd.func118.trans (congrArg some (by kernel_rfl))
  f143 := Tryd.func119.trans (congrArg some (by kernel_rfl))
  f146 := Tryd.func71.trans (congrArg some (by kernel_rfl))
  f195 := Tryd.func155.trans (congrArg some (by kernel_rfl))
  f197 := Tryd.func152.trans (congrArg some (by kernel_rfl))
  f217 := Tryd.func182.trans (congrArg some (by kernel_rfl))
  f218 := Tryd.func156.trans (congrArg some (by kernel_rfl))
  f219 := Tryd.func157.trans (congrArg some (by kernel_rfl))
  f221 := Tryd.func98.trans (congrArg some (by kernel_rfl))
  f224 := Tryd.func180.trans (congrArg some (by kernel_rfl))
  f225 := Tryd.func181.trans (congrArg some (by kernel_rfl))
  f260 := Tryd.func177.trans (congrArg some (by kernel_rfl))
  f266 := Tryd.func191.trans (congrArg some (by kernel_rfl))
  f267 := Tryd.func183.trans (congrArg some (by kernel_rfl))
  f268 := Tryd.func117.trans (congrArg some (by kernel_rfl))
  f314 := Tryd.func192.trans (congrArg some (by kernel_rfl))
  t0 := Tryd.underlying0
  a0 := Tryd.isAgg0
  z0 := Tryd.sizeOf0
  v0 := Tryd.zeroValue0
  t3 := Tryd.underlying3
  a3 := Tryd.isAgg3
  z3 := Tryd.sizeOf3
  v3 := Tryd.zeroValue3
  t4 := Tryd.underlying4
  a4 := Tryd.isAgg4
  z4 := Tryd.sizeOf4
  v4 := Tryd.zeroValue4
  t5 := Tryd.underlying5
  a5 := Tryd.isAgg5
  z5 := Tryd.sizeOf5
  v5 := Tryd.zeroValue5
  t9 := Tryd.underlying9
  a9 := Tryd.isAgg9
  z9 := Tryd.sizeOf9
  v9 := Tryd.zeroValue9
  t21 := Tryd.underlying21
  a21 := Tryd.isAgg21
  z21 := Tryd.sizeOf21
  v21 := Tryd.zeroValue21
  t31 := Tryd.underlying22
  a31 := Tryd.isAgg22
  z31 := Tryd.sizeOf22
  v31 := Tryd.zeroValue22
  t46 := Tryd.underlying127
  a46 := Tryd.isAgg127
  z46 := Tryd.sizeOf127
  v46 := Tryd.zeroValue127
  t51 := Tryd.underlying152
  a51 := Tryd.isAgg152
  z51 := Tryd.sizeOf152
  v51 := Tryd.zeroValue152
  t105 := Tryd.underlying134
  a105 := Tryd.isAgg134
  z105 := Tryd.sizeOf134
  v105 := Tryd.zeroValue134
  t119 := Tryd.underlying201
  a119 := Tryd.isAgg201
  z119 := Tryd.sizeOf201
  t138 := Tryd.underlying203
  a138 := Tryd.isAgg203
  z138 := Tryd.sizeOf203
  v138 := Tryd.zeroValue203
  t139 := Tryd.underlying204
  a139 := Tryd.isAgg204
  z139 := Tryd.sizeOf204
  v139 := Tryd.zeroValue204
  t146 := Tryd.underlying161
  a146 := Tryd.isAgg161
  z146 := Tryd.sizeOf161
  v146 := Tryd.zeroValue161
  g1 := by kernel_rfl
  g3 := by kernel_rfl
  g4 := by kernel_rfl }
open Go.RowKit Go.Lib in
theorem YtpggpdbipajchaaDoor.strings_Split (s sep : ByteArray) (m : Int) (w : World) (hs : s.size < 4294967281) (hm : w.cell? ⟨0, 0, none⟩ = some (.int .i64 m)) (h1 : 1 ≤ sep.size) :
    Calls Tryd.prog 71 #[.string s, .string sep] w fun e w' =>
      e = .returned (.slice (some ⟨w.heap.size, 0, none⟩) (Lib.countB s sep + 1) (Lib.countB s sep + 1)) ∧ w' = w.alloc (.cells ((Lib.splitB sep 0 (Lib.countB s sep) s).map Value.string).toArray 9) := Any.strings_Split YtpggpdbipajchaaDoor.lays146 (by kernel_rfl) s sep m w hs hm h1
end Go.Proofs
namespace Go.Proofs.YtpggpdbipajchaaDoor
open Go.RowKit
set_option linter.all false
def PV.le (p q : PV) : Prop := ∀ (g : Gh) (w : World) (v : Value), Rep g w p v → Rep g w q v
theorem PV.le_refl (p : PV) : p.le p := fun _ _ _ h => h
theorem PV.le.trans {p q r : PV} (h : p.le q) (h2 : q.le r) : p.le r := fun g w v hv => h2 g w v (h g w v hv)
theorem nil_le (k : Bool) (sz : Nat) : (PV.val (.slice none 0 0)).le (.lst k sz []) := fun g w v h => by
  simp only [Rep] at h ⊢
  subst h
  exact ⟨none, 0, rfl, Nat.le_refl _, by omega, .inl trivial⟩
def leL : List PV → List PV → Prop
  | [], [] => True
  | p :: ps, q :: qs => p.le q ∧ leL ps qs
  | _, _ => False
theorem leL_refl : ∀ (l : List PV), leL l l
  | [] => trivial
  | p :: l => ⟨p.le_refl, leL_refl l⟩
theorem leL_rep {g : Gh} {w : World} : ∀ {ps qs : List PV} {vs : List Value}, leL ps qs → RepL g w ps vs → RepL g w qs vs
  | [], [], vs, _, h => h
  | p :: ps, q :: qs, vs, hl, h => by
    simp only [RepL] at h ⊢
    obtain ⟨v, vs', rfl, h1, h2⟩ := h
    exact ⟨v, vs', rfl, hl.1 _ _ _ h1, leL_rep hl.2 h2⟩
  | [], _ :: _, vs, hl, _ => hl.elim
  | _ :: _, [], vs, hl, _ => hl.elim
theorem Sound.weak {P : Program} {f : Nat} {φ φ' : Fun} (h : Sound P f φ) (hw : ∀ ps r, φ' ps = some r → ∃ ps' r', leL ps ps' ∧ φ ps' = some r' ∧ r'.le r) : Sound P f φ' := by
  intro w J ps args r hr hJ hT hargs
  obtain ⟨ps', r', h1, h2, h3⟩ := hw ps r hr
  refine (h w J ps' args r' h2 hJ hT (leL_rep h1 hargs)).mono ?_
  rintro e w' ⟨v, rfl, hb, hrep⟩
  exact ⟨v, rfl, hb, fun g' hg => h3 _ _ _ (hrep g' hg)⟩
def nrm (sz : Nat) : PV → PV
  | .val (.slice none 0 0) => .lst false sz []
  | p => p
theorem le_nrm (sz : Nat) (p : PV) : p.le (nrm sz p) := by
  unfold nrm
  split
  · exact nil_le _ _
  · exact p.le_refl
theorem leL_nrm (sz : Nat) : ∀ ps : List PV, leL ps (ps.map (nrm sz))
  | [] => trivial
  | p :: ps => ⟨le_nrm sz p, leL_nrm sz ps⟩
def nilF (sz : Nat) (φ : Fun) : Fun := fun ps => φ (ps.map (nrm sz))
theorem Sound.nil {P : Program} {f : Nat} {φ : Fun} (h : Sound P f φ) (sz : Nat) : Sound P f (nilF sz φ) :=
  h.weak fun ps r hr => ⟨_, r, leL_nrm sz ps, hr, PV.le_refl _⟩
section
variable {P : Program} {Γ : Ctx}
theorem sound_pqW (hm : P.follows .mixedOrders = true) {f : Nat} {fn : Func} {c : Code} {φ : Fun} (hΓ : SoundΓ P Γ) (hf : P.funcs[f]? = some fn) (hb : fn.body = some c) (N : Nat) (hN : fn.ntmps = N) (rs : List ResultVar) (hrs : fn.results.toList = rs) (hc : codeOk Γ true N c = true)
    (h : ∀ ps r, φ ps = some r → ps.length ≤ N ∧ pq P Γ N c (fun x s' => ∃ r', r'.le r ∧ Post P rs r' x s') (initS ps).tm (fun _ => none) 0) : Sound P f φ := by
  obtain ⟨φ', h1, h2⟩ := rel_of_pq hm hΓ hf hb N hN rs hrs hc (fun ps => ∃ r, φ ps = some r) (fun ps r' => ∀ r, φ ps = some r → r'.le r) (fun ps ⟨r, hr⟩ => (h ps r hr).1) (fun ps ⟨r, hr⟩ => by
    refine pw_mono (fun x s' hx => ?_) _ _ (h ps r hr).2
    obtain ⟨r', k1, k2⟩ := hx
    exact ⟨r', fun r1 hr1 => by rw [hr] at hr1; cases hr1; exact k1, k2⟩)
  refine h1.weak fun ps r hr => ?_
  obtain ⟨r', k1, k2⟩ := h2 ps ⟨r, hr⟩
  exact ⟨ps, r', leL_refl _, k1, k2 r hr⟩
theorem i_endW {rs : List ResultVar} {r r' : PV} {tm : Nat → PV} {ob : Objs} {nx : Nat} {x : X} (hx : x = .normal ∨ x = .ret) (h : ((resPs P ⟨tm, ob, nx⟩ rs).bind fun qs => reify true 0 ob fuel (onePV qs)) = some r') (hl : r'.le r) : ∃ r', r'.le r ∧ Post P rs r' x ⟨tm, ob, nx⟩ := ⟨r', hl, hx, h⟩
end
theorem reify_nil0 {n f sz : Nat} {ob : Objs} {k : Bool} : reify false n ob (f + 1) (.lst k sz []) = some (.lst false sz []) := by simp [reify]
theorem reify_nil1 {n f sz : Nat} {ob : Objs} {k : Bool} : reify true n ob (f + 1) (.lst k sz []) = some (.lst true sz []) := by simp [reify]
attribute [push_cast]
  reify_nil0 reify_nil1
def nP (sz : Nat) (es : List PV) (x : Nat) : PV := match es with | [] => .val (.slice none 0 0) | _ :: _ => .row x sz 0 es.length
def nO (T sz : Nat) (es : List PV) (x : Nat) : List (Nat × CellIO) := match es with | [] => [] | _ :: _ => [(x, T, sz, es)]
theorem nP_nil {sz x : Nat} : nP sz [] x = .val (.slice none 0 0) := rfl
theorem nO_nil {T sz x : Nat} : nO T sz [] x = [] := rfl
theorem nP_pos {sz x : Nat} {es : List PV} (h : 0 < es.length) : nP sz es x = .row x sz 0 es.length := by
  cases es with
  | nil => simp at h
  | cons e es => rfl
theorem nO_pos {T sz x : Nat} {es : List PV} (h : 0 < es.length) : nO T sz es x = [(x, T, sz, es)] := by
  cases es with
  | nil => simp at h
  | cons e es => rfl
attribute [push_cast]
  nP_nil nO_nil
attribute [push_cast low]
  nP_pos nO_pos
theorem bp_addS {P : Program} {t : Nat} {x y : Operand} {a b : ByteArray} (h : a.size + b.size ≤ 9223372036854775807) : binP P .add t x y (some (.string a)) (some (.string b)) = some (.val (.string (a ++ b))) := by
  have h2 : ¬ (((a.size + b.size : Nat) : Int) > IntKind.i64.max) := by
    have : IntKind.i64.max = 9223372036854775807 := by decide
    rw [this]
    omega
  have : pureRun P (do eqGuard .add t x y (.string a) (.string b); binOp .add t (.string a) (.string b)) = some (.string (a ++ b)) := by
    show pureRun P (Op.stringOp .add a b) = _
    unfold Op.stringOp
    dsimp only
    rw [if_neg h2]
    rfl
  simp only [binP, this, Option.map_some]
theorem size_push (ns : List Int) (r : ByteArray) : (ns.foldl (fun r n => r.push (UInt8.ofNat n.toNat)) r).size = r.size + ns.length := by
  induction ns generalizing r with
  | nil => simp
  | cons n ns ih => rw [List.foldl_cons, ih, List.length_cons, ByteArray.size_push]; omega
theorem size_bytesOf (ns : List Int) : (bytesOf ns).size = ns.length := by
  unfold bytesOf
  rw [size_push]
  simp
attribute [push_cast]
  bp_addS size_bytesOf ByteArray.size_append byteNs
def joinB (l : List ByteArray) (sep : ByteArray) : ByteArray := ⟨(Lib.join (l.map (·.data.toList)) sep.data.toList).toArray⟩
def φJoin : Fun := F2 dSs dS fun l sep => if l.length ≤ 1048576 ∧ (joinB l sep).size ≤ 140737488355328 then some (.val (.string (joinB l sep))) else none
theorem φJoin_ap {l : List ByteArray} {sep : ByteArray} (h : l.length ≤ 1048576) (h2 : (joinB l sep).size ≤ 140737488355328) : φJoin [.lst false 1 (l.map fun s => .val (.string s)), .val (.string sep)] = some (.val (.string (joinB l sep))) :=
  (F2_ap (A := dSs) (B := dS) l sep).trans (if_pos ⟨h, h2⟩)
theorem str_cells {g : Gh} {w : World} {b off : Nat} {l : List ByteArray} (h : RepEs g w 1 (l.map fun s => PV.val (.string s)) b off) : ∀ (j : Nat) x, l[j]? = some x → w.cell? ⟨b, off + j, none⟩ = some (.string x) := fun j x hx => by
  obtain ⟨u, h1, h2, _⟩ := h.get (i := j) (e := .val (.string x)) (by simp [hx])
  simp only [Rep] at h1
  subst h1
  have := h2.2 0 (by simp [Value.cells])
  simpa [Value.cells] using this
theorem sound_join {P : Program} {f : Nat} (H0 : ∀ (a : Option Addr) (c : Nat) (sep : ByteArray) (w : World), Calls P f #[.slice a 0 c, .string sep] w fun e w' => e = .returned (.string ⟨#[]⟩) ∧ w' = w)
    (H1 : ∀ (bk o c : Nat) (xs : List ByteArray) (sep : ByteArray) (w : World), (∀ (j : Nat) x, xs[j]? = some x → w.cell? ⟨bk, o + j, none⟩ = some (.string x)) → bk < w.heap.size → xs.length ≤ 140737488355328 → xs.length ≤ c → (Lib.join (xs.map (·.data.toList)) sep.data.toList).length ≤ 140737488355328 →
      Calls P f #[.slice (some ⟨bk, o, none⟩) xs.length c, .string sep] w fun e w' => e = .returned (.string ⟨(Lib.join (xs.map (·.data.toList)) sep.data.toList).toArray⟩) ∧ Below w.heap.size w w') : Sound P f φJoin := by
  intro w J ps args r hr hJ hT hargs
  obtain ⟨l, sep, rfl, hq⟩ := F2_some hr
  split at hq
  case isFalse => cases hq
  case isTrue hok =>
  cases hq
  have hargs := hargs
  simp only [RepL] at hargs
  obtain ⟨v1, vs1, e1, h1, v2, vs2, rfl, h2, rfl⟩ := hargs
  obtain rfl : args = #[v1, v2] := by
    obtain ⟨a⟩ := args
    simp only at e1
    rw [e1]
  simp only [dSs, dL, dS, Rep] at h1 h2
  subst h2
  obtain ⟨a, cap, rfl, k1, k2, k3⟩ := h1
  simp only [List.length_map] at k1 ⊢
  have hsz : (joinB l sep).size = (Lib.join (l.map (·.data.toList)) sep.data.toList).length := by simp [joinB, ByteArray.size]
  rcases k3 with k3 | ⟨b, off, rfl, k4, k5⟩
  · have : l = [] := by simpa using k3
    subst this
    refine (H0 a cap sep w).mono ?_
    rintro e w' ⟨rfl, rfl⟩
    exact ⟨_, rfl, Below.refl _ _, fun g' _ => by simp only [Rep]; rfl⟩
  · refine (H1 b off cap l sep w (str_cells k5) (hJ b k4.2) (by omega) k1 (by omega)).mono ?_
    rintro e w' ⟨rfl, hb⟩
    exact ⟨_, rfl, hb, fun g' _ => by simp only [Rep]; rfl⟩
theorem joinTail_len (sep : List UInt8) : ∀ (r : List (List UInt8)), (Lib.joinTail sep r).length = (r.map List.length).sum + r.length * sep.length
  | [] => by simp [Lib.joinTail]
  | x :: r => by
    have ih := joinTail_len sep r
    unfold Lib.joinTail at ih ⊢
    simp only [List.map_cons, List.flatten_cons, List.length_append, List.sum_cons, List.length_cons, ih, Nat.add_mul]
    omega
def sumS (l : List ByteArray) : Nat := (l.map (·.size)).sum
theorem joinB_size (l : List ByteArray) (sep : ByteArray) : (joinB l sep).size = sumS l + (l.length - 1) * sep.size := by
  have hsz : (joinB l sep).size = (Lib.join (l.map (·.data.toList)) sep.data.toList).length := by simp [joinB, ByteArray.size]
  rw [hsz]
  clear hsz
  have e : ∀ s : ByteArray, s.data.toList.length = s.size := fun s => Array.length_toList
  cases l with
  | nil => simp [Lib.join_nil, sumS]
  | cons x r =>
    rw [List.map_cons, Lib.join_cons, List.length_append, joinTail_len]
    simp only [List.map_map, List.length_map, sumS, List.map_cons, List.sum_cons, List.length_cons, Nat.add_sub_cancel, e]
    have h2 : (List.length ∘ fun x : ByteArray => x.data.toList) = fun x => x.size := funext fun s => e s
    rw [h2]
    omega
theorem sumS_le {l : List ByteArray} {c : Nat} (h : ∀ i : Nat, (l[i]?.getD .empty).size ≤ c) : sumS l ≤ l.length * c := by
  induction l with
  | nil => simp [sumS]
  | cons x l ih =>
    have h0 := h 0
    have := ih fun i => by simpa using h (i + 1)
    simp only [List.getElem?_cons_zero, Option.getD_some] at h0
    simp only [sumS, List.map_cons, List.sum_cons, List.length_cons, Nat.add_mul, Nat.one_mul] at this ⊢
    omega
theorem join_ok : Sound Tryd.prog 69 φJoin := sound_join YtpggpdbipajchaaDoor.strings_Join_none YtpggpdbipajchaaDoor.strings_Join
end Go.Proofs.YtpggpdbipajchaaDoor
namespace Go.Proofs.YtpggpdbipajchaaDoor
open Go.RowKit
set_option linter.all false
theorem below_growN (w : World) (k : Nat) (os : Array Obj) : Below w.heap.size w (Sort.grow (w.drewN k) os) :=
  ⟨rfl, rfl, rfl, by simp [Sort.grow, World.drewN], fun b hb => by simp [Sort.grow, World.drewN, Array.getElem?_append_left hb]⟩
def itoaS (n : Int) : ByteArray := ⟨(Lib.itoa n).toArray⟩
theorem tabIs_of {w : World} {io : Nat → Prop} (hT : TabF w io) : Lib.TabIs Tryd.prog w "internal/strconv.uint64pow10" .u64 Lib.pow10Tab := by
  obtain ⟨T, k, h⟩ := hT.at_ _ (List.mem_cons_self ..)
  unfold Lib.TabIs World.var?
  rw [show Tryd.prog.globalNamed "internal/strconv.uint64pow10" = some _ by kernel_rfl, Option.bind_some, h]
def φItoa : Fun := F1 dI fun n => if okI n then some (.val (.string (itoaS n))) else none
theorem φItoa_ap {n : Int} (h : okI n) : φItoa [.val (.int .i64 n)] = some (.val (.string (itoaS n))) := (F1_ap (A := dI) n).trans (if_pos h)
theorem itoa_ok : Sound Tryd.prog 55 φItoa := by
  intro w J ps args r hr hJ hT hargs
  obtain ⟨n, rfl, hq⟩ := F1_some hr
  split at hq
  case isFalse => cases hq
  case isTrue hok =>
  cases hq
  have hargs := hargs
  simp only [RepL] at hargs
  obtain ⟨v1, vs1, e1, h1, rfl⟩ := hargs
  obtain rfl : args = #[v1] := by
    obtain ⟨a⟩ := args
    simp only at e1
    rw [e1]
  simp only [dI, Rep] at h1
  subst h1
  refine (YtpggpdbipajchaaDoor.strconv_Itoa n hok.1 hok.2 w (tabIs_of hT)).mono ?_
  rintro e w' ⟨rfl, k, os, rfl⟩
  exact ⟨_, rfl, below_growN w k os, fun g' _ => by simp only [Rep]; rfl⟩
end Go.Proofs.YtpggpdbipajchaaDoor
namespace Go.Proofs.YtpggpdbipajchaaDoor
open Go.RowKit
set_option linter.all false
section
variable {P : Program} {Γ : Ctx}
end
theorem inn_0o {o : Nat} : inn [0, o] 0 = some 0 := by simp [inn]
theorem inn_1o {o : Nat} (h : 0 < o) : inn [0, o] o = some 1 := by
  have h0 : ¬ (0 : Nat) = o := by omega
  have h1 : (0 == o) = false := by simpa using h0
  simp [inn, List.idxOf_cons, h1]
theorem inn_no {o x : Nat} (h : 0 < x) (h2 : x ≠ o) : inn [0, o] x = none := by
  have h0 : ¬ x = 0 := by omega
  simp [inn, h0, h2]
theorem outF_1n {o nx : Nat} : outF [o] nx 1 = some nx := by simp [outF, outn]
theorem handM_fuel {out : List Nat} {ob : Objs} {l : List PV} : l.mapM (handF out ob fuel) = l.mapM (handF out ob 8) := rfl
attribute [push_cast]
  handM_fuel inn_0o inn_1o inn_no outF_1n
section
variable {P : Program} {Γ : Ctx} {imm : Md} {N : Nat} {gs : List (Option Nat)} {l : List Oper} {Q : AS → Prop} {tm : Nat → PV} {ob : Objs} {nx T : Nat} {Φ : FunIO} {B c : Int} {α : Type} {E : Nat → α → PV} {O : α → CellIO}
end
end Go.Proofs.YtpggpdbipajchaaDoor
namespace Go.Proofs.YtpggpdbipajchaaDoor
open Go.RowKit
set_option linter.all false
abbrev FunN := List PV → Option (PV × List CellIO)
def SoundN (P : Program) (f : Nat) (Ψ : FunN) : Prop := SoundIO P f fun ps cs => if cs = [] then Ψ ps else none
def renT (nm : Nat → Nat) : Nat → PV → Option PV
  | 0, _ => none
  | n + 1, p => match p with
    | .val v => some (.val v)
    | .dead => some .dead
    | .lst k sz es => if k = false ∧ es ≠ [] then none else (es.mapM (renT nm n)).map (.lst k sz)
    | .ptr k e o => if k = false then none else (renT nm n e).map (.ptr k · o)
    | .own o sz i f => some (.own (nm o) sz i f)
    | .row o sz i m => some (.row (nm o) sz i m)
    | .agg cs => (cs.mapM (renT nm n)).map .agg
    | .tup cs => (cs.mapM (renT nm n)).map .tup
theorem Rep.renT {nm : Nat → Nat} {g g' : Gh} {w : World} (hI : ∀ b, g.I true b → g'.I true b) (ho : ∀ o, g.D o → g'.β (nm o) = g.β o ∧ g'.κ (nm o) = g.κ o ∧ g'.D (nm o)) :
    ∀ (f : Nat) (p q : PV) (v : Value), Rep g w p v → Proofs.YtpggpdbipajchaaDoor.renT nm f p = some q → Rep g' w q v
  | 0, p, q, v, h, hr => by simp [Proofs.YtpggpdbipajchaaDoor.renT] at hr
  | f + 1, p, q, v, h, hr => by
    cases p with
    | val u => simp only [Proofs.YtpggpdbipajchaaDoor.renT, Option.some.injEq] at hr; subst hr; simpa [Rep] using h
    | dead => simp only [Proofs.YtpggpdbipajchaaDoor.renT, Option.some.injEq] at hr; subst hr; simp [Rep]
    | lst k sz es =>
      simp only [Proofs.YtpggpdbipajchaaDoor.renT] at hr
      split at hr
      · cases hr
      · rename_i hk
        simp only [Option.map_eq_some_iff] at hr
        obtain ⟨es', h1, rfl⟩ := hr
        have hl := (mapM_get h1).1
        simp only [Rep] at h ⊢
        obtain ⟨a, cap, rfl, h2, h3, h4⟩ := h
        refine ⟨a, cap, by rw [hl], by omega, h3, ?_⟩
        rcases h4 with rfl | ⟨b, off, rfl, h5, h6⟩
        · left; exact List.eq_nil_of_length_eq_zero (by simpa using hl)
        · by_cases hnil : es = []
          · left; subst hnil; exact List.eq_nil_of_length_eq_zero (by simpa using hl)
          · right
            cases k with
            | false => simp [hnil] at hk
            | true => exact ⟨b, off, rfl, hI _ h5, RepEs.conv (g := g) (g' := g') (Rep.renT hI ho f) h6 h1⟩
    | ptr k e o =>
      simp only [Proofs.YtpggpdbipajchaaDoor.renT] at hr
      split at hr
      · cases hr
      · rename_i hk
        simp only [Option.map_eq_some_iff] at hr
        obtain ⟨e', h1, rfl⟩ := hr
        simp only [Rep] at h ⊢
        obtain ⟨b, off, rfl, h2, u, h3, h4⟩ := h
        cases k with
        | false => simp at hk
        | true => exact ⟨b, off, rfl, hI _ h2, u, Rep.renT hI ho f e e' u h3 h1, h4⟩
    | own o sz i f' =>
      simp only [Proofs.YtpggpdbipajchaaDoor.renT, Option.some.injEq] at hr
      subst hr
      simp only [Rep] at h ⊢
      obtain ⟨e1, _, e3⟩ := ho o h.2
      exact ⟨by rw [e1]; exact h.1, e3⟩
    | row o sz i m =>
      simp only [Proofs.YtpggpdbipajchaaDoor.renT, Option.some.injEq] at hr
      subst hr
      simp only [Rep] at h ⊢
      obtain ⟨c, h1, h2, h3, h4, h5⟩ := h
      obtain ⟨e1, e2, e3⟩ := ho o h5
      exact ⟨c, by rw [e1]; exact h1, h2, h3, by rw [e2]; exact h4, e3⟩
    | agg cs =>
      simp only [Proofs.YtpggpdbipajchaaDoor.renT, Option.map_eq_some_iff] at hr
      obtain ⟨cs', h1, rfl⟩ := hr
      simp only [Rep] at h ⊢
      obtain ⟨vs, rfl, h2⟩ := h
      exact ⟨vs, rfl, RepL.conv (g := g) (g' := g') (Rep.renT hI ho f) h2 h1⟩
    | tup cs =>
      simp only [Proofs.YtpggpdbipajchaaDoor.renT, Option.map_eq_some_iff] at hr
      obtain ⟨cs', h1, rfl⟩ := hr
      simp only [Rep] at h ⊢
      obtain ⟨vs, rfl, h2⟩ := h
      exact ⟨vs, rfl, RepL.conv (g := g) (g' := g') (Rep.renT hI ho f) h2 h1⟩
def renCT (nm : Nat → Nat) (f : Nat) (c : CellIO) : Option CellIO := (c.2.2.mapM (renT nm f)).map fun es => (c.1, c.2.1, es)
def liftN (Ψ : FunN) : FunIO := fun ps cs => (ps.mapM (reify false 0 (fun o => cs[o]?) fuel)).bind fun qs => (Ψ qs).bind fun rc => (renT (cs.length + ·) fuel rc.1).bind fun r => (rc.2.mapM (renCT (cs.length + ·) fuel)).map fun cs' => (r, cs ++ cs')
theorem SoundN.lift {P : Program} {f : Nat} {Ψ : FunN} (h : SoundN P f Ψ) : SoundIO P f (liftN Ψ) := by
  intro w J β κ ps cs args r cs2 hr hJ hO hT hargs
  unfold liftN at hr
  simp only [Option.bind_eq_some_iff, Option.map_eq_some_iff] at hr
  obtain ⟨qs, h1, ⟨r0, cs0⟩, h2, r1, h3, cs1, h4, h5⟩ := hr
  simp only [Prod.mk.injEq] at h5
  obtain ⟨rfl, rfl⟩ := h5
  dsimp only at h3 h4
  let n := cs.length
  let J' : Bool → Nat → Prop := fun k b => k = false ∧ ((∃ k', J k' b) ∨ ∃ o, o < n ∧ b = β o)
  have hJ' : ∀ k b, J' k b → b < w.heap.size := fun k b hb => by
    rcases hb.2 with ⟨k', hk⟩ | ⟨o, ho, rfl⟩
    · exact hJ k' b hk
    · exact (hO.lt o ho).1
  have hargs' : RepL (ghIO J' (fun _ => 0) (fun _ => 0) 0) w qs args.toList := by
    refine RepL.conv (g := ghIO J β κ n) (g' := ghIO J' (fun _ => 0) (fun _ => 0) 0) (Rep.seen (fr := false) (n := 0) (s := initIO ps cs) (g := ghIO J β κ n) (g' := ghIO J' (fun _ => 0) (fun _ => 0) 0) (fun o c ho => hO.at_ o c ho) ⟨fun _ => ⟨fun k b hb => ⟨rfl, .inl ⟨k, hb⟩⟩, fun o ho => ?_⟩, fun e => by cases e⟩ fuel) hargs h1
    obtain ⟨c, hc⟩ := Option.isSome_iff_exists.1 ho
    exact ⟨rfl, .inr ⟨o, (List.getElem?_eq_some_iff.1 hc).1, rfl⟩⟩
  have hO' : ObjsIO J' w (fun _ => 0) (fun _ => 0) [] := ⟨fun o ho => by simp at ho, fun o o' ho => by simp at ho, fun o c ho => by simp at ho⟩
  refine (h w J' (fun _ => 0) (fun _ => 0) qs [] args r0 cs0 (by simpa using h2) hJ' hO' (hT.io fun t _ ⟨o, ho, _⟩ => by simp at ho) hargs').mono ?_
  rintro e w' ⟨v, β', κ', M, rfl, hfr, _, _, hnew, hM, hO2, hrep⟩
  have hfr' : ∀ b, b < w.heap.size → w'.heap[b]? = w.heap[b]? := fun b hb => hfr.block b hb (fun ⟨o, ho, _⟩ => by simp at ho)
  have hl1 := (mapM_get h4).1
  let β2 : Nat → Nat := fun o => if o < n then β o else β' (o - n)
  let κ2 : Nat → Nat := fun o => if o < n then κ o else κ' (o - n)
  have hTI : ∀ b, (ghIO (addN J' M) β' κ' cs0.length).I true b → (ghIO (addN J M) β2 κ2 (cs ++ cs1).length).I true b := fun b hb => by
    rcases hb with ⟨h6, _⟩ | ⟨_, h6⟩
    · cases h6
    · exact .inr ⟨rfl, h6⟩
  have hTo : ∀ o, (ghIO (addN J' M) β' κ' cs0.length).D o → (ghIO (addN J M) β2 κ2 (cs ++ cs1).length).β (n + o) = (ghIO (addN J' M) β' κ' cs0.length).β o ∧ (ghIO (addN J M) β2 κ2 (cs ++ cs1).length).κ (n + o) = (ghIO (addN J' M) β' κ' cs0.length).κ o ∧ (ghIO (addN J M) β2 κ2 (cs ++ cs1).length).D (n + o) := fun o ho => by
    have h6 : o < cs0.length := ho.1
    refine ⟨?_, ?_, ⟨?_, fun q => q⟩⟩
    · simp only [ghIO, β2]; rw [if_neg (by omega)]; congr 1; omega
    · simp only [ghIO, κ2]; rw [if_neg (by omega)]; congr 1; omega
    · simp only [ghIO, List.length_append]; omega
  have hblk : ∀ i, i < cs0.length → w.heap.size ≤ β' i ∧ β' i < w'.heap.size ∧ ∀ k, ¬ addN J' M k (β' i) := fun i hi => ⟨hnew i (Nat.zero_le _) hi, (hO2.lt i hi).1, (hO2.lt i hi).2⟩
  refine ⟨v, β2, κ2, M, rfl, ⟨hfr.os, hfr.tape, hfr.output, hfr.size, fun b hb _ => hfr' b hb⟩, by simp, fun o ho => ⟨by simp only [β2]; rw [if_pos ho], by simp only [κ2]; rw [if_pos ho]⟩, fun o h6 h7 => ?_, hM, ⟨fun o ho => ?_, fun o o' ho ho' he => ?_, fun o c hc => ?_⟩, Rep.renT (g := ghIO (addN J' M) β' κ' cs0.length) hTI hTo fuel _ _ _ hrep h3⟩
  · simp only [β2]
    rw [if_neg (by omega)]
    rw [List.length_append] at h7
    exact (hblk (o - n) (by omega)).1
  · rw [List.length_append] at ho
    simp only [β2]
    split
    · rename_i hlt
      refine ⟨Nat.lt_of_lt_of_le (hO.lt o hlt).1 hfr.size, fun k hb => ?_⟩
      rcases hb with hb | ⟨_, hb⟩
      · exact (hO.lt o hlt).2 k hb
      · have := (hM _ hb).1
        have := (hO.lt o hlt).1
        omega
    · rename_i hlt
      obtain ⟨k1, k2, k3⟩ := hblk (o - n) (by omega)
      refine ⟨k2, fun k hb => ?_⟩
      rcases hb with hb | ⟨hk, hb⟩
      · have := hJ k _ hb
        omega
      · exact k3 true (.inr ⟨rfl, hb⟩)
  · rw [List.length_append] at ho ho'
    simp only [β2] at he
    split at he
    · rename_i hlt
      split at he
      · rename_i hlt'
        exact hO.inj o o' hlt hlt' he
      · rename_i hlt'
        have := (hblk (o' - n) (by omega)).1
        have := (hO.lt o hlt).1
        omega
    · rename_i hlt
      split at he
      · rename_i hlt'
        have := (hblk (o - n) (by omega)).1
        have := (hO.lt o' hlt').1
        omega
      · rename_i hlt'
        have := hO2.inj (o - n) (o' - n) (by omega) (by omega) he
        omega
  · by_cases hlt : o < n
    · have hc0 : cs[o]? = some c := by rwa [List.getElem?_append_left hlt] at hc
      have h6 := hO.at_ o c hc0
      refine h6.mono (g := ghIO J β κ n) (g' := ghIO (addN J M) β2 κ2 (cs ++ cs1).length) ⟨fun k b hb => .inl hb, fun o1 ho1 => ⟨?_, fun q => q⟩, fun o1 ho1 => ?_, fun o1 ho1 => ?_⟩ ⟨hlt, fun q => q⟩ (fun k b hb => hfr' b (hJ k b hb)) (hfr' _ (hO.lt o hlt).1)
      · have h7 : o1 < n := ho1.1
        simp only [ghIO, List.length_append]; omega
      · have h7 : o1 < n := ho1.1
        simp only [ghIO, β2]; rw [if_pos h7]
      · have h7 : o1 < n := ho1.1
        simp only [ghIO, κ2]; rw [if_pos h7]
    · have hc1 : cs1[o - n]? = some c := by rwa [List.getElem?_append_right (by omega)] at hc
      obtain ⟨c0, hc0, hrc⟩ := mapM_at h4 hc1
      obtain ⟨⟨arr, m1, m2⟩, m3, m4⟩ := hO2.at_ (o - n) c0 hc0
      unfold renCT at hrc
      rw [Option.map_eq_some_iff] at hrc
      obtain ⟨es, h6, rfl⟩ := hrc
      have hl := (mapM_get h6).1
      have e1 : β2 o = β' (o - n) := by simp only [β2]; rw [if_neg hlt]
      have e2 : κ2 o = κ' (o - n) := by simp only [κ2]; rw [if_neg hlt]
      refine ⟨⟨arr, by simp only [ghIO, e1]; exact m1, by simp only [ghIO, e2]; exact m2⟩, by simp only [ghIO, e2, hl]; exact m3, ?_⟩
      simp only [ghIO, e1]
      exact RepEs.conv (g := ghIO (addN J' M) β' κ' cs0.length) (g' := ghIO (addN J M) β2 κ2 (cs ++ cs1).length) (Rep.renT (g := ghIO (addN J' M) β' κ' cs0.length) hTI hTo fuel) m4 h6
def pureN (Ψ : FunN) : Fun := fun ps => (Ψ ps).bind fun rc => reify true 0 (fun o => rc.2[o]?) fuel rc.1
theorem SoundN.pure {P : Program} {f : Nat} {Ψ : FunN} (h : SoundN P f Ψ) : Sound P f (pureN Ψ) := by
  intro w J ps args r hr hJ hT hargs
  unfold pureN at hr
  simp only [Option.bind_eq_some_iff] at hr
  obtain ⟨⟨r0, cs0⟩, h2, h3⟩ := hr
  dsimp only at h3
  let J' : Bool → Nat → Prop := fun k b => k = false ∧ J b
  have hO' : ObjsIO J' w (fun _ => 0) (fun _ => 0) [] := ⟨fun o ho => by simp at ho, fun o o' ho => by simp at ho, fun o c ho => by simp at ho⟩
  refine (h w J' (fun _ => 0) (fun _ => 0) ps [] args r0 cs0 (by simpa using h2) (fun k b hb => hJ b hb.2) hO' (hT.io fun t _ ⟨o, ho, _⟩ => by simp at ho) hargs).mono ?_
  rintro e w' ⟨v, β', κ', M, rfl, hfr, _, _, hnew, hM, hO2, hrep⟩
  refine ⟨v, rfl, ⟨hfr.os, hfr.tape, hfr.output, hfr.size, fun b hb => hfr.block b hb (fun ⟨o, ho, _⟩ => by simp at ho)⟩, fun g' hg => ?_⟩
  refine Rep.seen (fr := true) (n := 0) (s := initIO ps cs0) (g := ghIO (addN J' M) β' κ' cs0.length) (g' := g') (fun o c ho => hO2.at_ o c ho) ⟨fun e => (by cases e), fun _ => ⟨fun b hb => ?_, fun o ho _ => ?_⟩⟩ fuel _ _ _ hrep h3
  · rcases hb with ⟨h6, _⟩ | ⟨_, h6⟩
    · cases h6
    · exact hg b (hM b h6).1 (hM b h6).2
  · obtain ⟨c, hc⟩ := Option.isSome_iff_exists.1 ho
    have hlt := (List.getElem?_eq_some_iff.1 hc).1
    exact hg _ (hnew o (Nat.zero_le _) hlt) (hO2.lt o hlt).1
theorem SoundN.io {P : Program} {f : Nat} {Ψ : FunN} (h : SoundN P f Ψ) : SoundIO P f fun ps cs => if cs = [] then Ψ ps else none := h
section
variable {P : Program} {Γ : Ctx}
theorem sound_pqN (hm : P.follows .mixedOrders = true) {f : Nat} {fn : Func} {c : Code} {Ψ : FunN} (hΓ : SoundΓ P Γ) (hf : P.funcs[f]? = some fn) (hb : fn.body = some c) (N : Nat) (hN : fn.ntmps = N) (rs : List ResultVar) (hrs : fn.results.toList = rs) (hc : codeOk Γ true N c = true)
    (h : ∀ ps r cs', Ψ ps = some (r, cs') → ps.length ≤ N ∧ pq P Γ N c (PostIO P rs 0 r cs') (initS ps).tm noObs 0) : SoundN P f Ψ := by
  refine sound_pq0 hm hΓ hf hb N hN rs hrs hc fun ps cs r cs' hr => ?_
  split at hr
  · rename_i hcs
    exact ⟨hcs, h ps r cs' hr⟩
  · cases hr
end
section
variable {α β γ δ ρ : Type} {A : Dec α} {B : Dec β} {C : Dec γ} {D : Dec δ} {ps : List PV} {r : ρ}
def G1 (A : Dec α) (F : α → Option ρ) (ps : List PV) : Option ρ := match ps with | [p] => (A.d p).bind F | _ => none
theorem G1_some {F : α → Option ρ} (h : G1 A F ps = some r) : ∃ a, ps = [A.e a] ∧ F a = some r := by
  unfold G1 at h
  split at h
  · rw [Option.bind_eq_some_iff] at h
    obtain ⟨a, h1, h2⟩ := h
    exact ⟨a, by rw [A.h _ _ h1], h2⟩
  · cases h
theorem G1_ap {F : α → Option ρ} (a : α) : G1 A F [A.e a] = F a := by simp [G1, A.h']
end
def nC (T sz : Nat) (es : List PV) : List CellIO := match es with | [] => [] | _ :: _ => [(T, sz, es)]
theorem nC_pos {T sz : Nat} {es : List PV} (h : 0 < es.length) : nC T sz es = [(T, sz, es)] := by
  cases es with
  | nil => simp at h
  | cons e es => rfl
section
variable {Ψ : FunN} {α : Type} {g : α → Value} {l : List α} {T sz : Nat}
theorem liftN_of {ps qs : List PV} {cs cs0 cs1 : List CellIO} {r r1 : PV} (h1 : ps.mapM (reify false 0 (fun o => cs[o]?) fuel) = some qs) (h2 : Ψ qs = some (r, cs0)) (h3 : renT (cs.length + ·) fuel r = some r1) (h4 : cs0.mapM (renCT (cs.length + ·) fuel) = some cs1) : liftN Ψ ps cs = some (r1, cs ++ cs1) := by
  unfold liftN
  rw [h1, Option.bind_some, h2, Option.bind_some]
  dsimp only
  rw [h3, Option.bind_some, h4]
  rfl
theorem renT_flat {nm : Nat → Nat} : ∀ {f : Nat} {p : PV}, flatP f p = true → renT nm f p = some p
  | 0, _, h => by simp [flatP] at h
  | f + 1, p, h => by
    cases p with
    | val v => rfl
    | dead => rfl
    | agg cs =>
      have h2 : ∀ c ∈ cs, flatP f c = true := by simpa [flatP] using h
      simp only [Proofs.YtpggpdbipajchaaDoor.renT]
      rw [mapM_self fun c hc => renT_flat (h2 c hc)]
      rfl
    | _ => simp [flatP] at h
theorem renTM_flat {β : Type} {nm : Nat → Nat} {f : Nat} {g : β → PV} {l : List β} (h : ∀ x, flatP 2 (g x) = true) : (l.map g).mapM (renT nm (f + 2)) = some (l.map g) :=
  mapM_self fun e he => by obtain ⟨x, _, rfl⟩ := List.mem_map.1 he; exact renT_flat (flatP_mono (by omega) (h x))
theorem renCT_vals {nm : Nat → Nat} : renCT nm fuel (T, sz, l.map fun x => PV.val (g x)) = some (T, sz, l.map fun x => PV.val (g x)) := by
  unfold renCT
  show ((l.map fun x => PV.val (g x)).mapM (renT nm (6 + 2))).map _ = _
  rw [renTM_flat fun _ => rfl]
  rfl
theorem ioR_two {ob : Objs} {nx o T T2 sz sz2 : Nat} {es es2 : List PV} {r : PV} : ioR [o] ob nx (some (r, [(T, sz, es), (T2, sz2, es2)])) = (renF (outF [o] nx) fuel r).bind fun r' => (es.mapM (renF (outF [o] nx) fuel)).bind fun es' => (es2.mapM (renF (outF [o] nx) fuel)).map fun es2' => (r', upd (upd ob o (some (T, sz, es'))) nx (some (T2, sz2, es2')), nx + 1) := by
  unfold ioR
  simp only [mapM_cons', mapM_nil', renC]
  cases renF (outF [o] nx) fuel r with
  | none => rfl
  | some r' =>
    cases es.mapM (renF (outF [o] nx) fuel) with
    | none => rfl
    | some es' =>
      cases es2.mapM (renF (outF [o] nx) fuel) with
      | none => rfl
      | some es2' => 
        simp only [Option.map_some, Option.bind_some, List.length_cons, List.length_nil, Nat.zero_add, Nat.reduceAdd, Nat.reduceSub, Option.some.injEq, Prod.mk.injEq, true_and, and_true]
        show putObs ob [(outn [o] nx 0, _), (outn [o] nx 1, _)] = _
        simp only [putObs, outn, List.length_cons, List.length_nil, Nat.zero_add, Nat.lt_one_iff, if_true, Nat.one_ne_zero, if_false, Nat.sub_self, Nat.add_zero, List.getD_cons_zero]
end
theorem renM_fuel {nm : Nat → Option Nat} {l : List PV} : l.mapM (renF nm fuel) = l.mapM (renF nm 8) := rfl
attribute [push_cast]
  ioR_two renM_fuel
section
variable {P : Program} {Γ : Ctx}
theorem relIO_any (hm : P.follows .mixedOrders = true) {f : Nat} {fn : Func} {c : Code} (hΓ : SoundΓ P Γ) (hf : P.funcs[f]? = some fn) (hb : fn.body = some c) (N : Nat) (hN : fn.ntmps = N) (rs : List ResultVar) (hrs : fn.results.toList = rs) (hc : codeOk Γ true N c = true)
    (D : List PV → List CellIO → Prop) (R : List PV → List CellIO → PV → List CellIO → Prop) (hlen : ∀ ps cs, D ps cs → ps.length ≤ N)
    (h : ∀ ps cs, D ps cs → pq P Γ N c (fun x s' => ∃ r cs', R ps cs r cs' ∧ PostIO P rs cs.length r cs' x s') (initS ps).tm (fun o => cs[o]?) cs.length) : ∃ Φ : FunIO, SoundIO P f Φ ∧ ∀ ps cs, D ps cs → ∃ r cs', Φ ps cs = some (r, cs') ∧ R ps cs r cs' := by
  classical
  subst hN hrs
  let Z : List PV → List CellIO → PV × List CellIO → Prop := fun ps cs r => D ps cs ∧ R ps cs r.1 r.2 ∧ ∃ x s', Ev P Γ fn.ntmps c (initIO ps cs) x s' ∧ PostIO P fn.results.toList cs.length r.1 r.2 x s'
  let Φ : FunIO := fun ps cs => if h : ∃ r, Z ps cs r then some (Classical.choose h) else none
  have hΦ : ∀ ps cs r, Φ ps cs = some r → Z ps cs r := fun ps cs r hr => by
    simp only [Φ] at hr
    split at hr
    · rename_i hz
      cases hr
      exact Classical.choose_spec hz
    · cases hr
  refine ⟨Φ, soundIO_of_ev hΓ hf hb (fun ps cs r hr => hlen ps cs (hΦ ps cs r hr).1) fun ps cs r cs' hr => ?_, fun ps cs hd => ?_⟩
  · obtain ⟨_, _, x, s', h1, h2, news, h3, h4, h5, h6⟩ := hΦ ps cs (r, cs') hr
    rw [Option.bind_eq_some_iff] at h5
    obtain ⟨qs, h8, h9⟩ := h5
    refine ⟨x, s', qs, List.range cs.length ++ news, h1, h2, h8, h9, by simp, fun o ho => ?_, ?_, h6⟩
    · rw [List.getElem?_append_left (by simpa using ho), List.getElem?_range ho]
    · rw [List.nodup_append]
      exact ⟨List.nodup_range, h4, fun a ha b hb e => by
        have := h3 b hb
        have := List.mem_range.1 ha
        omega⟩
  · obtain ⟨x, s', h1, r, cs', h2, h3⟩ := pw_ok (mixed := true) (fun _ => hm) c _ _ hc (h ps cs hd)
    have hz : ∃ r, Z ps cs r := ⟨(r, cs'), hd, h2, x, s', h1, h3⟩
    have he : Φ ps cs = some (Classical.choose hz) := by simp only [Φ]; rw [dif_pos hz]
    exact ⟨(Classical.choose hz).1, (Classical.choose hz).2, he, (hΦ ps cs _ he).2.1⟩
end
section
variable {P : Program} {tm : Nat → PV} {ob : Objs} {nx : Nat} {rs : List ResultVar} {r : PV} {c' : CellIO} {x : X} {R : PV → List CellIO → Prop}
theorem i_any1 (hx : x = .normal ∨ x = .ret) (h1 : ((resPs P ⟨tm, ob, nx⟩ rs).bind fun qs => handF [0] ob fuel (onePV qs)) = some r) (h2 : handC [0] ob fuel 0 = some c') (hR : R r [c']) : ∃ r cs', R r cs' ∧ PostIO P rs 1 r cs' x ⟨tm, ob, nx⟩ := ⟨r, [c'], hR, i_end1 hx h1 h2⟩
theorem i_any0 (hx : x = .normal ∨ x = .ret) (h1 : ((resPs P ⟨tm, ob, nx⟩ rs).bind fun qs => handF [] ob fuel (onePV qs)) = some r) (hR : R r []) : ∃ r cs', R r cs' ∧ PostIO P rs 0 r cs' x ⟨tm, ob, nx⟩ := ⟨r, [], hR, i_endN0 hx h1⟩
end
end Go.Proofs.YtpggpdbipajchaaDoor
namespace Go.Proofs.YtpggpdbipajchaaDoor
open Go.RowKit
set_option linter.unusedVariables false
def inB (n a b : Int) : Bool := decide (a ≤ n) && decide (n ≤ b)
theorem inB_iff {n a b : Int} : inB n a b = true ↔ a ≤ n ∧ n ≤ b := by simp [inB]
theorem below_trans {a w w' : World} (h : Below a.heap.size a w) (k : Below w.heap.size w w') : Below a.heap.size a w' :=
  h.trans (k.mono h.size)
theorem below_alloc {a w : World} {o : Obj} (h : Below a.heap.size a w) : Below a.heap.size a (w.alloc o) := h.alloc h.size o
def OwnC (w : World) (b : Nat) (cs : Array Value) (T : Nat) : Prop := w.heap[b]? = some (.cells cs T (0, 0))
theorem OwnC.facts {w : World} {b : Nat} {cs : Array Value} {T : Nat} (h : OwnC w b cs T) : (∀ j, w.cell? ⟨b, j, none⟩ = cs[j]?) ∧ (∀ j, w.frozen? ⟨b, j, none⟩ = false) ∧ b < w.heap.size := by
  unfold OwnC at h
  exact ⟨fun j => by simp [World.cell?, h], fun j => by simp [World.frozen?, h], (Array.getElem?_eq_some_iff.1 h).1⟩
theorem OwnC.lt {w : World} {b : Nat} {cs : Array Value} {T : Nat} (h : OwnC w b cs T) : b < w.heap.size := h.facts.2.2
theorem OwnC.new (w : World) (cs : Array Value) (T : Nat) : OwnC (w.alloc (.cells cs T)) w.heap.size cs T := heap_alloc_new w _
theorem OwnC.below {w w' : World} {b : Nat} {cs : Array Value} {T : Nat} (h : OwnC w b cs T) (hb : Below w.heap.size w w') : OwnC w' b cs T := by
  unfold OwnC; rw [hb.block b h.lt]; exact h
theorem OwnC.alloc {w : World} {b : Nat} {cs : Array Value} {T : Nat} (h : OwnC w b cs T) (o : Obj) : OwnC (w.alloc o) b cs T :=
  h.below ((Below.refl _ _).alloc (Nat.le_refl _) o)
theorem OwnC.drew {w : World} {b : Nat} {cs : Array Value} {T : Nat} (h : OwnC w b cs T) : OwnC w.drew b cs T := h
theorem OwnC.drewN {w : World} {b : Nat} {cs : Array Value} {T : Nat} (h : OwnC w b cs T) (n : Nat) : OwnC (w.drewN n) b cs T := h
theorem OwnC.set {w : World} {b : Nat} {cs : Array Value} {T : Nat} (h : OwnC w b cs T) (j : Nat) (u : Value) : OwnC (w.setCell ⟨b, j, none⟩ u) b (cs.setIfInBounds j u) T := by
  unfold OwnC at *; simp [World.setCell, Array.getElem?_modify, h]
def Sl (w : World) (k : Nat) (v : Value) (n : Nat) (cs : List Value) : Prop :=
  ∃ a cap b off, v = .slice a n cap ∧ cs.length = n * k ∧ n ≤ cap ∧ cap ≤ maxLen ∧ (0 < n → a = some ⟨b, off, none⟩) ∧ ∀ i, i < n * k → w.cell? ⟨b, off + i, none⟩ = cs[i]?
theorem Sl.below {w w' : World} {k : Nat} {v : Value} {n : Nat} {cs : List Value} (h : Sl w k v n cs) (hb : Below w.heap.size w w') : Sl w' k v n cs := by
  obtain ⟨a, cap, b, off, h1, h2, h3, h4, h5, h6⟩ := h
  refine ⟨a, cap, b, off, h1, h2, h3, h4, h5, fun i hi => ?_⟩
  have hc := h6 i hi
  have hs : cs[i]? = some (cs[i]'(by omega)) := List.getElem?_eq_getElem _
  rw [hs] at hc ⊢
  rw [hb.cell (p := ⟨b, off + i, none⟩) (World.block_lt_of_cell? w _ hc)]
  exact hc
end Go.Proofs.YtpggpdbipajchaaDoor
namespace Go.Proofs.YtpggpdbipajchaaDoor
open Go.RowKit
set_option linter.unusedVariables false
structure IntsAt (w : World) (a : Option Addr) (n cap : Nat) (zs : List Int) : Prop where
  len : zs.length = n
  le_cap : n ≤ cap
  cap_max : cap ≤ 9223372036854775807
  rng : ∀ i : Nat, -9223372036854775808 ≤ zs[i]?.getD 0 ∧ zs[i]?.getD 0 ≤ 9223372036854775807
  at_ : 0 < n → ∃ b off, a = some ⟨b, off, none⟩ ∧ ∀ i : Nat, i < n → w.cell? ⟨b, off + i, none⟩ = some (.int .i64 (zs[i]?.getD 0))
theorem IntsAt.below {w w' : World} {a : Option Addr} {n cap : Nat} {zs : List Int} (h : IntsAt w a n cap zs) (hb : Below w.heap.size w w') : IntsAt w' a n cap zs :=
  ⟨h.len, h.le_cap, h.cap_max, h.rng, fun h0 => by
    obtain ⟨b, off, rfl, hc⟩ := h.at_ h0
    exact ⟨b, off, rfl, fun i hi => (hb.cell (World.block_lt_of_cell? w _ (hc i hi))).trans (hc i hi)⟩⟩
structure StrsAt (w : World) (a : Option Addr) (n cap : Nat) (ss : List ByteArray) : Prop where
  len : ss.length = n
  le_cap : n ≤ cap
  cap_max : cap ≤ 9223372036854775807
  rng : ∀ i : Nat, (ss[i]?.getD ByteArray.empty).size ≤ 9223372036854775807
  at_ : 0 < n → ∃ b off, a = some ⟨b, off, none⟩ ∧ ∀ i : Nat, i < n → w.cell? ⟨b, off + i, none⟩ = some (.string (ss[i]?.getD ByteArray.empty))
theorem StrsAt.below {w w' : World} {a : Option Addr} {n cap : Nat} {ss : List ByteArray} (h : StrsAt w a n cap ss) (hb : Below w.heap.size w w') : StrsAt w' a n cap ss :=
  ⟨h.len, h.le_cap, h.cap_max, h.rng, fun h0 => by
    obtain ⟨b, off, rfl, hc⟩ := h.at_ h0
    exact ⟨b, off, rfl, fun i hi => (hb.cell (World.block_lt_of_cell? w _ (hc i hi))).trans (hc i hi)⟩⟩
def okPage (zs : List Int) (i : Nat) : Bool := inB (zs[i]?.getD 0) 1 999 && (i == 0 || decide (zs[i - 1]?.getD 0 < zs[i]?.getD 0))
def okPages (zs : List Int) (k : Nat) : Bool := (List.range k).all (okPage zs)
def pagesB (zs : List Int) : Bool := okPages zs zs.length && decide (zs.length ≤ 30)
theorem okPages_succ (zs : List Int) (k : Nat) : okPages zs (k + 1) = (okPages zs k && okPage zs k) := by
  simp [okPages, List.range_succ]
theorem okPages_mono {zs : List Int} {k n : Nat} (h : k < n) (hk : okPage zs k = false) : okPages zs n = false := by
  simp only [okPages, List.all_eq_false]
  exact ⟨k, by simpa using h, by simp [hk]⟩
end Go.Proofs.YtpggpdbipajchaaDoor
namespace Go.Proofs.YtpggpdbipajchaaDoor
open Go.RowKit
set_option linter.all false
noncomputable def GE : Ctx := ⟨fun f => none, fun f => none⟩
theorem GE_ok : SoundΓ Tryd.prog GE := ⟨(fun f φ h => by
  unfold GE at h
  dsimp only at h
  cases h), (fun f φ h => by
  unfold GE at h
  dsimp only at h
  cases h)⟩
def φIn : Fun := F3 dI dI dI fun n a b => some (bv (inB n a b))
theorem φIn_ap (n a b : Int) : φIn [.val (.int .i64 n), .val (.int .i64 a), .val (.int .i64 b)] = some (.val (.bool (inB n a b))) := rfl
theorem l1In_ok : Sound Tryd.prog 48 φIn := by
  refine sound_pq mixed GE_ok Tryd.func48 rfl 15 rfl [.tmp 6] rfl (by kernel_rfl) fun ps r hr => ?_
  obtain ⟨n, a, b, rfl, hr⟩ := F3_some hr
  cases hr
  refine ⟨by simp, ?_⟩
  simp only [dIs, dUs, dSs, dI_e, dU_e, dB_e, dS_e, dFn_e, dL_e, dA2_e, dA3_e, dA4_e, dA5_e]
  repeat' (first | (with_reducible first | apply i_seq | apply i_block | apply i_skip | apply i_exit | apply i_ret | apply i_kS | apply i_kSx | apply i_kSr | apply i_kL | apply i_kLx | apply i_kLr | apply i_kB | apply i_kBr | apply i_kBs | apply i_nil) | ((with_reducible apply i_region); (focus (simp only [List.map_cons, List.map_nil] <;> exact rfl))) | ((with_reducible apply i_draw); (focus (simp only [List.map_cons, List.map_nil] <;> exact rfl)); (focus (decide +kernel))) | ((with_reducible apply i_kBo); (focus rfl)) | ((first | ((with_reducible apply i_V); (focus rfl); (focus rfl); (focus rfl)) | ((with_reducible apply i_E); (focus rfl); (focus (first | rfl | (simp only [push_cast, ↓reduceIte, effOk, touch, refsOf, List.flatMap_cons, List.flatMap_nil])))) | ((with_reducible apply i_S); (focus rfl); (focus (first | rfl | (simp only [push_cast, ↓reduceIte, effOk, touch, refsOf, List.flatMap_cons, List.flatMap_nil])))) | ((with_reducible apply i_Vq); (focus rfl); (focus rfl)) | ((with_reducible apply i_Vp); (focus rfl); (focus rfl); (focus rfl)) | (with_reducible first | apply i_Gb | apply i_cond)); (focus (simp (disch := (first | omega | (simp only [push_cast]; done) | (simp only [push_cast]; omega) | ((try simp only [push_cast]); (with_reducible first | apply sel_lt | apply sel_ge); (focus decide); (focus (simp only [push_cast]; omega))))) only [push_cast, ↓reduceIte, Nat.reduceEqDiff, Nat.reduceBEq, Nat.reduceAdd, Nat.reduceSub, Int.reduceToNat, *] <;> with_reducible exact rfl)); all_goals try (intro hX; first | (cases hX; done) | ((with_reducible first | have hX0 : true = true := hX | have hX0 : false = false := hX); clear hX0 hX) | ((try simp only [decide_eq_true_eq, decide_eq_false_iff_not, Bool.not_eq_true', Bool.not_eq_false'] at hX); (try have hXb := inB_iff.1 hX)))))
  all_goals ((first | apply i_end | apply i_endN); simp (disch := (first | omega | (simp only [push_cast]; done) | (simp only [push_cast]; omega) | ((try simp only [push_cast]); (with_reducible first | apply sel_lt | apply sel_ge); (focus decide); (focus (simp only [push_cast]; omega))))) only [push_cast, ↓reduceIte, Nat.reduceEqDiff, Nat.reduceBEq, Nat.reduceAdd, Nat.reduceSub, Int.reduceToNat, *])
  all_goals (first | (simp_all [inB]; done) | (simp_all [inB]; omega))
theorem in_ok : Sound Tryd.prog 86 φIn := by
  refine sound_pq mixed GE_ok Tryd.func86 rfl 15 rfl [.tmp 6] rfl (by kernel_rfl) fun ps r hr => ?_
  obtain ⟨n, a, b, rfl, hr⟩ := F3_some hr
  cases hr
  refine ⟨by simp, ?_⟩
  simp only [dIs, dUs, dSs, dI_e, dU_e, dB_e, dS_e, dFn_e, dL_e, dA2_e, dA3_e, dA4_e, dA5_e]
  repeat' (first | (with_reducible first | apply i_seq | apply i_block | apply i_skip | apply i_exit | apply i_ret | apply i_kS | apply i_kSx | apply i_kSr | apply i_kL | apply i_kLx | apply i_kLr | apply i_kB | apply i_kBr | apply i_kBs | apply i_nil) | ((with_reducible apply i_region); (focus (simp only [List.map_cons, List.map_nil] <;> exact rfl))) | ((with_reducible apply i_draw); (focus (simp only [List.map_cons, List.map_nil] <;> exact rfl)); (focus (decide +kernel))) | ((with_reducible apply i_kBo); (focus rfl)) | ((first | ((with_reducible apply i_V); (focus rfl); (focus rfl); (focus rfl)) | ((with_reducible apply i_E); (focus rfl); (focus (first | rfl | (simp only [push_cast, ↓reduceIte, effOk, touch, refsOf, List.flatMap_cons, List.flatMap_nil])))) | ((with_reducible apply i_S); (focus rfl); (focus (first | rfl | (simp only [push_cast, ↓reduceIte, effOk, touch, refsOf, List.flatMap_cons, List.flatMap_nil])))) | ((with_reducible apply i_Vq); (focus rfl); (focus rfl)) | ((with_reducible apply i_Vp); (focus rfl); (focus rfl); (focus rfl)) | (with_reducible first | apply i_Gb | apply i_cond)); (focus (simp (disch := (first | omega | (simp only [push_cast]; done) | (simp only [push_cast]; omega) | ((try simp only [push_cast]); (with_reducible first | apply sel_lt | apply sel_ge); (focus decide); (focus (simp only [push_cast]; omega))))) only [push_cast, ↓reduceIte, Nat.reduceEqDiff, Nat.reduceBEq, Nat.reduceAdd, Nat.reduceSub, Int.reduceToNat, *] <;> with_reducible exact rfl)); all_goals try (intro hX; first | (cases hX; done) | ((with_reducible first | have hX0 : true = true := hX | have hX0 : false = false := hX); clear hX0 hX) | ((try simp only [decide_eq_true_eq, decide_eq_false_iff_not, Bool.not_eq_true', Bool.not_eq_false'] at hX); (try have hXb := inB_iff.1 hX)))))
  all_goals ((first | apply i_end | apply i_endN); simp (disch := (first | omega | (simp only [push_cast]; done) | (simp only [push_cast]; omega) | ((try simp only [push_cast]); (with_reducible first | apply sel_lt | apply sel_ge); (focus decide); (focus (simp only [push_cast]; omega))))) only [push_cast, ↓reduceIte, Nat.reduceEqDiff, Nat.reduceBEq, Nat.reduceAdd, Nat.reduceSub, Int.reduceToNat, *])
  all_goals (first | (simp_all [inB]; done) | (simp_all [inB]; omega))
end Go.Proofs.YtpggpdbipajchaaDoor
namespace Go.Proofs.YtpggpdbipajchaaDoor
open Go.RowKit
set_option linter.all false
def φPage : Fun := F1 dI fun n => some (bv (inB n 1 999))
theorem φPage_ap (n : Int) : φPage [.val (.int .i64 n)] = some (.val (.bool (inB n 1 999))) := rfl
noncomputable def GPg : Ctx := ⟨fun f => if f = 86 then some φIn else none, fun f => none⟩
theorem GPg_ok : SoundΓ Tryd.prog GPg := ⟨(fun f φ h => by
  unfold GPg at h
  dsimp only at h
  split at h
  · rename_i hf; cases h; subst hf; exact ⟨⟨_, Tryd.func86, rfl, rfl⟩, in_ok⟩
  cases h), (fun f φ h => by
  unfold GPg at h
  dsimp only at h
  cases h)⟩
theorem GPg_86 (ob : Objs) (ps : List PV) : evCall GPg ob 86 ps = (ps.mapM (reify false 0 ob fuel)).bind φIn := by
  have h : GPg.fn 86 = some φIn := by simp [GPg]
  unfold evCall
  rw [h]
  cases ps.mapM (reify false 0 ob fuel) <;> rfl
theorem isPage_ok : Sound Tryd.prog 52 φPage := by
  refine sound_pq mixed GPg_ok Tryd.func52 rfl 5 rfl [.tmp 2] rfl (by kernel_rfl) fun ps r hr => ?_
  obtain ⟨n, rfl, hr⟩ := F1_some hr
  cases hr
  refine ⟨by simp, ?_⟩
  simp only [dIs, dUs, dSs, dI_e, dU_e, dB_e, dS_e, dFn_e, dL_e, dA2_e, dA3_e, dA4_e, dA5_e]
  have gpg_c86 := GPg_86; have ap := φIn_ap
  repeat' (first | (with_reducible first | apply i_seq | apply i_block | apply i_skip | apply i_exit | apply i_ret | apply i_kS | apply i_kSx | apply i_kSr | apply i_kL | apply i_kLx | apply i_kLr | apply i_kB | apply i_kBr | apply i_kBs | apply i_nil) | ((with_reducible apply i_region); (focus (simp only [List.map_cons, List.map_nil] <;> exact rfl))) | ((with_reducible apply i_draw); (focus (simp only [List.map_cons, List.map_nil] <;> exact rfl)); (focus (decide +kernel))) | ((with_reducible apply i_kBo); (focus rfl)) | ((first | ((with_reducible apply i_V); (focus rfl); (focus rfl); (focus rfl)) | ((with_reducible apply i_E); (focus rfl); (focus (first | rfl | (simp only [push_cast, ↓reduceIte, effOk, touch, refsOf, List.flatMap_cons, List.flatMap_nil])))) | ((with_reducible apply i_S); (focus rfl); (focus (first | rfl | (simp only [push_cast, ↓reduceIte, effOk, touch, refsOf, List.flatMap_cons, List.flatMap_nil])))) | ((with_reducible apply i_Vq); (focus rfl); (focus rfl)) | ((with_reducible apply i_Vp); (focus rfl); (focus rfl); (focus rfl)) | (with_reducible first | apply i_Gb | apply i_cond)); (focus (simp (disch := (first | omega | (simp only [push_cast]; done) | (simp only [push_cast]; omega) | ((try simp only [push_cast]); (with_reducible first | apply sel_lt | apply sel_ge); (focus decide); (focus (simp only [push_cast]; omega))))) only [push_cast, ↓reduceIte, Nat.reduceEqDiff, Nat.reduceBEq, Nat.reduceAdd, Nat.reduceSub, Int.reduceToNat, *] <;> with_reducible exact rfl)); all_goals try (intro hX; first | (cases hX; done) | ((with_reducible first | have hX0 : true = true := hX | have hX0 : false = false := hX); clear hX0 hX) | ((try simp only [decide_eq_true_eq, decide_eq_false_iff_not, Bool.not_eq_true', Bool.not_eq_false'] at hX); (try have hXb := inB_iff.1 hX)))))
  all_goals ((first | apply i_end | apply i_endN); simp (disch := (first | omega | (simp only [push_cast]; done) | (simp only [push_cast]; omega) | ((try simp only [push_cast]); (with_reducible first | apply sel_lt | apply sel_ge); (focus decide); (focus (simp only [push_cast]; omega))))) only [push_cast, ↓reduceIte, Nat.reduceEqDiff, Nat.reduceBEq, Nat.reduceAdd, Nat.reduceSub, Int.reduceToNat, *])
end Go.Proofs.YtpggpdbipajchaaDoor
namespace Go.Proofs.YtpggpdbipajchaaDoor
open Go.RowKit
set_option linter.all false
abbrev LS := List ByteArray
section
variable {α β : Type} {n sz sz' f i : Nat} {ob : Objs} {k k' fr : Bool} {l : List LS}
theorem get_ss {g : LS → PV} (h : i < l.length) : ((l[i]?).map g).getD .dead = g ((l[i]?).getD []) := by simp [h]
theorem omg_ss {g : LS → β} (h : i < l.length) : Option.map g l[i]? = some (g ((l[i]?).getD [])) := by simp [h]
theorem mapM_maps {F : PV → Option PV} {g g' : α → PV} (h : ∀ x, F (g x) = some (g' x)) : ∀ {l : List α}, (l.map g).mapM F = some (l.map g')
  | [] => rfl
  | x :: l => by rw [List.map_cons, List.mapM_cons, h x, mapM_maps h]; rfl
theorem reify_strs {m : Nat} {p : LS} : reify false m ob (f + 2) (.lst k sz (p.map fun s => .val (.string s))) = some (.lst false sz (p.map fun s => .val (.string s))) := reifyS_vals
theorem reify_strsT {m : Nat} {p : LS} : reify fr m ob (f + 2) (.lst true sz (p.map fun s => .val (.string s))) = some (.lst fr sz (p.map fun s => .val (.string s))) := by
  cases fr
  · exact reifyS_vals
  · exact reifyT_vals
theorem reifyS_lsts : reify false n ob (f + 3) (.lst k sz (l.map fun p => .lst k' sz' (p.map fun s => .val (.string s)))) = some (.lst false sz (l.map fun p => .lst false sz' (p.map fun s => .val (.string s)))) := by
  show (if false = true ∧ k = false ∧ (l.map fun p => PV.lst k' sz' (p.map fun s => PV.val (.string s))) ≠ [] then none else ((l.map fun p => PV.lst k' sz' (p.map fun s => PV.val (.string s))).mapM (reify false n ob (f + 2))).map (PV.lst false sz)) = _
  rw [mapM_maps (g' := fun p => PV.lst false sz' (p.map fun s => PV.val (.string s))) fun p => reify_strs]
  simp
theorem reifyT_lsts : reify true n ob (f + 3) (.lst true sz (l.map fun p => .lst true sz' (p.map fun s => .val (.string s)))) = some (.lst true sz (l.map fun p => .lst true sz' (p.map fun s => .val (.string s)))) := by
  show (if true = true ∧ true = false ∧ (l.map fun p => PV.lst true sz' (p.map fun s => PV.val (.string s))) ≠ [] then none else ((l.map fun p => PV.lst true sz' (p.map fun s => PV.val (.string s))).mapM (reify true n ob (f + 2))).map (PV.lst true sz)) = _
  rw [mapM_maps (g' := fun p => PV.lst true sz' (p.map fun s => PV.val (.string s))) fun p => reify_strsT]
  simp
theorem rowRe_lsts {m T : Nat} (hm : m = l.length) : rowRe fr (f + 2) ob sz 0 m (some (T, sz, l.map fun p => .lst true sz' (p.map fun s => .val (.string s)))) = some (.lst fr sz (l.map fun p => .lst fr sz' (p.map fun s => .val (.string s)))) := by
  subst hm
  have e : ((l.map fun p => PV.lst true sz' (p.map fun s => PV.val (.string s))).drop 0).take l.length = l.map fun p => PV.lst true sz' (p.map fun s => PV.val (.string s)) := by
    rw [List.drop_zero, List.take_of_length_le (by simp)]
  have e2 := mapM_maps (l := l) (F := reify fr 0 ob (f + 2)) (g := fun p => PV.lst true sz' (p.map fun s => PV.val (.string s))) (g' := fun p => PV.lst fr sz' (p.map fun s => PV.val (.string s))) fun p => reify_strsT
  simp only [rowRe, e, e2, Nat.zero_add, List.length_map, Nat.le_refl, and_self, if_true, Option.map_some]
end
attribute [push_cast]
  get_ss omg_ss reifyS_lsts reifyT_lsts rowRe_lsts
theorem eq_of_getDK {α : Type} {d : α} {xs ys : List α} (hl : xs.length = ys.length) (h : ∀ j, j < xs.length → xs[j]?.getD d = ys[j]?.getD d) : xs = ys := by
  apply List.ext_getElem hl
  intro i h1 h2
  have := h i h1
  simpa [h1, h2] using this
def smallC (c : Int) : Bool := inB c 97 122
def digC (c : Int) : Bool := inB c 48 57
def prevD (s : ByteArray) (k : Nat) : Bool := decide (0 < k) && digC (at8 s (k - 1))
def patAt (s : ByteArray) (k : Nat) : Bool := smallC (at8 s k) || (digC (at8 s k) && !prevD s k) || (decide (at8 s k = 46) && (decide (k = 0) || decide (k + 1 = s.size)))
def anyS (s : ByteArray) (k : Nat) : Bool := (List.range k).any fun j => smallC (at8 s j)
def patB (s : ByteArray) : Bool := (List.range s.size).all (patAt s) && (anyS s s.size && decide (s.size ≤ 12))
theorem patB_yes {s : ByteArray} (h : ∀ j, j < s.size → patAt s j = true) : patB s = (anyS s s.size && decide (s.size ≤ 12)) := by
  have : (List.range s.size).all (patAt s) = true := by
    rw [List.all_eq_true]
    exact fun k hk => h k (List.mem_range.1 hk)
  simp [patB, this]
structure PatI (s : ByteArray) (k : Nat) (n : Int) : Prop where
  kk : k ≤ s.size
  n0 : 0 ≤ n
  n1 : n ≤ k
  all : ∀ j, j < k → patAt s j = true
  any : decide (0 < n) = anyS s k
theorem PatI.zero (s : ByteArray) : PatI s 0 0 := ⟨Nat.zero_le _, by omega, by omega, fun j hj => by omega, rfl⟩
theorem PatI.done {s : ByteArray} {k : Nat} {n : Int} (h : PatI s k n) (hk : ¬ k < s.size) : patB s = (decide (0 < n) && decide (s.size ≤ 12)) := by
  have hk2 := h.kk
  have : k = s.size := by omega
  subst this
  rw [patB_yes h.all, h.any]
end Go.Proofs.YtpggpdbipajchaaDoor
namespace Go.Proofs.YtpggpdbipajchaaDoor
open Go.RowKit
set_option linter.all false
theorem at8_u {s : ByteArray} {j : Nat} (h : j < s.data.toList.length) : at8 s j = (s.data.toList[j].toNat : Int) := by
  have hl : s.data.toList.length = s.size := Array.length_toList
  have e : s[j]? = some s.data.toList[j] := by
    rw [getElem?_pos s j (by omega)]
    congr 1
  unfold at8
  rw [e]
  rfl
end Go.Proofs.YtpggpdbipajchaaDoor
namespace Go.Proofs.YtpggpdbipajchaaDoor
open Go.RowKit
set_option linter.all false
def NumI (n m : Int) (out : ByteArray) : Prop := Lib.decDigits n.toNat = (if m < 10 then [] else Lib.decDigits (m / 10).toNat) ++ out.data.toList
theorem dec_small {m : Int} (h0 : 0 ≤ m) (h : m < 10) : Lib.decDigits m.toNat = [UInt8.ofNat (48 + (m % 10).toNat)] := by
  rw [Lib.decDigits, dif_pos (by omega)]
  congr 2
  omega
theorem dec_big {m : Int} (h : ¬ m < 10) : Lib.decDigits m.toNat = Lib.decDigits (m / 10).toNat ++ [UInt8.ofNat (48 + (m % 10).toNat)] := by
  rw [Lib.decDigits, dif_neg (by omega), show m.toNat / 10 = (m / 10).toNat by omega, show m.toNat % 10 = (m % 10).toNat by omega]
abbrev digB (m : Int) : ByteArray := bytesOf [IntKind.u8.wrap (48 + m % 10)]
theorem digB_data (m : Int) : (digB m).data.toList = [UInt8.ofNat (48 + (m % 10).toNat)] := by
  have e : IntKind.u8.wrap (48 + m % 10) = 48 + m % 10 := by
    rw [IntKind.wrap_u8]
    omega
  have e2 : (48 + m % 10).toNat = 48 + (m % 10).toNat := by omega
  unfold digB bytesOf
  rw [e]
  simp [e2]
theorem NumI.start {n : Int} (h : 0 ≤ n) : NumI n n (digB n) := by
  unfold NumI
  split
  · rw [dec_small h (by assumption), digB_data]; rfl
  · rw [dec_big (by assumption), digB_data]
theorem NumI.step {n m : Int} {out : ByteArray} (h : NumI n m out) (h0 : 9 < m) : NumI n (m / 10) (digB (m / 10) ++ out) := by
  unfold NumI at h ⊢
  rw [if_neg (by omega)] at h
  rw [h]
  have e : (digB (m / 10) ++ out).data.toList = [UInt8.ofNat (48 + (m / 10 % 10).toNat)] ++ out.data.toList := by
    rw [ByteArray.data_append, Array.toList_append, digB_data]
  rw [e, ← List.append_assoc]
  congr 1
  split
  · rw [dec_small (by omega) (by assumption)]; rfl
  · rw [dec_big (by assumption)]
theorem NumI.stop {n m : Int} {out : ByteArray} (h : NumI n m out) (hn : 0 ≤ n) (h0 : ¬ 9 < m) : out = itoaS n := by
  unfold NumI at h
  rw [if_pos (by omega), List.nil_append] at h
  unfold itoaS Lib.itoa
  rw [if_neg (by omega), h]
theorem dec_head : ∀ (u : Nat), ∃ b r, Lib.decDigits u = b :: r ∧ 48 ≤ b.toNat := fun u => by
  induction u using Nat.strongRecOn with
  | _ u ih =>
    by_cases h : u < 10
    · refine ⟨_, [], by rw [Lib.decDigits, dif_pos h], ?_⟩
      show 48 ≤ (48 + u) % 256
      omega
    · obtain ⟨b, r, h1, h2⟩ := ih (u / 10) (by omega)
      exact ⟨b, r ++ [UInt8.ofNat (48 + u % 10)], by rw [Lib.decDigits, dif_neg h, h1]; rfl, h2⟩
theorem itoaS_head {n : Int} (h : 0 ≤ n) : 0 < (itoaS n).size ∧ 48 ≤ at8 (itoaS n) 0 := by
  obtain ⟨b, r, h1, h2⟩ := dec_head n.toNat
  have e : (itoaS n).data.toList = b :: r := by
    unfold itoaS Lib.itoa
    rw [if_neg (by omega), h1]
  have hl : (itoaS n).data.toList.length = (itoaS n).size := Array.length_toList
  have h3 : 0 < (itoaS n).data.toList.length := by rw [e]; simp
  refine ⟨by omega, ?_⟩
  rw [at8_u h3]
  have : (itoaS n).data.toList[0] = b := by simp only [e, List.getElem_cons_zero]
  rw [this]
  omega
def φNum : Fun := F1 dI fun n => if 0 ≤ n ∧ n ≤ 1099511627776 then some (.val (.string (itoaS n))) else none
theorem φNum_ap {n : Int} (h : 0 ≤ n) (h2 : n ≤ 1099511627776) : φNum [.val (.int .i64 n)] = some (.val (.string (itoaS n))) := (F1_ap (A := dI) n).trans (if_pos ⟨h, h2⟩)
set_option maxHeartbeats 8000000 in
theorem num_ok : Sound Tryd.prog 50 φNum := by
  refine sound_pq mixed GE_ok Tryd.func50 rfl 23 rfl [.tmp 2] rfl (by kernel_rfl) fun ps r hr => ?_
  obtain ⟨n, rfl, hq⟩ := F1_some hr
  clear hr
  split at hq
  case isFalse => cases hq
  case isTrue hpre =>
  cases hq
  refine ⟨by simp, ?_⟩
  simp only [dIs, dUs, dSs, dI_e, dU_e, dB_e, dS_e, dFn_e, dL_e, dA2_e, dA3_e, dA4_e, dA5_e]
  obtain ⟨h0, h1⟩ := hpre
  have hst := Lib.hid (NumI.start h0)
  have hd9 : 0 ≤ n % 10 ∧ n % 10 ≤ 9 := by omega
  (repeat' (first | (with_reducible first | apply i_seq | apply i_block | apply i_skip | apply i_exit | apply i_ret | apply i_kS | apply i_kSx | apply i_kSr | apply i_kL | apply i_kLx | apply i_kLr | apply i_kB | apply i_kBr | apply i_kBs | apply i_nil) | ((with_reducible apply i_region); (focus (simp only [List.map_cons, List.map_nil] <;> exact rfl))) | ((with_reducible apply i_draw); (focus (simp only [List.map_cons, List.map_nil] <;> exact rfl)); (focus (decide +kernel))) | ((with_reducible apply i_kBo); (focus rfl)) | ((first | ((with_reducible apply i_V); (focus rfl); (focus rfl); (focus rfl)) | ((with_reducible apply i_E); (focus rfl); (focus (first | rfl | (simp only [push_cast, ↓reduceIte, effOk, touch, refsOf, List.flatMap_cons, List.flatMap_nil])))) | ((with_reducible apply i_S); (focus rfl); (focus (first | rfl | (simp only [push_cast, ↓reduceIte, effOk, touch, refsOf, List.flatMap_cons, List.flatMap_nil])))) | ((with_reducible apply i_Vq); (focus rfl); (focus rfl)) | ((with_reducible apply i_Vp); (focus rfl); (focus rfl); (focus rfl)) | (with_reducible first | apply i_Gb | apply i_cond)); (focus (simp (disch := (first | omega | (simp only [push_cast]; done) | (simp only [push_cast]; omega) | ((try simp only [push_cast]); (with_reducible first | apply sel_lt | apply sel_ge); (focus decide); (focus (simp only [push_cast]; omega))))) only [push_cast, ↓reduceIte, Nat.reduceEqDiff, Nat.reduceBEq, Nat.reduceAdd, Nat.reduceSub, Int.reduceToNat, *] <;> with_reducible exact rfl)); all_goals try (intro hX; first | (cases hX; done) | ((with_reducible first | have hX0 : true = true := hX | have hX0 : false = false := hX); clear hX0 hX) | ((try simp only [decide_eq_true_eq, decide_eq_false_iff_not, Bool.not_eq_true', Bool.not_eq_false'] at hX); (try have hXb := inB_iff.1 hX)))))); all_goals try (exfalso; omega)
  refine i_loop (α := Int × ByteArray × Nat) mixed (fun s => [(0, iv s.1), (3, .val (.string s.2.1))])
    (fun s => []) (fun s => s.2.2)
    (fun s => 0 ≤ s.1 ∧ s.1 ≤ 1099511627776 ∧ NumI n s.1 s.2.1 ∧ (s.2.1.size : Int) + s.1 ≤ 1099511627780 ∧ 0 < s.2.2) (fun s => s.1.toNat) (by kernel_rfl) (n, digB n, 1) ⟨h0, h1, hst.out, by dsimp only; have : (digB n).size = 1 := size_bytesOf _; omega, by simp⟩ ?_ ?_ rfl ?_
  · simp (disch := (first | omega | (simp only [push_cast]; done) | (simp only [push_cast]; omega) | ((try simp only [push_cast]); (with_reducible first | apply sel_lt | apply sel_ge); (focus decide); (focus (simp only [push_cast]; omega))))) only [push_cast, ↓reduceIte, Nat.reduceEqDiff, Nat.reduceBEq, Nat.reduceAdd, Nat.reduceSub, Int.reduceToNat, List.length_append, *]
  · simp (disch := (first | omega | (simp only [push_cast]; done) | (simp only [push_cast]; omega) | ((try simp only [push_cast]); (with_reducible first | apply sel_lt | apply sel_ge); (focus decide); (focus (simp only [push_cast]; omega))))) only [push_cast, ↓reduceIte, Nat.reduceEqDiff, Nat.reduceBEq, Nat.reduceAdd, Nat.reduceSub, Int.reduceToNat, List.length_append, *]
  rintro ⟨m, out, y⟩ ⟨m0, m1, hI, hsz, hy⟩
  dsimp only at m0 m1 hI hsz hy
  replace hI := Lib.hid hI
  by_cases h9 : 9 < m
  · have hst := Lib.hid (hI.out.step h9)
    (repeat' (first | (with_reducible first | apply i_seq | apply i_block | apply i_skip | apply i_exit | apply i_ret | apply i_kS | apply i_kSx | apply i_kSr | apply i_kL | apply i_kLx | apply i_kLr | apply i_kB | apply i_kBr | apply i_kBs | apply i_nil) | ((with_reducible apply i_region); (focus (simp only [List.map_cons, List.map_nil] <;> exact rfl))) | ((with_reducible apply i_draw); (focus (simp only [List.map_cons, List.map_nil] <;> exact rfl)); (focus (decide +kernel))) | ((with_reducible apply i_kBo); (focus rfl)) | ((first | ((with_reducible apply i_V); (focus rfl); (focus rfl); (focus rfl)) | ((with_reducible apply i_E); (focus rfl); (focus (first | rfl | (simp only [push_cast, ↓reduceIte, effOk, touch, refsOf, List.flatMap_cons, List.flatMap_nil])))) | ((with_reducible apply i_S); (focus rfl); (focus (first | rfl | (simp only [push_cast, ↓reduceIte, effOk, touch, refsOf, List.flatMap_cons, List.flatMap_nil])))) | ((with_reducible apply i_Vq); (focus rfl); (focus rfl)) | ((with_reducible apply i_Vp); (focus rfl); (focus rfl); (focus rfl)) | (with_reducible first | apply i_Gb | apply i_cond)); (focus (simp (disch := (first | omega | (simp only [push_cast]; done) | (simp only [push_cast]; omega) | ((try simp only [push_cast]); (with_reducible first | apply sel_lt | apply sel_ge); (focus decide); (focus (simp only [push_cast]; omega))))) only [push_cast, ↓reduceIte, Nat.reduceEqDiff, Nat.reduceBEq, Nat.reduceAdd, Nat.reduceSub, Int.reduceToNat, *] <;> with_reducible exact rfl)); all_goals try (intro hX; first | (cases hX; done) | ((with_reducible first | have hX0 : true = true := hX | have hX0 : false = false := hX); clear hX0 hX) | ((try simp only [decide_eq_true_eq, decide_eq_false_iff_not, Bool.not_eq_true', Bool.not_eq_false'] at hX); (try have hXb := inB_iff.1 hX)))))); all_goals try (exfalso; omega)
    refine ⟨(m / 10, digB (m / 10) ++ out, y + 1), ⟨by dsimp only; omega, by dsimp only; omega, hst.out, by dsimp only; rw [ByteArray.size_append, size_bytesOf]; simp only [List.length_cons, List.length_nil]; omega, by dsimp only; omega⟩, by dsimp only; omega, ?_, ?_, rfl⟩
    · simp (disch := (first | omega | (simp only [push_cast]; done) | (simp only [push_cast]; omega) | ((try simp only [push_cast]); (with_reducible first | apply sel_lt | apply sel_ge); (focus decide); (focus (simp only [push_cast]; omega))))) only [push_cast, ↓reduceIte, Nat.reduceEqDiff, Nat.reduceBEq, Nat.reduceAdd, Nat.reduceSub, Int.reduceToNat, List.length_append, *]
    · simp (disch := (first | omega | (simp only [push_cast]; done) | (simp only [push_cast]; omega) | ((try simp only [push_cast]); (with_reducible first | apply sel_lt | apply sel_ge); (focus decide); (focus (simp only [push_cast]; omega))))) only [push_cast, ↓reduceIte, Nat.reduceEqDiff, Nat.reduceBEq, Nat.reduceAdd, Nat.reduceSub, Int.reduceToNat, List.length_append, *]
  · have hst := hI.out.stop h0 h9
    subst hst
    (repeat' (first | (with_reducible first | apply i_seq | apply i_block | apply i_skip | apply i_exit | apply i_ret | apply i_kS | apply i_kSx | apply i_kSr | apply i_kL | apply i_kLx | apply i_kLr | apply i_kB | apply i_kBr | apply i_kBs | apply i_nil) | ((with_reducible apply i_region); (focus (simp only [List.map_cons, List.map_nil] <;> exact rfl))) | ((with_reducible apply i_draw); (focus (simp only [List.map_cons, List.map_nil] <;> exact rfl)); (focus (decide +kernel))) | ((with_reducible apply i_kBo); (focus rfl)) | ((first | ((with_reducible apply i_V); (focus rfl); (focus rfl); (focus rfl)) | ((with_reducible apply i_E); (focus rfl); (focus (first | rfl | (simp only [push_cast, ↓reduceIte, effOk, touch, refsOf, List.flatMap_cons, List.flatMap_nil])))) | ((with_reducible apply i_S); (focus rfl); (focus (first | rfl | (simp only [push_cast, ↓reduceIte, effOk, touch, refsOf, List.flatMap_cons, List.flatMap_nil])))) | ((with_reducible apply i_Vq); (focus rfl); (focus rfl)) | ((with_reducible apply i_Vp); (focus rfl); (focus rfl); (focus rfl)) | (with_reducible first | apply i_Gb | apply i_cond)); (focus (simp (disch := (first | omega | (simp only [push_cast]; done) | (simp only [push_cast]; omega) | ((try simp only [push_cast]); (with_reducible first | apply sel_lt | apply sel_ge); (focus decide); (focus (simp only [push_cast]; omega))))) only [push_cast, ↓reduceIte, Nat.reduceEqDiff, Nat.reduceBEq, Nat.reduceAdd, Nat.reduceSub, Int.reduceToNat, *] <;> with_reducible exact rfl)); all_goals try (intro hX; first | (cases hX; done) | ((with_reducible first | have hX0 : true = true := hX | have hX0 : false = false := hX); clear hX0 hX) | ((try simp only [decide_eq_true_eq, decide_eq_false_iff_not, Bool.not_eq_true', Bool.not_eq_false'] at hX); (try have hXb := inB_iff.1 hX)))))); all_goals try (exfalso; omega)
    all_goals ((first | apply i_end | apply i_endN); simp (disch := (first | omega | (simp only [push_cast]; done) | (simp only [push_cast]; omega) | ((try simp only [push_cast]); (with_reducible first | apply sel_lt | apply sel_ge); (focus decide); (focus (simp only [push_cast]; omega))))) only [push_cast, ↓reduceIte, Nat.reduceEqDiff, Nat.reduceBEq, Nat.reduceAdd, Nat.reduceSub, Int.reduceToNat, *])
end Go.Proofs.YtpggpdbipajchaaDoor
namespace Go.Proofs.YtpggpdbipajchaaDoor
open Go.RowKit
set_option linter.all false
theorem pagesB_no {zs : List Int} {k : Nat} (h : k < zs.length) (hb : okPage zs k = false) : pagesB zs = false := by
  unfold pagesB
  rw [okPages_mono h hb]
  rfl
theorem pagesB_yes {zs : List Int} (h : okPages zs zs.length = true) : pagesB zs = decide ((zs.length : Int) ≤ 30) := by
  unfold pagesB
  rw [h, Bool.true_and]
  exact decide_eq_decide.2 (by omega)
theorem pagesB_iff {zs : List Int} : pagesB zs = true ↔ (∀ i, i < zs.length → (1 ≤ zs[i]?.getD 0 ∧ zs[i]?.getD 0 ≤ 999) ∧ (0 < i → zs[i - 1]?.getD 0 < zs[i]?.getD 0)) ∧ zs.length ≤ 30 := by
  unfold pagesB okPages
  simp only [Bool.and_eq_true, List.all_eq_true, List.mem_range, decide_eq_true_eq]
  refine and_congr_left fun _ => forall_congr' fun i => imp_congr_right fun _ => ?_
  simp only [okPage, Bool.and_eq_true, inB_iff, Bool.or_eq_true, beq_iff_eq, decide_eq_true_eq]
  refine and_congr_right fun _ => ?_
  constructor
  · rintro (h | h) h0
    · omega
    · exact h
  · intro h
    by_cases h0 : i = 0
    · exact .inl h0
    · exact .inr (h (by omega))
def φPagesV : Fun := F1 dIs fun zs => if zs.length ≤ 1099511627776 then some (bv (pagesB zs)) else none
theorem φPagesV_ap {zs : List Int} (h : zs.length ≤ 1099511627776) : φPagesV [.lst false 1 (zs.map fun n => .val (.int .i64 n))] = some (.val (.bool (pagesB zs))) :=
  (F1_ap (A := dIs) zs).trans (if_pos h)
noncomputable def GPvi : Ctx := ⟨fun f => if f = 52 then some φPage else none, fun f => none⟩
theorem GPvi_ok : SoundΓ Tryd.prog GPvi := ⟨(fun f φ h => by
  unfold GPvi at h
  dsimp only at h
  split at h
  · rename_i hf; cases h; subst hf; exact ⟨⟨_, Tryd.func52, rfl, rfl⟩, isPage_ok⟩
  cases h), (fun f φ h => by
  unfold GPvi at h
  dsimp only at h
  cases h)⟩
theorem GPvi_52 (ob : Objs) (ps : List PV) : evCall GPvi ob 52 ps = (ps.mapM (reify false 0 ob fuel)).bind φPage := by
  have h : GPvi.fn 52 = some φPage := by simp [GPvi]
  unfold evCall
  rw [h]
  cases ps.mapM (reify false 0 ob fuel) <;> rfl
set_option maxHeartbeats 4000000 in
theorem implPagesV_ok : Sound Tryd.prog 37 φPagesV := by
  refine sound_pq mixed GPvi_ok Tryd.func37 rfl 32 rfl [.tmp 2] rfl (by kernel_rfl) fun ps r hr => ?_
  obtain ⟨zs, rfl, hq⟩ := F1_some hr
  clear hr
  split at hq
  case isFalse => cases hq
  case isTrue hpre =>
  cases hq
  refine ⟨by simp, ?_⟩
  simp only [dIs, dUs, dSs, dI_e, dU_e, dB_e, dS_e, dFn_e, dL_e, dA2_e, dA3_e, dA4_e, dA5_e]
  have gpvi_c52 := GPvi_52; have ap := φPage_ap
  repeat' (first | (with_reducible first | apply i_seq | apply i_block | apply i_skip | apply i_exit | apply i_ret | apply i_kS | apply i_kSx | apply i_kSr | apply i_kL | apply i_kLx | apply i_kLr | apply i_kB | apply i_kBr | apply i_kBs | apply i_nil) | ((with_reducible apply i_region); (focus (simp only [List.map_cons, List.map_nil] <;> exact rfl))) | ((with_reducible apply i_draw); (focus (simp only [List.map_cons, List.map_nil] <;> exact rfl)); (focus (decide +kernel))) | ((with_reducible apply i_kBo); (focus rfl)) | ((first | ((with_reducible apply i_V); (focus rfl); (focus rfl); (focus rfl)) | ((with_reducible apply i_E); (focus rfl); (focus (first | rfl | (simp only [push_cast, ↓reduceIte, effOk, touch, refsOf, List.flatMap_cons, List.flatMap_nil])))) | ((with_reducible apply i_S); (focus rfl); (focus (first | rfl | (simp only [push_cast, ↓reduceIte, effOk, touch, refsOf, List.flatMap_cons, List.flatMap_nil])))) | ((with_reducible apply i_Vq); (focus rfl); (focus rfl)) | ((with_reducible apply i_Vp); (focus rfl); (focus rfl); (focus rfl)) | (with_reducible first | apply i_Gb | apply i_cond)); (focus (simp (disch := (first | omega | (simp only [push_cast]; done) | (simp only [push_cast]; omega) | ((try simp only [push_cast]); (with_reducible first | apply sel_lt | apply sel_ge); (focus decide); (focus (simp only [push_cast]; omega))))) only [push_cast, ↓reduceIte, Nat.reduceEqDiff, Nat.reduceBEq, Nat.reduceAdd, Nat.reduceSub, Int.reduceToNat, *] <;> with_reducible exact rfl)); all_goals try (intro hX; first | (cases hX; done) | ((with_reducible first | have hX0 : true = true := hX | have hX0 : false = false := hX); clear hX0 hX) | ((try simp only [decide_eq_true_eq, decide_eq_false_iff_not, Bool.not_eq_true', Bool.not_eq_false'] at hX); (try have hXb := inB_iff.1 hX)))))
  refine i_loop (α := Nat) mixed (fun k => [(0, .lst false 1 (zs.map fun n => .val (.int .i64 n))), (5, .lst false 1 (zs.map fun n => .val (.int .i64 n))), (6, iv zs.length), (7, iv k)]) (fun _ => []) (fun _ => 0)
    (fun k => k ≤ zs.length ∧ okPages zs k = true) (fun k => zs.length - k) (by kernel_rfl) 0 ⟨Nat.zero_le _, rfl⟩ ?_ trivial rfl ?_
  · simp only [push_cast, ↓reduceIte, Nat.reduceEqDiff, Nat.reduceBEq, Nat.reduceAdd, Nat.reduceSub, Int.reduceToNat]
  · intro k ⟨hk, hok⟩
    have hpg : okPage zs k = (inB (zs[k]?.getD 0) 1 999 && (k == 0 || decide (zs[k - 1]?.getD 0 < zs[k]?.getD 0))) := rfl
    repeat' (first | (with_reducible first | apply i_seq | apply i_block | apply i_skip | apply i_exit | apply i_ret | apply i_kS | apply i_kSx | apply i_kSr | apply i_kL | apply i_kLx | apply i_kLr | apply i_kB | apply i_kBr | apply i_kBs | apply i_nil) | ((with_reducible apply i_region); (focus (simp only [List.map_cons, List.map_nil] <;> exact rfl))) | ((with_reducible apply i_draw); (focus (simp only [List.map_cons, List.map_nil] <;> exact rfl)); (focus (decide +kernel))) | ((with_reducible apply i_kBo); (focus rfl)) | ((first | ((with_reducible apply i_V); (focus rfl); (focus rfl); (focus rfl)) | ((with_reducible apply i_E); (focus rfl); (focus (first | rfl | (simp only [push_cast, ↓reduceIte, effOk, touch, refsOf, List.flatMap_cons, List.flatMap_nil])))) | ((with_reducible apply i_S); (focus rfl); (focus (first | rfl | (simp only [push_cast, ↓reduceIte, effOk, touch, refsOf, List.flatMap_cons, List.flatMap_nil])))) | ((with_reducible apply i_Vq); (focus rfl); (focus rfl)) | ((with_reducible apply i_Vp); (focus rfl); (focus rfl); (focus rfl)) | (with_reducible first | apply i_Gb | apply i_cond)); (focus (simp (disch := (first | omega | (simp only [push_cast]; done) | (simp only [push_cast]; omega) | ((try simp only [push_cast]); (with_reducible first | apply sel_lt | apply sel_ge); (focus decide); (focus (simp only [push_cast]; omega))))) only [push_cast, ↓reduceIte, Nat.reduceEqDiff, Nat.reduceBEq, Nat.reduceAdd, Nat.reduceSub, Int.reduceToNat, *] <;> with_reducible exact rfl)); all_goals try (intro hX; first | (cases hX; done) | ((with_reducible first | have hX0 : true = true := hX | have hX0 : false = false := hX); clear hX0 hX) | ((try simp only [decide_eq_true_eq, decide_eq_false_iff_not, Bool.not_eq_true', Bool.not_eq_false'] at hX); (try have hXb := inB_iff.1 hX)))))
    all_goals try ((first | apply i_end | apply i_endN); simp (disch := (first | omega | (simp only [push_cast]; done) | (simp only [push_cast]; omega) | ((try simp only [push_cast]); (with_reducible first | apply sel_lt | apply sel_ge); (focus decide); (focus (simp only [push_cast]; omega))))) only [push_cast, ↓reduceIte, Nat.reduceEqDiff, Nat.reduceBEq, Nat.reduceAdd, Nat.reduceSub, Int.reduceToNat, *])
    all_goals try (rw [pagesB_no (k := k) (by omega) (by rw [hpg]; simp_all; try omega)]; done)
    all_goals try (rw [pagesB_yes (by rwa [show zs.length = k by omega])]; done)
    all_goals
      refine ⟨k + 1, ⟨by omega, by rw [okPages_succ, hok, hpg]; simp_all; try omega⟩, by dsimp only; omega, by simp only [push_cast, ↓reduceIte, Nat.reduceEqDiff, Nat.reduceBEq, Nat.reduceAdd, Nat.reduceSub, Int.reduceToNat], trivial, rfl⟩
noncomputable def GPvs : Ctx := ⟨fun f => if f = 48 then some φIn else none, fun f => none⟩
theorem GPvs_ok : SoundΓ Tryd.prog GPvs := ⟨(fun f φ h => by
  unfold GPvs at h
  dsimp only at h
  split at h
  · rename_i hf; cases h; subst hf; exact ⟨⟨_, Tryd.func48, rfl, rfl⟩, l1In_ok⟩
  cases h), (fun f φ h => by
  unfold GPvs at h
  dsimp only at h
  cases h)⟩
theorem GPvs_48 (ob : Objs) (ps : List PV) : evCall GPvs ob 48 ps = (ps.mapM (reify false 0 ob fuel)).bind φIn := by
  have h : GPvs.fn 48 = some φIn := by simp [GPvs]
  unfold evCall
  rw [h]
  cases ps.mapM (reify false 0 ob fuel) <;> rfl
set_option maxHeartbeats 4000000 in
theorem specPagesV_ok : Sound Tryd.prog 30 φPagesV := by
  refine sound_pq mixed GPvs_ok Tryd.func30 rfl 35 rfl [.tmp 2] rfl (by kernel_rfl) fun ps r hr => ?_
  obtain ⟨zs, rfl, hq⟩ := F1_some hr
  clear hr
  split at hq
  case isFalse => cases hq
  case isTrue hpre =>
  cases hq
  refine ⟨by simp, ?_⟩
  simp only [dIs, dUs, dSs, dI_e, dU_e, dB_e, dS_e, dFn_e, dL_e, dA2_e, dA3_e, dA4_e, dA5_e]
  have gpvs_c48 := GPvs_48; have ap := φIn_ap
  repeat' (first | (with_reducible first | apply i_seq | apply i_block | apply i_skip | apply i_exit | apply i_ret | apply i_kS | apply i_kSx | apply i_kSr | apply i_kL | apply i_kLx | apply i_kLr | apply i_kB | apply i_kBr | apply i_kBs | apply i_nil) | ((with_reducible apply i_region); (focus (simp only [List.map_cons, List.map_nil] <;> exact rfl))) | ((with_reducible apply i_draw); (focus (simp only [List.map_cons, List.map_nil] <;> exact rfl)); (focus (decide +kernel))) | ((with_reducible apply i_kBo); (focus rfl)) | ((first | ((with_reducible apply i_V); (focus rfl); (focus rfl); (focus rfl)) | ((with_reducible apply i_E); (focus rfl); (focus (first | rfl | (simp only [push_cast, ↓reduceIte, effOk, touch, refsOf, List.flatMap_cons, List.flatMap_nil])))) | ((with_reducible apply i_S); (focus rfl); (focus (first | rfl | (simp only [push_cast, ↓reduceIte, effOk, touch, refsOf, List.flatMap_cons, List.flatMap_nil])))) | ((with_reducible apply i_Vq); (focus rfl); (focus rfl)) | ((with_reducible apply i_Vp); (focus rfl); (focus rfl); (focus rfl)) | (with_reducible first | apply i_Gb | apply i_cond)); (focus (simp (disch := (first | omega | (simp only [push_cast]; done) | (simp only [push_cast]; omega) | ((try simp only [push_cast]); (with_reducible first | apply sel_lt | apply sel_ge); (focus decide); (focus (simp only [push_cast]; omega))))) only [push_cast, ↓reduceIte, Nat.reduceEqDiff, Nat.reduceBEq, Nat.reduceAdd, Nat.reduceSub, Int.reduceToNat, *] <;> with_reducible exact rfl)); all_goals try (intro hX; first | (cases hX; done) | ((with_reducible first | have hX0 : true = true := hX | have hX0 : false = false := hX); clear hX0 hX) | ((try simp only [decide_eq_true_eq, decide_eq_false_iff_not, Bool.not_eq_true', Bool.not_eq_false'] at hX); (try have hXb := inB_iff.1 hX)))))
  refine i_loop (α := Nat) mixed (fun k => [(0, .lst false 1 (zs.map fun n => .val (.int .i64 n))), (3, iv k)]) (fun _ => []) (fun _ => 0)
    (fun k => k ≤ zs.length ∧ okPages zs k = true) (fun k => zs.length - k) (by kernel_rfl) 0 ⟨Nat.zero_le _, rfl⟩ ?_ trivial rfl ?_
  · simp only [push_cast, ↓reduceIte, Nat.reduceEqDiff, Nat.reduceBEq, Nat.reduceAdd, Nat.reduceSub, Int.reduceToNat]
  · intro k ⟨hk, hok⟩
    have hpg : okPage zs k = (inB (zs[k]?.getD 0) 1 999 && (k == 0 || decide (zs[k - 1]?.getD 0 < zs[k]?.getD 0))) := rfl
    repeat' (first | (with_reducible first | apply i_seq | apply i_block | apply i_skip | apply i_exit | apply i_ret | apply i_kS | apply i_kSx | apply i_kSr | apply i_kL | apply i_kLx | apply i_kLr | apply i_kB | apply i_kBr | apply i_kBs | apply i_nil) | ((with_reducible apply i_region); (focus (simp only [List.map_cons, List.map_nil] <;> exact rfl))) | ((with_reducible apply i_draw); (focus (simp only [List.map_cons, List.map_nil] <;> exact rfl)); (focus (decide +kernel))) | ((with_reducible apply i_kBo); (focus rfl)) | ((first | ((with_reducible apply i_V); (focus rfl); (focus rfl); (focus rfl)) | ((with_reducible apply i_E); (focus rfl); (focus (first | rfl | (simp only [push_cast, ↓reduceIte, effOk, touch, refsOf, List.flatMap_cons, List.flatMap_nil])))) | ((with_reducible apply i_S); (focus rfl); (focus (first | rfl | (simp only [push_cast, ↓reduceIte, effOk, touch, refsOf, List.flatMap_cons, List.flatMap_nil])))) | ((with_reducible apply i_Vq); (focus rfl); (focus rfl)) | ((with_reducible apply i_Vp); (focus rfl); (focus rfl); (focus rfl)) | (with_reducible first | apply i_Gb | apply i_cond)); (focus (simp (disch := (first | omega | (simp only [push_cast]; done) | (simp only [push_cast]; omega) | ((try simp only [push_cast]); (with_reducible first | apply sel_lt | apply sel_ge); (focus decide); (focus (simp only [push_cast]; omega))))) only [push_cast, ↓reduceIte, Nat.reduceEqDiff, Nat.reduceBEq, Nat.reduceAdd, Nat.reduceSub, Int.reduceToNat, *] <;> with_reducible exact rfl)); all_goals try (intro hX; first | (cases hX; done) | ((with_reducible first | have hX0 : true = true := hX | have hX0 : false = false := hX); clear hX0 hX) | ((try simp only [decide_eq_true_eq, decide_eq_false_iff_not, Bool.not_eq_true', Bool.not_eq_false'] at hX); (try have hXb := inB_iff.1 hX)))))
    all_goals try ((first | apply i_end | apply i_endN); simp (disch := (first | omega | (simp only [push_cast]; done) | (simp only [push_cast]; omega) | ((try simp only [push_cast]); (with_reducible first | apply sel_lt | apply sel_ge); (focus decide); (focus (simp only [push_cast]; omega))))) only [push_cast, ↓reduceIte, Nat.reduceEqDiff, Nat.reduceBEq, Nat.reduceAdd, Nat.reduceSub, Int.reduceToNat, *])
    all_goals try (rw [pagesB_no (k := k) (by omega) (by rw [hpg]; simp_all; try omega)]; done)
    all_goals try (rw [pagesB_yes (by rwa [show zs.length = k by omega])]; done)
    all_goals
      refine ⟨k + 1, ⟨by omega, by rw [okPages_succ, hok, hpg]; simp_all; try omega⟩, by dsimp only; omega, by simp only [push_cast, ↓reduceIte, Nat.reduceEqDiff, Nat.reduceBEq, Nat.reduceAdd, Nat.reduceSub, Int.reduceToNat], trivial, rfl⟩
end Go.Proofs.YtpggpdbipajchaaDoor
