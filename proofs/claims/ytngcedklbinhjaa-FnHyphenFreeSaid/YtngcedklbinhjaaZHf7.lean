/- What the proof rests on, part 7: contracts of functions. No condition beyond what each states. -/
import Derived.Test.YtngcedklbinhjaaZHf6
namespace Go.Proofs.Ytngcedklbinhjaa
open Go.RowKit
set_option linter.all false
theorem sz_2 : tySize Try.prog 2 = some 1 := by kernel_rfl
theorem ag_2 : tyAgg Try.prog 2 = some false := by kernel_rfl
theorem by_2 : tyBytes Try.prog 2 = some 8 := by kernel_rfl
theorem ze_2 : zeroOf Try.prog 2 = some (.int .i64 0) := by kernel_rfl
theorem un_2 : Try.prog.underlying 2 = some (.int .i64) := by kernel_rfl
theorem oz_2 : ofVal (.int .i64 0) = .val (.int .i64 0) := rfl
theorem ea_2 {Γ : Ctx} (s : AS) (ρ : Operand → PV) : evEff Try.prog Γ s ρ (.alloc 2) = some (.own s.nx 1 0 0, upd s.ob s.nx (some (2, 1, [.val (.int .i64 0)])), s.nx + 1) := ea_of ze_2 (by kernel_rfl) rfl rfl s ρ
theorem bs_2 : isByteSlice Try.prog 2 = false := by kernel_rfl
theorem is_2 : isStr Try.prog 2 = false := by kernel_rfl
theorem sz_3 : tySize Try.prog 3 = some 1 := by kernel_rfl
theorem ag_3 : tyAgg Try.prog 3 = some false := by kernel_rfl
theorem by_3 : tyBytes Try.prog 3 = some 8 := by kernel_rfl
theorem ze_3 : zeroOf Try.prog 3 = some (.int .i64 0) := by kernel_rfl
theorem un_3 : Try.prog.underlying 3 = some (.int .i64) := by kernel_rfl
theorem oz_3 : ofVal (.int .i64 0) = .val (.int .i64 0) := rfl
theorem ea_3 {Γ : Ctx} (s : AS) (ρ : Operand → PV) : evEff Try.prog Γ s ρ (.alloc 3) = some (.own s.nx 1 0 0, upd s.ob s.nx (some (3, 1, [.val (.int .i64 0)])), s.nx + 1) := ea_of ze_3 (by kernel_rfl) rfl rfl s ρ
theorem bs_3 : isByteSlice Try.prog 3 = false := by kernel_rfl
theorem is_3 : isStr Try.prog 3 = false := by kernel_rfl
theorem sz_4 : tySize Try.prog 4 = some 1 := by kernel_rfl
theorem ag_4 : tyAgg Try.prog 4 = some false := by kernel_rfl
theorem by_4 : tyBytes Try.prog 4 = some 1 := by kernel_rfl
theorem ze_4 : zeroOf Try.prog 4 = some (.bool false) := by kernel_rfl
theorem un_4 : Try.prog.underlying 4 = some .bool := by kernel_rfl
theorem bqe_4 {x y : Operand} {a b : Bool} : binP Try.prog .eql 4 x y (some (.bool a)) (some (.bool b)) = some (.val (.bool (a == b))) := bp_eqlB un_4
theorem bqn_4 {x y : Operand} {a b : Bool} : binP Try.prog .neq 4 x y (some (.bool a)) (some (.bool b)) = some (.val (.bool (!(a == b)))) := bp_neqB un_4
theorem oz_4 : ofVal (.bool false) = .val (.bool false) := rfl
theorem ea_4 {Γ : Ctx} (s : AS) (ρ : Operand → PV) : evEff Try.prog Γ s ρ (.alloc 4) = some (.own s.nx 1 0 0, upd s.ob s.nx (some (4, 1, [.val (.bool false)])), s.nx + 1) := ea_of ze_4 (by kernel_rfl) rfl rfl s ρ
theorem bs_4 : isByteSlice Try.prog 4 = false := by kernel_rfl
theorem is_4 : isStr Try.prog 4 = false := by kernel_rfl
theorem sz_5 : tySize Try.prog 5 = some 1 := by kernel_rfl
theorem ag_5 : tyAgg Try.prog 5 = some false := by kernel_rfl
theorem by_5 : tyBytes Try.prog 5 = some 1 := by kernel_rfl
theorem ze_5 : zeroOf Try.prog 5 = some (.int .u8 0) := by kernel_rfl
theorem un_5 : Try.prog.underlying 5 = some (.int .u8) := by kernel_rfl
theorem oz_5 : ofVal (.int .u8 0) = .val (.int .u8 0) := rfl
theorem ea_5 {Γ : Ctx} (s : AS) (ρ : Operand → PV) : evEff Try.prog Γ s ρ (.alloc 5) = some (.own s.nx 1 0 0, upd s.ob s.nx (some (5, 1, [.val (.int .u8 0)])), s.nx + 1) := ea_of ze_5 (by kernel_rfl) rfl rfl s ρ
theorem bs_5 : isByteSlice Try.prog 5 = false := by kernel_rfl
theorem is_5 : isStr Try.prog 5 = false := by kernel_rfl
theorem sz_7 : tySize Try.prog 7 = some 4 := by kernel_rfl
theorem ag_7 : tyAgg Try.prog 7 = some true := by kernel_rfl
theorem by_7 : tyBytes Try.prog 7 = some 24 := by kernel_rfl
theorem ze_7 : zeroOf Try.prog 7 = some (.agg #[.int .i64 0, .int .i64 0, .bool false, .int .u8 0]) := by kernel_rfl
theorem fo_7_0 : fieldOff Try.prog 7 0 = some 0 := by kernel_rfl
theorem fo_7_1 : fieldOff Try.prog 7 1 = some 1 := by kernel_rfl
theorem fo_7_2 : fieldOff Try.prog 7 2 = some 2 := by kernel_rfl
theorem fo_7_3 : fieldOff Try.prog 7 3 = some 3 := by kernel_rfl
theorem pl_7 : structPlaces Try.prog 7 = some #[(0, 1), (1, 1), (2, 1), (3, 1)] := by kernel_rfl
theorem bl_7 (ps : List (Nat × PV)) : evBuild Try.prog 7 ps = (fillP (plF [(0, 1), (1, 1), (2, 1), (3, 1)]) [.val (.int .i64 0), .val (.int .i64 0), .val (.bool false), .val (.int .u8 0)] ps).map .agg := bl_of ze_7 rfl pl_7 ps
theorem oz_7 : ofVal (.agg #[.int .i64 0, .int .i64 0, .bool false, .int .u8 0]) = .agg [.val (.int .i64 0), .val (.int .i64 0), .val (.bool false), .val (.int .u8 0)] := rfl
theorem ea_7 {Γ : Ctx} (s : AS) (ρ : Operand → PV) : evEff Try.prog Γ s ρ (.alloc 7) = some (.own s.nx 4 0 0, upd s.ob s.nx (some (7, 4, [.agg [.val (.int .i64 0), .val (.int .i64 0), .val (.bool false), .val (.int .u8 0)]])), s.nx + 1) := ea_of ze_7 (by kernel_rfl) rfl rfl s ρ
theorem bz_7 {Γ : Ctx} {ob : Objs} {ρ : Operand → PV} {ty : Nat} : evVal Try.prog Γ ob ρ ty (.build 7 #[]) = some (.agg [.val (.int .i64 0), .val (.int .i64 0), .val (.bool false), .val (.int .u8 0)]) := (show evBuild Try.prog 7 [] = some (.agg [.val (.int .i64 0), .val (.int .i64 0), .val (.bool false), .val (.int .u8 0)]) from by kernel_rfl)
theorem bs_7 : isByteSlice Try.prog 7 = false := by kernel_rfl
theorem is_7 : isStr Try.prog 7 = false := by kernel_rfl
theorem sz_9 : tySize Try.prog 9 = some 1 := by kernel_rfl
theorem ag_9 : tyAgg Try.prog 9 = some false := by kernel_rfl
theorem by_9 : tyBytes Try.prog 9 = some 16 := by kernel_rfl
theorem ze_9 : zeroOf Try.prog 9 = some (.string ByteArray.empty) := by kernel_rfl
theorem un_9 : Try.prog.underlying 9 = some .string := by kernel_rfl
theorem lps_9 {ty : Nat} {s : ByteArray} : lenP Try.prog 9 ty (.val (.string s)) = some (.val (.int .i64 s.size)) := lp_str un_9
theorem ixs_9 {s : ByteArray} {i : Int} (h0 : 0 ≤ i) (h1 : i < s.size) : idxP Try.prog 9 (some (.string s)) (some (.int .i64 i)) = some (.val (.int .u8 (at8 s i.toNat))) := ix_str un_9 h0 h1
theorem oz_9 : ofVal (.string ByteArray.empty) = .val (.string ByteArray.empty) := rfl
theorem ea_9 {Γ : Ctx} (s : AS) (ρ : Operand → PV) : evEff Try.prog Γ s ρ (.alloc 9) = some (.own s.nx 1 0 0, upd s.ob s.nx (some (9, 1, [.val (.string ByteArray.empty)])), s.nx + 1) := ea_of ze_9 (by kernel_rfl) rfl rfl s ρ
theorem bs_9 : isByteSlice Try.prog 9 = false := by kernel_rfl
theorem is_9 : isStr Try.prog 9 = true := by kernel_rfl
theorem sz_12 : tySize Try.prog 12 = some 1 := by kernel_rfl
theorem ag_12 : tyAgg Try.prog 12 = some false := by kernel_rfl
theorem by_12 : tyBytes Try.prog 12 = some 8 := by kernel_rfl
theorem ze_12 : zeroOf Try.prog 12 = some (.int .u64 0) := by kernel_rfl
theorem un_12 : Try.prog.underlying 12 = some (.int .u64) := by kernel_rfl
theorem oz_12 : ofVal (.int .u64 0) = .val (.int .u64 0) := rfl
theorem ea_12 {Γ : Ctx} (s : AS) (ρ : Operand → PV) : evEff Try.prog Γ s ρ (.alloc 12) = some (.own s.nx 1 0 0, upd s.ob s.nx (some (12, 1, [.val (.int .u64 0)])), s.nx + 1) := ea_of ze_12 (by kernel_rfl) rfl rfl s ρ
theorem bs_12 : isByteSlice Try.prog 12 = false := by kernel_rfl
theorem is_12 : isStr Try.prog 12 = false := by kernel_rfl
theorem sz_13 : tySize Try.prog 13 = some 2 := by kernel_rfl
theorem ag_13 : tyAgg Try.prog 13 = some true := by kernel_rfl
theorem by_13 : tyBytes Try.prog 13 = some 24 := by kernel_rfl
theorem ze_13 : zeroOf Try.prog 13 = some (.agg #[.string ByteArray.empty, .int .u64 0]) := by kernel_rfl
theorem fo_13_0 : fieldOff Try.prog 13 0 = some 0 := by kernel_rfl
theorem fo_13_1 : fieldOff Try.prog 13 1 = some 1 := by kernel_rfl
theorem pl_13 : structPlaces Try.prog 13 = some #[(0, 1), (1, 1)] := by kernel_rfl
theorem bl_13 (ps : List (Nat × PV)) : evBuild Try.prog 13 ps = (fillP (plF [(0, 1), (1, 1)]) [.val (.string ByteArray.empty), .val (.int .u64 0)] ps).map .agg := bl_of ze_13 rfl pl_13 ps
theorem oz_13 : ofVal (.agg #[.string ByteArray.empty, .int .u64 0]) = .agg [.val (.string ByteArray.empty), .val (.int .u64 0)] := rfl
theorem ea_13 {Γ : Ctx} (s : AS) (ρ : Operand → PV) : evEff Try.prog Γ s ρ (.alloc 13) = some (.own s.nx 2 0 0, upd s.ob s.nx (some (13, 2, [.agg [.val (.string ByteArray.empty), .val (.int .u64 0)]])), s.nx + 1) := ea_of ze_13 (by kernel_rfl) rfl rfl s ρ
theorem bz_13 {Γ : Ctx} {ob : Objs} {ρ : Operand → PV} {ty : Nat} : evVal Try.prog Γ ob ρ ty (.build 13 #[]) = some (.agg [.val (.string ByteArray.empty), .val (.int .u64 0)]) := (show evBuild Try.prog 13 [] = some (.agg [.val (.string ByteArray.empty), .val (.int .u64 0)]) from by kernel_rfl)
theorem bs_13 : isByteSlice Try.prog 13 = false := by kernel_rfl
theorem is_13 : isStr Try.prog 13 = false := by kernel_rfl
theorem sz_21 : tySize Try.prog 21 = some 1 := by kernel_rfl
theorem ag_21 : tyAgg Try.prog 21 = some false := by kernel_rfl
theorem by_21 : tyBytes Try.prog 21 = some 4 := by kernel_rfl
theorem ze_21 : zeroOf Try.prog 21 = some (.int .i32 0) := by kernel_rfl
theorem un_21 : Try.prog.underlying 21 = some (.int .i32) := by kernel_rfl
theorem oz_21 : ofVal (.int .i32 0) = .val (.int .i32 0) := rfl
theorem ea_21 {Γ : Ctx} (s : AS) (ρ : Operand → PV) : evEff Try.prog Γ s ρ (.alloc 21) = some (.own s.nx 1 0 0, upd s.ob s.nx (some (21, 1, [.val (.int .i32 0)])), s.nx + 1) := ea_of ze_21 (by kernel_rfl) rfl rfl s ρ
theorem bs_21 : isByteSlice Try.prog 21 = false := by kernel_rfl
theorem is_21 : isStr Try.prog 21 = false := by kernel_rfl
theorem sz_37 : tySize Try.prog 37 = some 5 := by kernel_rfl
theorem ag_37 : tyAgg Try.prog 37 = some true := by kernel_rfl
theorem by_37 : tyBytes Try.prog 37 = some 72 := by kernel_rfl
theorem ze_37 : zeroOf Try.prog 37 = some (.agg #[.slice none 0 0, .slice none 0 0, .int .i64 0, .int .i64 0, .int .i64 0]) := by kernel_rfl
theorem fo_37_0 : fieldOff Try.prog 37 0 = some 0 := by kernel_rfl
theorem fo_37_1 : fieldOff Try.prog 37 1 = some 1 := by kernel_rfl
theorem fo_37_2 : fieldOff Try.prog 37 2 = some 2 := by kernel_rfl
theorem fo_37_3 : fieldOff Try.prog 37 3 = some 3 := by kernel_rfl
theorem fo_37_4 : fieldOff Try.prog 37 4 = some 4 := by kernel_rfl
theorem pl_37 : structPlaces Try.prog 37 = some #[(0, 1), (1, 1), (2, 1), (3, 1), (4, 1)] := by kernel_rfl
theorem bl_37 (ps : List (Nat × PV)) : evBuild Try.prog 37 ps = (fillP (plF [(0, 1), (1, 1), (2, 1), (3, 1), (4, 1)]) [.val (.slice none 0 0), .val (.slice none 0 0), .val (.int .i64 0), .val (.int .i64 0), .val (.int .i64 0)] ps).map .agg := bl_of ze_37 rfl pl_37 ps
theorem oz_37 : ofVal (.agg #[.slice none 0 0, .slice none 0 0, .int .i64 0, .int .i64 0, .int .i64 0]) = .agg [.val (.slice none 0 0), .val (.slice none 0 0), .val (.int .i64 0), .val (.int .i64 0), .val (.int .i64 0)] := rfl
theorem ea_37 {Γ : Ctx} (s : AS) (ρ : Operand → PV) : evEff Try.prog Γ s ρ (.alloc 37) = some (.own s.nx 5 0 0, upd s.ob s.nx (some (37, 5, [.agg [.val (.slice none 0 0), .val (.slice none 0 0), .val (.int .i64 0), .val (.int .i64 0), .val (.int .i64 0)]])), s.nx + 1) := ea_of ze_37 (by kernel_rfl) rfl rfl s ρ
theorem bz_37 {Γ : Ctx} {ob : Objs} {ρ : Operand → PV} {ty : Nat} : evVal Try.prog Γ ob ρ ty (.build 37 #[]) = some (.agg [.val (.slice none 0 0), .val (.slice none 0 0), .val (.int .i64 0), .val (.int .i64 0), .val (.int .i64 0)]) := (show evBuild Try.prog 37 [] = some (.agg [.val (.slice none 0 0), .val (.slice none 0 0), .val (.int .i64 0), .val (.int .i64 0), .val (.int .i64 0)]) from by kernel_rfl)
theorem bs_37 : isByteSlice Try.prog 37 = false := by kernel_rfl
theorem is_37 : isStr Try.prog 37 = false := by kernel_rfl
theorem sz_38 : tySize Try.prog 38 = some 5 := by kernel_rfl
theorem ag_38 : tyAgg Try.prog 38 = some true := by kernel_rfl
theorem by_38 : tyBytes Try.prog 38 = some 72 := by kernel_rfl
theorem ze_38 : zeroOf Try.prog 38 = some (.agg #[.slice none 0 0, .slice none 0 0, .int .i64 0, .int .i64 0, .int .i64 0]) := by kernel_rfl
theorem fo_38_0 : fieldOff Try.prog 38 0 = some 0 := by kernel_rfl
theorem fo_38_1 : fieldOff Try.prog 38 1 = some 1 := by kernel_rfl
theorem fo_38_2 : fieldOff Try.prog 38 2 = some 2 := by kernel_rfl
theorem fo_38_3 : fieldOff Try.prog 38 3 = some 3 := by kernel_rfl
theorem fo_38_4 : fieldOff Try.prog 38 4 = some 4 := by kernel_rfl
theorem pl_38 : structPlaces Try.prog 38 = some #[(0, 1), (1, 1), (2, 1), (3, 1), (4, 1)] := by kernel_rfl
theorem bl_38 (ps : List (Nat × PV)) : evBuild Try.prog 38 ps = (fillP (plF [(0, 1), (1, 1), (2, 1), (3, 1), (4, 1)]) [.val (.slice none 0 0), .val (.slice none 0 0), .val (.int .i64 0), .val (.int .i64 0), .val (.int .i64 0)] ps).map .agg := bl_of ze_38 rfl pl_38 ps
theorem oz_38 : ofVal (.agg #[.slice none 0 0, .slice none 0 0, .int .i64 0, .int .i64 0, .int .i64 0]) = .agg [.val (.slice none 0 0), .val (.slice none 0 0), .val (.int .i64 0), .val (.int .i64 0), .val (.int .i64 0)] := rfl
theorem ea_38 {Γ : Ctx} (s : AS) (ρ : Operand → PV) : evEff Try.prog Γ s ρ (.alloc 38) = some (.own s.nx 5 0 0, upd s.ob s.nx (some (38, 5, [.agg [.val (.slice none 0 0), .val (.slice none 0 0), .val (.int .i64 0), .val (.int .i64 0), .val (.int .i64 0)]])), s.nx + 1) := ea_of ze_38 (by kernel_rfl) rfl rfl s ρ
theorem bz_38 {Γ : Ctx} {ob : Objs} {ρ : Operand → PV} {ty : Nat} : evVal Try.prog Γ ob ρ ty (.build 38 #[]) = some (.agg [.val (.slice none 0 0), .val (.slice none 0 0), .val (.int .i64 0), .val (.int .i64 0), .val (.int .i64 0)]) := (show evBuild Try.prog 38 [] = some (.agg [.val (.slice none 0 0), .val (.slice none 0 0), .val (.int .i64 0), .val (.int .i64 0), .val (.int .i64 0)]) from by kernel_rfl)
theorem bs_38 : isByteSlice Try.prog 38 = false := by kernel_rfl
theorem is_38 : isStr Try.prog 38 = false := by kernel_rfl
theorem sz_44 : tySize Try.prog 44 = some 5 := by kernel_rfl
theorem ag_44 : tyAgg Try.prog 44 = some true := by kernel_rfl
theorem by_44 : tyBytes Try.prog 44 = some 72 := by kernel_rfl
theorem ze_44 : zeroOf Try.prog 44 = some (.agg #[.slice none 0 0, .slice none 0 0, .int .i64 0, .int .i64 0, .int .i64 0]) := by kernel_rfl
theorem fo_44_0 : fieldOff Try.prog 44 0 = some 0 := by kernel_rfl
theorem fo_44_1 : fieldOff Try.prog 44 1 = some 1 := by kernel_rfl
theorem fo_44_2 : fieldOff Try.prog 44 2 = some 2 := by kernel_rfl
theorem fo_44_3 : fieldOff Try.prog 44 3 = some 3 := by kernel_rfl
theorem fo_44_4 : fieldOff Try.prog 44 4 = some 4 := by kernel_rfl
theorem pl_44 : structPlaces Try.prog 44 = some #[(0, 1), (1, 1), (2, 1), (3, 1), (4, 1)] := by kernel_rfl
theorem bl_44 (ps : List (Nat × PV)) : evBuild Try.prog 44 ps = (fillP (plF [(0, 1), (1, 1), (2, 1), (3, 1), (4, 1)]) [.val (.slice none 0 0), .val (.slice none 0 0), .val (.int .i64 0), .val (.int .i64 0), .val (.int .i64 0)] ps).map .agg := bl_of ze_44 rfl pl_44 ps
theorem oz_44 : ofVal (.agg #[.slice none 0 0, .slice none 0 0, .int .i64 0, .int .i64 0, .int .i64 0]) = .agg [.val (.slice none 0 0), .val (.slice none 0 0), .val (.int .i64 0), .val (.int .i64 0), .val (.int .i64 0)] := rfl
theorem ea_44 {Γ : Ctx} (s : AS) (ρ : Operand → PV) : evEff Try.prog Γ s ρ (.alloc 44) = some (.own s.nx 5 0 0, upd s.ob s.nx (some (44, 5, [.agg [.val (.slice none 0 0), .val (.slice none 0 0), .val (.int .i64 0), .val (.int .i64 0), .val (.int .i64 0)]])), s.nx + 1) := ea_of ze_44 (by kernel_rfl) rfl rfl s ρ
theorem bz_44 {Γ : Ctx} {ob : Objs} {ρ : Operand → PV} {ty : Nat} : evVal Try.prog Γ ob ρ ty (.build 44 #[]) = some (.agg [.val (.slice none 0 0), .val (.slice none 0 0), .val (.int .i64 0), .val (.int .i64 0), .val (.int .i64 0)]) := (show evBuild Try.prog 44 [] = some (.agg [.val (.slice none 0 0), .val (.slice none 0 0), .val (.int .i64 0), .val (.int .i64 0), .val (.int .i64 0)]) from by kernel_rfl)
theorem bs_44 : isByteSlice Try.prog 44 = false := by kernel_rfl
theorem is_44 : isStr Try.prog 44 = false := by kernel_rfl
theorem sz_56 : tySize Try.prog 56 = some 4 := by kernel_rfl
theorem ag_56 : tyAgg Try.prog 56 = some true := by kernel_rfl
theorem by_56 : tyBytes Try.prog 56 = some 32 := by kernel_rfl
theorem ze_56 : zeroOf Try.prog 56 = some (.agg #[.int .i64 0, .int .i64 0, .int .i64 0, .int .i64 0]) := by kernel_rfl
theorem fo_56_0 : fieldOff Try.prog 56 0 = some 0 := by kernel_rfl
theorem fo_56_1 : fieldOff Try.prog 56 1 = some 1 := by kernel_rfl
theorem fo_56_2 : fieldOff Try.prog 56 2 = some 2 := by kernel_rfl
theorem fo_56_3 : fieldOff Try.prog 56 3 = some 3 := by kernel_rfl
theorem pl_56 : structPlaces Try.prog 56 = some #[(0, 1), (1, 1), (2, 1), (3, 1)] := by kernel_rfl
theorem bl_56 (ps : List (Nat × PV)) : evBuild Try.prog 56 ps = (fillP (plF [(0, 1), (1, 1), (2, 1), (3, 1)]) [.val (.int .i64 0), .val (.int .i64 0), .val (.int .i64 0), .val (.int .i64 0)] ps).map .agg := bl_of ze_56 rfl pl_56 ps
theorem oz_56 : ofVal (.agg #[.int .i64 0, .int .i64 0, .int .i64 0, .int .i64 0]) = .agg [.val (.int .i64 0), .val (.int .i64 0), .val (.int .i64 0), .val (.int .i64 0)] := rfl
theorem ea_56 {Γ : Ctx} (s : AS) (ρ : Operand → PV) : evEff Try.prog Γ s ρ (.alloc 56) = some (.own s.nx 4 0 0, upd s.ob s.nx (some (56, 4, [.agg [.val (.int .i64 0), .val (.int .i64 0), .val (.int .i64 0), .val (.int .i64 0)]])), s.nx + 1) := ea_of ze_56 (by kernel_rfl) rfl rfl s ρ
theorem bz_56 {Γ : Ctx} {ob : Objs} {ρ : Operand → PV} {ty : Nat} : evVal Try.prog Γ ob ρ ty (.build 56 #[]) = some (.agg [.val (.int .i64 0), .val (.int .i64 0), .val (.int .i64 0), .val (.int .i64 0)]) := (show evBuild Try.prog 56 [] = some (.agg [.val (.int .i64 0), .val (.int .i64 0), .val (.int .i64 0), .val (.int .i64 0)]) from by kernel_rfl)
theorem bs_56 : isByteSlice Try.prog 56 = false := by kernel_rfl
theorem is_56 : isStr Try.prog 56 = false := by kernel_rfl
theorem sz_57 : tySize Try.prog 57 = some 4 := by kernel_rfl
theorem ag_57 : tyAgg Try.prog 57 = some true := by kernel_rfl
theorem by_57 : tyBytes Try.prog 57 = some 32 := by kernel_rfl
theorem ze_57 : zeroOf Try.prog 57 = some (.agg #[.int .i64 0, .int .i64 0, .int .i64 0, .int .i64 0]) := by kernel_rfl
theorem fo_57_0 : fieldOff Try.prog 57 0 = some 0 := by kernel_rfl
theorem fo_57_1 : fieldOff Try.prog 57 1 = some 1 := by kernel_rfl
theorem fo_57_2 : fieldOff Try.prog 57 2 = some 2 := by kernel_rfl
theorem fo_57_3 : fieldOff Try.prog 57 3 = some 3 := by kernel_rfl
theorem pl_57 : structPlaces Try.prog 57 = some #[(0, 1), (1, 1), (2, 1), (3, 1)] := by kernel_rfl
theorem bl_57 (ps : List (Nat × PV)) : evBuild Try.prog 57 ps = (fillP (plF [(0, 1), (1, 1), (2, 1), (3, 1)]) [.val (.int .i64 0), .val (.int .i64 0), .val (.int .i64 0), .val (.int .i64 0)] ps).map .agg := bl_of ze_57 rfl pl_57 ps
theorem oz_57 : ofVal (.agg #[.int .i64 0, .int .i64 0, .int .i64 0, .int .i64 0]) = .agg [.val (.int .i64 0), .val (.int .i64 0), .val (.int .i64 0), .val (.int .i64 0)] := rfl
theorem ea_57 {Γ : Ctx} (s : AS) (ρ : Operand → PV) : evEff Try.prog Γ s ρ (.alloc 57) = some (.own s.nx 4 0 0, upd s.ob s.nx (some (57, 4, [.agg [.val (.int .i64 0), .val (.int .i64 0), .val (.int .i64 0), .val (.int .i64 0)]])), s.nx + 1) := ea_of ze_57 (by kernel_rfl) rfl rfl s ρ
theorem bz_57 {Γ : Ctx} {ob : Objs} {ρ : Operand → PV} {ty : Nat} : evVal Try.prog Γ ob ρ ty (.build 57 #[]) = some (.agg [.val (.int .i64 0), .val (.int .i64 0), .val (.int .i64 0), .val (.int .i64 0)]) := (show evBuild Try.prog 57 [] = some (.agg [.val (.int .i64 0), .val (.int .i64 0), .val (.int .i64 0), .val (.int .i64 0)]) from by kernel_rfl)
theorem fd_57 : Try.prog.underlying 57 = some (.struct (Go.Program.fieldsOf Try.prog 57)) := by kernel_rfl
theorem ef_57 {a0 b0 : Int} {a1 b1 : Int} {a2 b2 : Int} {a3 b3 : Int} : eqFl Try.prog [.int .i64 a0, .int .i64 a1, .int .i64 a2, .int .i64 a3] [.int .i64 b0, .int .i64 b1, .int .i64 b2, .int .i64 b3] (Go.Program.fieldsOf Try.prog 57).toList = some ((a0 == b0) && ((a1 == b1) && ((a2 == b2) && ((a3 == b3) && true)))) := by kernel_rfl
theorem sqeql_57 {x y : Operand} {a0 b0 : Int} {a1 b1 : Int} {a2 b2 : Int} {a3 b3 : Int} : binP Try.prog .eql 57 x y (some (.agg #[.int .i64 a0, .int .i64 a1, .int .i64 a2, .int .i64 a3])) (some (.agg #[.int .i64 b0, .int .i64 b1, .int .i64 b2, .int .i64 b3])) = some (.val (.bool ((a0 == b0) && ((a1 == b1) && ((a2 == b2) && ((a3 == b3) && true)))))) := bp_eqlA fd_57 (by kernel_rfl) (by kernel_rfl) ef_57
theorem sqneq_57 {x y : Operand} {a0 b0 : Int} {a1 b1 : Int} {a2 b2 : Int} {a3 b3 : Int} : binP Try.prog .neq 57 x y (some (.agg #[.int .i64 a0, .int .i64 a1, .int .i64 a2, .int .i64 a3])) (some (.agg #[.int .i64 b0, .int .i64 b1, .int .i64 b2, .int .i64 b3])) = some (.val (.bool (!((a0 == b0) && ((a1 == b1) && ((a2 == b2) && ((a3 == b3) && true))))))) := bp_neqA fd_57 (by kernel_rfl) (by kernel_rfl) ef_57
theorem bs_57 : isByteSlice Try.prog 57 = false := by kernel_rfl
theorem is_57 : isStr Try.prog 57 = false := by kernel_rfl
theorem sz_64 : tySize Try.prog 64 = some 7 := by kernel_rfl
theorem ag_64 : tyAgg Try.prog 64 = some true := by kernel_rfl
theorem by_64 : tyBytes Try.prog 64 = some 56 := by kernel_rfl
theorem ze_64 : zeroOf Try.prog 64 = some (.agg #[.int .i64 0, .int .i64 0, .int .i64 0, .int .i64 0, .int .i64 0, .int .i64 0, .bool false]) := by kernel_rfl
theorem fo_64_0 : fieldOff Try.prog 64 0 = some 0 := by kernel_rfl
theorem fo_64_1 : fieldOff Try.prog 64 1 = some 1 := by kernel_rfl
theorem fo_64_2 : fieldOff Try.prog 64 2 = some 5 := by kernel_rfl
theorem fo_64_3 : fieldOff Try.prog 64 3 = some 6 := by kernel_rfl
theorem pl_64 : structPlaces Try.prog 64 = some #[(0, 1), (1, 4), (5, 1), (6, 1)] := by kernel_rfl
theorem bl_64 (ps : List (Nat × PV)) : evBuild Try.prog 64 ps = (fillP (plF [(0, 1), (1, 4), (5, 1), (6, 1)]) [.val (.int .i64 0), .val (.int .i64 0), .val (.int .i64 0), .val (.int .i64 0), .val (.int .i64 0), .val (.int .i64 0), .val (.bool false)] ps).map .agg := bl_of ze_64 rfl pl_64 ps
theorem oz_64 : ofVal (.agg #[.int .i64 0, .int .i64 0, .int .i64 0, .int .i64 0, .int .i64 0, .int .i64 0, .bool false]) = .agg [.val (.int .i64 0), .val (.int .i64 0), .val (.int .i64 0), .val (.int .i64 0), .val (.int .i64 0), .val (.int .i64 0), .val (.bool false)] := rfl
theorem ea_64 {Γ : Ctx} (s : AS) (ρ : Operand → PV) : evEff Try.prog Γ s ρ (.alloc 64) = some (.own s.nx 7 0 0, upd s.ob s.nx (some (64, 7, [.agg [.val (.int .i64 0), .val (.int .i64 0), .val (.int .i64 0), .val (.int .i64 0), .val (.int .i64 0), .val (.int .i64 0), .val (.bool false)]])), s.nx + 1) := ea_of ze_64 (by kernel_rfl) rfl rfl s ρ
theorem bz_64 {Γ : Ctx} {ob : Objs} {ρ : Operand → PV} {ty : Nat} : evVal Try.prog Γ ob ρ ty (.build 64 #[]) = some (.agg [.val (.int .i64 0), .val (.int .i64 0), .val (.int .i64 0), .val (.int .i64 0), .val (.int .i64 0), .val (.int .i64 0), .val (.bool false)]) := (show evBuild Try.prog 64 [] = some (.agg [.val (.int .i64 0), .val (.int .i64 0), .val (.int .i64 0), .val (.int .i64 0), .val (.int .i64 0), .val (.int .i64 0), .val (.bool false)]) from by kernel_rfl)
theorem bs_64 : isByteSlice Try.prog 64 = false := by kernel_rfl
theorem is_64 : isStr Try.prog 64 = false := by kernel_rfl
theorem sz_65 : tySize Try.prog 65 = some 7 := by kernel_rfl
theorem ag_65 : tyAgg Try.prog 65 = some true := by kernel_rfl
theorem by_65 : tyBytes Try.prog 65 = some 56 := by kernel_rfl
theorem ze_65 : zeroOf Try.prog 65 = some (.agg #[.int .i64 0, .int .i64 0, .int .i64 0, .int .i64 0, .int .i64 0, .int .i64 0, .bool false]) := by kernel_rfl
theorem fo_65_0 : fieldOff Try.prog 65 0 = some 0 := by kernel_rfl
theorem fo_65_1 : fieldOff Try.prog 65 1 = some 1 := by kernel_rfl
theorem fo_65_2 : fieldOff Try.prog 65 2 = some 5 := by kernel_rfl
theorem fo_65_3 : fieldOff Try.prog 65 3 = some 6 := by kernel_rfl
theorem pl_65 : structPlaces Try.prog 65 = some #[(0, 1), (1, 4), (5, 1), (6, 1)] := by kernel_rfl
theorem bl_65 (ps : List (Nat × PV)) : evBuild Try.prog 65 ps = (fillP (plF [(0, 1), (1, 4), (5, 1), (6, 1)]) [.val (.int .i64 0), .val (.int .i64 0), .val (.int .i64 0), .val (.int .i64 0), .val (.int .i64 0), .val (.int .i64 0), .val (.bool false)] ps).map .agg := bl_of ze_65 rfl pl_65 ps
theorem oz_65 : ofVal (.agg #[.int .i64 0, .int .i64 0, .int .i64 0, .int .i64 0, .int .i64 0, .int .i64 0, .bool false]) = .agg [.val (.int .i64 0), .val (.int .i64 0), .val (.int .i64 0), .val (.int .i64 0), .val (.int .i64 0), .val (.int .i64 0), .val (.bool false)] := rfl
theorem ea_65 {Γ : Ctx} (s : AS) (ρ : Operand → PV) : evEff Try.prog Γ s ρ (.alloc 65) = some (.own s.nx 7 0 0, upd s.ob s.nx (some (65, 7, [.agg [.val (.int .i64 0), .val (.int .i64 0), .val (.int .i64 0), .val (.int .i64 0), .val (.int .i64 0), .val (.int .i64 0), .val (.bool false)]])), s.nx + 1) := ea_of ze_65 (by kernel_rfl) rfl rfl s ρ
theorem bz_65 {Γ : Ctx} {ob : Objs} {ρ : Operand → PV} {ty : Nat} : evVal Try.prog Γ ob ρ ty (.build 65 #[]) = some (.agg [.val (.int .i64 0), .val (.int .i64 0), .val (.int .i64 0), .val (.int .i64 0), .val (.int .i64 0), .val (.int .i64 0), .val (.bool false)]) := (show evBuild Try.prog 65 [] = some (.agg [.val (.int .i64 0), .val (.int .i64 0), .val (.int .i64 0), .val (.int .i64 0), .val (.int .i64 0), .val (.int .i64 0), .val (.bool false)]) from by kernel_rfl)
theorem bs_65 : isByteSlice Try.prog 65 = false := by kernel_rfl
theorem is_65 : isStr Try.prog 65 = false := by kernel_rfl
theorem sz_80 : tySize Try.prog 80 = some 2 := by kernel_rfl
theorem ag_80 : tyAgg Try.prog 80 = some true := by kernel_rfl
theorem by_80 : tyBytes Try.prog 80 = some 32 := by kernel_rfl
theorem ze_80 : zeroOf Try.prog 80 = some (.agg #[.slice none 0 0, .int .i64 0]) := by kernel_rfl
theorem fo_80_0 : fieldOff Try.prog 80 0 = some 0 := by kernel_rfl
theorem fo_80_1 : fieldOff Try.prog 80 1 = some 1 := by kernel_rfl
theorem pl_80 : structPlaces Try.prog 80 = some #[(0, 1), (1, 1)] := by kernel_rfl
theorem bl_80 (ps : List (Nat × PV)) : evBuild Try.prog 80 ps = (fillP (plF [(0, 1), (1, 1)]) [.val (.slice none 0 0), .val (.int .i64 0)] ps).map .agg := bl_of ze_80 rfl pl_80 ps
theorem oz_80 : ofVal (.agg #[.slice none 0 0, .int .i64 0]) = .agg [.val (.slice none 0 0), .val (.int .i64 0)] := rfl
theorem ea_80 {Γ : Ctx} (s : AS) (ρ : Operand → PV) : evEff Try.prog Γ s ρ (.alloc 80) = some (.own s.nx 2 0 0, upd s.ob s.nx (some (80, 2, [.agg [.val (.slice none 0 0), .val (.int .i64 0)]])), s.nx + 1) := ea_of ze_80 (by kernel_rfl) rfl rfl s ρ
theorem bz_80 {Γ : Ctx} {ob : Objs} {ρ : Operand → PV} {ty : Nat} : evVal Try.prog Γ ob ρ ty (.build 80 #[]) = some (.agg [.val (.slice none 0 0), .val (.int .i64 0)]) := (show evBuild Try.prog 80 [] = some (.agg [.val (.slice none 0 0), .val (.int .i64 0)]) from by kernel_rfl)
theorem bs_80 : isByteSlice Try.prog 80 = false := by kernel_rfl
theorem is_80 : isStr Try.prog 80 = false := by kernel_rfl
theorem sz_81 : tySize Try.prog 81 = some 2 := by kernel_rfl
theorem ag_81 : tyAgg Try.prog 81 = some true := by kernel_rfl
theorem by_81 : tyBytes Try.prog 81 = some 32 := by kernel_rfl
theorem ze_81 : zeroOf Try.prog 81 = some (.agg #[.slice none 0 0, .int .i64 0]) := by kernel_rfl
theorem fo_81_0 : fieldOff Try.prog 81 0 = some 0 := by kernel_rfl
theorem fo_81_1 : fieldOff Try.prog 81 1 = some 1 := by kernel_rfl
theorem pl_81 : structPlaces Try.prog 81 = some #[(0, 1), (1, 1)] := by kernel_rfl
theorem bl_81 (ps : List (Nat × PV)) : evBuild Try.prog 81 ps = (fillP (plF [(0, 1), (1, 1)]) [.val (.slice none 0 0), .val (.int .i64 0)] ps).map .agg := bl_of ze_81 rfl pl_81 ps
theorem oz_81 : ofVal (.agg #[.slice none 0 0, .int .i64 0]) = .agg [.val (.slice none 0 0), .val (.int .i64 0)] := rfl
theorem ea_81 {Γ : Ctx} (s : AS) (ρ : Operand → PV) : evEff Try.prog Γ s ρ (.alloc 81) = some (.own s.nx 2 0 0, upd s.ob s.nx (some (81, 2, [.agg [.val (.slice none 0 0), .val (.int .i64 0)]])), s.nx + 1) := ea_of ze_81 (by kernel_rfl) rfl rfl s ρ
theorem bz_81 {Γ : Ctx} {ob : Objs} {ρ : Operand → PV} {ty : Nat} : evVal Try.prog Γ ob ρ ty (.build 81 #[]) = some (.agg [.val (.slice none 0 0), .val (.int .i64 0)]) := (show evBuild Try.prog 81 [] = some (.agg [.val (.slice none 0 0), .val (.int .i64 0)]) from by kernel_rfl)
theorem bs_81 : isByteSlice Try.prog 81 = false := by kernel_rfl
theorem is_81 : isStr Try.prog 81 = false := by kernel_rfl
theorem sz_88 : tySize Try.prog 88 = some 4 := by kernel_rfl
theorem ag_88 : tyAgg Try.prog 88 = some true := by kernel_rfl
theorem by_88 : tyBytes Try.prog 88 = some 4 := by kernel_rfl
theorem ze_88 : zeroOf Try.prog 88 = some (.agg #[.bool false, .bool false, .bool false, .bool false]) := by kernel_rfl
theorem un_88 : Try.prog.underlying 88 = some (.array 4 4) := by kernel_rfl
theorem ixa_88 {o sz j f : Nat} {i : Int} (h0 : 0 ≤ i) (h1 : i < 4) : evIndexAddr Try.prog 88 (.own o sz j f) i = some (.own o sz j (f + i.toNat)) := by rw [ixa_of un_88 sz_4 h0 h1, Nat.mul_one]
theorem ixp_88 {k : Bool} {x : PV} {f : Nat} {i : Int} (h0 : 0 ≤ i) (h1 : i < 4) : evIndexAddr Try.prog 88 (.ptr k x f) i = some (.ptr k x (f + i.toNat)) := by rw [ixap_of un_88 sz_4 h0 h1, Nat.mul_one]
theorem bl_88 (ps : List (Nat × PV)) : evBuild Try.prog 88 ps = (fillP (plF [(0, 1), (1, 1), (2, 1), (3, 1)]) [.val (.bool false), .val (.bool false), .val (.bool false), .val (.bool false)] ps).map .agg := bla_of ze_88 rfl (by kernel_rfl) (pl := #[(0, 1), (1, 1), (2, 1), (3, 1)]) (by kernel_rfl) ps
theorem oz_88 : ofVal (.agg #[.bool false, .bool false, .bool false, .bool false]) = .agg [.val (.bool false), .val (.bool false), .val (.bool false), .val (.bool false)] := rfl
theorem ea_88 {Γ : Ctx} (s : AS) (ρ : Operand → PV) : evEff Try.prog Γ s ρ (.alloc 88) = some (.own s.nx 4 0 0, upd s.ob s.nx (some (88, 4, [.agg [.val (.bool false), .val (.bool false), .val (.bool false), .val (.bool false)]])), s.nx + 1) := ea_of ze_88 (by kernel_rfl) rfl rfl s ρ
theorem bs_88 : isByteSlice Try.prog 88 = false := by kernel_rfl
theorem is_88 : isStr Try.prog 88 = false := by kernel_rfl
theorem sz_95 : tySize Try.prog 95 = some 4 := by kernel_rfl
theorem ag_95 : tyAgg Try.prog 95 = some true := by kernel_rfl
theorem by_95 : tyBytes Try.prog 95 = some 32 := by kernel_rfl
theorem ze_95 : zeroOf Try.prog 95 = some (.agg #[.int .i64 0, .int .i64 0, .int .i64 0, .int .i64 0]) := by kernel_rfl
theorem un_95 : Try.prog.underlying 95 = some (.array 4 3) := by kernel_rfl
theorem ixa_95 {o sz j f : Nat} {i : Int} (h0 : 0 ≤ i) (h1 : i < 4) : evIndexAddr Try.prog 95 (.own o sz j f) i = some (.own o sz j (f + i.toNat)) := by rw [ixa_of un_95 sz_3 h0 h1, Nat.mul_one]
theorem ixp_95 {k : Bool} {x : PV} {f : Nat} {i : Int} (h0 : 0 ≤ i) (h1 : i < 4) : evIndexAddr Try.prog 95 (.ptr k x f) i = some (.ptr k x (f + i.toNat)) := by rw [ixap_of un_95 sz_3 h0 h1, Nat.mul_one]
theorem bl_95 (ps : List (Nat × PV)) : evBuild Try.prog 95 ps = (fillP (plF [(0, 1), (1, 1), (2, 1), (3, 1)]) [.val (.int .i64 0), .val (.int .i64 0), .val (.int .i64 0), .val (.int .i64 0)] ps).map .agg := bla_of ze_95 rfl (by kernel_rfl) (pl := #[(0, 1), (1, 1), (2, 1), (3, 1)]) (by kernel_rfl) ps
theorem oz_95 : ofVal (.agg #[.int .i64 0, .int .i64 0, .int .i64 0, .int .i64 0]) = .agg [.val (.int .i64 0), .val (.int .i64 0), .val (.int .i64 0), .val (.int .i64 0)] := rfl
theorem ea_95 {Γ : Ctx} (s : AS) (ρ : Operand → PV) : evEff Try.prog Γ s ρ (.alloc 95) = some (.own s.nx 4 0 0, upd s.ob s.nx (some (95, 4, [.agg [.val (.int .i64 0), .val (.int .i64 0), .val (.int .i64 0), .val (.int .i64 0)]])), s.nx + 1) := ea_of ze_95 (by kernel_rfl) rfl rfl s ρ
theorem bs_95 : isByteSlice Try.prog 95 = false := by kernel_rfl
theorem is_95 : isStr Try.prog 95 = false := by kernel_rfl
theorem sz_104 : tySize Try.prog 104 = some 3 := by kernel_rfl
theorem ag_104 : tyAgg Try.prog 104 = some true := by kernel_rfl
theorem by_104 : tyBytes Try.prog 104 = some 24 := by kernel_rfl
theorem ze_104 : zeroOf Try.prog 104 = some (.agg #[.int .i64 0, .bool false, .int .i64 0]) := by kernel_rfl
theorem fo_104_0 : fieldOff Try.prog 104 0 = some 0 := by kernel_rfl
theorem fo_104_1 : fieldOff Try.prog 104 1 = some 1 := by kernel_rfl
theorem fo_104_2 : fieldOff Try.prog 104 2 = some 2 := by kernel_rfl
theorem pl_104 : structPlaces Try.prog 104 = some #[(0, 1), (1, 1), (2, 1)] := by kernel_rfl
theorem bl_104 (ps : List (Nat × PV)) : evBuild Try.prog 104 ps = (fillP (plF [(0, 1), (1, 1), (2, 1)]) [.val (.int .i64 0), .val (.bool false), .val (.int .i64 0)] ps).map .agg := bl_of ze_104 rfl pl_104 ps
theorem oz_104 : ofVal (.agg #[.int .i64 0, .bool false, .int .i64 0]) = .agg [.val (.int .i64 0), .val (.bool false), .val (.int .i64 0)] := rfl
theorem ea_104 {Γ : Ctx} (s : AS) (ρ : Operand → PV) : evEff Try.prog Γ s ρ (.alloc 104) = some (.own s.nx 3 0 0, upd s.ob s.nx (some (104, 3, [.agg [.val (.int .i64 0), .val (.bool false), .val (.int .i64 0)]])), s.nx + 1) := ea_of ze_104 (by kernel_rfl) rfl rfl s ρ
theorem bz_104 {Γ : Ctx} {ob : Objs} {ρ : Operand → PV} {ty : Nat} : evVal Try.prog Γ ob ρ ty (.build 104 #[]) = some (.agg [.val (.int .i64 0), .val (.bool false), .val (.int .i64 0)]) := (show evBuild Try.prog 104 [] = some (.agg [.val (.int .i64 0), .val (.bool false), .val (.int .i64 0)]) from by kernel_rfl)
theorem fd_104 : Try.prog.underlying 104 = some (.struct (Go.Program.fieldsOf Try.prog 104)) := by kernel_rfl
theorem ef_104 {a0 b0 : Int} {a1 b1 : Bool} {a2 b2 : Int} : eqFl Try.prog [.int .i64 a0, .bool a1, .int .i64 a2] [.int .i64 b0, .bool b1, .int .i64 b2] (Go.Program.fieldsOf Try.prog 104).toList = some ((a0 == b0) && ((a1 == b1) && ((a2 == b2) && true))) := by kernel_rfl
theorem sqeql_104 {x y : Operand} {a0 b0 : Int} {a1 b1 : Bool} {a2 b2 : Int} : binP Try.prog .eql 104 x y (some (.agg #[.int .i64 a0, .bool a1, .int .i64 a2])) (some (.agg #[.int .i64 b0, .bool b1, .int .i64 b2])) = some (.val (.bool ((a0 == b0) && ((a1 == b1) && ((a2 == b2) && true))))) := bp_eqlA fd_104 (by kernel_rfl) (by kernel_rfl) ef_104
theorem sqneq_104 {x y : Operand} {a0 b0 : Int} {a1 b1 : Bool} {a2 b2 : Int} : binP Try.prog .neq 104 x y (some (.agg #[.int .i64 a0, .bool a1, .int .i64 a2])) (some (.agg #[.int .i64 b0, .bool b1, .int .i64 b2])) = some (.val (.bool (!((a0 == b0) && ((a1 == b1) && ((a2 == b2) && true)))))) := bp_neqA fd_104 (by kernel_rfl) (by kernel_rfl) ef_104
theorem bs_104 : isByteSlice Try.prog 104 = false := by kernel_rfl
theorem is_104 : isStr Try.prog 104 = false := by kernel_rfl
theorem sz_105 : tySize Try.prog 105 = some 3 := by kernel_rfl
theorem ag_105 : tyAgg Try.prog 105 = some true := by kernel_rfl
theorem by_105 : tyBytes Try.prog 105 = some 24 := by kernel_rfl
theorem ze_105 : zeroOf Try.prog 105 = some (.agg #[.int .i64 0, .bool false, .int .i64 0]) := by kernel_rfl
theorem fo_105_0 : fieldOff Try.prog 105 0 = some 0 := by kernel_rfl
theorem fo_105_1 : fieldOff Try.prog 105 1 = some 1 := by kernel_rfl
theorem fo_105_2 : fieldOff Try.prog 105 2 = some 2 := by kernel_rfl
theorem pl_105 : structPlaces Try.prog 105 = some #[(0, 1), (1, 1), (2, 1)] := by kernel_rfl
theorem bl_105 (ps : List (Nat × PV)) : evBuild Try.prog 105 ps = (fillP (plF [(0, 1), (1, 1), (2, 1)]) [.val (.int .i64 0), .val (.bool false), .val (.int .i64 0)] ps).map .agg := bl_of ze_105 rfl pl_105 ps
theorem oz_105 : ofVal (.agg #[.int .i64 0, .bool false, .int .i64 0]) = .agg [.val (.int .i64 0), .val (.bool false), .val (.int .i64 0)] := rfl
theorem ea_105 {Γ : Ctx} (s : AS) (ρ : Operand → PV) : evEff Try.prog Γ s ρ (.alloc 105) = some (.own s.nx 3 0 0, upd s.ob s.nx (some (105, 3, [.agg [.val (.int .i64 0), .val (.bool false), .val (.int .i64 0)]])), s.nx + 1) := ea_of ze_105 (by kernel_rfl) rfl rfl s ρ
theorem bz_105 {Γ : Ctx} {ob : Objs} {ρ : Operand → PV} {ty : Nat} : evVal Try.prog Γ ob ρ ty (.build 105 #[]) = some (.agg [.val (.int .i64 0), .val (.bool false), .val (.int .i64 0)]) := (show evBuild Try.prog 105 [] = some (.agg [.val (.int .i64 0), .val (.bool false), .val (.int .i64 0)]) from by kernel_rfl)
theorem fd_105 : Try.prog.underlying 105 = some (.struct (Go.Program.fieldsOf Try.prog 105)) := by kernel_rfl
theorem ef_105 {a0 b0 : Int} {a1 b1 : Bool} {a2 b2 : Int} : eqFl Try.prog [.int .i64 a0, .bool a1, .int .i64 a2] [.int .i64 b0, .bool b1, .int .i64 b2] (Go.Program.fieldsOf Try.prog 105).toList = some ((a0 == b0) && ((a1 == b1) && ((a2 == b2) && true))) := by kernel_rfl
theorem sqeql_105 {x y : Operand} {a0 b0 : Int} {a1 b1 : Bool} {a2 b2 : Int} : binP Try.prog .eql 105 x y (some (.agg #[.int .i64 a0, .bool a1, .int .i64 a2])) (some (.agg #[.int .i64 b0, .bool b1, .int .i64 b2])) = some (.val (.bool ((a0 == b0) && ((a1 == b1) && ((a2 == b2) && true))))) := bp_eqlA fd_105 (by kernel_rfl) (by kernel_rfl) ef_105
theorem sqneq_105 {x y : Operand} {a0 b0 : Int} {a1 b1 : Bool} {a2 b2 : Int} : binP Try.prog .neq 105 x y (some (.agg #[.int .i64 a0, .bool a1, .int .i64 a2])) (some (.agg #[.int .i64 b0, .bool b1, .int .i64 b2])) = some (.val (.bool (!((a0 == b0) && ((a1 == b1) && ((a2 == b2) && true)))))) := bp_neqA fd_105 (by kernel_rfl) (by kernel_rfl) ef_105
theorem bs_105 : isByteSlice Try.prog 105 = false := by kernel_rfl
theorem is_105 : isStr Try.prog 105 = false := by kernel_rfl
theorem sz_106 : tySize Try.prog 106 = some 4 := by kernel_rfl
theorem ag_106 : tyAgg Try.prog 106 = some true := by kernel_rfl
theorem by_106 : tyBytes Try.prog 106 = some 32 := by kernel_rfl
theorem ze_106 : zeroOf Try.prog 106 = some (.agg #[.int .i64 0, .int .i64 0, .bool false, .int .i64 0]) := by kernel_rfl
theorem fo_106_0 : fieldOff Try.prog 106 0 = some 0 := by kernel_rfl
theorem fo_106_1 : fieldOff Try.prog 106 1 = some 1 := by kernel_rfl
theorem pl_106 : structPlaces Try.prog 106 = some #[(0, 1), (1, 3)] := by kernel_rfl
theorem bl_106 (ps : List (Nat × PV)) : evBuild Try.prog 106 ps = (fillP (plF [(0, 1), (1, 3)]) [.val (.int .i64 0), .val (.int .i64 0), .val (.bool false), .val (.int .i64 0)] ps).map .agg := bl_of ze_106 rfl pl_106 ps
theorem oz_106 : ofVal (.agg #[.int .i64 0, .int .i64 0, .bool false, .int .i64 0]) = .agg [.val (.int .i64 0), .val (.int .i64 0), .val (.bool false), .val (.int .i64 0)] := rfl
theorem ea_106 {Γ : Ctx} (s : AS) (ρ : Operand → PV) : evEff Try.prog Γ s ρ (.alloc 106) = some (.own s.nx 4 0 0, upd s.ob s.nx (some (106, 4, [.agg [.val (.int .i64 0), .val (.int .i64 0), .val (.bool false), .val (.int .i64 0)]])), s.nx + 1) := ea_of ze_106 (by kernel_rfl) rfl rfl s ρ
theorem bz_106 {Γ : Ctx} {ob : Objs} {ρ : Operand → PV} {ty : Nat} : evVal Try.prog Γ ob ρ ty (.build 106 #[]) = some (.agg [.val (.int .i64 0), .val (.int .i64 0), .val (.bool false), .val (.int .i64 0)]) := (show evBuild Try.prog 106 [] = some (.agg [.val (.int .i64 0), .val (.int .i64 0), .val (.bool false), .val (.int .i64 0)]) from by kernel_rfl)
theorem bs_106 : isByteSlice Try.prog 106 = false := by kernel_rfl
theorem is_106 : isStr Try.prog 106 = false := by kernel_rfl
theorem sz_107 : tySize Try.prog 107 = some 4 := by kernel_rfl
theorem ag_107 : tyAgg Try.prog 107 = some true := by kernel_rfl
theorem by_107 : tyBytes Try.prog 107 = some 32 := by kernel_rfl
theorem ze_107 : zeroOf Try.prog 107 = some (.agg #[.int .i64 0, .int .i64 0, .bool false, .int .i64 0]) := by kernel_rfl
theorem fo_107_0 : fieldOff Try.prog 107 0 = some 0 := by kernel_rfl
theorem fo_107_1 : fieldOff Try.prog 107 1 = some 1 := by kernel_rfl
theorem pl_107 : structPlaces Try.prog 107 = some #[(0, 1), (1, 3)] := by kernel_rfl
theorem bl_107 (ps : List (Nat × PV)) : evBuild Try.prog 107 ps = (fillP (plF [(0, 1), (1, 3)]) [.val (.int .i64 0), .val (.int .i64 0), .val (.bool false), .val (.int .i64 0)] ps).map .agg := bl_of ze_107 rfl pl_107 ps
theorem oz_107 : ofVal (.agg #[.int .i64 0, .int .i64 0, .bool false, .int .i64 0]) = .agg [.val (.int .i64 0), .val (.int .i64 0), .val (.bool false), .val (.int .i64 0)] := rfl
theorem ea_107 {Γ : Ctx} (s : AS) (ρ : Operand → PV) : evEff Try.prog Γ s ρ (.alloc 107) = some (.own s.nx 4 0 0, upd s.ob s.nx (some (107, 4, [.agg [.val (.int .i64 0), .val (.int .i64 0), .val (.bool false), .val (.int .i64 0)]])), s.nx + 1) := ea_of ze_107 (by kernel_rfl) rfl rfl s ρ
theorem bz_107 {Γ : Ctx} {ob : Objs} {ρ : Operand → PV} {ty : Nat} : evVal Try.prog Γ ob ρ ty (.build 107 #[]) = some (.agg [.val (.int .i64 0), .val (.int .i64 0), .val (.bool false), .val (.int .i64 0)]) := (show evBuild Try.prog 107 [] = some (.agg [.val (.int .i64 0), .val (.int .i64 0), .val (.bool false), .val (.int .i64 0)]) from by kernel_rfl)
theorem bs_107 : isByteSlice Try.prog 107 = false := by kernel_rfl
theorem is_107 : isStr Try.prog 107 = false := by kernel_rfl
theorem sz_139 : tySize Try.prog 139 = some 1 := by kernel_rfl
theorem ag_139 : tyAgg Try.prog 139 = some false := by kernel_rfl
theorem by_139 : tyBytes Try.prog 139 = some 4 := by kernel_rfl
theorem ze_139 : zeroOf Try.prog 139 = some (.int .u32 0) := by kernel_rfl
theorem un_139 : Try.prog.underlying 139 = some (.int .u32) := by kernel_rfl
theorem oz_139 : ofVal (.int .u32 0) = .val (.int .u32 0) := rfl
theorem ea_139 {Γ : Ctx} (s : AS) (ρ : Operand → PV) : evEff Try.prog Γ s ρ (.alloc 139) = some (.own s.nx 1 0 0, upd s.ob s.nx (some (139, 1, [.val (.int .u32 0)])), s.nx + 1) := ea_of ze_139 (by kernel_rfl) rfl rfl s ρ
theorem bs_139 : isByteSlice Try.prog 139 = false := by kernel_rfl
theorem is_139 : isStr Try.prog 139 = false := by kernel_rfl
theorem sz_22 : tySize Try.prog 22 = some 1 := by kernel_rfl
theorem ag_22 : tyAgg Try.prog 22 = some false := by kernel_rfl
theorem by_22 : tyBytes Try.prog 22 = some 24 := by kernel_rfl
theorem ze_22 : zeroOf Try.prog 22 = some (.slice none 0 0) := by kernel_rfl
theorem un_22 : Try.prog.underlying 22 = some (.slice 5) := by kernel_rfl
theorem el_22 : tyElem Try.prog 22 = some 5 := by kernel_rfl
theorem ix_22 {k : Bool} {es : List PV} {i : Int} (h0 : 0 ≤ i) (h1 : i < (es.length : Int)) : evIndexAddr Try.prog 22 (.lst k 1 es) i = some (.ptr k ((es[i.toNat]?).getD .dead) 0) := ix_lst un_22 sz_5 h0 h1
theorem ixr_22 {o j n : Nat} {i : Int} (h0 : 0 ≤ i) (h1 : i < (n : Int)) : evIndexAddr Try.prog 22 (.row o 1 j n) i = some (.own o 1 (j + i.toNat) 0) := ix_row un_22 sz_5 h0 h1
theorem sl_22 {k : Bool} {es : List PV} {lo hi : Option Int} (h0 : 0 ≤ lo.getD 0) (h1 : lo.getD 0 ≤ hi.getD es.length) (h2 : hi.getD es.length ≤ es.length) : evSlice Try.prog 22 (.lst k 1 es) lo hi = some (.lst k 1 ((es.drop (lo.getD 0).toNat).take ((hi.getD es.length).toNat - (lo.getD 0).toNat))) := sl_lst un_22 sz_5 h0 h1 h2
theorem slr_22 {o i n : Nat} {lo hi : Option Int} (h0 : 0 ≤ lo.getD 0) (h1 : lo.getD 0 < hi.getD n) (h2 : hi.getD n ≤ n) : evSlice Try.prog 22 (.row o 1 i n) lo hi = some (.row o 1 (i + (lo.getD 0).toNat) ((hi.getD n).toNat - (lo.getD 0).toNat)) := sl_rowlt un_22 sz_5 h0 h1 h2
theorem sle_22 {o i n : Nat} {lo hi : Option Int} (h0 : 0 ≤ lo.getD 0) (h1 : lo.getD 0 = hi.getD n) (h2 : hi.getD n ≤ n) : evSlice Try.prog 22 (.row o 1 i n) lo hi = some (.lst true 1 []) := sl_roweq un_22 sz_5 h0 h1 h2
theorem lpl_22 {ty sz : Nat} {k : Bool} {es : List PV} : lenP Try.prog 22 ty (.lst k sz es) = some (.val (.int .i64 es.length)) := lp_lst el_22
theorem lpr_22 {ty o sz i n : Nat} : lenP Try.prog 22 ty (.row o sz i n) = some (.val (.int .i64 n)) := lp_row el_22
theorem lpn_22 {ty : Nat} : lenP Try.prog 22 ty (.val (.slice none 0 0)) = some (.val (.int .i64 0)) := lp_nil un_22
theorem oz_22 : ofVal (.slice none 0 0) = .val (.slice none 0 0) := rfl
theorem ea_22 {Γ : Ctx} (s : AS) (ρ : Operand → PV) : evEff Try.prog Γ s ρ (.alloc 22) = some (.own s.nx 1 0 0, upd s.ob s.nx (some (22, 1, [.val (.slice none 0 0)])), s.nx + 1) := ea_of ze_22 (by kernel_rfl) rfl rfl s ρ
theorem em_22 {Γ : Ctx} (s : AS) (ρ : Operand → PV) (l c : Operand) : evEff Try.prog Γ s ρ (.makeSlice 22 l c) = mkEv 5 1 1 (.int .u8 0) s (ρ l) (ρ c) := em_of el_22 ze_5 sz_5 by_5 (by kernel_rfl) rfl s ρ l c
theorem eap_22 {Γ : Ctx} (s : AS) (ρ : Operand → PV) (x y : Operand) : evEff Try.prog Γ s ρ (.call { callee := .builtin .append, args := #[x, y], argTypes := #[22, 22] }) = apEv 5 1 1 s.nx s.ob (ρ x) (obOf s.ob (ρ x)) (sliceEs s.ob 1 (ρ y)) := eap_of el_22 ze_5 sz_5 by_5 (by decide) rfl s ρ x y
theorem ecp_22 {Γ : Ctx} (s : AS) (ρ : Operand → PV) (x y : Operand) (t' : Nat) : evEff Try.prog Γ s ρ (.call { callee := .builtin .copy, args := #[x, y], argTypes := #[22, t'] }) = cpX 1 s.nx s.ob (ρ x) (obOf s.ob (ρ x)) (srcEs s.ob 1 (ρ y)) := ecp_of el_22 sz_5 s ρ x y t'
theorem bs_22 : isByteSlice Try.prog 22 = true := by kernel_rfl
theorem is_22 : isStr Try.prog 22 = false := by kernel_rfl
theorem sz_23 : tySize Try.prog 23 = some 1 := by kernel_rfl
theorem ag_23 : tyAgg Try.prog 23 = some false := by kernel_rfl
theorem by_23 : tyBytes Try.prog 23 = some 24 := by kernel_rfl
theorem ze_23 : zeroOf Try.prog 23 = some (.slice none 0 0) := by kernel_rfl
theorem un_23 : Try.prog.underlying 23 = some (.slice 9) := by kernel_rfl
theorem el_23 : tyElem Try.prog 23 = some 9 := by kernel_rfl
theorem ix_23 {k : Bool} {es : List PV} {i : Int} (h0 : 0 ≤ i) (h1 : i < (es.length : Int)) : evIndexAddr Try.prog 23 (.lst k 1 es) i = some (.ptr k ((es[i.toNat]?).getD .dead) 0) := ix_lst un_23 sz_9 h0 h1
theorem ixr_23 {o j n : Nat} {i : Int} (h0 : 0 ≤ i) (h1 : i < (n : Int)) : evIndexAddr Try.prog 23 (.row o 1 j n) i = some (.own o 1 (j + i.toNat) 0) := ix_row un_23 sz_9 h0 h1
theorem sl_23 {k : Bool} {es : List PV} {lo hi : Option Int} (h0 : 0 ≤ lo.getD 0) (h1 : lo.getD 0 ≤ hi.getD es.length) (h2 : hi.getD es.length ≤ es.length) : evSlice Try.prog 23 (.lst k 1 es) lo hi = some (.lst k 1 ((es.drop (lo.getD 0).toNat).take ((hi.getD es.length).toNat - (lo.getD 0).toNat))) := sl_lst un_23 sz_9 h0 h1 h2
theorem slr_23 {o i n : Nat} {lo hi : Option Int} (h0 : 0 ≤ lo.getD 0) (h1 : lo.getD 0 < hi.getD n) (h2 : hi.getD n ≤ n) : evSlice Try.prog 23 (.row o 1 i n) lo hi = some (.row o 1 (i + (lo.getD 0).toNat) ((hi.getD n).toNat - (lo.getD 0).toNat)) := sl_rowlt un_23 sz_9 h0 h1 h2
theorem sle_23 {o i n : Nat} {lo hi : Option Int} (h0 : 0 ≤ lo.getD 0) (h1 : lo.getD 0 = hi.getD n) (h2 : hi.getD n ≤ n) : evSlice Try.prog 23 (.row o 1 i n) lo hi = some (.lst true 1 []) := sl_roweq un_23 sz_9 h0 h1 h2
theorem lpl_23 {ty sz : Nat} {k : Bool} {es : List PV} : lenP Try.prog 23 ty (.lst k sz es) = some (.val (.int .i64 es.length)) := lp_lst el_23
theorem lpr_23 {ty o sz i n : Nat} : lenP Try.prog 23 ty (.row o sz i n) = some (.val (.int .i64 n)) := lp_row el_23
theorem lpn_23 {ty : Nat} : lenP Try.prog 23 ty (.val (.slice none 0 0)) = some (.val (.int .i64 0)) := lp_nil un_23
theorem oz_23 : ofVal (.slice none 0 0) = .val (.slice none 0 0) := rfl
theorem ea_23 {Γ : Ctx} (s : AS) (ρ : Operand → PV) : evEff Try.prog Γ s ρ (.alloc 23) = some (.own s.nx 1 0 0, upd s.ob s.nx (some (23, 1, [.val (.slice none 0 0)])), s.nx + 1) := ea_of ze_23 (by kernel_rfl) rfl rfl s ρ
theorem em_23 {Γ : Ctx} (s : AS) (ρ : Operand → PV) (l c : Operand) : evEff Try.prog Γ s ρ (.makeSlice 23 l c) = mkEv 9 1 16 (.string ByteArray.empty) s (ρ l) (ρ c) := em_of el_23 ze_9 sz_9 by_9 (by kernel_rfl) rfl s ρ l c
theorem eap_23 {Γ : Ctx} (s : AS) (ρ : Operand → PV) (x y : Operand) : evEff Try.prog Γ s ρ (.call { callee := .builtin .append, args := #[x, y], argTypes := #[23, 23] }) = apEv 9 1 16 s.nx s.ob (ρ x) (obOf s.ob (ρ x)) (sliceEs s.ob 1 (ρ y)) := eap_of el_23 ze_9 sz_9 by_9 (by decide) rfl s ρ x y
theorem ecp_23 {Γ : Ctx} (s : AS) (ρ : Operand → PV) (x y : Operand) (t' : Nat) : evEff Try.prog Γ s ρ (.call { callee := .builtin .copy, args := #[x, y], argTypes := #[23, t'] }) = cpX 1 s.nx s.ob (ρ x) (obOf s.ob (ρ x)) (srcEs s.ob 1 (ρ y)) := ecp_of el_23 sz_9 s ρ x y t'
theorem bs_23 : isByteSlice Try.prog 23 = false := by kernel_rfl
theorem is_23 : isStr Try.prog 23 = false := by kernel_rfl
theorem sz_40 : tySize Try.prog 40 = some 1 := by kernel_rfl
theorem ag_40 : tyAgg Try.prog 40 = some false := by kernel_rfl
theorem by_40 : tyBytes Try.prog 40 = some 24 := by kernel_rfl
theorem ze_40 : zeroOf Try.prog 40 = some (.slice none 0 0) := by kernel_rfl
theorem un_40 : Try.prog.underlying 40 = some (.slice 3) := by kernel_rfl
theorem el_40 : tyElem Try.prog 40 = some 3 := by kernel_rfl
theorem ix_40 {k : Bool} {es : List PV} {i : Int} (h0 : 0 ≤ i) (h1 : i < (es.length : Int)) : evIndexAddr Try.prog 40 (.lst k 1 es) i = some (.ptr k ((es[i.toNat]?).getD .dead) 0) := ix_lst un_40 sz_3 h0 h1
theorem ixr_40 {o j n : Nat} {i : Int} (h0 : 0 ≤ i) (h1 : i < (n : Int)) : evIndexAddr Try.prog 40 (.row o 1 j n) i = some (.own o 1 (j + i.toNat) 0) := ix_row un_40 sz_3 h0 h1
theorem sl_40 {k : Bool} {es : List PV} {lo hi : Option Int} (h0 : 0 ≤ lo.getD 0) (h1 : lo.getD 0 ≤ hi.getD es.length) (h2 : hi.getD es.length ≤ es.length) : evSlice Try.prog 40 (.lst k 1 es) lo hi = some (.lst k 1 ((es.drop (lo.getD 0).toNat).take ((hi.getD es.length).toNat - (lo.getD 0).toNat))) := sl_lst un_40 sz_3 h0 h1 h2
theorem slr_40 {o i n : Nat} {lo hi : Option Int} (h0 : 0 ≤ lo.getD 0) (h1 : lo.getD 0 < hi.getD n) (h2 : hi.getD n ≤ n) : evSlice Try.prog 40 (.row o 1 i n) lo hi = some (.row o 1 (i + (lo.getD 0).toNat) ((hi.getD n).toNat - (lo.getD 0).toNat)) := sl_rowlt un_40 sz_3 h0 h1 h2
theorem sle_40 {o i n : Nat} {lo hi : Option Int} (h0 : 0 ≤ lo.getD 0) (h1 : lo.getD 0 = hi.getD n) (h2 : hi.getD n ≤ n) : evSlice Try.prog 40 (.row o 1 i n) lo hi = some (.lst true 1 []) := sl_roweq un_40 sz_3 h0 h1 h2
theorem lpl_40 {ty sz : Nat} {k : Bool} {es : List PV} : lenP Try.prog 40 ty (.lst k sz es) = some (.val (.int .i64 es.length)) := lp_lst el_40
theorem lpr_40 {ty o sz i n : Nat} : lenP Try.prog 40 ty (.row o sz i n) = some (.val (.int .i64 n)) := lp_row el_40
theorem lpn_40 {ty : Nat} : lenP Try.prog 40 ty (.val (.slice none 0 0)) = some (.val (.int .i64 0)) := lp_nil un_40
theorem oz_40 : ofVal (.slice none 0 0) = .val (.slice none 0 0) := rfl
theorem ea_40 {Γ : Ctx} (s : AS) (ρ : Operand → PV) : evEff Try.prog Γ s ρ (.alloc 40) = some (.own s.nx 1 0 0, upd s.ob s.nx (some (40, 1, [.val (.slice none 0 0)])), s.nx + 1) := ea_of ze_40 (by kernel_rfl) rfl rfl s ρ
theorem em_40 {Γ : Ctx} (s : AS) (ρ : Operand → PV) (l c : Operand) : evEff Try.prog Γ s ρ (.makeSlice 40 l c) = mkEv 3 1 8 (.int .i64 0) s (ρ l) (ρ c) := em_of el_40 ze_3 sz_3 by_3 (by kernel_rfl) rfl s ρ l c
theorem eap_40 {Γ : Ctx} (s : AS) (ρ : Operand → PV) (x y : Operand) : evEff Try.prog Γ s ρ (.call { callee := .builtin .append, args := #[x, y], argTypes := #[40, 40] }) = apEv 3 1 8 s.nx s.ob (ρ x) (obOf s.ob (ρ x)) (sliceEs s.ob 1 (ρ y)) := eap_of el_40 ze_3 sz_3 by_3 (by decide) rfl s ρ x y
theorem ecp_40 {Γ : Ctx} (s : AS) (ρ : Operand → PV) (x y : Operand) (t' : Nat) : evEff Try.prog Γ s ρ (.call { callee := .builtin .copy, args := #[x, y], argTypes := #[40, t'] }) = cpX 1 s.nx s.ob (ρ x) (obOf s.ob (ρ x)) (srcEs s.ob 1 (ρ y)) := ecp_of el_40 sz_3 s ρ x y t'
theorem bs_40 : isByteSlice Try.prog 40 = false := by kernel_rfl
theorem is_40 : isStr Try.prog 40 = false := by kernel_rfl
theorem sz_58 : tySize Try.prog 58 = some 1 := by kernel_rfl
theorem ag_58 : tyAgg Try.prog 58 = some false := by kernel_rfl
theorem by_58 : tyBytes Try.prog 58 = some 24 := by kernel_rfl
theorem ze_58 : zeroOf Try.prog 58 = some (.slice none 0 0) := by kernel_rfl
theorem un_58 : Try.prog.underlying 58 = some (.slice 65) := by kernel_rfl
theorem el_58 : tyElem Try.prog 58 = some 65 := by kernel_rfl
theorem ix_58 {k : Bool} {es : List PV} {i : Int} (h0 : 0 ≤ i) (h1 : i < (es.length : Int)) : evIndexAddr Try.prog 58 (.lst k 7 es) i = some (.ptr k ((es[i.toNat]?).getD .dead) 0) := ix_lst un_58 sz_65 h0 h1
theorem ixr_58 {o j n : Nat} {i : Int} (h0 : 0 ≤ i) (h1 : i < (n : Int)) : evIndexAddr Try.prog 58 (.row o 7 j n) i = some (.own o 7 (j + i.toNat) 0) := ix_row un_58 sz_65 h0 h1
theorem sl_58 {k : Bool} {es : List PV} {lo hi : Option Int} (h0 : 0 ≤ lo.getD 0) (h1 : lo.getD 0 ≤ hi.getD es.length) (h2 : hi.getD es.length ≤ es.length) : evSlice Try.prog 58 (.lst k 7 es) lo hi = some (.lst k 7 ((es.drop (lo.getD 0).toNat).take ((hi.getD es.length).toNat - (lo.getD 0).toNat))) := sl_lst un_58 sz_65 h0 h1 h2
theorem slr_58 {o i n : Nat} {lo hi : Option Int} (h0 : 0 ≤ lo.getD 0) (h1 : lo.getD 0 < hi.getD n) (h2 : hi.getD n ≤ n) : evSlice Try.prog 58 (.row o 7 i n) lo hi = some (.row o 7 (i + (lo.getD 0).toNat) ((hi.getD n).toNat - (lo.getD 0).toNat)) := sl_rowlt un_58 sz_65 h0 h1 h2
theorem sle_58 {o i n : Nat} {lo hi : Option Int} (h0 : 0 ≤ lo.getD 0) (h1 : lo.getD 0 = hi.getD n) (h2 : hi.getD n ≤ n) : evSlice Try.prog 58 (.row o 7 i n) lo hi = some (.lst true 7 []) := sl_roweq un_58 sz_65 h0 h1 h2
theorem lpl_58 {ty sz : Nat} {k : Bool} {es : List PV} : lenP Try.prog 58 ty (.lst k sz es) = some (.val (.int .i64 es.length)) := lp_lst el_58
theorem lpr_58 {ty o sz i n : Nat} : lenP Try.prog 58 ty (.row o sz i n) = some (.val (.int .i64 n)) := lp_row el_58
theorem lpn_58 {ty : Nat} : lenP Try.prog 58 ty (.val (.slice none 0 0)) = some (.val (.int .i64 0)) := lp_nil un_58
theorem oz_58 : ofVal (.slice none 0 0) = .val (.slice none 0 0) := rfl
theorem ea_58 {Γ : Ctx} (s : AS) (ρ : Operand → PV) : evEff Try.prog Γ s ρ (.alloc 58) = some (.own s.nx 1 0 0, upd s.ob s.nx (some (58, 1, [.val (.slice none 0 0)])), s.nx + 1) := ea_of ze_58 (by kernel_rfl) rfl rfl s ρ
theorem em_58 {Γ : Ctx} (s : AS) (ρ : Operand → PV) (l c : Operand) : evEff Try.prog Γ s ρ (.makeSlice 58 l c) = mkEv 65 7 56 (.agg #[.int .i64 0, .int .i64 0, .int .i64 0, .int .i64 0, .int .i64 0, .int .i64 0, .bool false]) s (ρ l) (ρ c) := em_of el_58 ze_65 sz_65 by_65 (by kernel_rfl) rfl s ρ l c
theorem eap_58 {Γ : Ctx} (s : AS) (ρ : Operand → PV) (x y : Operand) : evEff Try.prog Γ s ρ (.call { callee := .builtin .append, args := #[x, y], argTypes := #[58, 58] }) = apEv 65 7 56 s.nx s.ob (ρ x) (obOf s.ob (ρ x)) (sliceEs s.ob 7 (ρ y)) := eap_of el_58 ze_65 sz_65 by_65 (by decide) rfl s ρ x y
theorem ecp_58 {Γ : Ctx} (s : AS) (ρ : Operand → PV) (x y : Operand) (t' : Nat) : evEff Try.prog Γ s ρ (.call { callee := .builtin .copy, args := #[x, y], argTypes := #[58, t'] }) = cpX 7 s.nx s.ob (ρ x) (obOf s.ob (ρ x)) (srcEs s.ob 7 (ρ y)) := ecp_of el_58 sz_65 s ρ x y t'
theorem bs_58 : isByteSlice Try.prog 58 = false := by kernel_rfl
theorem is_58 : isStr Try.prog 58 = false := by kernel_rfl
theorem sz_86 : tySize Try.prog 86 = some 1 := by kernel_rfl
theorem ag_86 : tyAgg Try.prog 86 = some false := by kernel_rfl
theorem by_86 : tyBytes Try.prog 86 = some 24 := by kernel_rfl
theorem ze_86 : zeroOf Try.prog 86 = some (.slice none 0 0) := by kernel_rfl
theorem un_86 : Try.prog.underlying 86 = some (.slice 95) := by kernel_rfl
theorem el_86 : tyElem Try.prog 86 = some 95 := by kernel_rfl
theorem ix_86 {k : Bool} {es : List PV} {i : Int} (h0 : 0 ≤ i) (h1 : i < (es.length : Int)) : evIndexAddr Try.prog 86 (.lst k 4 es) i = some (.ptr k ((es[i.toNat]?).getD .dead) 0) := ix_lst un_86 sz_95 h0 h1
theorem ixr_86 {o j n : Nat} {i : Int} (h0 : 0 ≤ i) (h1 : i < (n : Int)) : evIndexAddr Try.prog 86 (.row o 4 j n) i = some (.own o 4 (j + i.toNat) 0) := ix_row un_86 sz_95 h0 h1
theorem sl_86 {k : Bool} {es : List PV} {lo hi : Option Int} (h0 : 0 ≤ lo.getD 0) (h1 : lo.getD 0 ≤ hi.getD es.length) (h2 : hi.getD es.length ≤ es.length) : evSlice Try.prog 86 (.lst k 4 es) lo hi = some (.lst k 4 ((es.drop (lo.getD 0).toNat).take ((hi.getD es.length).toNat - (lo.getD 0).toNat))) := sl_lst un_86 sz_95 h0 h1 h2
theorem slr_86 {o i n : Nat} {lo hi : Option Int} (h0 : 0 ≤ lo.getD 0) (h1 : lo.getD 0 < hi.getD n) (h2 : hi.getD n ≤ n) : evSlice Try.prog 86 (.row o 4 i n) lo hi = some (.row o 4 (i + (lo.getD 0).toNat) ((hi.getD n).toNat - (lo.getD 0).toNat)) := sl_rowlt un_86 sz_95 h0 h1 h2
theorem sle_86 {o i n : Nat} {lo hi : Option Int} (h0 : 0 ≤ lo.getD 0) (h1 : lo.getD 0 = hi.getD n) (h2 : hi.getD n ≤ n) : evSlice Try.prog 86 (.row o 4 i n) lo hi = some (.lst true 4 []) := sl_roweq un_86 sz_95 h0 h1 h2
theorem lpl_86 {ty sz : Nat} {k : Bool} {es : List PV} : lenP Try.prog 86 ty (.lst k sz es) = some (.val (.int .i64 es.length)) := lp_lst el_86
theorem lpr_86 {ty o sz i n : Nat} : lenP Try.prog 86 ty (.row o sz i n) = some (.val (.int .i64 n)) := lp_row el_86
theorem lpn_86 {ty : Nat} : lenP Try.prog 86 ty (.val (.slice none 0 0)) = some (.val (.int .i64 0)) := lp_nil un_86
theorem oz_86 : ofVal (.slice none 0 0) = .val (.slice none 0 0) := rfl
theorem ea_86 {Γ : Ctx} (s : AS) (ρ : Operand → PV) : evEff Try.prog Γ s ρ (.alloc 86) = some (.own s.nx 1 0 0, upd s.ob s.nx (some (86, 1, [.val (.slice none 0 0)])), s.nx + 1) := ea_of ze_86 (by kernel_rfl) rfl rfl s ρ
theorem em_86 {Γ : Ctx} (s : AS) (ρ : Operand → PV) (l c : Operand) : evEff Try.prog Γ s ρ (.makeSlice 86 l c) = mkEv 95 4 32 (.agg #[.int .i64 0, .int .i64 0, .int .i64 0, .int .i64 0]) s (ρ l) (ρ c) := em_of el_86 ze_95 sz_95 by_95 (by kernel_rfl) rfl s ρ l c
theorem eap_86 {Γ : Ctx} (s : AS) (ρ : Operand → PV) (x y : Operand) : evEff Try.prog Γ s ρ (.call { callee := .builtin .append, args := #[x, y], argTypes := #[86, 86] }) = apEv 95 4 32 s.nx s.ob (ρ x) (obOf s.ob (ρ x)) (sliceEs s.ob 4 (ρ y)) := eap_of el_86 ze_95 sz_95 by_95 (by decide) rfl s ρ x y
theorem ecp_86 {Γ : Ctx} (s : AS) (ρ : Operand → PV) (x y : Operand) (t' : Nat) : evEff Try.prog Γ s ρ (.call { callee := .builtin .copy, args := #[x, y], argTypes := #[86, t'] }) = cpX 4 s.nx s.ob (ρ x) (obOf s.ob (ρ x)) (srcEs s.ob 4 (ρ y)) := ecp_of el_86 sz_95 s ρ x y t'
theorem bs_86 : isByteSlice Try.prog 86 = false := by kernel_rfl
theorem is_86 : isStr Try.prog 86 = false := by kernel_rfl
theorem sz_87 : tySize Try.prog 87 = some 1 := by kernel_rfl
theorem ag_87 : tyAgg Try.prog 87 = some false := by kernel_rfl
theorem by_87 : tyBytes Try.prog 87 = some 24 := by kernel_rfl
theorem ze_87 : zeroOf Try.prog 87 = some (.slice none 0 0) := by kernel_rfl
theorem un_87 : Try.prog.underlying 87 = some (.slice 88) := by kernel_rfl
theorem el_87 : tyElem Try.prog 87 = some 88 := by kernel_rfl
theorem ix_87 {k : Bool} {es : List PV} {i : Int} (h0 : 0 ≤ i) (h1 : i < (es.length : Int)) : evIndexAddr Try.prog 87 (.lst k 4 es) i = some (.ptr k ((es[i.toNat]?).getD .dead) 0) := ix_lst un_87 sz_88 h0 h1
theorem ixr_87 {o j n : Nat} {i : Int} (h0 : 0 ≤ i) (h1 : i < (n : Int)) : evIndexAddr Try.prog 87 (.row o 4 j n) i = some (.own o 4 (j + i.toNat) 0) := ix_row un_87 sz_88 h0 h1
theorem sl_87 {k : Bool} {es : List PV} {lo hi : Option Int} (h0 : 0 ≤ lo.getD 0) (h1 : lo.getD 0 ≤ hi.getD es.length) (h2 : hi.getD es.length ≤ es.length) : evSlice Try.prog 87 (.lst k 4 es) lo hi = some (.lst k 4 ((es.drop (lo.getD 0).toNat).take ((hi.getD es.length).toNat - (lo.getD 0).toNat))) := sl_lst un_87 sz_88 h0 h1 h2
theorem slr_87 {o i n : Nat} {lo hi : Option Int} (h0 : 0 ≤ lo.getD 0) (h1 : lo.getD 0 < hi.getD n) (h2 : hi.getD n ≤ n) : evSlice Try.prog 87 (.row o 4 i n) lo hi = some (.row o 4 (i + (lo.getD 0).toNat) ((hi.getD n).toNat - (lo.getD 0).toNat)) := sl_rowlt un_87 sz_88 h0 h1 h2
theorem sle_87 {o i n : Nat} {lo hi : Option Int} (h0 : 0 ≤ lo.getD 0) (h1 : lo.getD 0 = hi.getD n) (h2 : hi.getD n ≤ n) : evSlice Try.prog 87 (.row o 4 i n) lo hi = some (.lst true 4 []) := sl_roweq un_87 sz_88 h0 h1 h2
theorem lpl_87 {ty sz : Nat} {k : Bool} {es : List PV} : lenP Try.prog 87 ty (.lst k sz es) = some (.val (.int .i64 es.length)) := lp_lst el_87
theorem lpr_87 {ty o sz i n : Nat} : lenP Try.prog 87 ty (.row o sz i n) = some (.val (.int .i64 n)) := lp_row el_87
theorem lpn_87 {ty : Nat} : lenP Try.prog 87 ty (.val (.slice none 0 0)) = some (.val (.int .i64 0)) := lp_nil un_87
theorem oz_87 : ofVal (.slice none 0 0) = .val (.slice none 0 0) := rfl
theorem ea_87 {Γ : Ctx} (s : AS) (ρ : Operand → PV) : evEff Try.prog Γ s ρ (.alloc 87) = some (.own s.nx 1 0 0, upd s.ob s.nx (some (87, 1, [.val (.slice none 0 0)])), s.nx + 1) := ea_of ze_87 (by kernel_rfl) rfl rfl s ρ
theorem em_87 {Γ : Ctx} (s : AS) (ρ : Operand → PV) (l c : Operand) : evEff Try.prog Γ s ρ (.makeSlice 87 l c) = mkEv 88 4 4 (.agg #[.bool false, .bool false, .bool false, .bool false]) s (ρ l) (ρ c) := em_of el_87 ze_88 sz_88 by_88 (by kernel_rfl) rfl s ρ l c
theorem eap_87 {Γ : Ctx} (s : AS) (ρ : Operand → PV) (x y : Operand) : evEff Try.prog Γ s ρ (.call { callee := .builtin .append, args := #[x, y], argTypes := #[87, 87] }) = apEv 88 4 4 s.nx s.ob (ρ x) (obOf s.ob (ρ x)) (sliceEs s.ob 4 (ρ y)) := eap_of el_87 ze_88 sz_88 by_88 (by decide) rfl s ρ x y
theorem ecp_87 {Γ : Ctx} (s : AS) (ρ : Operand → PV) (x y : Operand) (t' : Nat) : evEff Try.prog Γ s ρ (.call { callee := .builtin .copy, args := #[x, y], argTypes := #[87, t'] }) = cpX 4 s.nx s.ob (ρ x) (obOf s.ob (ρ x)) (srcEs s.ob 4 (ρ y)) := ecp_of el_87 sz_88 s ρ x y t'
theorem bs_87 : isByteSlice Try.prog 87 = false := by kernel_rfl
theorem is_87 : isStr Try.prog 87 = false := by kernel_rfl
theorem sz_130 : tySize Try.prog 130 = some 1 := by kernel_rfl
theorem ag_130 : tyAgg Try.prog 130 = some false := by kernel_rfl
theorem by_130 : tyBytes Try.prog 130 = some 24 := by kernel_rfl
theorem ze_130 : zeroOf Try.prog 130 = some (.slice none 0 0) := by kernel_rfl
theorem un_130 : Try.prog.underlying 130 = some (.slice 57) := by kernel_rfl
theorem el_130 : tyElem Try.prog 130 = some 57 := by kernel_rfl
theorem ix_130 {k : Bool} {es : List PV} {i : Int} (h0 : 0 ≤ i) (h1 : i < (es.length : Int)) : evIndexAddr Try.prog 130 (.lst k 4 es) i = some (.ptr k ((es[i.toNat]?).getD .dead) 0) := ix_lst un_130 sz_57 h0 h1
theorem ixr_130 {o j n : Nat} {i : Int} (h0 : 0 ≤ i) (h1 : i < (n : Int)) : evIndexAddr Try.prog 130 (.row o 4 j n) i = some (.own o 4 (j + i.toNat) 0) := ix_row un_130 sz_57 h0 h1
theorem sl_130 {k : Bool} {es : List PV} {lo hi : Option Int} (h0 : 0 ≤ lo.getD 0) (h1 : lo.getD 0 ≤ hi.getD es.length) (h2 : hi.getD es.length ≤ es.length) : evSlice Try.prog 130 (.lst k 4 es) lo hi = some (.lst k 4 ((es.drop (lo.getD 0).toNat).take ((hi.getD es.length).toNat - (lo.getD 0).toNat))) := sl_lst un_130 sz_57 h0 h1 h2
theorem slr_130 {o i n : Nat} {lo hi : Option Int} (h0 : 0 ≤ lo.getD 0) (h1 : lo.getD 0 < hi.getD n) (h2 : hi.getD n ≤ n) : evSlice Try.prog 130 (.row o 4 i n) lo hi = some (.row o 4 (i + (lo.getD 0).toNat) ((hi.getD n).toNat - (lo.getD 0).toNat)) := sl_rowlt un_130 sz_57 h0 h1 h2
theorem sle_130 {o i n : Nat} {lo hi : Option Int} (h0 : 0 ≤ lo.getD 0) (h1 : lo.getD 0 = hi.getD n) (h2 : hi.getD n ≤ n) : evSlice Try.prog 130 (.row o 4 i n) lo hi = some (.lst true 4 []) := sl_roweq un_130 sz_57 h0 h1 h2
theorem lpl_130 {ty sz : Nat} {k : Bool} {es : List PV} : lenP Try.prog 130 ty (.lst k sz es) = some (.val (.int .i64 es.length)) := lp_lst el_130
theorem lpr_130 {ty o sz i n : Nat} : lenP Try.prog 130 ty (.row o sz i n) = some (.val (.int .i64 n)) := lp_row el_130
theorem lpn_130 {ty : Nat} : lenP Try.prog 130 ty (.val (.slice none 0 0)) = some (.val (.int .i64 0)) := lp_nil un_130
theorem oz_130 : ofVal (.slice none 0 0) = .val (.slice none 0 0) := rfl
theorem ea_130 {Γ : Ctx} (s : AS) (ρ : Operand → PV) : evEff Try.prog Γ s ρ (.alloc 130) = some (.own s.nx 1 0 0, upd s.ob s.nx (some (130, 1, [.val (.slice none 0 0)])), s.nx + 1) := ea_of ze_130 (by kernel_rfl) rfl rfl s ρ
theorem em_130 {Γ : Ctx} (s : AS) (ρ : Operand → PV) (l c : Operand) : evEff Try.prog Γ s ρ (.makeSlice 130 l c) = mkEv 57 4 32 (.agg #[.int .i64 0, .int .i64 0, .int .i64 0, .int .i64 0]) s (ρ l) (ρ c) := em_of el_130 ze_57 sz_57 by_57 (by kernel_rfl) rfl s ρ l c
theorem eap_130 {Γ : Ctx} (s : AS) (ρ : Operand → PV) (x y : Operand) : evEff Try.prog Γ s ρ (.call { callee := .builtin .append, args := #[x, y], argTypes := #[130, 130] }) = apEv 57 4 32 s.nx s.ob (ρ x) (obOf s.ob (ρ x)) (sliceEs s.ob 4 (ρ y)) := eap_of el_130 ze_57 sz_57 by_57 (by decide) rfl s ρ x y
theorem ecp_130 {Γ : Ctx} (s : AS) (ρ : Operand → PV) (x y : Operand) (t' : Nat) : evEff Try.prog Γ s ρ (.call { callee := .builtin .copy, args := #[x, y], argTypes := #[130, t'] }) = cpX 4 s.nx s.ob (ρ x) (obOf s.ob (ρ x)) (srcEs s.ob 4 (ρ y)) := ecp_of el_130 sz_57 s ρ x y t'
theorem bs_130 : isByteSlice Try.prog 130 = false := by kernel_rfl
theorem is_130 : isStr Try.prog 130 = false := by kernel_rfl
theorem sz_36 : tySize Try.prog 36 = some 1 := by kernel_rfl
theorem ag_36 : tyAgg Try.prog 36 = some false := by kernel_rfl
theorem by_36 : tyBytes Try.prog 36 = some 24 := by kernel_rfl
theorem ze_36 : zeroOf Try.prog 36 = some (.slice none 0 0) := by kernel_rfl
theorem un_36 : Try.prog.underlying 36 = some (.slice 23) := by kernel_rfl
theorem el_36 : tyElem Try.prog 36 = some 23 := by kernel_rfl
theorem ix_36 {k : Bool} {es : List PV} {i : Int} (h0 : 0 ≤ i) (h1 : i < (es.length : Int)) : evIndexAddr Try.prog 36 (.lst k 1 es) i = some (.ptr k ((es[i.toNat]?).getD .dead) 0) := ix_lst un_36 sz_23 h0 h1
theorem ixr_36 {o j n : Nat} {i : Int} (h0 : 0 ≤ i) (h1 : i < (n : Int)) : evIndexAddr Try.prog 36 (.row o 1 j n) i = some (.own o 1 (j + i.toNat) 0) := ix_row un_36 sz_23 h0 h1
theorem sl_36 {k : Bool} {es : List PV} {lo hi : Option Int} (h0 : 0 ≤ lo.getD 0) (h1 : lo.getD 0 ≤ hi.getD es.length) (h2 : hi.getD es.length ≤ es.length) : evSlice Try.prog 36 (.lst k 1 es) lo hi = some (.lst k 1 ((es.drop (lo.getD 0).toNat).take ((hi.getD es.length).toNat - (lo.getD 0).toNat))) := sl_lst un_36 sz_23 h0 h1 h2
theorem slr_36 {o i n : Nat} {lo hi : Option Int} (h0 : 0 ≤ lo.getD 0) (h1 : lo.getD 0 < hi.getD n) (h2 : hi.getD n ≤ n) : evSlice Try.prog 36 (.row o 1 i n) lo hi = some (.row o 1 (i + (lo.getD 0).toNat) ((hi.getD n).toNat - (lo.getD 0).toNat)) := sl_rowlt un_36 sz_23 h0 h1 h2
theorem sle_36 {o i n : Nat} {lo hi : Option Int} (h0 : 0 ≤ lo.getD 0) (h1 : lo.getD 0 = hi.getD n) (h2 : hi.getD n ≤ n) : evSlice Try.prog 36 (.row o 1 i n) lo hi = some (.lst true 1 []) := sl_roweq un_36 sz_23 h0 h1 h2
theorem lpl_36 {ty sz : Nat} {k : Bool} {es : List PV} : lenP Try.prog 36 ty (.lst k sz es) = some (.val (.int .i64 es.length)) := lp_lst el_36
theorem lpr_36 {ty o sz i n : Nat} : lenP Try.prog 36 ty (.row o sz i n) = some (.val (.int .i64 n)) := lp_row el_36
theorem lpn_36 {ty : Nat} : lenP Try.prog 36 ty (.val (.slice none 0 0)) = some (.val (.int .i64 0)) := lp_nil un_36
theorem oz_36 : ofVal (.slice none 0 0) = .val (.slice none 0 0) := rfl
theorem ea_36 {Γ : Ctx} (s : AS) (ρ : Operand → PV) : evEff Try.prog Γ s ρ (.alloc 36) = some (.own s.nx 1 0 0, upd s.ob s.nx (some (36, 1, [.val (.slice none 0 0)])), s.nx + 1) := ea_of ze_36 (by kernel_rfl) rfl rfl s ρ
theorem em_36 {Γ : Ctx} (s : AS) (ρ : Operand → PV) (l c : Operand) : evEff Try.prog Γ s ρ (.makeSlice 36 l c) = mkEv 23 1 24 (.slice none 0 0) s (ρ l) (ρ c) := em_of el_36 ze_23 sz_23 by_23 (by kernel_rfl) rfl s ρ l c
theorem eap_36 {Γ : Ctx} (s : AS) (ρ : Operand → PV) (x y : Operand) : evEff Try.prog Γ s ρ (.call { callee := .builtin .append, args := #[x, y], argTypes := #[36, 36] }) = apEv 23 1 24 s.nx s.ob (ρ x) (obOf s.ob (ρ x)) (sliceEs s.ob 1 (ρ y)) := eap_of el_36 ze_23 sz_23 by_23 (by decide) rfl s ρ x y
theorem ecp_36 {Γ : Ctx} (s : AS) (ρ : Operand → PV) (x y : Operand) (t' : Nat) : evEff Try.prog Γ s ρ (.call { callee := .builtin .copy, args := #[x, y], argTypes := #[36, t'] }) = cpX 1 s.nx s.ob (ρ x) (obOf s.ob (ρ x)) (srcEs s.ob 1 (ρ y)) := ecp_of el_36 sz_23 s ρ x y t'
theorem bs_36 : isByteSlice Try.prog 36 = false := by kernel_rfl
theorem is_36 : isStr Try.prog 36 = false := by kernel_rfl
theorem cvi_2_2 {k : IntKind} {n : Int} {es : Option (List PV)} : convP Try.prog 2 2 false es (some (.int k n)) = some (.val (.int .i64 (IntKind.i64.wrap n))) := cv_int un_2 un_2
theorem cvi_2_3 {k : IntKind} {n : Int} {es : Option (List PV)} : convP Try.prog 2 3 false es (some (.int k n)) = some (.val (.int .i64 (IntKind.i64.wrap n))) := cv_int un_2 un_3
theorem cvi_2_5 {k : IntKind} {n : Int} {es : Option (List PV)} : convP Try.prog 2 5 false es (some (.int k n)) = some (.val (.int .u8 (IntKind.u8.wrap n))) := cv_int un_2 un_5
theorem cvi_2_12 {k : IntKind} {n : Int} {es : Option (List PV)} : convP Try.prog 2 12 false es (some (.int k n)) = some (.val (.int .u64 (IntKind.u64.wrap n))) := cv_int un_2 un_12
theorem cvi_2_21 {k : IntKind} {n : Int} {es : Option (List PV)} : convP Try.prog 2 21 false es (some (.int k n)) = some (.val (.int .i32 (IntKind.i32.wrap n))) := cv_int un_2 un_21
theorem cvi_2_139 {k : IntKind} {n : Int} {es : Option (List PV)} : convP Try.prog 2 139 false es (some (.int k n)) = some (.val (.int .u32 (IntKind.u32.wrap n))) := cv_int un_2 un_139
theorem cvi_3_2 {k : IntKind} {n : Int} {es : Option (List PV)} : convP Try.prog 3 2 false es (some (.int k n)) = some (.val (.int .i64 (IntKind.i64.wrap n))) := cv_int un_3 un_2
theorem cvi_3_3 {k : IntKind} {n : Int} {es : Option (List PV)} : convP Try.prog 3 3 false es (some (.int k n)) = some (.val (.int .i64 (IntKind.i64.wrap n))) := cv_int un_3 un_3
theorem cvi_3_5 {k : IntKind} {n : Int} {es : Option (List PV)} : convP Try.prog 3 5 false es (some (.int k n)) = some (.val (.int .u8 (IntKind.u8.wrap n))) := cv_int un_3 un_5
theorem cvi_3_12 {k : IntKind} {n : Int} {es : Option (List PV)} : convP Try.prog 3 12 false es (some (.int k n)) = some (.val (.int .u64 (IntKind.u64.wrap n))) := cv_int un_3 un_12
theorem cvi_3_21 {k : IntKind} {n : Int} {es : Option (List PV)} : convP Try.prog 3 21 false es (some (.int k n)) = some (.val (.int .i32 (IntKind.i32.wrap n))) := cv_int un_3 un_21
theorem cvi_3_139 {k : IntKind} {n : Int} {es : Option (List PV)} : convP Try.prog 3 139 false es (some (.int k n)) = some (.val (.int .u32 (IntKind.u32.wrap n))) := cv_int un_3 un_139
theorem cvi_5_2 {k : IntKind} {n : Int} {es : Option (List PV)} : convP Try.prog 5 2 false es (some (.int k n)) = some (.val (.int .i64 (IntKind.i64.wrap n))) := cv_int un_5 un_2
theorem cvi_5_3 {k : IntKind} {n : Int} {es : Option (List PV)} : convP Try.prog 5 3 false es (some (.int k n)) = some (.val (.int .i64 (IntKind.i64.wrap n))) := cv_int un_5 un_3
theorem cvi_5_5 {k : IntKind} {n : Int} {es : Option (List PV)} : convP Try.prog 5 5 false es (some (.int k n)) = some (.val (.int .u8 (IntKind.u8.wrap n))) := cv_int un_5 un_5
theorem cvi_5_12 {k : IntKind} {n : Int} {es : Option (List PV)} : convP Try.prog 5 12 false es (some (.int k n)) = some (.val (.int .u64 (IntKind.u64.wrap n))) := cv_int un_5 un_12
theorem cvi_5_21 {k : IntKind} {n : Int} {es : Option (List PV)} : convP Try.prog 5 21 false es (some (.int k n)) = some (.val (.int .i32 (IntKind.i32.wrap n))) := cv_int un_5 un_21
theorem cvi_5_139 {k : IntKind} {n : Int} {es : Option (List PV)} : convP Try.prog 5 139 false es (some (.int k n)) = some (.val (.int .u32 (IntKind.u32.wrap n))) := cv_int un_5 un_139
theorem cvi_12_2 {k : IntKind} {n : Int} {es : Option (List PV)} : convP Try.prog 12 2 false es (some (.int k n)) = some (.val (.int .i64 (IntKind.i64.wrap n))) := cv_int un_12 un_2
theorem cvi_12_3 {k : IntKind} {n : Int} {es : Option (List PV)} : convP Try.prog 12 3 false es (some (.int k n)) = some (.val (.int .i64 (IntKind.i64.wrap n))) := cv_int un_12 un_3
theorem cvi_12_5 {k : IntKind} {n : Int} {es : Option (List PV)} : convP Try.prog 12 5 false es (some (.int k n)) = some (.val (.int .u8 (IntKind.u8.wrap n))) := cv_int un_12 un_5
theorem cvi_12_12 {k : IntKind} {n : Int} {es : Option (List PV)} : convP Try.prog 12 12 false es (some (.int k n)) = some (.val (.int .u64 (IntKind.u64.wrap n))) := cv_int un_12 un_12
theorem cvi_12_21 {k : IntKind} {n : Int} {es : Option (List PV)} : convP Try.prog 12 21 false es (some (.int k n)) = some (.val (.int .i32 (IntKind.i32.wrap n))) := cv_int un_12 un_21
theorem cvi_12_139 {k : IntKind} {n : Int} {es : Option (List PV)} : convP Try.prog 12 139 false es (some (.int k n)) = some (.val (.int .u32 (IntKind.u32.wrap n))) := cv_int un_12 un_139
theorem cvi_21_2 {k : IntKind} {n : Int} {es : Option (List PV)} : convP Try.prog 21 2 false es (some (.int k n)) = some (.val (.int .i64 (IntKind.i64.wrap n))) := cv_int un_21 un_2
theorem cvi_21_3 {k : IntKind} {n : Int} {es : Option (List PV)} : convP Try.prog 21 3 false es (some (.int k n)) = some (.val (.int .i64 (IntKind.i64.wrap n))) := cv_int un_21 un_3
theorem cvi_21_5 {k : IntKind} {n : Int} {es : Option (List PV)} : convP Try.prog 21 5 false es (some (.int k n)) = some (.val (.int .u8 (IntKind.u8.wrap n))) := cv_int un_21 un_5
theorem cvi_21_12 {k : IntKind} {n : Int} {es : Option (List PV)} : convP Try.prog 21 12 false es (some (.int k n)) = some (.val (.int .u64 (IntKind.u64.wrap n))) := cv_int un_21 un_12
theorem cvi_21_21 {k : IntKind} {n : Int} {es : Option (List PV)} : convP Try.prog 21 21 false es (some (.int k n)) = some (.val (.int .i32 (IntKind.i32.wrap n))) := cv_int un_21 un_21
theorem cvi_21_139 {k : IntKind} {n : Int} {es : Option (List PV)} : convP Try.prog 21 139 false es (some (.int k n)) = some (.val (.int .u32 (IntKind.u32.wrap n))) := cv_int un_21 un_139
theorem cvi_139_2 {k : IntKind} {n : Int} {es : Option (List PV)} : convP Try.prog 139 2 false es (some (.int k n)) = some (.val (.int .i64 (IntKind.i64.wrap n))) := cv_int un_139 un_2
theorem cvi_139_3 {k : IntKind} {n : Int} {es : Option (List PV)} : convP Try.prog 139 3 false es (some (.int k n)) = some (.val (.int .i64 (IntKind.i64.wrap n))) := cv_int un_139 un_3
theorem cvi_139_5 {k : IntKind} {n : Int} {es : Option (List PV)} : convP Try.prog 139 5 false es (some (.int k n)) = some (.val (.int .u8 (IntKind.u8.wrap n))) := cv_int un_139 un_5
theorem cvi_139_12 {k : IntKind} {n : Int} {es : Option (List PV)} : convP Try.prog 139 12 false es (some (.int k n)) = some (.val (.int .u64 (IntKind.u64.wrap n))) := cv_int un_139 un_12
theorem cvi_139_21 {k : IntKind} {n : Int} {es : Option (List PV)} : convP Try.prog 139 21 false es (some (.int k n)) = some (.val (.int .i32 (IntKind.i32.wrap n))) := cv_int un_139 un_21
theorem cvi_139_139 {k : IntKind} {n : Int} {es : Option (List PV)} : convP Try.prog 139 139 false es (some (.int k n)) = some (.val (.int .u32 (IntKind.u32.wrap n))) := cv_int un_139 un_139
theorem rw_22_1 {a0 : PV} : rowEs Try.prog 22 1 [(0, a0)] = rowC 5 1 [a0] (okP 1 a0 && (true)) := rw_of el_22 sz_5 ze_5 _ (by decide) (by decide) rfl
theorem rw_23_0 : rowEs Try.prog 23 0 [] = rowC 9 1 [] (true) := rw_of el_23 sz_9 ze_9 _ (by decide) (by decide) rfl
theorem rw_23_1 {a0 : PV} : rowEs Try.prog 23 1 [(0, a0)] = rowC 9 1 [a0] (okP 1 a0 && (true)) := rw_of el_23 sz_9 ze_9 _ (by decide) (by decide) rfl
theorem rw_23_3 {a0 a1 a2 : PV} : rowEs Try.prog 23 3 [(0, a0), (1, a1), (2, a2)] = rowC 9 1 [a0, a1, a2] (okP 1 a0 && (okP 1 a1 && (okP 1 a2 && (true)))) := rw_of el_23 sz_9 ze_9 _ (by decide) (by decide) rfl
theorem rw_23_5 {a0 a1 a2 a3 a4 : PV} : rowEs Try.prog 23 5 [(0, a0), (1, a1), (2, a2), (3, a3), (4, a4)] = rowC 9 1 [a0, a1, a2, a3, a4] (okP 1 a0 && (okP 1 a1 && (okP 1 a2 && (okP 1 a3 && (okP 1 a4 && (true)))))) := rw_of el_23 sz_9 ze_9 _ (by decide) (by decide) rfl
theorem rw_23_6 {a0 a1 a2 a3 a4 a5 : PV} : rowEs Try.prog 23 6 [(0, a0), (1, a1), (2, a2), (3, a3), (4, a4), (5, a5)] = rowC 9 1 [a0, a1, a2, a3, a4, a5] (okP 1 a0 && (okP 1 a1 && (okP 1 a2 && (okP 1 a3 && (okP 1 a4 && (okP 1 a5 && (true))))))) := rw_of el_23 sz_9 ze_9 _ (by decide) (by decide) rfl
theorem rw_23_8 {a0 a1 a2 a3 a4 a5 a6 a7 : PV} : rowEs Try.prog 23 8 [(0, a0), (1, a1), (2, a2), (3, a3), (4, a4), (5, a5), (6, a6), (7, a7)] = rowC 9 1 [a0, a1, a2, a3, a4, a5, a6, a7] (okP 1 a0 && (okP 1 a1 && (okP 1 a2 && (okP 1 a3 && (okP 1 a4 && (okP 1 a5 && (okP 1 a6 && (okP 1 a7 && (true))))))))) := rw_of el_23 sz_9 ze_9 _ (by decide) (by decide) rfl
theorem rw_23_12 {a0 a1 a2 a3 a4 a5 a6 a7 a8 a9 a10 a11 : PV} : rowEs Try.prog 23 12 [(0, a0), (1, a1), (2, a2), (3, a3), (4, a4), (5, a5), (6, a6), (7, a7), (8, a8), (9, a9), (10, a10), (11, a11)] = rowC 9 1 [a0, a1, a2, a3, a4, a5, a6, a7, a8, a9, a10, a11] (okP 1 a0 && (okP 1 a1 && (okP 1 a2 && (okP 1 a3 && (okP 1 a4 && (okP 1 a5 && (okP 1 a6 && (okP 1 a7 && (okP 1 a8 && (okP 1 a9 && (okP 1 a10 && (okP 1 a11 && (true))))))))))))) := rw_of el_23 sz_9 ze_9 _ (by decide) (by decide) rfl
theorem rw_23_15 {a0 a1 a2 a3 a4 a5 a6 a7 a8 a9 a10 a11 a12 a13 a14 : PV} : rowEs Try.prog 23 15 [(0, a0), (1, a1), (2, a2), (3, a3), (4, a4), (5, a5), (6, a6), (7, a7), (8, a8), (9, a9), (10, a10), (11, a11), (12, a12), (13, a13), (14, a14)] = rowC 9 1 [a0, a1, a2, a3, a4, a5, a6, a7, a8, a9, a10, a11, a12, a13, a14] (okP 1 a0 && (okP 1 a1 && (okP 1 a2 && (okP 1 a3 && (okP 1 a4 && (okP 1 a5 && (okP 1 a6 && (okP 1 a7 && (okP 1 a8 && (okP 1 a9 && (okP 1 a10 && (okP 1 a11 && (okP 1 a12 && (okP 1 a13 && (okP 1 a14 && (true)))))))))))))))) := rw_of el_23 sz_9 ze_9 _ (by decide) (by decide) rfl
theorem rw_36_1 {a0 : PV} : rowEs Try.prog 36 1 [(0, a0)] = rowC 23 1 [a0] (okP 1 a0 && (true)) := rw_of el_36 sz_23 ze_23 _ (by decide) (by decide) rfl
theorem rw_40_0 : rowEs Try.prog 40 0 [] = rowC 3 1 [] (true) := rw_of el_40 sz_3 ze_3 _ (by decide) (by decide) rfl
theorem rw_40_1 {a0 : PV} : rowEs Try.prog 40 1 [(0, a0)] = rowC 3 1 [a0] (okP 1 a0 && (true)) := rw_of el_40 sz_3 ze_3 _ (by decide) (by decide) rfl
theorem rw_40_2 {a0 a1 : PV} : rowEs Try.prog 40 2 [(0, a0), (1, a1)] = rowC 3 1 [a0, a1] (okP 1 a0 && (okP 1 a1 && (true))) := rw_of el_40 sz_3 ze_3 _ (by decide) (by decide) rfl
theorem rw_40_3 {a0 a1 a2 : PV} : rowEs Try.prog 40 3 [(0, a0), (1, a1), (2, a2)] = rowC 3 1 [a0, a1, a2] (okP 1 a0 && (okP 1 a1 && (okP 1 a2 && (true)))) := rw_of el_40 sz_3 ze_3 _ (by decide) (by decide) rfl
theorem rw_40_6 {a0 a1 a2 a3 a4 a5 : PV} : rowEs Try.prog 40 6 [(0, a0), (1, a1), (2, a2), (3, a3), (4, a4), (5, a5)] = rowC 3 1 [a0, a1, a2, a3, a4, a5] (okP 1 a0 && (okP 1 a1 && (okP 1 a2 && (okP 1 a3 && (okP 1 a4 && (okP 1 a5 && (true))))))) := rw_of el_40 sz_3 ze_3 _ (by decide) (by decide) rfl
theorem rw_40_7 {a0 a1 a2 a3 a4 a5 a6 : PV} : rowEs Try.prog 40 7 [(0, a0), (1, a1), (2, a2), (3, a3), (4, a4), (5, a5), (6, a6)] = rowC 3 1 [a0, a1, a2, a3, a4, a5, a6] (okP 1 a0 && (okP 1 a1 && (okP 1 a2 && (okP 1 a3 && (okP 1 a4 && (okP 1 a5 && (okP 1 a6 && (true)))))))) := rw_of el_40 sz_3 ze_3 _ (by decide) (by decide) rfl
theorem rw_40_9 {a0 a1 a2 a3 a4 a5 a6 a7 a8 : PV} : rowEs Try.prog 40 9 [(0, a0), (1, a1), (2, a2), (3, a3), (4, a4), (5, a5), (6, a6), (7, a7), (8, a8)] = rowC 3 1 [a0, a1, a2, a3, a4, a5, a6, a7, a8] (okP 1 a0 && (okP 1 a1 && (okP 1 a2 && (okP 1 a3 && (okP 1 a4 && (okP 1 a5 && (okP 1 a6 && (okP 1 a7 && (okP 1 a8 && (true)))))))))) := rw_of el_40 sz_3 ze_3 _ (by decide) (by decide) rfl
theorem rw_40_10 {a0 a1 a2 a3 a4 a5 a6 a7 a8 a9 : PV} : rowEs Try.prog 40 10 [(0, a0), (1, a1), (2, a2), (3, a3), (4, a4), (5, a5), (6, a6), (7, a7), (8, a8), (9, a9)] = rowC 3 1 [a0, a1, a2, a3, a4, a5, a6, a7, a8, a9] (okP 1 a0 && (okP 1 a1 && (okP 1 a2 && (okP 1 a3 && (okP 1 a4 && (okP 1 a5 && (okP 1 a6 && (okP 1 a7 && (okP 1 a8 && (okP 1 a9 && (true))))))))))) := rw_of el_40 sz_3 ze_3 _ (by decide) (by decide) rfl
theorem rw_58_0 : rowEs Try.prog 58 0 [] = rowC 65 7 [] (true) := rw_of el_58 sz_65 ze_65 _ (by decide) (by decide) rfl
theorem rw_58_1 {a0 : PV} : rowEs Try.prog 58 1 [(0, a0)] = rowC 65 7 [a0] (okP 7 a0 && (true)) := rw_of el_58 sz_65 ze_65 _ (by decide) (by decide) rfl
theorem rw_58_3 {a0 a1 a2 : PV} : rowEs Try.prog 58 3 [(0, a0), (1, a1), (2, a2)] = rowC 65 7 [a0, a1, a2] (okP 7 a0 && (okP 7 a1 && (okP 7 a2 && (true)))) := rw_of el_58 sz_65 ze_65 _ (by decide) (by decide) rfl
theorem rw_130_1 {a0 : PV} : rowEs Try.prog 130 1 [(0, a0)] = rowC 57 4 [a0] (okP 4 a0 && (true)) := rw_of el_130 sz_57 ze_57 _ (by decide) (by decide) rfl
theorem mixed : Try.prog.follows .mixedOrders = true := by kernel_rfl
attribute [push_cast high]
  bz_7 bz_13 bz_37 bz_38 bz_44 bz_56 bz_57 bz_64 bz_65 bz_80 bz_81 bz_104 bz_105 bz_106 bz_107
attribute [push_cast]
  sz_2 ag_2 by_2 ze_2 un_2 oz_2 ea_2 bs_2 is_2 sz_3 ag_3 by_3 ze_3 un_3 oz_3 ea_3 bs_3 is_3 sz_4 ag_4 by_4 ze_4 un_4 bqe_4 bqn_4 oz_4 ea_4 bs_4 is_4 sz_5 ag_5 by_5 ze_5 un_5 oz_5 ea_5 bs_5 is_5 sz_7 ag_7 by_7 ze_7 fo_7_0 fo_7_1 fo_7_2 fo_7_3 pl_7 bl_7 oz_7 ea_7 bs_7 is_7 sz_9 ag_9 by_9 ze_9 un_9 lps_9 ixs_9 oz_9 ea_9 bs_9 is_9 sz_12 ag_12 by_12 ze_12 un_12 oz_12 ea_12 bs_12 is_12 sz_13 ag_13 by_13 ze_13 fo_13_0 fo_13_1 pl_13 bl_13 oz_13 ea_13 bs_13 is_13 sz_21 ag_21 by_21 ze_21 un_21 oz_21 ea_21 bs_21 is_21 sz_37 ag_37 by_37 ze_37 fo_37_0 fo_37_1 fo_37_2 fo_37_3 fo_37_4 pl_37 bl_37 oz_37 ea_37 bs_37 is_37 sz_38 ag_38 by_38 ze_38 fo_38_0 fo_38_1 fo_38_2 fo_38_3 fo_38_4 pl_38 bl_38 oz_38 ea_38 bs_38 is_38 sz_44 ag_44 by_44 ze_44 fo_44_0 fo_44_1 fo_44_2 fo_44_3 fo_44_4 pl_44 bl_44 oz_44 ea_44 bs_44 is_44 sz_56 ag_56 by_56 ze_56 fo_56_0 fo_56_1 fo_56_2 fo_56_3 pl_56 bl_56 oz_56 ea_56 bs_56 is_56 sz_57 ag_57 by_57 ze_57 fo_57_0 fo_57_1 fo_57_2 fo_57_3 pl_57 bl_57 oz_57 ea_57 sqeql_57 sqneq_57 bs_57 is_57 sz_64 ag_64 by_64 ze_64 fo_64_0 fo_64_1 fo_64_2 fo_64_3 pl_64 bl_64 oz_64 ea_64 bs_64 is_64 sz_65 ag_65 by_65 ze_65 fo_65_0 fo_65_1 fo_65_2 fo_65_3 pl_65 bl_65 oz_65 ea_65 bs_65 is_65 sz_80 ag_80 by_80 ze_80 fo_80_0 fo_80_1 pl_80 bl_80 oz_80 ea_80 bs_80 is_80 sz_81 ag_81 by_81 ze_81 fo_81_0 fo_81_1 pl_81 bl_81 oz_81 ea_81 bs_81 is_81 sz_88 ag_88 by_88 ze_88 un_88 ixa_88 ixp_88 bl_88 oz_88 ea_88 bs_88 is_88 sz_95 ag_95 by_95 ze_95 un_95 ixa_95 ixp_95 bl_95 oz_95 ea_95 bs_95 is_95 sz_104 ag_104 by_104 ze_104 fo_104_0 fo_104_1 fo_104_2 pl_104 bl_104 oz_104 ea_104 sqeql_104 sqneq_104 bs_104 is_104 sz_105 ag_105 by_105 ze_105 fo_105_0 fo_105_1 fo_105_2 pl_105 bl_105 oz_105 ea_105 sqeql_105 sqneq_105 bs_105 is_105 sz_106 ag_106 by_106 ze_106 fo_106_0 fo_106_1 pl_106 bl_106 oz_106 ea_106 bs_106 is_106 sz_107 ag_107 by_107 ze_107 fo_107_0 fo_107_1 pl_107 bl_107 oz_107 ea_107 bs_107 is_107 sz_139 ag_139 by_139 ze_139 un_139 oz_139 ea_139 bs_139 is_139 sz_22 ag_22 by_22 ze_22 un_22 el_22 ix_22 ixr_22 sl_22 slr_22 sle_22 lpl_22 lpr_22 lpn_22 oz_22 ea_22 em_22 eap_22 ecp_22 bs_22 is_22 sz_23 ag_23 by_23 ze_23 un_23 el_23 ix_23 ixr_23 sl_23 slr_23 sle_23 lpl_23 lpr_23 lpn_23 oz_23 ea_23 em_23 eap_23 ecp_23 bs_23 is_23 sz_40 ag_40 by_40 ze_40 un_40 el_40 ix_40 ixr_40 sl_40 slr_40 sle_40 lpl_40 lpr_40 lpn_40 oz_40 ea_40 em_40 eap_40 ecp_40 bs_40 is_40 sz_58 ag_58 by_58 ze_58 un_58 el_58 ix_58 ixr_58 sl_58 slr_58 sle_58 lpl_58 lpr_58 lpn_58 oz_58 ea_58 em_58 eap_58 ecp_58 bs_58 is_58 sz_86 ag_86 by_86 ze_86 un_86 el_86 ix_86 ixr_86 sl_86 slr_86 sle_86 lpl_86 lpr_86 lpn_86 oz_86 ea_86 em_86 eap_86 ecp_86 bs_86 is_86 sz_87 ag_87 by_87 ze_87 un_87 el_87 ix_87 ixr_87 sl_87 slr_87 sle_87 lpl_87 lpr_87 lpn_87 oz_87 ea_87 em_87 eap_87 ecp_87 bs_87 is_87 sz_130 ag_130 by_130 ze_130 un_130 el_130 ix_130 ixr_130 sl_130 slr_130 sle_130 lpl_130 lpr_130 lpn_130 oz_130 ea_130 em_130 eap_130 ecp_130 bs_130 is_130 sz_36 ag_36 by_36 ze_36 un_36 el_36 ix_36 ixr_36 sl_36 slr_36 sle_36 lpl_36 lpr_36 lpn_36 oz_36 ea_36 em_36 eap_36 ecp_36 bs_36 is_36 cvi_2_2 cvi_2_3 cvi_2_5 cvi_2_12 cvi_2_21 cvi_2_139 cvi_3_2 cvi_3_3 cvi_3_5 cvi_3_12 cvi_3_21 cvi_3_139 cvi_5_2 cvi_5_3 cvi_5_5 cvi_5_12 cvi_5_21 cvi_5_139 cvi_12_2 cvi_12_3 cvi_12_5 cvi_12_12 cvi_12_21 cvi_12_139 cvi_21_2 cvi_21_3 cvi_21_5 cvi_21_12 cvi_21_21 cvi_21_139 cvi_139_2 cvi_139_3 cvi_139_5 cvi_139_12 cvi_139_21 cvi_139_139 rw_22_1 rw_23_0 rw_23_1 rw_23_3 rw_23_5 rw_23_6 rw_23_8 rw_23_12 rw_23_15 rw_36_1 rw_40_0 rw_40_1 rw_40_2 rw_40_3 rw_40_6 rw_40_7 rw_40_9 rw_40_10 rw_58_0 rw_58_1 rw_58_3 rw_130_1
end Go.Proofs.Ytngcedklbinhjaa
namespace Go.Proofs
open Go.Shelf
def Ytngcedklbinhjaa.lays137_ren : Go.Shelf.Ren := ⟨fun | 137 => 118 | 217 => 123 | 266 => 125 | n => n, fun | 9 => 9 | 5 => 5 | 3 => 3 | n => n, fun | n => n⟩
theorem Ytngcedklbinhjaa.lays137 : Go.Proofs.Lays.n137 Try.prog Ytngcedklbinhjaa.lays137_ren := {
  mixed := by kernel_rfl
  f137 := Try.func118.trans (congrArg some (by kernel_rfl))
  f217 := Try.func123.trans (congrArg some (by kernel_rfl))
  f266 := Try.func125.trans (congrArg some (by kernel_rfl))
  t3 := Try.underlying3
  a3 := Try.isAgg3
  z3 := Try.sizeOf3
  v3 := Try.zeroValue3
  t5 := Try.underlying5
  a5 := Try.isAgg5
  z5 := Try.sizeOf5
  v5 := Try.zeroValue5
  t9 := Try.underlying9
  a9 := Try.isAgg9
  z9 := Try.sizeOf9
  v9 := Try.zeroValue9 }
open Go.RowKit in
theorem Ytngcedklbinhjaa.strings_IndexByte (s : ByteArray) (c : Int) (w : World) :
    Calls Try.prog 118 #[.string s, .int .u8 c] w fun e w' => e = .returned (.int .i64 (Lib.indexByte s.data.toList c.toNat.toUInt8)) ∧ w' = w := Any.strings_IndexByte Ytngcedklbinhjaa.lays137 s c w
end Go.Proofs
