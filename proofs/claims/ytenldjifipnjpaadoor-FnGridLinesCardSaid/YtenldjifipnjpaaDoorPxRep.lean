/- bytes.Repeat, of one space. -/
import Derived.Test.YtenldjifipnjpaaDoorPxGridO
import Derived.Test.YtenldjifipnjpaaDoorPxIoX
import Derived.Test.YtenldjifipnjpaaDoorShelf
import Derived.Lib.SlBuf
import Derived.Lib.LazyBuf
import Derived.Lib.Builder
import Derived.Lib.MakeNoZero
import Derived.Laws.Externs
import Derived.Deep.RegionLaw
import Derived.BigRegion
namespace Go.Proofs.YtenldjifipnjpaaDoor
open Go.RowKit
set_option linter.all false
/-- A row of the call's own whose first bp cells are spaces. -/
structure SpBuf (e : Nat) (w0 wr : World) (n bp : Nat) : Prop where
  below : Below w0.heap.size w0 wr
  row : ∃ (N : Nat) (f : Nat → Value), wr.rowIs w0.heap.size e N f ∧ n ≤ N ∧ ∀ j, j < bp → f j = .int .u8 32
theorem SpBuf.start (w : World) (cs : Array Value) (e n q : Nat) (hN : n ≤ cs.size) : SpBuf e w ((w.alloc (.cells cs e)).drewN q) n 0 where
  below := (Lib.Buf.start w cs e n q hN).below
  row := ⟨cs.size, fun i => cs[i]?.getD default, ⟨cs, by first | exact heap_alloc_new w _ | (simp only [World.heap_drewN]; exact heap_alloc_new w _), rfl, fun i hi => by simp [Array.getElem?_eq_getElem hi]⟩, hN, fun j hj => by omega⟩
theorem sp_copy {w0 wr : World} {t ty e n bp k sc : Nat} {a : Addr} (hu : Tryd.prog.underlying t = some (.slice e)) (hs : (Tryd.prog.info? e).map (·.size) = some 1) (hb : SpBuf e w0 wr n bp) (hk : 0 < k) (hbp : bp < n)
    (hsrc : ∀ j, j < k → wr.cell? (a.add j) = some (.int .u8 32)) :
    ∃ wr', (Builtin.copy_ #[t, t] ty #[Lib.tailV w0.heap.size n bp, .slice (some a) k sc]).run Tryd.prog wr = .ok (.int .i64 (min k (n - bp) : Nat)) wr' ∧ SpBuf e w0 wr' n (bp + min k (n - bp)) := by
  obtain ⟨N, f, hr, hN, hf⟩ := hb.row
  have hlen : (List.replicate (min k (n - bp)) (Value.int .u8 32)).length = min k (n - bp) := List.length_replicate
  have hrun := run_copy_cells (P := Tryd.prog) wr t t ty e w0.heap.size bp (n - bp) (n - bp) a k sc (List.replicate (min k (n - bp)) (.int .u8 32)) hu hs (by rw [hlen])
    (fun j u hj => by
      rw [List.getElem?_replicate] at hj
      split at hj
      · cases hj; exact hsrc j (by omega)
      · cases hj)
    (fun j hj => by rw [hlen] at hj; rw [hr.cell (by omega)]; rfl) (fun j hj => hr.frozen _)
    (fun u hu' => by rw [(List.mem_replicate.1 hu').2]; rfl)
  rw [hlen] at hrun
  refine ⟨_, by unfold Lib.tailV; rw [if_neg (by omega)]; exact hrun, ⟨Lib.below_setCells _ (Nat.le_refl _) _ _ hb.below, N, _, rowIs_setCells _ _ _ _ hr, hN, fun j hj => ?_⟩⟩
  rw [hlen]
  split
  · rename_i h1
    rw [List.getElem?_replicate, if_pos (by omega)]
    rfl
  · exact hf j (by omega)
theorem SpBuf.drew {e : Nat} {w0 wr : World} {n bp : Nat} (h : SpBuf e w0 wr n bp) : SpBuf e w0 wr.drew n bp := ⟨h.below.drew, h.row⟩
theorem step_copy_run {P : Program} {ops : Array Oper} {o : Oper} {a : Act} {w : World} {K : Act → World → Prop} {Q : Exit → Act → World → Prop} {E : Prop}
    (hg : o.guard = none) (d x : Operand) (dT sT : TypeId) (hop : o.op = Op.call { callee := Callee.builtin Builtin.copy, args := #[d, x], argTypes := #[dT, sT] })
    (v u : Value) (hd : a.eval d = v) (hx : a.eval x = u) {v' : Value} {w' : World} (hr : (Builtin.copy_ #[dT, sT] o.type #[v, u]).run P w = .ok v' w') (hK : K (a.put o.dst v') w') :
    if Region.wanted o (yielded ops a.tmps) = true then Oper.wp P o a w K Q else E := by
  rw [if_pos (by simp [Region.wanted, hg])]
  exact Lib.wp_copy_run w d x dT sT hop v u hd hx hr hK
theorem mul_one {n : Nat} (hn : n < 4294967296) (w : World) : Calls Tryd.prog 88 #[.int .u64 1, .int .u64 n] w fun e w' => e = .returned (.tuple #[.int .u64 0, .int .u64 n]) ∧ w' = w := by
  have h64 : Calls Tryd.prog 110 #[.int .u64 1, .int .u64 n] w fun e w' => e = .returned (.tuple #[.int .u64 0, .int .u64 n]) ∧ w' = w := by
    have h := YtenldjifipnjpaaDoor.bits_Mul64 1 n (by omega) (by omega) w
    rw [Nat.one_mul, Nat.div_eq_of_lt (by omega), Nat.mod_eq_of_lt (by omega)] at h
    exact h
  go_enter Tryd.func88, Tryd.ntmps88
  go_wp2_with (go_at_call 110; refine h64.mono ?_; rintro e w1 ⟨rfl, rfl⟩)
  go_ret2
  exact ⟨rfl, rfl⟩
set_option maxHeartbeats 4000000 in
set_option maxRecDepth 100000 in
theorem repeat_any {w : World} {n cap b off : Nat} (hn : 0 < n) (hn2 : n ≤ 3600) (hb : w.cell? ⟨b, off, none⟩ = some (.int .u8 32)) :
    Calls Tryd.prog 57 #[.slice (some ⟨b, off, none⟩) 1 cap, .int .i64 n] w fun e w' => e = .returned (.slice (some ⟨w.heap.size, 0, none⟩) n n) ∧ SpBuf 5 w w' n n := by
  obtain ⟨cs, hrunM, hle, _⟩ := Lib.run_makeNoZero (P := Tryd.prog) w #[3] 27 5 (by kernel_rfl) n (by omega)
  have hcall : (callFunc 89 #[.int .i64 (n : Int)]).run Tryd.prog w = .ok (.value (.slice (some ⟨w.heap.size, 0, none⟩) n cs.size)) ((w.alloc (.cells cs 5)).drewN 2) := by
    rw [run_callFunc_extern Tryd.func89 (by kernel_rfl) (by kernel_rfl) (by kernel_rfl) (e := Extern.BytealgMakeNoZero.makeNoZero #[3] #[27]) (by kernel_rfl), hrunM]
    rfl
  clear hrunM
  have B0 := SpBuf.start w cs 5 n 2 hle
  have hc0 : ((w.alloc (.cells cs 5)).drewN 2).cell? ⟨b, off, none⟩ = some (.int .u8 32) := Lib.Below.cellOf B0.below hb (Nat.le_refl _)
  have hsrc : ∀ j, j < 1 → ((w.alloc (.cells cs 5)).drewN 2).cell? ((⟨b, off, none⟩ : Addr).add j) = some (.int .u8 32) := fun j hj => by
    obtain rfl : j = 0 := by omega
    exact hc0
  obtain ⟨w1, hr1, B1⟩ := sp_copy (t := 27) (ty := 3) (sc := cap) (a := ⟨b, off, none⟩) (k := 1) (by kernel_rfl) (by kernel_rfl) B0 (by omega) hn hsrc
  rw [Lib.tailV_zero] at hr1
  have hm : min 1 (n - 0) = 1 := by omega
  rw [hm] at hr1 B1
  have HB1 := Lib.hid B1
  have i0 : (0 : Int) ≤ (n : Int) := by omega
  have i1 : (n : Int) ≤ (cs.size : Int) := by omega
  have i2 : ¬ (n : Int) = 0 := by omega
  have i3 : ¬ (n : Int) < 0 := by omega
  have i4 : ¬ (9223372036854775807 : Int) < (n : Int) := by omega
  have i5 : ¬ (8192 : Int) < (n : Int) := by omega
  clear B0 B1 hc0 hb hm hle hsrc
  go_enter Tryd.func57, Tryd.ntmps57
  go_wp2_with (first
    | (go_at_call 88; refine (mul_one (n := n) (by omega) _).mono ?_; rintro e w2 ⟨rfl, rfl⟩)
    | (at_builtin; refine Lib.wpList_copy_run _ rfl _ _ 27 27 rfl _ _ rfl rfl hr1 ?_))
  go_loopw [10] (fun i wr => ∃ bp : Nat, 0 < bp ∧ bp ≤ n ∧ i = .int .i64 bp ∧ Aside (SpBuf 5 w2 wr n bp)) (fun i _ => n - (intOf i).toNat)
  case atStart => exact ⟨1, by omega, by omega, rfl, (show SpBuf _ _ _ _ _ from by have := HB1.out; rw [Nat.zero_add] at this; exact this)⟩
  case round =>
    obtain ⟨bp, h0, h1, rfl, HB⟩ := hrel
    by_cases hlt : bp < n
    · have hsl : ∀ W, (Instr.slice 27 (.slice (some ⟨w2.heap.size, 0, none⟩) n n) (some (.int .i64 (bp : Int))) none none).run Tryd.prog W = .ok (Lib.tailV w2.heap.size n bp) W := fun W => Lib.run_slice_tailV W 27 5 (by kernel_rfl) (fun w => run_size (P := Tryd.prog) (t := 5) (by kernel_rfl) w) _ n bp (by omega)
      obtain ⟨N, f, hrow, hN, hf⟩ := HB.out.row
      obtain ⟨w3, hr3, B3⟩ := sp_copy (t := 27) (ty := 3) (sc := n) (a := ⟨w2.heap.size, 0, none⟩) (k := bp) (by kernel_rfl) (by kernel_rfl) HB.out.drew h0 hlt (fun j hj => by rw [Addr.add_mid, Nat.zero_add]; exact (hrow.cell (by omega)).trans (by rw [hf j hj]))
      have HB3 := Lib.hid B3
      have j1 : (bp : Int) < (n : Int) := by omega
      have j2 : (0 : Int) ≤ (bp : Int) := by omega
      have j3 : min (bp : Int) (n : Int) = (bp : Int) := by omega
      clear B3 hcall hr1 HB1 hrow hf
      go_wp2
      go_region_law (refine step_copy_run rfl (.tmp 70) (.tmp 73) 27 27 rfl _ _ (by simp [Act.eval, Act.put]) (by simp [Act.eval, Act.put]) hr3 ?_)
      have hw : IntKind.i64.wrap ((bp : Int) + ((min bp (n - bp) : Nat) : Int)) = ((bp + min bp (n - bp) : Nat) : Int) := by rw [IntKind.wrap_i64]; omega
      rw [hw]
      generalize hm : bp + min bp (n - bp) = bq at *
      go_simp
      go_roundw
      case rel =>
        exact ⟨_, _, _, _, _, _, _, _, _, _, _, _, _, _, _, _, _, ⟨bq, by omega, by omega, rfl, (show SpBuf _ _ _ _ _ from HB3.out)⟩, rfl⟩
      case measure => simp [intOf]; omega
    · obtain rfl : bp = n := by omega
      go_wp2
      go_ret
      exact ⟨rfl, HB.out⟩
def ΨRep : FunN := G2 dUs dI fun l c => if l = [32] ∧ 0 < c ∧ c ≤ 3600 then some (.row 0 1 0 c.toNat, [(5, 1, spcs c.toNat)]) else none
theorem ΨRep_ap {c : Int} (h : 0 < c) (h2 : c ≤ 3600) : ΨRep [.lst false 1 [.val (.int .u8 32)], .val (.int .i64 c)] = some (.row 0 1 0 c.toNat, [(5, 1, spcs c.toNat)]) :=
  (G2_ap (A := dUs) (B := dI) [32] c).trans (if_pos ⟨rfl, h, h2⟩)
theorem repN : SoundN Tryd.prog 57 ΨRep := by
  intro w J β κ ps cs args r cs' hr hJ hO _ hargs
  dsimp only at hr
  split at hr
  case isFalse => cases hr
  case isTrue hcs =>
  subst hcs
  obtain ⟨l, c, rfl, hq⟩ := G2_some hr
  split at hq
  case isFalse => cases hq
  case isTrue hok =>
  cases hq
  obtain ⟨rfl, hc1, hc2⟩ := hok
  obtain ⟨n, rfl⟩ := Int.eq_ofNat_of_zero_le (show 0 ≤ c by omega)
  have hargs := hargs
  simp only [RepL] at hargs
  obtain ⟨v1, vs1, e1, h1, v2, vs2, rfl, h2, rfl⟩ := hargs
  obtain rfl : args = #[v1, v2] := by
    obtain ⟨a⟩ := args
    simp only at e1
    rw [e1]
  simp only [dUs, dL, dU, dI, Rep] at h1 h2
  subst h2
  obtain ⟨a, cap, rfl, k1, k2, k3⟩ := h1
  rcases k3 with k3 | ⟨b, off, rfl, k4, k5⟩
  · simp at k3
  · have hcell := int_cells (l := [32]) k5 0 (by simp)
    refine (repeat_any (n := n) (by omega) (by omega) hcell).mono ?_
    rintro e w' ⟨rfl, hsp⟩
    obtain ⟨N, f, ⟨cur, h3, h4, h6⟩, h7, h8⟩ := hsp.row
    have hb := hsp.below
    refine ⟨_, fun _ => w.heap.size, fun _ => cur.size, fun _ => False, rfl, ⟨hb.os, hb.tape, hb.output, hb.size, fun k hk _ => hb.block k hk⟩, by simp, fun o ho => by simp at ho, fun o _ _ => Nat.le_refl _, fun b hb => hb.elim, ⟨fun o ho => ⟨lt_of_heap h3, fun k hk => ?_⟩, fun o o' ho ho' _ => by simp at ho ho'; omega, fun o cc hc => ?_⟩, ?_⟩
    · rcases hk with hk | ⟨_, hk⟩
      · have := hJ k _ hk
        omega
      · exact hk
    · have ho : o = 0 := by have := (List.getElem?_eq_some_iff.1 hc).1; simp at this; exact this
      subst ho
      simp only [List.getElem?_cons_zero, Option.some.injEq] at hc
      subst hc
      refine ⟨⟨cur, h3, rfl⟩, by simp [ghIO]; omega, ?_⟩
      refine RepEs.of fun i x hx => ?_
      rw [List.getElem?_map, Option.map_eq_some_iff] at hx
      obtain ⟨y, hy, rfl⟩ := hx
      rw [List.getElem?_replicate] at hy
      split at hy
      case isFalse => cases hy
      case isTrue hi =>
      cases hy
      have hi : i < n := by simpa using hi
      refine ⟨.int .u8 32, by simp [Rep], ⟨by simp [Value.cells, Value.oneCell'], fun j hj => ?_⟩, rfl⟩
      have hj0 : j = 0 := by simp [Value.cells] at hj; exact hj
      subst hj0
      have e1 : cur[i]? = some (.int .u8 32) := (h6 i (by omega)).trans (by rw [h8 i hi])
      simp only [World.cell?, ghIO, h3, Nat.zero_add, Nat.mul_one, Nat.add_zero]
      simpa [Value.cells] using e1
    · simp only [Rep, ghIO]
      exact ⟨n, by simp, by simp, by omega, by omega, ⟨by simp, fun q => q⟩⟩
theorem rep_lift {c : Int} (h : 0 < c) (h2 : c ≤ 3600) : liftN ΨRep [.row 0 1 0 1, .val (.int .i64 c)] [(5, 1, [.val (.int .u8 32)])] = some (.row 1 1 0 c.toNat, [(5, 1, [.val (.int .u8 32)]), (5, 1, spcs c.toNat)]) := by
  refine (liftN_of (qs := [.lst false 1 [.val (.int .u8 32)], .val (.int .i64 c)]) (cs1 := [(5, 1, spcs c.toNat)]) (r := .row 0 1 0 c.toNat) (cs0 := [(5, 1, spcs c.toNat)]) (by
    rfl) (ΨRep_ap h h2) rfl (by rw [mapM_cons', mapM_nil', renCT_vals]; rfl)).trans ?_
  rfl
noncomputable def GGo : Ctx := ⟨fun f => if f = 56 then some φSide else none, fun f => if f = 57 then some (liftN ΨRep) else none⟩
theorem GGo_ok : SoundΓ Tryd.prog GGo := ⟨(fun f φ h => by
  unfold GGo at h
  dsimp only at h
  split at h
  · rename_i hf; cases h; subst hf; exact ⟨⟨_, Tryd.func56, rfl, rfl⟩, isSide_ok⟩
  cases h), (fun f φ h => by
  unfold GGo at h
  dsimp only at h
  split at h
  · rename_i hf; cases h; subst hf; exact ⟨⟨_, Tryd.func57, rfl, rfl⟩, repN.lift⟩
  cases h)⟩
theorem GGo_56 (ob : Objs) (ps : List PV) : evCall GGo ob 56 ps = (ps.mapM (reify false 0 ob fuel)).bind φSide := by
  have h : GGo.fn 56 = some φSide := by simp [GGo]
  unfold evCall
  rw [h]
  cases ps.mapM (reify false 0 ob fuel) <;> rfl
theorem GGo_57 : GGo.io 57 = some (liftN ΨRep) := by simp [GGo]
set_option maxHeartbeats 8000000 in
theorem implGridOfN : SoundN Tryd.prog 25 ΨGridOf := by
  refine sound_pqN mixed GGo_ok Tryd.func25 rfl 21 rfl [.cell 4 32] rfl (by kernel_rfl) fun ps r cs' hr => ?_
  obtain ⟨wd, ht, rfl, hq⟩ := G2_some hr
  clear hr
  have hz : gridZ wd ht = (r, cs') := by simpa using hq
  clear hq
  refine ⟨by simp, ?_⟩
  simp only [dIs, dUs, dSs, dI_e, dU_e, dB_e, dS_e, dFn_e, dL_e, dA2_e, dA3_e, dA4_e, dA5_e]
  have ap := φSide_ap
  unfold gridZ at hz
  cases hG : gridO wd ht with
  | false =>
    rw [hG, if_neg (by simp)] at hz
    cases hz
    unfold gridO at hG
    have ggo_c56 := GGo_56; have ggo_c57 := GGo_57
    (repeat' (first | (with_reducible first | apply i_seq | apply i_block | apply i_skip | apply i_exit | apply i_ret | apply i_kS | apply i_kSx | apply i_kSr | apply i_kL | apply i_kLx | apply i_kLr | apply i_kB | apply i_kBr | apply i_kBs | apply i_nil) | ((with_reducible apply i_region); (focus (simp only [List.map_cons, List.map_nil] <;> exact rfl))) | ((with_reducible apply i_draw); (focus (simp only [List.map_cons, List.map_nil] <;> exact rfl)); (focus (decide +kernel))) | ((with_reducible apply i_kBo); (focus rfl)) | ((first | ((with_reducible apply i_V); (focus rfl); (focus rfl); (focus rfl)) | ((with_reducible apply i_E); (focus rfl); (focus (first | rfl | (simp only [push_cast, ↓reduceIte, effOk, touch, refsOf, List.flatMap_cons, List.flatMap_nil])))) | ((with_reducible apply i_S); (focus rfl); (focus (first | rfl | (simp only [push_cast, ↓reduceIte, effOk, touch, refsOf, List.flatMap_cons, List.flatMap_nil])))) | ((with_reducible apply i_Vq); (focus rfl); (focus rfl)) | ((with_reducible apply i_Vp); (focus rfl); (focus rfl); (focus rfl))); (focus (simp (disch := (first | omega | (simp only [push_cast]; done) | (simp only [push_cast]; omega) | ((try simp only [push_cast]); (with_reducible first | apply sel_lt | apply sel_ge); (focus decide); (focus (simp only [push_cast]; omega))))) only [push_cast, ↓reduceIte, Nat.reduceEqDiff, Nat.reduceBEq, Nat.reduceAdd, Nat.reduceSub, Int.reduceToNat, *] <;> with_reducible exact rfl))) | ((with_reducible first | apply i_Gb | apply i_cond); (focus (simp (disch := (first | omega | (simp only [push_cast]; done) | (simp only [push_cast]; omega) | ((try simp only [push_cast]); (with_reducible first | apply sel_lt | apply sel_ge); (focus decide); (focus (simp only [push_cast]; omega))))) only [push_cast, ↓reduceIte, Nat.reduceEqDiff, Nat.reduceBEq, Nat.reduceAdd, Nat.reduceSub, Int.reduceToNat, *] <;> with_reducible exact rfl)); all_goals (intro hX; first | (cases hX; done) | ((with_reducible first | have hX0 : true = true := hX | have hX0 : false = false := hX); clear hX0 hX) | ((try simp only [decide_eq_true_eq, decide_eq_false_iff_not, Bool.not_eq_true', Bool.not_eq_false'] at hX); (try have hXb := inB_iff.1 hX)))))); all_goals try (exfalso; omega)
    all_goals (first | (exfalso; simp_all; done) | (((with_reducible apply i_endN0 (by first | exact .inl rfl | exact .inr rfl)); (focus (simp (disch := (first | omega | (simp only [push_cast]; done) | (simp only [push_cast]; omega) | ((try simp only [push_cast]); (with_reducible first | apply sel_lt | apply sel_ge); (focus decide); (focus (simp only [push_cast]; omega))))) only [push_cast, ↓reduceIte, Nat.reduceEqDiff, Nat.reduceBEq, Nat.reduceAdd, Nat.reduceSub, Int.reduceToNat, *] <;> with_reducible exact rfl))); done) | skip)
  | true =>
    rw [hG, if_pos rfl] at hz
    cases hz
    obtain ⟨hw, hh⟩ := gridO_iff.1 hG
    have hwi := inB_iff.2 hw
    have hhi := inB_iff.2 hh
    have har := area_rng hG
    have ap2 := rep_lift (c := wd * ht) (by omega) (by omega)
    clear hG
    have ggo_c56 := GGo_56; have ggo_c57 := GGo_57
    (repeat' (first | (with_reducible first | apply i_seq | apply i_block | apply i_skip | apply i_exit | apply i_ret | apply i_kS | apply i_kSx | apply i_kSr | apply i_kL | apply i_kLx | apply i_kLr | apply i_kB | apply i_kBr | apply i_kBs | apply i_nil) | ((with_reducible apply i_region); (focus (simp only [List.map_cons, List.map_nil] <;> exact rfl))) | ((with_reducible apply i_draw); (focus (simp only [List.map_cons, List.map_nil] <;> exact rfl)); (focus (decide +kernel))) | ((with_reducible apply i_kBo); (focus rfl)) | ((first | ((with_reducible apply i_V); (focus rfl); (focus rfl); (focus rfl)) | ((with_reducible apply i_E); (focus rfl); (focus (first | rfl | (simp only [push_cast, ↓reduceIte, effOk, touch, refsOf, List.flatMap_cons, List.flatMap_nil])))) | ((with_reducible apply i_S); (focus rfl); (focus (first | rfl | (simp only [push_cast, ↓reduceIte, effOk, touch, refsOf, List.flatMap_cons, List.flatMap_nil])))) | ((with_reducible apply i_Vq); (focus rfl); (focus rfl)) | ((with_reducible apply i_Vp); (focus rfl); (focus rfl); (focus rfl))); (focus (simp (disch := (first | omega | (simp only [push_cast]; done) | (simp only [push_cast]; omega) | ((try simp only [push_cast]); (with_reducible first | apply sel_lt | apply sel_ge); (focus decide); (focus (simp only [push_cast]; omega))))) only [push_cast, ↓reduceIte, Nat.reduceEqDiff, Nat.reduceBEq, Nat.reduceAdd, Nat.reduceSub, Int.reduceToNat, *] <;> with_reducible exact rfl))) | ((with_reducible first | apply i_Gb | apply i_cond); (focus (simp (disch := (first | omega | (simp only [push_cast]; done) | (simp only [push_cast]; omega) | ((try simp only [push_cast]); (with_reducible first | apply sel_lt | apply sel_ge); (focus decide); (focus (simp only [push_cast]; omega))))) only [push_cast, ↓reduceIte, Nat.reduceEqDiff, Nat.reduceBEq, Nat.reduceAdd, Nat.reduceSub, Int.reduceToNat, *] <;> with_reducible exact rfl)); all_goals (intro hX; first | (cases hX; done) | ((with_reducible first | have hX0 : true = true := hX | have hX0 : false = false := hX); clear hX0 hX) | ((try simp only [decide_eq_true_eq, decide_eq_false_iff_not, Bool.not_eq_true', Bool.not_eq_false'] at hX); (try have hXb := inB_iff.1 hX)))))); all_goals try (exfalso; omega)
    ((with_reducible apply i_endN1 (2) (by first | exact .inl rfl | exact .inr rfl)); (focus (simp (disch := (first | omega | (simp only [push_cast]; done) | (simp only [push_cast]; omega) | ((try simp only [push_cast]); (with_reducible first | apply sel_lt | apply sel_ge); (focus decide); (focus (simp only [push_cast]; omega))))) only [push_cast, ↓reduceIte, Nat.reduceEqDiff, Nat.reduceBEq, Nat.reduceAdd, Nat.reduceSub, Int.reduceToNat, *] <;> with_reducible exact rfl)); (focus (simp (disch := (first | omega | (simp only [push_cast]; done) | (simp only [push_cast]; omega) | ((try simp only [push_cast]); (with_reducible first | apply sel_lt | apply sel_ge); (focus decide); (focus (simp only [push_cast]; omega))))) only [push_cast, ↓reduceIte, Nat.reduceEqDiff, Nat.reduceBEq, Nat.reduceAdd, Nat.reduceSub, Int.reduceToNat, *] <;> with_reducible exact rfl)))
end Go.Proofs.YtenldjifipnjpaaDoor
