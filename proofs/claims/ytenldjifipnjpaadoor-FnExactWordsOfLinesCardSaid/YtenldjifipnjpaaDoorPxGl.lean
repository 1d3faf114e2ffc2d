/- The rows of a grid. -/
import Derived.Test.YtenldjifipnjpaaDoorPxPutE
import Derived.Test.YtenldjifipnjpaaDoorPxStr
import Derived.Test.YtenldjifipnjpaaDoorPxIoX
import Derived.Test.YtenldjifipnjpaaDoorPxMark
import Derived.Lib.TrimByte
namespace Go.Proofs.YtenldjifipnjpaaDoor
open Go.RowKit
set_option linter.all false
theorem byteNs_gl {l : List Int} : byteNs (l.map fun n => .val (.int .u8 n)) = some l := by
  induction l with
  | nil => rfl
  | cons x l ih => simp_all [byteNs]
attribute [push_cast] byteNs_gl
theorem nP_opP {sz x : Nat} {es : List PV} (h : 0 < es.length) : nP sz es x = .row x sz 0 es.length := nP_pos h
/-- A text without the spaces at its end. -/
def trimS (s : ByteArray) : ByteArray := ⟨(Lib.trimRightB s.data.toList 32).toArray⟩
theorem trimL_cut (l : List UInt8) (c : UInt8) : Lib.trimRightB (l ++ [c]) c = Lib.trimRightB l c := by simp [Lib.trimRightB]
theorem trimL_done (l : List UInt8) {c z : UInt8} (h : ¬ z = c) : Lib.trimRightB (l ++ [z]) c = l ++ [z] := by
  have h2 : (z == c) = false := by simpa using h
  simp [Lib.trimRightB, h2]
theorem str_last {s : ByteArray} (h : 0 < s.size) : ∃ (l : List UInt8) (z : UInt8), s.data.toList = l ++ [z] ∧ at8 s (s.size - 1) = z.toNat ∧ (s.extract 0 (s.size - 1)).data.toList = l := by
  have hl : s.data.toList.length = s.size := Array.length_toList
  have hne : s.data.toList ≠ [] := fun e => by rw [e] at hl; simp at hl; omega
  refine ⟨s.data.toList.dropLast, s.data.toList.getLast hne, (List.dropLast_concat_getLast hne).symm, ?_, ?_⟩
  · have e : s[s.size - 1]? = some (s.data.toList.getLast hne) := by
      rw [List.getLast_eq_getElem, getElem?_pos s (s.size - 1) (by omega)]
      congr 1
    unfold at8
    rw [e]
    rfl
  · rw [ByteArray.data_extract, Array.toList_extract, List.dropLast_eq_take, hl]
    simp [List.extract]
theorem gl_ext {a b : ByteArray} (h : a.data.toList = b.data.toList) : a = b := by
  obtain ⟨⟨a⟩⟩ := a
  obtain ⟨⟨b⟩⟩ := b
  simp only at h
  rw [h]
theorem trimS_cut {s : ByteArray} (h : 0 < s.size) (h2 : at8 s (s.size - 1) = 32) : trimS (s.extract 0 (s.size - 1)) = trimS s := by
  obtain ⟨l, z, h3, h4, h5⟩ := str_last h
  have hz : z = 32 := UInt8.toNat_inj.1 (by have : (z.toNat : Int) = 32 := by rw [← h4]; exact h2
                                            show z.toNat = 32; omega)
  refine gl_ext ?_
  show Lib.trimRightB _ 32 = Lib.trimRightB _ 32
  rw [h3, h5, hz, trimL_cut]
theorem trimS_done {s : ByteArray} (h : 0 < s.size) (h2 : ¬ at8 s (s.size - 1) = 32) : trimS s = s := by
  obtain ⟨l, z, h3, h4, h5⟩ := str_last h
  have hz : ¬ z = 32 := fun e => h2 (by rw [h4, e]; rfl)
  refine gl_ext ?_
  show Lib.trimRightB _ 32 = _
  rw [h3, trimL_done l hz]
theorem trimS_nil {s : ByteArray} (h : s.size = 0) : trimS s = s := by
  have hl : s.data.toList.length = s.size := Array.length_toList
  have : s.data.toList = [] := List.eq_nil_of_length_eq_zero (by omega)
  refine gl_ext ?_
  show Lib.trimRightB _ 32 = _
  rw [this]
  rfl
def gridF (W : Nat) : Nat → List Int → LS → LS
  | 0, _, acc => acc
  | f + 1, zs, acc => if zs.length = 0 then acc else gridF W f (zs.drop W) (acc ++ [trimS (bytesOf (zs.take W))])
/-- The rows of a grid. -/
def gridR (wd : Int) (zs : List Int) : LS := gridF wd.toNat zs.length zs []
theorem gridF_nil {W f : Nat} {zs : List Int} {acc : LS} (h : zs.length = 0) : gridF W f zs acc = acc := by
  cases f with
  | zero => rfl
  | succ f => unfold gridF; rw [if_pos h]
theorem gridF_step {W f : Nat} {zs : List Int} {acc : LS} (hf : zs.length ≤ f) (h : 0 < zs.length) (hW : 0 < W) : ∃ g, (zs.drop W).length ≤ g ∧ gridF W f zs acc = gridF W g (zs.drop W) (acc ++ [trimS (bytesOf (zs.take W))]) := by
  obtain ⟨g, rfl⟩ : ∃ g, f = g + 1 := ⟨f - 1, by omega⟩
  refine ⟨g, by rw [List.length_drop]; omega, ?_⟩
  show (if _ then _ else _) = _
  rw [if_neg (by omega)]
theorem row_step {k n W : Nat} (h : k * W < n * W) : k * W + W ≤ n * W := by
  have h1 : k < n := Nat.lt_of_mul_lt_mul_right h
  have h2 := Nat.mul_le_mul_right W (show k + 1 ≤ n from h1)
  rw [Nat.succ_mul] at h2
  exact h2
theorem grid_rows {wd : Int} {l : List Int} (h : gridB wd l = true) : ∃ W n : Nat, wd = (W : Int) ∧ 0 < W ∧ W ≤ 60 ∧ l.length = n * W ∧ 0 < n ∧ n ≤ 60 := by
  obtain ⟨h1, h2, h3, _⟩ := gridB_facts h
  have h0 : 0 ≤ (l.length : Int) / wd := by omega
  refine ⟨wd.toNat, ((l.length : Int) / wd).toNat, by omega, by omega, by omega, ?_, by omega, by omega⟩
  have e := Int.mul_ediv_add_emod (l.length : Int) wd
  rw [h2, Int.add_zero] at e
  have e1 : (((l.length : Int) / wd).toNat : Int) = (l.length : Int) / wd := Int.toNat_of_nonneg h0
  have e2 : (wd.toNat : Int) = wd := Int.toNat_of_nonneg (by omega)
  have : ((((l.length : Int) / wd).toNat * wd.toNat : Nat) : Int) = (l.length : Int) := by
    rw [Int.natCast_mul, e1, e2, Int.mul_comm]
    exact e
  omega
def φTrimR : Fun := F2 dS dS fun s c => if c = ⟨#[32]⟩ ∧ s.size ≤ 9223372036854775807 then some (.val (.string (trimS s))) else none
theorem φTrimR_ap {s : ByteArray} (h : s.size ≤ 9223372036854775807) : φTrimR [.val (.string s), .val (.string ⟨#[32]⟩)] = some (.val (.string (trimS s))) := (F2_ap (A := dS) (B := dS) s ⟨#[32]⟩).trans (if_pos ⟨rfl, h⟩)
theorem trimR_ok : Sound Tryd.prog 51 φTrimR := by
  intro w J ps args r hr hJ hT hargs
  obtain ⟨s, c, rfl, hq⟩ := F2_some hr
  split at hq
  case isFalse => cases hq
  case isTrue hok =>
  cases hq
  obtain ⟨rfl, hs⟩ := hok
  have hargs := hargs
  simp only [RepL] at hargs
  obtain ⟨v1, vs1, e1, h1, v2, vs2, rfl, h2, rfl⟩ := hargs
  obtain rfl : args = #[v1, v2] := by
    obtain ⟨a⟩ := args
    simp only at e1
    rw [e1]
  simp only [dS, Rep] at h1 h2
  subst h1 h2
  refine (YtenldjifipnjpaaDoor.strings_TrimRight_one s 32 (by decide) w hs).mono ?_
  rintro e w' ⟨rfl, rfl⟩
  exact ⟨_, rfl, Below.refl _ _, fun g' _ => by simp only [Rep]; rfl⟩
noncomputable def ΨGl : FunN := G1 dGrid fun g => if okU g.2 then some (if gridB g.1 g.2 = true then (nP 1 ((gridR g.1 g.2).map fun s => .val (.string s)) 0, nC 9 1 ((gridR g.1 g.2).map fun s => .val (.string s))) else (.val (.slice none 0 0), [])) else none
noncomputable def GGln : Ctx := ⟨fun f => if f = 29 then some φGridValid else if f = 51 then some φTrimR else none, fun f => none⟩
theorem GGln_ok : SoundΓ Tryd.prog GGln := ⟨(fun f φ h => by
  unfold GGln at h
  dsimp only at h
  split at h
  · rename_i hf; cases h; subst hf; exact ⟨⟨_, Tryd.func29, rfl, rfl⟩, implGridValid_ok⟩
  split at h
  · rename_i hf; cases h; subst hf; exact ⟨⟨_, Tryd.func51, rfl, rfl⟩, trimR_ok⟩
  cases h), (fun f φ h => by
  unfold GGln at h
  dsimp only at h
  cases h)⟩
theorem GGln_29 (ob : Objs) (ps : List PV) : evCall GGln ob 29 ps = (ps.mapM (reify false 0 ob fuel)).bind φGridValid := by
  have h : GGln.fn 29 = some φGridValid := by simp [GGln]
  unfold evCall
  rw [h]
  cases ps.mapM (reify false 0 ob fuel) <;> rfl
theorem GGln_51 (ob : Objs) (ps : List PV) : evCall GGln ob 51 ps = (ps.mapM (reify false 0 ob fuel)).bind φTrimR := by
  have h : GGln.fn 51 = some φTrimR := by simp [GGln]
  unfold evCall
  rw [h]
  cases ps.mapM (reify false 0 ob fuel) <;> rfl
set_option maxHeartbeats 16000000 in
theorem implGlN : SoundN Tryd.prog 21 ΨGl := by
  refine sound_pqN mixed GGln_ok Tryd.func21 rfl 31 rfl [.tmp 2] rfl (by kernel_rfl) fun ps r cs' hr => ?_
  obtain ⟨⟨wd, l⟩, rfl, hq⟩ := G1_some hr
  clear hr
  split at hq
  case isFalse => cases hq
  case isTrue hpre =>
  simp only [Option.some.injEq] at hq
  refine ⟨by simp, ?_⟩
  simp only [dIs, dUs, dSs, dI_e, dU_e, dB_e, dS_e, dFn_e, dL_e, dA2_e, dA3_e, dA4_e, dA5_e]
  dsimp only at hpre hq ⊢
  have ap1 := φGridValid_ap (wd := wd) hpre
  have hlen := hpre.1
  cases hG : gridB wd l with
  | false =>
    rw [hG, if_neg (by simp)] at hq
    cases hq
    rw [hG] at ap1
    clear hG hpre
    have ggln_c29 := GGln_29; have ggln_c51 := GGln_51
    (repeat' (first | (with_reducible first | apply i_seq | apply i_block | apply i_skip | apply i_exit | apply i_ret | apply i_kS | apply i_kSx | apply i_kSr | apply i_kL | apply i_kLx | apply i_kLr | apply i_kB | apply i_kBr | apply i_kBs | apply i_nil) | ((with_reducible apply i_region); (focus (simp only [List.map_cons, List.map_nil] <;> exact rfl))) | ((with_reducible apply i_draw); (focus (simp only [List.map_cons, List.map_nil] <;> exact rfl)); (focus (decide +kernel))) | ((with_reducible apply i_kBo); (focus rfl)) | ((first | ((with_reducible apply i_V); (focus rfl); (focus rfl); (focus rfl)) | ((with_reducible apply i_E); (focus rfl); (focus (first | rfl | (simp only [push_cast, ↓reduceIte, effOk, touch, refsOf, List.flatMap_cons, List.flatMap_nil])))) | ((with_reducible apply i_S); (focus rfl); (focus (first | rfl | (simp only [push_cast, ↓reduceIte, effOk, touch, refsOf, List.flatMap_cons, List.flatMap_nil])))) | ((with_reducible apply i_Vq); (focus rfl); (focus rfl)) | ((with_reducible apply i_Vp); (focus rfl); (focus rfl); (focus rfl))); (focus (simp (disch := (first | omega | (simp only [push_cast]; done) | (simp only [push_cast]; omega) | ((try simp only [push_cast]); (with_reducible first | apply sel_lt | apply sel_ge); (focus decide); (focus (simp only [push_cast]; omega))))) only [push_cast, ↓reduceIte, Nat.reduceEqDiff, Nat.reduceBEq, Nat.reduceAdd, Nat.reduceSub, Int.reduceToNat, *] <;> with_reducible exact rfl))) | ((with_reducible first | apply i_Gb | apply i_cond); (focus (simp (disch := (first | omega | (simp only [push_cast]; done) | (simp only [push_cast]; omega) | ((try simp only [push_cast]); (with_reducible first | apply sel_lt | apply sel_ge); (focus decide); (focus (simp only [push_cast]; omega))))) only [push_cast, ↓reduceIte, Nat.reduceEqDiff, Nat.reduceBEq, Nat.reduceAdd, Nat.reduceSub, Int.reduceToNat, *] <;> with_reducible exact rfl)); all_goals (intro hX; first | (cases hX; done) | ((with_reducible first | have hX0 : true = true := hX | have hX0 : false = false := hX); clear hX0 hX) | ((try simp only [decide_eq_true_eq, decide_eq_false_iff_not, Bool.not_eq_true', Bool.not_eq_false'] at hX); (try have hXb := inB_iff.1 hX)))))); all_goals try (exfalso; omega)
    all_goals ((with_reducible apply i_endN0 (by first | exact .inl rfl | exact .inr rfl)); (focus (simp (disch := (first | omega | (simp only [push_cast]; done) | (simp only [push_cast]; omega) | ((try simp only [push_cast]); (with_reducible first | apply sel_lt | apply sel_ge); (focus decide); (focus (simp only [push_cast]; omega))))) only [push_cast, ↓reduceIte, Nat.reduceEqDiff, Nat.reduceBEq, Nat.reduceAdd, Nat.reduceSub, Int.reduceToNat, *] <;> with_reducible exact rfl)))
  | true =>
    rw [hG, if_pos rfl] at hq
    rw [hG] at ap1
    obtain ⟨W, n, hwd, hW, hW60, hln, hn, hn60⟩ := grid_rows hG
    subst hwd
    replace hq := Lib.hid hq
    have hlm : n * W ≤ 60 * 60 := Nat.mul_le_mul hn60 hW60
    have hll : l.length ≤ 3600 := by omega
    replace hln := Lib.hid hln
    clear hG hpre hlm
    have ggln_c29 := GGln_29; have ggln_c51 := GGln_51
    (repeat' (first | (with_reducible first | apply i_seq | apply i_block | apply i_skip | apply i_exit | apply i_ret | apply i_kS | apply i_kSx | apply i_kSr | apply i_kL | apply i_kLx | apply i_kLr | apply i_kB | apply i_kBr | apply i_kBs | apply i_nil) | ((with_reducible apply i_region); (focus (simp only [List.map_cons, List.map_nil] <;> exact rfl))) | ((with_reducible apply i_draw); (focus (simp only [List.map_cons, List.map_nil] <;> exact rfl)); (focus (decide +kernel))) | ((with_reducible apply i_kBo); (focus rfl)) | ((first | ((with_reducible apply i_V); (focus rfl); (focus rfl); (focus rfl)) | ((with_reducible apply i_E); (focus rfl); (focus (first | rfl | (simp only [push_cast, ↓reduceIte, effOk, touch, refsOf, List.flatMap_cons, List.flatMap_nil])))) | ((with_reducible apply i_S); (focus rfl); (focus (first | rfl | (simp only [push_cast, ↓reduceIte, effOk, touch, refsOf, List.flatMap_cons, List.flatMap_nil])))) | ((with_reducible apply i_Vq); (focus rfl); (focus rfl)) | ((with_reducible apply i_Vp); (focus rfl); (focus rfl); (focus rfl))); (focus (simp (disch := (first | omega | (simp only [push_cast]; done) | (simp only [push_cast]; omega) | ((try simp only [push_cast]); (with_reducible first | apply sel_lt | apply sel_ge); (focus decide); (focus (simp only [push_cast]; omega))))) only [push_cast, ↓reduceIte, Nat.reduceEqDiff, Nat.reduceBEq, Nat.reduceAdd, Nat.reduceSub, Int.reduceToNat, *] <;> with_reducible exact rfl))) | ((with_reducible first | apply i_Gb | apply i_cond); (focus (simp (disch := (first | omega | (simp only [push_cast]; done) | (simp only [push_cast]; omega) | ((try simp only [push_cast]); (with_reducible first | apply sel_lt | apply sel_ge); (focus decide); (focus (simp only [push_cast]; omega))))) only [push_cast, ↓reduceIte, Nat.reduceEqDiff, Nat.reduceBEq, Nat.reduceAdd, Nat.reduceSub, Int.reduceToNat, *] <;> with_reducible exact rfl)); all_goals (intro hX; first | (cases hX; done) | ((with_reducible first | have hX0 : true = true := hX | have hX0 : false = false := hX); clear hX0 hX) | ((try simp only [decide_eq_true_eq, decide_eq_false_iff_not, Bool.not_eq_true', Bool.not_eq_false'] at hX); (try have hXb := inB_iff.1 hX)))))); all_goals try (exfalso; omega)
    clear ap1
    refine i_loop (α := Nat × Nat × LS × Nat × Nat) mixed (fun s => [(1, .own 0 2 0 0), (3, nP 1 (s.2.2.1.map fun s => .val (.string s)) s.2.2.2.1), (4, iv s.2.1)])
      (fun s => (0, 32, 2, [.agg [.val (.int .i64 W), .lst false 1 (l.map fun n => .val (.int .u8 n))]]) :: nO 9 1 (s.2.2.1.map fun s => .val (.string s)) s.2.2.2.1) (fun s => s.2.2.2.2)
      (fun s => s.2.1 = s.1 * W ∧ s.2.1 ≤ l.length ∧ (∃ f, (l.drop s.2.1).length ≤ f ∧ gridF W f (l.drop s.2.1) s.2.2.1 = gridR W l) ∧ s.2.2.1.length ≤ s.1 ∧ (0 < s.2.2.1.length → 0 < s.2.2.2.1 ∧ s.2.2.2.1 < s.2.2.2.2) ∧ 0 < s.2.2.2.2) (fun s => l.length - s.2.1) (by kernel_rfl) (0, 0, [], 1, 1) ⟨by simp, Nat.zero_le _, ⟨l.length, by simp, by simp [gridR]⟩, by simp, fun h => by simp at h, by simp⟩ ?_ ?_ rfl ?_
    · simp (disch := (first | omega | (simp only [push_cast]; done) | (simp only [push_cast]; omega) | ((try simp only [push_cast]); (with_reducible first | apply sel_lt | apply sel_ge); (focus decide); (focus (simp only [push_cast]; omega))))) only [push_cast, ↓reduceIte, Nat.reduceEqDiff, Nat.reduceBEq, Nat.reduceAdd, Nat.reduceSub, Int.reduceToNat, List.length_append, *]
    · simp (disch := (first | omega | (simp only [push_cast]; done) | (simp only [push_cast]; omega) | ((try simp only [push_cast]); (with_reducible first | apply sel_lt | apply sel_ge); (focus decide); (focus (simp only [push_cast]; omega))))) only [push_cast, ↓reduceIte, Nat.reduceEqDiff, Nat.reduceBEq, Nat.reduceAdd, Nat.reduceSub, Int.reduceToNat, List.length_append, *]
    rintro ⟨k, p, acc, x, y⟩ ⟨hp, hpl, ⟨f, hf, hF⟩, hak, hxy, hy⟩
    dsimp only at hp hpl hf hF hak hxy hy
    replace hxy := Lib.hid hxy
    by_cases h0 : p < l.length
    · have hpw : p + W ≤ l.length := by
        rw [hln.out] at h0 ⊢
        rw [hp] at h0 ⊢
        exact row_step h0
      have hst := gridF_step (W := W) (acc := acc) hf (by rw [List.length_drop]; omega) hW
      have hdd : (l.drop p).drop W = l.drop (p + W) := by rw [List.drop_drop]
      have hk60 : k ≤ 3600 := by
        have := Nat.le_mul_of_pos_right k hW
        omega
      rw [hdd] at hst
      have hs2 : p + W - p = W := by omega
      have ht2 : ((p : Int) + W).toNat = p + W := by omega
      have htr := φTrimR_ap (s := bytesOf ((l.drop p).take W)) (by rw [size_bytesOf, List.length_take]; omega)
      have hkw : (k + 1) * W = p + W := by rw [Nat.succ_mul, ← hp]
      replace hst := Lib.hid hst
      replace hF := Lib.hid hF
      replace hp := Lib.hid hp
      replace hkw := Lib.hid hkw
      clear hdd
      by_cases ha0 : acc.length = 0
      · obtain rfl : acc = [] := List.eq_nil_of_length_eq_zero ha0
        clear ha0
        (repeat' (first | (with_reducible first | apply i_seq | apply i_block | apply i_skip | apply i_exit | apply i_ret | apply i_kS | apply i_kSx | apply i_kSr | apply i_kL | apply i_kLx | apply i_kLr | apply i_kB | apply i_kBr | apply i_kBs | apply i_nil) | ((with_reducible apply i_region); (focus (simp only [List.map_cons, List.map_nil] <;> exact rfl))) | ((with_reducible apply i_draw); (focus (simp only [List.map_cons, List.map_nil] <;> exact rfl)); (focus (decide +kernel))) | ((with_reducible apply i_kBo); (focus rfl)) | ((first | ((with_reducible apply i_V); (focus rfl); (focus rfl); (focus rfl)) | ((with_reducible apply i_E); (focus rfl); (focus (first | rfl | (simp only [push_cast, ↓reduceIte, effOk, touch, refsOf, List.flatMap_cons, List.flatMap_nil])))) | ((with_reducible apply i_S); (focus rfl); (focus (first | rfl | (simp only [push_cast, ↓reduceIte, effOk, touch, refsOf, List.flatMap_cons, List.flatMap_nil])))) | ((with_reducible apply i_Vq); (focus rfl); (focus rfl)) | ((with_reducible apply i_Vp); (focus rfl); (focus rfl); (focus rfl))); (focus (simp (disch := (first | omega | (simp only [push_cast]; done) | (simp only [push_cast]; omega) | ((try simp only [push_cast]); (with_reducible first | apply sel_lt | apply sel_ge); (focus decide); (focus (simp only [push_cast]; omega))))) only [push_cast, ↓reduceIte, Nat.reduceEqDiff, Nat.reduceBEq, Nat.reduceAdd, Nat.reduceSub, Int.reduceToNat, *] <;> with_reducible exact rfl))) | ((with_reducible first | apply i_Gb | apply i_cond); (focus (simp (disch := (first | omega | (simp only [push_cast]; done) | (simp only [push_cast]; omega) | ((try simp only [push_cast]); (with_reducible first | apply sel_lt | apply sel_ge); (focus decide); (focus (simp only [push_cast]; omega))))) only [push_cast, ↓reduceIte, Nat.reduceEqDiff, Nat.reduceBEq, Nat.reduceAdd, Nat.reduceSub, Int.reduceToNat, *] <;> with_reducible exact rfl)); all_goals (intro hX; first | (cases hX; done) | ((with_reducible first | have hX0 : true = true := hX | have hX0 : false = false := hX); clear hX0 hX) | ((try simp only [decide_eq_true_eq, decide_eq_false_iff_not, Bool.not_eq_true', Bool.not_eq_false'] at hX); (try have hXb := inB_iff.1 hX)))))); all_goals try (exfalso; omega)
        obtain ⟨g, hg1, hg2⟩ := hst.out
        refine ⟨(k + 1, p + W, [] ++ [trimS (bytesOf ((l.drop p).take W))], y + 1, y + 2), ⟨hkw.out.symm, by dsimp only; omega, ⟨g, hg1, by rw [← hg2]; exact hF.out⟩, by simp, fun _ => by dsimp only; omega, by dsimp only; omega⟩, by dsimp only; omega, ?_, ?_, rfl⟩
        · simp (disch := (first | omega | (simp only [push_cast]; done) | (simp only [push_cast]; omega) | ((try simp only [push_cast]); (with_reducible first | apply sel_lt | apply sel_ge); (focus decide); (focus (simp only [push_cast]; omega))))) only [push_cast, ↓reduceIte, Nat.reduceEqDiff, Nat.reduceBEq, Nat.reduceAdd, Nat.reduceSub, Int.reduceToNat, List.length_append, *]
        · simp (disch := (first | omega | (simp only [push_cast]; done) | (simp only [push_cast]; omega) | ((try simp only [push_cast]); (with_reducible first | apply sel_lt | apply sel_ge); (focus decide); (focus (simp only [push_cast]; omega))))) only [push_cast, ↓reduceIte, Nat.reduceEqDiff, Nat.reduceBEq, Nat.reduceAdd, Nat.reduceSub, Int.reduceToNat, List.length_append, *]
      · have hxy := hxy.out (by omega)
        have hap1 : 0 < (acc.map fun s => PV.val (.string s)).length := by rw [List.length_map]; omega
        have hap2 : 0 < ((acc ++ [trimS (bytesOf ((l.drop p).take W))]).map fun s => PV.val (.string s)).length := by simp
        simp only [nP_pos hap1, nO_pos hap1, List.length_map]
        (repeat' (first | (with_reducible first | apply i_seq | apply i_block | apply i_skip | apply i_exit | apply i_ret | apply i_kS | apply i_kSx | apply i_kSr | apply i_kL | apply i_kLx | apply i_kLr | apply i_kB | apply i_kBr | apply i_kBs | apply i_nil) | ((with_reducible apply i_region); (focus (simp only [List.map_cons, List.map_nil] <;> exact rfl))) | ((with_reducible apply i_draw); (focus (simp only [List.map_cons, List.map_nil] <;> exact rfl)); (focus (decide +kernel))) | ((with_reducible apply i_kBo); (focus rfl)) | ((first | ((with_reducible apply i_V); (focus rfl); (focus rfl); (focus rfl)) | ((with_reducible apply i_E); (focus rfl); (focus (first | rfl | (simp only [push_cast, ↓reduceIte, effOk, touch, refsOf, List.flatMap_cons, List.flatMap_nil])))) | ((with_reducible apply i_S); (focus rfl); (focus (first | rfl | (simp only [push_cast, ↓reduceIte, effOk, touch, refsOf, List.flatMap_cons, List.flatMap_nil])))) | ((with_reducible apply i_Vq); (focus rfl); (focus rfl)) | ((with_reducible apply i_Vp); (focus rfl); (focus rfl); (focus rfl))); (focus (simp (disch := (first | omega | (simp only [push_cast]; done) | (simp only [push_cast]; omega) | ((try simp only [push_cast]); (with_reducible first | apply sel_lt | apply sel_ge); (focus decide); (focus (simp only [push_cast]; omega))))) only [push_cast, ↓reduceIte, Nat.reduceEqDiff, Nat.reduceBEq, Nat.reduceAdd, Nat.reduceSub, Int.reduceToNat, *] <;> with_reducible exact rfl))) | ((with_reducible first | apply i_Gb | apply i_cond); (focus (simp (disch := (first | omega | (simp only [push_cast]; done) | (simp only [push_cast]; omega) | ((try simp only [push_cast]); (with_reducible first | apply sel_lt | apply sel_ge); (focus decide); (focus (simp only [push_cast]; omega))))) only [push_cast, ↓reduceIte, Nat.reduceEqDiff, Nat.reduceBEq, Nat.reduceAdd, Nat.reduceSub, Int.reduceToNat, *] <;> with_reducible exact rfl)); all_goals (intro hX; first | (cases hX; done) | ((with_reducible first | have hX0 : true = true := hX | have hX0 : false = false := hX); clear hX0 hX) | ((try simp only [decide_eq_true_eq, decide_eq_false_iff_not, Bool.not_eq_true', Bool.not_eq_false'] at hX); (try have hXb := inB_iff.1 hX)))))); all_goals try (exfalso; omega)
        obtain ⟨g, hg1, hg2⟩ := hst.out
        refine ⟨(k + 1, p + W, acc ++ [trimS (bytesOf ((l.drop p).take W))], y + 1, y + 2), ⟨hkw.out.symm, by dsimp only; omega, ⟨g, hg1, by rw [← hg2]; exact hF.out⟩, by simp; omega, fun _ => by dsimp only; omega, by dsimp only; omega⟩, by dsimp only; omega, ?_, ?_, rfl⟩
        · simp (disch := (first | omega | (simp only [push_cast]; done) | (simp only [push_cast]; omega) | ((try simp only [push_cast]); (with_reducible first | apply sel_lt | apply sel_ge); (focus decide); (focus (simp only [push_cast]; omega))))) only [push_cast, ↓reduceIte, Nat.reduceEqDiff, Nat.reduceBEq, Nat.reduceAdd, Nat.reduceSub, Int.reduceToNat, nP_pos hap2, List.length_append, *]
        · simp (disch := (first | omega | (simp only [push_cast]; done) | (simp only [push_cast]; omega) | ((try simp only [push_cast]); (with_reducible first | apply sel_lt | apply sel_ge); (focus decide); (focus (simp only [push_cast]; omega))))) only [push_cast, ↓reduceIte, Nat.reduceEqDiff, Nat.reduceBEq, Nat.reduceAdd, Nat.reduceSub, Int.reduceToNat, nO_pos hap2, *]
    · have hge : (l.drop p).length = 0 := by rw [List.length_drop]; omega
      rw [gridF_nil hge] at hF
      have hq := hq.out
      rw [← hF] at hq
      clear hF hf hge
      by_cases ha0 : acc.length = 0
      · obtain rfl : acc = [] := List.eq_nil_of_length_eq_zero ha0
        cases hq
        (repeat' (first | (with_reducible first | apply i_seq | apply i_block | apply i_skip | apply i_exit | apply i_ret | apply i_kS | apply i_kSx | apply i_kSr | apply i_kL | apply i_kLx | apply i_kLr | apply i_kB | apply i_kBr | apply i_kBs | apply i_nil) | ((with_reducible apply i_region); (focus (simp only [List.map_cons, List.map_nil] <;> exact rfl))) | ((with_reducible apply i_draw); (focus (simp only [List.map_cons, List.map_nil] <;> exact rfl)); (focus (decide +kernel))) | ((with_reducible apply i_kBo); (focus rfl)) | ((first | ((with_reducible apply i_V); (focus rfl); (focus rfl); (focus rfl)) | ((with_reducible apply i_E); (focus rfl); (focus (first | rfl | (simp only [push_cast, ↓reduceIte, effOk, touch, refsOf, List.flatMap_cons, List.flatMap_nil])))) | ((with_reducible apply i_S); (focus rfl); (focus (first | rfl | (simp only [push_cast, ↓reduceIte, effOk, touch, refsOf, List.flatMap_cons, List.flatMap_nil])))) | ((with_reducible apply i_Vq); (focus rfl); (focus rfl)) | ((with_reducible apply i_Vp); (focus rfl); (focus rfl); (focus rfl))); (focus (simp (disch := (first | omega | (simp only [push_cast]; done) | (simp only [push_cast]; omega) | ((try simp only [push_cast]); (with_reducible first | apply sel_lt | apply sel_ge); (focus decide); (focus (simp only [push_cast]; omega))))) only [push_cast, ↓reduceIte, Nat.reduceEqDiff, Nat.reduceBEq, Nat.reduceAdd, Nat.reduceSub, Int.reduceToNat, *] <;> with_reducible exact rfl))) | ((with_reducible first | apply i_Gb | apply i_cond); (focus (simp (disch := (first | omega | (simp only [push_cast]; done) | (simp only [push_cast]; omega) | ((try simp only [push_cast]); (with_reducible first | apply sel_lt | apply sel_ge); (focus decide); (focus (simp only [push_cast]; omega))))) only [push_cast, ↓reduceIte, Nat.reduceEqDiff, Nat.reduceBEq, Nat.reduceAdd, Nat.reduceSub, Int.reduceToNat, *] <;> with_reducible exact rfl)); all_goals (intro hX; first | (cases hX; done) | ((with_reducible first | have hX0 : true = true := hX | have hX0 : false = false := hX); clear hX0 hX) | ((try simp only [decide_eq_true_eq, decide_eq_false_iff_not, Bool.not_eq_true', Bool.not_eq_false'] at hX); (try have hXb := inB_iff.1 hX)))))); all_goals try (exfalso; omega)
        all_goals (show PostIO _ _ 0 (.val (.slice none 0 0)) [] _ _)
        all_goals ((with_reducible apply i_endN0 (by first | exact .inl rfl | exact .inr rfl)); (focus (simp (disch := (first | omega | (simp only [push_cast]; done) | (simp only [push_cast]; omega) | ((try simp only [push_cast]); (with_reducible first | apply sel_lt | apply sel_ge); (focus decide); (focus (simp only [push_cast]; omega))))) only [push_cast, ↓reduceIte, Nat.reduceEqDiff, Nat.reduceBEq, Nat.reduceAdd, Nat.reduceSub, Int.reduceToNat, *] <;> with_reducible exact rfl)))
      · have hxy := hxy.out (by omega)
        have hap : 0 < (acc.map fun s => PV.val (.string s)).length := by rw [List.length_map]; omega
        rw [nP_pos hap, nC_pos hap, List.length_map] at hq
        cases hq
        simp only [nP_pos hap, nO_pos hap, List.length_map]
        (repeat' (first | (with_reducible first | apply i_seq | apply i_block | apply i_skip | apply i_exit | apply i_ret | apply i_kS | apply i_kSx | apply i_kSr | apply i_kL | apply i_kLx | apply i_kLr | apply i_kB | apply i_kBr | apply i_kBs | apply i_nil) | ((with_reducible apply i_region); (focus (simp only [List.map_cons, List.map_nil] <;> exact rfl))) | ((with_reducible apply i_draw); (focus (simp only [List.map_cons, List.map_nil] <;> exact rfl)); (focus (decide +kernel))) | ((with_reducible apply i_kBo); (focus rfl)) | ((first | ((with_reducible apply i_V); (focus rfl); (focus rfl); (focus rfl)) | ((with_reducible apply i_E); (focus rfl); (focus (first | rfl | (simp only [push_cast, ↓reduceIte, effOk, touch, refsOf, List.flatMap_cons, List.flatMap_nil])))) | ((with_reducible apply i_S); (focus rfl); (focus (first | rfl | (simp only [push_cast, ↓reduceIte, effOk, touch, refsOf, List.flatMap_cons, List.flatMap_nil])))) | ((with_reducible apply i_Vq); (focus rfl); (focus rfl)) | ((with_reducible apply i_Vp); (focus rfl); (focus rfl); (focus rfl))); (focus (simp (disch := (first | omega | (simp only [push_cast]; done) | (simp only [push_cast]; omega) | ((try simp only [push_cast]); (with_reducible first | apply sel_lt | apply sel_ge); (focus decide); (focus (simp only [push_cast]; omega))))) only [push_cast, ↓reduceIte, Nat.reduceEqDiff, Nat.reduceBEq, Nat.reduceAdd, Nat.reduceSub, Int.reduceToNat, *] <;> with_reducible exact rfl))) | ((with_reducible first | apply i_Gb | apply i_cond); (focus (simp (disch := (first | omega | (simp only [push_cast]; done) | (simp only [push_cast]; omega) | ((try simp only [push_cast]); (with_reducible first | apply sel_lt | apply sel_ge); (focus decide); (focus (simp only [push_cast]; omega))))) only [push_cast, ↓reduceIte, Nat.reduceEqDiff, Nat.reduceBEq, Nat.reduceAdd, Nat.reduceSub, Int.reduceToNat, *] <;> with_reducible exact rfl)); all_goals (intro hX; first | (cases hX; done) | ((with_reducible first | have hX0 : true = true := hX | have hX0 : false = false := hX); clear hX0 hX) | ((try simp only [decide_eq_true_eq, decide_eq_false_iff_not, Bool.not_eq_true', Bool.not_eq_false'] at hX); (try have hXb := inB_iff.1 hX)))))); all_goals try (exfalso; omega)
        all_goals ((with_reducible apply i_endN1 (x) (by first | exact .inl rfl | exact .inr rfl)); (focus (simp (disch := (first | omega | (simp only [push_cast]; done) | (simp only [push_cast]; omega) | ((try simp only [push_cast]); (with_reducible first | apply sel_lt | apply sel_ge); (focus decide); (focus (simp only [push_cast]; omega))))) only [push_cast, ↓reduceIte, Nat.reduceEqDiff, Nat.reduceBEq, Nat.reduceAdd, Nat.reduceSub, Int.reduceToNat, *] <;> with_reducible exact rfl)); (focus (simp (disch := (first | omega | (simp only [push_cast]; done) | (simp only [push_cast]; omega) | ((try simp only [push_cast]); (with_reducible first | apply sel_lt | apply sel_ge); (focus decide); (focus (simp only [push_cast]; omega))))) only [push_cast, ↓reduceIte, Nat.reduceEqDiff, Nat.reduceBEq, Nat.reduceAdd, Nat.reduceSub, Int.reduceToNat, *] <;> with_reducible exact rfl)))
noncomputable def φGl : Fun := F1 dGrid fun g => if okU g.2 then some (.lst true 1 ((if gridB g.1 g.2 = true then gridR g.1 g.2 else []).map fun s => .val (.string s))) else none
theorem φGl_ap {wd : Int} {l : List Int} (h : okU l) : φGl [.agg [.val (.int .i64 wd), .lst false 1 (l.map fun n => .val (.int .u8 n))]] = some (.lst true 1 ((if gridB wd l = true then gridR wd l else []).map fun s => .val (.string s))) := (F1_ap (A := dGrid) (wd, l)).trans (if_pos h)
theorem size0 {s : ByteArray} (h : s.size = 0) : s = ⟨#[]⟩ := gl_ext (by
  have hl : s.data.toList.length = s.size := Array.length_toList
  have : s.data.toList = [] := List.eq_nil_of_length_eq_zero (by omega)
  rw [this])
noncomputable def GSgl : Ctx := ⟨fun f => if f = 32 then some φGridValid else none, fun f => none⟩
theorem GSgl_ok : SoundΓ Tryd.prog GSgl := ⟨(fun f φ h => by
  unfold GSgl at h
  dsimp only at h
  split at h
  · rename_i hf; cases h; subst hf; exact ⟨⟨_, Tryd.func32, rfl, rfl⟩, specGridValid_ok⟩
  cases h), (fun f φ h => by
  unfold GSgl at h
  dsimp only at h
  cases h)⟩
theorem GSgl_32 (ob : Objs) (ps : List PV) : evCall GSgl ob 32 ps = (ps.mapM (reify false 0 ob fuel)).bind φGridValid := by
  have h : GSgl.fn 32 = some φGridValid := by simp [GSgl]
  unfold evCall
  rw [h]
  cases ps.mapM (reify false 0 ob fuel) <;> rfl
set_option maxHeartbeats 16000000 in
theorem specGl_ok : Sound Tryd.prog 19 φGl := by
  refine sound_pq mixed GSgl_ok Tryd.func19 rfl 49 rfl [.tmp 2] rfl (by kernel_rfl) fun ps r hr => ?_
  obtain ⟨⟨wd, l⟩, rfl, hq⟩ := F1_some hr
  clear hr
  split at hq
  case isFalse => cases hq
  case isTrue hpre =>
  simp only [Option.some.injEq] at hq
  refine ⟨by simp, ?_⟩
  simp only [dIs, dUs, dSs, dI_e, dU_e, dB_e, dS_e, dFn_e, dL_e, dA2_e, dA3_e, dA4_e, dA5_e]
  dsimp only at hpre hq ⊢
  have ap1 := φGridValid_ap (wd := wd) hpre
  have hlen := hpre.1
  cases hG : gridB wd l with
  | false =>
    rw [hG, if_neg (by simp)] at hq
    subst hq
    rw [hG] at ap1
    clear hG hpre
    have gsgl_c32 := GSgl_32
    (repeat' (first | (with_reducible first | apply i_seq | apply i_block | apply i_skip | apply i_exit | apply i_ret | apply i_kS | apply i_kSx | apply i_kSr | apply i_kL | apply i_kLx | apply i_kLr | apply i_kB | apply i_kBr | apply i_kBs | apply i_nil) | ((with_reducible apply i_region); (focus (simp only [List.map_cons, List.map_nil] <;> exact rfl))) | ((with_reducible apply i_draw); (focus (simp only [List.map_cons, List.map_nil] <;> exact rfl)); (focus (decide +kernel))) | ((with_reducible apply i_kBo); (focus rfl)) | ((first | ((with_reducible apply i_V); (focus rfl); (focus rfl); (focus rfl)) | ((with_reducible apply i_E); (focus rfl); (focus (first | rfl | (simp only [push_cast, ↓reduceIte, effOk, touch, refsOf, List.flatMap_cons, List.flatMap_nil])))) | ((with_reducible apply i_S); (focus rfl); (focus (first | rfl | (simp only [push_cast, ↓reduceIte, effOk, touch, refsOf, List.flatMap_cons, List.flatMap_nil])))) | ((with_reducible apply i_Vq); (focus rfl); (focus rfl)) | ((with_reducible apply i_Vp); (focus rfl); (focus rfl); (focus rfl))); (focus (simp (disch := (first | omega | (simp only [push_cast]; done) | (simp only [push_cast]; omega) | ((try simp only [push_cast]); (with_reducible first | apply sel_lt | apply sel_ge); (focus decide); (focus (simp only [push_cast]; omega))))) only [push_cast, ↓reduceIte, Nat.reduceEqDiff, Nat.reduceBEq, Nat.reduceAdd, Nat.reduceSub, Int.reduceToNat, *] <;> with_reducible exact rfl))) | ((with_reducible first | apply i_Gb | apply i_cond); (focus (simp (disch := (first | omega | (simp only [push_cast]; done) | (simp only [push_cast]; omega) | ((try simp only [push_cast]); (with_reducible first | apply sel_lt | apply sel_ge); (focus decide); (focus (simp only [push_cast]; omega))))) only [push_cast, ↓reduceIte, Nat.reduceEqDiff, Nat.reduceBEq, Nat.reduceAdd, Nat.reduceSub, Int.reduceToNat, *] <;> with_reducible exact rfl)); all_goals (intro hX; first | (cases hX; done) | ((with_reducible first | have hX0 : true = true := hX | have hX0 : false = false := hX); clear hX0 hX) | ((try simp only [decide_eq_true_eq, decide_eq_false_iff_not, Bool.not_eq_true', Bool.not_eq_false'] at hX); (try have hXb := inB_iff.1 hX)))))); all_goals try (exfalso; omega)
    refine i_loop (α := Unit) mixed (fun s => [(1, .own 0 2 0 0), (3, .row 1 1 0 0), (4, iv 0)])
      (fun s => [(0, 32, 2, [.agg [.val (.int .i64 wd), .lst false 1 (l.map fun n => .val (.int .u8 n))]]), (1, 9, 1, [])]) (fun s => 2)
      (fun s => True) (fun s => 0) (by kernel_rfl) () trivial ?_ ?_ rfl ?_
    · simp (disch := (first | omega | (simp only [push_cast]; done) | (simp only [push_cast]; omega) | ((try simp only [push_cast]); (with_reducible first | apply sel_lt | apply sel_ge); (focus decide); (focus (simp only [push_cast]; omega))))) only [push_cast, ↓reduceIte, Nat.reduceEqDiff, Nat.reduceBEq, Nat.reduceAdd, Nat.reduceSub, Int.reduceToNat, List.length_append, *]
    · simp (disch := (first | omega | (simp only [push_cast]; done) | (simp only [push_cast]; omega) | ((try simp only [push_cast]); (with_reducible first | apply sel_lt | apply sel_ge); (focus decide); (focus (simp only [push_cast]; omega))))) only [push_cast, ↓reduceIte, Nat.reduceEqDiff, Nat.reduceBEq, Nat.reduceAdd, Nat.reduceSub, Int.reduceToNat, List.length_append, *]
    rintro - -
    (repeat' (first | (with_reducible first | apply i_seq | apply i_block | apply i_skip | apply i_exit | apply i_ret | apply i_kS | apply i_kSx | apply i_kSr | apply i_kL | apply i_kLx | apply i_kLr | apply i_kB | apply i_kBr | apply i_kBs | apply i_nil) | ((with_reducible apply i_region); (focus (simp only [List.map_cons, List.map_nil] <;> exact rfl))) | ((with_reducible apply i_draw); (focus (simp only [List.map_cons, List.map_nil] <;> exact rfl)); (focus (decide +kernel))) | ((with_reducible apply i_kBo); (focus rfl)) | ((first | ((with_reducible apply i_V); (focus rfl); (focus rfl); (focus rfl)) | ((with_reducible apply i_E); (focus rfl); (focus (first | rfl | (simp only [push_cast, ↓reduceIte, effOk, touch, refsOf, List.flatMap_cons, List.flatMap_nil])))) | ((with_reducible apply i_S); (focus rfl); (focus (first | rfl | (simp only [push_cast, ↓reduceIte, effOk, touch, refsOf, List.flatMap_cons, List.flatMap_nil])))) | ((with_reducible apply i_Vq); (focus rfl); (focus rfl)) | ((with_reducible apply i_Vp); (focus rfl); (focus rfl); (focus rfl))); (focus (simp (disch := (first | omega | (simp only [push_cast]; done) | (simp only [push_cast]; omega) | ((try simp only [push_cast]); (with_reducible first | apply sel_lt | apply sel_ge); (focus decide); (focus (simp only [push_cast]; omega))))) only [push_cast, ↓reduceIte, Nat.reduceEqDiff, Nat.reduceBEq, Nat.reduceAdd, Nat.reduceSub, Int.reduceToNat, *] <;> with_reducible exact rfl))) | ((with_reducible first | apply i_Gb | apply i_cond); (focus (simp (disch := (first | omega | (simp only [push_cast]; done) | (simp only [push_cast]; omega) | ((try simp only [push_cast]); (with_reducible first | apply sel_lt | apply sel_ge); (focus decide); (focus (simp only [push_cast]; omega))))) only [push_cast, ↓reduceIte, Nat.reduceEqDiff, Nat.reduceBEq, Nat.reduceAdd, Nat.reduceSub, Int.reduceToNat, *] <;> with_reducible exact rfl)); all_goals (intro hX; first | (cases hX; done) | ((with_reducible first | have hX0 : true = true := hX | have hX0 : false = false := hX); clear hX0 hX) | ((try simp only [decide_eq_true_eq, decide_eq_false_iff_not, Bool.not_eq_true', Bool.not_eq_false'] at hX); (try have hXb := inB_iff.1 hX)))))); all_goals try (exfalso; omega)
    all_goals (first | (exfalso; omega) | ((first | apply i_end | apply i_endN); simp (disch := (first | omega | (simp only [push_cast]; done) | (simp only [push_cast]; omega) | ((try simp only [push_cast]); (with_reducible first | apply sel_lt | apply sel_ge); (focus decide); (focus (simp only [push_cast]; omega))))) only [push_cast, ↓reduceIte, Nat.reduceEqDiff, Nat.reduceBEq, Nat.reduceAdd, Nat.reduceSub, Int.reduceToNat, *]) | skip)
  | true =>
    rw [hG, if_pos rfl] at hq
    rw [hG] at ap1
    obtain ⟨W, n, hwd, hW, hW60, hln, hn, hn60⟩ := grid_rows hG
    subst hwd
    replace hq := Lib.hid hq
    have hlm : n * W ≤ 60 * 60 := Nat.mul_le_mul hn60 hW60
    have hll : l.length ≤ 3600 := by omega
    replace hln := Lib.hid hln
    clear hG hpre hlm
    have gsgl_c32 := GSgl_32
    (repeat' (first | (with_reducible first | apply i_seq | apply i_block | apply i_skip | apply i_exit | apply i_ret | apply i_kS | apply i_kSx | apply i_kSr | apply i_kL | apply i_kLx | apply i_kLr | apply i_kB | apply i_kBr | apply i_kBs | apply i_nil) | ((with_reducible apply i_region); (focus (simp only [List.map_cons, List.map_nil] <;> exact rfl))) | ((with_reducible apply i_draw); (focus (simp only [List.map_cons, List.map_nil] <;> exact rfl)); (focus (decide +kernel))) | ((with_reducible apply i_kBo); (focus rfl)) | ((first | ((with_reducible apply i_V); (focus rfl); (focus rfl); (focus rfl)) | ((with_reducible apply i_E); (focus rfl); (focus (first | rfl | (simp only [push_cast, ↓reduceIte, effOk, touch, refsOf, List.flatMap_cons, List.flatMap_nil])))) | ((with_reducible apply i_S); (focus rfl); (focus (first | rfl | (simp only [push_cast, ↓reduceIte, effOk, touch, refsOf, List.flatMap_cons, List.flatMap_nil])))) | ((with_reducible apply i_Vq); (focus rfl); (focus rfl)) | ((with_reducible apply i_Vp); (focus rfl); (focus rfl); (focus rfl))); (focus (simp (disch := (first | omega | (simp only [push_cast]; done) | (simp only [push_cast]; omega) | ((try simp only [push_cast]); (with_reducible first | apply sel_lt | apply sel_ge); (focus decide); (focus (simp only [push_cast]; omega))))) only [push_cast, ↓reduceIte, Nat.reduceEqDiff, Nat.reduceBEq, Nat.reduceAdd, Nat.reduceSub, Int.reduceToNat, *] <;> with_reducible exact rfl))) | ((with_reducible first | apply i_Gb | apply i_cond); (focus (simp (disch := (first | omega | (simp only [push_cast]; done) | (simp only [push_cast]; omega) | ((try simp only [push_cast]); (with_reducible first | apply sel_lt | apply sel_ge); (focus decide); (focus (simp only [push_cast]; omega))))) only [push_cast, ↓reduceIte, Nat.reduceEqDiff, Nat.reduceBEq, Nat.reduceAdd, Nat.reduceSub, Int.reduceToNat, *] <;> with_reducible exact rfl)); all_goals (intro hX; first | (cases hX; done) | ((with_reducible first | have hX0 : true = true := hX | have hX0 : false = false := hX); clear hX0 hX) | ((try simp only [decide_eq_true_eq, decide_eq_false_iff_not, Bool.not_eq_true', Bool.not_eq_false'] at hX); (try have hXb := inB_iff.1 hX)))))); all_goals try (exfalso; omega)
    refine i_loop (α := Nat × Nat × LS × Nat × Nat) mixed (fun s => [(1, .own 0 2 0 0), (3, .row s.2.2.2.1 1 0 s.2.2.1.length), (4, iv s.2.1)])
      (fun s => [(0, 32, 2, [.agg [.val (.int .i64 W), .lst false 1 (l.map fun n => .val (.int .u8 n))]]), (s.2.2.2.1, 9, 1, s.2.2.1.map fun s => .val (.string s))]) (fun s => s.2.2.2.2)
      (fun s => s.2.1 = s.1 * W ∧ s.2.1 ≤ l.length ∧ (∃ f, (l.drop s.2.1).length ≤ f ∧ gridF W f (l.drop s.2.1) s.2.2.1 = gridR W l) ∧ s.2.2.1.length ≤ s.1 ∧ 0 < s.2.2.2.1 ∧ s.2.2.2.1 < s.2.2.2.2) (fun s => l.length - s.2.1) (by kernel_rfl) (0, 0, [], 1, 2) ⟨by simp, Nat.zero_le _, ⟨l.length, by simp, by simp [gridR]⟩, by simp, by simp, by simp⟩ ?_ ?_ rfl ?_
    · simp (disch := (first | omega | (simp only [push_cast]; done) | (simp only [push_cast]; omega) | ((try simp only [push_cast]); (with_reducible first | apply sel_lt | apply sel_ge); (focus decide); (focus (simp only [push_cast]; omega))))) only [push_cast, ↓reduceIte, Nat.reduceEqDiff, Nat.reduceBEq, Nat.reduceAdd, Nat.reduceSub, Int.reduceToNat, List.length_append, *]
    · simp (disch := (first | omega | (simp only [push_cast]; done) | (simp only [push_cast]; omega) | ((try simp only [push_cast]); (with_reducible first | apply sel_lt | apply sel_ge); (focus decide); (focus (simp only [push_cast]; omega))))) only [push_cast, ↓reduceIte, Nat.reduceEqDiff, Nat.reduceBEq, Nat.reduceAdd, Nat.reduceSub, Int.reduceToNat, List.length_append, *]
    rintro ⟨k, p, acc, x, y⟩ ⟨hp, hpl, ⟨f, hf, hF⟩, hak, hx, hxy⟩
    dsimp only at hp hpl hf hF hak hx hxy
    by_cases h0 : p < l.length
    · have hpw : p + W ≤ l.length := by
        rw [hln.out] at h0 ⊢
        rw [hp] at h0 ⊢
        exact row_step h0
      have hst := gridF_step (W := W) (acc := acc) hf (by rw [List.length_drop]; omega) hW
      have hdd : (l.drop p).drop W = l.drop (p + W) := by rw [List.drop_drop]
      have hk60 : k ≤ 3600 := by
        have := Nat.le_mul_of_pos_right k hW
        omega
      rw [hdd] at hst
      have hs2 : p + W - p = W := by omega
      have ht2 : ((p : Int) + W).toNat = p + W := by omega
      have hkw : (k + 1) * W = p + W := by rw [Nat.succ_mul, ← hp]
      replace hst := Lib.hid hst
      replace hF := Lib.hid hF
      replace hp := Lib.hid hp
      replace hkw := Lib.hid hkw
      clear hdd
      (repeat' (first | (with_reducible first | apply i_seq | apply i_block | apply i_skip | apply i_exit | apply i_ret | apply i_kS | apply i_kSx | apply i_kSr | apply i_kL | apply i_kLx | apply i_kLr | apply i_kB | apply i_kBr | apply i_kBs | apply i_nil) | ((with_reducible apply i_region); (focus (simp only [List.map_cons, List.map_nil] <;> exact rfl))) | ((with_reducible apply i_draw); (focus (simp only [List.map_cons, List.map_nil] <;> exact rfl)); (focus (decide +kernel))) | ((with_reducible apply i_kBo); (focus rfl)) | ((first | ((with_reducible apply i_V); (focus rfl); (focus rfl); (focus rfl)) | ((with_reducible apply i_E); (focus rfl); (focus (first | rfl | (simp only [push_cast, ↓reduceIte, effOk, touch, refsOf, List.flatMap_cons, List.flatMap_nil])))) | ((with_reducible apply i_S); (focus rfl); (focus (first | rfl | (simp only [push_cast, ↓reduceIte, effOk, touch, refsOf, List.flatMap_cons, List.flatMap_nil])))) | ((with_reducible apply i_Vq); (focus rfl); (focus rfl)) | ((with_reducible apply i_Vp); (focus rfl); (focus rfl); (focus rfl))); (focus (simp (disch := (first | omega | (simp only [push_cast]; done) | (simp only [push_cast]; omega) | ((try simp only [push_cast]); (with_reducible first | apply sel_lt | apply sel_ge); (focus decide); (focus (simp only [push_cast]; omega))))) only [push_cast, ↓reduceIte, Nat.reduceEqDiff, Nat.reduceBEq, Nat.reduceAdd, Nat.reduceSub, Int.reduceToNat, *] <;> with_reducible exact rfl))) | ((with_reducible first | apply i_Gb | apply i_cond); (focus (simp (disch := (first | omega | (simp only [push_cast]; done) | (simp only [push_cast]; omega) | ((try simp only [push_cast]); (with_reducible first | apply sel_lt | apply sel_ge); (focus decide); (focus (simp only [push_cast]; omega))))) only [push_cast, ↓reduceIte, Nat.reduceEqDiff, Nat.reduceBEq, Nat.reduceAdd, Nat.reduceSub, Int.reduceToNat, *] <;> with_reducible exact rfl)); all_goals (intro hX; first | (cases hX; done) | ((with_reducible first | have hX0 : true = true := hX | have hX0 : false = false := hX); clear hX0 hX) | ((try simp only [decide_eq_true_eq, decide_eq_false_iff_not, Bool.not_eq_true', Bool.not_eq_false'] at hX); (try have hXb := inB_iff.1 hX)))))); all_goals try (exfalso; omega)
      refine i_loop (α := ByteArray) mixed (fun s => [(1, .own 0 2 0 0), (3, .row x 1 0 acc.length), (4, iv p), (5, .val (.string s))])
        (fun s => [(0, 32, 2, [.agg [.val (.int .i64 W), .lst false 1 (l.map fun n => .val (.int .u8 n))]]), (x, 9, 1, acc.map fun s => .val (.string s))]) (fun s => y)
        (fun s => trimS s = trimS (bytesOf ((l.drop p).take W)) ∧ s.size ≤ 3600) (fun s => s.size) (by kernel_rfl) (bytesOf ((l.drop p).take W)) ⟨rfl, by rw [size_bytesOf, List.length_take]; omega⟩ ?_ ?_ rfl ?_
      · simp (disch := (first | omega | (simp only [push_cast]; done) | (simp only [push_cast]; omega) | ((try simp only [push_cast]); (with_reducible first | apply sel_lt | apply sel_ge); (focus decide); (focus (simp only [push_cast]; omega))))) only [push_cast, ↓reduceIte, Nat.reduceEqDiff, Nat.reduceBEq, Nat.reduceAdd, Nat.reduceSub, Int.reduceToNat, List.length_append, *]
      · simp (disch := (first | omega | (simp only [push_cast]; done) | (simp only [push_cast]; omega) | ((try simp only [push_cast]); (with_reducible first | apply sel_lt | apply sel_ge); (focus decide); (focus (simp only [push_cast]; omega))))) only [push_cast, ↓reduceIte, Nat.reduceEqDiff, Nat.reduceBEq, Nat.reduceAdd, Nat.reduceSub, Int.reduceToNat, List.length_append, *]
      rintro s ⟨hs1, hs3⟩
      by_cases hs0 : s.size = 0
      · obtain rfl : s = ⟨#[]⟩ := size0 hs0
        rw [trimS_nil hs0] at hs1
        replace hs1 := Lib.hid hs1
        clear hs0
        (repeat' (first | (with_reducible first | apply i_seq | apply i_block | apply i_skip | apply i_exit | apply i_ret | apply i_kS | apply i_kSx | apply i_kSr | apply i_kL | apply i_kLx | apply i_kLr | apply i_kB | apply i_kBr | apply i_kBs | apply i_nil) | ((with_reducible apply i_region); (focus (simp only [List.map_cons, List.map_nil] <;> exact rfl))) | ((with_reducible apply i_draw); (focus (simp only [List.map_cons, List.map_nil] <;> exact rfl)); (focus (decide +kernel))) | ((with_reducible apply i_kBo); (focus rfl)) | ((first | ((with_reducible apply i_V); (focus rfl); (focus rfl); (focus rfl)) | ((with_reducible apply i_E); (focus rfl); (focus (first | rfl | (simp only [push_cast, ↓reduceIte, effOk, touch, refsOf, List.flatMap_cons, List.flatMap_nil])))) | ((with_reducible apply i_S); (focus rfl); (focus (first | rfl | (simp only [push_cast, ↓reduceIte, effOk, touch, refsOf, List.flatMap_cons, List.flatMap_nil])))) | ((with_reducible apply i_Vq); (focus rfl); (focus rfl)) | ((with_reducible apply i_Vp); (focus rfl); (focus rfl); (focus rfl))); (focus (simp (disch := (first | omega | (simp only [push_cast]; done) | (simp only [push_cast]; omega) | ((try simp only [push_cast]); (with_reducible first | apply sel_lt | apply sel_ge); (focus decide); (focus (simp only [push_cast]; omega))))) only [push_cast, ↓reduceIte, Nat.reduceEqDiff, Nat.reduceBEq, Nat.reduceAdd, Nat.reduceSub, Int.reduceToNat, *] <;> with_reducible exact rfl))) | ((with_reducible first | apply i_Gb | apply i_cond); (focus (simp (disch := (first | omega | (simp only [push_cast]; done) | (simp only [push_cast]; omega) | ((try simp only [push_cast]); (with_reducible first | apply sel_lt | apply sel_ge); (focus decide); (focus (simp only [push_cast]; omega))))) only [push_cast, ↓reduceIte, Nat.reduceEqDiff, Nat.reduceBEq, Nat.reduceAdd, Nat.reduceSub, Int.reduceToNat, *] <;> with_reducible exact rfl)); all_goals (intro hX; first | (cases hX; done) | ((with_reducible first | have hX0 : true = true := hX | have hX0 : false = false := hX); clear hX0 hX) | ((try simp only [decide_eq_true_eq, decide_eq_false_iff_not, Bool.not_eq_true', Bool.not_eq_false'] at hX); (try have hXb := inB_iff.1 hX)))))); all_goals try (exfalso; omega)
        obtain ⟨g, hg1, hg2⟩ := hst.out
        refine ⟨(k + 1, p + W, acc ++ [trimS (bytesOf ((l.drop p).take W))], y + 1, y + 2), ⟨hkw.out.symm, by dsimp only; omega, ⟨g, hg1, by rw [← hg2]; exact hF.out⟩, by simp; omega, by dsimp only; omega, by dsimp only; omega⟩, by dsimp only; omega, ?_, ?_, rfl⟩
        · simp (disch := (first | omega | (simp only [push_cast]; done) | (simp only [push_cast]; omega) | ((try simp only [push_cast]); (with_reducible first | apply sel_lt | apply sel_ge); (focus decide); (focus (simp only [push_cast]; omega))))) only [push_cast, ↓reduceIte, Nat.reduceEqDiff, Nat.reduceBEq, Nat.reduceAdd, Nat.reduceSub, Int.reduceToNat, List.length_append, ← hs1.out, *]
        · simp (disch := (first | omega | (simp only [push_cast]; done) | (simp only [push_cast]; omega) | ((try simp only [push_cast]); (with_reducible first | apply sel_lt | apply sel_ge); (focus decide); (focus (simp only [push_cast]; omega))))) only [push_cast, ↓reduceIte, Nat.reduceEqDiff, Nat.reduceBEq, Nat.reduceAdd, Nat.reduceSub, Int.reduceToNat, ← hs1.out, *]
      · have hsn : ¬ s = ⟨#[]⟩ := fun e => hs0 (by rw [e]; rfl)
        have hr8 := at8_rng s (s.size - 1)
        by_cases h32 : at8 s (s.size - 1) = 32
        · have hcut := trimS_cut (by omega) h32
          have hes : (s.extract 0 (s.size - 1)).size = s.size - 1 := by rw [ByteArray.size_extract]; omega
          replace hcut := Lib.hid hcut
          replace hs1 := Lib.hid hs1
          (repeat' (first | (with_reducible first | apply i_seq | apply i_block | apply i_skip | apply i_exit | apply i_ret | apply i_kS | apply i_kSx | apply i_kSr | apply i_kL | apply i_kLx | apply i_kLr | apply i_kB | apply i_kBr | apply i_kBs | apply i_nil) | ((with_reducible apply i_region); (focus (simp only [List.map_cons, List.map_nil] <;> exact rfl))) | ((with_reducible apply i_draw); (focus (simp only [List.map_cons, List.map_nil] <;> exact rfl)); (focus (decide +kernel))) | ((with_reducible apply i_kBo); (focus rfl)) | ((first | ((with_reducible apply i_V); (focus rfl); (focus rfl); (focus rfl)) | ((with_reducible apply i_E); (focus rfl); (focus (first | rfl | (simp only [push_cast, ↓reduceIte, effOk, touch, refsOf, List.flatMap_cons, List.flatMap_nil])))) | ((with_reducible apply i_S); (focus rfl); (focus (first | rfl | (simp only [push_cast, ↓reduceIte, effOk, touch, refsOf, List.flatMap_cons, List.flatMap_nil])))) | ((with_reducible apply i_Vq); (focus rfl); (focus rfl)) | ((with_reducible apply i_Vp); (focus rfl); (focus rfl); (focus rfl))); (focus (simp (disch := (first | omega | (simp only [push_cast]; done) | (simp only [push_cast]; omega) | ((try simp only [push_cast]); (with_reducible first | apply sel_lt | apply sel_ge); (focus decide); (focus (simp only [push_cast]; omega))))) only [push_cast, ↓reduceIte, Nat.reduceEqDiff, Nat.reduceBEq, Nat.reduceAdd, Nat.reduceSub, Int.reduceToNat, *] <;> with_reducible exact rfl))) | ((with_reducible first | apply i_Gb | apply i_cond); (focus (simp (disch := (first | omega | (simp only [push_cast]; done) | (simp only [push_cast]; omega) | ((try simp only [push_cast]); (with_reducible first | apply sel_lt | apply sel_ge); (focus decide); (focus (simp only [push_cast]; omega))))) only [push_cast, ↓reduceIte, Nat.reduceEqDiff, Nat.reduceBEq, Nat.reduceAdd, Nat.reduceSub, Int.reduceToNat, *] <;> with_reducible exact rfl)); all_goals (intro hX; first | (cases hX; done) | ((with_reducible first | have hX0 : true = true := hX | have hX0 : false = false := hX); clear hX0 hX) | ((try simp only [decide_eq_true_eq, decide_eq_false_iff_not, Bool.not_eq_true', Bool.not_eq_false'] at hX); (try have hXb := inB_iff.1 hX)))))); all_goals try (exfalso; omega)
          refine ⟨s.extract 0 (s.size - 1), ⟨hcut.out.trans hs1.out, by omega⟩, by dsimp only; omega, ?_, ?_, rfl⟩
          · simp (disch := (first | omega | (simp only [push_cast]; done) | (simp only [push_cast]; omega) | ((try simp only [push_cast]); (with_reducible first | apply sel_lt | apply sel_ge); (focus decide); (focus (simp only [push_cast]; omega))))) only [push_cast, ↓reduceIte, Nat.reduceEqDiff, Nat.reduceBEq, Nat.reduceAdd, Nat.reduceSub, Int.reduceToNat, List.length_append, *]
          · simp (disch := (first | omega | (simp only [push_cast]; done) | (simp only [push_cast]; omega) | ((try simp only [push_cast]); (with_reducible first | apply sel_lt | apply sel_ge); (focus decide); (focus (simp only [push_cast]; omega))))) only [push_cast, ↓reduceIte, Nat.reduceEqDiff, Nat.reduceBEq, Nat.reduceAdd, Nat.reduceSub, Int.reduceToNat, List.length_append, *]
        · rw [trimS_done (by omega) h32] at hs1
          replace hs1 := Lib.hid hs1
          (repeat' (first | (with_reducible first | apply i_seq | apply i_block | apply i_skip | apply i_exit | apply i_ret | apply i_kS | apply i_kSx | apply i_kSr | apply i_kL | apply i_kLx | apply i_kLr | apply i_kB | apply i_kBr | apply i_kBs | apply i_nil) | ((with_reducible apply i_region); (focus (simp only [List.map_cons, List.map_nil] <;> exact rfl))) | ((with_reducible apply i_draw); (focus (simp only [List.map_cons, List.map_nil] <;> exact rfl)); (focus (decide +kernel))) | ((with_reducible apply i_kBo); (focus rfl)) | ((first | ((with_reducible apply i_V); (focus rfl); (focus rfl); (focus rfl)) | ((with_reducible apply i_E); (focus rfl); (focus (first | rfl | (simp only [push_cast, ↓reduceIte, effOk, touch, refsOf, List.flatMap_cons, List.flatMap_nil])))) | ((with_reducible apply i_S); (focus rfl); (focus (first | rfl | (simp only [push_cast, ↓reduceIte, effOk, touch, refsOf, List.flatMap_cons, List.flatMap_nil])))) | ((with_reducible apply i_Vq); (focus rfl); (focus rfl)) | ((with_reducible apply i_Vp); (focus rfl); (focus rfl); (focus rfl))); (focus (simp (disch := (first | omega | (simp only [push_cast]; done) | (simp only [push_cast]; omega) | ((try simp only [push_cast]); (with_reducible first | apply sel_lt | apply sel_ge); (focus decide); (focus (simp only [push_cast]; omega))))) only [push_cast, ↓reduceIte, Nat.reduceEqDiff, Nat.reduceBEq, Nat.reduceAdd, Nat.reduceSub, Int.reduceToNat, *] <;> with_reducible exact rfl))) | ((with_reducible first | apply i_Gb | apply i_cond); (focus (simp (disch := (first | omega | (simp only [push_cast]; done) | (simp only [push_cast]; omega) | ((try simp only [push_cast]); (with_reducible first | apply sel_lt | apply sel_ge); (focus decide); (focus (simp only [push_cast]; omega))))) only [push_cast, ↓reduceIte, Nat.reduceEqDiff, Nat.reduceBEq, Nat.reduceAdd, Nat.reduceSub, Int.reduceToNat, *] <;> with_reducible exact rfl)); all_goals (intro hX; first | (cases hX; done) | ((with_reducible first | have hX0 : true = true := hX | have hX0 : false = false := hX); clear hX0 hX) | ((try simp only [decide_eq_true_eq, decide_eq_false_iff_not, Bool.not_eq_true', Bool.not_eq_false'] at hX); (try have hXb := inB_iff.1 hX)))))); all_goals try (exfalso; omega)
          obtain ⟨g, hg1, hg2⟩ := hst.out
          refine ⟨(k + 1, p + W, acc ++ [trimS (bytesOf ((l.drop p).take W))], y + 1, y + 2), ⟨hkw.out.symm, by dsimp only; omega, ⟨g, hg1, by rw [← hg2]; exact hF.out⟩, by simp; omega, by dsimp only; omega, by dsimp only; omega⟩, by dsimp only; omega, ?_, ?_, rfl⟩
          · simp (disch := (first | omega | (simp only [push_cast]; done) | (simp only [push_cast]; omega) | ((try simp only [push_cast]); (with_reducible first | apply sel_lt | apply sel_ge); (focus decide); (focus (simp only [push_cast]; omega))))) only [push_cast, ↓reduceIte, Nat.reduceEqDiff, Nat.reduceBEq, Nat.reduceAdd, Nat.reduceSub, Int.reduceToNat, List.length_append, ← hs1.out, *]
          · simp (disch := (first | omega | (simp only [push_cast]; done) | (simp only [push_cast]; omega) | ((try simp only [push_cast]); (with_reducible first | apply sel_lt | apply sel_ge); (focus decide); (focus (simp only [push_cast]; omega))))) only [push_cast, ↓reduceIte, Nat.reduceEqDiff, Nat.reduceBEq, Nat.reduceAdd, Nat.reduceSub, Int.reduceToNat, ← hs1.out, *]
    · have hge : (l.drop p).length = 0 := by rw [List.length_drop]; omega
      rw [gridF_nil hge] at hF
      have hq := hq.out
      rw [← hF] at hq
      subst hq
      clear hF hf hge
      (repeat' (first | (with_reducible first | apply i_seq | apply i_block | apply i_skip | apply i_exit | apply i_ret | apply i_kS | apply i_kSx | apply i_kSr | apply i_kL | apply i_kLx | apply i_kLr | apply i_kB | apply i_kBr | apply i_kBs | apply i_nil) | ((with_reducible apply i_region); (focus (simp only [List.map_cons, List.map_nil] <;> exact rfl))) | ((with_reducible apply i_draw); (focus (simp only [List.map_cons, List.map_nil] <;> exact rfl)); (focus (decide +kernel))) | ((with_reducible apply i_kBo); (focus rfl)) | ((first | ((with_reducible apply i_V); (focus rfl); (focus rfl); (focus rfl)) | ((with_reducible apply i_E); (focus rfl); (focus (first | rfl | (simp only [push_cast, ↓reduceIte, effOk, touch, refsOf, List.flatMap_cons, List.flatMap_nil])))) | ((with_reducible apply i_S); (focus rfl); (focus (first | rfl | (simp only [push_cast, ↓reduceIte, effOk, touch, refsOf, List.flatMap_cons, List.flatMap_nil])))) | ((with_reducible apply i_Vq); (focus rfl); (focus rfl)) | ((with_reducible apply i_Vp); (focus rfl); (focus rfl); (focus rfl))); (focus (simp (disch := (first | omega | (simp only [push_cast]; done) | (simp only [push_cast]; omega) | ((try simp only [push_cast]); (with_reducible first | apply sel_lt | apply sel_ge); (focus decide); (focus (simp only [push_cast]; omega))))) only [push_cast, ↓reduceIte, Nat.reduceEqDiff, Nat.reduceBEq, Nat.reduceAdd, Nat.reduceSub, Int.reduceToNat, *] <;> with_reducible exact rfl))) | ((with_reducible first | apply i_Gb | apply i_cond); (focus (simp (disch := (first | omega | (simp only [push_cast]; done) | (simp only [push_cast]; omega) | ((try simp only [push_cast]); (with_reducible first | apply sel_lt | apply sel_ge); (focus decide); (focus (simp only [push_cast]; omega))))) only [push_cast, ↓reduceIte, Nat.reduceEqDiff, Nat.reduceBEq, Nat.reduceAdd, Nat.reduceSub, Int.reduceToNat, *] <;> with_reducible exact rfl)); all_goals (intro hX; first | (cases hX; done) | ((with_reducible first | have hX0 : true = true := hX | have hX0 : false = false := hX); clear hX0 hX) | ((try simp only [decide_eq_true_eq, decide_eq_false_iff_not, Bool.not_eq_true', Bool.not_eq_false'] at hX); (try have hXb := inB_iff.1 hX)))))); all_goals try (exfalso; omega)
      all_goals (first | (exfalso; omega) | ((first | apply i_end | apply i_endN); simp (disch := (first | omega | (simp only [push_cast]; done) | (simp only [push_cast]; omega) | ((try simp only [push_cast]); (with_reducible first | apply sel_lt | apply sel_ge); (focus decide); (focus (simp only [push_cast]; omega))))) only [push_cast, ↓reduceIte, Nat.reduceEqDiff, Nat.reduceBEq, Nat.reduceAdd, Nat.reduceSub, Int.reduceToNat, *]) | skip)
theorem gridF_len {W : Nat} : ∀ (f : Nat) (zs : List Int) (acc : LS), (gridF W f zs acc).length ≤ acc.length + f
  | 0, zs, acc => by show acc.length ≤ _; omega
  | f + 1, zs, acc => by
    unfold gridF
    split
    · omega
    · have := gridF_len (W := W) f (zs.drop W) (acc ++ [trimS (bytesOf (zs.take W))])
      simp only [List.length_append, List.length_cons, List.length_nil] at this
      omega
theorem gridR_len {wd : Int} {l : List Int} : (gridR wd l).length ≤ l.length := by
  have := gridF_len (W := wd.toNat) l.length l []
  simpa [gridR] using this
theorem gridR_pos {wd : Int} {l : List Int} (h : gridB wd l = true) : 0 < (gridR wd l).length := by
  obtain ⟨W, n, hwd, hW, hW60, hln, hn, hn60⟩ := grid_rows h
  have hge : ∀ (f : Nat) (zs : List Int) (acc : LS), acc.length ≤ (gridF W f zs acc).length := fun f => by
    induction f with
    | zero => intro zs acc; exact Nat.le_refl _
    | succ f ih =>
      intro zs acc
      unfold gridF
      split
      · exact Nat.le_refl _
      · have := ih (zs.drop W) (acc ++ [trimS (bytesOf (zs.take W))])
        simp only [List.length_append, List.length_cons, List.length_nil] at this
        omega
  have hpos : 0 < l.length := by
    have := Nat.mul_pos hn hW
    omega
  unfold gridR
  subst hwd
  obtain ⟨g, hg⟩ : ∃ g, l.length = g + 1 := ⟨l.length - 1, by omega⟩
  rw [hg, Int.toNat_natCast]
  unfold gridF
  rw [if_neg (by omega)]
  have := hge g (l.drop W) ([] ++ [trimS (bytesOf (l.take W))])
  simp only [List.length_append, List.length_cons, List.length_nil] at this
  omega
theorem Gl_lift {wd : Int} {l : List Int} (h : okU l) (hG : gridB wd l = true) : liftN ΨGl [.agg [.val (.int .i64 wd), .row 0 1 0 l.length]] [(5, 1, l.map fun n => .val (.int .u8 n))] = some (.row 1 1 0 (gridR wd l).length, [(5, 1, l.map fun n => .val (.int .u8 n)), (9, 1, (gridR wd l).map fun s => .val (.string s))]) := by
  have hp : 0 < ((gridR wd l).map fun s => PV.val (.string s)).length := by simpa using gridR_pos hG
  refine (liftN_of (qs := [.agg [.val (.int .i64 wd), .lst false 1 (l.map fun n => .val (.int .u8 n))]]) (cs1 := [(9, 1, (gridR wd l).map fun s => .val (.string s))]) (r := .row 0 1 0 (gridR wd l).length) (cs0 := [(9, 1, (gridR wd l).map fun s => .val (.string s))]) (by
    simp only [mapM_cons', mapM_nil', reify_fuel, reifyS_agg, reifyS_row, reifyS_val, List.getElem?_cons_zero, Bool.false_eq_true, false_and, if_false, rowRe_vals, Option.bind_some, Option.map_some]) ((G1_ap (A := dGrid) (wd, l)).trans ((if_pos h).trans (by dsimp only; rw [if_pos hG, nP_pos hp, nC_pos hp, List.length_map]))) rfl (by rw [mapM_cons', mapM_nil', renCT_vals]; rfl)).trans ?_
  rfl
theorem Gl_lift0 {wd : Int} {l : List Int} (h : okU l) (hG : gridB wd l = false) : liftN ΨGl [.agg [.val (.int .i64 wd), .row 0 1 0 l.length]] [(5, 1, l.map fun n => .val (.int .u8 n))] = some (.val (.slice none 0 0), [(5, 1, l.map fun n => .val (.int .u8 n))]) := by
  refine (liftN_of (qs := [.agg [.val (.int .i64 wd), .lst false 1 (l.map fun n => .val (.int .u8 n))]]) (cs1 := []) (r := .val (.slice none 0 0)) (cs0 := []) (by
    simp only [mapM_cons', mapM_nil', reify_fuel, reifyS_agg, reifyS_row, reifyS_val, List.getElem?_cons_zero, Bool.false_eq_true, false_and, if_false, rowRe_vals, Option.bind_some, Option.map_some]) ((G1_ap (A := dGrid) (wd, l)).trans ((if_pos h).trans (by dsimp only; rw [if_neg (by simp [hG])]))) rfl rfl).trans ?_
  rfl
def φEqSnG : Fun := nilF 1 φEqS
noncomputable def φHeldSnG : Fun := nilF 1 φHeldS
theorem φEqSnG_ap {a b : LS} (h : a.length ≤ 1048576) (h2 : b.length ≤ 1048576) : φEqSnG [.lst false 1 (a.map fun s => .val (.string s)), .lst false 1 (b.map fun s => .val (.string s))] = some (.val (.bool (decide (a = b)))) := φEqS_ap h h2
theorem φEqSnG_nil : φEqSnG [.val (.slice none 0 0), .lst false 1 []] = some (.val (.bool true)) := φEqS_ap (a := []) (b := []) (by simp) (by simp)
theorem φHeldSnG_ap {k : Int} {n : Nat} (hn : n ≤ 1048576) (hk : 0 < k) (hk2 : k ≤ 1099511627776) : φHeldSnG [.lst false 1 ((marksS k n).map fun s => .val (.string s)), .val (.int .i64 k)] = some (.val (.int .i64 (k + n))) := φHeldS_ap hn hk hk2
theorem φHeldSnG_nil : φHeldSnG [.val (.slice none 0 0), .val (.int .i64 1)] = some (.val (.int .i64 1)) := φHeldS_ap (k := 1) (n := 0) (by simp) (by simp) (by simp)
noncomputable def φLawGlE : Fun := F1 dGrid fun g => if g.2.length ≤ 9223372036854775807 ∧ g.2.all (fun b => inB b 0 255) = true then some (bv true) else none
noncomputable def GGlE : Ctx := ⟨fun f => if f = 18 then some φSzGrid else if f = 19 then some φGl else if f = 22 then some φEqGrid else if f = 15 then some φEqSnG else if f = 17 then some φHeldSnG else none, fun f => if f = 20 then some (liftN ΨToG) else if f = 21 then some (liftN ΨGl) else if f = 23 then some ΦmarkG else if f = 16 then some ΦmarkS else none⟩
theorem GGlE_ok : SoundΓ Tryd.prog GGlE := ⟨(fun f φ h => by
  unfold GGlE at h
  dsimp only at h
  split at h
  · rename_i hf; cases h; subst hf; exact ⟨⟨_, Tryd.func18, rfl, rfl⟩, szGrid_ok⟩
  split at h
  · rename_i hf; cases h; subst hf; exact ⟨⟨_, Tryd.func19, rfl, rfl⟩, specGl_ok⟩
  split at h
  · rename_i hf; cases h; subst hf; exact ⟨⟨_, Tryd.func22, rfl, rfl⟩, eqGrid_ok⟩
  split at h
  · rename_i hf; cases h; subst hf; exact ⟨⟨_, Tryd.func15, rfl, rfl⟩, (eqStringS_ok.nil 1)⟩
  split at h
  · rename_i hf; cases h; subst hf; exact ⟨⟨_, Tryd.func17, rfl, rfl⟩, (heldStringS_ok.nil 1)⟩
  cases h), (fun f φ h => by
  unfold GGlE at h
  dsimp only at h
  split at h
  · rename_i hf; cases h; subst hf; exact ⟨⟨_, Tryd.func20, rfl, rfl⟩, toGridN.lift⟩
  split at h
  · rename_i hf; cases h; subst hf; exact ⟨⟨_, Tryd.func21, rfl, rfl⟩, implGlN.lift⟩
  split at h
  · rename_i hf; cases h; subst hf; exact ⟨⟨_, Tryd.func23, rfl, rfl⟩, markG_io⟩
  split at h
  · rename_i hf; cases h; subst hf; exact ⟨⟨_, Tryd.func16, rfl, rfl⟩, markS_io⟩
  cases h)⟩
theorem GGlE_18 (ob : Objs) (ps : List PV) : evCall GGlE ob 18 ps = (ps.mapM (reify false 0 ob fuel)).bind φSzGrid := by
  have h : GGlE.fn 18 = some φSzGrid := by simp [GGlE]
  unfold evCall
  rw [h]
  cases ps.mapM (reify false 0 ob fuel) <;> rfl
theorem GGlE_19 (ob : Objs) (ps : List PV) : evCall GGlE ob 19 ps = (ps.mapM (reify false 0 ob fuel)).bind φGl := by
  have h : GGlE.fn 19 = some φGl := by simp [GGlE]
  unfold evCall
  rw [h]
  cases ps.mapM (reify false 0 ob fuel) <;> rfl
theorem GGlE_22 (ob : Objs) (ps : List PV) : evCall GGlE ob 22 ps = (ps.mapM (reify false 0 ob fuel)).bind φEqGrid := by
  have h : GGlE.fn 22 = some φEqGrid := by simp [GGlE]
  unfold evCall
  rw [h]
  cases ps.mapM (reify false 0 ob fuel) <;> rfl
theorem GGlE_15 (ob : Objs) (ps : List PV) : evCall GGlE ob 15 ps = (ps.mapM (reify false 0 ob fuel)).bind φEqSnG := by
  have h : GGlE.fn 15 = some φEqSnG := by simp [GGlE]
  unfold evCall
  rw [h]
  cases ps.mapM (reify false 0 ob fuel) <;> rfl
theorem GGlE_17 (ob : Objs) (ps : List PV) : evCall GGlE ob 17 ps = (ps.mapM (reify false 0 ob fuel)).bind φHeldSnG := by
  have h : GGlE.fn 17 = some φHeldSnG := by simp [GGlE]
  unfold evCall
  rw [h]
  cases ps.mapM (reify false 0 ob fuel) <;> rfl
theorem GGlE_20 : GGlE.io 20 = some (liftN ΨToG) := by simp [GGlE]
theorem GGlE_21 : GGlE.io 21 = some (liftN ΨGl) := by simp [GGlE]
theorem GGlE_23 : GGlE.io 23 = some ΦmarkG := by simp [GGlE]
theorem GGlE_16 : GGlE.io 16 = some ΦmarkS := by simp [GGlE]
set_option maxHeartbeats 16000000 in
theorem lawGlE_ok : Sound Tryd.prog 4 φLawGlE := by
  refine sound_pq mixed GGlE_ok Tryd.func4 rfl 69 rfl [.tmp 2] rfl (by kernel_rfl) fun ps r hr => ?_
  obtain ⟨⟨wd, l⟩, rfl, hq⟩ := F1_some hr
  clear hr
  split at hq
  case isFalse => cases hq
  case isTrue hok =>
  cases hq
  dsimp only at hok
  obtain ⟨hlen, hall⟩ := hok
  refine ⟨by simp, ?_⟩
  simp only [dIs, dUs, dSs, dI_e, dU_e, dB_e, dS_e, dFn_e, dL_e, dA2_e, dA3_e, dA4_e, dA5_e]
  have ap1 := @φSzGrid_ap wd l 1048576 hlen (by omega) (by omega)
  by_cases hbig : l.length ≤ 1048576
  · have e1 : lessLen 1048576 l.length = 1048576 - l.length := by unfold lessLen; split <;> omega
    rw [e1] at ap1
    have hU : okU l := ⟨by omega, hall⟩
    have ap2 := toG_lift (wd := wd) hbig
    have ap3 := φGl_ap (wd := wd) hU
    have ap5 := φEqGrid_ap (wd := wd) (wd' := wd) (zs := l) (zs' := l) hbig (by omega)
    have ap6 := markG_row (wd := wd) (l := l) (k := 1) hbig (by omega) (by omega)
    clear hall
    cases hG : gridB wd l with
    | false =>
      have ap4 := Gl_lift0 (wd := wd) hU hG
      rw [hG, if_neg (by simp)] at ap3
      have ap7 := φEqSnG_nil
      have ap8 := markS_mk.2 1
      have ap9 := φHeldSnG_nil
      clear hU hG
      have ggle_c18 := GGlE_18; have ggle_c20 := GGlE_20; have ggle_c19 := GGlE_19; have ggle_c21 := GGlE_21; have ggle_c22 := GGlE_22; have ggle_c23 := GGlE_23; have ggle_c15 := GGlE_15; have ggle_c16 := GGlE_16; have ggle_c17 := GGlE_17
      (repeat' (first | (with_reducible first | apply i_seq | apply i_block | apply i_skip | apply i_exit | apply i_ret | apply i_kS | apply i_kSx | apply i_kSr | apply i_kL | apply i_kLx | apply i_kLr | apply i_kB | apply i_kBr | apply i_kBs | apply i_nil) | ((with_reducible apply i_region); (focus (simp only [List.map_cons, List.map_nil] <;> exact rfl))) | ((with_reducible apply i_draw); (focus (simp only [List.map_cons, List.map_nil] <;> exact rfl)); (focus (decide +kernel))) | ((with_reducible apply i_kBo); (focus rfl)) | ((first | ((with_reducible apply i_V); (focus rfl); (focus rfl); (focus rfl)) | ((with_reducible apply i_E); (focus rfl); (focus (first | rfl | (simp only [push_cast, ↓reduceIte, effOk, touch, refsOf, List.flatMap_cons, List.flatMap_nil])))) | ((with_reducible apply i_S); (focus rfl); (focus (first | rfl | (simp only [push_cast, ↓reduceIte, effOk, touch, refsOf, List.flatMap_cons, List.flatMap_nil])))) | ((with_reducible apply i_Vq); (focus rfl); (focus rfl)) | ((with_reducible apply i_Vp); (focus rfl); (focus rfl); (focus rfl))); (focus (simp (disch := (first | omega | (simp only [push_cast]; done) | (simp only [push_cast]; omega) | ((try simp only [push_cast]); (with_reducible first | apply sel_lt | apply sel_ge); (focus decide); (focus (simp only [push_cast]; omega))))) only [push_cast, ↓reduceIte, Nat.reduceEqDiff, Nat.reduceBEq, Nat.reduceAdd, Nat.reduceSub, Int.reduceToNat, *] <;> with_reducible exact rfl))) | ((with_reducible first | apply i_Gb | apply i_cond); (focus (simp (disch := (first | omega | (simp only [push_cast]; done) | (simp only [push_cast]; omega) | ((try simp only [push_cast]); (with_reducible first | apply sel_lt | apply sel_ge); (focus decide); (focus (simp only [push_cast]; omega))))) only [push_cast, ↓reduceIte, Nat.reduceEqDiff, Nat.reduceBEq, Nat.reduceAdd, Nat.reduceSub, Int.reduceToNat, *] <;> with_reducible exact rfl)); all_goals (intro hX; first | (cases hX; done) | ((with_reducible first | have hX0 : true = true := hX | have hX0 : false = false := hX); clear hX0 hX) | ((try simp only [decide_eq_true_eq, decide_eq_false_iff_not, Bool.not_eq_true', Bool.not_eq_false'] at hX); (try have hXb := inB_iff.1 hX)))))); all_goals try (exfalso; omega)
      refine i_drawV [27, 28] [0, 3] (by simp only [List.map_cons, List.map_nil] <;> exact rfl) (by decide +kernel) ?_
      (repeat' (first | (with_reducible first | apply i_seq | apply i_block | apply i_skip | apply i_exit | apply i_ret | apply i_kS | apply i_kSx | apply i_kSr | apply i_kL | apply i_kLx | apply i_kLr | apply i_kB | apply i_kBr | apply i_kBs | apply i_nil) | ((with_reducible apply i_region); (focus (simp only [List.map_cons, List.map_nil] <;> exact rfl))) | ((with_reducible apply i_draw); (focus (simp only [List.map_cons, List.map_nil] <;> exact rfl)); (focus (decide +kernel))) | ((with_reducible apply i_kBo); (focus rfl)) | ((first | ((with_reducible apply i_V); (focus rfl); (focus rfl); (focus rfl)) | ((with_reducible apply i_E); (focus rfl); (focus (first | rfl | (simp only [push_cast, ↓reduceIte, effOk, touch, refsOf, List.flatMap_cons, List.flatMap_nil])))) | ((with_reducible apply i_S); (focus rfl); (focus (first | rfl | (simp only [push_cast, ↓reduceIte, effOk, touch, refsOf, List.flatMap_cons, List.flatMap_nil])))) | ((with_reducible apply i_Vq); (focus rfl); (focus rfl)) | ((with_reducible apply i_Vp); (focus rfl); (focus rfl); (focus rfl))); (focus (simp (disch := (first | omega | (simp only [push_cast]; done) | (simp only [push_cast]; omega) | ((try simp only [push_cast]); (with_reducible first | apply sel_lt | apply sel_ge); (focus decide); (focus (simp only [push_cast]; omega))))) only [push_cast, ↓reduceIte, Nat.reduceEqDiff, Nat.reduceBEq, Nat.reduceAdd, Nat.reduceSub, Int.reduceToNat, *] <;> with_reducible exact rfl))) | ((with_reducible first | apply i_Gb | apply i_cond); (focus (simp (disch := (first | omega | (simp only [push_cast]; done) | (simp only [push_cast]; omega) | ((try simp only [push_cast]); (with_reducible first | apply sel_lt | apply sel_ge); (focus decide); (focus (simp only [push_cast]; omega))))) only [push_cast, ↓reduceIte, Nat.reduceEqDiff, Nat.reduceBEq, Nat.reduceAdd, Nat.reduceSub, Int.reduceToNat, *] <;> with_reducible exact rfl)); all_goals (intro hX; first | (cases hX; done) | ((with_reducible first | have hX0 : true = true := hX | have hX0 : false = false := hX); clear hX0 hX) | ((try simp only [decide_eq_true_eq, decide_eq_false_iff_not, Bool.not_eq_true', Bool.not_eq_false'] at hX); (try have hXb := inB_iff.1 hX)))))); all_goals try (exfalso; omega)
      all_goals (first | (exfalso; omega) | ((first | apply i_end | apply i_endN); simp (disch := (first | omega | (simp only [push_cast]; done) | (simp only [push_cast]; omega) | ((try simp only [push_cast]); (with_reducible first | apply sel_lt | apply sel_ge); (focus decide); (focus (simp only [push_cast]; omega))))) only [push_cast, ↓reduceIte, Nat.reduceEqDiff, Nat.reduceBEq, Nat.reduceAdd, Nat.reduceSub, Int.reduceToNat, *]) | skip)
    | true =>
      have ap4 := Gl_lift (wd := wd) hU hG
      rw [hG, if_pos rfl] at ap3
      have hRl := gridR_len (wd := wd) (l := l)
      generalize gridR wd l = R at *
      have ap7 := φEqSnG_ap (a := R) (b := R) (by omega) (by omega)
      have ap8 := markS_mk.1 R 1 (by omega) (by omega) (by omega)
      have ap9 := φHeldSnG_ap (k := 1) (n := R.length) (by omega) (by omega) (by omega)
      have hml := marksS_length 1 R.length
      clear hU hG
      have ggle_c18 := GGlE_18; have ggle_c20 := GGlE_20; have ggle_c19 := GGlE_19; have ggle_c21 := GGlE_21; have ggle_c22 := GGlE_22; have ggle_c23 := GGlE_23; have ggle_c15 := GGlE_15; have ggle_c16 := GGlE_16; have ggle_c17 := GGlE_17
      (repeat' (first | (with_reducible first | apply i_seq | apply i_block | apply i_skip | apply i_exit | apply i_ret | apply i_kS | apply i_kSx | apply i_kSr | apply i_kL | apply i_kLx | apply i_kLr | apply i_kB | apply i_kBr | apply i_kBs | apply i_nil) | ((with_reducible apply i_region); (focus (simp only [List.map_cons, List.map_nil] <;> exact rfl))) | ((with_reducible apply i_draw); (focus (simp only [List.map_cons, List.map_nil] <;> exact rfl)); (focus (decide +kernel))) | ((with_reducible apply i_kBo); (focus rfl)) | ((first | ((with_reducible apply i_V); (focus rfl); (focus rfl); (focus rfl)) | ((with_reducible apply i_E); (focus rfl); (focus (first | rfl | (simp only [push_cast, ↓reduceIte, effOk, touch, refsOf, List.flatMap_cons, List.flatMap_nil])))) | ((with_reducible apply i_S); (focus rfl); (focus (first | rfl | (simp only [push_cast, ↓reduceIte, effOk, touch, refsOf, List.flatMap_cons, List.flatMap_nil])))) | ((with_reducible apply i_Vq); (focus rfl); (focus rfl)) | ((with_reducible apply i_Vp); (focus rfl); (focus rfl); (focus rfl))); (focus (simp (disch := (first | omega | (simp only [push_cast]; done) | (simp only [push_cast]; omega) | ((try simp only [push_cast]); (with_reducible first | apply sel_lt | apply sel_ge); (focus decide); (focus (simp only [push_cast]; omega))))) only [push_cast, ↓reduceIte, Nat.reduceEqDiff, Nat.reduceBEq, Nat.reduceAdd, Nat.reduceSub, Int.reduceToNat, *] <;> with_reducible exact rfl))) | ((with_reducible first | apply i_Gb | apply i_cond); (focus (simp (disch := (first | omega | (simp only [push_cast]; done) | (simp only [push_cast]; omega) | ((try simp only [push_cast]); (with_reducible first | apply sel_lt | apply sel_ge); (focus decide); (focus (simp only [push_cast]; omega))))) only [push_cast, ↓reduceIte, Nat.reduceEqDiff, Nat.reduceBEq, Nat.reduceAdd, Nat.reduceSub, Int.reduceToNat, *] <;> with_reducible exact rfl)); all_goals (intro hX; first | (cases hX; done) | ((with_reducible first | have hX0 : true = true := hX | have hX0 : false = false := hX); clear hX0 hX) | ((try simp only [decide_eq_true_eq, decide_eq_false_iff_not, Bool.not_eq_true', Bool.not_eq_false'] at hX); (try have hXb := inB_iff.1 hX)))))); all_goals try (exfalso; omega)
      refine i_drawV [27, 28] [0, 3] (by simp only [List.map_cons, List.map_nil] <;> exact rfl) (by decide +kernel) ?_
      (repeat' (first | (with_reducible first | apply i_seq | apply i_block | apply i_skip | apply i_exit | apply i_ret | apply i_kS | apply i_kSx | apply i_kSr | apply i_kL | apply i_kLx | apply i_kLr | apply i_kB | apply i_kBr | apply i_kBs | apply i_nil) | ((with_reducible apply i_region); (focus (simp only [List.map_cons, List.map_nil] <;> exact rfl))) | ((with_reducible apply i_draw); (focus (simp only [List.map_cons, List.map_nil] <;> exact rfl)); (focus (decide +kernel))) | ((with_reducible apply i_kBo); (focus rfl)) | ((first | ((with_reducible apply i_V); (focus rfl); (focus rfl); (focus rfl)) | ((with_reducible apply i_E); (focus rfl); (focus (first | rfl | (simp only [push_cast, ↓reduceIte, effOk, touch, refsOf, List.flatMap_cons, List.flatMap_nil])))) | ((with_reducible apply i_S); (focus rfl); (focus (first | rfl | (simp only [push_cast, ↓reduceIte, effOk, touch, refsOf, List.flatMap_cons, List.flatMap_nil])))) | ((with_reducible apply i_Vq); (focus rfl); (focus rfl)) | ((with_reducible apply i_Vp); (focus rfl); (focus rfl); (focus rfl))); (focus (simp (disch := (first | omega | (simp only [push_cast]; done) | (simp only [push_cast]; omega) | ((try simp only [push_cast]); (with_reducible first | apply sel_lt | apply sel_ge); (focus decide); (focus (simp only [push_cast]; omega))))) only [push_cast, ↓reduceIte, Nat.reduceEqDiff, Nat.reduceBEq, Nat.reduceAdd, Nat.reduceSub, Int.reduceToNat, *] <;> with_reducible exact rfl))) | ((with_reducible first | apply i_Gb | apply i_cond); (focus (simp (disch := (first | omega | (simp only [push_cast]; done) | (simp only [push_cast]; omega) | ((try simp only [push_cast]); (with_reducible first | apply sel_lt | apply sel_ge); (focus decide); (focus (simp only [push_cast]; omega))))) only [push_cast, ↓reduceIte, Nat.reduceEqDiff, Nat.reduceBEq, Nat.reduceAdd, Nat.reduceSub, Int.reduceToNat, *] <;> with_reducible exact rfl)); all_goals (intro hX; first | (cases hX; done) | ((with_reducible first | have hX0 : true = true := hX | have hX0 : false = false := hX); clear hX0 hX) | ((try simp only [decide_eq_true_eq, decide_eq_false_iff_not, Bool.not_eq_true', Bool.not_eq_false'] at hX); (try have hXb := inB_iff.1 hX)))))); all_goals try (exfalso; omega)
      all_goals (first | (exfalso; omega) | ((first | apply i_end | apply i_endN); simp (disch := (first | omega | (simp only [push_cast]; done) | (simp only [push_cast]; omega) | ((try simp only [push_cast]); (with_reducible first | apply sel_lt | apply sel_ge); (focus decide); (focus (simp only [push_cast]; omega))))) only [push_cast, ↓reduceIte, Nat.reduceEqDiff, Nat.reduceBEq, Nat.reduceAdd, Nat.reduceSub, Int.reduceToNat, *]) | skip)
  · have e1 : lessLen 1048576 l.length = -1 := by unfold lessLen; split <;> omega
    rw [e1] at ap1
    clear hall
    have ggle_c18 := GGlE_18; have ggle_c20 := GGlE_20; have ggle_c19 := GGlE_19; have ggle_c21 := GGlE_21; have ggle_c22 := GGlE_22; have ggle_c23 := GGlE_23; have ggle_c15 := GGlE_15; have ggle_c16 := GGlE_16; have ggle_c17 := GGlE_17
    (repeat' (first | (with_reducible first | apply i_seq | apply i_block | apply i_skip | apply i_exit | apply i_ret | apply i_kS | apply i_kSx | apply i_kSr | apply i_kL | apply i_kLx | apply i_kLr | apply i_kB | apply i_kBr | apply i_kBs | apply i_nil) | ((with_reducible apply i_region); (focus (simp only [List.map_cons, List.map_nil] <;> exact rfl))) | ((with_reducible apply i_draw); (focus (simp only [List.map_cons, List.map_nil] <;> exact rfl)); (focus (decide +kernel))) | ((with_reducible apply i_kBo); (focus rfl)) | ((first | ((with_reducible apply i_V); (focus rfl); (focus rfl); (focus rfl)) | ((with_reducible apply i_E); (focus rfl); (focus (first | rfl | (simp only [push_cast, ↓reduceIte, effOk, touch, refsOf, List.flatMap_cons, List.flatMap_nil])))) | ((with_reducible apply i_S); (focus rfl); (focus (first | rfl | (simp only [push_cast, ↓reduceIte, effOk, touch, refsOf, List.flatMap_cons, List.flatMap_nil])))) | ((with_reducible apply i_Vq); (focus rfl); (focus rfl)) | ((with_reducible apply i_Vp); (focus rfl); (focus rfl); (focus rfl))); (focus (simp (disch := (first | omega | (simp only [push_cast]; done) | (simp only [push_cast]; omega) | ((try simp only [push_cast]); (with_reducible first | apply sel_lt | apply sel_ge); (focus decide); (focus (simp only [push_cast]; omega))))) only [push_cast, ↓reduceIte, Nat.reduceEqDiff, Nat.reduceBEq, Nat.reduceAdd, Nat.reduceSub, Int.reduceToNat, *] <;> with_reducible exact rfl))) | ((with_reducible first | apply i_Gb | apply i_cond); (focus (simp (disch := (first | omega | (simp only [push_cast]; done) | (simp only [push_cast]; omega) | ((try simp only [push_cast]); (with_reducible first | apply sel_lt | apply sel_ge); (focus decide); (focus (simp only [push_cast]; omega))))) only [push_cast, ↓reduceIte, Nat.reduceEqDiff, Nat.reduceBEq, Nat.reduceAdd, Nat.reduceSub, Int.reduceToNat, *] <;> with_reducible exact rfl)); all_goals (intro hX; first | (cases hX; done) | ((with_reducible first | have hX0 : true = true := hX | have hX0 : false = false := hX); clear hX0 hX) | ((try simp only [decide_eq_true_eq, decide_eq_false_iff_not, Bool.not_eq_true', Bool.not_eq_false'] at hX); (try have hXb := inB_iff.1 hX)))))); all_goals try (exfalso; omega)
    all_goals (first | (exfalso; omega) | ((first | apply i_end | apply i_endN); simp (disch := (first | omega | (simp only [push_cast]; done) | (simp only [push_cast]; omega) | ((try simp only [push_cast]); (with_reducible first | apply sel_lt | apply sel_ge); (focus decide); (focus (simp only [push_cast]; omega))))) only [push_cast, ↓reduceIte, Nat.reduceEqDiff, Nat.reduceBEq, Nat.reduceAdd, Nat.reduceSub, Int.reduceToNat, *]) | skip)
end Go.Proofs.YtenldjifipnjpaaDoor
