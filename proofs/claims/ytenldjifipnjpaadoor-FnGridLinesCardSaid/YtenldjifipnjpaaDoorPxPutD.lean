/- Texts put into drawn grids. -/
import Derived.Test.YtenldjifipnjpaaDoorPxGridD
namespace Go.Proofs.YtenldjifipnjpaaDoor
open Go.RowKit
set_option linter.all false
abbrev PT := (Int × List Int) × Int × Int × ByteArray
abbrev EPt (x : PT) : PV := .tup [EGr x.1, .val (.int .i64 x.2.1), .val (.int .i64 x.2.2.1), .val (.string x.2.2.2)]
def okPt (x : PT) : Prop := okGr x.1 ∧ (-1 ≤ x.2.1 ∧ x.2.1 ≤ 9) ∧ (-1 ≤ x.2.2.1 ∧ x.2.2.1 ≤ 9) ∧ x.2.2.2.size ≤ 9
theorem byteNs_u8 {l : List Int} : byteNs (l.map fun n => .val (.int .u8 n)) = some l := by
  induction l with
  | nil => rfl
  | cons x l ih => simp_all [byteNs]
attribute [push_cast] byteNs_u8
def φSameG : Fun := F2 dGrid dGrid fun a b => if a = b ∧ a.2.length ≤ 1099511627776 then some (bv true) else none
theorem φSameG_ap {wd : Int} {l : List Int} (h : l.length ≤ 1099511627776) : φSameG [.agg [.val (.int .i64 wd), .lst false 1 (l.map fun n => .val (.int .u8 n))], .agg [.val (.int .i64 wd), .lst false 1 (l.map fun n => .val (.int .u8 n))]] = some (.val (.bool true)) :=
  (F2_ap (A := dGrid) (B := dGrid) (wd, l) (wd, l)).trans (if_pos ⟨rfl, h⟩)
noncomputable def GNo : Ctx := ⟨fun f => if f = 65 then some φIn else none, fun f => none⟩
theorem GNo_ok : SoundΓ Tryd.prog GNo := ⟨(fun f φ h => by
  unfold GNo at h
  dsimp only at h
  split at h
  · rename_i hf; cases h; subst hf; exact ⟨⟨_, Tryd.func65, rfl, rfl⟩, in_ok⟩
  cases h), (fun f φ h => by
  unfold GNo at h
  dsimp only at h
  cases h)⟩
theorem GNo_65 (ob : Objs) (ps : List PV) : evCall GNo ob 65 ps = (ps.mapM (reify false 0 ob fuel)).bind φIn := by
  have h : GNo.fn 65 = some φIn := by simp [GNo]
  unfold evCall
  rw [h]
  cases ps.mapM (reify false 0 ob fuel) <;> rfl
theorem sameGrid_ok : Sound Tryd.prog 26 φSameG := by
  refine sound_pq mixed GNo_ok Tryd.func26 rfl 19 rfl [.tmp 4] rfl (by kernel_rfl) fun ps r hr => ?_
  obtain ⟨⟨wd, l⟩, g2, rfl, hq⟩ := F2_some hr
  clear hr
  split at hq
  case isFalse => cases hq
  case isTrue hpre =>
  cases hq
  obtain ⟨rfl, hl⟩ := hpre
  refine ⟨by simp, ?_⟩
  simp only [dIs, dUs, dSs, dI_e, dU_e, dB_e, dS_e, dFn_e, dL_e, dA2_e, dA3_e, dA4_e, dA5_e]
  dsimp only at hl
  repeat' (first | (with_reducible first | apply i_seq | apply i_block | apply i_skip | apply i_exit | apply i_ret | apply i_kS | apply i_kSx | apply i_kSr | apply i_kL | apply i_kLx | apply i_kLr | apply i_kB | apply i_kBr | apply i_kBs | apply i_nil) | ((with_reducible apply i_region); (focus (simp only [List.map_cons, List.map_nil] <;> exact rfl))) | ((with_reducible apply i_draw); (focus (simp only [List.map_cons, List.map_nil] <;> exact rfl)); (focus (decide +kernel))) | ((with_reducible apply i_kBo); (focus rfl)) | ((first | ((with_reducible apply i_V); (focus rfl); (focus rfl); (focus rfl)) | ((with_reducible apply i_E); (focus rfl); (focus (first | rfl | (simp only [push_cast, ↓reduceIte, effOk, touch, refsOf, List.flatMap_cons, List.flatMap_nil])))) | ((with_reducible apply i_S); (focus rfl); (focus (first | rfl | (simp only [push_cast, ↓reduceIte, effOk, touch, refsOf, List.flatMap_cons, List.flatMap_nil])))) | ((with_reducible apply i_Vq); (focus rfl); (focus rfl)) | ((with_reducible apply i_Vp); (focus rfl); (focus rfl); (focus rfl))); (focus (simp (disch := (first | omega | (simp only [push_cast]; done) | (simp only [push_cast]; omega) | ((try simp only [push_cast]); (with_reducible first | apply sel_lt | apply sel_ge); (focus decide); (focus (simp only [push_cast]; omega))))) only [push_cast, ↓reduceIte, Nat.reduceEqDiff, Nat.reduceBEq, Nat.reduceAdd, Nat.reduceSub, Int.reduceToNat, *] <;> with_reducible exact rfl))) | ((with_reducible first | apply i_Gb | apply i_cond); (focus (simp (disch := (first | omega | (simp only [push_cast]; done) | (simp only [push_cast]; omega) | ((try simp only [push_cast]); (with_reducible first | apply sel_lt | apply sel_ge); (focus decide); (focus (simp only [push_cast]; omega))))) only [push_cast, ↓reduceIte, Nat.reduceEqDiff, Nat.reduceBEq, Nat.reduceAdd, Nat.reduceSub, Int.reduceToNat, *] <;> with_reducible exact rfl)); all_goals (intro hX; first | (cases hX; done) | ((with_reducible first | have hX0 : true = true := hX | have hX0 : false = false := hX); clear hX0 hX) | ((try simp only [decide_eq_true_eq, decide_eq_false_iff_not, Bool.not_eq_true', Bool.not_eq_false'] at hX); (try have hXb := inB_iff.1 hX)))))
  all_goals (first | (exfalso; omega) | ((first | apply i_end | apply i_endN); simp (disch := (first | omega | (simp only [push_cast]; done) | (simp only [push_cast]; omega) | ((try simp only [push_cast]); (with_reducible first | apply sel_lt | apply sel_ge); (focus decide); (focus (simp only [push_cast]; omega))))) only [push_cast, ↓reduceIte, Nat.reduceEqDiff, Nat.reduceBEq, Nat.reduceAdd, Nat.reduceSub, Int.reduceToNat, *]) | skip)
def φSameGn : Fun := nilG 1 φSameG
theorem φSameGn_ap {wd : Int} {l : List Int} (h : l.length ≤ 1099511627776) : φSameGn [.agg [.val (.int .i64 wd), .lst false 1 (l.map fun n => .val (.int .u8 n))], .agg [.val (.int .i64 wd), .lst false 1 (l.map fun n => .val (.int .u8 n))]] = some (.val (.bool true)) := φSameG_ap h
theorem φSameGn_nil : φSameGn [.agg [.val (.int .i64 0), .val (.slice none 0 0)], .agg [.val (.int .i64 0), .val (.slice none 0 0)]] = some (.val (.bool true)) := φSameG_ap (wd := 0) (l := []) (by simp)
theorem putL_at {wd col row : Int} {l : List Int} {s : ByteArray} {k : Nat} (h : (row * wd + col).toNat + s.size ≤ l.length) : (putL wd l col row s)[k]?.getD 0 = if (row * wd + col).toNat ≤ k ∧ k < (row * wd + col).toNat + s.size then at8 s (k - (row * wd + col).toNat) else l[k]?.getD 0 := by
  unfold putL
  generalize (row * wd + col).toNat = a at *
  have hs := strI_length s
  have ht : (l.take a).length = a := by simp; omega
  split
  · rename_i hk
    rw [List.append_assoc, List.getElem?_append_right (by omega), List.getElem?_append_left (by omega), ht, strI_at]
  · rename_i hk
    rcases Nat.lt_or_ge k a with h1 | h1
    · rw [List.append_assoc, List.getElem?_append_left (by omega), List.getElem?_take_of_lt h1]
    · rw [List.getElem?_append_right (by simp; omega), List.getElem?_drop]
      congr 2
      simp
      omega
theorem putR_grid {wd col row : Int} {l : List Int} {s : ByteArray} (hG : gridB wd l = true) (hp : prB s = true) (hlen : (putL wd l col row s).length = l.length) : gridB wd (putL wd l col row s) = true := by
  unfold gridB at hG ⊢
  rw [hlen]
  simp only [Bool.and_eq_true, Bool.not_eq_true', List.any_eq_false] at hG ⊢
  refine ⟨hG.1, fun x hx => ?_⟩
  unfold putL at hx
  rcases List.mem_append.1 hx with hx | hx
  · rcases List.mem_append.1 hx with hx | hx
    · exact hG.2 x (List.mem_of_mem_take hx)
    · obtain ⟨j, hj, rfl⟩ := List.mem_iff_getElem.1 hx
      have := strI_at s j
      rw [List.getElem?_eq_getElem hj, Option.getD_some] at this
      rw [this]
      have hh := List.all_eq_true.1 hp j (List.mem_range.2 (by rw [strI_length] at hj; exact hj))
      rw [hh]
      decide
  · exact hG.2 x (List.mem_of_mem_drop hx)
theorem gridB_okU {wd : Int} {l : List Int} (h : gridB wd l = true) : okU l := by
  obtain ⟨_, _, _, _, _, h36, hpr⟩ := gridB_facts h
  refine ⟨by omega, List.all_eq_true.2 fun x hx => inB_iff.2 ?_⟩
  have := List.any_eq_false.1 hpr x hx
  have h2 := inB_iff.1 (by simpa using this : inB x 32 126 = true)
  omega
theorem putN_ap0 {wd col row : Int} {l : List Int} {s : ByteArray} (h : okPut l s) (hG : gridB wd l = false) : pureN ΨPut [.agg [.val (.int .i64 wd), .lst false 1 (l.map fun n => .val (.int .u8 n))], .val (.int .i64 col), .val (.int .i64 row), .val (.string s)] = some (.tup [.agg [.val (.int .i64 0), .val (.slice none 0 0)], .val (.bool false)]) :=
  pureN_of (cs0 := []) (r := .tup [.agg [.val (.int .i64 0), .val (.slice none 0 0)], .val (.bool false)]) ((ΨPut_ap h).trans (by unfold putZ; rw [hG]; rfl)) rfl
theorem putN_ap {wd col row : Int} {l : List Int} {s : ByteArray} (h : okPut l s) (hG : gridB wd l = true) : pureN ΨPut [.agg [.val (.int .i64 wd), .lst false 1 (l.map fun n => .val (.int .u8 n))], .val (.int .i64 col), .val (.int .i64 row), .val (.string s)] = some (.tup [.agg [.val (.int .i64 wd), .lst true 1 ((putR wd l col row s).map fun n => .val (.int .u8 n))], .val (.bool (putPre wd l col row s && prB s))]) := by
  refine pureN_of ((ΨPut_ap h).trans (by unfold putZ; rw [if_pos hG])) ?_
  rw [ls_one]
  have hl := putR_length (col := col) (row := row) (s := s) hG
  rw [← hl]
  simp (disch := (first | omega | (simp only [push_cast]; done) | (simp only [push_cast]; omega) | ((try simp only [push_cast]); (with_reducible first | apply sel_lt | apply sel_ge); (focus decide); (focus (simp only [push_cast]; omega))))) only [push_cast, ↓reduceIte, Nat.reduceEqDiff, Nat.reduceBEq, Nat.reduceAdd, Nat.reduceSub, Int.reduceToNat]
end Go.Proofs.YtenldjifipnjpaaDoor
