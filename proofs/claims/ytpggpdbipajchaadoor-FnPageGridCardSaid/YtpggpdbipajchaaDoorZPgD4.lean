/- What the proof rests on, part 4: contracts of functions. No condition beyond what each states. -/
import Derived.Test.YtpggpdbipajchaaDoorZPgD3
namespace Go.Proofs.YtpggpdbipajchaaDoor
open Go.RowKit
set_option linter.all false
theorem map_app' {α β : Type} {f : α → β} {l l' : List α} : l.map f ++ l'.map f = (l ++ l').map f := List.map_append.symm
theorem min_l {a b : Nat} (h : a ≤ b) : min a b = a := Nat.min_eq_left h
attribute [push_cast]
  map_app' min_l List.take_length
def ΨClone : FunN := G1 dUs fun l => if 0 < l.length ∧ l.length ≤ 1099511627776 then some (.row 0 1 0 l.length, [(5, 1, l.map fun n => .val (.int .u8 n))]) else none
theorem ΨClone_ap {l : List Int} (h : 0 < l.length) (h2 : l.length ≤ 1099511627776) : ΨClone [.lst false 1 (l.map fun n => .val (.int .u8 n))] = some (.row 0 1 0 l.length, [(5, 1, l.map fun n => .val (.int .u8 n))]) :=
  (G1_ap (A := dUs) l).trans (if_pos ⟨h, h2⟩)
theorem int_cells {g : Gh} {w : World} {b off : Nat} {k : IntKind} {l : List Int} (h : RepEs g w 1 (l.map fun n => PV.val (.int k n)) b off) : ∀ j : Nat, j < l.length → w.cell? ⟨b, off + j, none⟩ = some (.int k (l.getD j 0)) := fun j hj => by
  obtain ⟨u, h1, h2, _⟩ := h.get (i := j) (e := .val (.int k (l.getD j 0))) (by simp [hj])
  simp only [Rep] at h1
  subst h1
  have := h2.2 0 (by simp [Value.cells])
  simpa [Value.cells] using this
theorem own_obj {J : Bool → Nat → Prop} {w w' : World} {e n : Nat} {v : Value} {l : List Int} {k : IntKind} (hn : 0 < n) (hl : l.length = n) (hJ : ∀ k b, J k b → b < w.heap.size) (h : w'.ownsRow w.heap.size e 1 v n (l.map (Value.int k))) :
    ∃ b κ, w.heap.size ≤ b ∧ ObjsIO (addN J fun _ => False) w' (fun _ => b) (fun _ => κ) [(e, 1, l.map fun n => .val (.int k n))] ∧ Rep (ghIO (addN J fun _ => False) (fun _ => b) (fun _ => κ) 1) w' (.row 0 1 0 n) v := by
  obtain ⟨h0, h1⟩ := h
  rcases h1 with ⟨rfl, h1⟩ | ⟨b, cap, cur, rfl, h2, h3, h4, h5, h6, h7⟩
  · omega
  · rw [Nat.mul_one] at h6 h7
    refine ⟨b, cur.size, h2, ⟨fun o ho => ⟨lt_of_heap h3, fun k hk => ?_⟩, fun o o' ho ho' _ => by simp at ho ho'; omega, fun o cc hc => ?_⟩, ?_⟩
    · rcases hk with hk | ⟨_, hk⟩
      · have := hJ k _ hk
        omega
      · exact hk
    · have ho : o = 0 := by have := (List.getElem?_eq_some_iff.1 hc).1; simp at this; exact this
      subst ho
      simp only [List.getElem?_cons_zero, Option.some.injEq] at hc
      subst hc
      refine ⟨⟨cur, h3, rfl⟩, by simp [ghIO]; omega, ?_⟩
      refine RepEs.of fun i x hx => ?_
      rw [List.getElem?_map, Option.map_eq_some_iff] at hx
      obtain ⟨y, hy, rfl⟩ := hx
      refine ⟨.int k y, by simp [Rep], ⟨by simp [Value.cells, Value.oneCell'], fun j hj => ?_⟩, rfl⟩
      have hj0 : j = 0 := by simp [Value.cells] at hj; exact hj
      subst hj0
      have e1 : cur.toList[i]? = some (.int k y) := by
        have hi : i < n := by have := (List.getElem?_eq_some_iff.1 hy).1; omega
        have e2 : (cur.toList.take n)[i]? = some (.int k y) := by rw [h7]; simp [hy]
        rw [List.getElem?_take, if_pos hi] at e2
        exact e2
      simp only [World.cell?, ghIO, h3, Nat.zero_add, Nat.mul_one, Nat.add_zero]
      simpa [Value.cells] using e1
    · simp only [Rep, ghIO]
      exact ⟨cap, by simp, h4, by simp only [maxLen] at h5; omega, by omega, ⟨by simp, fun q => q⟩⟩
theorem cloneN : SoundN Tryd.prog 110 ΨClone := by
  intro w J β κ ps cs args r cs' hr hJ hO _ hargs
  dsimp only at hr
  split at hr
  case isFalse => cases hr
  case isTrue hcs =>
  subst hcs
  obtain ⟨l, rfl, hq⟩ := G1_some hr
  split at hq
  case isFalse => cases hq
  case isTrue hok =>
  cases hq
  have hargs := hargs
  simp only [RepL] at hargs
  obtain ⟨v1, vs1, e1, h1, rfl⟩ := hargs
  obtain rfl : args = #[v1] := by
    obtain ⟨a⟩ := args
    simp only at e1
    rw [e1]
  simp only [dUs, dL, dU, Rep] at h1
  obtain ⟨a, cap, rfl, k1, k2, k3⟩ := h1
  rcases k3 with k3 | ⟨b, off, rfl, k4, k5⟩
  · have : l = [] := by simpa using k3
    subst this
    simp at hok
  · simp only [List.length_map] at k1 ⊢
    refine (YtpggpdbipajchaaDoor.bytes_Clone_at ⟨b, off, none⟩ l.length cap l w rfl (by omega) (fun i hi => by rw [Addr.add_mid]; exact int_cells k5 i hi)).mono ?_
    rintro e w' ⟨v', rfl, hown, _, hb⟩
    obtain ⟨b', κ', h2, h3, h4⟩ := own_obj hok.1 rfl hJ hown
    exact ⟨v', fun _ => b', fun _ => κ', fun _ => False, rfl, ⟨hb.os, hb.tape, hb.output, hb.size, fun k hk _ => hb.block k hk⟩, by simp, fun o ho => by simp at ho, fun o _ _ => h2, fun b hb => hb.elim, h3, h4⟩
theorem clone_lift {l : List Int} (h : 0 < l.length) (h2 : l.length ≤ 1099511627776) : liftN ΨClone [.lst false 1 (l.map fun n => .val (.int .u8 n))] [] = some (.row 0 1 0 l.length, [(5, 1, l.map fun n => .val (.int .u8 n))]) := by
  refine (liftN_of (cs := []) (by rw [mapM_cons', mapM_nil', reify_fuel]; exact (congrArg (fun x => Option.bind x _) reifyS_vals).trans rfl) (ΨClone_ap h h2) rfl (by rw [mapM_cons', mapM_nil', renCT_vals]; rfl)).trans ?_
  rfl
def ΨGClone : FunN := G1 dGrid fun g => if 0 < g.2.length ∧ g.2.length ≤ 1099511627776 then some (.agg [.val (.int .i64 g.1), .row 0 1 0 g.2.length], [(5, 1, g.2.map fun n => .val (.int .u8 n))]) else none
theorem ΨGClone_ap {wd : Int} {l : List Int} (h : 0 < l.length) (h2 : l.length ≤ 1099511627776) : ΨGClone [.agg [.val (.int .i64 wd), .lst false 1 (l.map fun n => .val (.int .u8 n))]] = some (.agg [.val (.int .i64 wd), .row 0 1 0 l.length], [(5, 1, l.map fun n => .val (.int .u8 n))]) :=
  (G1_ap (A := dGrid) (wd, l)).trans (if_pos ⟨h, h2⟩)
noncomputable def GCl : Ctx := ⟨fun f => none, fun f => if f = 110 then some (liftN ΨClone) else none⟩
theorem GCl_ok : SoundΓ Tryd.prog GCl := ⟨(fun f φ h => by
  unfold GCl at h
  dsimp only at h
  cases h), (fun f φ h => by
  unfold GCl at h
  dsimp only at h
  split at h
  · rename_i hf; cases h; subst hf; exact ⟨⟨_, Tryd.func110, rfl, rfl⟩, cloneN.lift⟩
  cases h)⟩
theorem GCl_110 : GCl.io 110 = some (liftN ΨClone) := by simp [GCl]
theorem gCloneN : SoundN Tryd.prog 88 ΨGClone := by
  refine sound_pqN mixed GCl_ok Tryd.func88 rfl 9 rfl [.cell 2 26] rfl (by kernel_rfl) fun ps r cs' hr => ?_
  obtain ⟨⟨wd, l⟩, rfl, hq⟩ := G1_some hr
  clear hr
  split at hq
  case isFalse => cases hq
  case isTrue hpre =>
  cases hq
  refine ⟨by simp, ?_⟩
  simp only [dIs, dUs, dSs, dI_e, dU_e, dB_e, dS_e, dFn_e, dL_e, dA2_e, dA3_e, dA4_e, dA5_e]
  dsimp only at hpre
  have ap := clone_lift hpre.1 hpre.2
  have gcl_c110 := GCl_110
  repeat' (first | (with_reducible first | apply i_seq | apply i_block | apply i_skip | apply i_exit | apply i_ret | apply i_kS | apply i_kSx | apply i_kSr | apply i_kL | apply i_kLx | apply i_kLr | apply i_kB | apply i_kBr | apply i_kBs | apply i_nil) | ((with_reducible apply i_region); (focus (simp only [List.map_cons, List.map_nil] <;> exact rfl))) | ((with_reducible apply i_draw); (focus (simp only [List.map_cons, List.map_nil] <;> exact rfl)); (focus (decide +kernel))) | ((with_reducible apply i_kBo); (focus rfl)) | ((first | ((with_reducible apply i_V); (focus rfl); (focus rfl); (focus rfl)) | ((with_reducible apply i_E); (focus rfl); (focus (first | rfl | (simp only [push_cast, ↓reduceIte, effOk, touch, refsOf, List.flatMap_cons, List.flatMap_nil])))) | ((with_reducible apply i_S); (focus rfl); (focus (first | rfl | (simp only [push_cast, ↓reduceIte, effOk, touch, refsOf, List.flatMap_cons, List.flatMap_nil])))) | ((with_reducible apply i_Vq); (focus rfl); (focus rfl)) | ((with_reducible apply i_Vp); (focus rfl); (focus rfl); (focus rfl)) | (with_reducible first | apply i_Gb | apply i_cond)); (focus (simp (disch := (first | omega | (simp only [push_cast]; done) | (simp only [push_cast]; omega) | ((try simp only [push_cast]); (with_reducible first | apply sel_lt | apply sel_ge); (focus decide); (focus (simp only [push_cast]; omega))))) only [push_cast, ↓reduceIte, Nat.reduceEqDiff, Nat.reduceBEq, Nat.reduceAdd, Nat.reduceSub, Int.reduceToNat, *] <;> with_reducible exact rfl)); all_goals try (intro hX; first | (cases hX; done) | ((with_reducible first | have hX0 : true = true := hX | have hX0 : false = false := hX); clear hX0 hX) | ((try simp only [decide_eq_true_eq, decide_eq_false_iff_not, Bool.not_eq_true', Bool.not_eq_false'] at hX); (try have hXb := inB_iff.1 hX)))))
  refine i_drawV [4, 6] [0] (by simp only [List.map_cons, List.map_nil] <;> exact rfl) (by decide +kernel) ?_
  repeat' (first | (with_reducible first | apply i_seq | apply i_block | apply i_skip | apply i_exit | apply i_ret | apply i_kS | apply i_kSx | apply i_kSr | apply i_kL | apply i_kLx | apply i_kLr | apply i_kB | apply i_kBr | apply i_kBs | apply i_nil) | ((with_reducible apply i_region); (focus (simp only [List.map_cons, List.map_nil] <;> exact rfl))) | ((with_reducible apply i_draw); (focus (simp only [List.map_cons, List.map_nil] <;> exact rfl)); (focus (decide +kernel))) | ((with_reducible apply i_kBo); (focus rfl)) | ((first | ((with_reducible apply i_V); (focus rfl); (focus rfl); (focus rfl)) | ((with_reducible apply i_E); (focus rfl); (focus (first | rfl | (simp only [push_cast, ↓reduceIte, effOk, touch, refsOf, List.flatMap_cons, List.flatMap_nil])))) | ((with_reducible apply i_S); (focus rfl); (focus (first | rfl | (simp only [push_cast, ↓reduceIte, effOk, touch, refsOf, List.flatMap_cons, List.flatMap_nil])))) | ((with_reducible apply i_Vq); (focus rfl); (focus rfl)) | ((with_reducible apply i_Vp); (focus rfl); (focus rfl); (focus rfl)) | (with_reducible first | apply i_Gb | apply i_cond)); (focus (simp (disch := (first | omega | (simp only [push_cast]; done) | (simp only [push_cast]; omega) | ((try simp only [push_cast]); (with_reducible first | apply sel_lt | apply sel_ge); (focus decide); (focus (simp only [push_cast]; omega))))) only [push_cast, ↓reduceIte, Nat.reduceEqDiff, Nat.reduceBEq, Nat.reduceAdd, Nat.reduceSub, Int.reduceToNat, *] <;> with_reducible exact rfl)); all_goals try (intro hX; first | (cases hX; done) | ((with_reducible first | have hX0 : true = true := hX | have hX0 : false = false := hX); clear hX0 hX) | ((try simp only [decide_eq_true_eq, decide_eq_false_iff_not, Bool.not_eq_true', Bool.not_eq_false'] at hX); (try have hXb := inB_iff.1 hX)))))
  ((with_reducible apply i_endN1 (2) (by first | exact .inl rfl | exact .inr rfl)); (focus (simp (disch := (first | omega | (simp only [push_cast]; done) | (simp only [push_cast]; omega) | ((try simp only [push_cast]); (with_reducible first | apply sel_lt | apply sel_ge); (focus decide); (focus (simp only [push_cast]; omega))))) only [push_cast, ↓reduceIte, Nat.reduceEqDiff, Nat.reduceBEq, Nat.reduceAdd, Nat.reduceSub, Int.reduceToNat, *] <;> with_reducible exact rfl)); (focus (simp (disch := (first | omega | (simp only [push_cast]; done) | (simp only [push_cast]; omega) | ((try simp only [push_cast]); (with_reducible first | apply sel_lt | apply sel_ge); (focus decide); (focus (simp only [push_cast]; omega))))) only [push_cast, ↓reduceIte, Nat.reduceEqDiff, Nat.reduceBEq, Nat.reduceAdd, Nat.reduceSub, Int.reduceToNat, *] <;> with_reducible exact rfl)))
def prB (s : ByteArray) : Bool := (List.range s.size).all fun i => inB (at8 s i) 32 126
theorem prB_no {s : ByteArray} {k : Nat} (h : k < s.size) (hb : inB (at8 s k) 32 126 = false) : prB s = false := by
  rw [Bool.eq_false_iff]
  intro hp
  have := List.all_eq_true.1 hp k (List.mem_range.2 h)
  rw [hb] at this
  cases this
theorem prB_yes {s : ByteArray} (h : ∀ j, j < s.size → inB (at8 s j) 32 126 = true) : prB s = true := List.all_eq_true.2 fun j hj => h j (List.mem_range.1 hj)
def putPre (wd : Int) (l : List Int) (col row : Int) (s : ByteArray) : Bool := inB col 0 wd && (inB row 0 ((l.length : Int) / wd - 1) && decide ((s.size : Int) ≤ wd - col))
def putL (wd : Int) (l : List Int) (col row : Int) (s : ByteArray) : List Int := l.take (row * wd + col).toNat ++ strI s ++ l.drop ((row * wd + col).toNat + s.size)
theorem strI_take {s : ByteArray} : (strI s).take s.size = strI s := List.take_of_length_le (by rw [strI_length]; exact Nat.le_refl _)
attribute [push_cast]
  strI_take
theorem putL_nil {wd : Int} {l : List Int} {col row : Int} {s : ByteArray} (h : s.size = 0) : putL wd l col row s = l := by
  have e : strI s = [] := List.eq_nil_of_length_eq_zero (by rw [strI_length]; exact h)
  unfold putL
  rw [e, h, List.append_nil, Nat.add_zero, List.take_append_drop]
def putM (l : List Int) (a : Nat) (s : ByteArray) (j : Nat) : List Int := l.take a ++ (strI s).take j ++ l.drop (a + j)
theorem putM_zero {l : List Int} {a : Nat} {s : ByteArray} : putM l a s 0 = l := by simp [putM]
theorem putM_length {l : List Int} {a : Nat} {s : ByteArray} {j : Nat} (h : a + j ≤ l.length) (hj : j ≤ s.size) : (putM l a s j).length = l.length := by
  have := strI_length s
  simp [putM]
  omega
theorem strI_at (s : ByteArray) (j : Nat) : (strI s)[j]?.getD 0 = at8 s j := by
  unfold strI at8
  by_cases h : j < s.size
  · have h1 : j < s.data.toList.length := by rw [Array.length_toList]; exact h
    rw [getElem?_pos s j h, List.getElem?_map, List.getElem?_eq_getElem h1]
    rfl
  · rw [getElem?_neg s j h, List.getElem?_map, List.getElem?_eq_none (by rw [Array.length_toList]; exact Nat.le_of_not_lt h)]
    rfl
theorem putM_set {l : List Int} {a : Nat} {s : ByteArray} {j : Nat} (h : a + j < l.length) (hj : j < s.size) : (putM l a s j).set (a + j) (at8 s j) = putM l a s (j + 1) := by
  have hl := strI_length s
  have e1 : ((l.take a ++ (strI s).take j)).length = a + j := by simp; omega
  have e2 : l.drop (a + j) = l[a + j] :: l.drop (a + j + 1) := List.drop_eq_getElem_cons h
  have e3 : (strI s)[j]?.getD 0 = (strI s)[j] := by rw [List.getElem?_eq_getElem (by omega)]; rfl
  unfold putM
  rw [List.set_append_right _ _ (by omega), e1, Nat.sub_self, e2, List.set_cons_zero, ← strI_at, e3]
  have e4 : (strI s).take (j + 1) = (strI s).take j ++ [(strI s)[j]] := by
    rw [List.take_add_one, List.getElem?_eq_getElem (show j < (strI s).length by omega)]
    rfl
  rw [e4]
  simp only [List.append_assoc, List.cons_append, List.nil_append, Nat.add_assoc]
theorem putM_full {wd : Int} {l : List Int} {col row : Int} {s : ByteArray} : putM l (row * wd + col).toNat s s.size = putL wd l col row s := by
  unfold putM putL
  rw [strI_take]
def putR (wd : Int) (l : List Int) (col row : Int) (s : ByteArray) : List Int := if putPre wd l col row s && prB s then putL wd l col row s else l
def putZ (wd : Int) (l : List Int) (col row : Int) (s : ByteArray) : PV × List CellIO :=
  if gridB wd l = true then (.tup [.agg [.val (.int .i64 wd), .row 0 1 0 l.length], .val (.bool (putPre wd l col row s && prB s))], [(5, 1, (putR wd l col row s).map fun n => .val (.int .u8 n))])
  else (.tup [.agg [.val (.int .i64 0), .val (.slice none 0 0)], .val (.bool false)], [])
theorem gridB_facts {wd : Int} {l : List Int} (h : gridB wd l = true) : (1 ≤ wd ∧ wd ≤ 60) ∧ (l.length : Int) % wd = 0 ∧ (1 ≤ (l.length : Int) / wd ∧ (l.length : Int) / wd ≤ 60) ∧ (l.length : Int) = (l.length : Int) / wd * wd ∧ 0 < l.length ∧ l.length ≤ 3600 ∧ (l.any fun n => !inB n 32 126) = false := by
  unfold gridB at h
  simp only [Bool.and_eq_true, decide_eq_true_eq, Bool.not_eq_true'] at h
  obtain ⟨⟨⟨h1, h2⟩, h3⟩, h4⟩ := h
  have b1 := inB_iff.1 h1
  have b3 := inB_iff.1 h3
  have e : (l.length : Int) = (l.length : Int) / wd * wd := by
    have := Int.mul_ediv_add_emod (l.length : Int) wd
    rw [h2, Int.mul_comm] at this
    omega
  have k1 : 1 * 1 ≤ (l.length : Int) / wd * wd := Int.mul_le_mul b3.1 b1.1 (by omega) (by omega)
  have k2 : (l.length : Int) / wd * wd ≤ 60 * 60 := Int.mul_le_mul b3.2 b1.2 (by omega) (by omega)
  exact ⟨b1, h2, b3, e, by omega, by omega, h4⟩
theorem row_fit {wd row n : Int} (h0 : 0 ≤ row) (h1 : row ≤ n / wd - 1) (hw : 1 ≤ wd) (he : n = n / wd * wd) : 0 ≤ row * wd ∧ row * wd + wd ≤ n := by
  refine ⟨Int.mul_nonneg h0 (by omega), ?_⟩
  have : (row + 1) * wd ≤ n / wd * wd := Int.mul_le_mul_of_nonneg_right (by omega) (by omega)
  rw [Int.add_mul] at this
  omega
abbrev okPut (l : List Int) (s : ByteArray) : Prop := okU l ∧ s.size ≤ 1099511627776
def ΨPut : FunN := G4 dGrid dI dI dS fun g col row s => if okPut g.2 s then some (putZ g.1 g.2 col row s) else none
theorem ΨPut_ap {wd col row : Int} {l : List Int} {s : ByteArray} (h : okPut l s) : ΨPut [.agg [.val (.int .i64 wd), .lst false 1 (l.map fun n => .val (.int .u8 n))], .val (.int .i64 col), .val (.int .i64 row), .val (.string s)] = some (putZ wd l col row s) :=
  (G4_ap (A := dGrid) (B := dI) (C := dI) (D := dS) (wd, l) col row s).trans (if_pos h)
theorem gclone_lift {wd : Int} {l : List Int} (h : 0 < l.length) (h2 : l.length ≤ 1099511627776) : liftN ΨGClone [.agg [.val (.int .i64 wd), .lst false 1 (l.map fun n => .val (.int .u8 n))]] [] = some (.agg [.val (.int .i64 wd), .row 0 1 0 l.length], [(5, 1, l.map fun n => .val (.int .u8 n))]) := by
  refine (liftN_of (cs := []) (qs := [.agg [.val (.int .i64 wd), .lst false 1 (l.map fun n => .val (.int .u8 n))]]) (by simp only [push_cast, ↓reduceIte, Nat.reduceEqDiff, Nat.reduceBEq, Nat.reduceAdd, Nat.reduceSub, Int.reduceToNat]) (ΨGClone_ap h h2) rfl (by rw [mapM_cons', mapM_nil', renCT_vals]; rfl)).trans ?_
  rfl
theorem io_ag {Φ : FunIO} {ob : Objs} {nx : Nat} {u : Value} {k : Bool} {sz : Nat} {α : Type} {g : α → Value} {l : List α} : ioEv Φ ob nx [.agg [.val u, .lst k sz (l.map fun x => PV.val (g x))]] = ioR [] ob nx (Φ [.agg [.val u, .lst k sz (l.map fun x => PV.val (g x))]] []) :=
  ioNo_of rfl (by simp only [mapM_cons', mapM_nil', renS_fuel, renS_agg, renS_val, renS_vals]; rfl)
attribute [push_cast]
  io_ag
noncomputable def GPut : Ctx := ⟨fun f => if f = 24 then some φGridValid else if f = 86 then some φIn else if f = 66 then some φPrinted else none, fun f => if f = 88 then some (liftN ΨGClone) else none⟩
theorem GPut_ok : SoundΓ Tryd.prog GPut := ⟨(fun f φ h => by
  unfold GPut at h
  dsimp only at h
  split at h
  · rename_i hf; cases h; subst hf; exact ⟨⟨_, Tryd.func24, rfl, rfl⟩, implGridValid_ok⟩
  split at h
  · rename_i hf; cases h; subst hf; exact ⟨⟨_, Tryd.func86, rfl, rfl⟩, in_ok⟩
  split at h
  · rename_i hf; cases h; subst hf; exact ⟨⟨_, Tryd.func66, rfl, rfl⟩, isPrinted_ok⟩
  cases h), (fun f φ h => by
  unfold GPut at h
  dsimp only at h
  split at h
  · rename_i hf; cases h; subst hf; exact ⟨⟨_, Tryd.func88, rfl, rfl⟩, gCloneN.lift⟩
  cases h)⟩
theorem GPut_24 (ob : Objs) (ps : List PV) : evCall GPut ob 24 ps = (ps.mapM (reify false 0 ob fuel)).bind φGridValid := by
  have h : GPut.fn 24 = some φGridValid := by simp [GPut]
  unfold evCall
  rw [h]
  cases ps.mapM (reify false 0 ob fuel) <;> rfl
theorem GPut_86 (ob : Objs) (ps : List PV) : evCall GPut ob 86 ps = (ps.mapM (reify false 0 ob fuel)).bind φIn := by
  have h : GPut.fn 86 = some φIn := by simp [GPut]
  unfold evCall
  rw [h]
  cases ps.mapM (reify false 0 ob fuel) <;> rfl
theorem GPut_66 (ob : Objs) (ps : List PV) : evCall GPut ob 66 ps = (ps.mapM (reify false 0 ob fuel)).bind φPrinted := by
  have h : GPut.fn 66 = some φPrinted := by simp [GPut]
  unfold evCall
  rw [h]
  cases ps.mapM (reify false 0 ob fuel) <;> rfl
theorem GPut_88 : GPut.io 88 = some (liftN ΨGClone) := by simp [GPut]
set_option maxHeartbeats 16000000 in
theorem implPutN : SoundN Tryd.prog 54 ΨPut := by
  refine sound_pqN mixed GPut_ok Tryd.func54 rfl 69 rfl [.cell 8 26, .tmp 9] rfl (by kernel_rfl) fun ps r cs' hr => ?_
  obtain ⟨⟨wd, l⟩, col, row, s, rfl, hq⟩ := G4_some hr
  clear hr
  split at hq
  case isFalse => cases hq
  case isTrue hpre =>
  have hz : putZ wd l col row s = (r, cs') := by simpa using hq
  clear hq
  refine ⟨by simp, ?_⟩
  simp only [dIs, dUs, dSs, dI_e, dU_e, dB_e, dS_e, dFn_e, dL_e, dA2_e, dA3_e, dA4_e, dA5_e]
  dsimp only at hpre
  have ap1 := φGridValid_ap (wd := wd) hpre.1
  have hsz := hpre.2
  have ap3 := φIn_ap
  have ap4 := φPrinted_ap
  unfold putZ at hz
  cases hG : gridB wd l with
  | false =>
    rw [hG, if_neg (by simp)] at hz
    cases hz
    rw [hG] at ap1
    have gput_c24 := GPut_24; have gput_c88 := GPut_88; have gput_c86 := GPut_86; have gput_c66 := GPut_66
    (repeat' (first | (with_reducible first | apply i_seq | apply i_block | apply i_skip | apply i_exit | apply i_ret | apply i_kS | apply i_kSx | apply i_kSr | apply i_kL | apply i_kLx | apply i_kLr | apply i_kB | apply i_kBr | apply i_kBs | apply i_nil) | ((with_reducible apply i_region); (focus (simp only [List.map_cons, List.map_nil] <;> exact rfl))) | ((with_reducible apply i_draw); (focus (simp only [List.map_cons, List.map_nil] <;> exact rfl)); (focus (decide +kernel))) | ((with_reducible apply i_kBo); (focus rfl)) | ((first | ((with_reducible apply i_V); (focus rfl); (focus rfl); (focus rfl)) | ((with_reducible apply i_E); (focus rfl); (focus (first | rfl | (simp only [push_cast, ↓reduceIte, effOk, touch, refsOf, List.flatMap_cons, List.flatMap_nil])))) | ((with_reducible apply i_S); (focus rfl); (focus (first | rfl | (simp only [push_cast, ↓reduceIte, effOk, touch, refsOf, List.flatMap_cons, List.flatMap_nil])))) | ((with_reducible apply i_Vq); (focus rfl); (focus rfl)) | ((with_reducible apply i_Vp); (focus rfl); (focus rfl); (focus rfl)) | (with_reducible first | apply i_Gb | apply i_cond)); (focus (simp (disch := (first | omega | (simp only [push_cast]; done) | (simp only [push_cast]; omega) | ((try simp only [push_cast]); (with_reducible first | apply sel_lt | apply sel_ge); (focus decide); (focus (simp only [push_cast]; omega))))) only [push_cast, ↓reduceIte, Nat.reduceEqDiff, Nat.reduceBEq, Nat.reduceAdd, Nat.reduceSub, Int.reduceToNat, *] <;> with_reducible exact rfl)); all_goals try (intro hX; first | (cases hX; done) | ((with_reducible first | have hX0 : true = true := hX | have hX0 : false = false := hX); clear hX0 hX) | ((try simp only [decide_eq_true_eq, decide_eq_false_iff_not, Bool.not_eq_true', Bool.not_eq_false'] at hX); (try have hXb := inB_iff.1 hX)))))); all_goals try (exfalso; omega)
    all_goals (((with_reducible apply i_endN0 (by first | exact .inl rfl | exact .inr rfl)); (focus (simp (disch := (first | omega | (simp only [push_cast]; done) | (simp only [push_cast]; omega) | ((try simp only [push_cast]); (with_reducible first | apply sel_lt | apply sel_ge); (focus decide); (focus (simp only [push_cast]; omega))))) only [push_cast, ↓reduceIte, Nat.reduceEqDiff, Nat.reduceBEq, Nat.reduceAdd, Nat.reduceSub, Int.reduceToNat, *] <;> with_reducible exact rfl))))
  | true =>
    obtain ⟨hw, hmod, hdiv, he, h0, h36, hpr⟩ := gridB_facts hG
    have ap2 := gclone_lift (wd := wd) h0 (by omega)
    rw [hG] at ap1
    rw [hG, if_pos rfl] at hz
    cases hz
    clear hG hpr hpre hmod
    unfold putR
    cases hP : putPre wd l col row s with
    | false =>
      simp only [Bool.false_and, Bool.false_eq_true, if_false]
      unfold putPre at hP
      clear he
      have gput_c24 := GPut_24; have gput_c88 := GPut_88; have gput_c86 := GPut_86; have gput_c66 := GPut_66
      (repeat' (first | (with_reducible first | apply i_seq | apply i_block | apply i_skip | apply i_exit | apply i_ret | apply i_kS | apply i_kSx | apply i_kSr | apply i_kL | apply i_kLx | apply i_kLr | apply i_kB | apply i_kBr | apply i_kBs | apply i_nil) | ((with_reducible apply i_region); (focus (simp only [List.map_cons, List.map_nil] <;> exact rfl))) | ((with_reducible apply i_draw); (focus (simp only [List.map_cons, List.map_nil] <;> exact rfl)); (focus (decide +kernel))) | ((with_reducible apply i_kBo); (focus rfl)) | ((first | ((with_reducible apply i_V); (focus rfl); (focus rfl); (focus rfl)) | ((with_reducible apply i_E); (focus rfl); (focus (first | rfl | (simp only [push_cast, ↓reduceIte, effOk, touch, refsOf, List.flatMap_cons, List.flatMap_nil])))) | ((with_reducible apply i_S); (focus rfl); (focus (first | rfl | (simp only [push_cast, ↓reduceIte, effOk, touch, refsOf, List.flatMap_cons, List.flatMap_nil])))) | ((with_reducible apply i_Vq); (focus rfl); (focus rfl)) | ((with_reducible apply i_Vp); (focus rfl); (focus rfl); (focus rfl)) | (with_reducible first | apply i_Gb | apply i_cond)); (focus (simp (disch := (first | omega | (simp only [push_cast]; done) | (simp only [push_cast]; omega) | ((try simp only [push_cast]); (with_reducible first | apply sel_lt | apply sel_ge); (focus decide); (focus (simp only [push_cast]; omega))))) only [push_cast, ↓reduceIte, Nat.reduceEqDiff, Nat.reduceBEq, Nat.reduceAdd, Nat.reduceSub, Int.reduceToNat, *] <;> with_reducible exact rfl)); all_goals try (intro hX; first | (cases hX; done) | ((with_reducible first | have hX0 : true = true := hX | have hX0 : false = false := hX); clear hX0 hX) | ((try simp only [decide_eq_true_eq, decide_eq_false_iff_not, Bool.not_eq_true', Bool.not_eq_false'] at hX); (try have hXb := inB_iff.1 hX)))))); all_goals try (exfalso; omega)
      all_goals (first | (exfalso; simp_all; done) | (((with_reducible apply i_endN1 (2) (by first | exact .inl rfl | exact .inr rfl)); (focus (simp (disch := (first | omega | (simp only [push_cast]; done) | (simp only [push_cast]; omega) | ((try simp only [push_cast]); (with_reducible first | apply sel_lt | apply sel_ge); (focus decide); (focus (simp only [push_cast]; omega))))) only [push_cast, ↓reduceIte, Nat.reduceEqDiff, Nat.reduceBEq, Nat.reduceAdd, Nat.reduceSub, Int.reduceToNat, *] <;> with_reducible exact rfl)); (focus (simp (disch := (first | omega | (simp only [push_cast]; done) | (simp only [push_cast]; omega) | ((try simp only [push_cast]); (with_reducible first | apply sel_lt | apply sel_ge); (focus decide); (focus (simp only [push_cast]; omega))))) only [push_cast, ↓reduceIte, Nat.reduceEqDiff, Nat.reduceBEq, Nat.reduceAdd, Nat.reduceSub, Int.reduceToNat, *] <;> with_reducible exact rfl))); done) | skip)
    | true =>
      simp only [Bool.true_and]
      unfold putPre at hP
      simp only [Bool.and_eq_true, decide_eq_true_eq] at hP
      obtain ⟨hc, hrw, hfit⟩ := hP
      have hcb := inB_iff.1 hc
      have hrb := inB_iff.1 hrw
      obtain ⟨f1, f2⟩ := row_fit hrb.1 hrb.2 hw.1 he
      clear he
      have gput_c24 := GPut_24; have gput_c88 := GPut_88; have gput_c86 := GPut_86; have gput_c66 := GPut_66
      (repeat' (first | (with_reducible first | apply i_seq | apply i_block | apply i_skip | apply i_exit | apply i_ret | apply i_kS | apply i_kSx | apply i_kSr | apply i_kL | apply i_kLx | apply i_kLr | apply i_kB | apply i_kBr | apply i_kBs | apply i_nil) | ((with_reducible apply i_region); (focus (simp only [List.map_cons, List.map_nil] <;> exact rfl))) | ((with_reducible apply i_draw); (focus (simp only [List.map_cons, List.map_nil] <;> exact rfl)); (focus (decide +kernel))) | ((with_reducible apply i_kBo); (focus rfl)) | ((first | ((with_reducible apply i_V); (focus rfl); (focus rfl); (focus rfl)) | ((with_reducible apply i_E); (focus rfl); (focus (first | rfl | (simp only [push_cast, ↓reduceIte, effOk, touch, refsOf, List.flatMap_cons, List.flatMap_nil])))) | ((with_reducible apply i_S); (focus rfl); (focus (first | rfl | (simp only [push_cast, ↓reduceIte, effOk, touch, refsOf, List.flatMap_cons, List.flatMap_nil])))) | ((with_reducible apply i_Vq); (focus rfl); (focus rfl)) | ((with_reducible apply i_Vp); (focus rfl); (focus rfl); (focus rfl)) | (with_reducible first | apply i_Gb | apply i_cond)); (focus (simp (disch := (first | omega | (simp only [push_cast]; done) | (simp only [push_cast]; omega) | ((try simp only [push_cast]); (with_reducible first | apply sel_lt | apply sel_ge); (focus decide); (focus (simp only [push_cast]; omega))))) only [push_cast, ↓reduceIte, Nat.reduceEqDiff, Nat.reduceBEq, Nat.reduceAdd, Nat.reduceSub, Int.reduceToNat, *] <;> with_reducible exact rfl)); all_goals try (intro hX; first | (cases hX; done) | ((with_reducible first | have hX0 : true = true := hX | have hX0 : false = false := hX); clear hX0 hX) | ((try simp only [decide_eq_true_eq, decide_eq_false_iff_not, Bool.not_eq_true', Bool.not_eq_false'] at hX); (try have hXb := inB_iff.1 hX)))))); all_goals try (exfalso; omega)
      refine i_loop (α := Nat) mixed (fun k => [(1, iv col), (2, iv row), (3, .val (.string s)), (4, .own 0 2 0 0), (8, .own 1 2 0 0), (10, .own 3 2 0 0), (46, iv s.size), (47, iv k)])
        (fun _ => [(0, 26, 2, [.agg [.val (.int .i64 wd), .lst false 1 (l.map fun n => .val (.int .u8 n))]]), (1, 26, 2, [.agg [.val (.int .i64 0), .val (.slice none 0 0)]]), (2, 5, 1, l.map fun n => .val (.int .u8 n)), (3, 26, 2, [.agg [.val (.int .i64 wd), .row 2 1 0 l.length]])]) (fun _ => 4)
        (fun k => k ≤ s.size ∧ ∀ j, j < k → inB (at8 s j) 32 126 = true) (fun k => s.size - k) (by kernel_rfl) 0 ⟨Nat.zero_le _, fun j hj => by omega⟩ ?_ ?_ rfl ?_
      · simp (disch := (first | omega | (simp only [push_cast]; done) | (simp only [push_cast]; omega) | ((try simp only [push_cast]); (with_reducible first | apply sel_lt | apply sel_ge); (focus decide); (focus (simp only [push_cast]; omega))))) only [push_cast, ↓reduceIte, Nat.reduceEqDiff, Nat.reduceBEq, Nat.reduceAdd, Nat.reduceSub, Int.reduceToNat, List.length_append, *]
      · simp (disch := (first | omega | (simp only [push_cast]; done) | (simp only [push_cast]; omega) | ((try simp only [push_cast]); (with_reducible first | apply sel_lt | apply sel_ge); (focus decide); (focus (simp only [push_cast]; omega))))) only [push_cast, ↓reduceIte, Nat.reduceEqDiff, Nat.reduceBEq, Nat.reduceAdd, Nat.reduceSub, Int.reduceToNat, List.length_append, *]
      intro k ⟨hk, hok⟩
      replace hok := Lib.hid hok
      have hrk := at8_rng s k
      by_cases hks : k < s.size
      · cases hpk : inB (at8 s k) 32 126 with
        | false =>
          have hpb := prB_no hks hpk
          rw [hpb]
          clear hpb hok
          simp only [Bool.false_eq_true, if_false]
          (repeat' (first | (with_reducible first | apply i_seq | apply i_block | apply i_skip | apply i_exit | apply i_ret | apply i_kS | apply i_kSx | apply i_kSr | apply i_kL | apply i_kLx | apply i_kLr | apply i_kB | apply i_kBr | apply i_kBs | apply i_nil) | ((with_reducible apply i_region); (focus (simp only [List.map_cons, List.map_nil] <;> exact rfl))) | ((with_reducible apply i_draw); (focus (simp only [List.map_cons, List.map_nil] <;> exact rfl)); (focus (decide +kernel))) | ((with_reducible apply i_kBo); (focus rfl)) | ((first | ((with_reducible apply i_V); (focus rfl); (focus rfl); (focus rfl)) | ((with_reducible apply i_E); (focus rfl); (focus (first | rfl | (simp only [push_cast, ↓reduceIte, effOk, touch, refsOf, List.flatMap_cons, List.flatMap_nil])))) | ((with_reducible apply i_S); (focus rfl); (focus (first | rfl | (simp only [push_cast, ↓reduceIte, effOk, touch, refsOf, List.flatMap_cons, List.flatMap_nil])))) | ((with_reducible apply i_Vq); (focus rfl); (focus rfl)) | ((with_reducible apply i_Vp); (focus rfl); (focus rfl); (focus rfl)) | (with_reducible first | apply i_Gb | apply i_cond)); (focus (simp (disch := (first | omega | (simp only [push_cast]; done) | (simp only [push_cast]; omega) | ((try simp only [push_cast]); (with_reducible first | apply sel_lt | apply sel_ge); (focus decide); (focus (simp only [push_cast]; omega))))) only [push_cast, ↓reduceIte, Nat.reduceEqDiff, Nat.reduceBEq, Nat.reduceAdd, Nat.reduceSub, Int.reduceToNat, *] <;> with_reducible exact rfl)); all_goals try (intro hX; first | (cases hX; done) | ((with_reducible first | have hX0 : true = true := hX | have hX0 : false = false := hX); clear hX0 hX) | ((try simp only [decide_eq_true_eq, decide_eq_false_iff_not, Bool.not_eq_true', Bool.not_eq_false'] at hX); (try have hXb := inB_iff.1 hX)))))); all_goals try (exfalso; omega)
          ((with_reducible apply i_endN1 (2) (by first | exact .inl rfl | exact .inr rfl)); (focus (simp (disch := (first | omega | (simp only [push_cast]; done) | (simp only [push_cast]; omega) | ((try simp only [push_cast]); (with_reducible first | apply sel_lt | apply sel_ge); (focus decide); (focus (simp only [push_cast]; omega))))) only [push_cast, ↓reduceIte, Nat.reduceEqDiff, Nat.reduceBEq, Nat.reduceAdd, Nat.reduceSub, Int.reduceToNat, *] <;> with_reducible exact rfl)); (focus (simp (disch := (first | omega | (simp only [push_cast]; done) | (simp only [push_cast]; omega) | ((try simp only [push_cast]); (with_reducible first | apply sel_lt | apply sel_ge); (focus decide); (focus (simp only [push_cast]; omega))))) only [push_cast, ↓reduceIte, Nat.reduceEqDiff, Nat.reduceBEq, Nat.reduceAdd, Nat.reduceSub, Int.reduceToNat, *] <;> with_reducible exact rfl)))
        | true =>
          (repeat' (first | (with_reducible first | apply i_seq | apply i_block | apply i_skip | apply i_exit | apply i_ret | apply i_kS | apply i_kSx | apply i_kSr | apply i_kL | apply i_kLx | apply i_kLr | apply i_kB | apply i_kBr | apply i_kBs | apply i_nil) | ((with_reducible apply i_region); (focus (simp only [List.map_cons, List.map_nil] <;> exact rfl))) | ((with_reducible apply i_draw); (focus (simp only [List.map_cons, List.map_nil] <;> exact rfl)); (focus (decide +kernel))) | ((with_reducible apply i_kBo); (focus rfl)) | ((first | ((with_reducible apply i_V); (focus rfl); (focus rfl); (focus rfl)) | ((with_reducible apply i_E); (focus rfl); (focus (first | rfl | (simp only [push_cast, ↓reduceIte, effOk, touch, refsOf, List.flatMap_cons, List.flatMap_nil])))) | ((with_reducible apply i_S); (focus rfl); (focus (first | rfl | (simp only [push_cast, ↓reduceIte, effOk, touch, refsOf, List.flatMap_cons, List.flatMap_nil])))) | ((with_reducible apply i_Vq); (focus rfl); (focus rfl)) | ((with_reducible apply i_Vp); (focus rfl); (focus rfl); (focus rfl)) | (with_reducible first | apply i_Gb | apply i_cond)); (focus (simp (disch := (first | omega | (simp only [push_cast]; done) | (simp only [push_cast]; omega) | ((try simp only [push_cast]); (with_reducible first | apply sel_lt | apply sel_ge); (focus decide); (focus (simp only [push_cast]; omega))))) only [push_cast, ↓reduceIte, Nat.reduceEqDiff, Nat.reduceBEq, Nat.reduceAdd, Nat.reduceSub, Int.reduceToNat, *] <;> with_reducible exact rfl)); all_goals try (intro hX; first | (cases hX; done) | ((with_reducible first | have hX0 : true = true := hX | have hX0 : false = false := hX); clear hX0 hX) | ((try simp only [decide_eq_true_eq, decide_eq_false_iff_not, Bool.not_eq_true', Bool.not_eq_false'] at hX); (try have hXb := inB_iff.1 hX)))))); all_goals try (exfalso; omega)
          refine ⟨k + 1, ⟨by omega, fun j hj => ?_⟩, by dsimp only; omega, ?_, ?_, rfl⟩
          · by_cases h1 : j < k
            · exact hok.out j h1
            · have : j = k := by omega
              subst this
              exact hpk
          · simp (disch := (first | omega | (simp only [push_cast]; done) | (simp only [push_cast]; omega) | ((try simp only [push_cast]); (with_reducible first | apply sel_lt | apply sel_ge); (focus decide); (focus (simp only [push_cast]; omega))))) only [push_cast, ↓reduceIte, Nat.reduceEqDiff, Nat.reduceBEq, Nat.reduceAdd, Nat.reduceSub, Int.reduceToNat, List.length_append, *]
          · simp (disch := (first | omega | (simp only [push_cast]; done) | (simp only [push_cast]; omega) | ((try simp only [push_cast]); (with_reducible first | apply sel_lt | apply sel_ge); (focus decide); (focus (simp only [push_cast]; omega))))) only [push_cast, ↓reduceIte, Nat.reduceEqDiff, Nat.reduceBEq, Nat.reduceAdd, Nat.reduceSub, Int.reduceToNat, List.length_append, *]
      · have hpb : prB s = true := prB_yes fun j hj => hok.out j (by omega)
        rw [hpb, if_pos rfl]
        clear hok hpb
        by_cases hat : row * wd + col = l.length
        · rw [putL_nil (by omega)]
          (repeat' (first | (with_reducible first | apply i_seq | apply i_block | apply i_skip | apply i_exit | apply i_ret | apply i_kS | apply i_kSx | apply i_kSr | apply i_kL | apply i_kLx | apply i_kLr | apply i_kB | apply i_kBr | apply i_kBs | apply i_nil) | ((with_reducible apply i_region); (focus (simp only [List.map_cons, List.map_nil] <;> exact rfl))) | ((with_reducible apply i_draw); (focus (simp only [List.map_cons, List.map_nil] <;> exact rfl)); (focus (decide +kernel))) | ((with_reducible apply i_kBo); (focus rfl)) | ((first | ((with_reducible apply i_V); (focus rfl); (focus rfl); (focus rfl)) | ((with_reducible apply i_E); (focus rfl); (focus (first | rfl | (simp only [push_cast, ↓reduceIte, effOk, touch, refsOf, List.flatMap_cons, List.flatMap_nil])))) | ((with_reducible apply i_S); (focus rfl); (focus (first | rfl | (simp only [push_cast, ↓reduceIte, effOk, touch, refsOf, List.flatMap_cons, List.flatMap_nil])))) | ((with_reducible apply i_Vq); (focus rfl); (focus rfl)) | ((with_reducible apply i_Vp); (focus rfl); (focus rfl); (focus rfl)) | (with_reducible first | apply i_Gb | apply i_cond)); (focus (simp (disch := (first | omega | (simp only [push_cast]; done) | (simp only [push_cast]; omega) | ((try simp only [push_cast]); (with_reducible first | apply sel_lt | apply sel_ge); (focus decide); (focus (simp only [push_cast]; omega))))) only [push_cast, ↓reduceIte, Nat.reduceEqDiff, Nat.reduceBEq, Nat.reduceAdd, Nat.reduceSub, Int.reduceToNat, *] <;> with_reducible exact rfl)); all_goals try (intro hX; first | (cases hX; done) | ((with_reducible first | have hX0 : true = true := hX | have hX0 : false = false := hX); clear hX0 hX) | ((try simp only [decide_eq_true_eq, decide_eq_false_iff_not, Bool.not_eq_true', Bool.not_eq_false'] at hX); (try have hXb := inB_iff.1 hX)))))); all_goals try (exfalso; omega)
          ((with_reducible apply i_endN1 (2) (by first | exact .inl rfl | exact .inr rfl)); (focus (simp (disch := (first | omega | (simp only [push_cast]; done) | (simp only [push_cast]; omega) | ((try simp only [push_cast]); (with_reducible first | apply sel_lt | apply sel_ge); (focus decide); (focus (simp only [push_cast]; omega))))) only [push_cast, ↓reduceIte, Nat.reduceEqDiff, Nat.reduceBEq, Nat.reduceAdd, Nat.reduceSub, Int.reduceToNat, *] <;> with_reducible exact rfl)); (focus (simp (disch := (first | omega | (simp only [push_cast]; done) | (simp only [push_cast]; omega) | ((try simp only [push_cast]); (with_reducible first | apply sel_lt | apply sel_ge); (focus decide); (focus (simp only [push_cast]; omega))))) only [push_cast, ↓reduceIte, Nat.reduceEqDiff, Nat.reduceBEq, Nat.reduceAdd, Nat.reduceSub, Int.reduceToNat, *] <;> with_reducible exact rfl)))
        · unfold putL
          (repeat' (first | (with_reducible first | apply i_seq | apply i_block | apply i_skip | apply i_exit | apply i_ret | apply i_kS | apply i_kSx | apply i_kSr | apply i_kL | apply i_kLx | apply i_kLr | apply i_kB | apply i_kBr | apply i_kBs | apply i_nil) | ((with_reducible apply i_region); (focus (simp only [List.map_cons, List.map_nil] <;> exact rfl))) | ((with_reducible apply i_draw); (focus (simp only [List.map_cons, List.map_nil] <;> exact rfl)); (focus (decide +kernel))) | ((with_reducible apply i_kBo); (focus rfl)) | ((first | ((with_reducible apply i_V); (focus rfl); (focus rfl); (focus rfl)) | ((with_reducible apply i_E); (focus rfl); (focus (first | rfl | (simp only [push_cast, ↓reduceIte, effOk, touch, refsOf, List.flatMap_cons, List.flatMap_nil])))) | ((with_reducible apply i_S); (focus rfl); (focus (first | rfl | (simp only [push_cast, ↓reduceIte, effOk, touch, refsOf, List.flatMap_cons, List.flatMap_nil])))) | ((with_reducible apply i_Vq); (focus rfl); (focus rfl)) | ((with_reducible apply i_Vp); (focus rfl); (focus rfl); (focus rfl)) | (with_reducible first | apply i_Gb | apply i_cond)); (focus (simp (disch := (first | omega | (simp only [push_cast]; done) | (simp only [push_cast]; omega) | ((try simp only [push_cast]); (with_reducible first | apply sel_lt | apply sel_ge); (focus decide); (focus (simp only [push_cast]; omega))))) only [push_cast, ↓reduceIte, Nat.reduceEqDiff, Nat.reduceBEq, Nat.reduceAdd, Nat.reduceSub, Int.reduceToNat, *] <;> with_reducible exact rfl)); all_goals try (intro hX; first | (cases hX; done) | ((with_reducible first | have hX0 : true = true := hX | have hX0 : false = false := hX); clear hX0 hX) | ((try simp only [decide_eq_true_eq, decide_eq_false_iff_not, Bool.not_eq_true', Bool.not_eq_false'] at hX); (try have hXb := inB_iff.1 hX)))))); all_goals try (exfalso; omega)
          ((with_reducible apply i_endN1 (2) (by first | exact .inl rfl | exact .inr rfl)); (focus (simp (disch := (first | omega | (simp only [push_cast]; done) | (simp only [push_cast]; omega) | ((try simp only [push_cast]); (with_reducible first | apply sel_lt | apply sel_ge); (focus decide); (focus (simp only [push_cast]; omega))))) only [push_cast, ↓reduceIte, Nat.reduceEqDiff, Nat.reduceBEq, Nat.reduceAdd, Nat.reduceSub, Int.reduceToNat, *] <;> with_reducible exact rfl)); (focus (simp (disch := (first | omega | (simp only [push_cast]; done) | (simp only [push_cast]; omega) | ((try simp only [push_cast]); (with_reducible first | apply sel_lt | apply sel_ge); (focus decide); (focus (simp only [push_cast]; omega))))) only [push_cast, ↓reduceIte, Nat.reduceEqDiff, Nat.reduceBEq, Nat.reduceAdd, Nat.reduceSub, Int.reduceToNat, *] <;> with_reducible exact rfl)))
def ΨOwnG : FunN := G1 dGrid fun g => if g.2.length ≤ 1099511627776 then some (.agg [.val (.int .i64 g.1), .row 0 1 0 g.2.length], [(5, 1, g.2.map fun n => .val (.int .u8 n))]) else none
theorem ΨOwnG_ap {wd : Int} {l : List Int} (h2 : l.length ≤ 1099511627776) : ΨOwnG [.agg [.val (.int .i64 wd), .lst false 1 (l.map fun n => .val (.int .u8 n))]] = some (.agg [.val (.int .i64 wd), .row 0 1 0 l.length], [(5, 1, l.map fun n => .val (.int .u8 n))]) :=
  (G1_ap (A := dGrid) (wd, l)).trans (if_pos h2)
theorem ownG_lift {wd : Int} {l : List Int} (h2 : l.length ≤ 1099511627776) : liftN ΨOwnG [.agg [.val (.int .i64 wd), .lst false 1 (l.map fun n => .val (.int .u8 n))]] [] = some (.agg [.val (.int .i64 wd), .row 0 1 0 l.length], [(5, 1, l.map fun n => .val (.int .u8 n))]) := by
  refine (liftN_of (cs := []) (qs := [.agg [.val (.int .i64 wd), .lst false 1 (l.map fun n => .val (.int .u8 n))]]) (by simp only [push_cast, ↓reduceIte, Nat.reduceEqDiff, Nat.reduceBEq, Nat.reduceAdd, Nat.reduceSub, Int.reduceToNat]) (ΨOwnG_ap h2) rfl (by rw [mapM_cons', mapM_nil', renCT_vals]; rfl)).trans ?_
  rfl
theorem ownGN : SoundN Tryd.prog 84 ΨOwnG := by
  refine sound_pqN mixed GE_ok Tryd.func84 rfl 11 rfl [.cell 2 26] rfl (by kernel_rfl) fun ps r cs' hr => ?_
  obtain ⟨⟨wd, l⟩, rfl, hq⟩ := G1_some hr
  clear hr
  split at hq
  case isFalse => cases hq
  case isTrue hpre =>
  cases hq
  refine ⟨by simp, ?_⟩
  simp only [dIs, dUs, dSs, dI_e, dU_e, dB_e, dS_e, dFn_e, dL_e, dA2_e, dA3_e, dA4_e, dA5_e]
  dsimp only at hpre
  repeat' (first | (with_reducible first | apply i_seq | apply i_block | apply i_skip | apply i_exit | apply i_ret | apply i_kS | apply i_kSx | apply i_kSr | apply i_kL | apply i_kLx | apply i_kLr | apply i_kB | apply i_kBr | apply i_kBs | apply i_nil) | ((with_reducible apply i_region); (focus (simp only [List.map_cons, List.map_nil] <;> exact rfl))) | ((with_reducible apply i_draw); (focus (simp only [List.map_cons, List.map_nil] <;> exact rfl)); (focus (decide +kernel))) | ((with_reducible apply i_kBo); (focus rfl)) | ((first | ((with_reducible apply i_V); (focus rfl); (focus rfl); (focus rfl)) | ((with_reducible apply i_E); (focus rfl); (focus (first | rfl | (simp only [push_cast, ↓reduceIte, effOk, touch, refsOf, List.flatMap_cons, List.flatMap_nil])))) | ((with_reducible apply i_S); (focus rfl); (focus (first | rfl | (simp only [push_cast, ↓reduceIte, effOk, touch, refsOf, List.flatMap_cons, List.flatMap_nil])))) | ((with_reducible apply i_Vq); (focus rfl); (focus rfl)) | ((with_reducible apply i_Vp); (focus rfl); (focus rfl); (focus rfl)) | (with_reducible first | apply i_Gb | apply i_cond)); (focus (simp (disch := (first | omega | (simp only [push_cast]; done) | (simp only [push_cast]; omega) | ((try simp only [push_cast]); (with_reducible first | apply sel_lt | apply sel_ge); (focus decide); (focus (simp only [push_cast]; omega))))) only [push_cast, ↓reduceIte, Nat.reduceEqDiff, Nat.reduceBEq, Nat.reduceAdd, Nat.reduceSub, Int.reduceToNat, *] <;> with_reducible exact rfl)); all_goals try (intro hX; first | (cases hX; done) | ((with_reducible first | have hX0 : true = true := hX | have hX0 : false = false := hX); clear hX0 hX) | ((try simp only [decide_eq_true_eq, decide_eq_false_iff_not, Bool.not_eq_true', Bool.not_eq_false'] at hX); (try have hXb := inB_iff.1 hX)))))
  ((with_reducible apply i_endN1 (4) (by first | exact .inl rfl | exact .inr rfl)); (focus (simp (disch := (first | omega | (simp only [push_cast]; done) | (simp only [push_cast]; omega) | ((try simp only [push_cast]); (with_reducible first | apply sel_lt | apply sel_ge); (focus decide); (focus (simp only [push_cast]; omega))))) only [push_cast, ↓reduceIte, Nat.reduceEqDiff, Nat.reduceBEq, Nat.reduceAdd, Nat.reduceSub, Int.reduceToNat, *] <;> with_reducible exact rfl)); (focus (simp (disch := (first | omega | (simp only [push_cast]; done) | (simp only [push_cast]; omega) | ((try simp only [push_cast]); (with_reducible first | apply sel_lt | apply sel_ge); (focus decide); (focus (simp only [push_cast]; omega))))) only [push_cast, ↓reduceIte, Nat.reduceEqDiff, Nat.reduceBEq, Nat.reduceAdd, Nat.reduceSub, Int.reduceToNat, *] <;> with_reducible exact rfl)))
noncomputable def GSPut : Ctx := ⟨fun f => if f = 85 then some φGridValid else if f = 48 then some φIn else none, fun f => if f = 84 then some (liftN ΨOwnG) else none⟩
theorem GSPut_ok : SoundΓ Tryd.prog GSPut := ⟨(fun f φ h => by
  unfold GSPut at h
  dsimp only at h
  split at h
  · rename_i hf; cases h; subst hf; exact ⟨⟨_, Tryd.func85, rfl, rfl⟩, specGridValid_ok⟩
  split at h
  · rename_i hf; cases h; subst hf; exact ⟨⟨_, Tryd.func48, rfl, rfl⟩, l1In_ok⟩
  cases h), (fun f φ h => by
  unfold GSPut at h
  dsimp only at h
  split at h
  · rename_i hf; cases h; subst hf; exact ⟨⟨_, Tryd.func84, rfl, rfl⟩, ownGN.lift⟩
  cases h)⟩
theorem GSPut_85 (ob : Objs) (ps : List PV) : evCall GSPut ob 85 ps = (ps.mapM (reify false 0 ob fuel)).bind φGridValid := by
  have h : GSPut.fn 85 = some φGridValid := by simp [GSPut]
  unfold evCall
  rw [h]
  cases ps.mapM (reify false 0 ob fuel) <;> rfl
theorem GSPut_48 (ob : Objs) (ps : List PV) : evCall GSPut ob 48 ps = (ps.mapM (reify false 0 ob fuel)).bind φIn := by
  have h : GSPut.fn 48 = some φIn := by simp [GSPut]
  unfold evCall
  rw [h]
  cases ps.mapM (reify false 0 ob fuel) <;> rfl
theorem GSPut_84 : GSPut.io 84 = some (liftN ΨOwnG) := by simp [GSPut]
def putZS (wd : Int) (l : List Int) (col row : Int) (s : ByteArray) : PV :=
  if gridB wd l = true then .tup [.agg [.val (.int .i64 wd), .lst true 1 ((putR wd l col row s).map fun n => .val (.int .u8 n))], .val (.bool (putPre wd l col row s && prB s))]
  else .tup [.agg [.val (.int .i64 0), .val (.slice none 0 0)], .val (.bool false)]
def φPutS : Fun := F4 dGrid dI dI dS fun g col row s => if okPut g.2 s then some (putZS g.1 g.2 col row s) else none
theorem φPutS_ap {wd col row : Int} {l : List Int} {s : ByteArray} (h : okPut l s) : φPutS [.agg [.val (.int .i64 wd), .lst false 1 (l.map fun n => .val (.int .u8 n))], .val (.int .i64 col), .val (.int .i64 row), .val (.string s)] = some (putZS wd l col row s) :=
  (F4_ap (A := dGrid) (B := dI) (C := dI) (D := dS) (wd, l) col row s).trans (if_pos h)
set_option maxHeartbeats 16000000 in
theorem specPut_ok : Sound Tryd.prog 49 φPutS := by
  refine sound_pq mixed GSPut_ok Tryd.func49 rfl 87 rfl [.cell 8 26, .tmp 9] rfl (by kernel_rfl) fun ps r hr => ?_
  obtain ⟨⟨wd, l⟩, col, row, s, rfl, hq⟩ := F4_some hr
  clear hr
  split at hq
  case isFalse => cases hq
  case isTrue hpre =>
  have hz : putZS wd l col row s = r := by simpa using hq
  clear hq
  refine ⟨by simp, ?_⟩
  simp only [dIs, dUs, dSs, dI_e, dU_e, dB_e, dS_e, dFn_e, dL_e, dA2_e, dA3_e, dA4_e, dA5_e]
  dsimp only at hpre
  have ap1 := φGridValid_ap (wd := wd) hpre.1
  have ap2 := ownG_lift (wd := wd) hpre.1.1
  have hlen := hpre.1.1
  have hsz := hpre.2
  have ap3 := φIn_ap
  clear hpre
  unfold putZS at hz
  cases hG : gridB wd l with
  | false =>
    rw [hG, if_neg (by simp)] at hz
    cases hz
    rw [hG] at ap1
    have gsput_c85 := GSPut_85; have gsput_c84 := GSPut_84; have gsput_c48 := GSPut_48
    (repeat' (first | (with_reducible first | apply i_seq | apply i_block | apply i_skip | apply i_exit | apply i_ret | apply i_kS | apply i_kSx | apply i_kSr | apply i_kL | apply i_kLx | apply i_kLr | apply i_kB | apply i_kBr | apply i_kBs | apply i_nil) | ((with_reducible apply i_region); (focus (simp only [List.map_cons, List.map_nil] <;> exact rfl))) | ((with_reducible apply i_draw); (focus (simp only [List.map_cons, List.map_nil] <;> exact rfl)); (focus (decide +kernel))) | ((with_reducible apply i_kBo); (focus rfl)) | ((first | ((with_reducible apply i_V); (focus rfl); (focus rfl); (focus rfl)) | ((with_reducible apply i_E); (focus rfl); (focus (first | rfl | (simp only [push_cast, ↓reduceIte, effOk, touch, refsOf, List.flatMap_cons, List.flatMap_nil])))) | ((with_reducible apply i_S); (focus rfl); (focus (first | rfl | (simp only [push_cast, ↓reduceIte, effOk, touch, refsOf, List.flatMap_cons, List.flatMap_nil])))) | ((with_reducible apply i_Vq); (focus rfl); (focus rfl)) | ((with_reducible apply i_Vp); (focus rfl); (focus rfl); (focus rfl)) | (with_reducible first | apply i_Gb | apply i_cond)); (focus (simp (disch := (first | omega | (simp only [push_cast]; done) | (simp only [push_cast]; omega) | ((try simp only [push_cast]); (with_reducible first | apply sel_lt | apply sel_ge); (focus decide); (focus (simp only [push_cast]; omega))))) only [push_cast, ↓reduceIte, Nat.reduceEqDiff, Nat.reduceBEq, Nat.reduceAdd, Nat.reduceSub, Int.reduceToNat, *] <;> with_reducible exact rfl)); all_goals try (intro hX; first | (cases hX; done) | ((with_reducible first | have hX0 : true = true := hX | have hX0 : false = false := hX); clear hX0 hX) | ((try simp only [decide_eq_true_eq, decide_eq_false_iff_not, Bool.not_eq_true', Bool.not_eq_false'] at hX); (try have hXb := inB_iff.1 hX)))))); all_goals try (exfalso; omega)
    all_goals ((first | apply i_end | apply i_endN); simp (disch := (first | omega | (simp only [push_cast]; done) | (simp only [push_cast]; omega) | ((try simp only [push_cast]); (with_reducible first | apply sel_lt | apply sel_ge); (focus decide); (focus (simp only [push_cast]; omega))))) only [push_cast, ↓reduceIte, Nat.reduceEqDiff, Nat.reduceBEq, Nat.reduceAdd, Nat.reduceSub, Int.reduceToNat, *])
  | true =>
    obtain ⟨hw, hmod, hdiv, he, h0, h36, hpr⟩ := gridB_facts hG
    rw [hG] at ap1
    rw [hG, if_pos rfl] at hz
    cases hz
    clear hG hpr hmod
    unfold putR
    cases hP : putPre wd l col row s with
    | false =>
      simp only [Bool.false_and, Bool.false_eq_true, if_false]
      unfold putPre at hP
      clear he
      have gsput_c85 := GSPut_85; have gsput_c84 := GSPut_84; have gsput_c48 := GSPut_48
      (repeat' (first | (with_reducible first | apply i_seq | apply i_block | apply i_skip | apply i_exit | apply i_ret | apply i_kS | apply i_kSx | apply i_kSr | apply i_kL | apply i_kLx | apply i_kLr | apply i_kB | apply i_kBr | apply i_kBs | apply i_nil) | ((with_reducible apply i_region); (focus (simp only [List.map_cons, List.map_nil] <;> exact rfl))) | ((with_reducible apply i_draw); (focus (simp only [List.map_cons, List.map_nil] <;> exact rfl)); (focus (decide +kernel))) | ((with_reducible apply i_kBo); (focus rfl)) | ((first | ((with_reducible apply i_V); (focus rfl); (focus rfl); (focus rfl)) | ((with_reducible apply i_E); (focus rfl); (focus (first | rfl | (simp only [push_cast, ↓reduceIte, effOk, touch, refsOf, List.flatMap_cons, List.flatMap_nil])))) | ((with_reducible apply i_S); (focus rfl); (focus (first | rfl | (simp only [push_cast, ↓reduceIte, effOk, touch, refsOf, List.flatMap_cons, List.flatMap_nil])))) | ((with_reducible apply i_Vq); (focus rfl); (focus rfl)) | ((with_reducible apply i_Vp); (focus rfl); (focus rfl); (focus rfl)) | (with_reducible first | apply i_Gb | apply i_cond)); (focus (simp (disch := (first | omega | (simp only [push_cast]; done) | (simp only [push_cast]; omega) | ((try simp only [push_cast]); (with_reducible first | apply sel_lt | apply sel_ge); (focus decide); (focus (simp only [push_cast]; omega))))) only [push_cast, ↓reduceIte, Nat.reduceEqDiff, Nat.reduceBEq, Nat.reduceAdd, Nat.reduceSub, Int.reduceToNat, *] <;> with_reducible exact rfl)); all_goals try (intro hX; first | (cases hX; done) | ((with_reducible first | have hX0 : true = true := hX | have hX0 : false = false := hX); clear hX0 hX) | ((try simp only [decide_eq_true_eq, decide_eq_false_iff_not, Bool.not_eq_true', Bool.not_eq_false'] at hX); (try have hXb := inB_iff.1 hX)))))); all_goals try (exfalso; omega)
      refine i_drawF 7 ⟨[], [20, 23], [0]⟩ (by simp only [List.map_cons, List.map_nil] <;> exact rfl) (by simp only [List.take_succ_cons, List.take_zero] <;> exact rfl) (by simp only [List.drop_succ_cons, List.drop_zero] <;> exact rfl) ze_26 (by decide +kernel) (by decide +kernel) ?_
      (repeat' (first | (with_reducible first | apply i_seq | apply i_block | apply i_skip | apply i_exit | apply i_ret | apply i_kS | apply i_kSx | apply i_kSr | apply i_kL | apply i_kLx | apply i_kLr | apply i_kB | apply i_kBr | apply i_kBs | apply i_nil) | ((with_reducible apply i_region); (focus (simp only [List.map_cons, List.map_nil] <;> exact rfl))) | ((with_reducible apply i_draw); (focus (simp only [List.map_cons, List.map_nil] <;> exact rfl)); (focus (decide +kernel))) | ((with_reducible apply i_kBo); (focus rfl)) | ((first | ((with_reducible apply i_V); (focus rfl); (focus rfl); (focus rfl)) | ((with_reducible apply i_E); (focus rfl); (focus (first | rfl | (simp only [push_cast, ↓reduceIte, effOk, touch, refsOf, List.flatMap_cons, List.flatMap_nil])))) | ((with_reducible apply i_S); (focus rfl); (focus (first | rfl | (simp only [push_cast, ↓reduceIte, effOk, touch, refsOf, List.flatMap_cons, List.flatMap_nil])))) | ((with_reducible apply i_Vq); (focus rfl); (focus rfl)) | ((with_reducible apply i_Vp); (focus rfl); (focus rfl); (focus rfl)) | (with_reducible first | apply i_Gb | apply i_cond)); (focus (simp (disch := (first | omega | (simp only [push_cast]; done) | (simp only [push_cast]; omega) | ((try simp only [push_cast]); (with_reducible first | apply sel_lt | apply sel_ge); (focus decide); (focus (simp only [push_cast]; omega))))) only [push_cast, ↓reduceIte, Nat.reduceEqDiff, Nat.reduceBEq, Nat.reduceAdd, Nat.reduceSub, Int.reduceToNat, *] <;> with_reducible exact rfl)); all_goals try (intro hX; first | (cases hX; done) | ((with_reducible first | have hX0 : true = true := hX | have hX0 : false = false := hX); clear hX0 hX) | ((try simp only [decide_eq_true_eq, decide_eq_false_iff_not, Bool.not_eq_true', Bool.not_eq_false'] at hX); (try have hXb := inB_iff.1 hX)))))); all_goals try (exfalso; omega)
      refine i_kF (by (simp (disch := (first | omega | (simp only [push_cast]; done) | (simp only [push_cast]; omega) | ((try simp only [push_cast]); (with_reducible first | apply sel_lt | apply sel_ge); (focus decide); (focus (simp only [push_cast]; omega))))) only [push_cast, ↓reduceIte, Nat.reduceEqDiff, Nat.reduceBEq, Nat.reduceAdd, Nat.reduceSub, Int.reduceToNat, *] <;> with_reducible exact rfl)) ?_
      (repeat' (first | (with_reducible first | apply i_seq | apply i_block | apply i_skip | apply i_exit | apply i_ret | apply i_kS | apply i_kSx | apply i_kSr | apply i_kL | apply i_kLx | apply i_kLr | apply i_kB | apply i_kBr | apply i_kBs | apply i_nil) | ((with_reducible apply i_region); (focus (simp only [List.map_cons, List.map_nil] <;> exact rfl))) | ((with_reducible apply i_draw); (focus (simp only [List.map_cons, List.map_nil] <;> exact rfl)); (focus (decide +kernel))) | ((with_reducible apply i_kBo); (focus rfl)) | ((first | ((with_reducible apply i_V); (focus rfl); (focus rfl); (focus rfl)) | ((with_reducible apply i_E); (focus rfl); (focus (first | rfl | (simp only [push_cast, ↓reduceIte, effOk, touch, refsOf, List.flatMap_cons, List.flatMap_nil])))) | ((with_reducible apply i_S); (focus rfl); (focus (first | rfl | (simp only [push_cast, ↓reduceIte, effOk, touch, refsOf, List.flatMap_cons, List.flatMap_nil])))) | ((with_reducible apply i_Vq); (focus rfl); (focus rfl)) | ((with_reducible apply i_Vp); (focus rfl); (focus rfl); (focus rfl)) | (with_reducible first | apply i_Gb | apply i_cond)); (focus (simp (disch := (first | omega | (simp only [push_cast]; done) | (simp only [push_cast]; omega) | ((try simp only [push_cast]); (with_reducible first | apply sel_lt | apply sel_ge); (focus decide); (focus (simp only [push_cast]; omega))))) only [push_cast, ↓reduceIte, Nat.reduceEqDiff, Nat.reduceBEq, Nat.reduceAdd, Nat.reduceSub, Int.reduceToNat, *] <;> with_reducible exact rfl)); all_goals try (intro hX; first | (cases hX; done) | ((with_reducible first | have hX0 : true = true := hX | have hX0 : false = false := hX); clear hX0 hX) | ((try simp only [decide_eq_true_eq, decide_eq_false_iff_not, Bool.not_eq_true', Bool.not_eq_false'] at hX); (try have hXb := inB_iff.1 hX)))))); all_goals try (exfalso; omega)
      all_goals (first | (exfalso; simp_all; done) | (((first | apply i_end | apply i_endN); simp (disch := (first | omega | (simp only [push_cast]; done) | (simp only [push_cast]; omega) | ((try simp only [push_cast]); (with_reducible first | apply sel_lt | apply sel_ge); (focus decide); (focus (simp only [push_cast]; omega))))) only [push_cast, ↓reduceIte, Nat.reduceEqDiff, Nat.reduceBEq, Nat.reduceAdd, Nat.reduceSub, Int.reduceToNat, *]); done) | skip)
    | true =>
      simp only [Bool.true_and]
      unfold putPre at hP
      simp only [Bool.and_eq_true, decide_eq_true_eq] at hP
      obtain ⟨hc, hrw, hfit⟩ := hP
      have hcb := inB_iff.1 hc
      have hrb := inB_iff.1 hrw
      obtain ⟨f1, f2⟩ := row_fit hrb.1 hrb.2 hw.1 he
      clear he
      have gsput_c85 := GSPut_85; have gsput_c84 := GSPut_84; have gsput_c48 := GSPut_48
      (repeat' (first | (with_reducible first | apply i_seq | apply i_block | apply i_skip | apply i_exit | apply i_ret | apply i_kS | apply i_kSx | apply i_kSr | apply i_kL | apply i_kLx | apply i_kLr | apply i_kB | apply i_kBr | apply i_kBs | apply i_nil) | ((with_reducible apply i_region); (focus (simp only [List.map_cons, List.map_nil] <;> exact rfl))) | ((with_reducible apply i_draw); (focus (simp only [List.map_cons, List.map_nil] <;> exact rfl)); (focus (decide +kernel))) | ((with_reducible apply i_kBo); (focus rfl)) | ((first | ((with_reducible apply i_V); (focus rfl); (focus rfl); (focus rfl)) | ((with_reducible apply i_E); (focus rfl); (focus (first | rfl | (simp only [push_cast, ↓reduceIte, effOk, touch, refsOf, List.flatMap_cons, List.flatMap_nil])))) | ((with_reducible apply i_S); (focus rfl); (focus (first | rfl | (simp only [push_cast, ↓reduceIte, effOk, touch, refsOf, List.flatMap_cons, List.flatMap_nil])))) | ((with_reducible apply i_Vq); (focus rfl); (focus rfl)) | ((with_reducible apply i_Vp); (focus rfl); (focus rfl); (focus rfl)) | (with_reducible first | apply i_Gb | apply i_cond)); (focus (simp (disch := (first | omega | (simp only [push_cast]; done) | (simp only [push_cast]; omega) | ((try simp only [push_cast]); (with_reducible first | apply sel_lt | apply sel_ge); (focus decide); (focus (simp only [push_cast]; omega))))) only [push_cast, ↓reduceIte, Nat.reduceEqDiff, Nat.reduceBEq, Nat.reduceAdd, Nat.reduceSub, Int.reduceToNat, *] <;> with_reducible exact rfl)); all_goals try (intro hX; first | (cases hX; done) | ((with_reducible first | have hX0 : true = true := hX | have hX0 : false = false := hX); clear hX0 hX) | ((try simp only [decide_eq_true_eq, decide_eq_false_iff_not, Bool.not_eq_true', Bool.not_eq_false'] at hX); (try have hXb := inB_iff.1 hX)))))); all_goals try (exfalso; omega)
      refine i_drawF 7 ⟨[], [20, 23], [0]⟩ (by simp only [List.map_cons, List.map_nil] <;> exact rfl) (by simp only [List.take_succ_cons, List.take_zero] <;> exact rfl) (by simp only [List.drop_succ_cons, List.drop_zero] <;> exact rfl) ze_26 (by decide +kernel) (by decide +kernel) ?_
      (repeat' (first | (with_reducible first | apply i_seq | apply i_block | apply i_skip | apply i_exit | apply i_ret | apply i_kS | apply i_kSx | apply i_kSr | apply i_kL | apply i_kLx | apply i_kLr | apply i_kB | apply i_kBr | apply i_kBs | apply i_nil) | ((with_reducible apply i_region); (focus (simp only [List.map_cons, List.map_nil] <;> exact rfl))) | ((with_reducible apply i_draw); (focus (simp only [List.map_cons, List.map_nil] <;> exact rfl)); (focus (decide +kernel))) | ((with_reducible apply i_kBo); (focus rfl)) | ((first | ((with_reducible apply i_V); (focus rfl); (focus rfl); (focus rfl)) | ((with_reducible apply i_E); (focus rfl); (focus (first | rfl | (simp only [push_cast, ↓reduceIte, effOk, touch, refsOf, List.flatMap_cons, List.flatMap_nil])))) | ((with_reducible apply i_S); (focus rfl); (focus (first | rfl | (simp only [push_cast, ↓reduceIte, effOk, touch, refsOf, List.flatMap_cons, List.flatMap_nil])))) | ((with_reducible apply i_Vq); (focus rfl); (focus rfl)) | ((with_reducible apply i_Vp); (focus rfl); (focus rfl); (focus rfl)) | (with_reducible first | apply i_Gb | apply i_cond)); (focus (simp (disch := (first | omega | (simp only [push_cast]; done) | (simp only [push_cast]; omega) | ((try simp only [push_cast]); (with_reducible first | apply sel_lt | apply sel_ge); (focus decide); (focus (simp only [push_cast]; omega))))) only [push_cast, ↓reduceIte, Nat.reduceEqDiff, Nat.reduceBEq, Nat.reduceAdd, Nat.reduceSub, Int.reduceToNat, *] <;> with_reducible exact rfl)); all_goals try (intro hX; first | (cases hX; done) | ((with_reducible first | have hX0 : true = true := hX | have hX0 : false = false := hX); clear hX0 hX) | ((try simp only [decide_eq_true_eq, decide_eq_false_iff_not, Bool.not_eq_true', Bool.not_eq_false'] at hX); (try have hXb := inB_iff.1 hX)))))); all_goals try (exfalso; omega)
      refine i_kF (by (simp (disch := (first | omega | (simp only [push_cast]; done) | (simp only [push_cast]; omega) | ((try simp only [push_cast]); (with_reducible first | apply sel_lt | apply sel_ge); (focus decide); (focus (simp only [push_cast]; omega))))) only [push_cast, ↓reduceIte, Nat.reduceEqDiff, Nat.reduceBEq, Nat.reduceAdd, Nat.reduceSub, Int.reduceToNat, *] <;> with_reducible exact rfl)) ?_
      (repeat' (first | (with_reducible first | apply i_seq | apply i_block | apply i_skip | apply i_exit | apply i_ret | apply i_kS | apply i_kSx | apply i_kSr | apply i_kL | apply i_kLx | apply i_kLr | apply i_kB | apply i_kBr | apply i_kBs | apply i_nil) | ((with_reducible apply i_region); (focus (simp only [List.map_cons, List.map_nil] <;> exact rfl))) | ((with_reducible apply i_draw); (focus (simp only [List.map_cons, List.map_nil] <;> exact rfl)); (focus (decide +kernel))) | ((with_reducible apply i_kBo); (focus rfl)) | ((first | ((with_reducible apply i_V); (focus rfl); (focus rfl); (focus rfl)) | ((with_reducible apply i_E); (focus rfl); (focus (first | rfl | (simp only [push_cast, ↓reduceIte, effOk, touch, refsOf, List.flatMap_cons, List.flatMap_nil])))) | ((with_reducible apply i_S); (focus rfl); (focus (first | rfl | (simp only [push_cast, ↓reduceIte, effOk, touch, refsOf, List.flatMap_cons, List.flatMap_nil])))) | ((with_reducible apply i_Vq); (focus rfl); (focus rfl)) | ((with_reducible apply i_Vp); (focus rfl); (focus rfl); (focus rfl)) | (with_reducible first | apply i_Gb | apply i_cond)); (focus (simp (disch := (first | omega | (simp only [push_cast]; done) | (simp only [push_cast]; omega) | ((try simp only [push_cast]); (with_reducible first | apply sel_lt | apply sel_ge); (focus decide); (focus (simp only [push_cast]; omega))))) only [push_cast, ↓reduceIte, Nat.reduceEqDiff, Nat.reduceBEq, Nat.reduceAdd, Nat.reduceSub, Int.reduceToNat, *] <;> with_reducible exact rfl)); all_goals try (intro hX; first | (cases hX; done) | ((with_reducible first | have hX0 : true = true := hX | have hX0 : false = false := hX); clear hX0 hX) | ((try simp only [decide_eq_true_eq, decide_eq_false_iff_not, Bool.not_eq_true', Bool.not_eq_false'] at hX); (try have hXb := inB_iff.1 hX)))))); all_goals try (exfalso; omega)
      refine i_loop (α := Nat) mixed (fun k => [(1, iv col), (2, iv row), (3, .val (.string s)), (4, .own 0 2 0 0), (8, .own 1 2 0 0), (10, .own 3 2 0 0), (11, iv k)])
        (fun _ => [(0, 26, 2, [.agg [.val (.int .i64 wd), .row 2 1 0 l.length]]), (1, 26, 2, [.agg [.val (.int .i64 0), .val (.slice none 0 0)]]), (2, 5, 1, l.map fun n => .val (.int .u8 n)), (3, 26, 2, [.agg [.val (.int .i64 wd), .row 5 1 0 l.length]]), (5, 5, 1, l.map fun n => .val (.int .u8 n))]) (fun _ => 6)
        (fun k => k ≤ s.size ∧ ∀ j, j < k → inB (at8 s j) 32 126 = true) (fun k => s.size - k) (by kernel_rfl) 0 ⟨Nat.zero_le _, fun j hj => by omega⟩ ?_ ?_ rfl ?_
      · simp (disch := (first | omega | (simp only [push_cast]; done) | (simp only [push_cast]; omega) | ((try simp only [push_cast]); (with_reducible first | apply sel_lt | apply sel_ge); (focus decide); (focus (simp only [push_cast]; omega))))) only [push_cast, ↓reduceIte, Nat.reduceEqDiff, Nat.reduceBEq, Nat.reduceAdd, Nat.reduceSub, Int.reduceToNat, List.length_append, *]
      · simp (disch := (first | omega | (simp only [push_cast]; done) | (simp only [push_cast]; omega) | ((try simp only [push_cast]); (with_reducible first | apply sel_lt | apply sel_ge); (focus decide); (focus (simp only [push_cast]; omega))))) only [push_cast, ↓reduceIte, Nat.reduceEqDiff, Nat.reduceBEq, Nat.reduceAdd, Nat.reduceSub, Int.reduceToNat, List.length_append, *]
      intro k ⟨hk, hok⟩
      replace hok := Lib.hid hok
      have hrk := at8_rng s k
      by_cases hks : k < s.size
      · cases hpk : inB (at8 s k) 32 126 with
        | false =>
          have hpb := prB_no hks hpk
          rw [hpb]
          clear hpb hok
          simp only [Bool.false_eq_true, if_false]
          (repeat' (first | (with_reducible first | apply i_seq | apply i_block | apply i_skip | apply i_exit | apply i_ret | apply i_kS | apply i_kSx | apply i_kSr | apply i_kL | apply i_kLx | apply i_kLr | apply i_kB | apply i_kBr | apply i_kBs | apply i_nil) | ((with_reducible apply i_region); (focus (simp only [List.map_cons, List.map_nil] <;> exact rfl))) | ((with_reducible apply i_draw); (focus (simp only [List.map_cons, List.map_nil] <;> exact rfl)); (focus (decide +kernel))) | ((with_reducible apply i_kBo); (focus rfl)) | ((first | ((with_reducible apply i_V); (focus rfl); (focus rfl); (focus rfl)) | ((with_reducible apply i_E); (focus rfl); (focus (first | rfl | (simp only [push_cast, ↓reduceIte, effOk, touch, refsOf, List.flatMap_cons, List.flatMap_nil])))) | ((with_reducible apply i_S); (focus rfl); (focus (first | rfl | (simp only [push_cast, ↓reduceIte, effOk, touch, refsOf, List.flatMap_cons, List.flatMap_nil])))) | ((with_reducible apply i_Vq); (focus rfl); (focus rfl)) | ((with_reducible apply i_Vp); (focus rfl); (focus rfl); (focus rfl)) | (with_reducible first | apply i_Gb | apply i_cond)); (focus (simp (disch := (first | omega | (simp only [push_cast]; done) | (simp only [push_cast]; omega) | ((try simp only [push_cast]); (with_reducible first | apply sel_lt | apply sel_ge); (focus decide); (focus (simp only [push_cast]; omega))))) only [push_cast, ↓reduceIte, Nat.reduceEqDiff, Nat.reduceBEq, Nat.reduceAdd, Nat.reduceSub, Int.reduceToNat, *] <;> with_reducible exact rfl)); all_goals try (intro hX; first | (cases hX; done) | ((with_reducible first | have hX0 : true = true := hX | have hX0 : false = false := hX); clear hX0 hX) | ((try simp only [decide_eq_true_eq, decide_eq_false_iff_not, Bool.not_eq_true', Bool.not_eq_false'] at hX); (try have hXb := inB_iff.1 hX)))))); all_goals try (exfalso; omega)
          ((first | apply i_end | apply i_endN); simp (disch := (first | omega | (simp only [push_cast]; done) | (simp only [push_cast]; omega) | ((try simp only [push_cast]); (with_reducible first | apply sel_lt | apply sel_ge); (focus decide); (focus (simp only [push_cast]; omega))))) only [push_cast, ↓reduceIte, Nat.reduceEqDiff, Nat.reduceBEq, Nat.reduceAdd, Nat.reduceSub, Int.reduceToNat, *])
        | true =>
          (repeat' (first | (with_reducible first | apply i_seq | apply i_block | apply i_skip | apply i_exit | apply i_ret | apply i_kS | apply i_kSx | apply i_kSr | apply i_kL | apply i_kLx | apply i_kLr | apply i_kB | apply i_kBr | apply i_kBs | apply i_nil) | ((with_reducible apply i_region); (focus (simp only [List.map_cons, List.map_nil] <;> exact rfl))) | ((with_reducible apply i_draw); (focus (simp only [List.map_cons, List.map_nil] <;> exact rfl)); (focus (decide +kernel))) | ((with_reducible apply i_kBo); (focus rfl)) | ((first | ((with_reducible apply i_V); (focus rfl); (focus rfl); (focus rfl)) | ((with_reducible apply i_E); (focus rfl); (focus (first | rfl | (simp only [push_cast, ↓reduceIte, effOk, touch, refsOf, List.flatMap_cons, List.flatMap_nil])))) | ((with_reducible apply i_S); (focus rfl); (focus (first | rfl | (simp only [push_cast, ↓reduceIte, effOk, touch, refsOf, List.flatMap_cons, List.flatMap_nil])))) | ((with_reducible apply i_Vq); (focus rfl); (focus rfl)) | ((with_reducible apply i_Vp); (focus rfl); (focus rfl); (focus rfl)) | (with_reducible first | apply i_Gb | apply i_cond)); (focus (simp (disch := (first | omega | (simp only [push_cast]; done) | (simp only [push_cast]; omega) | ((try simp only [push_cast]); (with_reducible first | apply sel_lt | apply sel_ge); (focus decide); (focus (simp only [push_cast]; omega))))) only [push_cast, ↓reduceIte, Nat.reduceEqDiff, Nat.reduceBEq, Nat.reduceAdd, Nat.reduceSub, Int.reduceToNat, *] <;> with_reducible exact rfl)); all_goals try (intro hX; first | (cases hX; done) | ((with_reducible first | have hX0 : true = true := hX | have hX0 : false = false := hX); clear hX0 hX) | ((try simp only [decide_eq_true_eq, decide_eq_false_iff_not, Bool.not_eq_true', Bool.not_eq_false'] at hX); (try have hXb := inB_iff.1 hX)))))); all_goals try (exfalso; omega)
          refine ⟨k + 1, ⟨by omega, fun j hj => ?_⟩, by dsimp only; omega, ?_, ?_, rfl⟩
          · by_cases h1 : j < k
            · exact hok.out j h1
            · have : j = k := by omega
              subst this
              exact hpk
          · simp (disch := (first | omega | (simp only [push_cast]; done) | (simp only [push_cast]; omega) | ((try simp only [push_cast]); (with_reducible first | apply sel_lt | apply sel_ge); (focus decide); (focus (simp only [push_cast]; omega))))) only [push_cast, ↓reduceIte, Nat.reduceEqDiff, Nat.reduceBEq, Nat.reduceAdd, Nat.reduceSub, Int.reduceToNat, List.length_append, *]
          · simp (disch := (first | omega | (simp only [push_cast]; done) | (simp only [push_cast]; omega) | ((try simp only [push_cast]); (with_reducible first | apply sel_lt | apply sel_ge); (focus decide); (focus (simp only [push_cast]; omega))))) only [push_cast, ↓reduceIte, Nat.reduceEqDiff, Nat.reduceBEq, Nat.reduceAdd, Nat.reduceSub, Int.reduceToNat, List.length_append, *]
      have hpb : prB s = true := prB_yes fun j hj => hok.out j (by omega)
      rw [hpb, if_pos rfl]
      clear hok hpb
      (repeat' (first | (with_reducible first | apply i_seq | apply i_block | apply i_skip | apply i_exit | apply i_ret | apply i_kS | apply i_kSx | apply i_kSr | apply i_kL | apply i_kLx | apply i_kLr | apply i_kB | apply i_kBr | apply i_kBs | apply i_nil) | ((with_reducible apply i_region); (focus (simp only [List.map_cons, List.map_nil] <;> exact rfl))) | ((with_reducible apply i_draw); (focus (simp only [List.map_cons, List.map_nil] <;> exact rfl)); (focus (decide +kernel))) | ((with_reducible apply i_kBo); (focus rfl)) | ((first | ((with_reducible apply i_V); (focus rfl); (focus rfl); (focus rfl)) | ((with_reducible apply i_E); (focus rfl); (focus (first | rfl | (simp only [push_cast, ↓reduceIte, effOk, touch, refsOf, List.flatMap_cons, List.flatMap_nil])))) | ((with_reducible apply i_S); (focus rfl); (focus (first | rfl | (simp only [push_cast, ↓reduceIte, effOk, touch, refsOf, List.flatMap_cons, List.flatMap_nil])))) | ((with_reducible apply i_Vq); (focus rfl); (focus rfl)) | ((with_reducible apply i_Vp); (focus rfl); (focus rfl); (focus rfl)) | (with_reducible first | apply i_Gb | apply i_cond)); (focus (simp (disch := (first | omega | (simp only [push_cast]; done) | (simp only [push_cast]; omega) | ((try simp only [push_cast]); (with_reducible first | apply sel_lt | apply sel_ge); (focus decide); (focus (simp only [push_cast]; omega))))) only [push_cast, ↓reduceIte, Nat.reduceEqDiff, Nat.reduceBEq, Nat.reduceAdd, Nat.reduceSub, Int.reduceToNat, *] <;> with_reducible exact rfl)); all_goals try (intro hX; first | (cases hX; done) | ((with_reducible first | have hX0 : true = true := hX | have hX0 : false = false := hX); clear hX0 hX) | ((try simp only [decide_eq_true_eq, decide_eq_false_iff_not, Bool.not_eq_true', Bool.not_eq_false'] at hX); (try have hXb := inB_iff.1 hX)))))); all_goals try (exfalso; omega)
      refine i_loop (α := Nat) mixed (fun j => [(1, iv col), (2, iv row), (3, .val (.string s)), (4, .own 0 2 0 0), (8, .own 1 2 0 0), (10, .own 3 2 0 0), (12, iv j)])
        (fun j => [(0, 26, 2, [.agg [.val (.int .i64 wd), .row 2 1 0 l.length]]), (1, 26, 2, [.agg [.val (.int .i64 0), .val (.slice none 0 0)]]), (3, 26, 2, [.agg [.val (.int .i64 wd), .row 5 1 0 l.length]]), (5, 5, 1, (putM l (row * wd + col).toNat s j).map fun n => .val (.int .u8 n))]) (fun _ => 6)
        (fun j => j ≤ s.size) (fun j => s.size - j) (by kernel_rfl) 0 (Nat.zero_le _) ?_ ?_ rfl ?_
      · simp (disch := (first | omega | (simp only [push_cast]; done) | (simp only [push_cast]; omega) | ((try simp only [push_cast]); (with_reducible first | apply sel_lt | apply sel_ge); (focus decide); (focus (simp only [push_cast]; omega))))) only [push_cast, ↓reduceIte, Nat.reduceEqDiff, Nat.reduceBEq, Nat.reduceAdd, Nat.reduceSub, Int.reduceToNat, List.length_append, *]
      · simp (disch := (first | omega | (simp only [push_cast]; done) | (simp only [push_cast]; omega) | ((try simp only [push_cast]); (with_reducible first | apply sel_lt | apply sel_ge); (focus decide); (focus (simp only [push_cast]; omega))))) only [push_cast, ↓reduceIte, Nat.reduceEqDiff, Nat.reduceBEq, Nat.reduceAdd, Nat.reduceSub, Int.reduceToNat, putM_zero, *]
      clear hk hks hrk
      intro j hj
      have hT : (row * wd + col + j).toNat = (row * wd + col).toNat + j := by omega
      have hrj := at8_rng s j
      have hml : (putM l (row * wd + col).toNat s j).length = l.length := putM_length (by omega) hj
      by_cases hjs : j < s.size
      · (repeat' (first | (with_reducible first | apply i_seq | apply i_block | apply i_skip | apply i_exit | apply i_ret | apply i_kS | apply i_kSx | apply i_kSr | apply i_kL | apply i_kLx | apply i_kLr | apply i_kB | apply i_kBr | apply i_kBs | apply i_nil) | ((with_reducible apply i_region); (focus (simp only [List.map_cons, List.map_nil] <;> exact rfl))) | ((with_reducible apply i_draw); (focus (simp only [List.map_cons, List.map_nil] <;> exact rfl)); (focus (decide +kernel))) | ((with_reducible apply i_kBo); (focus rfl)) | ((first | ((with_reducible apply i_V); (focus rfl); (focus rfl); (focus rfl)) | ((with_reducible apply i_E); (focus rfl); (focus (first | rfl | (simp only [push_cast, ↓reduceIte, effOk, touch, refsOf, List.flatMap_cons, List.flatMap_nil])))) | ((with_reducible apply i_S); (focus rfl); (focus (first | rfl | (simp only [push_cast, ↓reduceIte, effOk, touch, refsOf, List.flatMap_cons, List.flatMap_nil])))) | ((with_reducible apply i_Vq); (focus rfl); (focus rfl)) | ((with_reducible apply i_Vp); (focus rfl); (focus rfl); (focus rfl)) | (with_reducible first | apply i_Gb | apply i_cond)); (focus (simp (disch := (first | omega | (simp only [push_cast]; done) | (simp only [push_cast]; omega) | ((try simp only [push_cast]); (with_reducible first | apply sel_lt | apply sel_ge); (focus decide); (focus (simp only [push_cast]; omega))))) only [push_cast, ↓reduceIte, Nat.reduceEqDiff, Nat.reduceBEq, Nat.reduceAdd, Nat.reduceSub, Int.reduceToNat, *] <;> with_reducible exact rfl)); all_goals try (intro hX; first | (cases hX; done) | ((with_reducible first | have hX0 : true = true := hX | have hX0 : false = false := hX); clear hX0 hX) | ((try simp only [decide_eq_true_eq, decide_eq_false_iff_not, Bool.not_eq_true', Bool.not_eq_false'] at hX); (try have hXb := inB_iff.1 hX)))))); all_goals try (exfalso; omega)
        refine ⟨j + 1, by omega, by dsimp only; omega, ?_, ?_, rfl⟩
        · simp (disch := (first | omega | (simp only [push_cast]; done) | (simp only [push_cast]; omega) | ((try simp only [push_cast]); (with_reducible first | apply sel_lt | apply sel_ge); (focus decide); (focus (simp only [push_cast]; omega))))) only [push_cast, ↓reduceIte, Nat.reduceEqDiff, Nat.reduceBEq, Nat.reduceAdd, Nat.reduceSub, Int.reduceToNat, List.length_append, *]
        · simp (disch := (first | omega | (simp only [push_cast]; done) | (simp only [push_cast]; omega) | ((try simp only [push_cast]); (with_reducible first | apply sel_lt | apply sel_ge); (focus decide); (focus (simp only [push_cast]; omega))))) only [push_cast, ↓reduceIte, Nat.reduceEqDiff, Nat.reduceBEq, Nat.reduceAdd, Nat.reduceSub, Int.reduceToNat, *]
          rw [putM_set (by omega) hjs]
      · obtain rfl : j = s.size := by omega
        (repeat' (first | (with_reducible first | apply i_seq | apply i_block | apply i_skip | apply i_exit | apply i_ret | apply i_kS | apply i_kSx | apply i_kSr | apply i_kL | apply i_kLx | apply i_kLr | apply i_kB | apply i_kBr | apply i_kBs | apply i_nil) | ((with_reducible apply i_region); (focus (simp only [List.map_cons, List.map_nil] <;> exact rfl))) | ((with_reducible apply i_draw); (focus (simp only [List.map_cons, List.map_nil] <;> exact rfl)); (focus (decide +kernel))) | ((with_reducible apply i_kBo); (focus rfl)) | ((first | ((with_reducible apply i_V); (focus rfl); (focus rfl); (focus rfl)) | ((with_reducible apply i_E); (focus rfl); (focus (first | rfl | (simp only [push_cast, ↓reduceIte, effOk, touch, refsOf, List.flatMap_cons, List.flatMap_nil])))) | ((with_reducible apply i_S); (focus rfl); (focus (first | rfl | (simp only [push_cast, ↓reduceIte, effOk, touch, refsOf, List.flatMap_cons, List.flatMap_nil])))) | ((with_reducible apply i_Vq); (focus rfl); (focus rfl)) | ((with_reducible apply i_Vp); (focus rfl); (focus rfl); (focus rfl)) | (with_reducible first | apply i_Gb | apply i_cond)); (focus (simp (disch := (first | omega | (simp only [push_cast]; done) | (simp only [push_cast]; omega) | ((try simp only [push_cast]); (with_reducible first | apply sel_lt | apply sel_ge); (focus decide); (focus (simp only [push_cast]; omega))))) only [push_cast, ↓reduceIte, Nat.reduceEqDiff, Nat.reduceBEq, Nat.reduceAdd, Nat.reduceSub, Int.reduceToNat, *] <;> with_reducible exact rfl)); all_goals try (intro hX; first | (cases hX; done) | ((with_reducible first | have hX0 : true = true := hX | have hX0 : false = false := hX); clear hX0 hX) | ((try simp only [decide_eq_true_eq, decide_eq_false_iff_not, Bool.not_eq_true', Bool.not_eq_false'] at hX); (try have hXb := inB_iff.1 hX)))))); all_goals try (exfalso; omega)
        rw [← putM_full]
        ((first | apply i_end | apply i_endN); simp (disch := (first | omega | (simp only [push_cast]; done) | (simp only [push_cast]; omega) | ((try simp only [push_cast]); (with_reducible first | apply sel_lt | apply sel_ge); (focus decide); (focus (simp only [push_cast]; omega))))) only [push_cast, ↓reduceIte, Nat.reduceEqDiff, Nat.reduceBEq, Nat.reduceAdd, Nat.reduceSub, Int.reduceToNat, *])
def nrm1 (sz : Nat) : PV → PV
  | .agg cs => .agg (cs.map (nrm sz))
  | p => nrm sz p
theorem le_nrm1 (sz : Nat) (p : PV) : p.le (nrm1 sz p) := by
  unfold nrm1
  split
  · exact agg_le (leL_nrm sz _)
  · exact le_nrm sz p
theorem leL_nrm1 (sz : Nat) : ∀ ps : List PV, leL ps (ps.map (nrm1 sz))
  | [] => trivial
  | p :: ps => ⟨le_nrm1 sz p, leL_nrm1 sz ps⟩
def nilG (sz : Nat) (φ : Fun) : Fun := fun ps => φ (ps.map (nrm1 sz))
theorem Sound.nilG {P : Program} {f : Nat} {φ : Fun} (h : Sound P f φ) (sz : Nat) : Sound P f (Proofs.YtpggpdbipajchaaDoor.nilG sz φ) :=
  h.weak fun ps r hr => ⟨_, r, leL_nrm1 sz ps, hr, PV.le_refl _⟩
theorem putR_length {wd : Int} {l : List Int} {col row : Int} {s : ByteArray} (h : gridB wd l = true) : (putR wd l col row s).length = l.length := by
  unfold putR
  split
  · rename_i hp
    obtain ⟨hw, hmod, hdiv, he, h0, h36, hpr⟩ := gridB_facts h
    unfold putPre at hp
    simp only [Bool.and_eq_true, decide_eq_true_eq] at hp
    have hcb := inB_iff.1 hp.1.1
    have hrb := inB_iff.1 hp.1.2.1
    obtain ⟨f1, f2⟩ := row_fit hrb.1 hrb.2 hw.1 he
    have := hp.1.2.2
    unfold putL
    have := strI_length s
    simp
    omega
  · rfl
end Go.Proofs.YtpggpdbipajchaaDoor
namespace Go.Proofs.YtpggpdbipajchaaDoor
open Go.RowKit
set_option linter.all false
def gridO (w h : Int) : Bool := inB w 1 60 && inB h 1 60
theorem gridO_iff {w h : Int} : gridO w h = true ↔ (1 ≤ w ∧ w ≤ 60) ∧ (1 ≤ h ∧ h ≤ 60) := by
  unfold gridO
  rw [Bool.and_eq_true]
  exact ⟨fun h => ⟨inB_iff.1 h.1, inB_iff.1 h.2⟩, fun h => ⟨inB_iff.2 h.1, inB_iff.2 h.2⟩⟩
abbrev spcs (n : Nat) : List PV := (List.replicate n (32 : Int)).map fun n => .val (.int .u8 n)
def gridZ (w h : Int) : PV × List CellIO :=
  if gridO w h = true then (.agg [.val (.int .i64 w), .row 0 1 0 (w * h).toNat], [(5, 1, spcs (w * h).toNat)]) else (.agg [.val (.int .i64 0), .val (.slice none 0 0)], [])
def ΨGridOf : FunN := G2 dI dI fun w h => some (gridZ w h)
theorem ΨGridOf_ap {w h : Int} : ΨGridOf [.val (.int .i64 w), .val (.int .i64 h)] = some (gridZ w h) := G2_ap (A := dI) (B := dI) w h
theorem area_rng {w h : Int} (h1 : gridO w h = true) : 1 ≤ w * h ∧ w * h ≤ 3600 := by
  obtain ⟨a, b⟩ := gridO_iff.1 h1
  have k1 : 1 * 1 ≤ w * h := Int.mul_le_mul a.1 b.1 (by omega) (by omega)
  have k2 : w * h ≤ 60 * 60 := Int.mul_le_mul a.2 b.2 (by omega) (by omega)
  omega
noncomputable def GSgo : Ctx := ⟨fun f => if f = 48 then some φIn else none, fun f => none⟩
theorem GSgo_ok : SoundΓ Tryd.prog GSgo := ⟨(fun f φ h => by
  unfold GSgo at h
  dsimp only at h
  split at h
  · rename_i hf; cases h; subst hf; exact ⟨⟨_, Tryd.func48, rfl, rfl⟩, l1In_ok⟩
  cases h), (fun f φ h => by
  unfold GSgo at h
  dsimp only at h
  cases h)⟩
theorem GSgo_48 (ob : Objs) (ps : List PV) : evCall GSgo ob 48 ps = (ps.mapM (reify false 0 ob fuel)).bind φIn := by
  have h : GSgo.fn 48 = some φIn := by simp [GSgo]
  unfold evCall
  rw [h]
  cases ps.mapM (reify false 0 ob fuel) <;> rfl
set_option maxHeartbeats 8000000 in
theorem specGridOfN : SoundN Tryd.prog 47 ΨGridOf := by
  refine sound_pqN mixed GSgo_ok Tryd.func47 rfl 31 rfl [.cell 4 26] rfl (by kernel_rfl) fun ps r cs' hr => ?_
  obtain ⟨wd, ht, rfl, hq⟩ := G2_some hr
  clear hr
  have hz : gridZ wd ht = (r, cs') := by simpa using hq
  clear hq
  refine ⟨by simp, ?_⟩
  simp only [dIs, dUs, dSs, dI_e, dU_e, dB_e, dS_e, dFn_e, dL_e, dA2_e, dA3_e, dA4_e, dA5_e]
  have ap := φIn_ap
  unfold gridZ at hz
  cases hG : gridO wd ht with
  | false =>
    rw [hG, if_neg (by simp)] at hz
    cases hz
    unfold gridO at hG
    have gsgo_c48 := GSgo_48
    (repeat' (first | (with_reducible first | apply i_seq | apply i_block | apply i_skip | apply i_exit | apply i_ret | apply i_kS | apply i_kSx | apply i_kSr | apply i_kL | apply i_kLx | apply i_kLr | apply i_kB | apply i_kBr | apply i_kBs | apply i_nil) | ((with_reducible apply i_region); (focus (simp only [List.map_cons, List.map_nil] <;> exact rfl))) | ((with_reducible apply i_draw); (focus (simp only [List.map_cons, List.map_nil] <;> exact rfl)); (focus (decide +kernel))) | ((with_reducible apply i_kBo); (focus rfl)) | ((first | ((with_reducible apply i_V); (focus rfl); (focus rfl); (focus rfl)) | ((with_reducible apply i_E); (focus rfl); (focus (first | rfl | (simp only [push_cast, ↓reduceIte, effOk, touch, refsOf, List.flatMap_cons, List.flatMap_nil])))) | ((with_reducible apply i_S); (focus rfl); (focus (first | rfl | (simp only [push_cast, ↓reduceIte, effOk, touch, refsOf, List.flatMap_cons, List.flatMap_nil])))) | ((with_reducible apply i_Vq); (focus rfl); (focus rfl)) | ((with_reducible apply i_Vp); (focus rfl); (focus rfl); (focus rfl)) | (with_reducible first | apply i_Gb | apply i_cond)); (focus (simp (disch := (first | omega | (simp only [push_cast]; done) | (simp only [push_cast]; omega) | ((try simp only [push_cast]); (with_reducible first | apply sel_lt | apply sel_ge); (focus decide); (focus (simp only [push_cast]; omega))))) only [push_cast, ↓reduceIte, Nat.reduceEqDiff, Nat.reduceBEq, Nat.reduceAdd, Nat.reduceSub, Int.reduceToNat, *] <;> with_reducible exact rfl)); all_goals try (intro hX; first | (cases hX; done) | ((with_reducible first | have hX0 : true = true := hX | have hX0 : false = false := hX); clear hX0 hX) | ((try simp only [decide_eq_true_eq, decide_eq_false_iff_not, Bool.not_eq_true', Bool.not_eq_false'] at hX); (try have hXb := inB_iff.1 hX)))))); all_goals try (exfalso; omega)
    all_goals (first | (exfalso; simp_all; done) | (((with_reducible apply i_endN0 (by first | exact .inl rfl | exact .inr rfl)); (focus (simp (disch := (first | omega | (simp only [push_cast]; done) | (simp only [push_cast]; omega) | ((try simp only [push_cast]); (with_reducible first | apply sel_lt | apply sel_ge); (focus decide); (focus (simp only [push_cast]; omega))))) only [push_cast, ↓reduceIte, Nat.reduceEqDiff, Nat.reduceBEq, Nat.reduceAdd, Nat.reduceSub, Int.reduceToNat, *] <;> with_reducible exact rfl))); done) | skip)
  | true =>
    rw [hG, if_pos rfl] at hz
    cases hz
    obtain ⟨hw, hh⟩ := gridO_iff.1 hG
    have hwi := inB_iff.2 hw
    have hhi := inB_iff.2 hh
    have har := area_rng hG
    clear hG
    have gsgo_c48 := GSgo_48
    (repeat' (first | (with_reducible first | apply i_seq | apply i_block | apply i_skip | apply i_exit | apply i_ret | apply i_kS | apply i_kSx | apply i_kSr | apply i_kL | apply i_kLx | apply i_kLr | apply i_kB | apply i_kBr | apply i_kBs | apply i_nil) | ((with_reducible apply i_region); (focus (simp only [List.map_cons, List.map_nil] <;> exact rfl))) | ((with_reducible apply i_draw); (focus (simp only [List.map_cons, List.map_nil] <;> exact rfl)); (focus (decide +kernel))) | ((with_reducible apply i_kBo); (focus rfl)) | ((first | ((with_reducible apply i_V); (focus rfl); (focus rfl); (focus rfl)) | ((with_reducible apply i_E); (focus rfl); (focus (first | rfl | (simp only [push_cast, ↓reduceIte, effOk, touch, refsOf, List.flatMap_cons, List.flatMap_nil])))) | ((with_reducible apply i_S); (focus rfl); (focus (first | rfl | (simp only [push_cast, ↓reduceIte, effOk, touch, refsOf, List.flatMap_cons, List.flatMap_nil])))) | ((with_reducible apply i_Vq); (focus rfl); (focus rfl)) | ((with_reducible apply i_Vp); (focus rfl); (focus rfl); (focus rfl)) | (with_reducible first | apply i_Gb | apply i_cond)); (focus (simp (disch := (first | omega | (simp only [push_cast]; done) | (simp only [push_cast]; omega) | ((try simp only [push_cast]); (with_reducible first | apply sel_lt | apply sel_ge); (focus decide); (focus (simp only [push_cast]; omega))))) only [push_cast, ↓reduceIte, Nat.reduceEqDiff, Nat.reduceBEq, Nat.reduceAdd, Nat.reduceSub, Int.reduceToNat, *] <;> with_reducible exact rfl)); all_goals try (intro hX; first | (cases hX; done) | ((with_reducible first | have hX0 : true = true := hX | have hX0 : false = false := hX); clear hX0 hX) | ((try simp only [decide_eq_true_eq, decide_eq_false_iff_not, Bool.not_eq_true', Bool.not_eq_false'] at hX); (try have hXb := inB_iff.1 hX)))))); all_goals try (exfalso; omega)
    refine i_loop (α := List Int × Nat × Nat) mixed (fun s => [(0, iv wd), (1, iv ht), (4, .own 0 2 0 0), (5, .own 1 2 0 0), (6, iv s.1.length)])
      (fun s => (0, 26, 2, [PV.agg [.val (.int .i64 0), .val (.slice none 0 0)]]) :: (1, 26, 2, [PV.agg [.val (.int .i64 wd), nP 1 (s.1.map fun n => .val (.int .u8 n)) s.2.1]]) :: nO 5 1 (s.1.map fun n => .val (.int .u8 n)) s.2.1) (fun s => s.2.2)
      (fun s => s.1 = List.replicate s.1.length 32 ∧ (s.1.length : Int) ≤ wd * ht ∧ 2 ≤ s.2.2 ∧ (0 < s.1.length → 1 < s.2.1 ∧ s.2.1 < s.2.2)) (fun s => (wd * ht).toNat - s.1.length) (by kernel_rfl) ([], 0, 2) ⟨rfl, by simp; omega, by simp, by simp⟩ ?_ ?_ rfl ?_
    · simp (disch := (first | omega | (simp only [push_cast]; done) | (simp only [push_cast]; omega) | ((try simp only [push_cast]); (with_reducible first | apply sel_lt | apply sel_ge); (focus decide); (focus (simp only [push_cast]; omega))))) only [push_cast, ↓reduceIte, Nat.reduceEqDiff, Nat.reduceBEq, Nat.reduceAdd, Nat.reduceSub, Int.reduceToNat, List.length_append, *]
    · simp (disch := (first | omega | (simp only [push_cast]; done) | (simp only [push_cast]; omega) | ((try simp only [push_cast]); (with_reducible first | apply sel_lt | apply sel_ge); (focus decide); (focus (simp only [push_cast]; omega))))) only [push_cast, ↓reduceIte, Nat.reduceEqDiff, Nat.reduceBEq, Nat.reduceAdd, Nat.reduceSub, Int.reduceToNat, List.length_append, *]
    rintro ⟨L, x, y⟩ ⟨hL, hk, hy, hxy⟩
    dsimp only at hL hk hy hxy
    replace hL := Lib.hid hL
    have hstep : L ++ [32] = List.replicate (L ++ [32]).length 32 := by
      rw [List.length_append, List.length_cons, List.length_nil, Nat.zero_add, List.replicate_succ', ← hL.out]
    replace hstep := Lib.hid hstep
    by_cases h0 : L.length = 0
    · obtain rfl : L = [] := List.eq_nil_of_length_eq_zero h0
      clear h0 hxy
      (repeat' (first | (with_reducible first | apply i_seq | apply i_block | apply i_skip | apply i_exit | apply i_ret | apply i_kS | apply i_kSx | apply i_kSr | apply i_kL | apply i_kLx | apply i_kLr | apply i_kB | apply i_kBr | apply i_kBs | apply i_nil) | ((with_reducible apply i_region); (focus (simp only [List.map_cons, List.map_nil] <;> exact rfl))) | ((with_reducible apply i_draw); (focus (simp only [List.map_cons, List.map_nil] <;> exact rfl)); (focus (decide +kernel))) | ((with_reducible apply i_kBo); (focus rfl)) | ((first | ((with_reducible apply i_V); (focus rfl); (focus rfl); (focus rfl)) | ((with_reducible apply i_E); (focus rfl); (focus (first | rfl | (simp only [push_cast, ↓reduceIte, effOk, touch, refsOf, List.flatMap_cons, List.flatMap_nil])))) | ((with_reducible apply i_S); (focus rfl); (focus (first | rfl | (simp only [push_cast, ↓reduceIte, effOk, touch, refsOf, List.flatMap_cons, List.flatMap_nil])))) | ((with_reducible apply i_Vq); (focus rfl); (focus rfl)) | ((with_reducible apply i_Vp); (focus rfl); (focus rfl); (focus rfl)) | (with_reducible first | apply i_Gb | apply i_cond)); (focus (simp (disch := (first | omega | (simp only [push_cast]; done) | (simp only [push_cast]; omega) | ((try simp only [push_cast]); (with_reducible first | apply sel_lt | apply sel_ge); (focus decide); (focus (simp only [push_cast]; omega))))) only [push_cast, ↓reduceIte, Nat.reduceEqDiff, Nat.reduceBEq, Nat.reduceAdd, Nat.reduceSub, Int.reduceToNat, *] <;> with_reducible exact rfl)); all_goals try (intro hX; first | (cases hX; done) | ((with_reducible first | have hX0 : true = true := hX | have hX0 : false = false := hX); clear hX0 hX) | ((try simp only [decide_eq_true_eq, decide_eq_false_iff_not, Bool.not_eq_true', Bool.not_eq_false'] at hX); (try have hXb := inB_iff.1 hX)))))); all_goals try (exfalso; omega)
      · refine ⟨([] ++ [32], y + 1, y + 2), ⟨hstep.out, by simp; omega, by dsimp only; omega, fun _ => by dsimp only; omega⟩, by simp; omega, ?_, ?_, rfl⟩
        · simp (disch := (first | omega | (simp only [push_cast]; done) | (simp only [push_cast]; omega) | ((try simp only [push_cast]); (with_reducible first | apply sel_lt | apply sel_ge); (focus decide); (focus (simp only [push_cast]; omega))))) only [push_cast, ↓reduceIte, Nat.reduceEqDiff, Nat.reduceBEq, Nat.reduceAdd, Nat.reduceSub, Int.reduceToNat, List.length_append, *]
        · simp (disch := (first | omega | (simp only [push_cast]; done) | (simp only [push_cast]; omega) | ((try simp only [push_cast]); (with_reducible first | apply sel_lt | apply sel_ge); (focus decide); (focus (simp only [push_cast]; omega))))) only [push_cast, ↓reduceIte, Nat.reduceEqDiff, Nat.reduceBEq, Nat.reduceAdd, Nat.reduceSub, Int.reduceToNat, List.length_append, *]
    · obtain ⟨hx1, hx2⟩ := hxy (by omega)
      clear hxy
      (repeat' (first | (with_reducible first | apply i_seq | apply i_block | apply i_skip | apply i_exit | apply i_ret | apply i_kS | apply i_kSx | apply i_kSr | apply i_kL | apply i_kLx | apply i_kLr | apply i_kB | apply i_kBr | apply i_kBs | apply i_nil) | ((with_reducible apply i_region); (focus (simp only [List.map_cons, List.map_nil] <;> exact rfl))) | ((with_reducible apply i_draw); (focus (simp only [List.map_cons, List.map_nil] <;> exact rfl)); (focus (decide +kernel))) | ((with_reducible apply i_kBo); (focus rfl)) | ((first | ((with_reducible apply i_V); (focus rfl); (focus rfl); (focus rfl)) | ((with_reducible apply i_E); (focus rfl); (focus (first | rfl | (simp only [push_cast, ↓reduceIte, effOk, touch, refsOf, List.flatMap_cons, List.flatMap_nil])))) | ((with_reducible apply i_S); (focus rfl); (focus (first | rfl | (simp only [push_cast, ↓reduceIte, effOk, touch, refsOf, List.flatMap_cons, List.flatMap_nil])))) | ((with_reducible apply i_Vq); (focus rfl); (focus rfl)) | ((with_reducible apply i_Vp); (focus rfl); (focus rfl); (focus rfl)) | (with_reducible first | apply i_Gb | apply i_cond)); (focus (simp (disch := (first | omega | (simp only [push_cast]; done) | (simp only [push_cast]; omega) | ((try simp only [push_cast]); (with_reducible first | apply sel_lt | apply sel_ge); (focus decide); (focus (simp only [push_cast]; omega))))) only [push_cast, ↓reduceIte, Nat.reduceEqDiff, Nat.reduceBEq, Nat.reduceAdd, Nat.reduceSub, Int.reduceToNat, *] <;> with_reducible exact rfl)); all_goals try (intro hX; first | (cases hX; done) | ((with_reducible first | have hX0 : true = true := hX | have hX0 : false = false := hX); clear hX0 hX) | ((try simp only [decide_eq_true_eq, decide_eq_false_iff_not, Bool.not_eq_true', Bool.not_eq_false'] at hX); (try have hXb := inB_iff.1 hX)))))); all_goals try (exfalso; omega)
      · refine ⟨(L ++ [32], y + 1, y + 2), ⟨hstep.out, by simp; omega, by dsimp only; omega, fun _ => by dsimp only; omega⟩, by simp; omega, ?_, ?_, rfl⟩
        · simp (disch := (first | omega | (simp only [push_cast]; done) | (simp only [push_cast]; omega) | ((try simp only [push_cast]); (with_reducible first | apply sel_lt | apply sel_ge); (focus decide); (focus (simp only [push_cast]; omega))))) only [push_cast, ↓reduceIte, Nat.reduceEqDiff, Nat.reduceBEq, Nat.reduceAdd, Nat.reduceSub, Int.reduceToNat, List.length_append, *]
        · simp (disch := (first | omega | (simp only [push_cast]; done) | (simp only [push_cast]; omega) | ((try simp only [push_cast]); (with_reducible first | apply sel_lt | apply sel_ge); (focus decide); (focus (simp only [push_cast]; omega))))) only [push_cast, ↓reduceIte, Nat.reduceEqDiff, Nat.reduceBEq, Nat.reduceAdd, Nat.reduceSub, Int.reduceToNat, List.length_append, *]
      · have e1 : (wd * ht).toNat = L.length := by omega
        rw [e1]
        unfold spcs
        rw [← hL.out]
        ((with_reducible apply i_endN1 (x) (by first | exact .inl rfl | exact .inr rfl)); (focus (simp (disch := (first | omega | (simp only [push_cast]; done) | (simp only [push_cast]; omega) | ((try simp only [push_cast]); (with_reducible first | apply sel_lt | apply sel_ge); (focus decide); (focus (simp only [push_cast]; omega))))) only [push_cast, ↓reduceIte, Nat.reduceEqDiff, Nat.reduceBEq, Nat.reduceAdd, Nat.reduceSub, Int.reduceToNat, *] <;> with_reducible exact rfl)); (focus (simp (disch := (first | omega | (simp only [push_cast]; done) | (simp only [push_cast]; omega) | ((try simp only [push_cast]); (with_reducible first | apply sel_lt | apply sel_ge); (focus decide); (focus (simp only [push_cast]; omega))))) only [push_cast, ↓reduceIte, Nat.reduceEqDiff, Nat.reduceBEq, Nat.reduceAdd, Nat.reduceSub, Int.reduceToNat, *] <;> with_reducible exact rfl)))
theorem gOf_lift {w h : Int} (hG : gridO w h = true) : liftN ΨGridOf [.val (.int .i64 w), .val (.int .i64 h)] [] = some (.agg [.val (.int .i64 w), .row 0 1 0 (w * h).toNat], [(5, 1, spcs (w * h).toNat)]) := by
  refine (liftN_of (cs := []) (qs := [.val (.int .i64 w), .val (.int .i64 h)]) rfl (ΨGridOf_ap.trans (by unfold gridZ; rw [if_pos hG])) rfl (by rw [mapM_cons', mapM_nil', renCT_vals]; rfl)).trans ?_
  rfl
end Go.Proofs.YtpggpdbipajchaaDoor
namespace Go.Proofs.YtpggpdbipajchaaDoor
open Go.RowKit
set_option linter.all false
def ΦOpen : FunIO := fun ps cs => match ps, cs with
  | [p], [] => (dUs.d p).map fun code => (.own 0 2 0 0, [rdC 102 (code.take 2000) 0])
  | _, _ => none
theorem ΦOpen_ap {code : List Int} : ΦOpen [.lst false 1 (code.map fun n => .val (.int .u8 n))] [] = some (.own 0 2 0 0, [rdC 102 (code.take 2000) 0]) := by
  have := dUs.h' code
  simp only [dUs, dL_e, dU_e] at this
  simp only [ΦOpen, dUs, this, Option.map_some]
theorem open_io : SoundIO Tryd.prog 60 ΦOpen := by
  refine sound_pq0 mixed GE_ok Tryd.func60 rfl 11 rfl [.tmp 2] rfl (by kernel_rfl) fun ps cs r cs' hr => ?_
  unfold ΦOpen at hr
  split at hr
  case h_2 => cases hr
  rename_i p
  rw [Option.map_eq_some_iff] at hr
  obtain ⟨code, h1, h2⟩ := hr
  obtain rfl := dUs.h _ _ h1
  clear h1
  cases h2
  refine ⟨rfl, by simp, ?_⟩
  simp only [dIs, dUs, dSs, dI_e, dU_e, dB_e, dS_e, dFn_e, dL_e, dA2_e, dA3_e, dA4_e, dA5_e]
  repeat' (first | (with_reducible first | apply i_seq | apply i_block | apply i_skip | apply i_exit | apply i_ret | apply i_kS | apply i_kSx | apply i_kSr | apply i_kL | apply i_kLx | apply i_kLr | apply i_kB | apply i_kBr | apply i_kBs | apply i_nil) | ((with_reducible apply i_region); (focus (simp only [List.map_cons, List.map_nil] <;> exact rfl))) | ((with_reducible apply i_draw); (focus (simp only [List.map_cons, List.map_nil] <;> exact rfl)); (focus (decide +kernel))) | ((with_reducible apply i_kBo); (focus rfl)) | ((first | ((with_reducible apply i_V); (focus rfl); (focus rfl); (focus rfl)) | ((with_reducible apply i_E); (focus rfl); (focus (first | rfl | (simp only [push_cast, ↓reduceIte, effOk, touch, refsOf, List.flatMap_cons, List.flatMap_nil])))) | ((with_reducible apply i_S); (focus rfl); (focus (first | rfl | (simp only [push_cast, ↓reduceIte, effOk, touch, refsOf, List.flatMap_cons, List.flatMap_nil])))) | ((with_reducible apply i_Vq); (focus rfl); (focus rfl)) | ((with_reducible apply i_Vp); (focus rfl); (focus rfl); (focus rfl)) | (with_reducible first | apply i_Gb | apply i_cond)); (focus (simp (disch := (first | omega | (simp only [push_cast]; done) | (simp only [push_cast]; omega) | ((try simp only [push_cast]); (with_reducible first | apply sel_lt | apply sel_ge); (focus decide); (focus (simp only [push_cast]; omega))))) only [push_cast, ↓reduceIte, Nat.reduceEqDiff, Nat.reduceBEq, Nat.reduceAdd, Nat.reduceSub, Int.reduceToNat, *] <;> with_reducible exact rfl)); all_goals try (intro hX; first | (cases hX; done) | ((with_reducible first | have hX0 : true = true := hX | have hX0 : false = false := hX); clear hX0 hX) | ((try simp only [decide_eq_true_eq, decide_eq_false_iff_not, Bool.not_eq_true', Bool.not_eq_false'] at hX); (try have hXb := inB_iff.1 hX)))))
  · refine i_endN1 0 (by first | exact .inl rfl | exact .inr rfl) ?_ ?_
    · (focus (simp (disch := (first | omega | (simp only [push_cast]; done) | (simp only [push_cast]; omega) | ((try simp only [push_cast]); (with_reducible first | apply sel_lt | apply sel_ge); (focus decide); (focus (simp only [push_cast]; omega))))) only [push_cast, ↓reduceIte, Nat.reduceEqDiff, Nat.reduceBEq, Nat.reduceAdd, Nat.reduceSub, Int.reduceToNat, rep_iv, rep_sv, rep_w, rep_i3, rep_i4, *] <;> with_reducible exact rfl))
    · simp only [push_cast, ↓reduceIte, Nat.reduceEqDiff, Nat.reduceBEq, Nat.reduceAdd, Nat.reduceSub, Int.reduceToNat, rdC]
  · have h : code.take 2000 = code := List.take_of_length_le (by simp_all; omega)
    refine i_endN1 0 (by first | exact .inl rfl | exact .inr rfl) ?_ ?_
    · (focus (simp (disch := (first | omega | (simp only [push_cast]; done) | (simp only [push_cast]; omega) | ((try simp only [push_cast]); (with_reducible first | apply sel_lt | apply sel_ge); (focus decide); (focus (simp only [push_cast]; omega))))) only [push_cast, ↓reduceIte, Nat.reduceEqDiff, Nat.reduceBEq, Nat.reduceAdd, Nat.reduceSub, Int.reduceToNat, rep_iv, rep_sv, rep_w, rep_i3, rep_i4, *] <;> with_reducible exact rfl))
    · simp only [push_cast, ↓reduceIte, Nat.reduceEqDiff, Nat.reduceBEq, Nat.reduceAdd, Nat.reduceSub, Int.reduceToNat, rdC, h]
theorem pick_ex : ∃ Φ : FunIO, SoundIO Tryd.prog 61 Φ ∧ Drw2 102 Φ 1000000000 1 (fun v : Int => PV.val (.int .i64 v)) (fun _ => True) (fun n v => 0 ≤ v ∧ (1 ≤ n → v < n)) := by
  refine drw2_of mixed GE_ok Tryd.func61 rfl 99 rfl [.tmp 4] rfl (by kernel_rfl) (by simp) _ _ _ _ _ _ fun code p n hok hp _ => ?_
  obtain ⟨hlen, hbyte, hp0, hp1⟩ := id hok
  have hb0 := hbyte p.toNat
  have hb1 := hbyte (p % code.length).toNat
  have hb2 := hbyte ((p * 7 + 3) % code.length).toNat
  have hm : 0 < code.length → 0 ≤ p % (code.length : Int) ∧ p % (code.length : Int) < code.length ∧ 0 ≤ (p * 7 + 3) % (code.length : Int) ∧ (p * 7 + 3) % (code.length : Int) < code.length ∧ 0 ≤ p / (code.length : Int) ∧ p / (code.length : Int) ≤ p := fun h =>
    ⟨Int.emod_nonneg _ (by omega), Int.emod_lt_of_pos _ (by omega), Int.emod_nonneg _ (by omega), Int.emod_lt_of_pos _ (by omega), Int.ediv_nonneg hp0 (by omega), Int.ediv_le_self _ hp0⟩
  clear hbyte
  repeat' (first | (first | (with_reducible first | apply i_seq | apply i_block | apply i_skip | apply i_exit | apply i_ret | apply i_kS | apply i_kSx | apply i_kSr | apply i_kL | apply i_kLx | apply i_kLr | apply i_kB | apply i_kBr | apply i_kBs | apply i_nil) | ((with_reducible apply i_region); (focus (simp only [List.map_cons, List.map_nil] <;> exact rfl))) | ((with_reducible apply i_draw); (focus (simp only [List.map_cons, List.map_nil] <;> exact rfl)); (focus (decide +kernel))) | ((with_reducible apply i_kBo); (focus rfl)) | ((first | ((with_reducible apply i_V); (focus rfl); (focus rfl); (focus rfl)) | ((with_reducible apply i_E); (focus rfl); (focus (first | rfl | (simp only [push_cast, ↓reduceIte, effOk, touch, refsOf, List.flatMap_cons, List.flatMap_nil])))) | ((with_reducible apply i_S); (focus rfl); (focus (first | rfl | (simp only [push_cast, ↓reduceIte, effOk, touch, refsOf, List.flatMap_cons, List.flatMap_nil])))) | ((with_reducible apply i_Vq); (focus rfl); (focus rfl)) | ((with_reducible apply i_Vp); (focus rfl); (focus rfl); (focus rfl)) | (with_reducible first | apply i_Gb | apply i_cond)); (focus (simp (disch := (first | omega | (simp only [push_cast]; done) | (simp only [push_cast]; omega) | ((try simp only [push_cast]); (with_reducible first | apply sel_lt | apply sel_ge); (focus decide); (focus (simp only [push_cast]; omega))))) only [push_cast, ↓reduceIte, Nat.reduceEqDiff, Nat.reduceBEq, Nat.reduceAdd, Nat.reduceSub, Int.reduceToNat, *] <;> with_reducible exact rfl)); all_goals try (intro hX; first | (cases hX; done) | ((with_reducible first | have hX0 : true = true := hX | have hX0 : false = false := hX); clear hX0 hX) | ((try simp only [decide_eq_true_eq, decide_eq_false_iff_not, Bool.not_eq_true', Bool.not_eq_false'] at hX); (try have hXb := inB_iff.1 hX))))) | ((with_reducible apply i_xor); (focus rfl); (focus (simp (disch := (first | omega | (simp only [push_cast]; done) | (simp only [push_cast]; omega) | ((try simp only [push_cast]); (with_reducible first | apply sel_lt | apply sel_ge); (focus decide); (focus (simp only [push_cast]; omega))))) only [push_cast, ↓reduceIte, Nat.reduceEqDiff, Nat.reduceBEq, Nat.reduceAdd, Nat.reduceSub, Int.reduceToNat, *] <;> with_reducible exact rfl)); (focus (simp (disch := (first | omega | (simp only [push_cast]; done) | (simp only [push_cast]; omega) | ((try simp only [push_cast]); (with_reducible first | apply sel_lt | apply sel_ge); (focus decide); (focus (simp only [push_cast]; omega))))) only [push_cast, ↓reduceIte, Nat.reduceEqDiff, Nat.reduceBEq, Nat.reduceAdd, Nat.reduceSub, Int.reduceToNat, *] <;> with_reducible exact rfl)); (focus (first | omega | (simp only [push_cast]; done) | (simp only [push_cast]; omega) | ((try simp only [push_cast]); (with_reducible first | apply sel_lt | apply sel_ge); (focus decide); (focus (simp only [push_cast]; omega))))); (focus (first | omega | (simp only [push_cast]; done) | (simp only [push_cast]; omega) | ((try simp only [push_cast]); (with_reducible first | apply sel_lt | apply sel_ge); (focus decide); (focus (simp only [push_cast]; omega))))); (focus (first | omega | (simp only [push_cast]; done) | (simp only [push_cast]; omega) | ((try simp only [push_cast]); (with_reducible first | apply sel_lt | apply sel_ge); (focus decide); (focus (simp only [push_cast]; omega))))); (focus (first | omega | (simp only [push_cast]; done) | (simp only [push_cast]; omega) | ((try simp only [push_cast]); (with_reducible first | apply sel_lt | apply sel_ge); (focus decide); (focus (simp only [push_cast]; omega))))); intro z hz1 hz2))
  all_goals ((with_reducible apply i_fin1 (by first | exact .inl rfl | exact .inr rfl)); (focus (simp (disch := (first | omega | (simp only [push_cast]; done) | (simp only [push_cast]; omega) | ((try simp only [push_cast]); (with_reducible first | apply sel_lt | apply sel_ge); (focus decide); (focus (simp only [push_cast]; omega))))) only [push_cast, ↓reduceIte, Nat.reduceEqDiff, Nat.reduceBEq, Nat.reduceAdd, Nat.reduceSub, Int.reduceToNat, rep_iv, rep_sv, rep_w, rep_i3, rep_i4, *] <;> with_reducible exact rfl)); (focus (simp (disch := (first | omega | (simp only [push_cast]; done) | (simp only [push_cast]; omega) | ((try simp only [push_cast]); (with_reducible first | apply sel_lt | apply sel_ge); (focus decide); (focus (simp only [push_cast]; omega))))) only [push_cast, ↓reduceIte, Nat.reduceEqDiff, Nat.reduceBEq, Nat.reduceAdd, Nat.reduceSub, Int.reduceToNat, rep_iv, rep_sv, rep_w, rep_i3, rep_i4, *] <;> with_reducible exact rfl)))
  all_goals (first | omega | exact hok.to (by omega) (by omega) | exact ⟨Int.emod_nonneg _ (by omega), fun _ => Int.emod_lt_of_pos _ (by omega)⟩)
noncomputable def Φpick : FunIO := Classical.choose pick_ex
theorem pick_io : SoundIO Tryd.prog 61 Φpick := (Classical.choose_spec pick_ex).1
theorem pick_drw : Drw2 102 Φpick 1000000000 1 (fun v : Int => PV.val (.int .i64 v)) (fun _ => True) (fun n v => 0 ≤ v ∧ (1 ≤ n → v < n)) := (Classical.choose_spec pick_ex).2
end Go.Proofs.YtpggpdbipajchaaDoor
namespace Go.Proofs.YtpggpdbipajchaaDoor
open Go.RowKit
set_option linter.all false
def glueB (g : I4) : Bool := inB g.1 0 1000 && inB g.2.1 0 1000 && inB g.2.2.1 0 g.1 && inB g.2.2.2 0 1
def φGlueV : Fun := F1 dI4 fun g => some (bv (glueB g))
theorem φGlueV_ap {a b c d : Int} : φGlueV [.agg [.val (.int .i64 a), .val (.int .i64 b), .val (.int .i64 c), .val (.int .i64 d)]] = some (.val (.bool (glueB (a, b, c, d)))) := F1_ap (A := dI4) (a, b, c, d)
noncomputable def GGl : Ctx := ⟨fun f => if f = 86 then some φIn else none, fun f => none⟩
theorem GGl_ok : SoundΓ Tryd.prog GGl := ⟨(fun f φ h => by
  unfold GGl at h
  dsimp only at h
  split at h
  · rename_i hf; cases h; subst hf; exact ⟨⟨_, Tryd.func86, rfl, rfl⟩, in_ok⟩
  cases h), (fun f φ h => by
  unfold GGl at h
  dsimp only at h
  cases h)⟩
theorem GGl_86 (ob : Objs) (ps : List PV) : evCall GGl ob 86 ps = (ps.mapM (reify false 0 ob fuel)).bind φIn := by
  have h : GGl.fn 86 = some φIn := by simp [GGl]
  unfold evCall
  rw [h]
  cases ps.mapM (reify false 0 ob fuel) <;> rfl
set_option maxHeartbeats 4000000 in
theorem implGlueV_ok : Sound Tryd.prog 62 φGlueV := by
  refine sound_pq mixed GGl_ok Tryd.func62 rfl 23 rfl [.tmp 2] rfl (by kernel_rfl) fun ps r hr => ?_
  obtain ⟨⟨a, b, c, d⟩, rfl, hr⟩ := F1_some hr
  cases hr
  refine ⟨by simp, ?_⟩
  simp only [dIs, dUs, dSs, dI_e, dU_e, dB_e, dS_e, dFn_e, dL_e, dA2_e, dA3_e, dA4_e, dA5_e]
  have ggl_c86 := GGl_86; have ap := φIn_ap
  repeat' (first | (with_reducible first | apply i_seq | apply i_block | apply i_skip | apply i_exit | apply i_ret | apply i_kS | apply i_kSx | apply i_kSr | apply i_kL | apply i_kLx | apply i_kLr | apply i_kB | apply i_kBr | apply i_kBs | apply i_nil) | ((with_reducible apply i_region); (focus (simp only [List.map_cons, List.map_nil] <;> exact rfl))) | ((with_reducible apply i_draw); (focus (simp only [List.map_cons, List.map_nil] <;> exact rfl)); (focus (decide +kernel))) | ((with_reducible apply i_kBo); (focus rfl)) | ((first | ((with_reducible apply i_V); (focus rfl); (focus rfl); (focus rfl)) | ((with_reducible apply i_E); (focus rfl); (focus (first | rfl | (simp only [push_cast, ↓reduceIte, effOk, touch, refsOf, List.flatMap_cons, List.flatMap_nil])))) | ((with_reducible apply i_S); (focus rfl); (focus (first | rfl | (simp only [push_cast, ↓reduceIte, effOk, touch, refsOf, List.flatMap_cons, List.flatMap_nil])))) | ((with_reducible apply i_Vq); (focus rfl); (focus rfl)) | ((with_reducible apply i_Vp); (focus rfl); (focus rfl); (focus rfl)) | (with_reducible first | apply i_Gb | apply i_cond)); (focus (simp (disch := (first | omega | (simp only [push_cast]; done) | (simp only [push_cast]; omega) | ((try simp only [push_cast]); (with_reducible first | apply sel_lt | apply sel_ge); (focus decide); (focus (simp only [push_cast]; omega))))) only [push_cast, ↓reduceIte, Nat.reduceEqDiff, Nat.reduceBEq, Nat.reduceAdd, Nat.reduceSub, Int.reduceToNat, *] <;> with_reducible exact rfl)); all_goals try (intro hX; first | (cases hX; done) | ((with_reducible first | have hX0 : true = true := hX | have hX0 : false = false := hX); clear hX0 hX) | ((try simp only [decide_eq_true_eq, decide_eq_false_iff_not, Bool.not_eq_true', Bool.not_eq_false'] at hX); (try have hXb := inB_iff.1 hX)))))
  all_goals ((first | apply i_end | apply i_endN); simp (disch := (first | omega | (simp only [push_cast]; done) | (simp only [push_cast]; omega) | ((try simp only [push_cast]); (with_reducible first | apply sel_lt | apply sel_ge); (focus decide); (focus (simp only [push_cast]; omega))))) only [push_cast, ↓reduceIte, Nat.reduceEqDiff, Nat.reduceBEq, Nat.reduceAdd, Nat.reduceSub, Int.reduceToNat, *])
  all_goals simp_all [glueB]
noncomputable def GAl : Ctx := ⟨fun f => if f = 62 then some φGlueV else none, fun f => none⟩
theorem GAl_ok : SoundΓ Tryd.prog GAl := ⟨(fun f φ h => by
  unfold GAl at h
  dsimp only at h
  split at h
  · rename_i hf; cases h; subst hf; exact ⟨⟨_, Tryd.func62, rfl, rfl⟩, implGlueV_ok⟩
  cases h), (fun f φ h => by
  unfold GAl at h
  dsimp only at h
  cases h)⟩
theorem GAl_62 (ob : Objs) (ps : List PV) : evCall GAl ob 62 ps = (ps.mapM (reify false 0 ob fuel)).bind φGlueV := by
  have h : GAl.fn 62 = some φGlueV := by simp [GAl]
  unfold evCall
  rw [h]
  cases ps.mapM (reify false 0 ob fuel) <;> rfl
def φTrue : Fun := F0 (some (bv true))
theorem φTrue_ap : φTrue [] = some (.val (.bool true)) := rfl
theorem alive_ok : Sound Tryd.prog 22 φTrue := by
  refine sound_pq mixed GAl_ok Tryd.func22 rfl 3 rfl [.tmp 0] rfl (by kernel_rfl) fun ps r hr => ?_
  obtain ⟨rfl, hr⟩ := F0_some hr
  cases hr
  refine ⟨by simp, ?_⟩
  have gal_c62 := GAl_62; have ap := @φGlueV_ap
  have e : glueB (4, 0, 0, 0) = true := rfl
  repeat' (first | (with_reducible first | apply i_seq | apply i_block | apply i_skip | apply i_exit | apply i_ret | apply i_kS | apply i_kSx | apply i_kSr | apply i_kL | apply i_kLx | apply i_kLr | apply i_kB | apply i_kBr | apply i_kBs | apply i_nil) | ((with_reducible apply i_region); (focus (simp only [List.map_cons, List.map_nil] <;> exact rfl))) | ((with_reducible apply i_draw); (focus (simp only [List.map_cons, List.map_nil] <;> exact rfl)); (focus (decide +kernel))) | ((with_reducible apply i_kBo); (focus rfl)) | ((first | ((with_reducible apply i_V); (focus rfl); (focus rfl); (focus rfl)) | ((with_reducible apply i_E); (focus rfl); (focus (first | rfl | (simp only [push_cast, ↓reduceIte, effOk, touch, refsOf, List.flatMap_cons, List.flatMap_nil])))) | ((with_reducible apply i_S); (focus rfl); (focus (first | rfl | (simp only [push_cast, ↓reduceIte, effOk, touch, refsOf, List.flatMap_cons, List.flatMap_nil])))) | ((with_reducible apply i_Vq); (focus rfl); (focus rfl)) | ((with_reducible apply i_Vp); (focus rfl); (focus rfl); (focus rfl)) | (with_reducible first | apply i_Gb | apply i_cond)); (focus (simp (disch := (first | omega | (simp only [push_cast]; done) | (simp only [push_cast]; omega) | ((try simp only [push_cast]); (with_reducible first | apply sel_lt | apply sel_ge); (focus decide); (focus (simp only [push_cast]; omega))))) only [push_cast, ↓reduceIte, Nat.reduceEqDiff, Nat.reduceBEq, Nat.reduceAdd, Nat.reduceSub, Int.reduceToNat, *] <;> with_reducible exact rfl)); all_goals try (intro hX; first | (cases hX; done) | ((with_reducible first | have hX0 : true = true := hX | have hX0 : false = false := hX); clear hX0 hX) | ((try simp only [decide_eq_true_eq, decide_eq_false_iff_not, Bool.not_eq_true', Bool.not_eq_false'] at hX); (try have hXb := inB_iff.1 hX)))))
  all_goals ((first | apply i_end | apply i_endN); simp (disch := (first | omega | (simp only [push_cast]; done) | (simp only [push_cast]; omega) | ((try simp only [push_cast]); (with_reducible first | apply sel_lt | apply sel_ge); (focus decide); (focus (simp only [push_cast]; omega))))) only [push_cast, ↓reduceIte, Nat.reduceEqDiff, Nat.reduceBEq, Nat.reduceAdd, Nat.reduceSub, Int.reduceToNat, *])
end Go.Proofs.YtpggpdbipajchaaDoor
namespace Go.Proofs.YtpggpdbipajchaaDoor
open Go.RowKit
set_option linter.all false
abbrev EStrs (o : Nat) (l : LS) : PV := .row o 1 0 l.length
attribute [push_cast]
  EStrs List.length_append
end Go.Proofs.YtpggpdbipajchaaDoor
namespace Go.Proofs.YtpggpdbipajchaaDoor
open Go.RowKit
set_option linter.all false
theorem byteNs_u8 {l : List Int} : byteNs (l.map fun n => .val (.int .u8 n)) = some l := by
  induction l with
  | nil => rfl
  | cons x l ih => simp_all [byteNs]
attribute [push_cast]
  byteNs_u8
def φSameG : Fun := F2 dGrid dGrid fun a b => if a = b ∧ a.2.length ≤ 1099511627776 then some (bv true) else none
theorem φSameG_ap {wd : Int} {l : List Int} (h : l.length ≤ 1099511627776) : φSameG [.agg [.val (.int .i64 wd), .lst false 1 (l.map fun n => .val (.int .u8 n))], .agg [.val (.int .i64 wd), .lst false 1 (l.map fun n => .val (.int .u8 n))]] = some (.val (.bool true)) :=
  (F2_ap (A := dGrid) (B := dGrid) (wd, l) (wd, l)).trans (if_pos ⟨rfl, h⟩)
noncomputable def GNo : Ctx := ⟨fun f => if f = 86 then some φIn else none, fun f => none⟩
theorem GNo_ok : SoundΓ Tryd.prog GNo := ⟨(fun f φ h => by
  unfold GNo at h
  dsimp only at h
  split at h
  · rename_i hf; cases h; subst hf; exact ⟨⟨_, Tryd.func86, rfl, rfl⟩, in_ok⟩
  cases h), (fun f φ h => by
  unfold GNo at h
  dsimp only at h
  cases h)⟩
theorem sameGrid_ok : Sound Tryd.prog 21 φSameG := by
  refine sound_pq mixed GNo_ok Tryd.func21 rfl 19 rfl [.tmp 4] rfl (by kernel_rfl) fun ps r hr => ?_
  obtain ⟨⟨wd, l⟩, g2, rfl, hq⟩ := F2_some hr
  clear hr
  split at hq
  case isFalse => cases hq
  case isTrue hpre =>
  cases hq
  obtain ⟨rfl, hl⟩ := hpre
  refine ⟨by simp, ?_⟩
  simp only [dIs, dUs, dSs, dI_e, dU_e, dB_e, dS_e, dFn_e, dL_e, dA2_e, dA3_e, dA4_e, dA5_e]
  dsimp only at hl
  repeat' (first | (with_reducible first | apply i_seq | apply i_block | apply i_skip | apply i_exit | apply i_ret | apply i_kS | apply i_kSx | apply i_kSr | apply i_kL | apply i_kLx | apply i_kLr | apply i_kB | apply i_kBr | apply i_kBs | apply i_nil) | ((with_reducible apply i_region); (focus (simp only [List.map_cons, List.map_nil] <;> exact rfl))) | ((with_reducible apply i_draw); (focus (simp only [List.map_cons, List.map_nil] <;> exact rfl)); (focus (decide +kernel))) | ((with_reducible apply i_kBo); (focus rfl)) | ((first | ((with_reducible apply i_V); (focus rfl); (focus rfl); (focus rfl)) | ((with_reducible apply i_E); (focus rfl); (focus (first | rfl | (simp only [push_cast, ↓reduceIte, effOk, touch, refsOf, List.flatMap_cons, List.flatMap_nil])))) | ((with_reducible apply i_S); (focus rfl); (focus (first | rfl | (simp only [push_cast, ↓reduceIte, effOk, touch, refsOf, List.flatMap_cons, List.flatMap_nil])))) | ((with_reducible apply i_Vq); (focus rfl); (focus rfl)) | ((with_reducible apply i_Vp); (focus rfl); (focus rfl); (focus rfl)) | (with_reducible first | apply i_Gb | apply i_cond)); (focus (simp (disch := (first | omega | (simp only [push_cast]; done) | (simp only [push_cast]; omega) | ((try simp only [push_cast]); (with_reducible first | apply sel_lt | apply sel_ge); (focus decide); (focus (simp only [push_cast]; omega))))) only [push_cast, ↓reduceIte, Nat.reduceEqDiff, Nat.reduceBEq, Nat.reduceAdd, Nat.reduceSub, Int.reduceToNat, *] <;> with_reducible exact rfl)); all_goals try (intro hX; first | (cases hX; done) | ((with_reducible first | have hX0 : true = true := hX | have hX0 : false = false := hX); clear hX0 hX) | ((try simp only [decide_eq_true_eq, decide_eq_false_iff_not, Bool.not_eq_true', Bool.not_eq_false'] at hX); (try have hXb := inB_iff.1 hX)))))
  all_goals (first | (exfalso; omega) | ((first | apply i_end | apply i_endN); simp (disch := (first | omega | (simp only [push_cast]; done) | (simp only [push_cast]; omega) | ((try simp only [push_cast]); (with_reducible first | apply sel_lt | apply sel_ge); (focus decide); (focus (simp only [push_cast]; omega))))) only [push_cast, ↓reduceIte, Nat.reduceEqDiff, Nat.reduceBEq, Nat.reduceAdd, Nat.reduceSub, Int.reduceToNat, *]) | skip)
def φSameGn : Fun := nilG 1 φSameG
theorem φSameGn_ap {wd : Int} {l : List Int} (h : l.length ≤ 1099511627776) : φSameGn [.agg [.val (.int .i64 wd), .lst false 1 (l.map fun n => .val (.int .u8 n))], .agg [.val (.int .i64 wd), .lst false 1 (l.map fun n => .val (.int .u8 n))]] = some (.val (.bool true)) := φSameG_ap h
theorem φSameGn_nil : φSameGn [.agg [.val (.int .i64 0), .val (.slice none 0 0)], .agg [.val (.int .i64 0), .val (.slice none 0 0)]] = some (.val (.bool true)) := φSameG_ap (wd := 0) (l := []) (by simp)
theorem putL_at {wd col row : Int} {l : List Int} {s : ByteArray} {k : Nat} (h : (row * wd + col).toNat + s.size ≤ l.length) : (putL wd l col row s)[k]?.getD 0 = if (row * wd + col).toNat ≤ k ∧ k < (row * wd + col).toNat + s.size then at8 s (k - (row * wd + col).toNat) else l[k]?.getD 0 := by
  unfold putL
  generalize (row * wd + col).toNat = a at *
  have hs := strI_length s
  have ht : (l.take a).length = a := by simp; omega
  split
  · rename_i hk
    rw [List.append_assoc, List.getElem?_append_right (by omega), List.getElem?_append_left (by omega), ht, strI_at]
  · rename_i hk
    rcases Nat.lt_or_ge k a with h1 | h1
    · rw [List.append_assoc, List.getElem?_append_left (by omega), List.getElem?_take_of_lt h1]
    · rw [List.getElem?_append_right (by simp; omega), List.getElem?_drop]
      congr 2
      simp
      omega
theorem putR_grid {wd col row : Int} {l : List Int} {s : ByteArray} (hG : gridB wd l = true) (hp : prB s = true) (hlen : (putL wd l col row s).length = l.length) : gridB wd (putL wd l col row s) = true := by
  unfold gridB at hG ⊢
  rw [hlen]
  simp only [Bool.and_eq_true, Bool.not_eq_true', List.any_eq_false] at hG ⊢
  refine ⟨hG.1, fun x hx => ?_⟩
  unfold putL at hx
  rcases List.mem_append.1 hx with hx | hx
  · rcases List.mem_append.1 hx with hx | hx
    · exact hG.2 x (List.mem_of_mem_take hx)
    · obtain ⟨j, hj, rfl⟩ := List.mem_iff_getElem.1 hx
      have := strI_at s j
      rw [List.getElem?_eq_getElem hj, Option.getD_some] at this
      rw [this]
      have hh := List.all_eq_true.1 hp j (List.mem_range.2 (by rw [strI_length] at hj; exact hj))
      rw [hh]
      decide
  · exact hG.2 x (List.mem_of_mem_drop hx)
theorem gridB_okU {wd : Int} {l : List Int} (h : gridB wd l = true) : okU l := by
  obtain ⟨_, _, _, _, _, h36, hpr⟩ := gridB_facts h
  refine ⟨by omega, List.all_eq_true.2 fun x hx => inB_iff.2 ?_⟩
  have := List.any_eq_false.1 hpr x hx
  have h2 := inB_iff.1 (by simpa using this : inB x 32 126 = true)
  omega
end Go.Proofs.YtpggpdbipajchaaDoor
namespace Go.Proofs.YtpggpdbipajchaaDoor
open Go.RowKit
set_option linter.all false
def refsA : List PV → List Nat
  | [] => []
  | .own o _ _ _ :: l => o :: refsA l
  | .row o _ _ _ :: l => o :: refsA l
  | _ :: l => refsA l
def refsX : PV → List Nat
  | .own o _ _ _ => [o]
  | .row o _ _ _ => [o]
  | .agg cs => refsA cs
  | _ => []
def refsL : List PV → List Nat
  | [] => []
  | p :: ps => refsX p ++ refsL ps
theorem refsA_eq : ∀ cs : List PV, (cs.flatMap fun c => match c with | .own o _ _ _ => [o] | .row o _ _ _ => [o] | _ => []) = refsA cs
  | [] => rfl
  | c :: cs => by
    rw [List.flatMap_cons, refsA_eq cs]
    cases c <;> rfl
theorem refsL_eq : ∀ ps : List PV, ps.flatMap refsOf = refsL ps
  | [] => rfl
  | p :: ps => by
    rw [List.flatMap_cons, refsL_eq ps]
    show _ = refsX p ++ refsL ps
    congr 1
    cases p with
    | agg cs => exact refsA_eq cs
    | _ => rfl
section
variable {Φ : FunIO} {ob : Objs} {nx : Nat}
def ioTwo (Φ : FunIO) (ob : Objs) (nx a b : Nat) (qs : List PV) : Option CellIO → Option CellIO → Option (PV × Objs × Nat)
  | some c, some d => (c.2.2.mapM (renF (inn [a, b]) fuel)).bind fun es => (d.2.2.mapM (renF (inn [a, b]) fuel)).bind fun fs => ioR [a, b] ob nx (Φ qs [(c.1, c.2.1, es), (d.1, d.2.1, fs)])
  | _, _ => none
def ioX (Φ : FunIO) (ob : Objs) (nx : Nat) (ps : List PV) : List Nat → Option (PV × Objs × Nat)
  | [] => (ps.mapM (renF (inn []) fuel)).bind fun qs => ioR [] ob nx (Φ qs [])
  | [o] => (ps.mapM (renF (inn [o]) fuel)).bind fun qs => ioOne Φ ob nx o qs (ob o)
  | [a, b] => (ps.mapM (renF (inn [a, b]) fuel)).bind fun qs => ioTwo Φ ob nx a b qs (ob a) (ob b)
  | _ => ioEv Φ ob nx ps
theorem io_any (ps : List PV) : ioEv Φ ob nx ps = ioX Φ ob nx ps (dedup (refsL ps)) := by
  generalize hos : dedup (refsL ps) = os
  rw [← refsL_eq] at hos
  match os with
  | [] =>
    show _ = (ps.mapM (renF (inn []) fuel)).bind _
    cases h2 : ps.mapM (renF (inn []) fuel) with
    | some qs => rw [ioEv_eq ps [] hos, h2, mapM_nil']; rfl
    | none => rw [ioEv_eq ps [] hos, h2, mapM_nil']; rfl
  | [o] =>
    show _ = (ps.mapM (renF (inn [o]) fuel)).bind _
    cases h2 : ps.mapM (renF (inn [o]) fuel) with
    | some qs => rw [ioOne_of hos h2]; rfl
    | none =>
      rw [ioEv_eq ps [o] hos, h2]
      cases [o].mapM ob <;> rfl
  | [a, b] =>
    show _ = (ps.mapM (renF (inn [a, b]) fuel)).bind _
    rw [ioEv_eq ps [a, b] hos]
    simp only [mapM_cons', mapM_nil', renC]
    cases ps.mapM (renF (inn [a, b]) fuel) with
    | none => cases ob a <;> cases ob b <;> rfl
    | some qs =>
      simp only [Option.bind_some]
      cases ob a with
      | none => rfl
      | some c =>
        cases ob b with
        | none => rfl
        | some d =>
          obtain ⟨T, sz, es0⟩ := c
          obtain ⟨T2, sz2, fs0⟩ := d
          simp only [Option.bind_some, Option.map_some, ioTwo, mapM_cons', mapM_nil', renC]
          cases es0.mapM (renF (inn [a, b]) fuel) with
          | none => rfl
          | some es =>
            simp only [Option.bind_some, Option.map_some]
            cases fs0.mapM (renF (inn [a, b]) fuel) <;> rfl
  | _ :: _ :: _ :: _ => rfl
theorem ioX_nil {ps : List PV} : ioX Φ ob nx ps [] = (ps.mapM (renF (inn []) fuel)).bind fun qs => ioR [] ob nx (Φ qs []) := rfl
theorem ioX_one {ps : List PV} {o : Nat} : ioX Φ ob nx ps [o] = (ps.mapM (renF (inn [o]) fuel)).bind fun qs => ioOne Φ ob nx o qs (ob o) := rfl
theorem ioX_two {ps : List PV} {a b : Nat} : ioX Φ ob nx ps [a, b] = (ps.mapM (renF (inn [a, b]) fuel)).bind fun qs => ioTwo Φ ob nx a b qs (ob a) (ob b) := rfl
theorem ioTwo_some {a b T T2 sz sz2 : Nat} {es es2 qs : List PV} : ioTwo Φ ob nx a b qs (some (T, sz, es)) (some (T2, sz2, es2)) = (es.mapM (renF (inn [a, b]) fuel)).bind fun es => (es2.mapM (renF (inn [a, b]) fuel)).bind fun fs => ioR [a, b] ob nx (Φ qs [(T, sz, es), (T2, sz2, fs)]) := rfl
theorem dd_ab {a b : Nat} (h : ¬ a = b) : dedup [a, b] = [a, b] := by
  have h' : ¬ b = a := fun e => h e.symm
  simp [dedup, h']
theorem inn_a {a b : Nat} : inn [a, b] a = some 0 := by simp [inn]
theorem inn_b {a b : Nat} (h : ¬ a = b) : inn [a, b] b = some 1 := by
  have h2 : (a == b) = false := by simpa using h
  simp [inn, List.idxOf_cons, h2]
theorem outF_ab0 {a b nx : Nat} : outF [a, b] nx 0 = some a := rfl
theorem outF_ab1 {a b nx : Nat} : outF [a, b] nx 1 = some b := rfl
theorem outF_ab2 {a b nx : Nat} : outF [a, b] nx 2 = some nx := by simp [outF, outn]
theorem outF_a1 {a nx : Nat} : outF [a] nx 1 = some nx := by simp [outF, outn]
theorem ioR_ab2 {a b T T2 sz sz2 : Nat} {es es2 : List PV} {r : PV} : ioR [a, b] ob nx (some (r, [(T, sz, es), (T2, sz2, es2)])) = (renF (outF [a, b] nx) fuel r).bind fun r' => (es.mapM (renF (outF [a, b] nx) fuel)).bind fun es' => (es2.mapM (renF (outF [a, b] nx) fuel)).map fun es2' => (r', upd (upd ob a (some (T, sz, es'))) b (some (T2, sz2, es2')), nx) := by
  unfold ioR
  simp only [mapM_cons', mapM_nil', renC]
  cases renF (outF [a, b] nx) fuel r with
  | none => rfl
  | some r' =>
    cases es.mapM (renF (outF [a, b] nx) fuel) with
    | none => rfl
    | some es' =>
      cases es2.mapM (renF (outF [a, b] nx) fuel) <;> rfl
theorem ioR_ab3 {a b T T2 T3 sz sz2 sz3 : Nat} {es es2 es3 : List PV} {r : PV} : ioR [a, b] ob nx (some (r, [(T, sz, es), (T2, sz2, es2), (T3, sz3, es3)])) = (renF (outF [a, b] nx) fuel r).bind fun r' => (es.mapM (renF (outF [a, b] nx) fuel)).bind fun es' => (es2.mapM (renF (outF [a, b] nx) fuel)).bind fun es2' => (es3.mapM (renF (outF [a, b] nx) fuel)).map fun es3' => (r', upd (upd (upd ob a (some (T, sz, es'))) b (some (T2, sz2, es2'))) nx (some (T3, sz3, es3')), nx + 1) := by
  unfold ioR
  simp only [mapM_cons', mapM_nil', renC]
  cases renF (outF [a, b] nx) fuel r with
  | none => rfl
  | some r' =>
    cases es.mapM (renF (outF [a, b] nx) fuel) with
    | none => rfl
    | some es' =>
      cases es2.mapM (renF (outF [a, b] nx) fuel) with
      | none => rfl
      | some es2' =>
        cases es3.mapM (renF (outF [a, b] nx) fuel) with
        | none => rfl
        | some es3' =>
          simp only [Option.map_some, Option.bind_some, List.length_cons, List.length_nil, Nat.zero_add, Nat.reduceAdd, Nat.reduceSub, Option.some.injEq, Prod.mk.injEq, true_and, and_true]
          show putObs ob [(outn [a, b] nx 0, _), (outn [a, b] nx 1, _), (outn [a, b] nx 2, _)] = _
          simp [putObs, outn]
theorem dd_nil : dedup [] = [] := rfl
theorem dd_one {o : Nat} : dedup [o] = [o] := rfl
theorem dd_two {o : Nat} : dedup [o, o] = [o] := by simp [dedup]
theorem rl_nil : refsL [] = [] := rfl
theorem rl_cons {p : PV} {ps : List PV} : refsL (p :: ps) = refsX p ++ refsL ps := rfl
theorem rx_val {v : Value} : refsX (.val v) = [] := rfl
theorem rx_lst {k : Bool} {sz : Nat} {es : List PV} : refsX (.lst k sz es) = [] := rfl
theorem rx_ptr {k : Bool} {e : PV} {o : Nat} : refsX (.ptr k e o) = [] := rfl
theorem rx_own {o a b c : Nat} : refsX (.own o a b c) = [o] := rfl
theorem rx_row {o a b c : Nat} : refsX (.row o a b c) = [o] := rfl
theorem rx_agg {cs : List PV} : refsX (.agg cs) = refsA cs := rfl
theorem ra_nil : refsA [] = [] := rfl
theorem ra_val {v : Value} {l : List PV} : refsA (.val v :: l) = refsA l := rfl
theorem ra_lst {k : Bool} {sz : Nat} {es l : List PV} : refsA (.lst k sz es :: l) = refsA l := rfl
theorem ra_own {o a b c : Nat} {l : List PV} : refsA (.own o a b c :: l) = o :: refsA l := rfl
theorem ra_row {o a b c : Nat} {l : List PV} : refsA (.row o a b c :: l) = o :: refsA l := rfl
end
attribute [push_cast low]
  io_any
attribute [push_cast]
  ioX_nil ioX_one ioX_two ioTwo_some dd_ab inn_a inn_b outF_ab0 outF_ab1 outF_ab2 outF_a1 ioR_ab2 ioR_ab3 dd_nil dd_one dd_two rl_nil rl_cons rx_val rx_lst rx_ptr rx_own rx_row rx_agg ra_nil ra_val ra_lst ra_own ra_row
end Go.Proofs.YtpggpdbipajchaaDoor
namespace Go.Proofs.YtpggpdbipajchaaDoor
open Go.RowKit
set_option linter.all false
structure SpBuf (e : Nat) (w0 wr : World) (n bp : Nat) : Prop where
  below : Below w0.heap.size w0 wr
  row : ∃ (N : Nat) (f : Nat → Value), wr.rowIs w0.heap.size e N f ∧ n ≤ N ∧ ∀ j, j < bp → f j = .int .u8 32
theorem SpBuf.start (w : World) (cs : Array Value) (e n q : Nat) (hN : n ≤ cs.size) : SpBuf e w ((w.alloc (.cells cs e)).drewN q) n 0 where
  below := (Lib.Buf.start w cs e n q hN).below
  row := ⟨cs.size, fun i => cs[i]?.getD default, ⟨cs, by first | exact heap_alloc_new w _ | (simp only [World.heap_drewN]; exact heap_alloc_new w _), rfl, fun i hi => by simp [Array.getElem?_eq_getElem hi]⟩, hN, fun j hj => by omega⟩
theorem sp_copy {w0 wr : World} {t ty e n bp k sc : Nat} {a : Addr} (hu : Tryd.prog.underlying t = some (.slice e)) (hs : (Tryd.prog.info? e).map (·.size) = some 1) (hb : SpBuf e w0 wr n bp) (hk : 0 < k) (hbp : bp < n)
    (hsrc : ∀ j, j < k → wr.cell? (a.add j) = some (.int .u8 32)) :
    ∃ wr', (Builtin.copy_ #[t, t] ty #[Lib.tailV w0.heap.size n bp, .slice (some a) k sc]).run Tryd.prog wr = .ok (.int .i64 (min k (n - bp) : Nat)) wr' ∧ SpBuf e w0 wr' n (bp + min k (n - bp)) := by
  obtain ⟨N, f, hr, hN, hf⟩ := hb.row
  have hlen : (List.replicate (min k (n - bp)) (Value.int .u8 32)).length = min k (n - bp) := List.length_replicate
  have hrun := run_copy_cells (P := Tryd.prog) wr t t ty e w0.heap.size bp (n - bp) (n - bp) a k sc (List.replicate (min k (n - bp)) (.int .u8 32)) hu hs (by rw [hlen])
    (fun j u hj => by
      rw [List.getElem?_replicate] at hj
      split at hj
      · cases hj; exact hsrc j (by omega)
      · cases hj)
    (fun j hj => by rw [hlen] at hj; rw [hr.cell (by omega)]; rfl) (fun j hj => hr.frozen _)
    (fun u hu' => by rw [(List.mem_replicate.1 hu').2]; rfl)
  rw [hlen] at hrun
  refine ⟨_, by unfold Lib.tailV; rw [if_neg (by omega)]; exact hrun, ⟨Lib.below_setCells _ (Nat.le_refl _) _ _ hb.below, N, _, rowIs_setCells _ _ _ _ hr, hN, fun j hj => ?_⟩⟩
  rw [hlen]
  split
  · rename_i h1
    rw [List.getElem?_replicate, if_pos (by omega)]
    rfl
  · exact hf j (by omega)
theorem SpBuf.drew {e : Nat} {w0 wr : World} {n bp : Nat} (h : SpBuf e w0 wr n bp) : SpBuf e w0 wr.drew n bp := ⟨h.below.drew, h.row⟩
theorem step_copy_run {P : Program} {ops : Array Oper} {o : Oper} {a : Act} {w : World} {K : Act → World → Prop} {Q : Exit → Act → World → Prop} {E : Prop}
    (hg : o.guard = none) (d x : Operand) (dT sT : TypeId) (hop : o.op = Op.call { callee := Callee.builtin Builtin.copy, args := #[d, x], argTypes := #[dT, sT] })
    (v u : Value) (hd : a.eval d = v) (hx : a.eval x = u) {v' : Value} {w' : World} (hr : (Builtin.copy_ #[dT, sT] o.type #[v, u]).run P w = .ok v' w') (hK : K (a.put o.dst v') w') :
    if Region.wanted o (yielded ops a.tmps) = true then Oper.wp P o a w K Q else E := by
  rw [if_pos (by simp [Region.wanted, hg])]
  exact Lib.wp_copy_run w d x dT sT hop v u hd hx hr hK
theorem mul_one {n : Nat} (hn : n < 4294967296) (w : World) : Calls Tryd.prog 108 #[.int .u64 1, .int .u64 n] w fun e w' => e = .returned (.tuple #[.int .u64 0, .int .u64 n]) ∧ w' = w := by
  have h64 : Calls Tryd.prog 146 #[.int .u64 1, .int .u64 n] w fun e w' => e = .returned (.tuple #[.int .u64 0, .int .u64 n]) ∧ w' = w := by
    have h := YtpggpdbipajchaaDoor.bits_Mul64 1 n (by omega) (by omega) w
    rw [Nat.one_mul, Nat.div_eq_of_lt (by omega), Nat.mod_eq_of_lt (by omega)] at h
    exact h
  go_enter Tryd.func108, Tryd.ntmps108
  go_wp2_with (go_at_call 146; refine h64.mono ?_; rintro e w1 ⟨rfl, rfl⟩)
  go_ret2
  exact ⟨rfl, rfl⟩
set_option maxHeartbeats 4000000 in
set_option maxRecDepth 100000 in
theorem repeat_any {w : World} {n cap b off : Nat} (hn : 0 < n) (hn2 : n ≤ 3600) (hb : w.cell? ⟨b, off, none⟩ = some (.int .u8 32)) :
    Calls Tryd.prog 87 #[.slice (some ⟨b, off, none⟩) 1 cap, .int .i64 n] w fun e w' => e = .returned (.slice (some ⟨w.heap.size, 0, none⟩) n n) ∧ SpBuf 5 w w' n n := by
  obtain ⟨cs, hrunM, hle, _⟩ := Lib.run_makeNoZero (P := Tryd.prog) w #[3] 24 5 (by kernel_rfl) n (by omega)
  have hcall : (callFunc 109 #[.int .i64 (n : Int)]).run Tryd.prog w = .ok (.value (.slice (some ⟨w.heap.size, 0, none⟩) n cs.size)) ((w.alloc (.cells cs 5)).drewN 2) := by
    rw [run_callFunc_extern Tryd.func109 (by kernel_rfl) (by kernel_rfl) (by kernel_rfl) (e := Extern.BytealgMakeNoZero.makeNoZero #[3] #[24]) (by kernel_rfl), hrunM]
    rfl
  clear hrunM
  have B0 := SpBuf.start w cs 5 n 2 hle
  have hc0 : ((w.alloc (.cells cs 5)).drewN 2).cell? ⟨b, off, none⟩ = some (.int .u8 32) := Lib.Below.cellOf B0.below hb (Nat.le_refl _)
  have hsrc : ∀ j, j < 1 → ((w.alloc (.cells cs 5)).drewN 2).cell? ((⟨b, off, none⟩ : Addr).add j) = some (.int .u8 32) := fun j hj => by
    obtain rfl : j = 0 := by omega
    exact hc0
  obtain ⟨w1, hr1, B1⟩ := sp_copy (t := 24) (ty := 3) (sc := cap) (a := ⟨b, off, none⟩) (k := 1) (by kernel_rfl) (by kernel_rfl) B0 (by omega) hn hsrc
  rw [Lib.tailV_zero] at hr1
  have hm : min 1 (n - 0) = 1 := by omega
  rw [hm] at hr1 B1
  have HB1 := Lib.hid B1
  have i0 : (0 : Int) ≤ (n : Int) := by omega
  have i1 : (n : Int) ≤ (cs.size : Int) := by omega
  have i2 : ¬ (n : Int) = 0 := by omega
  have i3 : ¬ (n : Int) < 0 := by omega
  have i4 : ¬ (9223372036854775807 : Int) < (n : Int) := by omega
  have i5 : ¬ (8192 : Int) < (n : Int) := by omega
  clear B0 B1 hc0 hb hm hle hsrc
  go_enter Tryd.func87, Tryd.ntmps87
  go_wp2_with (first
    | (go_at_call 108; refine (mul_one (n := n) (by omega) _).mono ?_; rintro e w2 ⟨rfl, rfl⟩)
    | (at_builtin; refine Lib.wpList_copy_run _ rfl _ _ 24 24 rfl _ _ rfl rfl hr1 ?_))
  go_loopw [10] (fun i wr => ∃ bp : Nat, 0 < bp ∧ bp ≤ n ∧ i = .int .i64 bp ∧ Aside (SpBuf 5 w2 wr n bp)) (fun i _ => n - (intOf i).toNat)
  case atStart => exact ⟨1, by omega, by omega, rfl, (show SpBuf _ _ _ _ _ from by have := HB1.out; rw [Nat.zero_add] at this; exact this)⟩
  case round =>
    obtain ⟨bp, h0, h1, rfl, HB⟩ := hrel
    by_cases hlt : bp < n
    · have hsl : ∀ W, (Instr.slice 24 (.slice (some ⟨w2.heap.size, 0, none⟩) n n) (some (.int .i64 (bp : Int))) none none).run Tryd.prog W = .ok (Lib.tailV w2.heap.size n bp) W := fun W => Lib.run_slice_tailV W 24 5 (by kernel_rfl) (fun w => run_size (P := Tryd.prog) (t := 5) (by kernel_rfl) w) _ n bp (by omega)
      obtain ⟨N, f, hrow, hN, hf⟩ := HB.out.row
      obtain ⟨w3, hr3, B3⟩ := sp_copy (t := 24) (ty := 3) (sc := n) (a := ⟨w2.heap.size, 0, none⟩) (k := bp) (by kernel_rfl) (by kernel_rfl) HB.out.drew h0 hlt (fun j hj => by rw [Addr.add_mid, Nat.zero_add]; exact (hrow.cell (by omega)).trans (by rw [hf j hj]))
      have HB3 := Lib.hid B3
      have j1 : (bp : Int) < (n : Int) := by omega
      have j2 : (0 : Int) ≤ (bp : Int) := by omega
      have j3 : min (bp : Int) (n : Int) = (bp : Int) := by omega
      clear B3 hcall hr1 HB1 hrow hf
      go_wp2
      go_region_law (refine step_copy_run rfl (.tmp 70) (.tmp 73) 24 24 rfl _ _ (by simp [Act.eval, Act.put]) (by simp [Act.eval, Act.put]) hr3 ?_)
      have hw : IntKind.i64.wrap ((bp : Int) + ((min bp (n - bp) : Nat) : Int)) = ((bp + min bp (n - bp) : Nat) : Int) := by rw [IntKind.wrap_i64]; omega
      rw [hw]
      generalize hm : bp + min bp (n - bp) = bq at *
      go_simp
      go_roundw
      case rel =>
        exact ⟨_, _, _, _, _, _, _, _, _, _, _, _, _, _, _, _, _, ⟨bq, by omega, by omega, rfl, (show SpBuf _ _ _ _ _ from HB3.out)⟩, rfl⟩
      case measure => simp [intOf]; omega
    · obtain rfl : bp = n := by omega
      go_wp2
      go_ret
      exact ⟨rfl, HB.out⟩
def ΨRep : FunN := G2 dUs dI fun l c => if l = [32] ∧ 0 < c ∧ c ≤ 3600 then some (.row 0 1 0 c.toNat, [(5, 1, spcs c.toNat)]) else none
theorem ΨRep_ap {c : Int} (h : 0 < c) (h2 : c ≤ 3600) : ΨRep [.lst false 1 [.val (.int .u8 32)], .val (.int .i64 c)] = some (.row 0 1 0 c.toNat, [(5, 1, spcs c.toNat)]) :=
  (G2_ap (A := dUs) (B := dI) [32] c).trans (if_pos ⟨rfl, h, h2⟩)
theorem repN : SoundN Tryd.prog 87 ΨRep := by
  intro w J β κ ps cs args r cs' hr hJ hO _ hargs
  dsimp only at hr
  split at hr
  case isFalse => cases hr
  case isTrue hcs =>
  subst hcs
  obtain ⟨l, c, rfl, hq⟩ := G2_some hr
  split at hq
  case isFalse => cases hq
  case isTrue hok =>
  cases hq
  obtain ⟨rfl, hc1, hc2⟩ := hok
  obtain ⟨n, rfl⟩ := Int.eq_ofNat_of_zero_le (show 0 ≤ c by omega)
  have hargs := hargs
  simp only [RepL] at hargs
  obtain ⟨v1, vs1, e1, h1, v2, vs2, rfl, h2, rfl⟩ := hargs
  obtain rfl : args = #[v1, v2] := by
    obtain ⟨a⟩ := args
    simp only at e1
    rw [e1]
  simp only [dUs, dL, dU, dI, Rep] at h1 h2
  subst h2
  obtain ⟨a, cap, rfl, k1, k2, k3⟩ := h1
  rcases k3 with k3 | ⟨b, off, rfl, k4, k5⟩
  · simp at k3
  · have hcell := int_cells (l := [32]) k5 0 (by simp)
    refine (repeat_any (n := n) (by omega) (by omega) hcell).mono ?_
    rintro e w' ⟨rfl, hsp⟩
    obtain ⟨N, f, ⟨cur, h3, h4, h6⟩, h7, h8⟩ := hsp.row
    have hb := hsp.below
    refine ⟨_, fun _ => w.heap.size, fun _ => cur.size, fun _ => False, rfl, ⟨hb.os, hb.tape, hb.output, hb.size, fun k hk _ => hb.block k hk⟩, by simp, fun o ho => by simp at ho, fun o _ _ => Nat.le_refl _, fun b hb => hb.elim, ⟨fun o ho => ⟨lt_of_heap h3, fun k hk => ?_⟩, fun o o' ho ho' _ => by simp at ho ho'; omega, fun o cc hc => ?_⟩, ?_⟩
    · rcases hk with hk | ⟨_, hk⟩
      · have := hJ k _ hk
        omega
      · exact hk
    · have ho : o = 0 := by have := (List.getElem?_eq_some_iff.1 hc).1; simp at this; exact this
      subst ho
      simp only [List.getElem?_cons_zero, Option.some.injEq] at hc
      subst hc
      refine ⟨⟨cur, h3, rfl⟩, by simp [ghIO]; omega, ?_⟩
      refine RepEs.of fun i x hx => ?_
      rw [List.getElem?_map, Option.map_eq_some_iff] at hx
      obtain ⟨y, hy, rfl⟩ := hx
      rw [List.getElem?_replicate] at hy
      split at hy
      case isFalse => cases hy
      case isTrue hi =>
      cases hy
      have hi : i < n := by simpa using hi
      refine ⟨.int .u8 32, by simp [Rep], ⟨by simp [Value.cells, Value.oneCell'], fun j hj => ?_⟩, rfl⟩
      have hj0 : j = 0 := by simp [Value.cells] at hj; exact hj
      subst hj0
      have e1 : cur[i]? = some (.int .u8 32) := (h6 i (by omega)).trans (by rw [h8 i hi])
      simp only [World.cell?, ghIO, h3, Nat.zero_add, Nat.mul_one, Nat.add_zero]
      simpa [Value.cells] using e1
    · simp only [Rep, ghIO]
      exact ⟨n, by simp, by simp, by omega, by omega, ⟨by simp, fun q => q⟩⟩
theorem rep_lift {c : Int} (h : 0 < c) (h2 : c ≤ 3600) : liftN ΨRep [.row 0 1 0 1, .val (.int .i64 c)] [(5, 1, [.val (.int .u8 32)])] = some (.row 1 1 0 c.toNat, [(5, 1, [.val (.int .u8 32)]), (5, 1, spcs c.toNat)]) := by
  refine (liftN_of (qs := [.lst false 1 [.val (.int .u8 32)], .val (.int .i64 c)]) (cs1 := [(5, 1, spcs c.toNat)]) (r := .row 0 1 0 c.toNat) (cs0 := [(5, 1, spcs c.toNat)]) (by
    rfl) (ΨRep_ap h h2) rfl (by rw [mapM_cons', mapM_nil', renCT_vals]; rfl)).trans ?_
  rfl
noncomputable def GGo : Ctx := ⟨fun f => if f = 51 then some φSide else none, fun f => if f = 87 then some (liftN ΨRep) else none⟩
theorem GGo_ok : SoundΓ Tryd.prog GGo := ⟨(fun f φ h => by
  unfold GGo at h
  dsimp only at h
  split at h
  · rename_i hf; cases h; subst hf; exact ⟨⟨_, Tryd.func51, rfl, rfl⟩, isSide_ok⟩
  cases h), (fun f φ h => by
  unfold GGo at h
  dsimp only at h
  split at h
  · rename_i hf; cases h; subst hf; exact ⟨⟨_, Tryd.func87, rfl, rfl⟩, repN.lift⟩
  cases h)⟩
theorem GGo_51 (ob : Objs) (ps : List PV) : evCall GGo ob 51 ps = (ps.mapM (reify false 0 ob fuel)).bind φSide := by
  have h : GGo.fn 51 = some φSide := by simp [GGo]
  unfold evCall
  rw [h]
  cases ps.mapM (reify false 0 ob fuel) <;> rfl
theorem GGo_87 : GGo.io 87 = some (liftN ΨRep) := by simp [GGo]
set_option maxHeartbeats 8000000 in
theorem implGridOfN : SoundN Tryd.prog 53 ΨGridOf := by
  refine sound_pqN mixed GGo_ok Tryd.func53 rfl 21 rfl [.cell 4 26] rfl (by kernel_rfl) fun ps r cs' hr => ?_
  obtain ⟨wd, ht, rfl, hq⟩ := G2_some hr
  clear hr
  have hz : gridZ wd ht = (r, cs') := by simpa using hq
  clear hq
  refine ⟨by simp, ?_⟩
  simp only [dIs, dUs, dSs, dI_e, dU_e, dB_e, dS_e, dFn_e, dL_e, dA2_e, dA3_e, dA4_e, dA5_e]
  have ap := φSide_ap
  unfold gridZ at hz
  cases hG : gridO wd ht with
  | false =>
    rw [hG, if_neg (by simp)] at hz
    cases hz
    unfold gridO at hG
    have ggo_c51 := GGo_51; have ggo_c87 := GGo_87
    (repeat' (first | (with_reducible first | apply i_seq | apply i_block | apply i_skip | apply i_exit | apply i_ret | apply i_kS | apply i_kSx | apply i_kSr | apply i_kL | apply i_kLx | apply i_kLr | apply i_kB | apply i_kBr | apply i_kBs | apply i_nil) | ((with_reducible apply i_region); (focus (simp only [List.map_cons, List.map_nil] <;> exact rfl))) | ((with_reducible apply i_draw); (focus (simp only [List.map_cons, List.map_nil] <;> exact rfl)); (focus (decide +kernel))) | ((with_reducible apply i_kBo); (focus rfl)) | ((first | ((with_reducible apply i_V); (focus rfl); (focus rfl); (focus rfl)) | ((with_reducible apply i_E); (focus rfl); (focus (first | rfl | (simp only [push_cast, ↓reduceIte, effOk, touch, refsOf, List.flatMap_cons, List.flatMap_nil])))) | ((with_reducible apply i_S); (focus rfl); (focus (first | rfl | (simp only [push_cast, ↓reduceIte, effOk, touch, refsOf, List.flatMap_cons, List.flatMap_nil])))) | ((with_reducible apply i_Vq); (focus rfl); (focus rfl)) | ((with_reducible apply i_Vp); (focus rfl); (focus rfl); (focus rfl)) | (with_reducible first | apply i_Gb | apply i_cond)); (focus (simp (disch := (first | omega | (simp only [push_cast]; done) | (simp only [push_cast]; omega) | ((try simp only [push_cast]); (with_reducible first | apply sel_lt | apply sel_ge); (focus decide); (focus (simp only [push_cast]; omega))))) only [push_cast, ↓reduceIte, Nat.reduceEqDiff, Nat.reduceBEq, Nat.reduceAdd, Nat.reduceSub, Int.reduceToNat, *] <;> with_reducible exact rfl)); all_goals try (intro hX; first | (cases hX; done) | ((with_reducible first | have hX0 : true = true := hX | have hX0 : false = false := hX); clear hX0 hX) | ((try simp only [decide_eq_true_eq, decide_eq_false_iff_not, Bool.not_eq_true', Bool.not_eq_false'] at hX); (try have hXb := inB_iff.1 hX)))))); all_goals try (exfalso; omega)
    all_goals (first | (exfalso; simp_all; done) | (((with_reducible apply i_endN0 (by first | exact .inl rfl | exact .inr rfl)); (focus (simp (disch := (first | omega | (simp only [push_cast]; done) | (simp only [push_cast]; omega) | ((try simp only [push_cast]); (with_reducible first | apply sel_lt | apply sel_ge); (focus decide); (focus (simp only [push_cast]; omega))))) only [push_cast, ↓reduceIte, Nat.reduceEqDiff, Nat.reduceBEq, Nat.reduceAdd, Nat.reduceSub, Int.reduceToNat, *] <;> with_reducible exact rfl))); done) | skip)
  | true =>
    rw [hG, if_pos rfl] at hz
    cases hz
    obtain ⟨hw, hh⟩ := gridO_iff.1 hG
    have hwi := inB_iff.2 hw
    have hhi := inB_iff.2 hh
    have har := area_rng hG
    have ap2 := rep_lift (c := wd * ht) (by omega) (by omega)
    clear hG
    have ggo_c51 := GGo_51; have ggo_c87 := GGo_87
    (repeat' (first | (with_reducible first | apply i_seq | apply i_block | apply i_skip | apply i_exit | apply i_ret | apply i_kS | apply i_kSx | apply i_kSr | apply i_kL | apply i_kLx | apply i_kLr | apply i_kB | apply i_kBr | apply i_kBs | apply i_nil) | ((with_reducible apply i_region); (focus (simp only [List.map_cons, List.map_nil] <;> exact rfl))) | ((with_reducible apply i_draw); (focus (simp only [List.map_cons, List.map_nil] <;> exact rfl)); (focus (decide +kernel))) | ((with_reducible apply i_kBo); (focus rfl)) | ((first | ((with_reducible apply i_V); (focus rfl); (focus rfl); (focus rfl)) | ((with_reducible apply i_E); (focus rfl); (focus (first | rfl | (simp only [push_cast, ↓reduceIte, effOk, touch, refsOf, List.flatMap_cons, List.flatMap_nil])))) | ((with_reducible apply i_S); (focus rfl); (focus (first | rfl | (simp only [push_cast, ↓reduceIte, effOk, touch, refsOf, List.flatMap_cons, List.flatMap_nil])))) | ((with_reducible apply i_Vq); (focus rfl); (focus rfl)) | ((with_reducible apply i_Vp); (focus rfl); (focus rfl); (focus rfl)) | (with_reducible first | apply i_Gb | apply i_cond)); (focus (simp (disch := (first | omega | (simp only [push_cast]; done) | (simp only [push_cast]; omega) | ((try simp only [push_cast]); (with_reducible first | apply sel_lt | apply sel_ge); (focus decide); (focus (simp only [push_cast]; omega))))) only [push_cast, ↓reduceIte, Nat.reduceEqDiff, Nat.reduceBEq, Nat.reduceAdd, Nat.reduceSub, Int.reduceToNat, *] <;> with_reducible exact rfl)); all_goals try (intro hX; first | (cases hX; done) | ((with_reducible first | have hX0 : true = true := hX | have hX0 : false = false := hX); clear hX0 hX) | ((try simp only [decide_eq_true_eq, decide_eq_false_iff_not, Bool.not_eq_true', Bool.not_eq_false'] at hX); (try have hXb := inB_iff.1 hX)))))); all_goals try (exfalso; omega)
    ((with_reducible apply i_endN1 (2) (by first | exact .inl rfl | exact .inr rfl)); (focus (simp (disch := (first | omega | (simp only [push_cast]; done) | (simp only [push_cast]; omega) | ((try simp only [push_cast]); (with_reducible first | apply sel_lt | apply sel_ge); (focus decide); (focus (simp only [push_cast]; omega))))) only [push_cast, ↓reduceIte, Nat.reduceEqDiff, Nat.reduceBEq, Nat.reduceAdd, Nat.reduceSub, Int.reduceToNat, *] <;> with_reducible exact rfl)); (focus (simp (disch := (first | omega | (simp only [push_cast]; done) | (simp only [push_cast]; omega) | ((try simp only [push_cast]); (with_reducible first | apply sel_lt | apply sel_ge); (focus decide); (focus (simp only [push_cast]; omega))))) only [push_cast, ↓reduceIte, Nat.reduceEqDiff, Nat.reduceBEq, Nat.reduceAdd, Nat.reduceSub, Int.reduceToNat, *] <;> with_reducible exact rfl)))
end Go.Proofs.YtpggpdbipajchaaDoor
namespace Go.Proofs.YtpggpdbipajchaaDoor
open Go.RowKit
set_option linter.all false
section
variable {Φ : FunIO} {ob : Objs} {nx o sz i n : Nat} {u u2 v v2 v3 : Value}
theorem io_gr2 : ioEv Φ ob nx [.agg [.val u, .row o sz i n], .val v] = ioOne Φ ob nx o [.agg [.val u, .row 0 sz i n], .val v] (ob o) := ioOne_of (by simp [refsOf, dedup]) (by simp only [mapM_cons', mapM_nil', renS_fuel, renS_agg, renS_row, renS_val, inn_self]; rfl)
theorem io_gr4 : ioEv Φ ob nx [.agg [.val u, .row o sz i n], .val v, .val v2, .val v3] = ioOne Φ ob nx o [.agg [.val u, .row 0 sz i n], .val v, .val v2, .val v3] (ob o) := ioOne_of (by simp [refsOf, dedup]) (by simp only [mapM_cons', mapM_nil', renS_fuel, renS_agg, renS_row, renS_val, inn_self]; rfl)
theorem io_gn2 : ioEv Φ ob nx [.agg [.val u, .val u2], .val v] = ioR [] ob nx (Φ [.agg [.val u, .val u2], .val v] []) := ioNo_of rfl rfl
end
attribute [push_cast]
  io_gr2 io_gr4 io_gn2
theorem put_args {wd col row : Int} {l : List Int} {s : ByteArray} : [PV.agg [.val (.int .i64 wd), .row 0 1 0 l.length], .val (.int .i64 col), .val (.int .i64 row), .val (.string s)].mapM (reify false 0 (fun o => ([(5, 1, l.map fun n => PV.val (.int .u8 n))] : List CellIO)[o]?) fuel) = some [.agg [.val (.int .i64 wd), .lst false 1 (l.map fun n => .val (.int .u8 n))], .val (.int .i64 col), .val (.int .i64 row), .val (.string s)] := by
  rw [ls_one]
  simp (disch := (first | omega | (simp only [push_cast]; done) | (simp only [push_cast]; omega) | ((try simp only [push_cast]); (with_reducible first | apply sel_lt | apply sel_ge); (focus decide); (focus (simp only [push_cast]; omega))))) only [push_cast, ↓reduceIte, Nat.reduceEqDiff, Nat.reduceBEq, Nat.reduceAdd, Nat.reduceSub, Int.reduceToNat]
theorem put_lift {wd col row : Int} {l : List Int} {s : ByteArray} (h : okPut l s) (hG : gridB wd l = true) : liftN ΨPut [.agg [.val (.int .i64 wd), .row 0 1 0 l.length], .val (.int .i64 col), .val (.int .i64 row), .val (.string s)] [(5, 1, l.map fun n => .val (.int .u8 n))] =
    some (.tup [.agg [.val (.int .i64 wd), .row 1 1 0 l.length], .val (.bool (putPre wd l col row s && prB s))], [(5, 1, l.map fun n => .val (.int .u8 n)), (5, 1, (putR wd l col row s).map fun n => .val (.int .u8 n))]) :=
  liftN_of (cs := [(5, 1, l.map fun n => .val (.int .u8 n))]) (cs1 := [(5, 1, (putR wd l col row s).map fun n => .val (.int .u8 n))]) put_args ((ΨPut_ap h).trans (by unfold putZ; rw [if_pos hG])) rfl (by rw [mapM_cons', mapM_nil', renCT_vals]; rfl)
end Go.Proofs.YtpggpdbipajchaaDoor
namespace Go.Proofs.YtpggpdbipajchaaDoor
open Go.RowKit
set_option linter.all false
theorem pr_bind {α β : Type} {P : Program} {m : Sem α} {f : α → Sem β} {a : α} (h : pureRun P m = some a) : pureRun P (m >>= f) = pureRun P (f a) := by
  induction m with
  | pure x => simp only [pureRun, Option.some.injEq] at h; subst h; rfl
  | program k ih => exact ih P h
  | _ => simp [pureRun] at h
theorem pr_bound {P : Program} {v : Int} {m : Nat} {k : BoundsCode} (h : 0 ≤ v) (h2 : v ≤ m) : pureRun P (Instr.sliceBound (.int .i64 v) m k) = some v.toNat := by
  have e : Instr.sliceBound (.int .i64 v) m k = (if 0 ≤ v ∧ v ≤ m then pure v.toNat else boundsPanic .i64 v m k) := rfl
  rw [e, if_pos ⟨h, h2⟩]
  rfl
theorem pr_und {P : Program} {t : Nat} {d : TypeDesc} (hu : P.underlying t = some d) : pureRun P (underlying t) = some d := by
  unfold underlying
  rw [pr_bind (a := P) rfl]
  simp only [hu]
  rfl
theorem sps {P : Program} {t : Nat} {s : ByteArray} {lo hi : Option Int} (hu : P.underlying t = some .string) (h0 : 0 ≤ lo.getD 0) (h1 : lo.getD 0 ≤ hi.getD s.size) (h2 : hi.getD s.size ≤ s.size) :
    slcP P t (.val (.string s)) (some lo) (some hi) = some (.val (.string (s.extract (lo.getD 0).toNat (hi.getD s.size).toNat))) := by
  have hb : pureRun P (Instr.sliceBounds false s.size s.size (lo.map (Value.int .i64)) (hi.map (Value.int .i64)) none) = some ((lo.getD 0).toNat, (hi.getD s.size).toNat, s.size) := by
    unfold Instr.sliceBounds
    rw [pr_bind (a := s.size) rfl]
    cases hi with
    | none =>
      simp only [Option.map_none, Option.getD_none] at h1 ⊢
      rw [pr_bind (a := s.size) rfl]
      cases lo with
      | none => simp only [Option.map_none, Option.getD_none, Int.toNat_natCast]; rw [pr_bind (a := 0) rfl]; rfl
      | some l => simp only [Option.map_some, Option.getD_some, Int.toNat_natCast] at h0 h1 ⊢; rw [pr_bind (pr_bound h0 h1)]; rfl
    | some h =>
      simp only [Option.map_some, Option.getD_some] at h1 h2 ⊢
      have h3 : 0 ≤ h := by omega
      rw [pr_bind (pr_bound h3 h2)]
      cases lo with
      | none => simp only [Option.map_none, Option.getD_none]; rw [pr_bind (a := 0) rfl]; rfl
      | some l => simp only [Option.map_some, Option.getD_some] at h0 h1 ⊢; rw [pr_bind (pr_bound h0 (by omega))]; rfl
  have hs : pureRun P (Instr.sliceAt t (.string s) (lo.map (Value.int .i64)) (hi.map (Value.int .i64)) none) = some (.string (s.extract (lo.getD 0).toNat (hi.getD s.size).toNat)) := by
    unfold Instr.sliceAt
    rw [pr_bind (pr_und hu)]
    dsimp only
    unfold Instr.slice
    rw [pr_bind (pr_und hu)]
    dsimp only
    simp only [Option.isSome_none, Bool.false_eq_true, if_false]
    rw [pr_bind hb]
    rfl
  show (pureRun P _).map _ = _
  rw [hs]
  rfl
theorem sps_str {s : ByteArray} {lo hi : Option Int} (h0 : 0 ≤ lo.getD 0) (h1 : lo.getD 0 ≤ hi.getD s.size) (h2 : hi.getD s.size ≤ s.size) :
    slcP Tryd.prog 9 (.val (.string s)) (some lo) (some hi) = some (.val (.string (s.extract (lo.getD 0).toNat (hi.getD s.size).toNat))) := sps Tryd.underlying9 h0 h1 h2
attribute [push_cast]
  sps_str
end Go.Proofs.YtpggpdbipajchaaDoor
namespace Go.Proofs.YtpggpdbipajchaaDoor
open Go.RowKit
set_option linter.all false
theorem byteNs_gl {l : List Int} : byteNs (l.map fun n => .val (.int .u8 n)) = some l := by
  induction l with
  | nil => rfl
  | cons x l ih => simp_all [byteNs]
attribute [push_cast]
  byteNs_gl
def trimS (s : ByteArray) : ByteArray := ⟨(Lib.trimRightB s.data.toList 32).toArray⟩
theorem trimL_cut (l : List UInt8) (c : UInt8) : Lib.trimRightB (l ++ [c]) c = Lib.trimRightB l c := by simp [Lib.trimRightB]
theorem trimL_done (l : List UInt8) {c z : UInt8} (h : ¬ z = c) : Lib.trimRightB (l ++ [z]) c = l ++ [z] := by
  have h2 : (z == c) = false := by simpa using h
  simp [Lib.trimRightB, h2]
theorem gl_ext {a b : ByteArray} (h : a.data.toList = b.data.toList) : a = b := by
  obtain ⟨⟨a⟩⟩ := a
  obtain ⟨⟨b⟩⟩ := b
  simp only at h
  rw [h]
def gridF (W : Nat) : Nat → List Int → LS → LS
  | 0, _, acc => acc
  | f + 1, zs, acc => if zs.length = 0 then acc else gridF W f (zs.drop W) (acc ++ [trimS (bytesOf (zs.take W))])
def gridR (wd : Int) (zs : List Int) : LS := gridF wd.toNat zs.length zs []
theorem gridF_nil {W f : Nat} {zs : List Int} {acc : LS} (h : zs.length = 0) : gridF W f zs acc = acc := by
  cases f with
  | zero => rfl
  | succ f => unfold gridF; rw [if_pos h]
theorem gridF_step {W f : Nat} {zs : List Int} {acc : LS} (hf : zs.length ≤ f) (h : 0 < zs.length) (hW : 0 < W) : ∃ g, (zs.drop W).length ≤ g ∧ gridF W f zs acc = gridF W g (zs.drop W) (acc ++ [trimS (bytesOf (zs.take W))]) := by
  obtain ⟨g, rfl⟩ : ∃ g, f = g + 1 := ⟨f - 1, by omega⟩
  refine ⟨g, by rw [List.length_drop]; omega, ?_⟩
  show (if _ then _ else _) = _
  rw [if_neg (by omega)]
theorem row_step {k n W : Nat} (h : k * W < n * W) : k * W + W ≤ n * W := by
  have h1 : k < n := Nat.lt_of_mul_lt_mul_right h
  have h2 := Nat.mul_le_mul_right W (show k + 1 ≤ n from h1)
  rw [Nat.succ_mul] at h2
  exact h2
theorem grid_rows {wd : Int} {l : List Int} (h : gridB wd l = true) : ∃ W n : Nat, wd = (W : Int) ∧ 0 < W ∧ W ≤ 60 ∧ l.length = n * W ∧ 0 < n ∧ n ≤ 60 := by
  obtain ⟨h1, h2, h3, _⟩ := gridB_facts h
  have h0 : 0 ≤ (l.length : Int) / wd := by omega
  refine ⟨wd.toNat, ((l.length : Int) / wd).toNat, by omega, by omega, by omega, ?_, by omega, by omega⟩
  have e := Int.mul_ediv_add_emod (l.length : Int) wd
  rw [h2, Int.add_zero] at e
  have e1 : (((l.length : Int) / wd).toNat : Int) = (l.length : Int) / wd := Int.toNat_of_nonneg h0
  have e2 : (wd.toNat : Int) = wd := Int.toNat_of_nonneg (by omega)
  have : ((((l.length : Int) / wd).toNat * wd.toNat : Nat) : Int) = (l.length : Int) := by
    rw [Int.natCast_mul, e1, e2, Int.mul_comm]
    exact e
  omega
def φTrimR : Fun := F2 dS dS fun s c => if c = ⟨#[32]⟩ ∧ s.size ≤ 9223372036854775807 then some (.val (.string (trimS s))) else none
theorem φTrimR_ap {s : ByteArray} (h : s.size ≤ 9223372036854775807) : φTrimR [.val (.string s), .val (.string ⟨#[32]⟩)] = some (.val (.string (trimS s))) := (F2_ap (A := dS) (B := dS) s ⟨#[32]⟩).trans (if_pos ⟨rfl, h⟩)
theorem trimR_ok : Sound Tryd.prog 63 φTrimR := by
  intro w J ps args r hr hJ hT hargs
  obtain ⟨s, c, rfl, hq⟩ := F2_some hr
  split at hq
  case isFalse => cases hq
  case isTrue hok =>
  cases hq
  obtain ⟨rfl, hs⟩ := hok
  have hargs := hargs
  simp only [RepL] at hargs
  obtain ⟨v1, vs1, e1, h1, v2, vs2, rfl, h2, rfl⟩ := hargs
  obtain rfl : args = #[v1, v2] := by
    obtain ⟨a⟩ := args
    simp only at e1
    rw [e1]
  simp only [dS, Rep] at h1 h2
  subst h1 h2
  refine (YtpggpdbipajchaaDoor.strings_TrimRight_one s 32 (by decide) w hs).mono ?_
  rintro e w' ⟨rfl, rfl⟩
  exact ⟨_, rfl, Below.refl _ _, fun g' _ => by simp only [Rep]; rfl⟩
noncomputable def ΨGl : FunN := G1 dGrid fun g => if okU g.2 then some (if gridB g.1 g.2 = true then (nP 1 ((gridR g.1 g.2).map fun s => .val (.string s)) 0, nC 9 1 ((gridR g.1 g.2).map fun s => .val (.string s))) else (.val (.slice none 0 0), [])) else none
noncomputable def GGln : Ctx := ⟨fun f => if f = 24 then some φGridValid else if f = 63 then some φTrimR else none, fun f => none⟩
theorem GGln_ok : SoundΓ Tryd.prog GGln := ⟨(fun f φ h => by
  unfold GGln at h
  dsimp only at h
  split at h
  · rename_i hf; cases h; subst hf; exact ⟨⟨_, Tryd.func24, rfl, rfl⟩, implGridValid_ok⟩
  split at h
  · rename_i hf; cases h; subst hf; exact ⟨⟨_, Tryd.func63, rfl, rfl⟩, trimR_ok⟩
  cases h), (fun f φ h => by
  unfold GGln at h
  dsimp only at h
  cases h)⟩
theorem GGln_24 (ob : Objs) (ps : List PV) : evCall GGln ob 24 ps = (ps.mapM (reify false 0 ob fuel)).bind φGridValid := by
  have h : GGln.fn 24 = some φGridValid := by simp [GGln]
  unfold evCall
  rw [h]
  cases ps.mapM (reify false 0 ob fuel) <;> rfl
theorem GGln_63 (ob : Objs) (ps : List PV) : evCall GGln ob 63 ps = (ps.mapM (reify false 0 ob fuel)).bind φTrimR := by
  have h : GGln.fn 63 = some φTrimR := by simp [GGln]
  unfold evCall
  rw [h]
  cases ps.mapM (reify false 0 ob fuel) <;> rfl
set_option maxHeartbeats 16000000 in
theorem implGlN : SoundN Tryd.prog 23 ΨGl := by
  refine sound_pqN mixed GGln_ok Tryd.func23 rfl 31 rfl [.tmp 2] rfl (by kernel_rfl) fun ps r cs' hr => ?_
  obtain ⟨⟨wd, l⟩, rfl, hq⟩ := G1_some hr
  clear hr
  split at hq
  case isFalse => cases hq
  case isTrue hpre =>
  simp only [Option.some.injEq] at hq
  refine ⟨by simp, ?_⟩
  simp only [dIs, dUs, dSs, dI_e, dU_e, dB_e, dS_e, dFn_e, dL_e, dA2_e, dA3_e, dA4_e, dA5_e]
  dsimp only at hpre hq ⊢
  have ap1 := φGridValid_ap (wd := wd) hpre
  have hlen := hpre.1
  cases hG : gridB wd l with
  | false =>
    rw [hG, if_neg (by simp)] at hq
    cases hq
    rw [hG] at ap1
    clear hG hpre
    have ggln_c24 := GGln_24; have ggln_c63 := GGln_63
    (repeat' (first | (with_reducible first | apply i_seq | apply i_block | apply i_skip | apply i_exit | apply i_ret | apply i_kS | apply i_kSx | apply i_kSr | apply i_kL | apply i_kLx | apply i_kLr | apply i_kB | apply i_kBr | apply i_kBs | apply i_nil) | ((with_reducible apply i_region); (focus (simp only [List.map_cons, List.map_nil] <;> exact rfl))) | ((with_reducible apply i_draw); (focus (simp only [List.map_cons, List.map_nil] <;> exact rfl)); (focus (decide +kernel))) | ((with_reducible apply i_kBo); (focus rfl)) | ((first | ((with_reducible apply i_V); (focus rfl); (focus rfl); (focus rfl)) | ((with_reducible apply i_E); (focus rfl); (focus (first | rfl | (simp only [push_cast, ↓reduceIte, effOk, touch, refsOf, List.flatMap_cons, List.flatMap_nil])))) | ((with_reducible apply i_S); (focus rfl); (focus (first | rfl | (simp only [push_cast, ↓reduceIte, effOk, touch, refsOf, List.flatMap_cons, List.flatMap_nil])))) | ((with_reducible apply i_Vq); (focus rfl); (focus rfl)) | ((with_reducible apply i_Vp); (focus rfl); (focus rfl); (focus rfl)) | (with_reducible first | apply i_Gb | apply i_cond)); (focus (simp (disch := (first | omega | (simp only [push_cast]; done) | (simp only [push_cast]; omega) | ((try simp only [push_cast]); (with_reducible first | apply sel_lt | apply sel_ge); (focus decide); (focus (simp only [push_cast]; omega))))) only [push_cast, ↓reduceIte, Nat.reduceEqDiff, Nat.reduceBEq, Nat.reduceAdd, Nat.reduceSub, Int.reduceToNat, *] <;> with_reducible exact rfl)); all_goals try (intro hX; first | (cases hX; done) | ((with_reducible first | have hX0 : true = true := hX | have hX0 : false = false := hX); clear hX0 hX) | ((try simp only [decide_eq_true_eq, decide_eq_false_iff_not, Bool.not_eq_true', Bool.not_eq_false'] at hX); (try have hXb := inB_iff.1 hX)))))); all_goals try (exfalso; omega)
    all_goals ((with_reducible apply i_endN0 (by first | exact .inl rfl | exact .inr rfl)); (focus (simp (disch := (first | omega | (simp only [push_cast]; done) | (simp only [push_cast]; omega) | ((try simp only [push_cast]); (with_reducible first | apply sel_lt | apply sel_ge); (focus decide); (focus (simp only [push_cast]; omega))))) only [push_cast, ↓reduceIte, Nat.reduceEqDiff, Nat.reduceBEq, Nat.reduceAdd, Nat.reduceSub, Int.reduceToNat, *] <;> with_reducible exact rfl)))
  | true =>
    rw [hG, if_pos rfl] at hq
    rw [hG] at ap1
    obtain ⟨W, n, hwd, hW, hW60, hln, hn, hn60⟩ := grid_rows hG
    subst hwd
    replace hq := Lib.hid hq
    have hlm : n * W ≤ 60 * 60 := Nat.mul_le_mul hn60 hW60
    have hll : l.length ≤ 3600 := by omega
    replace hln := Lib.hid hln
    clear hG hpre hlm
    have ggln_c24 := GGln_24; have ggln_c63 := GGln_63
    (repeat' (first | (with_reducible first | apply i_seq | apply i_block | apply i_skip | apply i_exit | apply i_ret | apply i_kS | apply i_kSx | apply i_kSr | apply i_kL | apply i_kLx | apply i_kLr | apply i_kB | apply i_kBr | apply i_kBs | apply i_nil) | ((with_reducible apply i_region); (focus (simp only [List.map_cons, List.map_nil] <;> exact rfl))) | ((with_reducible apply i_draw); (focus (simp only [List.map_cons, List.map_nil] <;> exact rfl)); (focus (decide +kernel))) | ((with_reducible apply i_kBo); (focus rfl)) | ((first | ((with_reducible apply i_V); (focus rfl); (focus rfl); (focus rfl)) | ((with_reducible apply i_E); (focus rfl); (focus (first | rfl | (simp only [push_cast, ↓reduceIte, effOk, touch, refsOf, List.flatMap_cons, List.flatMap_nil])))) | ((with_reducible apply i_S); (focus rfl); (focus (first | rfl | (simp only [push_cast, ↓reduceIte, effOk, touch, refsOf, List.flatMap_cons, List.flatMap_nil])))) | ((with_reducible apply i_Vq); (focus rfl); (focus rfl)) | ((with_reducible apply i_Vp); (focus rfl); (focus rfl); (focus rfl)) | (with_reducible first | apply i_Gb | apply i_cond)); (focus (simp (disch := (first | omega | (simp only [push_cast]; done) | (simp only [push_cast]; omega) | ((try simp only [push_cast]); (with_reducible first | apply sel_lt | apply sel_ge); (focus decide); (focus (simp only [push_cast]; omega))))) only [push_cast, ↓reduceIte, Nat.reduceEqDiff, Nat.reduceBEq, Nat.reduceAdd, Nat.reduceSub, Int.reduceToNat, *] <;> with_reducible exact rfl)); all_goals try (intro hX; first | (cases hX; done) | ((with_reducible first | have hX0 : true = true := hX | have hX0 : false = false := hX); clear hX0 hX) | ((try simp only [decide_eq_true_eq, decide_eq_false_iff_not, Bool.not_eq_true', Bool.not_eq_false'] at hX); (try have hXb := inB_iff.1 hX)))))); all_goals try (exfalso; omega)
    clear ap1
    refine i_loop (α := Nat × Nat × LS × Nat × Nat) mixed (fun s => [(1, .own 0 2 0 0), (3, nP 1 (s.2.2.1.map fun s => .val (.string s)) s.2.2.2.1), (4, iv s.2.1)])
      (fun s => (0, 26, 2, [.agg [.val (.int .i64 W), .lst false 1 (l.map fun n => .val (.int .u8 n))]]) :: nO 9 1 (s.2.2.1.map fun s => .val (.string s)) s.2.2.2.1) (fun s => s.2.2.2.2)
      (fun s => s.2.1 = s.1 * W ∧ s.2.1 ≤ l.length ∧ (∃ f, (l.drop s.2.1).length ≤ f ∧ gridF W f (l.drop s.2.1) s.2.2.1 = gridR W l) ∧ s.2.2.1.length ≤ s.1 ∧ (0 < s.2.2.1.length → 0 < s.2.2.2.1 ∧ s.2.2.2.1 < s.2.2.2.2) ∧ 0 < s.2.2.2.2) (fun s => l.length - s.2.1) (by kernel_rfl) (0, 0, [], 1, 1) ⟨by simp, Nat.zero_le _, ⟨l.length, by simp, by simp [gridR]⟩, by simp, fun h => by simp at h, by simp⟩ ?_ ?_ rfl ?_
    · simp (disch := (first | omega | (simp only [push_cast]; done) | (simp only [push_cast]; omega) | ((try simp only [push_cast]); (with_reducible first | apply sel_lt | apply sel_ge); (focus decide); (focus (simp only [push_cast]; omega))))) only [push_cast, ↓reduceIte, Nat.reduceEqDiff, Nat.reduceBEq, Nat.reduceAdd, Nat.reduceSub, Int.reduceToNat, List.length_append, *]
    · simp (disch := (first | omega | (simp only [push_cast]; done) | (simp only [push_cast]; omega) | ((try simp only [push_cast]); (with_reducible first | apply sel_lt | apply sel_ge); (focus decide); (focus (simp only [push_cast]; omega))))) only [push_cast, ↓reduceIte, Nat.reduceEqDiff, Nat.reduceBEq, Nat.reduceAdd, Nat.reduceSub, Int.reduceToNat, List.length_append, *]
    rintro ⟨k, p, acc, x, y⟩ ⟨hp, hpl, ⟨f, hf, hF⟩, hak, hxy, hy⟩
    dsimp only at hp hpl hf hF hak hxy hy
    replace hxy := Lib.hid hxy
    by_cases h0 : p < l.length
    · have hpw : p + W ≤ l.length := by
        rw [hln.out] at h0 ⊢
        rw [hp] at h0 ⊢
        exact row_step h0
      have hst := gridF_step (W := W) (acc := acc) hf (by rw [List.length_drop]; omega) hW
      have hdd : (l.drop p).drop W = l.drop (p + W) := by rw [List.drop_drop]
      have hk60 : k ≤ 3600 := by
        have := Nat.le_mul_of_pos_right k hW
        omega
      rw [hdd] at hst
      have hs2 : p + W - p = W := by omega
      have ht2 : ((p : Int) + W).toNat = p + W := by omega
      have htr := φTrimR_ap (s := bytesOf ((l.drop p).take W)) (by rw [size_bytesOf, List.length_take]; omega)
      have hkw : (k + 1) * W = p + W := by rw [Nat.succ_mul, ← hp]
      replace hst := Lib.hid hst
      replace hF := Lib.hid hF
      replace hp := Lib.hid hp
      replace hkw := Lib.hid hkw
      clear hdd
      by_cases ha0 : acc.length = 0
      · obtain rfl : acc = [] := List.eq_nil_of_length_eq_zero ha0
        clear ha0
        (repeat' (first | (with_reducible first | apply i_seq | apply i_block | apply i_skip | apply i_exit | apply i_ret | apply i_kS | apply i_kSx | apply i_kSr | apply i_kL | apply i_kLx | apply i_kLr | apply i_kB | apply i_kBr | apply i_kBs | apply i_nil) | ((with_reducible apply i_region); (focus (simp only [List.map_cons, List.map_nil] <;> exact rfl))) | ((with_reducible apply i_draw); (focus (simp only [List.map_cons, List.map_nil] <;> exact rfl)); (focus (decide +kernel))) | ((with_reducible apply i_kBo); (focus rfl)) | ((first | ((with_reducible apply i_V); (focus rfl); (focus rfl); (focus rfl)) | ((with_reducible apply i_E); (focus rfl); (focus (first | rfl | (simp only [push_cast, ↓reduceIte, effOk, touch, refsOf, List.flatMap_cons, List.flatMap_nil])))) | ((with_reducible apply i_S); (focus rfl); (focus (first | rfl | (simp only [push_cast, ↓reduceIte, effOk, touch, refsOf, List.flatMap_cons, List.flatMap_nil])))) | ((with_reducible apply i_Vq); (focus rfl); (focus rfl)) | ((with_reducible apply i_Vp); (focus rfl); (focus rfl); (focus rfl)) | (with_reducible first | apply i_Gb | apply i_cond)); (focus (simp (disch := (first | omega | (simp only [push_cast]; done) | (simp only [push_cast]; omega) | ((try simp only [push_cast]); (with_reducible first | apply sel_lt | apply sel_ge); (focus decide); (focus (simp only [push_cast]; omega))))) only [push_cast, ↓reduceIte, Nat.reduceEqDiff, Nat.reduceBEq, Nat.reduceAdd, Nat.reduceSub, Int.reduceToNat, *] <;> with_reducible exact rfl)); all_goals try (intro hX; first | (cases hX; done) | ((with_reducible first | have hX0 : true = true := hX | have hX0 : false = false := hX); clear hX0 hX) | ((try simp only [decide_eq_true_eq, decide_eq_false_iff_not, Bool.not_eq_true', Bool.not_eq_false'] at hX); (try have hXb := inB_iff.1 hX)))))); all_goals try (exfalso; omega)
        obtain ⟨g, hg1, hg2⟩ := hst.out
        refine ⟨(k + 1, p + W, [] ++ [trimS (bytesOf ((l.drop p).take W))], y + 1, y + 2), ⟨hkw.out.symm, by dsimp only; omega, ⟨g, hg1, by rw [← hg2]; exact hF.out⟩, by simp, fun _ => by dsimp only; omega, by dsimp only; omega⟩, by dsimp only; omega, ?_, ?_, rfl⟩
        · simp (disch := (first | omega | (simp only [push_cast]; done) | (simp only [push_cast]; omega) | ((try simp only [push_cast]); (with_reducible first | apply sel_lt | apply sel_ge); (focus decide); (focus (simp only [push_cast]; omega))))) only [push_cast, ↓reduceIte, Nat.reduceEqDiff, Nat.reduceBEq, Nat.reduceAdd, Nat.reduceSub, Int.reduceToNat, List.length_append, *]
        · simp (disch := (first | omega | (simp only [push_cast]; done) | (simp only [push_cast]; omega) | ((try simp only [push_cast]); (with_reducible first | apply sel_lt | apply sel_ge); (focus decide); (focus (simp only [push_cast]; omega))))) only [push_cast, ↓reduceIte, Nat.reduceEqDiff, Nat.reduceBEq, Nat.reduceAdd, Nat.reduceSub, Int.reduceToNat, List.length_append, *]
      · have hxy := hxy.out (by omega)
        have hap1 : 0 < (acc.map fun s => PV.val (.string s)).length := by rw [List.length_map]; omega
        have hap2 : 0 < ((acc ++ [trimS (bytesOf ((l.drop p).take W))]).map fun s => PV.val (.string s)).length := by simp
        simp only [nP_pos hap1, nO_pos hap1, List.length_map]
        (repeat' (first | (with_reducible first | apply i_seq | apply i_block | apply i_skip | apply i_exit | apply i_ret | apply i_kS | apply i_kSx | apply i_kSr | apply i_kL | apply i_kLx | apply i_kLr | apply i_kB | apply i_kBr | apply i_kBs | apply i_nil) | ((with_reducible apply i_region); (focus (simp only [List.map_cons, List.map_nil] <;> exact rfl))) | ((with_reducible apply i_draw); (focus (simp only [List.map_cons, List.map_nil] <;> exact rfl)); (focus (decide +kernel))) | ((with_reducible apply i_kBo); (focus rfl)) | ((first | ((with_reducible apply i_V); (focus rfl); (focus rfl); (focus rfl)) | ((with_reducible apply i_E); (focus rfl); (focus (first | rfl | (simp only [push_cast, ↓reduceIte, effOk, touch, refsOf, List.flatMap_cons, List.flatMap_nil])))) | ((with_reducible apply i_S); (focus rfl); (focus (first | rfl | (simp only [push_cast, ↓reduceIte, effOk, touch, refsOf, List.flatMap_cons, List.flatMap_nil])))) | ((with_reducible apply i_Vq); (focus rfl); (focus rfl)) | ((with_reducible apply i_Vp); (focus rfl); (focus rfl); (focus rfl)) | (with_reducible first | apply i_Gb | apply i_cond)); (focus (simp (disch := (first | omega | (simp only [push_cast]; done) | (simp only [push_cast]; omega) | ((try simp only [push_cast]); (with_reducible first | apply sel_lt | apply sel_ge); (focus decide); (focus (simp only [push_cast]; omega))))) only [push_cast, ↓reduceIte, Nat.reduceEqDiff, Nat.reduceBEq, Nat.reduceAdd, Nat.reduceSub, Int.reduceToNat, *] <;> with_reducible exact rfl)); all_goals try (intro hX; first | (cases hX; done) | ((with_reducible first | have hX0 : true = true := hX | have hX0 : false = false := hX); clear hX0 hX) | ((try simp only [decide_eq_true_eq, decide_eq_false_iff_not, Bool.not_eq_true', Bool.not_eq_false'] at hX); (try have hXb := inB_iff.1 hX)))))); all_goals try (exfalso; omega)
        obtain ⟨g, hg1, hg2⟩ := hst.out
        refine ⟨(k + 1, p + W, acc ++ [trimS (bytesOf ((l.drop p).take W))], y + 1, y + 2), ⟨hkw.out.symm, by dsimp only; omega, ⟨g, hg1, by rw [← hg2]; exact hF.out⟩, by simp; omega, fun _ => by dsimp only; omega, by dsimp only; omega⟩, by dsimp only; omega, ?_, ?_, rfl⟩
        · simp (disch := (first | omega | (simp only [push_cast]; done) | (simp only [push_cast]; omega) | ((try simp only [push_cast]); (with_reducible first | apply sel_lt | apply sel_ge); (focus decide); (focus (simp only [push_cast]; omega))))) only [push_cast, ↓reduceIte, Nat.reduceEqDiff, Nat.reduceBEq, Nat.reduceAdd, Nat.reduceSub, Int.reduceToNat, nP_pos hap2, List.length_append, *]
        · simp (disch := (first | omega | (simp only [push_cast]; done) | (simp only [push_cast]; omega) | ((try simp only [push_cast]); (with_reducible first | apply sel_lt | apply sel_ge); (focus decide); (focus (simp only [push_cast]; omega))))) only [push_cast, ↓reduceIte, Nat.reduceEqDiff, Nat.reduceBEq, Nat.reduceAdd, Nat.reduceSub, Int.reduceToNat, nO_pos hap2, *]
    · have hge : (l.drop p).length = 0 := by rw [List.length_drop]; omega
      rw [gridF_nil hge] at hF
      have hq := hq.out
      rw [← hF] at hq
      clear hF hf hge
      by_cases ha0 : acc.length = 0
      · obtain rfl : acc = [] := List.eq_nil_of_length_eq_zero ha0
        cases hq
        (repeat' (first | (with_reducible first | apply i_seq | apply i_block | apply i_skip | apply i_exit | apply i_ret | apply i_kS | apply i_kSx | apply i_kSr | apply i_kL | apply i_kLx | apply i_kLr | apply i_kB | apply i_kBr | apply i_kBs | apply i_nil) | ((with_reducible apply i_region); (focus (simp only [List.map_cons, List.map_nil] <;> exact rfl))) | ((with_reducible apply i_draw); (focus (simp only [List.map_cons, List.map_nil] <;> exact rfl)); (focus (decide +kernel))) | ((with_reducible apply i_kBo); (focus rfl)) | ((first | ((with_reducible apply i_V); (focus rfl); (focus rfl); (focus rfl)) | ((with_reducible apply i_E); (focus rfl); (focus (first | rfl | (simp only [push_cast, ↓reduceIte, effOk, touch, refsOf, List.flatMap_cons, List.flatMap_nil])))) | ((with_reducible apply i_S); (focus rfl); (focus (first | rfl | (simp only [push_cast, ↓reduceIte, effOk, touch, refsOf, List.flatMap_cons, List.flatMap_nil])))) | ((with_reducible apply i_Vq); (focus rfl); (focus rfl)) | ((with_reducible apply i_Vp); (focus rfl); (focus rfl); (focus rfl)) | (with_reducible first | apply i_Gb | apply i_cond)); (focus (simp (disch := (first | omega | (simp only [push_cast]; done) | (simp only [push_cast]; omega) | ((try simp only [push_cast]); (with_reducible first | apply sel_lt | apply sel_ge); (focus decide); (focus (simp only [push_cast]; omega))))) only [push_cast, ↓reduceIte, Nat.reduceEqDiff, Nat.reduceBEq, Nat.reduceAdd, Nat.reduceSub, Int.reduceToNat, *] <;> with_reducible exact rfl)); all_goals try (intro hX; first | (cases hX; done) | ((with_reducible first | have hX0 : true = true := hX | have hX0 : false = false := hX); clear hX0 hX) | ((try simp only [decide_eq_true_eq, decide_eq_false_iff_not, Bool.not_eq_true', Bool.not_eq_false'] at hX); (try have hXb := inB_iff.1 hX)))))); all_goals try (exfalso; omega)
        all_goals (show PostIO _ _ 0 (.val (.slice none 0 0)) [] _ _)
        all_goals ((with_reducible apply i_endN0 (by first | exact .inl rfl | exact .inr rfl)); (focus (simp (disch := (first | omega | (simp only [push_cast]; done) | (simp only [push_cast]; omega) | ((try simp only [push_cast]); (with_reducible first | apply sel_lt | apply sel_ge); (focus decide); (focus (simp only [push_cast]; omega))))) only [push_cast, ↓reduceIte, Nat.reduceEqDiff, Nat.reduceBEq, Nat.reduceAdd, Nat.reduceSub, Int.reduceToNat, *] <;> with_reducible exact rfl)))
      · have hxy := hxy.out (by omega)
        have hap : 0 < (acc.map fun s => PV.val (.string s)).length := by rw [List.length_map]; omega
        rw [nP_pos hap, nC_pos hap, List.length_map] at hq
        cases hq
        simp only [nP_pos hap, nO_pos hap, List.length_map]
        (repeat' (first | (with_reducible first | apply i_seq | apply i_block | apply i_skip | apply i_exit | apply i_ret | apply i_kS | apply i_kSx | apply i_kSr | apply i_kL | apply i_kLx | apply i_kLr | apply i_kB | apply i_kBr | apply i_kBs | apply i_nil) | ((with_reducible apply i_region); (focus (simp only [List.map_cons, List.map_nil] <;> exact rfl))) | ((with_reducible apply i_draw); (focus (simp only [List.map_cons, List.map_nil] <;> exact rfl)); (focus (decide +kernel))) | ((with_reducible apply i_kBo); (focus rfl)) | ((first | ((with_reducible apply i_V); (focus rfl); (focus rfl); (focus rfl)) | ((with_reducible apply i_E); (focus rfl); (focus (first | rfl | (simp only [push_cast, ↓reduceIte, effOk, touch, refsOf, List.flatMap_cons, List.flatMap_nil])))) | ((with_reducible apply i_S); (focus rfl); (focus (first | rfl | (simp only [push_cast, ↓reduceIte, effOk, touch, refsOf, List.flatMap_cons, List.flatMap_nil])))) | ((with_reducible apply i_Vq); (focus rfl); (focus rfl)) | ((with_reducible apply i_Vp); (focus rfl); (focus rfl); (focus rfl)) | (with_reducible first | apply i_Gb | apply i_cond)); (focus (simp (disch := (first | omega | (simp only [push_cast]; done) | (simp only [push_cast]; omega) | ((try simp only [push_cast]); (with_reducible first | apply sel_lt | apply sel_ge); (focus decide); (focus (simp only [push_cast]; omega))))) only [push_cast, ↓reduceIte, Nat.reduceEqDiff, Nat.reduceBEq, Nat.reduceAdd, Nat.reduceSub, Int.reduceToNat, *] <;> with_reducible exact rfl)); all_goals try (intro hX; first | (cases hX; done) | ((with_reducible first | have hX0 : true = true := hX | have hX0 : false = false := hX); clear hX0 hX) | ((try simp only [decide_eq_true_eq, decide_eq_false_iff_not, Bool.not_eq_true', Bool.not_eq_false'] at hX); (try have hXb := inB_iff.1 hX)))))); all_goals try (exfalso; omega)
        all_goals ((with_reducible apply i_endN1 (x) (by first | exact .inl rfl | exact .inr rfl)); (focus (simp (disch := (first | omega | (simp only [push_cast]; done) | (simp only [push_cast]; omega) | ((try simp only [push_cast]); (with_reducible first | apply sel_lt | apply sel_ge); (focus decide); (focus (simp only [push_cast]; omega))))) only [push_cast, ↓reduceIte, Nat.reduceEqDiff, Nat.reduceBEq, Nat.reduceAdd, Nat.reduceSub, Int.reduceToNat, *] <;> with_reducible exact rfl)); (focus (simp (disch := (first | omega | (simp only [push_cast]; done) | (simp only [push_cast]; omega) | ((try simp only [push_cast]); (with_reducible first | apply sel_lt | apply sel_ge); (focus decide); (focus (simp only [push_cast]; omega))))) only [push_cast, ↓reduceIte, Nat.reduceEqDiff, Nat.reduceBEq, Nat.reduceAdd, Nat.reduceSub, Int.reduceToNat, *] <;> with_reducible exact rfl)))
theorem gridR_pos {wd : Int} {l : List Int} (h : gridB wd l = true) : 0 < (gridR wd l).length := by
  obtain ⟨W, n, hwd, hW, hW60, hln, hn, hn60⟩ := grid_rows h
  have hge : ∀ (f : Nat) (zs : List Int) (acc : LS), acc.length ≤ (gridF W f zs acc).length := fun f => by
    induction f with
    | zero => intro zs acc; exact Nat.le_refl _
    | succ f ih =>
      intro zs acc
      unfold gridF
      split
      · exact Nat.le_refl _
      · have := ih (zs.drop W) (acc ++ [trimS (bytesOf (zs.take W))])
        simp only [List.length_append, List.length_cons, List.length_nil] at this
        omega
  have hpos : 0 < l.length := by
    have := Nat.mul_pos hn hW
    omega
  unfold gridR
  subst hwd
  obtain ⟨g, hg⟩ : ∃ g, l.length = g + 1 := ⟨l.length - 1, by omega⟩
  rw [hg, Int.toNat_natCast]
  unfold gridF
  rw [if_neg (by omega)]
  have := hge g (l.drop W) ([] ++ [trimS (bytesOf (l.take W))])
  simp only [List.length_append, List.length_cons, List.length_nil] at this
  omega
end Go.Proofs.YtpggpdbipajchaaDoor
namespace Go.Proofs.YtpggpdbipajchaaDoor
open Go.RowKit
set_option linter.all false
theorem gridB_sp {w h : Int} (hG : gridO w h = true) : gridB w (List.replicate (w * h).toNat 32) = true := by
  obtain ⟨h1, h2⟩ := gridO_iff.1 hG
  have har := area_rng hG
  have e : ((w * h).toNat : Int) = w * h := Int.toNat_of_nonneg (by omega)
  unfold gridB
  rw [List.length_replicate, e, Int.mul_emod_right, Int.mul_ediv_cancel_left h (by omega), inB_iff.2 h1, inB_iff.2 h2]
  simp [inB]
end Go.Proofs.YtpggpdbipajchaaDoor
namespace Go.Proofs.YtpggpdbipajchaaDoor
open Go.RowKit
set_option linter.all false
def pgF (wd : Int) : List Int → Nat → LS → Option (List Int)
  | g, _, [] => some g
  | g, k, s :: r => if (putPre wd g 0 k s && prB s) = true then pgF wd (putL wd g 0 k s) (k + 1) r else none
def pgCol (wd page : Int) : Int := max 0 (wd - (itoaS page).size) / 2
def pgN (wd ht page : Int) (g : List Int) : Option (List Int) := if (putPre wd g (pgCol wd page) (ht - 1) (itoaS page) && prB (itoaS page)) = true then some (putL wd g (pgCol wd page) (ht - 1) (itoaS page)) else none
def pgA (n : Nat) (wd ht page : Int) : Bool := gridO wd ht && (decide ((n : Int) ≤ ht - 1) && inB page 1 999)
def pgR (l : LS) (wd ht page : Int) : Option (List Int) := if pgA l.length wd ht page = true then (pgF wd (List.replicate (wd * ht).toNat 32) 0 l).bind (pgN wd ht page) else none
theorem pgA_iff {n : Nat} {wd ht page : Int} : pgA n wd ht page = true ↔ gridO wd ht = true ∧ (n : Int) ≤ ht - 1 ∧ inB page 1 999 = true := by
  unfold pgA
  rw [Bool.and_eq_true, Bool.and_eq_true, decide_eq_true_eq]
theorem pgF_step {wd : Int} {g : List Int} {k : Nat} {l : LS} (h : k < l.length) : pgF wd g k (l.drop k) = if (putPre wd g 0 k (l[k]?.getD .empty) && prB (l[k]?.getD .empty)) = true then pgF wd (putL wd g 0 k (l[k]?.getD .empty)) (k + 1) (l.drop (k + 1)) else none := by
  rw [List.drop_eq_getElem_cons h, List.getElem?_eq_getElem h]
  rfl
theorem itoaS_size {n : Int} (h : 0 ≤ n) (h2 : n ≤ 999) : (itoaS n).size ≤ 3 := by
  have e : (itoaS n).size = Lib.nDigits n.toNat := by
    unfold itoaS Lib.itoa
    rw [if_neg (by omega), ← Lib.decDigits_length]
    rfl
  rw [e]
  by_cases h1 : n.toNat < 10
  · rw [Lib.nDigits_small h1]; omega
  · rw [Lib.nDigits_big h1]
    by_cases h3 : n.toNat / 10 < 10
    · rw [Lib.nDigits_small h3]; omega
    · rw [Lib.nDigits_big h3, Lib.nDigits_small (by omega)]; omega
theorem put_keeps {wd col row : Int} {l : List Int} {s : ByteArray} (hG : gridB wd l = true) (hp : (putPre wd l col row s && prB s) = true) : gridB wd (putL wd l col row s) = true ∧ (putL wd l col row s).length = l.length := by
  have h1 := putR_length (col := col) (row := row) (s := s) hG
  unfold putR at h1
  rw [if_pos hp] at h1
  exact ⟨putR_grid hG (Bool.and_eq_true_iff.1 hp).2 h1, h1⟩
noncomputable def φGoP : Fun := pureN ΨGridOf
theorem specGo_ok : Sound Tryd.prog 47 φGoP := specGridOfN.pure
theorem φGoP_ap {w h : Int} (hG : gridO w h = true) : φGoP [.val (.int .i64 w), .val (.int .i64 h)] = some (.agg [.val (.int .i64 w), .lst true 1 (spcs (w * h).toNat)]) := by
  refine pureN_of (r := .agg [.val (.int .i64 w), .row 0 1 0 (w * h).toNat]) (cs0 := [(5, 1, spcs (w * h).toNat)]) (ΨGridOf_ap.trans (by unfold gridZ; rw [if_pos hG])) ?_
  rw [ls_one]
  have hl : (List.replicate (w * h).toNat (32 : Int)).length = (w * h).toNat := List.length_replicate
  rw [← hl]
  unfold spcs
  rw [hl]
  (simp (disch := (first | omega | (simp only [push_cast]; done) | (simp only [push_cast]; omega) | ((try simp only [push_cast]); (with_reducible first | apply sel_lt | apply sel_ge); (focus decide); (focus (simp only [push_cast]; omega))))) only [push_cast, ↓reduceIte, Nat.reduceEqDiff, Nat.reduceBEq, Nat.reduceAdd, Nat.reduceSub, Int.reduceToNat, *] <;> with_reducible exact rfl)
theorem φGoP_no {w h : Int} (hG : gridO w h = false) : φGoP [.val (.int .i64 w), .val (.int .i64 h)] = some (.agg [.val (.int .i64 0), .val (.slice none 0 0)]) :=
  pureN_of (r := .agg [.val (.int .i64 0), .val (.slice none 0 0)]) (cs0 := []) (ΨGridOf_ap.trans (by unfold gridZ; rw [if_neg (by rw [hG]; decide)])) rfl
def pgZS (l : LS) (wd ht page : Int) : PV := match pgR l wd ht page with
  | some g => .tup [.agg [.val (.int .i64 wd), .lst true 1 (g.map fun n => .val (.int .u8 n))], .val (.bool true)]
  | none => .tup [.agg [.val (.int .i64 0), .val (.slice none 0 0)], .val (.bool false)]
noncomputable def φPg : Fun := F4 dSs dI dI dI fun l wd ht page => if okSs l ∧ okI wd ∧ okI ht ∧ okI page then some (pgZS l wd ht page) else none
theorem φPg_ap {l : LS} {wd ht page : Int} (h : okSs l ∧ okI wd ∧ okI ht ∧ okI page) : φPg [.lst false 1 (l.map fun s => .val (.string s)), .val (.int .i64 wd), .val (.int .i64 ht), .val (.int .i64 page)] = some (pgZS l wd ht page) :=
  (F4_ap (A := dSs) (B := dI) (C := dI) (D := dI) l wd ht page).trans (if_pos h)
noncomputable def GSpg : Ctx := ⟨fun f => if f = 47 then some φGoP else if f = 48 then some φIn else if f = 49 then some φPutS else if f = 50 then some φNum else none, fun f => none⟩
theorem GSpg_ok : SoundΓ Tryd.prog GSpg := ⟨(fun f φ h => by
  unfold GSpg at h
  dsimp only at h
  split at h
  · rename_i hf; cases h; subst hf; exact ⟨⟨_, Tryd.func47, rfl, rfl⟩, specGo_ok⟩
  split at h
  · rename_i hf; cases h; subst hf; exact ⟨⟨_, Tryd.func48, rfl, rfl⟩, l1In_ok⟩
  split at h
  · rename_i hf; cases h; subst hf; exact ⟨⟨_, Tryd.func49, rfl, rfl⟩, specPut_ok⟩
  split at h
  · rename_i hf; cases h; subst hf; exact ⟨⟨_, Tryd.func50, rfl, rfl⟩, num_ok⟩
  cases h), (fun f φ h => by
  unfold GSpg at h
  dsimp only at h
  cases h)⟩
theorem GSpg_47 (ob : Objs) (ps : List PV) : evCall GSpg ob 47 ps = (ps.mapM (reify false 0 ob fuel)).bind φGoP := by
  have h : GSpg.fn 47 = some φGoP := by simp [GSpg]
  unfold evCall
  rw [h]
  cases ps.mapM (reify false 0 ob fuel) <;> rfl
theorem GSpg_48 (ob : Objs) (ps : List PV) : evCall GSpg ob 48 ps = (ps.mapM (reify false 0 ob fuel)).bind φIn := by
  have h : GSpg.fn 48 = some φIn := by simp [GSpg]
  unfold evCall
  rw [h]
  cases ps.mapM (reify false 0 ob fuel) <;> rfl
theorem GSpg_49 (ob : Objs) (ps : List PV) : evCall GSpg ob 49 ps = (ps.mapM (reify false 0 ob fuel)).bind φPutS := by
  have h : GSpg.fn 49 = some φPutS := by simp [GSpg]
  unfold evCall
  rw [h]
  cases ps.mapM (reify false 0 ob fuel) <;> rfl
theorem GSpg_50 (ob : Objs) (ps : List PV) : evCall GSpg ob 50 ps = (ps.mapM (reify false 0 ob fuel)).bind φNum := by
  have h : GSpg.fn 50 = some φNum := by simp [GSpg]
  unfold evCall
  rw [h]
  cases ps.mapM (reify false 0 ob fuel) <;> rfl
set_option maxHeartbeats 16000000 in
theorem specPg_ok : Sound Tryd.prog 12 φPg := by
  refine sound_pq mixed GSpg_ok Tryd.func12 rfl 77 rfl [.cell 8 26, .tmp 9] rfl (by kernel_rfl) fun ps r hr => ?_
  obtain ⟨l, wd, ht, page, rfl, hq⟩ := F4_some hr
  clear hr
  split at hq
  case isFalse => cases hq
  case isTrue hpre =>
  have hz : pgZS l wd ht page = r := by simpa using hq
  clear hq
  refine ⟨by simp, ?_⟩
  simp only [dIs, dUs, dSs, dI_e, dU_e, dB_e, dS_e, dFn_e, dL_e, dA2_e, dA3_e, dA4_e, dA5_e]
  obtain ⟨hok, ho1, ho2, ho3⟩ := hpre
  have hlen := hok.1
  have hsz := hok.2
  have ap3 := φIn_ap
  unfold pgZS pgR at hz
  cases hO : gridO wd ht with
  | false =>
    have ap1 := φGoP_no hO
    rw [if_neg (by rw [pgA_iff, hO]; simp)] at hz
    subst hz
    clear hO hsz hok
    have gspg_c47 := GSpg_47; have gspg_c48 := GSpg_48; have gspg_c49 := GSpg_49; have gspg_c50 := GSpg_50
    (repeat' (first | (with_reducible first | apply i_seq | apply i_block | apply i_skip | apply i_exit | apply i_ret | apply i_kS | apply i_kSx | apply i_kSr | apply i_kL | apply i_kLx | apply i_kLr | apply i_kB | apply i_kBr | apply i_kBs | apply i_nil) | ((with_reducible apply i_region); (focus (simp only [List.map_cons, List.map_nil] <;> exact rfl))) | ((with_reducible apply i_draw); (focus (simp only [List.map_cons, List.map_nil] <;> exact rfl)); (focus (decide +kernel))) | ((with_reducible apply i_kBo); (focus rfl)) | ((first | ((with_reducible apply i_V); (focus rfl); (focus rfl); (focus rfl)) | ((with_reducible apply i_E); (focus rfl); (focus (first | rfl | (simp only [push_cast, ↓reduceIte, effOk, touch, refsOf, List.flatMap_cons, List.flatMap_nil])))) | ((with_reducible apply i_S); (focus rfl); (focus (first | rfl | (simp only [push_cast, ↓reduceIte, effOk, touch, refsOf, List.flatMap_cons, List.flatMap_nil])))) | ((with_reducible apply i_Vq); (focus rfl); (focus rfl)) | ((with_reducible apply i_Vp); (focus rfl); (focus rfl); (focus rfl)) | (with_reducible first | apply i_Gb | apply i_cond)); (focus (simp (disch := (first | omega | (simp only [push_cast]; done) | (simp only [push_cast]; omega) | ((try simp only [push_cast]); (with_reducible first | apply sel_lt | apply sel_ge); (focus decide); (focus (simp only [push_cast]; omega))))) only [push_cast, ↓reduceIte, Nat.reduceEqDiff, Nat.reduceBEq, Nat.reduceAdd, Nat.reduceSub, Int.reduceToNat, *] <;> with_reducible exact rfl)); all_goals try (intro hX; first | (cases hX; done) | ((with_reducible first | have hX0 : true = true := hX | have hX0 : false = false := hX); clear hX0 hX) | ((try simp only [decide_eq_true_eq, decide_eq_false_iff_not, Bool.not_eq_true', Bool.not_eq_false'] at hX); (try have hXb := inB_iff.1 hX)))))); all_goals try (exfalso; omega)
    all_goals (first | (exfalso; omega) | ((first | apply i_end | apply i_endN); simp (disch := (first | omega | (simp only [push_cast]; done) | (simp only [push_cast]; omega) | ((try simp only [push_cast]); (with_reducible first | apply sel_lt | apply sel_ge); (focus decide); (focus (simp only [push_cast]; omega))))) only [push_cast, ↓reduceIte, Nat.reduceEqDiff, Nat.reduceBEq, Nat.reduceAdd, Nat.reduceSub, Int.reduceToNat, *]) | skip)
  | true =>
    have ap1 := φGoP_ap hO
    obtain ⟨hw, hh⟩ := gridO_iff.1 hO
    have har := area_rng hO
    have hG0 := gridB_sp hO
    by_cases hA : (l.length : Int) ≤ ht - 1 ∧ inB page 1 999 = true
    · rw [if_pos (pgA_iff.2 ⟨hO, hA⟩)] at hz
      obtain ⟨hA1, hA2⟩ := hA
      have hpb := inB_iff.1 hA2
      have ap4 := φNum_ap (n := page) (by omega) (by omega)
      have his := itoaS_size (n := page) (by omega) (by omega)
      have hcol : ∀ n : Nat, n = n := fun _ => rfl
      replace hz := Lib.hid hz
      replace hG0 := Lib.hid hG0
      clear hO hok hcol
      have gspg_c47 := GSpg_47; have gspg_c48 := GSpg_48; have gspg_c49 := GSpg_49; have gspg_c50 := GSpg_50
      (repeat' (first | (with_reducible first | apply i_seq | apply i_block | apply i_skip | apply i_exit | apply i_ret | apply i_kS | apply i_kSx | apply i_kSr | apply i_kL | apply i_kLx | apply i_kLr | apply i_kB | apply i_kBr | apply i_kBs | apply i_nil) | ((with_reducible apply i_region); (focus (simp only [List.map_cons, List.map_nil] <;> exact rfl))) | ((with_reducible apply i_draw); (focus (simp only [List.map_cons, List.map_nil] <;> exact rfl)); (focus (decide +kernel))) | ((with_reducible apply i_kBo); (focus rfl)) | ((first | ((with_reducible apply i_V); (focus rfl); (focus rfl); (focus rfl)) | ((with_reducible apply i_E); (focus rfl); (focus (first | rfl | (simp only [push_cast, ↓reduceIte, effOk, touch, refsOf, List.flatMap_cons, List.flatMap_nil])))) | ((with_reducible apply i_S); (focus rfl); (focus (first | rfl | (simp only [push_cast, ↓reduceIte, effOk, touch, refsOf, List.flatMap_cons, List.flatMap_nil])))) | ((with_reducible apply i_Vq); (focus rfl); (focus rfl)) | ((with_reducible apply i_Vp); (focus rfl); (focus rfl); (focus rfl)) | (with_reducible first | apply i_Gb | apply i_cond)); (focus (simp (disch := (first | omega | (simp only [push_cast]; done) | (simp only [push_cast]; omega) | ((try simp only [push_cast]); (with_reducible first | apply sel_lt | apply sel_ge); (focus decide); (focus (simp only [push_cast]; omega))))) only [push_cast, ↓reduceIte, Nat.reduceEqDiff, Nat.reduceBEq, Nat.reduceAdd, Nat.reduceSub, Int.reduceToNat, *] <;> with_reducible exact rfl)); all_goals try (intro hX; first | (cases hX; done) | ((with_reducible first | have hX0 : true = true := hX | have hX0 : false = false := hX); clear hX0 hX) | ((try simp only [decide_eq_true_eq, decide_eq_false_iff_not, Bool.not_eq_true', Bool.not_eq_false'] at hX); (try have hXb := inB_iff.1 hX)))))); all_goals try (exfalso; omega)
      refine i_loop (α := Nat × List Int × Nat) mixed (fun s => [(0, .lst false 1 (l.map fun s => .val (.string s))), (1, iv wd), (2, iv ht), (3, iv page), (8, .own 0 2 0 0), (10, .own 1 2 0 0), (11, iv s.1)])
        (fun s => [(0, 26, 2, [PV.agg [.val (.int .i64 0), .val (.slice none 0 0)]]), (1, 26, 2, [PV.agg [.val (.int .i64 wd), .lst true 1 (s.2.1.map fun n => .val (.int .u8 n))]])]) (fun s => s.2.2)
        (fun s => s.1 ≤ l.length ∧ gridB wd s.2.1 = true ∧ s.2.1.length = (wd * ht).toNat ∧ pgF wd s.2.1 s.1 (l.drop s.1) = pgF wd (List.replicate (wd * ht).toNat 32) 0 l ∧ 2 ≤ s.2.2) (fun s => l.length - s.1) (by kernel_rfl) (0, List.replicate (wd * ht).toNat 32, 2) ⟨Nat.zero_le _, hG0.out, List.length_replicate, by rw [List.drop_zero], by simp⟩ ?_ ?_ rfl ?_
      · simp (disch := (first | omega | (simp only [push_cast]; done) | (simp only [push_cast]; omega) | ((try simp only [push_cast]); (with_reducible first | apply sel_lt | apply sel_ge); (focus decide); (focus (simp only [push_cast]; omega))))) only [push_cast, ↓reduceIte, Nat.reduceEqDiff, Nat.reduceBEq, Nat.reduceAdd, Nat.reduceSub, Int.reduceToNat, List.length_append, *]
      · simp (disch := (first | omega | (simp only [push_cast]; done) | (simp only [push_cast]; omega) | ((try simp only [push_cast]); (with_reducible first | apply sel_lt | apply sel_ge); (focus decide); (focus (simp only [push_cast]; omega))))) only [push_cast, ↓reduceIte, Nat.reduceEqDiff, Nat.reduceBEq, Nat.reduceAdd, Nat.reduceSub, Int.reduceToNat, List.length_append, *]
      rintro ⟨k, g, y⟩ ⟨hk, hG, hgl, hF, hy⟩
      dsimp only at hk hG hgl hF hy
      have hU := gridB_okU hG
      by_cases hkl : k < l.length
      · have ap5 := φPutS_ap (wd := wd) (col := 0) (row := k) (l := g) (s := l[k]?.getD .empty) ⟨hU, by have := hsz k; omega⟩
        have hst := pgF_step (wd := wd) (g := g) hkl
        unfold putZS at ap5
        rw [if_pos hG] at ap5
        cases hp : (putPre wd g 0 k (l[k]?.getD .empty) && prB (l[k]?.getD .empty)) with
        | true =>
          obtain ⟨hG2, hl2⟩ := put_keeps hG hp
          unfold putR at ap5
          rw [hp, if_pos rfl] at ap5
          rw [hp, if_pos rfl, hF] at hst
          replace hG2 := Lib.hid hG2
          replace hl2 := Lib.hid hl2
          replace hst := Lib.hid hst
          clear hp hF hG hU hsz
          (repeat' (first | (with_reducible first | apply i_seq | apply i_block | apply i_skip | apply i_exit | apply i_ret | apply i_kS | apply i_kSx | apply i_kSr | apply i_kL | apply i_kLx | apply i_kLr | apply i_kB | apply i_kBr | apply i_kBs | apply i_nil) | ((with_reducible apply i_region); (focus (simp only [List.map_cons, List.map_nil] <;> exact rfl))) | ((with_reducible apply i_draw); (focus (simp only [List.map_cons, List.map_nil] <;> exact rfl)); (focus (decide +kernel))) | ((with_reducible apply i_kBo); (focus rfl)) | ((first | ((with_reducible apply i_V); (focus rfl); (focus rfl); (focus rfl)) | ((with_reducible apply i_E); (focus rfl); (focus (first | rfl | (simp only [push_cast, ↓reduceIte, effOk, touch, refsOf, List.flatMap_cons, List.flatMap_nil])))) | ((with_reducible apply i_S); (focus rfl); (focus (first | rfl | (simp only [push_cast, ↓reduceIte, effOk, touch, refsOf, List.flatMap_cons, List.flatMap_nil])))) | ((with_reducible apply i_Vq); (focus rfl); (focus rfl)) | ((with_reducible apply i_Vp); (focus rfl); (focus rfl); (focus rfl)) | (with_reducible first | apply i_Gb | apply i_cond)); (focus (simp (disch := (first | omega | (simp only [push_cast]; done) | (simp only [push_cast]; omega) | ((try simp only [push_cast]); (with_reducible first | apply sel_lt | apply sel_ge); (focus decide); (focus (simp only [push_cast]; omega))))) only [push_cast, ↓reduceIte, Nat.reduceEqDiff, Nat.reduceBEq, Nat.reduceAdd, Nat.reduceSub, Int.reduceToNat, *] <;> with_reducible exact rfl)); all_goals try (intro hX; first | (cases hX; done) | ((with_reducible first | have hX0 : true = true := hX | have hX0 : false = false := hX); clear hX0 hX) | ((try simp only [decide_eq_true_eq, decide_eq_false_iff_not, Bool.not_eq_true', Bool.not_eq_false'] at hX); (try have hXb := inB_iff.1 hX)))))); all_goals try (exfalso; omega)
          refine i_drawFS 10 (by simp only [List.map_cons, List.map_nil] <;> exact rfl) (by simp only [List.take_succ_cons, List.take_zero] <;> exact rfl) (by simp only [List.drop_succ_cons, List.drop_zero] <;> exact rfl) ze_26 (by decide +kernel) (by decide +kernel) ?_
          (repeat' (first | (with_reducible first | apply i_seq | apply i_block | apply i_skip | apply i_exit | apply i_ret | apply i_kS | apply i_kSx | apply i_kSr | apply i_kL | apply i_kLx | apply i_kLr | apply i_kB | apply i_kBr | apply i_kBs | apply i_nil) | ((with_reducible apply i_region); (focus (simp only [List.map_cons, List.map_nil] <;> exact rfl))) | ((with_reducible apply i_draw); (focus (simp only [List.map_cons, List.map_nil] <;> exact rfl)); (focus (decide +kernel))) | ((with_reducible apply i_kBo); (focus rfl)) | ((first | ((with_reducible apply i_V); (focus rfl); (focus rfl); (focus rfl)) | ((with_reducible apply i_E); (focus rfl); (focus (first | rfl | (simp only [push_cast, ↓reduceIte, effOk, touch, refsOf, List.flatMap_cons, List.flatMap_nil])))) | ((with_reducible apply i_S); (focus rfl); (focus (first | rfl | (simp only [push_cast, ↓reduceIte, effOk, touch, refsOf, List.flatMap_cons, List.flatMap_nil])))) | ((with_reducible apply i_Vq); (focus rfl); (focus rfl)) | ((with_reducible apply i_Vp); (focus rfl); (focus rfl); (focus rfl)) | (with_reducible first | apply i_Gb | apply i_cond)); (focus (simp (disch := (first | omega | (simp only [push_cast]; done) | (simp only [push_cast]; omega) | ((try simp only [push_cast]); (with_reducible first | apply sel_lt | apply sel_ge); (focus decide); (focus (simp only [push_cast]; omega))))) only [push_cast, ↓reduceIte, Nat.reduceEqDiff, Nat.reduceBEq, Nat.reduceAdd, Nat.reduceSub, Int.reduceToNat, *] <;> with_reducible exact rfl)); all_goals try (intro hX; first | (cases hX; done) | ((with_reducible first | have hX0 : true = true := hX | have hX0 : false = false := hX); clear hX0 hX) | ((try simp only [decide_eq_true_eq, decide_eq_false_iff_not, Bool.not_eq_true', Bool.not_eq_false'] at hX); (try have hXb := inB_iff.1 hX)))))); all_goals try (exfalso; omega)
          refine i_kF (by (simp (disch := (first | omega | (simp only [push_cast]; done) | (simp only [push_cast]; omega) | ((try simp only [push_cast]); (with_reducible first | apply sel_lt | apply sel_ge); (focus decide); (focus (simp only [push_cast]; omega))))) only [push_cast, ↓reduceIte, Nat.reduceEqDiff, Nat.reduceBEq, Nat.reduceAdd, Nat.reduceSub, Int.reduceToNat, *] <;> with_reducible exact rfl)) ?_
          (repeat' (first | (with_reducible first | apply i_seq | apply i_block | apply i_skip | apply i_exit | apply i_ret | apply i_kS | apply i_kSx | apply i_kSr | apply i_kL | apply i_kLx | apply i_kLr | apply i_kB | apply i_kBr | apply i_kBs | apply i_nil) | ((with_reducible apply i_region); (focus (simp only [List.map_cons, List.map_nil] <;> exact rfl))) | ((with_reducible apply i_draw); (focus (simp only [List.map_cons, List.map_nil] <;> exact rfl)); (focus (decide +kernel))) | ((with_reducible apply i_kBo); (focus rfl)) | ((first | ((with_reducible apply i_V); (focus rfl); (focus rfl); (focus rfl)) | ((with_reducible apply i_E); (focus rfl); (focus (first | rfl | (simp only [push_cast, ↓reduceIte, effOk, touch, refsOf, List.flatMap_cons, List.flatMap_nil])))) | ((with_reducible apply i_S); (focus rfl); (focus (first | rfl | (simp only [push_cast, ↓reduceIte, effOk, touch, refsOf, List.flatMap_cons, List.flatMap_nil])))) | ((with_reducible apply i_Vq); (focus rfl); (focus rfl)) | ((with_reducible apply i_Vp); (focus rfl); (focus rfl); (focus rfl)) | (with_reducible first | apply i_Gb | apply i_cond)); (focus (simp (disch := (first | omega | (simp only [push_cast]; done) | (simp only [push_cast]; omega) | ((try simp only [push_cast]); (with_reducible first | apply sel_lt | apply sel_ge); (focus decide); (focus (simp only [push_cast]; omega))))) only [push_cast, ↓reduceIte, Nat.reduceEqDiff, Nat.reduceBEq, Nat.reduceAdd, Nat.reduceSub, Int.reduceToNat, *] <;> with_reducible exact rfl)); all_goals try (intro hX; first | (cases hX; done) | ((with_reducible first | have hX0 : true = true := hX | have hX0 : false = false := hX); clear hX0 hX) | ((try simp only [decide_eq_true_eq, decide_eq_false_iff_not, Bool.not_eq_true', Bool.not_eq_false'] at hX); (try have hXb := inB_iff.1 hX)))))); all_goals try (exfalso; omega)
          refine ⟨(k + 1, putL wd g 0 k (l[k]?.getD ByteArray.empty), y + 1), ⟨by dsimp only; omega, hG2.out, by rw [← hgl]; exact hl2.out, hst.out.symm, by dsimp only; omega⟩, by dsimp only; omega, ?_, ?_, rfl⟩
          · simp (disch := (first | omega | (simp only [push_cast]; done) | (simp only [push_cast]; omega) | ((try simp only [push_cast]); (with_reducible first | apply sel_lt | apply sel_ge); (focus decide); (focus (simp only [push_cast]; omega))))) only [push_cast, ↓reduceIte, Nat.reduceEqDiff, Nat.reduceBEq, Nat.reduceAdd, Nat.reduceSub, Int.reduceToNat, List.length_append, *]
          · simp (disch := (first | omega | (simp only [push_cast]; done) | (simp only [push_cast]; omega) | ((try simp only [push_cast]); (with_reducible first | apply sel_lt | apply sel_ge); (focus decide); (focus (simp only [push_cast]; omega))))) only [push_cast, ↓reduceIte, Nat.reduceEqDiff, Nat.reduceBEq, Nat.reduceAdd, Nat.reduceSub, Int.reduceToNat, List.length_append, *]
        | false =>
          unfold putR at ap5
          rw [hp, if_neg (by simp)] at ap5
          rw [hp, if_neg (by simp), hF] at hst
          have hz2 : (PV.tup [.agg [.val (.int .i64 0), .val (.slice none 0 0)], .val (.bool false)]) = r := by
            have h := hz.out
            rw [hst] at h
            exact h
          clear hz
          subst hz2
          clear hp hF hG hU hsz hst
          (repeat' (first | (with_reducible first | apply i_seq | apply i_block | apply i_skip | apply i_exit | apply i_ret | apply i_kS | apply i_kSx | apply i_kSr | apply i_kL | apply i_kLx | apply i_kLr | apply i_kB | apply i_kBr | apply i_kBs | apply i_nil) | ((with_reducible apply i_region); (focus (simp only [List.map_cons, List.map_nil] <;> exact rfl))) | ((with_reducible apply i_draw); (focus (simp only [List.map_cons, List.map_nil] <;> exact rfl)); (focus (decide +kernel))) | ((with_reducible apply i_kBo); (focus rfl)) | ((first | ((with_reducible apply i_V); (focus rfl); (focus rfl); (focus rfl)) | ((with_reducible apply i_E); (focus rfl); (focus (first | rfl | (simp only [push_cast, ↓reduceIte, effOk, touch, refsOf, List.flatMap_cons, List.flatMap_nil])))) | ((with_reducible apply i_S); (focus rfl); (focus (first | rfl | (simp only [push_cast, ↓reduceIte, effOk, touch, refsOf, List.flatMap_cons, List.flatMap_nil])))) | ((with_reducible apply i_Vq); (focus rfl); (focus rfl)) | ((with_reducible apply i_Vp); (focus rfl); (focus rfl); (focus rfl)) | (with_reducible first | apply i_Gb | apply i_cond)); (focus (simp (disch := (first | omega | (simp only [push_cast]; done) | (simp only [push_cast]; omega) | ((try simp only [push_cast]); (with_reducible first | apply sel_lt | apply sel_ge); (focus decide); (focus (simp only [push_cast]; omega))))) only [push_cast, ↓reduceIte, Nat.reduceEqDiff, Nat.reduceBEq, Nat.reduceAdd, Nat.reduceSub, Int.reduceToNat, *] <;> with_reducible exact rfl)); all_goals try (intro hX; first | (cases hX; done) | ((with_reducible first | have hX0 : true = true := hX | have hX0 : false = false := hX); clear hX0 hX) | ((try simp only [decide_eq_true_eq, decide_eq_false_iff_not, Bool.not_eq_true', Bool.not_eq_false'] at hX); (try have hXb := inB_iff.1 hX)))))); all_goals try (exfalso; omega)
          refine i_drawFS 10 (by simp only [List.map_cons, List.map_nil] <;> exact rfl) (by simp only [List.take_succ_cons, List.take_zero] <;> exact rfl) (by simp only [List.drop_succ_cons, List.drop_zero] <;> exact rfl) ze_26 (by decide +kernel) (by decide +kernel) ?_
          (repeat' (first | (with_reducible first | apply i_seq | apply i_block | apply i_skip | apply i_exit | apply i_ret | apply i_kS | apply i_kSx | apply i_kSr | apply i_kL | apply i_kLx | apply i_kLr | apply i_kB | apply i_kBr | apply i_kBs | apply i_nil) | ((with_reducible apply i_region); (focus (simp only [List.map_cons, List.map_nil] <;> exact rfl))) | ((with_reducible apply i_draw); (focus (simp only [List.map_cons, List.map_nil] <;> exact rfl)); (focus (decide +kernel))) | ((with_reducible apply i_kBo); (focus rfl)) | ((first | ((with_reducible apply i_V); (focus rfl); (focus rfl); (focus rfl)) | ((with_reducible apply i_E); (focus rfl); (focus (first | rfl | (simp only [push_cast, ↓reduceIte, effOk, touch, refsOf, List.flatMap_cons, List.flatMap_nil])))) | ((with_reducible apply i_S); (focus rfl); (focus (first | rfl | (simp only [push_cast, ↓reduceIte, effOk, touch, refsOf, List.flatMap_cons, List.flatMap_nil])))) | ((with_reducible apply i_Vq); (focus rfl); (focus rfl)) | ((with_reducible apply i_Vp); (focus rfl); (focus rfl); (focus rfl)) | (with_reducible first | apply i_Gb | apply i_cond)); (focus (simp (disch := (first | omega | (simp only [push_cast]; done) | (simp only [push_cast]; omega) | ((try simp only [push_cast]); (with_reducible first | apply sel_lt | apply sel_ge); (focus decide); (focus (simp only [push_cast]; omega))))) only [push_cast, ↓reduceIte, Nat.reduceEqDiff, Nat.reduceBEq, Nat.reduceAdd, Nat.reduceSub, Int.reduceToNat, *] <;> with_reducible exact rfl)); all_goals try (intro hX; first | (cases hX; done) | ((with_reducible first | have hX0 : true = true := hX | have hX0 : false = false := hX); clear hX0 hX) | ((try simp only [decide_eq_true_eq, decide_eq_false_iff_not, Bool.not_eq_true', Bool.not_eq_false'] at hX); (try have hXb := inB_iff.1 hX)))))); all_goals try (exfalso; omega)
          refine i_kF (by (simp (disch := (first | omega | (simp only [push_cast]; done) | (simp only [push_cast]; omega) | ((try simp only [push_cast]); (with_reducible first | apply sel_lt | apply sel_ge); (focus decide); (focus (simp only [push_cast]; omega))))) only [push_cast, ↓reduceIte, Nat.reduceEqDiff, Nat.reduceBEq, Nat.reduceAdd, Nat.reduceSub, Int.reduceToNat, *] <;> with_reducible exact rfl)) ?_
          (repeat' (first | (with_reducible first | apply i_seq | apply i_block | apply i_skip | apply i_exit | apply i_ret | apply i_kS | apply i_kSx | apply i_kSr | apply i_kL | apply i_kLx | apply i_kLr | apply i_kB | apply i_kBr | apply i_kBs | apply i_nil) | ((with_reducible apply i_region); (focus (simp only [List.map_cons, List.map_nil] <;> exact rfl))) | ((with_reducible apply i_draw); (focus (simp only [List.map_cons, List.map_nil] <;> exact rfl)); (focus (decide +kernel))) | ((with_reducible apply i_kBo); (focus rfl)) | ((first | ((with_reducible apply i_V); (focus rfl); (focus rfl); (focus rfl)) | ((with_reducible apply i_E); (focus rfl); (focus (first | rfl | (simp only [push_cast, ↓reduceIte, effOk, touch, refsOf, List.flatMap_cons, List.flatMap_nil])))) | ((with_reducible apply i_S); (focus rfl); (focus (first | rfl | (simp only [push_cast, ↓reduceIte, effOk, touch, refsOf, List.flatMap_cons, List.flatMap_nil])))) | ((with_reducible apply i_Vq); (focus rfl); (focus rfl)) | ((with_reducible apply i_Vp); (focus rfl); (focus rfl); (focus rfl)) | (with_reducible first | apply i_Gb | apply i_cond)); (focus (simp (disch := (first | omega | (simp only [push_cast]; done) | (simp only [push_cast]; omega) | ((try simp only [push_cast]); (with_reducible first | apply sel_lt | apply sel_ge); (focus decide); (focus (simp only [push_cast]; omega))))) only [push_cast, ↓reduceIte, Nat.reduceEqDiff, Nat.reduceBEq, Nat.reduceAdd, Nat.reduceSub, Int.reduceToNat, *] <;> with_reducible exact rfl)); all_goals try (intro hX; first | (cases hX; done) | ((with_reducible first | have hX0 : true = true := hX | have hX0 : false = false := hX); clear hX0 hX) | ((try simp only [decide_eq_true_eq, decide_eq_false_iff_not, Bool.not_eq_true', Bool.not_eq_false'] at hX); (try have hXb := inB_iff.1 hX)))))); all_goals try (exfalso; omega)
          all_goals (first | (exfalso; omega) | ((first | apply i_end | apply i_endN); simp (disch := (first | omega | (simp only [push_cast]; done) | (simp only [push_cast]; omega) | ((try simp only [push_cast]); (with_reducible first | apply sel_lt | apply sel_ge); (focus decide); (focus (simp only [push_cast]; omega))))) only [push_cast, ↓reduceIte, Nat.reduceEqDiff, Nat.reduceBEq, Nat.reduceAdd, Nat.reduceSub, Int.reduceToNat, *]) | skip)
      · obtain rfl : k = l.length := by omega
        rw [List.drop_length] at hF
        have ap5 := φPutS_ap (wd := wd) (col := pgCol wd page) (row := ht - 1) (l := g) (s := itoaS page) ⟨hU, by omega⟩
        unfold putZS at ap5
        rw [if_pos hG] at ap5
        unfold putR at ap5
        have hz2 : (match pgN wd ht page g with
          | some g => PV.tup [.agg [.val (.int .i64 wd), .lst true 1 (g.map fun n => .val (.int .u8 n))], .val (.bool true)]
          | none => PV.tup [.agg [.val (.int .i64 0), .val (.slice none 0 0)], .val (.bool false)]) = r := by
          have h := hz.out
          rw [← hF] at h
          exact h
        clear hz
        unfold pgN at hz2
        have hcol : (if wd - (itoaS page).size > 0 then wd - (itoaS page).size else 0) / 2 = pgCol wd page := by
          unfold pgCol
          congr 1
          split <;> omega
        have hc2 : 0 ≤ pgCol wd page ∧ pgCol wd page ≤ 60 := by unfold pgCol; omega
        generalize itoaS page = num at *
        generalize pgCol wd page = col at *
        cases hp : (putPre wd g col (ht - 1) num && prB num) with
        | true =>
          rw [hp, if_pos rfl] at hz2 ap5
          dsimp only at hz2
          subst hz2
          clear hp hF hG hU hsz
          (repeat' (first | (with_reducible first | apply i_seq | apply i_block | apply i_skip | apply i_exit | apply i_ret | apply i_kS | apply i_kSx | apply i_kSr | apply i_kL | apply i_kLx | apply i_kLr | apply i_kB | apply i_kBr | apply i_kBs | apply i_nil) | ((with_reducible apply i_region); (focus (simp only [List.map_cons, List.map_nil] <;> exact rfl))) | ((with_reducible apply i_draw); (focus (simp only [List.map_cons, List.map_nil] <;> exact rfl)); (focus (decide +kernel))) | ((with_reducible apply i_kBo); (focus rfl)) | ((first | ((with_reducible apply i_V); (focus rfl); (focus rfl); (focus rfl)) | ((with_reducible apply i_E); (focus rfl); (focus (first | rfl | (simp only [push_cast, ↓reduceIte, effOk, touch, refsOf, List.flatMap_cons, List.flatMap_nil])))) | ((with_reducible apply i_S); (focus rfl); (focus (first | rfl | (simp only [push_cast, ↓reduceIte, effOk, touch, refsOf, List.flatMap_cons, List.flatMap_nil])))) | ((with_reducible apply i_Vq); (focus rfl); (focus rfl)) | ((with_reducible apply i_Vp); (focus rfl); (focus rfl); (focus rfl)) | (with_reducible first | apply i_Gb | apply i_cond)); (focus (simp (disch := (first | omega | (simp only [push_cast]; done) | (simp only [push_cast]; omega) | ((try simp only [push_cast]); (with_reducible first | apply sel_lt | apply sel_ge); (focus decide); (focus (simp only [push_cast]; omega))))) only [push_cast, ↓reduceIte, Nat.reduceEqDiff, Nat.reduceBEq, Nat.reduceAdd, Nat.reduceSub, Int.reduceToNat, *] <;> with_reducible exact rfl)); all_goals try (intro hX; first | (cases hX; done) | ((with_reducible first | have hX0 : true = true := hX | have hX0 : false = false := hX); clear hX0 hX) | ((try simp only [decide_eq_true_eq, decide_eq_false_iff_not, Bool.not_eq_true', Bool.not_eq_false'] at hX); (try have hXb := inB_iff.1 hX)))))); all_goals try (exfalso; omega)
          all_goals (first | (exfalso; omega) | ((first | apply i_end | apply i_endN); simp (disch := (first | omega | (simp only [push_cast]; done) | (simp only [push_cast]; omega) | ((try simp only [push_cast]); (with_reducible first | apply sel_lt | apply sel_ge); (focus decide); (focus (simp only [push_cast]; omega))))) only [push_cast, ↓reduceIte, Nat.reduceEqDiff, Nat.reduceBEq, Nat.reduceAdd, Nat.reduceSub, Int.reduceToNat, *]) | skip)
        | false =>
          rw [hp, if_neg (by simp)] at hz2 ap5
          dsimp only at hz2
          subst hz2
          clear hp hF hG hU hsz
          (repeat' (first | (with_reducible first | apply i_seq | apply i_block | apply i_skip | apply i_exit | apply i_ret | apply i_kS | apply i_kSx | apply i_kSr | apply i_kL | apply i_kLx | apply i_kLr | apply i_kB | apply i_kBr | apply i_kBs | apply i_nil) | ((with_reducible apply i_region); (focus (simp only [List.map_cons, List.map_nil] <;> exact rfl))) | ((with_reducible apply i_draw); (focus (simp only [List.map_cons, List.map_nil] <;> exact rfl)); (focus (decide +kernel))) | ((with_reducible apply i_kBo); (focus rfl)) | ((first | ((with_reducible apply i_V); (focus rfl); (focus rfl); (focus rfl)) | ((with_reducible apply i_E); (focus rfl); (focus (first | rfl | (simp only [push_cast, ↓reduceIte, effOk, touch, refsOf, List.flatMap_cons, List.flatMap_nil])))) | ((with_reducible apply i_S); (focus rfl); (focus (first | rfl | (simp only [push_cast, ↓reduceIte, effOk, touch, refsOf, List.flatMap_cons, List.flatMap_nil])))) | ((with_reducible apply i_Vq); (focus rfl); (focus rfl)) | ((with_reducible apply i_Vp); (focus rfl); (focus rfl); (focus rfl)) | (with_reducible first | apply i_Gb | apply i_cond)); (focus (simp (disch := (first | omega | (simp only [push_cast]; done) | (simp only [push_cast]; omega) | ((try simp only [push_cast]); (with_reducible first | apply sel_lt | apply sel_ge); (focus decide); (focus (simp only [push_cast]; omega))))) only [push_cast, ↓reduceIte, Nat.reduceEqDiff, Nat.reduceBEq, Nat.reduceAdd, Nat.reduceSub, Int.reduceToNat, *] <;> with_reducible exact rfl)); all_goals try (intro hX; first | (cases hX; done) | ((with_reducible first | have hX0 : true = true := hX | have hX0 : false = false := hX); clear hX0 hX) | ((try simp only [decide_eq_true_eq, decide_eq_false_iff_not, Bool.not_eq_true', Bool.not_eq_false'] at hX); (try have hXb := inB_iff.1 hX)))))); all_goals try (exfalso; omega)
          all_goals (first | (exfalso; omega) | ((first | apply i_end | apply i_endN); simp (disch := (first | omega | (simp only [push_cast]; done) | (simp only [push_cast]; omega) | ((try simp only [push_cast]); (with_reducible first | apply sel_lt | apply sel_ge); (focus decide); (focus (simp only [push_cast]; omega))))) only [push_cast, ↓reduceIte, Nat.reduceEqDiff, Nat.reduceBEq, Nat.reduceAdd, Nat.reduceSub, Int.reduceToNat, *]) | skip)
    · rw [if_neg (fun h => hA (pgA_iff.1 h).2)] at hz
      subst hz
      have hd : ht - 1 < l.length ∨ inB page 1 999 = false := by
        by_cases h1 : ht - 1 < l.length
        · exact .inl h1
        · right
          cases h2 : inB page 1 999 with
          | false => rfl
          | true => exact absurd ⟨by omega, h2⟩ hA
      clear hA hO hG0 hsz hok
      rcases hd with hd | hd <;>
      · have gspg_c47 := GSpg_47; have gspg_c48 := GSpg_48; have gspg_c49 := GSpg_49; have gspg_c50 := GSpg_50
        (repeat' (first | (with_reducible first | apply i_seq | apply i_block | apply i_skip | apply i_exit | apply i_ret | apply i_kS | apply i_kSx | apply i_kSr | apply i_kL | apply i_kLx | apply i_kLr | apply i_kB | apply i_kBr | apply i_kBs | apply i_nil) | ((with_reducible apply i_region); (focus (simp only [List.map_cons, List.map_nil] <;> exact rfl))) | ((with_reducible apply i_draw); (focus (simp only [List.map_cons, List.map_nil] <;> exact rfl)); (focus (decide +kernel))) | ((with_reducible apply i_kBo); (focus rfl)) | ((first | ((with_reducible apply i_V); (focus rfl); (focus rfl); (focus rfl)) | ((with_reducible apply i_E); (focus rfl); (focus (first | rfl | (simp only [push_cast, ↓reduceIte, effOk, touch, refsOf, List.flatMap_cons, List.flatMap_nil])))) | ((with_reducible apply i_S); (focus rfl); (focus (first | rfl | (simp only [push_cast, ↓reduceIte, effOk, touch, refsOf, List.flatMap_cons, List.flatMap_nil])))) | ((with_reducible apply i_Vq); (focus rfl); (focus rfl)) | ((with_reducible apply i_Vp); (focus rfl); (focus rfl); (focus rfl)) | (with_reducible first | apply i_Gb | apply i_cond)); (focus (simp (disch := (first | omega | (simp only [push_cast]; done) | (simp only [push_cast]; omega) | ((try simp only [push_cast]); (with_reducible first | apply sel_lt | apply sel_ge); (focus decide); (focus (simp only [push_cast]; omega))))) only [push_cast, ↓reduceIte, Nat.reduceEqDiff, Nat.reduceBEq, Nat.reduceAdd, Nat.reduceSub, Int.reduceToNat, *] <;> with_reducible exact rfl)); all_goals try (intro hX; first | (cases hX; done) | ((with_reducible first | have hX0 : true = true := hX | have hX0 : false = false := hX); clear hX0 hX) | ((try simp only [decide_eq_true_eq, decide_eq_false_iff_not, Bool.not_eq_true', Bool.not_eq_false'] at hX); (try have hXb := inB_iff.1 hX)))))); all_goals try (exfalso; omega)
        all_goals (first | (exfalso; omega) | ((first | apply i_end | apply i_endN); simp (disch := (first | omega | (simp only [push_cast]; done) | (simp only [push_cast]; omega) | ((try simp only [push_cast]); (with_reducible first | apply sel_lt | apply sel_ge); (focus decide); (focus (simp only [push_cast]; omega))))) only [push_cast, ↓reduceIte, Nat.reduceEqDiff, Nat.reduceBEq, Nat.reduceAdd, Nat.reduceSub, Int.reduceToNat, *]) | skip)
end Go.Proofs.YtpggpdbipajchaaDoor
