/- What the proof rests on, part 9: contracts of functions. No condition beyond what each states. -/
import Derived.Test.YtngcedklbinhjaaDoorZWw8
namespace Go.Proofs.YtngcedklbinhjaaDoor
open Go.RowKit
set_option linter.all false
noncomputable def wolR (l : LS) : LS := (wordsM (linesB (l.map (·.data.toList))) []).map fun b => ⟨b.toArray⟩
def okWl (l : LS) : Prop := l.length ≤ 1048576 ∧ sumS l ≤ 1048576
def WolI (l R : LS) (k : Nat) (rest : List UInt8) (out : LS) (word : ByteArray) : Prop :=
  out.map (·.data.toList) ++ wordsM (rest ++ linesB ((l.drop k).map (·.data.toList))) word.data.toList = R.map (·.data.toList)
theorem toL_inj {a b : LS} (h : a.map (·.data.toList) = b.map (·.data.toList)) : a = b := by
  induction a generalizing b with
  | nil => cases b with
    | nil => rfl
    | cons y b => simp at h
  | cons x a ih => cases b with
    | nil => simp at h
    | cons y b =>
      simp only [List.map_cons, List.cons.injEq] at h
      rw [gl_ext h.1, ih h.2]
theorem cat_one {w s : ByteArray} {j : Nat} (h : j < s.data.toList.length) : (w ++ s.extract j (j + 1)).data.toList = w.data.toList ++ [s.data.toList[j]] := by
  rw [ByteArray.data_append, Array.toList_append, ByteArray.data_extract, Array.toList_extract]
  congr 1
  rw [List.extract_eq_drop_take, show j + 1 - j = 1 by omega, List.drop_eq_getElem_cons h]
  rfl
theorem toL_nil {w : ByteArray} : w.data.toList = [] ↔ w = ⟨#[]⟩ := ⟨fun h => gl_ext h, fun h => by rw [h]⟩
theorem WolI.line {l R : LS} {k : Nat} {out : LS} {word : ByteArray} (h : WolI l R k [] out word) (hk : k < l.length) : WolI l R (k + 1) ((lineB (l[k]?.getD .empty).data.toList).drop 0) out word := by
  unfold WolI at h ⊢
  rw [List.nil_append, List.drop_eq_getElem_cons hk] at h
  rw [List.drop_zero, List.getElem?_eq_getElem hk, Option.getD_some]
  exact h
theorem WolI.stop {l R : LS} {out : LS} {word : ByteArray} (h : WolI l R l.length [] out word) : R = if word = ⟨#[]⟩ then out else out ++ [word] := by
  unfold WolI at h
  refine (toL_inj ?_).symm
  rw [List.drop_length] at h
  by_cases hw : word = ⟨#[]⟩
  · rw [if_pos hw]
    rw [hw] at h
    simpa [linesB, wordsM] using h
  · have hw2 : ¬ word.data.toList = [] := fun e => hw (toL_nil.1 e)
    rw [if_neg hw, List.map_append]
    rw [List.map_nil, List.nil_append] at h
    unfold linesB wordsM at h
    rw [if_neg hw2] at h
    exact h
theorem WolI.space {l R : LS} {k : Nat} {out : LS} {word : ByteArray} {r : List UInt8} (h : WolI l R k (32 :: r) out word) : WolI l R k r (if word = ⟨#[]⟩ then out else out ++ [word]) ⟨#[]⟩ := by
  unfold WolI at h ⊢
  rw [List.cons_append] at h
  unfold wordsM at h
  rw [if_pos rfl] at h
  by_cases hw : word = ⟨#[]⟩
  · rw [if_pos hw]
    rw [if_pos (toL_nil.2 hw), List.nil_append] at h
    exact h
  · rw [if_neg hw, List.map_append, List.append_assoc]
    rw [if_neg fun e => hw (toL_nil.1 e)] at h
    exact h
theorem WolI.byte {l R : LS} {k : Nat} {out : LS} {word w2 : ByteArray} {b : UInt8} {r : List UInt8} (h : WolI l R k (b :: r) out word) (hb : ¬ b = 32) (hw : w2.data.toList = word.data.toList ++ [b]) : WolI l R k r out w2 := by
  unfold WolI at h ⊢
  rw [List.cons_append] at h
  unfold wordsM at h
  rw [if_neg hb] at h
  rw [hw]
  exact h
theorem size0w {s : ByteArray} (h : s.size = 0) : s = ⟨#[]⟩ := by
  obtain ⟨⟨l⟩⟩ := s
  have : l.length = 0 := h
  rw [List.eq_nil_of_length_eq_zero this]
noncomputable def φWol : Fun := F1 dSs fun l => open Classical in if okWl l then some (.lst true 1 ((wolR l).map fun s => .val (.string s))) else none
noncomputable def GSwl : Ctx := { fn := fun f => if f = 39 then some φIn else none, io := fun f => none }
theorem GSwl_ok : SoundΓ Tryd.prog GSwl := ⟨(fun f φ h => by
  unfold GSwl at h
  dsimp only at h
  split at h
  · rename_i hf; cases h; subst hf; exact ⟨⟨_, Tryd.func39, rfl, rfl⟩, l1In_ok⟩
  cases h), (fun f φ h => by
  unfold GSwl at h
  dsimp only at h
  cases h), rfl⟩
theorem GSwl_39 (ob : Objs) (ps : List PV) : evCall GSwl ob 39 ps = (ps.mapM (reify false 0 ob fuel)).bind φIn := by
  have h : GSwl.fn 39 = some φIn := by simp [GSwl]
  unfold evCall
  rw [h]
  cases ps.mapM (reify false 0 ob fuel) <;> rfl
set_option maxHeartbeats 16000000 in
theorem specWol_ok : Sound Tryd.prog 7 φWol := by
  refine sound_pq mixed GSwl_ok Tryd.func7 rfl 86 rfl [.tmp 2] rfl (by kernel_rfl) fun ps r hr => ?_
  obtain ⟨l, rfl, hq⟩ := F1_some hr
  clear hr
  split at hq
  case isFalse => cases hq
  case isTrue hpre =>
  simp only [Option.some.injEq] at hq
  refine ⟨by simp, ?_⟩
  simp only [dIs, dUs, dSs, dI_e, dU_e, dB_e, dS_e, dFn_e, dL_e, dA2_e, dA3_e, dA4_e, dA5_e]
  obtain ⟨hl, hs⟩ := hpre
  generalize hR : wolR l = R at hq
  have hRM : wordsM (linesB (l.map (·.data.toList))) [] = R.map (·.data.toList) := by
    rw [← hR]
    unfold wolR
    rw [List.map_map]
    exact (List.map_id _).symm
  replace hRM := Lib.hid hRM
  replace hq := Lib.hid hq
  clear hR
  have gswl_c39 := GSwl_39
  (refine wlk ?_; intros)
  refine i_loop (α := Nat × LS × ByteArray × Nat × Nat) mixed (fun s => [(0, .lst false 1 (l.map fun s => .val (.string s))), (3, .row s.2.2.2.1 1 0 s.2.1.length), (4, .val (.string s.2.2.1)), (5, iv s.1)])
    (fun s => [(s.2.2.2.1, 9, 1, s.2.1.map fun s => .val (.string s))]) (fun s => s.2.2.2.2)
    (fun s => s.1 ≤ l.length ∧ WolI l R s.1 [] s.2.1 s.2.2.1 ∧ s.2.1.length + s.2.2.1.size ≤ sumS (l.take s.1) ∧ s.2.2.2.1 < s.2.2.2.2) (fun s => l.length - s.1) (by kernel_rfl) (0, [], ⟨#[]⟩, 0, 1) ⟨Nat.zero_le _, by simpa [WolI] using hRM.out, by simp [ByteArray.size], by simp⟩ ?_ ?_ rfl ?_
  · exact agr
  · exact agr
  rintro ⟨k, out, word, x, y⟩ ⟨hk, hI, hsz, hxy⟩
  dsimp only at hk hI hsz hxy
  replace hI := Lib.hid hI
  by_cases h0 : k < l.length
  · have hst := sumS_take (l := l) h0
    have hle := sumS_take_le l (k + 1)
    generalize hs9 : l[k]?.getD ByteArray.empty = s at *
    have hI2 := hI.out.line h0
    rw [hs9] at hI2
    replace hI2 := Lib.hid hI2
    (refine wlk ?_; intros)
    refine i_loop (α := Nat × LS × ByteArray × Nat × Nat) mixed (fun z => [(0, .lst false 1 (l.map fun s => .val (.string s))), (3, .row z.2.2.2.1 1 0 z.2.1.length), (4, .val (.string z.2.2.1)), (5, iv k), (6, .val (.string s)), (7, iv z.1)])
      (fun z => [(z.2.2.2.1, 9, 1, z.2.1.map fun s => .val (.string s))]) (fun z => z.2.2.2.2)
      (fun z => z.1 ≤ s.size ∧ WolI l R (k + 1) ((lineB s.data.toList).drop z.1) z.2.1 z.2.2.1 ∧ z.2.1.length + z.2.2.1.size ≤ sumS (l.take k) + z.1 ∧ z.2.2.2.1 < z.2.2.2.2) (fun z => s.size - z.1) (by kernel_rfl) (0, out, word, x, y) ⟨Nat.zero_le _, hI2.out, by dsimp only; omega, hxy⟩ ?_ ?_ rfl ?_
    · exact agr
    · exact agr
    rintro ⟨j, out, word, x, y⟩ ⟨hj, hI, hsz, hxy⟩
    dsimp only at hj hI hsz hxy
    clear hI2
    replace hI := Lib.hid hI
    by_cases hjs : j < s.size
    · have hl9 : s.data.toList.length = s.size := Array.length_toList
      have hjl : j < s.data.toList.length := by omega
      have hb := at8_u hjl
      have hr8 := at8_rng s j
      have hes : (s.extract j (j + 1)).size = 1 := by rw [ByteArray.size_extract]; omega
      have ht : ((j : Int) + 1).toNat = j + 1 := by omega
      have hex : (word ++ s.extract j (j + 1)).data.toList = word.data.toList ++ [s.data.toList[j]] := cat_one hjl
      replace hex := Lib.hid hex
      have hsa : (word ++ s.extract j (j + 1)).size = word.size + 1 := by rw [ByteArray.size_append, hes]
      clear hl9
      by_cases h45 : at8 s j = 45 ∧ j + 1 = s.size
      · have hI9 := hI.out
        rw [lb_skip hjs h45.1 h45.2] at hI9
        replace hI9 := Lib.hid hI9
        obtain ⟨h45a, h45b⟩ := h45
        have h45c : ¬ at8 s j = 32 := by omega
        have h45d : ¬ j + 1 < s.size := by omega
        have h45e : s.size ≤ j + 1 := by omega
        clear hb h45b
        (refine wlk ?_; intros)
        refine ⟨(j + 1, out, word, x, y), ⟨by dsimp only; omega, hI9.out, by dsimp only; omega, hxy⟩, by dsimp only; omega, ?_, ?_, rfl⟩
        · exact agr
        · exact agr
      · have hI9 := hI.out
        rw [lb_step hjl h45] at hI9
        by_cases h32 : at8 s j = 32
        · have hb32 : s.data.toList[j] = 32 := UInt8.toNat_inj.1 (by show _ = 32; omega)
          rw [hb32] at hI9
          replace hI9 := hI9.space
          clear hb hb32 h45 hex
          by_cases hw : word = ⟨#[]⟩
          · subst hw
            rw [if_pos rfl] at hI9
            replace hI9 := Lib.hid hI9
            (refine wlk ?_; intros)
            refine ⟨(j + 1, out, ⟨#[]⟩, x, y), ⟨by dsimp only; omega, hI9.out, by dsimp only; omega, hxy⟩, by dsimp only; omega, ?_, ?_, rfl⟩
            · exact agr
            · exact agr
          · rw [if_neg hw] at hI9
            replace hI9 := Lib.hid hI9
            have hwp : 0 < word.size := Nat.pos_of_ne_zero fun e => hw (size0w e)
            have hz0 : (⟨#[]⟩ : ByteArray).size = 0 := rfl
            (refine wlk ?_; intros)
            refine ⟨(j + 1, out ++ [word], ⟨#[]⟩, y + 1, y + 2), ⟨by dsimp only; omega, hI9.out, by dsimp only; rw [List.length_append, List.length_cons, List.length_nil, hz0]; omega, by dsimp only; omega⟩, by dsimp only; omega, ?_, ?_, rfl⟩
            · exact agr
            · exact agr
        · have hb32 : ¬ s.data.toList[j] = 32 := fun e => h32 (by rw [hb, e]; rfl)
          replace hI9 := hI9.byte hb32 hex.out
          replace hI9 := Lib.hid hI9
          clear hb hb32
          by_cases h45a : at8 s j = 45
          · have h45b : j + 1 < s.size := by
              have : ¬ j + 1 = s.size := fun e => h45 ⟨h45a, e⟩
              omega
            clear h45 hex
            (refine wlk ?_; intros)
            refine ⟨(j + 1, out, word ++ s.extract j (j + 1), x, y), ⟨by dsimp only; omega, hI9.out, by dsimp only; omega, hxy⟩, by dsimp only; omega, ?_, ?_, rfl⟩
            · exact agr
            · exact agr
          · clear h45 hex
            (refine wlk ?_; intros)
            refine ⟨(j + 1, out, word ++ s.extract j (j + 1), x, y), ⟨by dsimp only; omega, hI9.out, by dsimp only; omega, hxy⟩, by dsimp only; omega, ?_, ?_, rfl⟩
            · exact agr
            · exact agr
    · obtain rfl : j = s.size := by omega
      have hI9 := hI.out
      by_cases hy : 0 < s.size ∧ at8 s (s.size - 1) = 45
      · rw [lb_end_hy hy.1 hy.2] at hI9
        replace hI9 := Lib.hid hI9
        have hsn : ¬ s = ⟨#[]⟩ := fun e => by rw [e] at hy; exact absurd hy.1 (by decide)
        obtain ⟨hy1, hy2⟩ := hy
        (repeat' (first | (with_reducible first | apply i_seq | apply i_block | apply i_skip | apply i_exit | apply i_ret | apply i_kS | apply i_kSx | apply i_kSr | apply i_kL | apply i_kLx | apply i_kLr | apply i_kB | apply i_kBr | apply i_kBs | apply i_nil) | ((with_reducible apply i_region); (simp only [List.map_cons, List.map_nil] <;> exact rfl)) | ((with_reducible apply i_draw); (simp only [List.map_cons, List.map_nil] <;> exact rfl); decide +kernel) | ((with_reducible apply i_kBo); rfl) | ((first | ((with_reducible apply i_V); rfl; rfl; rfl) | ((first | ((with_reducible apply i_E); rfl) | ((with_reducible apply i_S); rfl)); first | rfl | (simp only [push_cast, ↓reduceIte])) | ((with_reducible apply i_Vq); rfl; rfl) | ((with_reducible apply i_Vp); rfl; rfl; rfl) | (with_reducible first | apply i_Gb | apply i_cond)); (simp (disch := (first | omega | (simp only [push_cast]; first | done | omega))) only [push_cast, ↓reduceIte, Nat.reduceEqDiff, Nat.reduceBEq, Nat.reduceAdd, Nat.reduceSub, Int.reduceToNat, *] <;> with_reducible exact rfl); all_goals try (first | (with_reducible first | refine hyT ?_ | refine hyF ?_ | exact hyA | exact hyB) | (intro hX; first | (cases hX; done) | ((try simp only [decide_eq_true_eq, decide_eq_false_iff_not, Bool.not_eq_true', Bool.not_eq_false'] at hX); (try have hXb := inB_iff.1 hX))))))); all_goals try (exfalso; omega)
        all_goals refine ⟨(k + 1, out, word, x, y), ⟨by dsimp only; omega, hI9.out, by dsimp only; omega, hxy⟩, by dsimp only; omega, ?_, ?_, rfl⟩
        all_goals exact agr
      · have hno : s.size = 0 ∨ ¬ at8 s (s.size - 1) = 45 := by
          by_cases h1 : s.size = 0
          · exact .inl h1
          · exact .inr fun h2 => hy ⟨by omega, h2⟩
        rw [lb_end_no hno] at hI9
        replace hI9 := hI9.space
        have hz0 : (⟨#[]⟩ : ByteArray).size = 0 := rfl
        clear hy
        by_cases hw : word = ⟨#[]⟩
        · subst hw
          rw [if_pos rfl] at hI9
          replace hI9 := Lib.hid hI9
          (refine wlk ?_; intros)
          all_goals refine ⟨(k + 1, out, ⟨#[]⟩, x, y), ⟨by dsimp only; omega, hI9.out, by dsimp only; omega, hxy⟩, by dsimp only; omega, ?_, ?_, rfl⟩
          all_goals exact agr
        · rw [if_neg hw] at hI9
          replace hI9 := Lib.hid hI9
          have hwp : 0 < word.size := Nat.pos_of_ne_zero fun e => hw (size0w e)
          by_cases h0s : s.size = 0
          · have hse : s = ⟨#[]⟩ := size0w h0s
            subst hse
            clear hno h0s
            (refine wlk ?_; intros)
            all_goals refine ⟨(k + 1, out ++ [word], ⟨#[]⟩, y + 1, y + 2), ⟨by dsimp only; omega, hI9.out, by dsimp only; rw [List.length_append, List.length_cons, List.length_nil, hz0]; omega, by dsimp only; omega⟩, by dsimp only; omega, ?_, ?_, rfl⟩
            all_goals exact agr
          · have hsn : ¬ s = ⟨#[]⟩ := fun e => h0s (by rw [e]; rfl)
            have hn45 : ¬ at8 s (s.size - 1) = 45 := hno.resolve_left h0s
            clear hno
            (refine wlk ?_; intros)
            all_goals refine ⟨(k + 1, out ++ [word], ⟨#[]⟩, y + 1, y + 2), ⟨by dsimp only; omega, hI9.out, by dsimp only; rw [List.length_append, List.length_cons, List.length_nil, hz0]; omega, by dsimp only; omega⟩, by dsimp only; omega, ?_, ?_, rfl⟩
            all_goals exact agr
  · obtain rfl : k = l.length := by omega
    have hle := sumS_take_le l l.length
    have hR9 := hI.out.stop
    have hq9 := hq.out
    by_cases hw : word = ⟨#[]⟩
    · rw [if_pos hw] at hR9
      subst hR9
      subst hq9
      subst hw
      clear hI hRM hq
      exact wlkS
    · rw [if_neg hw] at hR9
      subst hR9
      subst hq9
      clear hI hRM hq
      exact wlkS
end Go.Proofs.YtngcedklbinhjaaDoor
namespace Go.Proofs
set_option linter.all false
def YtngcedklbinhjaaDoor.laysW_ren : Go.Shelf.Ren := ⟨fun | 166 => 12 | 240 => 22 | 276 => 31 | n => n, fun | 0 => 0 | 3 => 3 | 4 => 4 | 9 => 9 | 20 => 20 | 37 => 22 | 70 => 32 | 72 => 34 | 75 => 38 | 164 => 67 | 31 => 23 | 76 => 39 | 127 => 54 | 5 => 5 | 80 => 42 | n => n, fun | n => n⟩
theorem YtngcedklbinhjaaDoor.laysW : Go.Proofs.Lays.n166 Tryd.prog YtngcedklbinhjaaDoor.laysW_ren := {
  mixed := by kernel_rfl
  f166 := Tryd.func12.trans (congrArg some (by kernel_rfl))
  f240 := Tryd.func22.trans (congrArg some (by kernel_rfl))
  f276 := Tryd.func31.trans (congrArg some (by kernel_rfl))
  t0 := Tryd.underlying0
  a0 := Tryd.isAgg0
  z0 := Tryd.sizeOf0
  v0 := Tryd.zeroValue0
  t3 := Tryd.underlying3
  a3 := Tryd.isAgg3
  z3 := Tryd.sizeOf3
  v3 := Tryd.zeroValue3
  t4 := Tryd.underlying4
  a4 := Tryd.isAgg4
  z4 := Tryd.sizeOf4
  v4 := Tryd.zeroValue4
  t9 := Tryd.underlying9
  a9 := Tryd.isAgg9
  z9 := Tryd.sizeOf9
  v9 := Tryd.zeroValue9
  t20 := Tryd.underlying20
  a20 := Tryd.isAgg20
  z20 := Tryd.sizeOf20
  v20 := Tryd.zeroValue20
  t37 := Tryd.underlying22
  a37 := Tryd.isAgg22
  z37 := Tryd.sizeOf22
  v37 := Tryd.zeroValue22
  t70 := Tryd.underlying32
  a70 := Tryd.isAgg32
  z70 := Tryd.sizeOf32
  v70 := Tryd.zeroValue32
  t72 := Tryd.underlying34
  a72 := Tryd.isAgg34
  z72 := Tryd.sizeOf34
  v72 := Tryd.zeroValue34
  t75 := Tryd.underlying38
  a75 := Tryd.isAgg38
  z75 := Tryd.sizeOf38
  v75 := Tryd.zeroValue38
  t164 := Tryd.underlying67
  a164 := Tryd.isAgg67
  z164 := Tryd.sizeOf67
  v164 := Tryd.zeroValue67 }
theorem YtngcedklbinhjaaDoor.extraW : Builder.Extra Tryd.prog YtngcedklbinhjaaDoor.laysW_ren := {
  sizeBuilder := by kernel_rfl
  liesBuilder := by kernel_rfl
  t5 := Tryd.underlying5
  a5 := Tryd.isAgg5
  z5 := Tryd.sizeOf5
  v5 := Tryd.zeroValue5
  infoByte := by kernel_rfl
  cellsByte := by kernel_rfl
  sizeByte := by kernel_rfl
  neB5 := by decide }
end Go.Proofs
namespace Go.Proofs.YtngcedklbinhjaaDoor
open Go.RowKit
set_option linter.all false
theorem cells_app (a b : List UInt8) : Lib.byteCells (a ++ b) = Lib.byteCells a ++ Lib.byteCells b := by simp [Lib.byteCells]
theorem strCells_eq (s : ByteArray) : Lib.strCells s = Lib.byteCells s.data.toList := Lib.strCells_eq s
def StrAt (w : World) (b off : Nat) (l : LS) : Prop := ∀ (j : Nat) x, l[j]? = some x → w.cell? ⟨b, off + j, none⟩ = some (.string x)
theorem StrAt.below {B : Nat} {w w' : World} {b off : Nat} {l : LS} (h : StrAt w b off l) (hB : b < B) (hb : Below B w w') : StrAt w' b off l := fun j x hj => by
  rw [hb.cell (p := ⟨b, off + j, none⟩) hB]
  exact h j x hj
theorem write_any {B b : Nat} {l : List UInt8} {s : ByteArray} {w : World} (h : Lib.IsBuilder 34 5 B b (Lib.byteCells l) w) (hlen : l.length + s.size ≤ 140737488355328) (hBw : B ≤ w.heap.size) :
    Calls Tryd.prog 12 #[.pointer (some ⟨b, 0, none⟩), .string s] w fun e w' => e = .returned (.tuple #[.int .i64 s.size, .nilIface]) ∧ Lib.IsBuilder 34 5 B b (Lib.byteCells (l ++ s.data.toList)) w' ∧ Below B w w' := by
  refine (Any.Builder_WriteString (ρ := YtngcedklbinhjaaDoor.laysW_ren) YtngcedklbinhjaaDoor.laysW YtngcedklbinhjaaDoor.extraW B b (Lib.byteCells l) s w h (by simpa [Lib.byteCells] using hlen) hBw).mono ?_
  rintro e w' ⟨rfl, h1, h2⟩
  refine ⟨rfl, .inr ?_, h2⟩
  rw [cells_app, ← strCells_eq]
  exact h1
def NumAt (w : World) (b off : Nat) (g : List Int) : Prop := ∀ (j : Nat) x, g[j]? = some x → w.cell? ⟨b, off + j, none⟩ = some (.int .i64 x)
theorem NumAt.below {B : Nat} {w w' : World} {b off : Nat} {l : List Int} (h : NumAt w b off l) (hB : b < B) (hb : Below B w w') : NumAt w' b off l := fun j x hj => by
  rw [hb.cell (p := ⟨b, off + j, none⟩) hB]
  exact h j x hj
end Go.Proofs.YtngcedklbinhjaaDoor
namespace Go.Proofs.YtngcedklbinhjaaDoor
open Go.RowKit
set_option linter.all false
def piecesB (c : UInt8) (s : ByteArray) : List ByteArray := Lib.splitB ⟨#[c]⟩ 0 (Lib.countB s ⟨#[c]⟩) s
theorem one_size (c : UInt8) : (1 : Nat) ≤ (⟨#[c]⟩ : ByteArray).size := by simp [ByteArray.size]
theorem piecesB_len (c : UInt8) (s : ByteArray) : (piecesB c s).length = Lib.countB s ⟨#[c]⟩ + 1 := Lib.splitB_all _ (one_size c) 0 _ s rfl
theorem piecesB_le (c : UInt8) (s : ByteArray) : (piecesB c s).length ≤ s.size + 1 := by
  rw [piecesB_len]
  have := Lib.countB_le ⟨#[c]⟩ (one_size c) s.size s (Nat.le_refl _)
  omega
set_option maxHeartbeats 1000000 in
theorem split_one (c : UInt8) (s : ByteArray) (w : World) (hs : s.size < 4294967281) : Calls Tryd.prog 13 #[.string s, .string ⟨#[c]⟩] w fun e w' =>
    e = .returned (.slice (some ⟨w.heap.size, 0, none⟩) (piecesB c s).length (piecesB c s).length) ∧ w' = w.alloc (.cells ((piecesB c s).map Value.string).toArray 9) := by
  have hle := Lib.countB_le ⟨#[c]⟩ (one_size c) s.size s (Nat.le_refl _)
  have hpl := piecesB_len c s
  have hI : ∀ (x : ByteArray) (cs : Array Value), x.size ≤ s.size → Calls Tryd.prog 34 #[.string x, .string ⟨#[c]⟩] (w.alloc (.cells cs 9)) fun e w' => e = .returned (.int .i64 (Lib.indexB x ⟨#[c]⟩)) ∧ w' = w.alloc (.cells cs 9) := fun x cs _ =>
    (YtngcedklbinhjaaDoor.strings_Index_one x c _).mono fun e w' ⟨he, hw⟩ => ⟨by rw [he]; exact congrArg (fun z => Ending.returned (Value.int .i64 z)) (Lib.index_one x.data.toList c).symm, hw⟩
  have hC : Calls Tryd.prog 33 #[.string s, .string ⟨#[c]⟩] w fun e w' => e = .returned (.int .i64 (Lib.countB s ⟨#[c]⟩)) ∧ w' = w :=
    (YtngcedklbinhjaaDoor.strings_Count_one s c w).mono fun e w' ⟨he, hw⟩ => ⟨by rw [he]; exact congrArg (fun z : Nat => Ending.returned (Value.int .i64 z)) (Lib.count_one c s.data.toList).symm, hw⟩
  have hg := Any.strings_genSplit_core YtngcedklbinhjaaDoor.lays221 (by kernel_rfl) s ⟨#[c]⟩ 0 (-1) (Lib.countB s ⟨#[c]⟩ + 1) w hs (one_size c) (Nat.zero_le _) hI hC (by decide) (by decide) (by rw [if_pos (by decide)]; omega)
  have e1 : Lib.splitB ⟨#[c]⟩ 0 (Lib.countB s ⟨#[c]⟩ + 1 - 1) s = piecesB c s := rfl
  have e2 : Lib.cellsOf (piecesB c s) (Lib.countB s ⟨#[c]⟩ + 1) = ((piecesB c s).map Value.string).toArray := by rw [← hpl]; exact Lib.cellsOf_full _
  rw [e1, e2, ← hpl] at hg
  clear hI hC hle hpl e1 e2
  generalize piecesB c s = ps at *
  go_enter Tryd.func13, Tryd.ntmps13
  go_wp2_with (go_at_call 23; refine hg.mono ?_; rintro e w' ⟨rfl, hw⟩; rw [hw])
  go_ret
  exact ⟨rfl, rfl⟩
end Go.Proofs.YtngcedklbinhjaaDoor
namespace Go.Proofs.YtngcedklbinhjaaDoor
open Go.RowKit
set_option linter.all false
theorem own_objS {J : Bool → Nat → Prop} {w w' : World} {e n : Nat} {v : Value} {l : List ByteArray} (hn : 0 < n) (hl : l.length = n) (hJ : ∀ k b, J k b → b < w.heap.size) (h : w'.ownsRow w.heap.size e 1 v n (l.map Value.string)) :
    ∃ b κ, w.heap.size ≤ b ∧ ObjsIO (addN J fun _ => False) w' (fun _ => b) (fun _ => κ) [(e, 1, l.map fun n => .val (.string n))] ∧ Rep (ghIO (addN J fun _ => False) (fun _ => b) (fun _ => κ) 1) w' (.row 0 1 0 n) v := by
  obtain ⟨h0, h1⟩ := h
  rcases h1 with ⟨rfl, h1⟩ | ⟨b, cap, cur, rfl, h2, h3, h4, h5, h6, h7⟩
  · omega
  · rw [Nat.mul_one] at h6 h7
    refine ⟨b, cur.size, h2, ⟨fun o ho => ⟨lt_of_heap h3, fun k hk => ?_⟩, fun o o' ho ho' _ => by simp at ho ho'; omega, fun o cc hc => ?_⟩, ?_⟩
    · rcases hk with hk | ⟨_, hk⟩
      · have := hJ k _ hk
        omega
      · exact hk
    · have ho : o = 0 := by have := (List.getElem?_eq_some_iff.1 hc).1; simp at this; exact this
      subst ho
      simp only [List.getElem?_cons_zero, Option.some.injEq] at hc
      subst hc
      refine ⟨⟨cur, h3, rfl⟩, by simp [ghIO]; omega, ?_⟩
      refine RepEs.of fun i x hx => ?_
      rw [List.getElem?_map, Option.map_eq_some_iff] at hx
      obtain ⟨y, hy, rfl⟩ := hx
      refine ⟨.string y, by simp [Rep], ⟨by simp [Value.cells, Value.oneCell'], fun j hj => ?_⟩, rfl⟩
      have hj0 : j = 0 := by simp [Value.cells] at hj; exact hj
      subst hj0
      have e1 : cur.toList[i]? = some (.string y) := by
        have hi : i < n := by have := (List.getElem?_eq_some_iff.1 hy).1; omega
        have e2 : (cur.toList.take n)[i]? = some (.string y) := by rw [h7]; simp [hy]
        rw [List.getElem?_take, if_pos hi] at e2
        exact e2
      simp only [World.cell?, ghIO, h3, Nat.zero_add, Nat.mul_one, Nat.add_zero]
      simpa [Value.cells] using e1
    · simp only [Rep, ghIO]
      exact ⟨cap, by simp, h4, by simp only [maxLen] at h5; omega, by omega, ⟨by simp, fun q => q⟩⟩
theorem linesB_snoc : ∀ (a : List (List UInt8)) (x : List UInt8), linesB (a ++ [x]) = linesB a ++ lineB x
  | [], x => by simp [linesB]
  | s :: a, x => by
    show lineB s ++ linesB (a ++ [x]) = lineB s ++ linesB a ++ lineB x
    rw [linesB_snoc a x, List.append_assoc]
theorem linesB_take {l : LS} {k : Nat} (h : k < l.length) : linesB ((l.take (k + 1)).map (·.data.toList)) = linesB ((l.take k).map (·.data.toList)) ++ lineB l[k].data.toList := by
  rw [List.take_succ_eq_append_getElem h, List.map_append, List.map_cons, List.map_nil, linesB_snoc]
theorem lineB_len (s : List UInt8) : (lineB s).length ≤ s.length + 1 := by
  unfold lineB
  split
  · rw [List.length_take]; omega
  · rw [List.length_append]; simp
theorem linesB_len {l : LS} : ∀ k, k ≤ l.length → (linesB ((l.take k).map (·.data.toList))).length ≤ sumS (l.take k) + k
  | 0, _ => by simp [linesB]
  | k + 1, hk => by
    have ih := linesB_len (l := l) k (by omega)
    have h1 := sumS_take (l := l) (k := k) (by omega)
    rw [List.getElem?_eq_getElem (show k < l.length by omega), Option.getD_some] at h1
    have h2 := lineB_len l[k].data.toList
    have h3 : l[k].data.toList.length = l[k].size := Array.length_toList
    rw [linesB_take (by omega), List.length_append]
    omega
theorem ownsRow_base {w : World} {B B' e n : Nat} {v : Value} {xs : List Value} (h : w.ownsRow B e 1 v n xs) (hB : B' ≤ B) : w.ownsRow B' e 1 v n xs := by
  obtain ⟨h0, h1⟩ := h
  refine ⟨h0, h1.imp id ?_⟩
  rintro ⟨g, cap, cur, h2, h3, h4⟩
  exact ⟨g, cap, cur, h2, Nat.le_trans hB h3, h4⟩
theorem one_cell (w : World) (v : Value) (T : TypeId) : ∀ (j : Nat) u, [v][j]? = some u → (w.alloc (.cells #[v] T)).cell? ((⟨w.heap.size, 0, none⟩ : Addr).add j) = some u := by
  intro j u hj
  match j, hj with
  | 0, hj => simp at hj; subst hj; simp [Addr.add]
theorem str_ne_bne {x : ByteArray} (h : ¬ x = ⟨#[]⟩) : x.toList.isEmpty = false := by
  cases hb : x.toList.isEmpty with
  | false => rfl
  | true =>
    rw [Lib.toList_data] at hb
    exact absurd (toL_nil.1 (List.isEmpty_iff.1 hb)) h
set_option maxHeartbeats 4000000 in
set_option maxRecDepth 100000 in
theorem wol_any {w : World} {a : Option Addr} {b off n c : Nat} {l R : LS} (hR : R = wolR l) (hz : l.length = n) (hn : n ≤ 1048576) (ha : 0 < n → a = some ⟨b, off, none⟩ ∧ b < w.heap.size) (hs : StrAt w b off l) (hsum : sumS l ≤ 1048576) :
    Calls Tryd.prog 5 #[.slice a n c] w fun e w' => ∃ v, e = .returned v ∧ Below w.heap.size w w' ∧ w'.ownsRow w.heap.size 9 1 v R.length (R.map Value.string) ∧ (R = [] → v = .slice none 0 0) := by
  have HZ := Lib.hid hz
  have HS := Lib.hid hs
  have HA := Lib.hid ha
  have HR := Lib.hid hR
  clear hz hs ha hR
  go_enter Tryd.func5, Tryd.ntmps5
  go_wp2
  go_loopw [13] (fun i wr => ∃ k : Nat, k ≤ n ∧ i = .int .i64 k ∧ Aside (Lib.IsBuilder 34 5 w.heap.size w.heap.size (Lib.byteCells (linesB ((l.take k).map (·.data.toList)))) wr) ∧ Aside (Below w.heap.size w wr)) (fun i _ => n - (intOf i).toNat)
  case atStart => exact ⟨0, Nat.zero_le _, rfl, (show Lib.IsBuilder _ _ _ _ _ _ from Lib.fresh_isBuilder _ _ _), (show Below _ _ _ from below_alloc (Below.refl _ _))⟩
  case round =>
    obtain ⟨k, hk, rfl, AB, AW⟩ := hrel
    by_cases hlt : k < n
    · obtain ⟨rfl, hb⟩ := HA.out (by omega)
      have hkl : k < l.length := by rw [HZ.out]; exact hlt
      have hc := (HS.out.below hb AW.out) k _ (List.getElem?_eq_getElem hkl)
      have hjl := linesB_len (l := l) k (by rw [HZ.out]; exact hk)
      have hst := sumS_take (l := l) hkl
      have hle := sumS_take_le l (k + 1)
      have hjs := linesB_take hkl
      rw [List.getElem?_eq_getElem hkl, Option.getD_some] at hst
      generalize l[k] = x at *
      have HJ := Lib.hid hjs
      have i1 : (0 : Int) ≤ (k : Int) := by omega
      have i2 : (k : Int) < (n : Int) := by omega
      have hbw : w.heap.size ≤ wr.heap.size := AW.out.size
      cases hy : Lib.hasSuffix x.data.toList [45] with
      | true =>
        have e1 : Lib.trimSuffix x.data.toList [45] = lineB x.data.toList := by
          unfold Lib.trimSuffix lineB
          rw [if_pos hy, if_pos hy]
          rfl
        have hcut : ∀ W, Calls Tryd.prog 11 #[.string x, .string ⟨#[45]⟩] W fun e w' => e = .returned (.tuple #[.string ⟨(lineB x.data.toList).toArray⟩, .bool true]) ∧ w' = W := fun W => by
          have h := YtngcedklbinhjaaDoor.strings_CutSuffix x ⟨#[45]⟩ W (by omega)
          rw [show (⟨#[45]⟩ : ByteArray).data.toList = [45] from rfl, e1, hy] at h
          exact h
        have hx2 := lineB_len x.data.toList
        have hx3 : x.data.toList.length = x.size := Array.length_toList
        have hx4 : (⟨(lineB x.data.toList).toArray⟩ : ByteArray).size = (lineB x.data.toList).length := rfl
        have hwr := fun (W : World) (hW : Lib.IsBuilder 34 5 w.heap.size w.heap.size (Lib.byteCells (linesB ((l.take k).map (·.data.toList)))) W) (hs : w.heap.size ≤ W.heap.size) => write_any (s := ⟨(lineB x.data.toList).toArray⟩) hW (by omega) hs
        have HCUT := Lib.hid hcut
        have HWR := Lib.hid hwr
        clear hcut hwr hjs hst hle hx2 hx3 hx4 hy e1
        go_wp2_with (first
          | (go_at_call 11; refine (HCUT.out _).mono ?_; rintro e w2 ⟨rfl, rfl⟩)
          | (go_at_call 12; refine (HWR.out _ AB.out hbw).mono ?_; rintro e w3 ⟨rfl, hab2, hb2⟩; have AB2 := Lib.hid hab2; have AW2 := Lib.hid (AW.out.trans hb2); clear hab2 hb2))
        go_roundw
        case rel => exact ⟨k + 1, by omega, by go_num, (show Lib.IsBuilder _ _ _ _ _ _ from by rw [HJ.out]; exact AB2.out), (show Below _ _ _ from AW2.out)⟩
        case measure => simp [intOf]; omega
      | false =>
        have hn9 : ¬ Lib.hasSuffix x.data.toList [45] = true := by rw [hy]; decide
        have e1 : (x ++ ⟨#[32]⟩ : ByteArray).data.toList = lineB x.data.toList := by
          unfold lineB
          rw [if_neg hn9, ByteArray.data_append, Array.toList_append]
        have hcut : ∀ W, Calls Tryd.prog 11 #[.string x, .string ⟨#[45]⟩] W fun e w' => e = .returned (.tuple #[.string ⟨(Lib.trimSuffix x.data.toList [45]).toArray⟩, .bool false]) ∧ w' = W := fun W => by
          have h := YtngcedklbinhjaaDoor.strings_CutSuffix x ⟨#[45]⟩ W (by omega)
          rw [show (⟨#[45]⟩ : ByteArray).data.toList = [45] from rfl, hy] at h
          exact h
        have hx4 : (x ++ ⟨#[32]⟩ : ByteArray).size = x.size + 1 := by rw [ByteArray.size_append]; rfl
        have hwr := fun (W : World) (hW : Lib.IsBuilder 34 5 w.heap.size w.heap.size (Lib.byteCells (linesB ((l.take k).map (·.data.toList)))) W) (hs : w.heap.size ≤ W.heap.size) => write_any (s := x ++ ⟨#[32]⟩) hW (by omega) hs
        have E1 := Lib.hid e1
        have HCUT := Lib.hid hcut
        have HWR := Lib.hid hwr
        have hxs : x.size ≤ 1048576 := by omega
        clear hcut hwr hjs hst hle hx4 hy e1 hn9
        go_wp2_with (first
          | (go_at_call 11; refine (HCUT.out _).mono ?_; rintro e w2 ⟨rfl, rfl⟩)
          | (go_at_call 12; refine (HWR.out _ AB.out hbw).mono ?_; rintro e w3 ⟨rfl, hab2, hb2⟩; have AB2 := Lib.hid hab2; have AW2 := Lib.hid (AW.out.trans hb2); clear hab2 hb2))
        go_roundw
        case rel => exact ⟨k + 1, by omega, by go_num, (show Lib.IsBuilder _ _ _ _ _ _ from by rw [HJ.out, ← E1.out]; exact AB2.out), (show Below _ _ _ from AW2.out)⟩
        case measure => simp [intOf]; omega
    · obtain rfl : k = n := by omega
      have hlz := HZ.out
      obtain ⟨G, hG⟩ : ∃ G, G = linesB (l.map (·.data.toList)) := ⟨_, rfl⟩
      have hgl := linesB_len (l := l) k (by omega)
      have hab := AB.out
      rw [List.take_of_length_le (by omega)] at hgl hab
      rw [← hG] at hgl hab
      have AB0 := Lib.hid hab
      have hgs : (⟨G.toArray⟩ : ByteArray).size = G.length := rfl
      have hsp := fun W => split_one 32 ⟨G.toArray⟩ W (by rw [hgs]; omega)
      have hpl := piecesB_le 32 ⟨G.toArray⟩
      rw [hgs] at hpl
      have hwr : R = (piecesB 32 ⟨G.toArray⟩).filter fun x => decide (¬ x = ⟨#[]⟩) := by
        rw [HR.out]
        refine toL_inj ?_
        have h := words_split ⟨G.toArray⟩
        have e : (fun x : ByteArray => decide (x.data.toList ≠ [])) = fun x => decide (¬ x = ⟨#[]⟩) := by
          funext x
          exact decide_eq_decide.2 (not_congr toL_nil)
        rw [e] at h
        rw [show (piecesB 32 ⟨G.toArray⟩) = Lib.splitB ⟨#[32]⟩ 0 (Lib.countB ⟨G.toArray⟩ ⟨#[32]⟩) ⟨G.toArray⟩ from rfl, h, hG]
        unfold wolR
        rw [List.map_map]
        exact List.map_id _
      generalize hps : piecesB 32 ⟨G.toArray⟩ = ps at *
      have hsp2 : ∀ W, Calls Tryd.prog 13 #[.string ⟨G.toArray⟩, .string ⟨#[32]⟩] W fun e w' => e = .returned (.slice (some ⟨W.heap.size, 0, none⟩) ps.length ps.length) ∧ w' = W.alloc (.cells (ps.map Value.string).toArray 9) := hsp
      have HSP := Lib.hid hsp2
      have HWR := Lib.hid hwr
      have hb0 := AW.out
      have HB0 := Lib.hid hb0
      have hbz := AW.out.size
      clear hsp hsp2 hwr hps hab AB hG hlz HS HA HZ hgs AW hb0 HR
      go_wp2_with (first
        | (go_at_call 14; refine (YtngcedklbinhjaaDoor.Builder_String_any w.heap.size w.heap.size G _ AB0.out hbz).mono ?_; rintro e w5 ⟨rfl, hb5⟩; have HB5 := Lib.hid hb5; clear hb5)
        | (go_at_call 13; refine (HSP.out w5).mono ?_; rintro e w6 ⟨rfl, rfl⟩))
      have hw6 := heap_alloc_new w5 (.cells (ps.map Value.string).toArray 9)
      have hz6 : (w5.alloc (.cells (ps.map Value.string).toArray 9)).heap.size = w5.heap.size + 1 := by simp
      have hb6 : Below w.heap.size w (w5.alloc (.cells (ps.map Value.string).toArray 9)) := below_alloc (HB0.out.trans HB5.out)
      have hz8 : w.heap.size ≤ w5.heap.size := Nat.le_trans hbz HB5.out.size
      clear hbz
      generalize w5.alloc (.cells (ps.map Value.string).toArray 9) = w6 at *
      generalize w5.heap.size = B at *
      have HW6 := Lib.hid hw6
      have HB6 := Lib.hid hb6
      clear hw6 hb6 HB5 HB0 AB0 HSP
      go_loopw [8, 32] (fun v i wr => ∃ k : Nat, k ≤ ps.length ∧ i = .int .i64 k ∧ Aside (wr.ownsRow w6.heap.size 9 1 v ((ps.take k).filter fun x => decide (¬ x = ⟨#[]⟩)).length (((ps.take k).filter fun x => decide (¬ x = ⟨#[]⟩)).map Value.string)) ∧ Aside (Below w6.heap.size w6 wr) ∧ Aside ((ps.take k).filter (fun x => decide (¬ x = ⟨#[]⟩)) = [] → v = .slice none 0 0)) (fun _ i _ => ps.length - (intOf i).toNat)
      case atStart => exact ⟨0, Nat.zero_le _, rfl, (show World.ownsRow _ _ _ _ _ _ _ from World.ownsRow_nil _ _ _ _), (show Below _ _ _ from Below.refl _ _), (show _ → _ from fun _ => rfl)⟩
      case round =>
        obtain ⟨k, hk, rfl, AO, AW2, AN⟩ := hrel
        by_cases hlt : k < ps.length
        · have hcx : wr.cell? ⟨B, k, none⟩ = some (.string ps[k]) := by
            rw [AW2.out.cell (p := ⟨B, k, none⟩) (show B < w6.heap.size by omega)]
            simp only [World.cell?, HW6.out]
            simp [hlt]
          have hfl : ((ps.take (k + 1)).filter fun x => decide (¬ x = ⟨#[]⟩)) = ((ps.take k).filter fun x => decide (¬ x = ⟨#[]⟩)) ++ if ps[k] = ⟨#[]⟩ then [] else [ps[k]] := by
            rw [List.take_succ_eq_append_getElem hlt, List.filter_append]
            congr 1
            by_cases h : ps[k] = ⟨#[]⟩ <;> simp [h]
          have hfle := List.length_filter_le (fun x => decide (¬ x = ⟨#[]⟩)) (ps.take k)
          rw [List.length_take] at hfle
          generalize ps[k] = x at *
          generalize hK0 : ((ps.take k).filter fun x => decide (¬ x = ⟨#[]⟩)) = K0 at *
          clear hK0
          have HF := Lib.hid hfl
          have i1 : (0 : Int) ≤ (k : Int) := by omega
          have i2 : (k : Int) < (ps.length : Int) := by omega
          have hbw : w6.heap.size ≤ wr.heap.size := AW2.out.size
          have hKs : K0.length ≤ 2097154 := by omega
          clear hfl hfle
          by_cases hx : x = ⟨#[]⟩
          · rw [if_pos hx, List.append_nil] at HF
            subst hx
            go_wp2
            go_roundw
            case rel => exact ⟨k + 1, by omega, by go_num, (show World.ownsRow _ _ _ _ _ _ _ from by rw [HF.out]; exact AO.out), (show Below _ _ _ from AW2.out), (show _ → _ from by rw [HF.out]; exact AN.out)⟩
            case measure => simp [intOf]; omega
          · rw [if_neg hx] at HF
            obtain ⟨i0, hi, hz0, hz1, hz2⟩ := info_parts (show (Tryd.prog.info? 9).map (fun i => (i.zero, i.size, i.bytes)) = some (some (.string ByteArray.empty), 1, 16) by kernel_rfl)
            have hne := str_ne_bne hx
            go_wp2_with (at_builtin; refine wpList_append_own _ rfl _ _ 23 rfl w6.heap.size 9 i0 (.string ByteArray.empty) 1 16 Tryd.underlying23 hi hz0 hz1 hz2 rfl (by decide) _ _ _ rfl (AO.out.alloc _) ⟨wr.heap.size, 0, none⟩ 1 1 [.string x] rfl rfl (one_cell _ _ _) (by intro u hu; simp at hu; subst hu; rfl) (by unfold maxLen; omega) (by omega) (by simp; omega) ?_; intro v' w1 hown' hgrow _; have HO1 := Lib.hid hown'; have HGR := Lib.hid hgrow; clear hown' hgrow)
            go_wp2
            go_roundw
            case rel =>
              have hlt8 := fun q hq => (AO.out.lt q hq).1
              refine ⟨k + 1, by omega, by go_num, (show World.ownsRow _ _ _ _ _ _ _ from by rw [HF.out, List.length_append, List.map_append]; exact HO1.out), (show Below _ _ _ from (AW2.out.alloc hbw _).grown HGR.out (by simp; omega) hlt8), (show _ → _ from by rw [HF.out]; simp)⟩
            case measure => simp [intOf]; omega
        · obtain rfl : k = ps.length := by omega
          rw [List.take_of_length_le (Nat.le_refl _)] at AO AN
          rw [← HWR.out] at AO AN
          go_wp2
          go_ret
          exact ⟨_, rfl, below_trans HB6.out AW2.out, ownsRow_base AO.out (by omega), AN.out⟩
end Go.Proofs.YtngcedklbinhjaaDoor
namespace Go.Proofs.YtngcedklbinhjaaDoor
open Go.RowKit
set_option linter.all false
noncomputable def ΨWol : FunN := G1 dSs fun l => open Classical in if okWl l then some (nP 1 ((wolR l).map fun s => .val (.string s)) 0, nC 9 1 ((wolR l).map fun s => .val (.string s))) else none
theorem implWolN : SoundN Tryd.prog 5 ΨWol := by
  intro w J β κ ps cs args r cs' hr hJ hO _ hargs
  dsimp only at hr
  split at hr
  case isFalse => cases hr
  case isTrue hcs =>
  subst hcs
  obtain ⟨l, rfl, hq⟩ := G1_some hr
  split at hq
  case isFalse => cases hq
  case isTrue hok =>
  simp only [Option.some.injEq, Prod.mk.injEq] at hq
  obtain ⟨rfl, rfl⟩ := hq
  simp only [RepL] at hargs
  obtain ⟨v1, vs1, e1, h1, rfl⟩ := hargs
  obtain rfl : args = #[v1] := by
    obtain ⟨a⟩ := args
    simp only at e1
    rw [e1]
  simp only [dSs, dL, dS, Rep] at h1
  obtain ⟨a, cap, rfl, k1, k2, k3⟩ := h1
  simp only [List.length_map] at k1 ⊢
  have hfact : ∃ b off, (0 < l.length → a = some ⟨b, off, none⟩ ∧ b < w.heap.size) ∧ StrAt w b off l := by
    rcases k3 with k3 | ⟨b, off, rfl, k4, k5⟩
    · have : l = [] := by simpa using k3
      subst this
      exact ⟨0, 0, fun h => by simp at h, fun j x hj => by simp at hj⟩
    · exact ⟨b, off, fun _ => ⟨rfl, hJ _ b k4⟩, str_cells k5⟩
  obtain ⟨b, off, ha, hs⟩ := hfact
  refine (wol_any (R := wolR l) rfl rfl hok.1 ha hs hok.2).mono ?_
  rintro e w' ⟨v, rfl, hb, hown, hnil⟩
  generalize wolR l = R at *
  by_cases h0 : R.length = 0
  · obtain rfl : R = [] := List.eq_nil_of_length_eq_zero h0
    obtain rfl := hnil rfl
    refine ⟨_, fun _ => 0, fun _ => 0, fun _ => False, rfl, ⟨hb.os, hb.tape, hb.output, hb.size, fun k hk _ => hb.block k hk⟩, by simp, fun o ho => by simp at ho, fun o _ ho => by simp [nC] at ho, fun b hb => hb.elim, ⟨fun o ho => by simp [nC] at ho, fun o o' ho => by simp [nC] at ho, fun o c hc => by simp [nC] at hc⟩, ?_⟩
    simp [nP, Rep]
  · have hp : 0 < (R.map fun s => PV.val (.string s)).length := by rw [List.length_map]; omega
    rw [nP_pos hp, nC_pos hp, List.length_map]
    obtain ⟨b1, κ1, hb1, hO1, hrep⟩ := own_objS (J := J) (n := R.length) (by omega) rfl hJ hown
    exact ⟨v, fun _ => b1, fun _ => κ1, fun _ => False, rfl, ⟨hb.os, hb.tape, hb.output, hb.size, fun k hk _ => hb.block k hk⟩, by simp, fun o ho => by simp at ho, fun o _ _ => hb1, fun b hb => hb.elim, hO1, hrep⟩
theorem φWol_ap {l : LS} (h : okWl l) : φWol [.lst false 1 (l.map fun s => .val (.string s))] = some (.lst true 1 ((wolR l).map fun s => .val (.string s))) := (F1_ap (A := dSs) l).trans (if_pos h)
theorem wordsM_len : ∀ (s w : List UInt8), (wordsM s w).length ≤ s.length + w.length
  | [], w => by
    unfold wordsM
    split
    · simp
    · rename_i h
      have : 0 < w.length := List.length_pos_iff.2 h
      simp only [List.length_singleton, List.length_nil]; omega
  | b :: s, w => by
    unfold wordsM
    split
    · have := wordsM_len s []
      rw [List.length_append]
      simp only [List.length_nil, List.length_cons] at this ⊢
      split
      · simp only [List.length_nil]; omega
      · rename_i h
        have : 0 < w.length := List.length_pos_iff.2 h
        simp only [List.length_singleton]; omega
    · have := wordsM_len s (w ++ [b])
      rw [List.length_append] at this
      simp only [List.length_cons, List.length_nil] at this ⊢
      omega
theorem wolR_len (l : LS) : (wolR l).length ≤ sumS l + l.length := by
  unfold wolR
  rw [List.length_map]
  have h1 := wordsM_len (linesB (l.map (·.data.toList))) []
  have h2 := linesB_len (l := l) l.length (Nat.le_refl _)
  rw [List.take_of_length_le (Nat.le_refl _)] at h2
  simp only [List.length_nil] at h1
  omega
end Go.Proofs.YtngcedklbinhjaaDoor
namespace Go.Proofs.YtngcedklbinhjaaDoor
open Go.RowKit
set_option linter.all false
noncomputable def φWolI : Fun := pureN ΨWol
theorem implWol_ok : Sound Tryd.prog 5 φWolI := implWolN.pure
noncomputable def φWolIn : Fun := nilF 1 φWolI
theorem φWolI_ap {l : LS} (h : okWl l) (h0 : 0 < (wolR l).length) : φWolI [.lst false 1 (l.map fun s => .val (.string s))] = some (.lst true 1 ((wolR l).map fun s => .val (.string s))) := by
  have hp : 0 < ((wolR l).map fun s => PV.val (.string s)).length := by simpa using h0
  refine pureN_of (r := .row 0 1 0 (wolR l).length) (cs0 := [(9, 1, (wolR l).map fun s => .val (.string s))]) ((G1_ap (A := dSs) l).trans ((if_pos h).trans (by rw [nP_pos hp, nC_pos hp, List.length_map]))) ?_
  rw [ls_one]
  (simp (disch := (first | omega | (simp only [push_cast]; first | done | omega))) only [push_cast, ↓reduceIte, Nat.reduceEqDiff, Nat.reduceBEq, Nat.reduceAdd, Nat.reduceSub, Int.reduceToNat, *] <;> with_reducible exact rfl)
theorem φWolI_nil {l : LS} (h : okWl l) (h0 : (wolR l).length = 0) : φWolI [.lst false 1 (l.map fun s => .val (.string s))] = some (.val (.slice none 0 0)) := by
  have hR : wolR l = [] := List.eq_nil_of_length_eq_zero h0
  exact pureN_of (r := .val (.slice none 0 0)) (cs0 := []) ((G1_ap (A := dSs) l).trans ((if_pos h).trans (by rw [hR]; rfl))) rfl
theorem φWolIn_ap {l : LS} (h : okWl l) (h0 : 0 < (wolR l).length) : φWolIn [.lst false 1 (l.map fun s => .val (.string s))] = some (.lst true 1 ((wolR l).map fun s => .val (.string s))) := φWolI_ap h h0
end Go.Proofs.YtngcedklbinhjaaDoor
namespace Go.Proofs.YtngcedklbinhjaaDoor
open Go.RowKit
set_option linter.all false
def φSmt : Fun := F2 dSs dSs fun a b => if a.length ≤ 1048576 ∧ b.length ≤ 1048576 then some (bv (decide (a = b))) else none
theorem φSmt_ap {a b : LS} (h : a.length ≤ 1048576) (h2 : b.length ≤ 1048576) : φSmt [.lst false 1 (a.map fun s => .val (.string s)), .lst false 1 (b.map fun s => .val (.string s))] = some (.val (.bool (decide (a = b)))) :=
  (F2_ap (A := dSs) (B := dSs) a b).trans (if_pos ⟨h, h2⟩)
set_option maxHeartbeats 4000000 in
theorem smt_ok : Sound Tryd.prog 6 φSmt := by
  refine sound_pq mixed GE_ok Tryd.func6 rfl 26 rfl [.tmp 4] rfl (by kernel_rfl) fun ps r hr => ?_
  obtain ⟨xs, ys, rfl, hq⟩ := F2_some hr
  clear hr
  split at hq
  case isFalse => cases hq
  case isTrue hpre =>
  cases hq
  refine ⟨by simp, ?_⟩
  simp only [dIs, dUs, dSs, dI_e, dU_e, dB_e, dS_e, dFn_e, dL_e, dA2_e, dA3_e, dA4_e, dA5_e]
  obtain ⟨hl1, hl2⟩ := hpre
  repeat' (first | (with_reducible first | apply i_seq | apply i_block | apply i_skip | apply i_exit | apply i_ret | apply i_kS | apply i_kSx | apply i_kSr | apply i_kL | apply i_kLx | apply i_kLr | apply i_kB | apply i_kBr | apply i_kBs | apply i_nil) | ((with_reducible apply i_region); (simp only [List.map_cons, List.map_nil] <;> exact rfl)) | ((with_reducible apply i_draw); (simp only [List.map_cons, List.map_nil] <;> exact rfl); decide +kernel) | ((with_reducible apply i_kBo); rfl) | ((first | ((with_reducible apply i_V); rfl; rfl; rfl) | ((first | ((with_reducible apply i_E); rfl) | ((with_reducible apply i_S); rfl)); first | rfl | (simp only [push_cast, ↓reduceIte])) | ((with_reducible apply i_Vq); rfl; rfl) | ((with_reducible apply i_Vp); rfl; rfl; rfl) | (with_reducible first | apply i_Gb | apply i_cond)); (simp (disch := (first | omega | (simp only [push_cast]; first | done | omega))) only [push_cast, ↓reduceIte, Nat.reduceEqDiff, Nat.reduceBEq, Nat.reduceAdd, Nat.reduceSub, Int.reduceToNat, *] <;> with_reducible exact rfl); all_goals try (first | (with_reducible first | refine hyT ?_ | refine hyF ?_ | exact hyA | exact hyB) | (intro hX; first | (cases hX; done) | ((try simp only [decide_eq_true_eq, decide_eq_false_iff_not, Bool.not_eq_true', Bool.not_eq_false'] at hX); (try have hXb := inB_iff.1 hX))))))
  · ((first | apply i_end | apply i_endN); simp (disch := (first | omega | (simp only [push_cast]; first | done | omega))) only [push_cast, ↓reduceIte, Nat.reduceEqDiff, Nat.reduceBEq, Nat.reduceAdd, Nat.reduceSub, Int.reduceToNat, *])
    have : ¬ xs = ys := fun h => by subst h; simp_all
    simp [this]
  refine i_loop (α := Nat) mixed (fun k => [(0, .lst false 1 (xs.map fun s => .val (.string s))), (1, .lst false 1 (ys.map fun s => .val (.string s))), (5, iv k)]) (fun k => []) (fun _ => 0)
    (fun k => k ≤ xs.length ∧ ∀ j, j < k → xs[j]?.getD .empty = ys[j]?.getD .empty) (fun k => xs.length - k) (by kernel_rfl) 0 ⟨Nat.zero_le _, fun j hj => by omega⟩ ?_ trivial rfl ?_
  · simp only [push_cast, ↓reduceIte, Nat.reduceEqDiff, Nat.reduceBEq, Nat.reduceAdd, Nat.reduceSub, Int.reduceToNat]
  · intro k ⟨hk, hok⟩
    repeat' (first | (with_reducible first | apply i_seq | apply i_block | apply i_skip | apply i_exit | apply i_ret | apply i_kS | apply i_kSx | apply i_kSr | apply i_kL | apply i_kLx | apply i_kLr | apply i_kB | apply i_kBr | apply i_kBs | apply i_nil) | ((with_reducible apply i_region); (simp only [List.map_cons, List.map_nil] <;> exact rfl)) | ((with_reducible apply i_draw); (simp only [List.map_cons, List.map_nil] <;> exact rfl); decide +kernel) | ((with_reducible apply i_kBo); rfl) | ((first | ((with_reducible apply i_V); rfl; rfl; rfl) | ((first | ((with_reducible apply i_E); rfl) | ((with_reducible apply i_S); rfl)); first | rfl | (simp only [push_cast, ↓reduceIte])) | ((with_reducible apply i_Vq); rfl; rfl) | ((with_reducible apply i_Vp); rfl; rfl; rfl) | (with_reducible first | apply i_Gb | apply i_cond)); (simp (disch := (first | omega | (simp only [push_cast]; first | done | omega))) only [push_cast, ↓reduceIte, Nat.reduceEqDiff, Nat.reduceBEq, Nat.reduceAdd, Nat.reduceSub, Int.reduceToNat, *] <;> with_reducible exact rfl); all_goals try (first | (with_reducible first | refine hyT ?_ | refine hyF ?_ | exact hyA | exact hyB) | (intro hX; first | (cases hX; done) | ((try simp only [decide_eq_true_eq, decide_eq_false_iff_not, Bool.not_eq_true', Bool.not_eq_false'] at hX); (try have hXb := inB_iff.1 hX))))))
    all_goals try ((first | apply i_end | apply i_endN); simp (disch := (first | omega | (simp only [push_cast]; first | done | omega))) only [push_cast, ↓reduceIte, Nat.reduceEqDiff, Nat.reduceBEq, Nat.reduceAdd, Nat.reduceSub, Int.reduceToNat, *])
    · have : ¬ xs = ys := fun h => by subst h; simp_all
      simp [this]
    · refine ⟨k + 1, ⟨by omega, fun j hj => ?_⟩, by dsimp only; omega, by simp only [push_cast, ↓reduceIte, Nat.reduceEqDiff, Nat.reduceBEq, Nat.reduceAdd, Nat.reduceSub, Int.reduceToNat], trivial, rfl⟩
      by_cases h1 : j < k
      · exact hok j h1
      · have : j = k := by omega
        subst this
        assumption
    · have : xs = ys := eq_of_getDK (d := .empty) (by omega) fun j hj => hok j (by omega)
      simp [this]
end Go.Proofs.YtngcedklbinhjaaDoor
namespace Go.Proofs.YtngcedklbinhjaaDoor
open Go.RowKit
set_option linter.all false
def letW (c : Int) : Int := if c < 97 ∨ 122 < c then 0 else if c = 105 ∨ c = 106 ∨ c = 108 then 3 else if c = 102 ∨ c = 114 ∨ c = 116 then 4 else if c = 109 ∨ c = 119 then 8 else 5
def nearI (a b : Int) : Int := if ((a = 118 ∨ a = 119 ∨ a = 121) ∧ (b = 97 ∨ b = 101 ∨ b = 111)) ∨ (a = 114 ∧ (b = 110 ∨ b = 109)) then 1 else 0
def joinQ (a b : Int) : Bool := decide (a = 102 ∧ (b = 105 ∨ b = 106 ∨ b = 108 ∨ b = 102))
theorem letW_rng (c : Int) : 0 ≤ letW c ∧ letW c ≤ 8 := by
  unfold letW
  repeat' split
  all_goals omega
theorem nearI_rng (a b : Int) : 0 ≤ nearI a b ∧ nearI a b ≤ 1 := by
  unfold nearI
  split <;> omega
def φLetW : Fun := F1 dU fun c => some (iv (letW c))
theorem φLetW_ap (c : Int) : φLetW [.val (.int .u8 c)] = some (.val (.int .i64 (letW c))) := rfl
def φNear : Fun := F2 dU dU fun a b => some (iv (nearI a b))
theorem φNear_ap (a b : Int) : φNear [.val (.int .u8 a), .val (.int .u8 b)] = some (.val (.int .i64 (nearI a b))) := rfl
def φJoinQ : Fun := F2 dU dU fun a b => some (bv (joinQ a b))
theorem φJoinQ_ap (a b : Int) : φJoinQ [.val (.int .u8 a), .val (.int .u8 b)] = some (.val (.bool (joinQ a b))) := rfl
theorem specLetW_ok : Sound Tryd.prog 66 φLetW := by
  refine sound_pq mixed GE_ok Tryd.func66 rfl 39 rfl [.tmp 2] rfl (by kernel_rfl) fun ps r hr => ?_
  obtain ⟨c, rfl, hr⟩ := F1_some hr
  cases hr
  refine ⟨by simp, ?_⟩
  simp only [dIs, dUs, dSs, dI_e, dU_e, dB_e, dS_e, dFn_e, dL_e, dA2_e, dA3_e, dA4_e, dA5_e]
  (repeat' (first | (with_reducible first | apply i_seq | apply i_block | apply i_skip | apply i_exit | apply i_ret | apply i_kS | apply i_kSx | apply i_kSr | apply i_kL | apply i_kLx | apply i_kLr | apply i_kB | apply i_kBr | apply i_kBs | apply i_nil) | ((with_reducible apply i_region); (simp only [List.map_cons, List.map_nil] <;> exact rfl)) | ((with_reducible apply i_draw); (simp only [List.map_cons, List.map_nil] <;> exact rfl); decide +kernel) | ((with_reducible apply i_kBo); rfl) | ((first | ((with_reducible apply i_V); rfl; rfl; rfl) | ((first | ((with_reducible apply i_E); rfl) | ((with_reducible apply i_S); rfl)); first | rfl | (simp only [push_cast, ↓reduceIte])) | ((with_reducible apply i_Vq); rfl; rfl) | ((with_reducible apply i_Vp); rfl; rfl; rfl) | (with_reducible first | apply i_Gb | apply i_cond)); (simp (disch := (first | omega | (simp only [push_cast]; first | done | omega))) only [push_cast, ↓reduceIte, Nat.reduceEqDiff, Nat.reduceBEq, Nat.reduceAdd, Nat.reduceSub, Int.reduceToNat, *] <;> with_reducible exact rfl); all_goals try (first | (with_reducible first | refine hyT ?_ | refine hyF ?_ | exact hyA | exact hyB) | (intro hX; first | (cases hX; done) | ((try simp only [decide_eq_true_eq, decide_eq_false_iff_not, Bool.not_eq_true', Bool.not_eq_false'] at hX); (try have hXb := inB_iff.1 hX))))))); all_goals try (exfalso; omega)
  all_goals ((first | apply i_end | apply i_endN); simp (disch := (first | omega | (simp only [push_cast]; first | done | omega))) only [push_cast, ↓reduceIte, Nat.reduceEqDiff, Nat.reduceBEq, Nat.reduceAdd, Nat.reduceSub, Int.reduceToNat, *])
  all_goals ((refine congrArg (fun z => some (PV.val (Value.int IntKind.i64 z))) ?_); unfold letW; repeat' split)
  all_goals omega
theorem specNear_ok : Sound Tryd.prog 67 φNear := by
  refine sound_pq mixed GE_ok Tryd.func67 rfl 43 rfl [.tmp 4] rfl (by kernel_rfl) fun ps r hr => ?_
  obtain ⟨a, b, rfl, hr⟩ := F2_some hr
  cases hr
  refine ⟨by simp, ?_⟩
  simp only [dIs, dUs, dSs, dI_e, dU_e, dB_e, dS_e, dFn_e, dL_e, dA2_e, dA3_e, dA4_e, dA5_e]
  (repeat' (first | (with_reducible first | apply i_seq | apply i_block | apply i_skip | apply i_exit | apply i_ret | apply i_kS | apply i_kSx | apply i_kSr | apply i_kL | apply i_kLx | apply i_kLr | apply i_kB | apply i_kBr | apply i_kBs | apply i_nil) | ((with_reducible apply i_region); (simp only [List.map_cons, List.map_nil] <;> exact rfl)) | ((with_reducible apply i_draw); (simp only [List.map_cons, List.map_nil] <;> exact rfl); decide +kernel) | ((with_reducible apply i_kBo); rfl) | ((first | ((with_reducible apply i_V); rfl; rfl; rfl) | ((first | ((with_reducible apply i_E); rfl) | ((with_reducible apply i_S); rfl)); first | rfl | (simp only [push_cast, ↓reduceIte])) | ((with_reducible apply i_Vq); rfl; rfl) | ((with_reducible apply i_Vp); rfl; rfl; rfl) | (with_reducible first | apply i_Gb | apply i_cond)); (simp (disch := (first | omega | (simp only [push_cast]; first | done | omega))) only [push_cast, ↓reduceIte, Nat.reduceEqDiff, Nat.reduceBEq, Nat.reduceAdd, Nat.reduceSub, Int.reduceToNat, *] <;> with_reducible exact rfl); all_goals try (first | (with_reducible first | refine hyT ?_ | refine hyF ?_ | exact hyA | exact hyB) | (intro hX; first | (cases hX; done) | ((try simp only [decide_eq_true_eq, decide_eq_false_iff_not, Bool.not_eq_true', Bool.not_eq_false'] at hX); (try have hXb := inB_iff.1 hX))))))); all_goals try (exfalso; omega)
  all_goals ((first | apply i_end | apply i_endN); simp (disch := (first | omega | (simp only [push_cast]; first | done | omega))) only [push_cast, ↓reduceIte, Nat.reduceEqDiff, Nat.reduceBEq, Nat.reduceAdd, Nat.reduceSub, Int.reduceToNat, *])
  all_goals ((refine congrArg (fun z => some (PV.val (Value.int IntKind.i64 z))) ?_); unfold nearI; repeat' split)
  all_goals omega
theorem specJoinQ_ok : Sound Tryd.prog 74 φJoinQ := by
  refine sound_pq mixed GE_ok Tryd.func74 rfl 23 rfl [.tmp 4] rfl (by kernel_rfl) fun ps r hr => ?_
  obtain ⟨a, b, rfl, hr⟩ := F2_some hr
  cases hr
  refine ⟨by simp, ?_⟩
  simp only [dIs, dUs, dSs, dI_e, dU_e, dB_e, dS_e, dFn_e, dL_e, dA2_e, dA3_e, dA4_e, dA5_e]
  (repeat' (first | (with_reducible first | apply i_seq | apply i_block | apply i_skip | apply i_exit | apply i_ret | apply i_kS | apply i_kSx | apply i_kSr | apply i_kL | apply i_kLx | apply i_kLr | apply i_kB | apply i_kBr | apply i_kBs | apply i_nil) | ((with_reducible apply i_region); (simp only [List.map_cons, List.map_nil] <;> exact rfl)) | ((with_reducible apply i_draw); (simp only [List.map_cons, List.map_nil] <;> exact rfl); decide +kernel) | ((with_reducible apply i_kBo); rfl) | ((first | ((with_reducible apply i_V); rfl; rfl; rfl) | ((first | ((with_reducible apply i_E); rfl) | ((with_reducible apply i_S); rfl)); first | rfl | (simp only [push_cast, ↓reduceIte])) | ((with_reducible apply i_Vq); rfl; rfl) | ((with_reducible apply i_Vp); rfl; rfl; rfl) | (with_reducible first | apply i_Gb | apply i_cond)); (simp (disch := (first | omega | (simp only [push_cast]; first | done | omega))) only [push_cast, ↓reduceIte, Nat.reduceEqDiff, Nat.reduceBEq, Nat.reduceAdd, Nat.reduceSub, Int.reduceToNat, *] <;> with_reducible exact rfl); all_goals try (first | (with_reducible first | refine hyT ?_ | refine hyF ?_ | exact hyA | exact hyB) | (intro hX; first | (cases hX; done) | ((try simp only [decide_eq_true_eq, decide_eq_false_iff_not, Bool.not_eq_true', Bool.not_eq_false'] at hX); (try have hXb := inB_iff.1 hX))))))); all_goals try (exfalso; omega)
  all_goals ((first | apply i_end | apply i_endN); simp (disch := (first | omega | (simp only [push_cast]; first | done | omega))) only [push_cast, ↓reduceIte, Nat.reduceEqDiff, Nat.reduceBEq, Nat.reduceAdd, Nat.reduceSub, Int.reduceToNat, *])
  all_goals ((refine congrArg (fun z => some (PV.val (Value.bool z))) ?_); unfold joinQ; first | (simp; omega) | simp_all)
end Go.Proofs.YtngcedklbinhjaaDoor
namespace Go.Proofs.YtngcedklbinhjaaDoor
open Go.RowKit
set_option linter.all false
abbrev sgN (s : ByteArray) (i : Nat) : Nat := if i + 1 < s.size ∧ joinQ (at8 s i) (at8 s (i + 1)) = true then 2 else 1
def sgF (s : ByteArray) : Nat → Nat → LS
  | 0, _ => []
  | f + 1, i => if i < s.size then s.extract i (i + sgN s i) :: sgF s f (i + sgN s i) else []
def signs (s : ByteArray) : LS := sgF s s.size 0
theorem sgF_step {s : ByteArray} {f i : Nat} (h : i < s.size) : sgF s (f + 1) i = s.extract i (i + sgN s i) :: sgF s f (i + sgN s i) := by
  rw [sgF, if_pos h]
theorem sgF_end {s : ByteArray} {f i : Nat} (h : s.size ≤ i) : sgF s f i = [] := by
  cases f with
  | zero => rfl
  | succ f => rw [sgF, if_neg (by omega)]
theorem sgN_rng (s : ByteArray) (i : Nat) : 1 ≤ sgN s i ∧ sgN s i ≤ 2 ∧ (i < s.size → i + sgN s i ≤ s.size) := by
  unfold sgN
  split <;> omega
theorem at8_ext {s : ByteArray} {a b j : Nat} (h : j < b - a) (hb : b ≤ s.size) : at8 (s.extract a b) j = at8 s (a + j) := by
  unfold at8
  have h1 : j < (s.extract a b).size := by rw [ByteArray.size_extract]; omega
  rw [getElem?_pos (s.extract a b) j h1, getElem?_pos s (a + j) (by omega)]
  rw [ByteArray.getElem_extract]
def okSg (x : ByteArray) : Prop := 1 ≤ x.size ∧ x.size ≤ 2 ∧ ∀ j, j < x.size → 97 ≤ at8 x j ∧ at8 x j ≤ 122
theorem sgF_ok {s : ByteArray} (h : ∀ j, j < s.size → 97 ≤ at8 s j ∧ at8 s j ≤ 122) : ∀ (f i : Nat), (∀ x ∈ sgF s f i, okSg x) ∧ (sgF s f i).length ≤ s.size - i
  | 0, i => ⟨by simp [sgF], by simp [sgF]⟩
  | f + 1, i => by
    by_cases hi : i < s.size
    · obtain ⟨h1, h2, h3⟩ := sgN_rng s i
      obtain ⟨i1, i2⟩ := sgF_ok h f (i + sgN s i)
      rw [sgF_step hi]
      refine ⟨fun x hx => ?_, by rw [List.length_cons]; have := h3 hi; omega⟩
      rcases List.mem_cons.1 hx with rfl | hx
      · have hsz : (s.extract i (i + sgN s i)).size = sgN s i := by rw [ByteArray.size_extract]; have := h3 hi; omega
        refine ⟨by omega, by omega, fun j hj => ?_⟩
        have h4 := h3 hi
        rw [at8_ext (by omega) (by omega)]
        exact h _ (by omega)
      · exact i1 x hx
    · rw [sgF_end (by omega)]
      exact ⟨by simp, by simp⟩
theorem wordB_letters {s : ByteArray} (h : wordB s = true) : (∀ j, j < s.size → 97 ≤ at8 s j ∧ at8 s j ≤ 122) ∧ 1 ≤ s.size ∧ s.size ≤ 20 := by
  unfold wordB at h
  rw [Bool.and_eq_true, List.all_eq_true] at h
  refine ⟨fun j hj => inB_iff.1 (h.1 j (List.mem_range.2 hj)), ?_⟩
  have := inB_iff.1 h.2
  omega
theorem signs_ok {s : ByteArray} (h : wordB s = true) : (∀ x ∈ signs s, okSg x) ∧ 1 ≤ (signs s).length ∧ (signs s).length ≤ 20 := by
  obtain ⟨h1, h2, h3⟩ := wordB_letters h
  obtain ⟨i1, i2⟩ := sgF_ok h1 s.size 0
  refine ⟨i1, ?_, by unfold signs; omega⟩
  unfold signs
  obtain ⟨n, hn⟩ : ∃ n, s.size = n + 1 := ⟨s.size - 1, by omega⟩
  rw [hn, sgF_step (by omega), List.length_cons]
  omega
theorem signs_at {s : ByteArray} (h : wordB s = true) {k : Nat} (hk : k < (signs s).length) : okSg ((signs s)[k]?.getD .empty) := by
  rw [List.getElem?_eq_getElem hk, Option.getD_some]
  exact (signs_ok h).1 _ (List.getElem_mem hk)
def sgW (x : ByteArray) : Nat → Int
  | 0 => 0
  | j + 1 => sgW x j + letW (at8 x j)
def nearK (g : LS) (k : Nat) : Int := if k + 1 < g.length then nearI (at8 (g[k]?.getD .empty) ((g[k]?.getD .empty).size - 1)) (at8 (g[k + 1]?.getD .empty) 0) else 0
def wdK (g : LS) : Nat → Int
  | 0 => 0
  | k + 1 => wdK g k + sgW (g[k]?.getD .empty) (g[k]?.getD .empty).size - ((g[k]?.getD .empty).size - 1) - nearK g k
def wordW (s : ByteArray) : Int := if wordB s = true then wdK (signs s) (signs s).length else -1
theorem sgW_rng {x : ByteArray} (h : okSg x) : ∀ j, j ≤ x.size → 3 * (j : Int) ≤ sgW x j ∧ sgW x j ≤ 8 * j
  | 0, _ => ⟨by simp [sgW], by simp [sgW]⟩
  | j + 1, hj => by
    have ih := sgW_rng h j (by omega)
    have h1 := letW_rng (at8 x j)
    have h2 := h.2.2 j (by omega)
    have h3 : 3 ≤ letW (at8 x j) := by
      unfold letW
      rw [if_neg (by omega)]
      repeat' split
      all_goals omega
    unfold sgW
    push_cast
    omega
theorem sgW_full {x : ByteArray} (h : okSg x) : ∀ j, j ≤ x.size → 0 ≤ sgW x j ∧ sgW x j ≤ 16 := fun j hj => by
  have := sgW_rng h j hj
  have := h.2.1
  omega
theorem wdK_rng {g : LS} (h : ∀ k, k < g.length → okSg (g[k]?.getD .empty)) : ∀ k, k ≤ g.length → 0 ≤ wdK g k ∧ wdK g k ≤ 16 * k
  | 0, _ => ⟨by simp [wdK], by simp [wdK]⟩
  | k + 1, hk => by
    have ih := wdK_rng h k (by omega)
    have h1 := h k (by omega)
    have h2 := sgW_rng h1 _ (Nat.le_refl _)
    have h3 := h1.1
    have h4 := h1.2.1
    have h5 : 0 ≤ nearK g k ∧ nearK g k ≤ 1 := by
      unfold nearK
      split
      · exact nearI_rng _ _
      · omega
    unfold wdK
    generalize nearK g k = m at *
    generalize sgW (g[k]?.getD .empty) (g[k]?.getD .empty).size = z at *
    generalize (g[k]?.getD ByteArray.empty).size = y at *
    push_cast
    omega
theorem wordW_rng {s : ByteArray} (h : wordB s = true) : 0 ≤ wordW s ∧ wordW s ≤ 320 := by
  have h1 := wdK_rng (fun k hk => signs_at h hk) _ (Nat.le_refl _)
  have h2 := (signs_ok h).2.2
  unfold wordW
  rw [if_pos h]
  omega
end Go.Proofs.YtngcedklbinhjaaDoor
namespace Go.Proofs.YtngcedklbinhjaaDoor
open Go.RowKit
set_option linter.all false
def patK (p : ByteArray) : Nat → ByteArray × List Int × Int
  | 0 => (⟨#[]⟩, [], 0)
  | k + 1 => if digC (at8 p k) = true then ((patK p k).1, (patK p k).2.1, at8 p k - 48) else ((patK p k).1 ++ p.extract k (k + 1), (patK p k).2.1 ++ [(patK p k).2.2], 0)
def lettersP (p : ByteArray) : ByteArray := (patK p p.size).1
def levelsP (p : ByteArray) : List Int := (patK p p.size).2.1 ++ [(patK p p.size).2.2]
theorem patK_dig {p : ByteArray} {k : Nat} (h : digC (at8 p k) = true) : patK p (k + 1) = ((patK p k).1, (patK p k).2.1, at8 p k - 48) := by
  rw [patK, if_pos h]
theorem patK_let {p : ByteArray} {k : Nat} (h : digC (at8 p k) = false) : patK p (k + 1) = ((patK p k).1 ++ p.extract k (k + 1), (patK p k).2.1 ++ [(patK p k).2.2], 0) := by
  rw [patK, if_neg (by rw [h]; decide)]
theorem patK_rng (p : ByteArray) : ∀ k, k ≤ p.size → (patK p k).1.size = (patK p k).2.1.length ∧ (patK p k).1.size ≤ k ∧ (0 ≤ (patK p k).2.2 ∧ (patK p k).2.2 ≤ 9) ∧ ∀ x ∈ (patK p k).2.1, 0 ≤ x ∧ x ≤ 9
  | 0, _ => ⟨rfl, Nat.le_refl _, ⟨Int.le_refl _, by show (0 : Int) ≤ 9; omega⟩, by simp [patK]⟩
  | k + 1, hk => by
    obtain ⟨h1, h2, h3, h4⟩ := patK_rng p k (by omega)
    cases hd : digC (at8 p k) with
    | true =>
      rw [patK_dig hd]
      have := inB_iff.1 hd
      exact ⟨h1, by dsimp only; omega, by dsimp only; omega, h4⟩
    | false =>
      rw [patK_let hd]
      refine ⟨?_, ?_, ⟨Int.le_refl _, by show (0 : Int) ≤ 9; omega⟩, fun x hx => ?_⟩
      · dsimp only
        rw [ByteArray.size_append, ByteArray.size_extract, List.length_append, List.length_singleton]
        omega
      · dsimp only
        rw [ByteArray.size_append, ByteArray.size_extract]
        omega
      · rcases List.mem_append.1 hx with hx | hx
        · exact h4 x hx
        · rw [List.mem_singleton.1 hx]
          exact h3
theorem levelsP_rng (p : ByteArray) : (levelsP p).length = (lettersP p).size + 1 ∧ (lettersP p).size ≤ p.size ∧ ∀ k : Nat, 0 ≤ (levelsP p)[k]?.getD 0 ∧ (levelsP p)[k]?.getD 0 ≤ 9 := by
  obtain ⟨h1, h2, h3, h4⟩ := patK_rng p p.size (Nat.le_refl _)
  refine ⟨by unfold levelsP lettersP; rw [List.length_append, List.length_singleton]; omega, h2, fun k => ?_⟩
  by_cases hk : k < (levelsP p).length
  · rw [List.getElem?_eq_getElem hk, Option.getD_some]
    have hm : (levelsP p)[k] ∈ levelsP p := List.getElem_mem hk
    rcases List.mem_append.1 hm with hm | hm
    · exact h4 _ hm
    · rw [List.mem_singleton.1 hm]; exact h3
  · rw [List.getElem?_eq_none (by omega)]
    decide
def lvSet (sz a j : Nat) (lv o : List Int) : List Int := if 1 ≤ a + j ∧ a + j ≤ sz + 1 then o.set (a + j - 1) (if lv[j]?.getD 0 > o[a + j - 1]?.getD 0 then lv[j]?.getD 0 else o[a + j - 1]?.getD 0) else o
def lvJ (sz a : Nat) (lv o : List Int) : Nat → List Int
  | 0 => o
  | j + 1 => lvSet sz a j lv (lvJ sz a lv o j)
open Classical in
noncomputable def lvA (d : ByteArray) (sz : Nat) (lt : ByteArray) (lv o : List Int) : Nat → List Int
  | 0 => o
  | a + 1 => if d.extract a (a + lt.size) = lt then lvJ sz a lv (lvA d sz lt lv o a) lv.length else lvA d sz lt lv o a
def dotW (w : ByteArray) : ByteArray := (⟨#[46]⟩ ++ w) ++ ⟨#[46]⟩
theorem dotW_size (w : ByteArray) : (dotW w).size = w.size + 2 := by
  unfold dotW
  rw [ByteArray.size_append, ByteArray.size_append, show (⟨#[46]⟩ : ByteArray).size = 1 from rfl]
  omega
noncomputable def lvP (w : ByteArray) (pats : LS) : Nat → List Int
  | 0 => List.replicate (w.size + 1) 0
  | k + 1 => lvA (dotW w) w.size (lettersP (pats[k]?.getD .empty)) (levelsP (pats[k]?.getD .empty)) (lvP w pats k) (w.size + 3 - (lettersP (pats[k]?.getD .empty)).size)
noncomputable def levelsR (w : ByteArray) (pats : LS) : List Int := lvP w pats pats.length
def okLv (sz : Nat) (o : List Int) : Prop := o.length = sz + 1 ∧ ∀ k : Nat, 0 ≤ o[k]?.getD 0 ∧ o[k]?.getD 0 ≤ 9
theorem okLv.set {sz a j : Nat} {lv o : List Int} (h : okLv sz o) (hl : ∀ k : Nat, 0 ≤ lv[k]?.getD 0 ∧ lv[k]?.getD 0 ≤ 9) : okLv sz (lvSet sz a j lv o) := by
  unfold lvSet
  split
  · rename_i hc
    refine ⟨by rw [List.length_set]; exact h.1, fun k => ?_⟩
    have h1 := h.2 (a + j - 1)
    have h2 := hl j
    have h3 := h.2 k
    have h4 := h.1
    by_cases hk : a + j - 1 = k
    · subst hk
      rw [List.getElem?_set_self (by omega), Option.getD_some]
      split <;> omega
    · rw [List.getElem?_set_ne hk]
      exact h3
  · exact h
theorem okLv.lvJ {sz a : Nat} {lv o : List Int} (h : okLv sz o) (hl : ∀ k : Nat, 0 ≤ lv[k]?.getD 0 ∧ lv[k]?.getD 0 ≤ 9) : ∀ j, okLv sz (lvJ sz a lv o j)
  | 0 => h
  | j + 1 => (okLv.lvJ h hl j).set hl
theorem okLv.lvA {d lt : ByteArray} {sz : Nat} {lv o : List Int} (h : okLv sz o) (hl : ∀ k : Nat, 0 ≤ lv[k]?.getD 0 ∧ lv[k]?.getD 0 ≤ 9) : ∀ a, okLv sz (lvA d sz lt lv o a)
  | 0 => h
  | a + 1 => by
    unfold Go.Proofs.YtngcedklbinhjaaDoor.lvA
    split
    · exact (okLv.lvA h hl a).lvJ hl _
    · exact okLv.lvA h hl a
theorem lvP_ok (w : ByteArray) (pats : LS) : ∀ k, okLv w.size (lvP w pats k)
  | 0 => ⟨by simp [lvP], fun k => by
    unfold lvP
    rw [List.getElem?_replicate]
    split <;> decide⟩
  | k + 1 => (lvP_ok w pats k).lvA (levelsP_rng _).2.2 _
def plB (sz : Nat) (lv : List Int) (k : Nat) : Bool := decide (2 ≤ k ∧ k + 3 ≤ sz ∧ lv[k]?.getD 0 % 2 = 1)
def plK (sz : Nat) (lv : List Int) (k : Nat) : List Int := ((List.range k).filter (plB sz lv)).map fun k : Nat => (k : Int)
theorem plK_yes {sz : Nat} {lv : List Int} {k : Nat} (h : plB sz lv k = true) : plK sz lv (k + 1) = plK sz lv k ++ [(k : Int)] := by
  simp [plK, List.range_succ, List.filter_append, h]
theorem plK_no {sz : Nat} {lv : List Int} {k : Nat} (h : plB sz lv k = false) : plK sz lv (k + 1) = plK sz lv k := by
  simp [plK, List.range_succ, List.filter_append, h]
theorem plK_low {sz : Nat} {lv : List Int} : plK sz lv 2 = [] := by
  rw [plK_no (by simp [plB]), plK_no (by simp [plB])]
  rfl
theorem plK_high {sz : Nat} {lv : List Int} {k : Nat} (h : sz < k + 3) : ∀ n, plK sz lv (k + n) = plK sz lv k
  | 0 => rfl
  | n + 1 => by
    rw [← Nat.add_assoc, plK_no (by simp [plB]; omega), plK_high h n]
theorem plK_low2 {sz : Nat} {lv : List Int} {k : Nat} (h : sz < 5) : plK sz lv k = [] := by
  unfold plK
  rw [List.filter_eq_nil_iff.2 fun x _ => by simp [plB]; omega]
  rfl
noncomputable def placesR (w : ByteArray) (pats : LS) : List Int := plK w.size (levelsR w pats) (w.size + 1)
theorem plK_mem {sz : Nat} {lv : List Int} {k : Nat} : ∀ x ∈ plK sz lv k, 2 ≤ x ∧ x + 3 ≤ sz ∧ x < k := fun x hx => by
  obtain ⟨n, hn, rfl⟩ := List.mem_map.1 hx
  obtain ⟨h1, h2⟩ := List.mem_filter.1 hn
  have h3 := List.mem_range.1 h1
  have h4 := of_decide_eq_true h2
  omega
theorem plK_asc (sz : Nat) (lv : List Int) : ∀ k, (plK sz lv k).Pairwise (· < ·)
  | 0 => List.Pairwise.nil
  | k + 1 => by
    cases h : plB sz lv k with
    | true =>
      rw [plK_yes h, List.pairwise_append]
      refine ⟨plK_asc sz lv k, List.pairwise_singleton _ _, fun a ha b hb => ?_⟩
      rw [List.mem_singleton.1 hb]
      exact (plK_mem a ha).2.2
    | false =>
      rw [plK_no h]
      exact plK_asc sz lv k
theorem plK_len (sz : Nat) (lv : List Int) (k : Nat) : (plK sz lv k).length ≤ k := by
  unfold plK
  rw [List.length_map]
  exact Nat.le_trans (List.length_filter_le _ _) (by simp)
def frK (pl : List Int) (k : Nat) : Int := if k = 0 then 0 else pl[k - 1]?.getD 0
def ptF (w : ByteArray) (pl : List Int) : Nat → LS
  | 0 => []
  | k + 1 => ptF w pl k ++ [w.extract (frK pl k).toNat (pl[k]?.getD 0).toNat]
def ptR (w : ByteArray) (pl : List Int) : LS := ptF w pl pl.length ++ [w.extract (frK pl pl.length).toNat w.size]
noncomputable def partsR (w : ByteArray) (pats : LS) : LS := ptR w (placesR w pats)
theorem ptF_len (w : ByteArray) (pl : List Int) : ∀ k, (ptF w pl k).length = k
  | 0 => rfl
  | k + 1 => by rw [ptF, List.length_append, ptF_len w pl k]; rfl
def okPl (w : ByteArray) (pl : List Int) : Prop := pl.length ≤ 20 ∧ ∀ k, k < pl.length → frK pl k < pl[k]?.getD 0 ∧ pl[k]?.getD 0 < w.size
theorem frK_succ (pl : List Int) (k : Nat) : frK pl (k + 1) = pl[k]?.getD 0 := by
  unfold frK
  rw [if_neg (by omega)]
  rfl
theorem frK_rng {w : ByteArray} {pl : List Int} (h : okPl w pl) (hw : 1 ≤ w.size) : ∀ k, k ≤ pl.length → 0 ≤ frK pl k ∧ frK pl k < w.size
  | 0, _ => by simp [frK]; omega
  | k + 1, hk => by
    have h1 := frK_rng h hw k (by omega)
    have h2 := h.2 k (by omega)
    rw [frK_succ]
    omega
theorem places_ok {w : ByteArray} {pats : LS} (hw : wordB w = true) : okPl w (placesR w pats) := by
  obtain ⟨-, w1, w2⟩ := wordB_letters hw
  have ha := plK_asc w.size (levelsR w pats) (w.size + 1)
  have hm := @plK_mem w.size (levelsR w pats) (w.size + 1)
  refine ⟨?_, fun k hk => ?_⟩
  · unfold placesR plK
    rw [List.length_map]
    have : ((List.range (w.size + 1)).filter (plB w.size (levelsR w pats))).length ≤ ((List.range (w.size + 1)).filter (fun k => decide (k < w.size))).length := by
      rw [← List.countP_eq_length_filter, ← List.countP_eq_length_filter]
      refine List.countP_mono_left fun x _ hx => ?_
      have := of_decide_eq_true hx
      exact decide_eq_true (by omega)
    have h2 : ((List.range (w.size + 1)).filter (fun k => decide (k < w.size))).length ≤ w.size := by
      rw [List.range_succ, List.filter_append]
      have h3 := List.length_filter_le (fun k => decide (k < w.size)) (List.range w.size)
      rw [List.length_range] at h3
      simp
      omega
    omega
  · unfold placesR at hk ⊢
    generalize plK w.size (levelsR w pats) (w.size + 1) = pl at *
    rw [List.getElem?_eq_getElem hk, Option.getD_some]
    have h1 := hm _ (List.getElem_mem hk)
    refine ⟨?_, by omega⟩
    unfold frK
    split
    · omega
    · rename_i h0
      rw [List.getElem?_eq_getElem (show k - 1 < pl.length by omega), Option.getD_some]
      exact List.pairwise_iff_getElem.1 ha (k - 1) k (by omega) hk (by omega)
theorem wordB_ext {w : ByteArray} {a b : Nat} (hw : wordB w = true) (h1 : a < b) (h2 : b ≤ w.size) : wordB (w.extract a b) = true := by
  obtain ⟨l1, l2, l3⟩ := wordB_letters hw
  have hs : (w.extract a b).size = b - a := by rw [ByteArray.size_extract]; omega
  rw [wordB_yes fun j hj => ?_, hs]
  · exact inB_iff.2 ⟨by omega, by omega⟩
  · rw [at8_ext (by omega) h2]
    exact l1 _ (by omega)
theorem ptF_word {w : ByteArray} {pl : List Int} (hw : wordB w = true) (h : okPl w pl) : ∀ k, k ≤ pl.length → ∀ x ∈ ptF w pl k, wordB x = true
  | 0, _ => by simp [ptF]
  | k + 1, hk => fun x hx => by
    rw [ptF] at hx
    rcases List.mem_append.1 hx with hx | hx
    · exact ptF_word hw h k (by omega) x hx
    · rw [List.mem_singleton.1 hx]
      have h1 := h.2 k (by omega)
      have h2 := frK_rng h (wordB_letters hw).2.1 k (by omega)
      exact wordB_ext hw (by omega) (by omega)
theorem ptR_word {w : ByteArray} {pl : List Int} (hw : wordB w = true) (h : okPl w pl) : ∀ x ∈ ptR w pl, wordB x = true := fun x hx => by
  rcases List.mem_append.1 hx with hx | hx
  · exact ptF_word hw h _ (Nat.le_refl _) x hx
  · rw [List.mem_singleton.1 hx]
    have h2 := frK_rng h (wordB_letters hw).2.1 _ (Nat.le_refl _)
    exact wordB_ext hw (by omega) (Nat.le_refl _)
theorem ptR_len (w : ByteArray) (pl : List Int) : (ptR w pl).length = pl.length + 1 := by
  unfold ptR
  rw [List.length_append, ptF_len]
  rfl
end Go.Proofs.YtngcedklbinhjaaDoor
namespace Go.Proofs.YtngcedklbinhjaaDoor
open Go.RowKit
set_option linter.all false
abbrev pvS (s : ByteArray) : PV := .val (.string s)
def signsV (s : ByteArray) : LS := if wordB s = true then signs s else []
def φSgS : Fun := F1 dS fun s => if s.size ≤ 1048576 then some (.lst true 1 ((signsV s).map fun s => .val (.string s))) else none
theorem φSgS_ap {s : ByteArray} (h : s.size ≤ 1048576) : φSgS [.val (.string s)] = some (.lst true 1 ((signsV s).map fun s => .val (.string s))) := (F1_ap (A := dS) s).trans (if_pos h)
noncomputable def GSgS : Ctx := { fn := fun f => if f = 74 then some φJoinQ else if f = 46 then some φWord else none, io := fun f => none }
theorem GSgS_ok : SoundΓ Tryd.prog GSgS := ⟨(fun f φ h => by
  unfold GSgS at h
  dsimp only at h
  split at h
  · rename_i hf; cases h; subst hf; exact ⟨⟨_, Tryd.func74, rfl, rfl⟩, specJoinQ_ok⟩
  split at h
  · rename_i hf; cases h; subst hf; exact ⟨⟨_, Tryd.func46, rfl, rfl⟩, specWordValid_ok⟩
  cases h), (fun f φ h => by
  unfold GSgS at h
  dsimp only at h
  cases h), rfl⟩
theorem GSgS_74 (ob : Objs) (ps : List PV) : evCall GSgS ob 74 ps = (ps.mapM (reify false 0 ob fuel)).bind φJoinQ := by
  have h : GSgS.fn 74 = some φJoinQ := by simp [GSgS]
  unfold evCall
  rw [h]
  cases ps.mapM (reify false 0 ob fuel) <;> rfl
theorem GSgS_46 (ob : Objs) (ps : List PV) : evCall GSgS ob 46 ps = (ps.mapM (reify false 0 ob fuel)).bind φWord := by
  have h : GSgS.fn 46 = some φWord := by simp [GSgS]
  unfold evCall
  rw [h]
  cases ps.mapM (reify false 0 ob fuel) <;> rfl
set_option maxHeartbeats 8000000 in
theorem signsS_ok : Sound Tryd.prog 65 φSgS := by
  refine sound_pq mixed GSgS_ok Tryd.func65 rfl 50 rfl [.tmp 2] rfl (by kernel_rfl) fun ps r hr => ?_
  obtain ⟨s, rfl, hq⟩ := F1_some hr
  clear hr
  split at hq
  case isFalse => cases hq
  case isTrue hpre =>
  cases hq
  refine ⟨by simp, ?_⟩
  simp only [dIs, dUs, dSs, dI_e, dU_e, dB_e, dS_e, dFn_e, dL_e, dA2_e, dA3_e, dA4_e, dA5_e]
  have apw := φWord_ap (s := s) (by omega)
  unfold signsV
  cases hw : wordB s with
  | false =>
    rw [hw] at apw
    rw [if_neg (by decide)]
    clear hw
    have gsgs_c74 := GSgS_74; have gsgs_c46 := GSgS_46
    (refine wlk ?_; intros)
    refine i_loop (α := Unit) mixed (fun z => [(0, .val (.string s)), (3, .row 0 1 0 0), (4, iv 0)]) (fun z => [(0, 9, 1, [])]) (fun z => 1) (fun _ => True) (fun _ => 0) (by kernel_rfl) () trivial ?_ ?_ rfl ?_
    · exact agr
    · exact agr
    rintro ⟨⟩ -
    exact wlkF
  | true =>
    rw [hw] at apw
    rw [if_pos rfl]
    obtain ⟨-, hs1, hs2⟩ := wordB_letters hw
    have apj := fun i => φJoinQ_ap (at8 s i) (at8 s (i + 1))
    have hI0 : [] ++ sgF s s.size 0 = signs s := rfl
    replace hI0 := Lib.hid hI0
    generalize signs s = R at *
    clear hpre hw
    have gsgs_c74 := GSgS_74; have gsgs_c46 := GSgS_46
    (refine wlk ?_; intros)
    refine i_loop (α := Nat × Nat × LS × Nat × Nat) mixed (fun z => [(0, .val (.string s)), (3, .row z.2.2.2.1 1 0 z.2.2.1.length), (4, iv z.2.1)])
      (fun z => [(z.2.2.2.1, 9, 1, z.2.2.1.map pvS)]) (fun z => z.2.2.2.2)
      (fun z => z.2.2.1 ++ sgF s z.1 z.2.1 = R ∧ s.size ≤ z.2.1 + z.1 ∧ z.2.1 ≤ s.size ∧ z.2.2.1.length ≤ z.2.1 ∧ z.2.2.2.1 < z.2.2.2.2) (fun z => z.1) (by kernel_rfl) (s.size, 0, [], 0, 1) ⟨hI0.out, by simp, by simp, by simp, by simp⟩ ?_ ?_ rfl ?_
    · exact agr
    · exact agr
    rintro ⟨f, i, out, x, y⟩ ⟨hI, hf, hi, ho, hxy⟩
    dsimp only at hI hf hi ho hxy
    clear hI0
    by_cases h0 : i < s.size
    · cases f with
      | zero => omega
      | succ f =>
      rw [sgF_step h0] at hI
      have hI2 : (out ++ [s.extract i (i + sgN s i)]) ++ sgF s f (i + sgN s i) = R := by rw [List.append_assoc]; exact hI
      clear hI
      replace apj := apj i
      by_cases hj : i + 1 < s.size ∧ joinQ (at8 s i) (at8 s (i + 1)) = true
      · have hn : sgN s i = 2 := if_pos hj
        rw [hn] at hI2
        replace hI2 := Lib.hid hI2
        obtain ⟨hj1, hj2⟩ := hj
        rw [hj2] at apj
        have e3 : ((i : Int) + 2).toNat = i + 2 := by omega
        clear hn
        (refine wlk ?_; intros)
        refine ⟨(f, i + 2, out ++ [s.extract i (i + 2)], y + 1, y + 2), ⟨hI2.out, by dsimp only; omega, by dsimp only; omega, by simp; omega, by dsimp only; omega⟩, by dsimp only; omega, ?_, ?_, rfl⟩
        · exact agi
        · exact agr
      · have hn : sgN s i = 1 := if_neg hj
        rw [hn] at hI2
        replace hI2 := Lib.hid hI2
        clear hn
        have hj3 : i + 1 < s.size → joinQ (at8 s i) (at8 s (i + 1)) = false := fun h => by
          cases hq : joinQ (at8 s i) (at8 s (i + 1)) with
          | false => rfl
          | true => exact absurd ⟨h, hq⟩ hj
        clear hj
        by_cases h1 : i + 1 < s.size
        · rw [hj3 h1] at apj
          clear hj3
          (refine wlk ?_; intros)
          refine ⟨(f, i + 1, out ++ [s.extract i (i + 1)], y + 1, y + 2), ⟨hI2.out, by dsimp only; omega, by dsimp only; omega, by simp; omega, by dsimp only; omega⟩, by dsimp only; omega, ?_, ?_, rfl⟩
          · exact agr
          · exact agr
        · clear hj3
          (refine wlk ?_; intros)
          refine ⟨(f, i + 1, out ++ [s.extract i (i + 1)], y + 1, y + 2), ⟨hI2.out, by dsimp only; omega, by dsimp only; omega, by simp; omega, by dsimp only; omega⟩, by dsimp only; omega, ?_, ?_, rfl⟩
          · exact agr
          · exact agr
    · rw [sgF_end (by omega), List.append_nil] at hI
      subst hI
      clear apj
      exact wlkF
def φWw : Fun := F1 dS fun s => if s.size ≤ 1048576 then some (iv (wordW s)) else none
theorem φWw_ap {s : ByteArray} (h : s.size ≤ 1048576) : φWw [.val (.string s)] = some (.val (.int .i64 (wordW s))) := (F1_ap (A := dS) s).trans (if_pos h)
noncomputable def GWwS : Ctx := { fn := fun f => if f = 65 then some φSgS else if f = 66 then some φLetW else if f = 67 then some φNear else none, io := fun f => none }
theorem GWwS_ok : SoundΓ Tryd.prog GWwS := ⟨(fun f φ h => by
  unfold GWwS at h
  dsimp only at h
  split at h
  · rename_i hf; cases h; subst hf; exact ⟨⟨_, Tryd.func65, rfl, rfl⟩, signsS_ok⟩
  split at h
  · rename_i hf; cases h; subst hf; exact ⟨⟨_, Tryd.func66, rfl, rfl⟩, specLetW_ok⟩
  split at h
  · rename_i hf; cases h; subst hf; exact ⟨⟨_, Tryd.func67, rfl, rfl⟩, specNear_ok⟩
  cases h), (fun f φ h => by
  unfold GWwS at h
  dsimp only at h
  cases h), rfl⟩
theorem GWwS_65 (ob : Objs) (ps : List PV) : evCall GWwS ob 65 ps = (ps.mapM (reify false 0 ob fuel)).bind φSgS := by
  have h : GWwS.fn 65 = some φSgS := by simp [GWwS]
  unfold evCall
  rw [h]
  cases ps.mapM (reify false 0 ob fuel) <;> rfl
theorem GWwS_66 (ob : Objs) (ps : List PV) : evCall GWwS ob 66 ps = (ps.mapM (reify false 0 ob fuel)).bind φLetW := by
  have h : GWwS.fn 66 = some φLetW := by simp [GWwS]
  unfold evCall
  rw [h]
  cases ps.mapM (reify false 0 ob fuel) <;> rfl
theorem GWwS_67 (ob : Objs) (ps : List PV) : evCall GWwS ob 67 ps = (ps.mapM (reify false 0 ob fuel)).bind φNear := by
  have h : GWwS.fn 67 = some φNear := by simp [GWwS]
  unfold evCall
  rw [h]
  cases ps.mapM (reify false 0 ob fuel) <;> rfl
set_option maxHeartbeats 16000000 in
theorem specWw_ok : Sound Tryd.prog 53 φWw := by
  refine sound_pq mixed GWwS_ok Tryd.func53 rfl 70 rfl [.tmp 2] rfl (by kernel_rfl) fun ps r hr => ?_
  obtain ⟨s, rfl, hq⟩ := F1_some hr
  clear hr
  split at hq
  case isFalse => cases hq
  case isTrue hpre =>
  cases hq
  refine ⟨by simp, ?_⟩
  simp only [dIs, dUs, dSs, dI_e, dU_e, dB_e, dS_e, dFn_e, dL_e, dA2_e, dA3_e, dA4_e, dA5_e]
  have aps := φSgS_ap (s := s) hpre
  unfold wordW
  unfold signsV at aps
  cases hw : wordB s with
  | false =>
    rw [hw, if_neg (by decide)] at aps
    rw [if_neg (by decide)]
    clear hw
    have gwws_c65 := GWwS_65; have gwws_c66 := GWwS_66; have gwws_c67 := GWwS_67
    exact wlkF
  | true =>
    rw [hw, if_pos rfl] at aps
    rw [if_pos rfl]
    have hat := fun k hk => signs_at hw (k := k) hk
    have hlen := (signs_ok hw).2
    have hrg := wdK_rng hat
    generalize signs s = g at *
    clear hw hpre
    have gwws_c65 := GWwS_65; have gwws_c66 := GWwS_66; have gwws_c67 := GWwS_67
    (refine wlk ?_; intros)
    refine i_loop (α := Nat) mixed (fun k => [(3, .lst true 1 (g.map pvS)), (4, iv (wdK g k)), (5, iv k)]) (fun _ => []) (fun _ => 0)
      (fun k => k ≤ g.length) (fun k => g.length - k) (by kernel_rfl) 0 (Nat.zero_le _) ?_ ?_ rfl ?_
    · simp only [push_cast, ↓reduceIte, Nat.reduceEqDiff, Nat.reduceBEq, Nat.reduceAdd, Nat.reduceSub, Int.reduceToNat, wdK]
    · exact agr
    intro k hk
    have hrk := hrg k hk
    by_cases hkl : k < g.length
    · have hsg := hat k hkl
      have hnx := fun h => hat (k + 1) h
      have hfl := sgW_full hsg
      have hsn : wdK g (k + 1) = wdK g k + sgW (g[k]?.getD .empty) (g[k]?.getD .empty).size - ((g[k]?.getD .empty).size - 1) - nearK g k := rfl
      have hne : nearK g k = if k + 1 < g.length then nearI (at8 (g[k]?.getD .empty) ((g[k]?.getD .empty).size - 1)) (at8 (g[k + 1]?.getD .empty) 0) else 0 := rfl
      replace hsn := Lib.hid hsn
      replace hne := Lib.hid hne
      clear hat hrg
      generalize hx9 : g[k]?.getD ByteArray.empty = x at *
      obtain ⟨hx1, hx2, -⟩ := hsg
      generalize hw9 : wdK g k = w9 at *
      (refine wlk ?_; intros)
      refine i_loop (α := Nat) mixed (fun j => [(3, .lst true 1 (g.map pvS)), (4, iv (w9 + sgW x j)), (5, iv k), (6, iv j)]) (fun _ => []) (fun _ => 0)
        (fun j => j ≤ x.size) (fun j => x.size - j) (by kernel_rfl) 0 (Nat.zero_le _) ?_ ?_ rfl ?_
      · simp (disch := (first | omega | (simp only [push_cast]; first | done | omega))) only [push_cast, ↓reduceIte, Nat.reduceEqDiff, Nat.reduceBEq, Nat.reduceAdd, Nat.reduceSub, Int.reduceToNat, sgW, Int.add_zero, *]
      · exact agr
      intro j hj
      have hfj := hfl j hj
      have apl := φLetW_ap (at8 x j)
      have hlw := letW_rng (at8 x j)
      have hsj : sgW x (j + 1) = sgW x j + letW (at8 x j) := rfl
      replace hsj := Lib.hid hsj
      by_cases hjl : j < x.size
      · clear hfl hnx
        generalize letW (at8 x j) = lw at *
        (refine wlk ?_; intros)
        refine ⟨j + 1, by omega, by dsimp only; omega, ?_, ?_, rfl⟩
        · dsimp only
          rw [hsj.out, ← Int.add_assoc]
          exact agr
        · exact agr
      · obtain rfl : j = x.size := by omega
        clear apl hlw hsj hfl
        by_cases h1 : k + 1 < g.length
        · have hn1 := hnx h1
          clear hnx
          obtain ⟨hy1, -, -⟩ := hn1
          have apn := φNear_ap (at8 x (x.size - 1)) (at8 (g[k + 1]?.getD .empty) 0)
          have hnr := nearI_rng (at8 x (x.size - 1)) (at8 (g[k + 1]?.getD .empty) 0)
          have hne := hne.out
          rw [if_pos h1] at hne
          have hsn := hsn.out
          rw [hne] at hsn
          replace hsn := Lib.hid hsn
          clear hne
          generalize nearI (at8 x (x.size - 1)) (at8 (g[k + 1]?.getD .empty) 0) = nr at *
          generalize sgW x x.size = sw at *
          (refine wlk ?_; intros)
          refine ⟨k + 1, by omega, by dsimp only; omega, ?_, ?_, rfl⟩
          · dsimp only
            rw [hsn.out, show w9 + sw - ((x.size : Int) - 1) - nr = w9 + sw - x.size + 1 - nr by omega]
            exact agr
          · exact agr
        · have hne := hne.out
          rw [if_neg h1] at hne
          have hsn := hsn.out
          rw [hne, Int.sub_zero] at hsn
          replace hsn := Lib.hid hsn
          clear hne hnx
          generalize sgW x x.size = sw at *
          (refine wlk ?_; intros)
          refine ⟨k + 1, by omega, by dsimp only; omega, ?_, ?_, rfl⟩
          · dsimp only
            rw [hsn.out, show w9 + sw - ((x.size : Int) - 1) = w9 + sw - x.size + 1 by omega]
            exact agr
          · exact agr
    · obtain rfl : k = g.length := by omega
      clear hat hrg
      generalize wdK g g.length = w9 at *
      exact wlkF
end Go.Proofs.YtngcedklbinhjaaDoor
