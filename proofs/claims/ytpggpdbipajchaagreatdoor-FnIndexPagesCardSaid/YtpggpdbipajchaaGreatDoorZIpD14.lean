/- What the proof rests on, part 14: contracts of functions. No condition beyond what each states. -/
import Derived.Test.YtpggpdbipajchaaGreatDoorZIpD13
namespace Go.Proofs.YtpggpdbipajchaaGreatDoor
open Go.RowKit
set_option linter.all false
noncomputable def GDio : Ctx := { fn := fun f => none, io := fun f => if f = 11 then some ΦOpen else if f = 10 then some Φindex else none }
theorem GDio_ok : SoundΓ Tryz.prog GDio := ⟨(fun f φ h => by
  unfold GDio at h
  dsimp only at h
  cases h), (fun f φ h => by
  unfold GDio at h
  dsimp only at h
  split at h
  · rename_i hf; cases h; subst hf; exact ⟨⟨_, Tryz.func11, rfl, rfl⟩, open_io⟩
  split at h
  · rename_i hf; cases h; subst hf; exact ⟨⟨_, Tryz.func10, rfl, rfl⟩, index_io⟩
  cases h), rfl⟩
theorem GDio_11 : GDio.io 11 = some ΦOpen := by simp [GDio]
theorem GDio_10 : GDio.io 10 = some Φindex := by simp [GDio]
theorem drawIxOf_ex : ∃ φ : Fun, Sound Tryz.prog 4 φ ∧ Drw0 φ EWs okWs := by
  refine drw0_of mixed GDio_ok Tryz.func4 rfl 6 rfl [.tmp 2] rfl (by kernel_rfl) (by simp) _ _ fun code hbyte hlen => ?_
  have hok := okRd_take hbyte
  have apo := @ΦOpen_ap
  have gdio_c11 := GDio_11; have gdio_c10 := GDio_10
  repeat' (first | (first | (with_reducible first | apply i_seq | apply i_block | apply i_skip | apply i_exit | apply i_ret | apply i_kS | apply i_kSx | apply i_kSr | apply i_kL | apply i_kLx | apply i_kLr | apply i_kB | apply i_kBr | apply i_kBs | apply i_nil) | ((with_reducible apply i_region); (simp only [List.map_cons, List.map_nil] <;> exact rfl)) | ((with_reducible apply i_draw); (simp only [List.map_cons, List.map_nil] <;> exact rfl); decide +kernel) | ((with_reducible apply i_kBo); rfl) | ((first | ((with_reducible apply i_V); rfl; rfl; rfl) | ((first | ((with_reducible apply i_E); rfl) | ((with_reducible apply i_S); rfl)); first | rfl | (simp only [push_cast, ↓reduceIte])) | ((with_reducible apply i_Vq); rfl; rfl) | ((with_reducible apply i_Vp); rfl; rfl; rfl) | (with_reducible first | apply i_Gb | apply i_cond)); (simp (disch := (first | omega | (simp only [push_cast]; first | done | omega))) only [push_cast, ↓reduceIte, Nat.reduceEqDiff, Nat.reduceBEq, Nat.reduceAdd, Nat.reduceSub, Int.reduceToNat, *] <;> with_reducible exact rfl); all_goals try (first | (with_reducible first | refine hyT ?_ | refine hyF ?_ | exact hyA | exact hyB) | (intro hX; first | (cases hX; done) | ((try simp only [decide_eq_true_eq, decide_eq_false_iff_not, Bool.not_eq_true', Bool.not_eq_false'] at hX); (try have hXb := inB_iff.1 hX)))))) | ((with_reducible apply i_drw2 index_drw (fun _ _ => by simp only [push_cast, ↓reduceIte, Nat.reduceEqDiff, Nat.reduceBEq, Nat.reduceAdd, Nat.reduceSub, Int.reduceToNat])); (focus rfl); (focus (simp (disch := (first | omega | (simp only [push_cast]; first | done | omega))) only [push_cast, ↓reduceIte, Nat.reduceEqDiff, Nat.reduceBEq, Nat.reduceAdd, Nat.reduceSub, Int.reduceToNat, *] <;> with_reducible exact rfl)); (focus (simp (disch := (first | omega | (simp only [push_cast]; first | done | omega))) only [push_cast, ↓reduceIte, Nat.reduceEqDiff, Nat.reduceBEq, Nat.reduceAdd, Nat.reduceSub, Int.reduceToNat, *] <;> with_reducible exact rfl)); (focus (simp (disch := (first | omega | (simp only [push_cast]; first | done | omega))) only [push_cast, ↓reduceIte, Nat.reduceEqDiff, Nat.reduceBEq, Nat.reduceAdd, Nat.reduceSub, Int.reduceToNat, *] <;> with_reducible exact rfl)); (focus assumption); (focus omega); (focus (first | trivial | omega)); (focus (first | rfl | (simp only [push_cast, ↓reduceIte]))); intro v pp hv hok hpp1 hpp2))
  ((with_reducible apply i_fin0 (by first | exact .inl rfl | exact .inr rfl)); (focus (simp (disch := (first | omega | (simp only [push_cast]; first | done | omega))) only [push_cast, ↓reduceIte, Nat.reduceEqDiff, Nat.reduceBEq, Nat.reduceAdd, Nat.reduceSub, Int.reduceToNat, rep_iv, rep_sv, rep_w, rep_i3, rep_i4, *] <;> with_reducible exact rfl)))
  assumption
noncomputable def φdrawIxOf : Fun := Classical.choose drawIxOf_ex
theorem drawIxOf_ok : Sound Tryz.prog 4 φdrawIxOf := (Classical.choose_spec drawIxOf_ex).1
theorem drawIxOf_drw : Drw0 φdrawIxOf EWs okWs := (Classical.choose_spec drawIxOf_ex).2
noncomputable def φIxI : Fun := pureN ΨIx
theorem implIx_ok : Sound Tryz.prog 5 φIxI := implIxN.pure
theorem φIxI_yes {l : List W2} (h : okW l) (h0 : 0 < (indexR l).length) : φIxI [.lst false 2 (l.map fun x => .agg [.val (.string x.1), .val (.int .i64 x.2)])] = some (.lst true 1 ((indexR l).map fun s => .val (.string s))) := by
  have hp : 0 < ((indexR l).map fun s => PV.val (.string s)).length := by simpa using h0
  refine pureN_of (r := .row 0 1 0 (indexR l).length) (cs0 := [(9, 1, (indexR l).map fun s => .val (.string s))]) ((G1_ap (A := dWs) l).trans ((if_pos h).trans (by rw [nP_pos hp, nC_pos hp, List.length_map]))) ?_
  rw [ls_one]
  (simp (disch := (first | omega | (simp only [push_cast]; first | done | omega))) only [push_cast, ↓reduceIte, Nat.reduceEqDiff, Nat.reduceBEq, Nat.reduceAdd, Nat.reduceSub, Int.reduceToNat, *] <;> with_reducible exact rfl)
theorem φIxI_no {l : List W2} (h : okW l) (h0 : (indexR l).length = 0) : φIxI [.lst false 2 (l.map fun x => .agg [.val (.string x.1), .val (.int .i64 x.2)])] = some (.val (.slice none 0 0)) := by
  refine pureN_of (r := .val (.slice none 0 0)) (cs0 := []) ((G1_ap (A := dWs) l).trans ((if_pos h).trans (by rw [List.eq_nil_of_length_eq_zero h0]; rfl))) ?_
  (simp (disch := (first | omega | (simp only [push_cast]; first | done | omega))) only [push_cast, ↓reduceIte, Nat.reduceEqDiff, Nat.reduceBEq, Nat.reduceAdd, Nat.reduceSub, Int.reduceToNat, *] <;> with_reducible exact rfl)
noncomputable def φSmti : Fun := nilF 1 φSmt
theorem φSmti_ap {a b : LS} (h : a.length ≤ 1048576) (h2 : b.length ≤ 1048576) : φSmti [.lst false 1 (a.map fun s => .val (.string s)), .lst false 1 (b.map fun s => .val (.string s))] = some (.val (.bool (decide (a = b)))) := φSmt_ap h h2
theorem φSmti_nil : φSmti [.val (.slice none 0 0), .lst false 1 []] = some (.val (.bool true)) := φSmt_ap (a := []) (b := []) (by simp) (by simp)
theorem okW_ofx {l : List W2} (h : l.length ≤ 100) (h2 : ∀ x ∈ l, x.1.size ≤ 5) : okW l := by
  refine ⟨by omega, fun i => ?_⟩
  by_cases hi : i < l.length
  · have := h2 l[i] (List.getElem_mem hi)
    simp only [List.getElem?_eq_getElem hi, Option.getD_some]
    omega
  · rw [List.getElem?_eq_none (by omega)]
    simp [w0]
theorem indexR_le (l : List W2) : (indexR l).length ≤ l.length := by
  unfold indexR
  split
  · exact idxR_len l
  · simp
end Go.Proofs.YtpggpdbipajchaaGreatDoor
namespace Go.Proofs.YtpggpdbipajchaaGreatDoor
open Go.RowKit
set_option linter.all false
theorem Sound.calls {P : Program} {f : Nat} {φ : Fun} {vs : List Value} {v : Value} {args : Array Value} {w : World} {io : Nat → Prop} (h : Sound P f φ) (hφ : φ (vs.map PV.val) = some (.val v)) (ha : args.toList = vs) (hT : TabF w io) : Calls P f args w fun e w' => e = .returned v ∧ Below w.heap.size w w' := by
  refine (h w (fun _ => False) (vs.map PV.val) args _ hφ (fun _ q => q.elim) hT.none (by rw [ha]; exact RepL.vals vs)).mono ?_
  rintro e w' ⟨u, rfl, hb, hv⟩
  have := hv { I := fun _ _ => True, β := fun _ => 0, κ := fun _ => 0, nx := 0 } fun _ _ _ => trivial
  simp only [Rep] at this
  subst this
  exact ⟨rfl, hb⟩
theorem TabF.below {w w' : World} {io : Nat → Prop} (h : TabF w io) (hb : Below w.heap.size w w') : TabF w' io :=
  h.keep ⟨hb.os, hb.tape, hb.output, hb.size, fun b hlt _ => hb.block b hlt⟩ h.apart
theorem atoi_any {w : World} {io : Nat → Prop} (hT : TabF w io) (s : ByteArray) (hs : s.size ≤ 1048576) : Calls Tryz.prog 41 #[.string s] w fun e w' => ∃ v ev, e = .returned (.tuple #[.int .i64 v, ev]) ∧ Below w.heap.size w w' ∧ okI v ∧
    ((Lib.atoiAll s.data.toList = .ok v ∧ ev = .nilIface) ∨ ((∀ u, Lib.atoiAll s.data.toList ≠ .ok u) ∧ ∃ t x, ev = .iface t x)) := by
  cases h : Lib.atoiAll s.data.toList
  case ok v =>
    refine (YtpggpdbipajchaaGreatDoor.strconv_Atoi_ok s (by omega) v h w).mono ?_
    rintro e w' ⟨rfl, hw⟩
    have hb := Lib.atoiAll_bounds h
    refine ⟨v, .nilIface, rfl, ?_, ⟨by omega, by omega⟩, .inl ⟨rfl, rfl⟩⟩
    rcases hw with rfl | ⟨t, rfl⟩
    · exact Below.refl _ _
    · exact Lib.bytesWorld_below _ _ _
  case range =>
    obtain ⟨ev, h1, _, h2⟩ := hT.vars _ (show (_, false) ∈ gls from List.mem_cons_of_mem _ (List.mem_cons_of_mem _ (List.mem_cons_self ..)))
    obtain ⟨t, u, rfl⟩ := h2 rfl
    refine (YtpggpdbipajchaaGreatDoor.strconv_Atoi_range s (by omega) h _ w h1 (.inr ⟨t, u, rfl⟩)).mono ?_
    rintro e w' ⟨N, rfl, _, _, hb⟩
    have hb2 := Lib.atoiSat_bounds s.data.toList
    exact ⟨_, _, rfl, hb, ⟨by omega, by omega⟩, .inr ⟨fun u q => (by cases q), _, _, rfl⟩⟩
  · obtain ⟨ev, h1, _, h2⟩ := hT.vars _ (show (_, false) ∈ gls from List.mem_cons_of_mem _ (List.mem_cons_self ..))
    obtain ⟨t, u, rfl⟩ := h2 rfl
    refine (YtpggpdbipajchaaGreatDoor.strconv_Atoi_syntax s (by omega) h _ w h1 (.inr ⟨t, u, rfl⟩)).mono ?_
    rintro e w' ⟨N, rfl, _, _, hb⟩
    exact ⟨0, _, rfl, hb, ⟨by omega, by omega⟩, .inr ⟨fun u q => (by cases q), _, _, rfl⟩⟩
theorem atoi_yes {w : World} {io : Nat → Prop} (hT : TabF w io) (s : ByteArray) (hs : s.size ≤ 1048576) {v : Int} (h : Lib.atoiAll s.data.toList = .ok v) : Calls Tryz.prog 41 #[.string s] w fun e w' => e = .returned (.tuple #[.int .i64 v, .nilIface]) ∧ Below w.heap.size w w' := by
  refine (atoi_any hT s hs).mono ?_
  rintro e w' ⟨u, ev, rfl, hb, _, ⟨h1, rfl⟩ | ⟨h1, _⟩⟩
  · rw [h] at h1
    cases h1
    exact ⟨rfl, hb⟩
  · exact absurd h (h1 v)
theorem atoi_no {w : World} {io : Nat → Prop} (hT : TabF w io) (s : ByteArray) (hs : s.size ≤ 1048576) (h : ∀ u, Lib.atoiAll s.data.toList ≠ .ok u) : Calls Tryz.prog 41 #[.string s] w fun e w' => ∃ v t x, e = .returned (.tuple #[.int .i64 v, .iface t x]) ∧ Below w.heap.size w w' := by
  refine (atoi_any hT s hs).mono ?_
  rintro e w' ⟨u, ev, rfl, hb, _, ⟨h1, rfl⟩ | ⟨h1, t, x, rfl⟩⟩
  · exact absurd h1 (h u)
  · exact ⟨u, t, x, rfl, hb⟩
theorem ok_or_not (x : Lib.NumEnd Int) : (∃ v, x = .ok v) ∨ ∀ u, x ≠ .ok u := by
  cases x
  case ok v => exact .inl ⟨v, rfl⟩
  all_goals exact .inr fun u h => by cases h
theorem str_beq {a b : ByteArray} (h : (a.toList == b.toList) = true) : a = b := by
  rw [Lib.toList_data, Lib.toList_data] at h
  exact gl_ext (eq_of_beq h)
theorem str_nbeq {a b : ByteArray} (h : (a.toList == b.toList) = false) (e : a = b) : False := by
  rw [e] at h
  simp at h
def RunOk (s : ByteArray) (a b : Int) : Prop := ((1 ≤ a ∧ a ≤ 999) ∧ (1 ≤ b ∧ b ≤ 999)) ∧ runT (a, b) = s
theorem itoa_nohy {n : Int} (h : 0 ≤ n) : ∀ b ∈ (itoaS n).data.toList, ¬ b = 45 := fun b hb e => by
  rw [itoa_val h] at hb
  have := (dec_val n.toNat).2 b hb
  subst e
  simp at this
theorem idx1_at : ∀ (t r : List UInt8), (∀ b ∈ t, ¬ b = 45) → Lib.index (t ++ 45 :: r) [45] = t.length
  | [], r, _ => by simp [Lib.index, List.isPrefixOf]
  | b :: t, r, h => by
    have hb : ¬ (45 : UInt8) = b := fun e => h b (by simp) e.symm
    have ih := idx1_at t r fun x hx => h x (by simp [hx])
    rw [List.cons_append, Lib.index, show ([45] : List UInt8).isPrefixOf (b :: (t ++ 45 :: r)) = false by simp [List.isPrefixOf, hb]]
    rw [if_neg (by decide), ih, if_neg (by first | (simp; done) | (simp; omega))]
    simp
theorem idx1_no : ∀ (t : List UInt8), (∀ b ∈ t, ¬ b = 45) → Lib.index t [45] = -1
  | [], _ => by simp [Lib.index]
  | b :: t, h => by
    have hb : ¬ (45 : UInt8) = b := fun e => h b (by simp) e.symm
    have ih := idx1_no t fun x hx => h x (by simp [hx])
    rw [Lib.index, show ([45] : List UInt8).isPrefixOf (b :: t) = false by simp [List.isPrefixOf, hb]]
    rw [if_neg (by decide), ih]
    rfl
theorem run_cut {s : ByteArray} {a b : Int} (h : RunOk s a b) : (Lib.cut s.data.toList [45]).1 = (itoaS a).data.toList ∧ (if (Lib.cut s.data.toList [45]).2.2 = true then (Lib.cut s.data.toList [45]).2.1 else (Lib.cut s.data.toList [45]).1) = (itoaS b).data.toList := by
  obtain ⟨⟨h1, h2⟩, rfl⟩ := h
  have ha := itoa_nohy (n := a) (by omega)
  by_cases hab : a = b
  · subst hab
    rw [runT_one]
    have hi := idx1_no _ ha
    unfold Lib.cut
    rw [hi, if_neg (by decide)]
    exact ⟨rfl, rfl⟩
  · rw [runT_two hab]
    have e : ((itoaS a ++ ⟨#[45]⟩) ++ itoaS b).data.toList = (itoaS a).data.toList ++ 45 :: (itoaS b).data.toList := by
      rw [ByteArray.data_append, Array.toList_append, ByteArray.data_append, Array.toList_append]
      simp
    have hi := idx1_at _ (itoaS b).data.toList ha
    rw [e]
    unfold Lib.cut
    rw [hi, if_pos (by omega), Int.toNat_natCast]
    refine ⟨by simp, ?_⟩
    rw [if_pos rfl]
    rw [show (itoaS a).data.toList ++ 45 :: (itoaS b).data.toList = ((itoaS a).data.toList ++ [45]) ++ (itoaS b).data.toList by simp]
    exact List.drop_left' (by simp)
set_option maxHeartbeats 4000000 in
set_option maxRecDepth 100000 in
theorem readRun_any {w : World} {io : Nat → Prop} (hT : TabF w io) (s : ByteArray) (hs : s.size ≤ 1048576) : Calls Tryz.prog 20 #[.string s] w fun e w' => ∃ a b ok, e = .returned (.tuple #[.int .i64 a, .int .i64 b, .bool ok]) ∧ Below w.heap.size w w' ∧ (ok = true → RunOk s a b) ∧ (ok = false → ∀ a b, ¬ RunOk s a b) := by
  obtain ⟨mv, hm, hmi, _⟩ := hT.vars _ (show (_, true) ∈ gls from List.mem_cons_self ..)
  obtain ⟨m, rfl⟩ := hmi rfl
  have hcut : Calls Tryz.prog 40 #[.string s, .string ⟨#[45]⟩] w fun e w' => e = .returned (.tuple #[.string ⟨(Lib.cut s.data.toList (⟨#[45]⟩ : ByteArray).data.toList).1.toArray⟩, .string ⟨(Lib.cut s.data.toList (⟨#[45]⟩ : ByteArray).data.toList).2.1.toArray⟩, .bool (Lib.cut s.data.toList (⟨#[45]⟩ : ByteArray).data.toList).2.2]) ∧ Below w.heap.size w w' :=
    (YtpggpdbipajchaaGreatDoor.strings_Cut s ⟨#[45]⟩ m w (by omega) hm).mono (by rintro e w' ⟨rfl, n, rfl⟩; exact ⟨rfl, rfl, rfl, rfl, by simp [World.drewN], fun b hb => by simp [World.drewN]⟩)
  rw [show (⟨#[45]⟩ : ByteArray).data.toList = [45] from rfl] at hcut
  have hrc := fun a b => run_cut (s := s) (a := a) (b := b)
  have hz1 : (⟨(Lib.cut s.data.toList [45]).1.toArray⟩ : ByteArray).size ≤ 1048576 ∧ (⟨(Lib.cut s.data.toList [45]).2.1.toArray⟩ : ByteArray).size ≤ 1048576 := by
    have hl : s.data.toList.length = s.size := Array.length_toList
    have e1 : ∀ l : List UInt8, (⟨l.toArray⟩ : ByteArray).size = l.length := fun l => rfl
    rw [e1, e1]
    unfold Lib.cut
    split
    · refine ⟨by rw [List.length_take]; omega, by rw [List.length_drop]; omega⟩
    · exact ⟨by dsimp only; omega, by simp⟩
  generalize hc1 : (Lib.cut s.data.toList [45]).1 = c1 at *
  generalize hc2 : (Lib.cut s.data.toList [45]).2.1 = c2 at *
  generalize hc3 : (Lib.cut s.data.toList [45]).2.2 = c3 at *
  obtain ⟨hz1, hz2⟩ := hz1
  have HRC := Lib.hid hrc
  have HT := Lib.hid hT
  clear hrc hc1 hc2 hc3 hm hmi hT
  have hI : ∀ (W : World) (n : Int), TabF W io → Calls Tryz.prog 28 #[.int .i64 n] W fun e w' => e = .returned (.bool (inB n 1 999)) ∧ Below W.heap.size W w' := fun W n hW => Sound.calls (vs := [.int .i64 n]) isPage_ok (φPage_ap n) rfl hW
  obtain ⟨ms, hem⟩ : ∃ ms, Tryz.prog.underlying 73 = some (.interface ms) := ⟨Tryz.prog.methodsAt 73, by kernel_rfl⟩
  cases c3 with
  | true =>
    have HAB : Hid (∀ a b, RunOk s a b → Lib.atoiAll c1 = .ok a ∧ Lib.atoiAll c2 = .ok b) := fun a b h => by
      obtain ⟨q1, q2⟩ := HRC.out a b h
      obtain ⟨⟨r1, r2⟩, _⟩ := h
      have q3 : c2 = (itoaS b).data.toList := q2
      skip
      exact ⟨by rw [q1]; exact atoi_itoa (by omega) (by omega), by rw [q3]; exact atoi_itoa (by omega) (by omega)⟩
    clear HRC
    rcases ok_or_not (Lib.atoiAll c1) with ⟨v1, h1⟩ | h1
    · rcases ok_or_not (Lib.atoiAll c2) with ⟨v2, h2⟩ | h2
      · have hv1 := Lib.atoiAll_bounds h1
        have hv2 := Lib.atoiAll_bounds h2
        have hRT : ∀ W, TabF W io → inB v1 1 999 = true → inB v2 1 999 = true → Calls Tryz.prog 33 #[.int .i64 v1, .int .i64 v2] W fun e w' => e = .returned (.string (runT (v1, v2))) ∧ Below W.heap.size W w' := fun W hW h1 h2 => Sound.calls (vs := [.int .i64 v1, .int .i64 v2]) runText_ok (φRunT_ap (by have := inB_iff.1 h1; have := inB_iff.1 h2; omega)) rfl hW
        go_enter Tryz.func20, Tryz.ntmps20
        go_wp2_with (first
          | (go_at_call 40; refine hcut.mono ?_; rintro e w1 ⟨rfl, hb1⟩; have HB1 := Lib.hid hb1; have HT1 := Lib.hid (HT.out.below hb1); clear hb1)
          | (go_at_call 41; refine (atoi_yes HT1.out ⟨c1.toArray⟩ hz1 h1).mono ?_; rintro e w2 ⟨rfl, hb2⟩; have HB2 := Lib.hid (below_trans HB1.out hb2); have HT2 := Lib.hid (HT1.out.below hb2); clear hb2 HT1 HB1)
          | (go_at_call 41; refine (atoi_yes HT2.out ⟨c2.toArray⟩ hz2 h2).mono ?_; rintro e w3 ⟨rfl, hb3⟩; have HB3 := Lib.hid (below_trans HB2.out hb3); have HT3 := Lib.hid (HT2.out.below hb3); clear hb3 HT2 HB2)
          | (go_at_call 28; refine (hI _ v1 HT3.out).mono ?_; rintro e w4 ⟨rfl, hb4⟩; have HB4 := Lib.hid (below_trans HB3.out hb4); have HT4 := Lib.hid (HT3.out.below hb4); clear hb4 HT3 HB3)
          | (go_at_call 28; refine (hI _ v2 HT4.out).mono ?_; rintro e w5 ⟨rfl, hb5⟩; have HB5 := Lib.hid (below_trans HB4.out hb5); have HT5 := Lib.hid (HT4.out.below hb5); clear hb5 HT4 HB4)
          | (go_at_call 33; refine (hRT _ HT5.out (by assumption) (by assumption)).mono ?_; rintro e w6 ⟨rfl, hb6⟩; have HB6 := Lib.hid (below_trans HB5.out hb6); clear hb6 HT5 HB5))
        all_goals go_ret3
        · exact ⟨v1, v2, _, rfl, HB6.out, fun q => ⟨⟨inB_iff.1 (by assumption), inB_iff.1 (by assumption)⟩, str_beq q⟩, fun q a b h => by
            obtain ⟨g1, g2⟩ := HAB.out a b h
            rw [h1] at g1
            rw [h2] at g2
            cases g1
            cases g2
            exact str_nbeq q h.2⟩
        · exact ⟨v1, v2, _, rfl, HB5.out, fun q => (by cases q), fun q a b h => by
            obtain ⟨g1, g2⟩ := HAB.out a b h
            rw [h2] at g2
            cases g2
            have := inB_iff.2 h.1.2
            simp_all⟩
        · exact ⟨v1, v2, _, rfl, HB4.out, fun q => (by cases q), fun q a b h => by
            obtain ⟨g1, g2⟩ := HAB.out a b h
            rw [h1] at g1
            cases g1
            have := inB_iff.2 h.1.1
            simp_all⟩
      · have hv1 := Lib.atoiAll_bounds h1
        go_enter Tryz.func20, Tryz.ntmps20
        go_wp2_with (first
          | (go_at_call 40; refine hcut.mono ?_; rintro e w1 ⟨rfl, hb1⟩; have HB1 := Lib.hid hb1; have HT1 := Lib.hid (HT.out.below hb1); clear hb1)
          | (go_at_call 41; refine (atoi_yes HT1.out ⟨c1.toArray⟩ hz1 h1).mono ?_; rintro e w2 ⟨rfl, hb2⟩; have HB2 := Lib.hid (below_trans HB1.out hb2); have HT2 := Lib.hid (HT1.out.below hb2); clear hb2 HT1 HB1)
          | (go_at_call 41; refine (atoi_no HT2.out ⟨c2.toArray⟩ hz2 h2).mono ?_; rintro e w3 ⟨v2, t2, x2, rfl, hb3⟩; have HB3 := Lib.hid (below_trans HB2.out hb3); have HT3 := Lib.hid (HT2.out.below hb3); clear hb3 HT2 HB2))
        all_goals go_ret3
        all_goals exact ⟨_, _, false, rfl, HB3.out, fun q => (by cases q), fun _ a b h => h2 b (HAB.out a b h).2⟩
    · rcases ok_or_not (Lib.atoiAll c2) with ⟨v2, h2⟩ | h2
      · have hv2 := Lib.atoiAll_bounds h2
        go_enter Tryz.func20, Tryz.ntmps20
        go_wp2_with (first
          | (go_at_call 40; refine hcut.mono ?_; rintro e w1 ⟨rfl, hb1⟩; have HB1 := Lib.hid hb1; have HT1 := Lib.hid (HT.out.below hb1); clear hb1)
          | (go_at_call 41; refine (atoi_no HT1.out ⟨c1.toArray⟩ hz1 h1).mono ?_; rintro e w2 ⟨v1, t1, x1, rfl, hb2⟩; have HB2 := Lib.hid (below_trans HB1.out hb2); have HT2 := Lib.hid (HT1.out.below hb2); clear hb2 HT1 HB1)
          | (go_at_call 41; refine (atoi_yes HT2.out ⟨c2.toArray⟩ hz2 h2).mono ?_; rintro e w3 ⟨rfl, hb3⟩; have HB3 := Lib.hid (below_trans HB2.out hb3); have HT3 := Lib.hid (HT2.out.below hb3); clear hb3 HT2 HB2))
        all_goals go_ret3
        all_goals exact ⟨_, _, false, rfl, HB3.out, fun q => (by cases q), fun _ a b h => h1 a (HAB.out a b h).1⟩
      · skip
        go_enter Tryz.func20, Tryz.ntmps20
        go_wp2_with (first
          | (go_at_call 40; refine hcut.mono ?_; rintro e w1 ⟨rfl, hb1⟩; have HB1 := Lib.hid hb1; have HT1 := Lib.hid (HT.out.below hb1); clear hb1)
          | (go_at_call 41; refine (atoi_no HT1.out ⟨c1.toArray⟩ hz1 h1).mono ?_; rintro e w2 ⟨v1, t1, x1, rfl, hb2⟩; have HB2 := Lib.hid (below_trans HB1.out hb2); have HT2 := Lib.hid (HT1.out.below hb2); clear hb2 HT1 HB1)
          | (go_at_call 41; refine (atoi_no HT2.out ⟨c2.toArray⟩ hz2 h2).mono ?_; rintro e w3 ⟨v2, t2, x2, rfl, hb3⟩; have HB3 := Lib.hid (below_trans HB2.out hb3); have HT3 := Lib.hid (HT2.out.below hb3); clear hb3 HT2 HB2))
        all_goals go_ret3
        all_goals exact ⟨_, _, false, rfl, HB3.out, fun q => (by cases q), fun _ a b h => h1 a (HAB.out a b h).1⟩
  | false =>
    have HAB : Hid (∀ a b, RunOk s a b → Lib.atoiAll c1 = .ok a ∧ Lib.atoiAll c1 = .ok b) := fun a b h => by
      obtain ⟨q1, q2⟩ := HRC.out a b h
      obtain ⟨⟨r1, r2⟩, _⟩ := h
      have q3 : c1 = (itoaS b).data.toList := q2
      skip
      exact ⟨by rw [q1]; exact atoi_itoa (by omega) (by omega), by rw [q3]; exact atoi_itoa (by omega) (by omega)⟩
    clear HRC
    rcases ok_or_not (Lib.atoiAll c1) with ⟨v1, h1⟩ | h1
    · rcases ok_or_not (Lib.atoiAll c1) with ⟨v2, h2⟩ | h2
      · have hv1 := Lib.atoiAll_bounds h1
        have hv2 := Lib.atoiAll_bounds h2
        have hRT : ∀ W, TabF W io → inB v1 1 999 = true → inB v2 1 999 = true → Calls Tryz.prog 33 #[.int .i64 v1, .int .i64 v2] W fun e w' => e = .returned (.string (runT (v1, v2))) ∧ Below W.heap.size W w' := fun W hW h1 h2 => Sound.calls (vs := [.int .i64 v1, .int .i64 v2]) runText_ok (φRunT_ap (by have := inB_iff.1 h1; have := inB_iff.1 h2; omega)) rfl hW
        go_enter Tryz.func20, Tryz.ntmps20
        go_wp2_with (first
          | (go_at_call 40; refine hcut.mono ?_; rintro e w1 ⟨rfl, hb1⟩; have HB1 := Lib.hid hb1; have HT1 := Lib.hid (HT.out.below hb1); clear hb1)
          | (go_at_call 41; refine (atoi_yes HT1.out ⟨c1.toArray⟩ hz1 h1).mono ?_; rintro e w2 ⟨rfl, hb2⟩; have HB2 := Lib.hid (below_trans HB1.out hb2); have HT2 := Lib.hid (HT1.out.below hb2); clear hb2 HT1 HB1)
          | (go_at_call 41; refine (atoi_yes HT2.out ⟨c1.toArray⟩ hz1 h2).mono ?_; rintro e w3 ⟨rfl, hb3⟩; have HB3 := Lib.hid (below_trans HB2.out hb3); have HT3 := Lib.hid (HT2.out.below hb3); clear hb3 HT2 HB2)
          | (go_at_call 28; refine (hI _ v1 HT3.out).mono ?_; rintro e w4 ⟨rfl, hb4⟩; have HB4 := Lib.hid (below_trans HB3.out hb4); have HT4 := Lib.hid (HT3.out.below hb4); clear hb4 HT3 HB3)
          | (go_at_call 28; refine (hI _ v2 HT4.out).mono ?_; rintro e w5 ⟨rfl, hb5⟩; have HB5 := Lib.hid (below_trans HB4.out hb5); have HT5 := Lib.hid (HT4.out.below hb5); clear hb5 HT4 HB4)
          | (go_at_call 33; refine (hRT _ HT5.out (by assumption) (by assumption)).mono ?_; rintro e w6 ⟨rfl, hb6⟩; have HB6 := Lib.hid (below_trans HB5.out hb6); clear hb6 HT5 HB5))
        all_goals go_ret3
        · exact ⟨v1, v2, _, rfl, HB6.out, fun q => ⟨⟨inB_iff.1 (by assumption), inB_iff.1 (by assumption)⟩, str_beq q⟩, fun q a b h => by
            obtain ⟨g1, g2⟩ := HAB.out a b h
            rw [h1] at g1
            rw [h2] at g2
            cases g1
            cases g2
            exact str_nbeq q h.2⟩
        · exact ⟨v1, v2, _, rfl, HB5.out, fun q => (by cases q), fun q a b h => by
            obtain ⟨g1, g2⟩ := HAB.out a b h
            rw [h2] at g2
            cases g2
            have := inB_iff.2 h.1.2
            simp_all⟩
        · exact ⟨v1, v2, _, rfl, HB4.out, fun q => (by cases q), fun q a b h => by
            obtain ⟨g1, g2⟩ := HAB.out a b h
            rw [h1] at g1
            cases g1
            have := inB_iff.2 h.1.1
            simp_all⟩
      · have hv1 := Lib.atoiAll_bounds h1
        go_enter Tryz.func20, Tryz.ntmps20
        go_wp2_with (first
          | (go_at_call 40; refine hcut.mono ?_; rintro e w1 ⟨rfl, hb1⟩; have HB1 := Lib.hid hb1; have HT1 := Lib.hid (HT.out.below hb1); clear hb1)
          | (go_at_call 41; refine (atoi_yes HT1.out ⟨c1.toArray⟩ hz1 h1).mono ?_; rintro e w2 ⟨rfl, hb2⟩; have HB2 := Lib.hid (below_trans HB1.out hb2); have HT2 := Lib.hid (HT1.out.below hb2); clear hb2 HT1 HB1)
          | (go_at_call 41; refine (atoi_no HT2.out ⟨c1.toArray⟩ hz1 h2).mono ?_; rintro e w3 ⟨v2, t2, x2, rfl, hb3⟩; have HB3 := Lib.hid (below_trans HB2.out hb3); have HT3 := Lib.hid (HT2.out.below hb3); clear hb3 HT2 HB2))
        all_goals go_ret3
        all_goals exact ⟨_, _, false, rfl, HB3.out, fun q => (by cases q), fun _ a b h => h2 b (HAB.out a b h).2⟩
    · rcases ok_or_not (Lib.atoiAll c1) with ⟨v2, h2⟩ | h2
      · have hv2 := Lib.atoiAll_bounds h2
        go_enter Tryz.func20, Tryz.ntmps20
        go_wp2_with (first
          | (go_at_call 40; refine hcut.mono ?_; rintro e w1 ⟨rfl, hb1⟩; have HB1 := Lib.hid hb1; have HT1 := Lib.hid (HT.out.below hb1); clear hb1)
          | (go_at_call 41; refine (atoi_no HT1.out ⟨c1.toArray⟩ hz1 h1).mono ?_; rintro e w2 ⟨v1, t1, x1, rfl, hb2⟩; have HB2 := Lib.hid (below_trans HB1.out hb2); have HT2 := Lib.hid (HT1.out.below hb2); clear hb2 HT1 HB1)
          | (go_at_call 41; refine (atoi_yes HT2.out ⟨c1.toArray⟩ hz1 h2).mono ?_; rintro e w3 ⟨rfl, hb3⟩; have HB3 := Lib.hid (below_trans HB2.out hb3); have HT3 := Lib.hid (HT2.out.below hb3); clear hb3 HT2 HB2))
        all_goals go_ret3
        all_goals exact ⟨_, _, false, rfl, HB3.out, fun q => (by cases q), fun _ a b h => h1 a (HAB.out a b h).1⟩
      · skip
        go_enter Tryz.func20, Tryz.ntmps20
        go_wp2_with (first
          | (go_at_call 40; refine hcut.mono ?_; rintro e w1 ⟨rfl, hb1⟩; have HB1 := Lib.hid hb1; have HT1 := Lib.hid (HT.out.below hb1); clear hb1)
          | (go_at_call 41; refine (atoi_no HT1.out ⟨c1.toArray⟩ hz1 h1).mono ?_; rintro e w2 ⟨v1, t1, x1, rfl, hb2⟩; have HB2 := Lib.hid (below_trans HB1.out hb2); have HT2 := Lib.hid (HT1.out.below hb2); clear hb2 HT1 HB1)
          | (go_at_call 41; refine (atoi_no HT2.out ⟨c1.toArray⟩ hz1 h2).mono ?_; rintro e w3 ⟨v2, t2, x2, rfl, hb3⟩; have HB3 := Lib.hid (below_trans HB2.out hb3); have HT3 := Lib.hid (HT2.out.below hb3); clear hb3 HT2 HB2))
        all_goals go_ret3
        all_goals exact ⟨_, _, false, rfl, HB3.out, fun q => (by cases q), fun _ a b h => h1 a (HAB.out a b h).1⟩
end Go.Proofs.YtpggpdbipajchaaGreatDoor
namespace Go.Proofs.YtpggpdbipajchaaGreatDoor
open Go.RowKit
set_option linter.all false
theorem RunOk.unique {s : ByteArray} {a b a' b' : Int} (h : RunOk s a b) (h' : RunOk s a' b') : a = a' ∧ b = b' := by
  obtain ⟨c1, c2⟩ := run_cut h
  obtain ⟨d1, d2⟩ := run_cut h'
  have e1 := atoi_itoa (n := a) (by have := h.1; omega) (by have := h.1; omega)
  have e2 := atoi_itoa (n := a') (by have := h'.1; omega) (by have := h'.1; omega)
  have e3 := atoi_itoa (n := b) (by have := h.1; omega) (by have := h.1; omega)
  have e4 := atoi_itoa (n := b') (by have := h'.1; omega) (by have := h'.1; omega)
  rw [← c1, d1, e2] at e1
  rw [← c2, d2, e4] at e3
  cases e1
  cases e3
  exact ⟨rfl, rfl⟩
open Classical in
noncomputable def runOf (s : ByteArray) : Option Rn := if h : ∃ r : Rn, RunOk s r.1 r.2 then some (Classical.choose h) else none
theorem runOf_yes {s : ByteArray} {a b : Int} (h : RunOk s a b) : runOf s = some (a, b) := by
  have h1 : ∃ r : Rn, RunOk s r.1 r.2 := ⟨(a, b), h⟩
  unfold runOf
  rw [dif_pos h1]
  obtain ⟨e1, e2⟩ := RunOk.unique (Classical.choose_spec h1) h
  exact congrArg some (Prod.ext e1 e2)
theorem runOf_no {s : ByteArray} (h : ∀ a b, ¬ RunOk s a b) : runOf s = none := by
  unfold runOf
  rw [dif_neg fun ⟨r, hr⟩ => h _ _ hr]
theorem runOf_some {s : ByteArray} {r : Rn} (h : runOf s = some r) : RunOk s r.1 r.2 := by
  unfold runOf at h
  split at h
  · rename_i h1
    cases h
    exact Classical.choose_spec h1
  · cases h
def rangeL (a b : Int) : List Int := (List.range (b + 1 - a).toNat).map fun k : Nat => a + k
theorem rangeL_nil {a b : Int} (h : b < a) : rangeL a b = [] := by
  unfold rangeL
  rw [show (b + 1 - a).toNat = 0 by omega]
  rfl
theorem rangeL_snoc {a b : Int} (h : a ≤ b + 1) : rangeL a (b + 1) = rangeL a b ++ [b + 1] := by
  unfold rangeL
  rw [show (b + 1 + 1 - a).toNat = (b + 1 - a).toNat + 1 by omega, List.range_succ, List.map_append]
  simp
  omega
theorem rangeL_len (a b : Int) : (rangeL a b).length = (b + 1 - a).toNat := by simp [rangeL]
theorem expand_runs : ∀ (n : Nat) (l : List Int), l.length = n → (runsR l).flatMap (fun r => rangeL r.1 r.2) = l ∧ ∀ r ∈ runsR l, r.1 ≤ r.2 := by
  intro n
  induction n with
  | zero => intro l h; rw [List.eq_nil_of_length_eq_zero h]; simp [runsR]
  | succ n ih =>
    intro l h
    rcases List.eq_nil_or_concat l with h1 | ⟨l0, x, h1⟩
    · subst h1; simp at h
    · rw [List.concat_eq_append] at h1
      subst h1
      rw [List.length_append, List.length_singleton] at h
      obtain ⟨e1, e2⟩ := ih l0 (by omega)
      have hone : rangeL x x = [x] := by
        unfold rangeL
        rw [show (x + 1 - x).toNat = 1 by omega]
        simp
      rw [runsR_snoc]
      rcases List.eq_nil_or_concat (runsR l0) with h2 | ⟨R, z, h2⟩
      · rw [h2] at e1 ⊢
        have : l0 = [] := by simpa using e1.symm
        subst this
        simp [runStep, hone]
      · rw [List.concat_eq_append] at h2
        rw [h2] at e1 e2 ⊢
        rw [runStep_snoc]
        have hz := e2 z (by simp)
        split
        · rename_i hs
          subst hs
          refine ⟨?_, fun r hr => ?_⟩
          · rw [List.flatMap_append] at e1 ⊢
            simp only [List.flatMap_cons, List.flatMap_nil, List.append_nil] at e1 ⊢
            rw [rangeL_snoc (by omega), ← List.append_assoc, e1]
          · rcases List.mem_append.1 hr with hr | hr
            · exact e2 r (List.mem_append.2 (.inl hr))
            · simp only [List.mem_singleton] at hr
              subst hr
              dsimp only
              omega
        · refine ⟨?_, fun r hr => ?_⟩
          · rw [List.flatMap_append, e1]
            simp [hone]
          · rcases List.mem_append.1 hr with hr | hr
            · exact e2 r hr
            · simp only [List.mem_singleton] at hr
              subst hr
              exact Int.le_refl _
theorem toL_injc {a b : LS} (h : a.map (·.data.toList) = b.map (·.data.toList)) : a = b := by
  induction a generalizing b with
  | nil => cases b with
    | nil => rfl
    | cons y b => simp at h
  | cons x a ih => cases b with
    | nil => simp at h
    | cons y b =>
      simp only [List.map_cons, List.cons.injEq] at h
      rw [gl_ext h.1, ih h.2]
noncomputable def rdI : LS → List Int → Option (List Int)
  | [], out => some out
  | p :: ps, out => match runOf p with
    | none => none
    | some r => if 30 < out.length then none else rdI ps (out ++ rangeL r.1 r.2)
def piecesC (s : ByteArray) : LS := Lib.splitB csB 0 (Lib.countB s csB) s
open Classical in
noncomputable def readR (s : ByteArray) : Option (List Int) := if h : ∃ P, pagesB P = true ∧ pagesT P = s then some (Classical.choose h) else none
theorem rdI_runs : ∀ (R : List Rn) (out : List Int), (∀ r ∈ R, ((1 ≤ r.1 ∧ r.1 ≤ 999) ∧ (1 ≤ r.2 ∧ r.2 ≤ 999)) ∧ r.1 ≤ r.2) → (out ++ R.flatMap fun r => rangeL r.1 r.2).length ≤ 30 → rdI (R.map runT) out = some (out ++ R.flatMap fun r => rangeL r.1 r.2)
  | [], out, _, _ => by simp [rdI]
  | r :: R, out, h, hl => by
    have hr := h r (by simp)
    have ho : runOf (runT r) = some r := runOf_yes (a := r.1) (b := r.2) ⟨hr.1, rfl⟩
    rw [List.length_append] at hl
    rw [List.map_cons]
    unfold rdI
    rw [ho]
    dsimp only
    rw [if_neg (by omega), rdI_runs R _ (fun x hx => h x (by simp [hx])) (by simp only [List.flatMap_cons, List.length_append] at hl ⊢; omega)]
    simp [List.flatMap_cons]
theorem pieces_text {P : List Int} (h : pagesB P = true) (h0 : P ≠ []) : piecesC (pagesT P) = (runsR P).map runT := by
  have hr := runs_rng (pages_mem h)
  have hne : (runsR P).map (fun r => (runT r).data.toList) ≠ [] := by
    rcases List.eq_nil_or_concat P with h1 | ⟨l0, x, h1⟩
    · exact absurd h1 h0
    · rw [List.concat_eq_append] at h1
      subst h1
      obtain ⟨R, a, hR⟩ := runs_last l0 x
      rw [hR]
      simp
  have hs := split_cs ((runsR P).map fun r => (runT r).data.toList) hne fun t ht b hb => by
    obtain ⟨r, hr1, rfl⟩ := List.mem_map.1 ht
    have := hr r hr1
    exact runT_nocomma (by omega) (by omega) b hb
  have e : (pagesT P).data.toList = Lib.join ((runsR P).map fun r => (runT r).data.toList) [44, 32] := by
    unfold pagesT textR
    rw [if_pos h]
    show Lib.join (((runsR P).map runT).map (·.data.toList)) csB.data.toList = _
    rw [List.map_map]
    rfl
  refine toL_injc ?_
  have h3 : (piecesC (pagesT P)).map (·.data.toList) = Lib.splitK csB.data.toList 0 (Lib.countB (pagesT P) csB) (pagesT P).data.toList := Lib.splitB_data _ _ _ _
  have h4 : Lib.countB (pagesT P) csB = Lib.count (pagesT P).data.toList [44, 32] := rfl
  rw [h3, h4, e, List.map_map]
  exact hs
theorem rdI_text {P : List Int} (h : pagesB P = true) (h0 : P ≠ []) : rdI (piecesC (pagesT P)) [] = some P := by
  obtain ⟨e1, e2⟩ := expand_runs _ P rfl
  have hr := runs_rng (pages_mem h)
  rw [pieces_text h h0, rdI_runs _ _ (fun r hr1 => ⟨hr r hr1, e2 r hr1⟩) (by rw [List.nil_append, e1]; exact pages_len h), List.nil_append, e1]
end Go.Proofs.YtpggpdbipajchaaGreatDoor
namespace Go.Proofs.YtpggpdbipajchaaGreatDoor
open Go.RowKit
set_option linter.all false
theorem pagesT_pos {P : List Int} (h : pagesB P = true) (h0 : P ≠ []) : 0 < (pagesT P).size := by
  have hp := textR_pos (l := P) (k := P.length) (List.length_pos_iff.2 h0) (Nat.le_refl _) fun j hj => by have := pages_at h hj; omega
  unfold pagesT
  rw [if_pos h]
  rwa [List.take_of_length_le (Nat.le_refl _)] at hp
theorem pagesT_nil : pagesT [] = ⟨#[]⟩ := by
  unfold pagesT
  split <;> rfl
theorem pages_inj {P Q : List Int} (hP : pagesB P = true) (hQ : pagesB Q = true) (h : pagesT P = pagesT Q) : P = Q := by
  by_cases h1 : P = []
  · by_cases h2 : Q = []
    · rw [h1, h2]
    · have := pagesT_pos hQ h2
      rw [← h, h1, pagesT_nil] at this
      simp [ByteArray.size] at this
  · by_cases h2 : Q = []
    · have := pagesT_pos hP h1
      rw [h, h2, pagesT_nil] at this
      simp [ByteArray.size] at this
    · have e1 := rdI_text hP h1
      have e2 := rdI_text hQ h2
      rw [h, e2] at e1
      exact (Option.some.inj e1).symm
theorem readR_yes {P : List Int} {s : ByteArray} (h : pagesB P = true) (ht : pagesT P = s) : readR s = some P := by
  have h1 : ∃ P, pagesB P = true ∧ pagesT P = s := ⟨P, h, ht⟩
  unfold readR
  rw [dif_pos h1]
  obtain ⟨c1, c2⟩ := Classical.choose_spec h1
  exact congrArg some (pages_inj c1 h (c2.trans ht.symm))
theorem readR_some {P : List Int} {s : ByteArray} (h : readR s = some P) : pagesB P = true ∧ pagesT P = s := by
  unfold readR at h
  split at h
  · rename_i h1
    cases h
    exact Classical.choose_spec h1
  · cases h
theorem readR_nil : readR ⟨#[]⟩ = some [] := readR_yes rfl pagesT_nil
theorem readR_out {s : ByteArray} {out : List Int} (hs : ¬ s = ⟨#[]⟩) (h : rdI (piecesC s) [] = some out) : readR s = if pagesB out = true ∧ pagesT out = s then some out else none := by
  split
  · rename_i hc
    exact readR_yes hc.1 hc.2
  · rename_i hc
    cases hR : readR s with
    | none => rfl
    | some P =>
      obtain ⟨p1, p2⟩ := readR_some hR
      have h0 : P ≠ [] := fun e => by subst e; rw [pagesT_nil] at p2; exact hs p2.symm
      have := rdI_text p1 h0
      rw [p2, h] at this
      cases this
      exact absurd ⟨p1, p2⟩ hc
theorem readR_none {s : ByteArray} (hs : ¬ s = ⟨#[]⟩) (h : rdI (piecesC s) [] = none) : readR s = none := by
  cases hR : readR s with
  | none => rfl
  | some P =>
    obtain ⟨p1, p2⟩ := readR_some hR
    have h0 : P ≠ [] := fun e => by subst e; rw [pagesT_nil] at p2; exact hs p2.symm
    have := rdI_text p1 h0
    rw [p2, h] at this
    cases this
theorem piecesC_facts (s : ByteArray) : (piecesC s).length = Lib.countB s csB + 1 ∧ (piecesC s).length ≤ s.size + 1 := by
  have h1 : (1 : Nat) ≤ csB.size := by decide
  have e := Lib.splitB_all csB h1 0 _ s rfl
  have := Lib.countB_le csB h1 s.size s (Nat.le_refl _)
  exact ⟨e, by unfold piecesC; omega⟩
theorem pieces_sz (sep : ByteArray) : ∀ (k : Nat) (s : ByteArray), ∀ p ∈ Lib.splitB sep 0 k s, p.size ≤ s.size
  | 0, s, p, hp => by
    rw [Lib.splitB_zero] at hp
    rw [List.mem_singleton.1 hp]
    exact Nat.le_refl _
  | k + 1, s, p, hp => by
    unfold Lib.splitB at hp
    split at hp
    · rw [List.mem_singleton.1 hp]
      exact Nat.le_refl _
    · rcases List.mem_cons.1 hp with rfl | hp
      · rw [ByteArray.size_extract]; omega
      · have := pieces_sz sep k _ p hp
        rw [ByteArray.size_extract] at this
        omega
noncomputable def φRR : Fun := F1 dS fun s => if s.size ≤ 1048576 then some (match runOf s with | some r => .tup [.val (.int .i64 r.1), .val (.int .i64 r.2), .val (.bool true)] | none => .tup [.dead, .dead, .val (.bool false)]) else none
theorem φRR_ap {s : ByteArray} (h : s.size ≤ 1048576) : φRR [.val (.string s)] = some (match runOf s with | some r => .tup [.val (.int .i64 r.1), .val (.int .i64 r.2), .val (.bool true)] | none => .tup [.dead, .dead, .val (.bool false)]) := (F1_ap (A := dS) s).trans (if_pos h)
theorem readRun_ok : Sound Tryz.prog 20 φRR := by
  intro w J ps args r hr hJ hT hargs
  obtain ⟨s, rfl, hq⟩ := F1_some hr
  split at hq
  case isFalse => cases hq
  case isTrue hs =>
  cases hq
  simp only [RepL] at hargs
  obtain ⟨v1, vs1, e1, h1, rfl⟩ := hargs
  obtain rfl : args = #[v1] := by
    obtain ⟨a⟩ := args
    simp only at e1
    rw [e1]
  simp only [dS, Rep] at h1
  subst h1
  refine (readRun_any hT s hs).mono ?_
  rintro e w' ⟨a, b, ok, rfl, hb, h2, h3⟩
  refine ⟨_, rfl, hb, fun g' _ => ?_⟩
  cases ok with
  | true =>
    rw [runOf_yes (h2 rfl)]
    simp only [Rep, RepL]
    exact ⟨_, rfl, _, _, rfl, rfl, _, _, rfl, rfl, _, _, rfl, rfl, rfl⟩
  | false =>
    rw [runOf_no (h3 rfl)]
    simp only [Rep, RepL]
    exact ⟨_, rfl, _, _, rfl, trivial, _, _, rfl, trivial, _, _, rfl, rfl, rfl⟩
noncomputable def φSplC : Fun := F2 dS dS fun s sep => if sep = csB ∧ s.size ≤ 1048576 then some (.lst true 1 ((piecesC s).map fun s => .val (.string s))) else none
theorem φSplC_ap {s : ByteArray} (h : s.size ≤ 1048576) : φSplC [.val (.string s), .val (.string csB)] = some (.lst true 1 ((piecesC s).map fun s => .val (.string s))) := (F2_ap (A := dS) (B := dS) s csB).trans (if_pos ⟨rfl, h⟩)
theorem splitC_ok : Sound Tryz.prog 19 φSplC := by
  intro w J ps args r hr hJ hT hargs
  obtain ⟨s, sep, rfl, hq⟩ := F2_some hr
  split at hq
  case isFalse => cases hq
  case isTrue hs =>
  cases hq
  obtain ⟨rfl, hs⟩ := hs
  simp only [RepL] at hargs
  obtain ⟨v1, vs1, e1, h1, v2, vs2, rfl, h2, rfl⟩ := hargs
  obtain rfl : args = #[v1, v2] := by
    obtain ⟨a⟩ := args
    simp only at e1
    rw [e1]
  simp only [dS, Rep] at h1 h2
  subst h1
  subst h2
  obtain ⟨mv, hm, hmi, _⟩ := hT.vars _ (show (_, true) ∈ gls from List.mem_cons_self ..)
  obtain ⟨m, rfl⟩ := hmi rfl
  obtain ⟨f1, f2⟩ := piecesC_facts s
  refine (YtpggpdbipajchaaGreatDoor.strings_Split s csB m w (by omega) hm (by decide)).mono ?_
  rintro e w' ⟨rfl, rfl⟩
  have hc : Lib.splitB csB 0 (Lib.countB s csB) s = piecesC s := rfl
  rw [hc, ← f1]
  generalize piecesC s = P at *
  refine ⟨_, rfl, below_alloc (Below.refl _ _), fun g' hg => ?_⟩
  simp only [Rep, List.length_map]
  refine ⟨_, _, rfl, Nat.le_refl _, by omega, .inr ⟨w.heap.size, 0, rfl, hg _ (Nat.le_refl _) (by simp), RepEs.of fun i e he => ?_⟩⟩
  rw [List.getElem?_map, Option.map_eq_some_iff] at he
  obtain ⟨x, hx, rfl⟩ := he
  refine ⟨.string x, by simp [Rep], ⟨by simp [Value.cells, Value.oneCell'], fun j hj => ?_⟩, rfl⟩
  have hj0 : j = 0 := by simp [Value.cells] at hj; exact hj
  subst hj0
  simp only [World.cell?, heap_alloc_new, Nat.zero_add, Nat.mul_one, Nat.add_zero]
  simp [Value.cells, hx]
end Go.Proofs.YtpggpdbipajchaaGreatDoor
namespace Go.Proofs.YtpggpdbipajchaaGreatDoor
open Go.RowKit
set_option linter.all false
theorem line_space {l : List W2} (h : indexB l = true) {w : ByteArray} (hw : w ∈ wordsU l) : w.size < (lineU l w).size ∧ at8 (lineU l w) w.size = 32 ∧ (∀ j, j < w.size → ¬ at8 (lineU l w) j = 32) ∧
    (lineU l w).extract (w.size + 1) (lineU l w).size = pagesT (pagesU l w) ∧ readR (pagesT (pagesU l w)) = some (pagesU l w) ∧ 0 < (pagesU l w).length := by
  have hsz : (lineU l w).size = w.size + 1 + (pagesT (pagesU l w)).size := by
    unfold lineU
    rw [ByteArray.size_append, ByteArray.size_append, show (⟨#[32]⟩ : ByteArray).size = 1 from rfl]
  have hl := lineU_list l w
  have hwl : w.data.toList.length = w.size := Array.length_toList
  refine ⟨by omega, ?_, fun j hj => ?_, ?_, readR_yes (pagesU_valid (indexB_iff.1 h).1 w) rfl, ?_⟩
  · rw [at8_list (by omega)]
    have : (lineU l w).data.toList[w.size]? = some 32 := by
      rw [hl, List.getElem?_append_right (by omega), hwl, Nat.sub_self]
      rfl
    rw [List.getElem?_eq_getElem (by rw [Array.length_toList]; show _ < (lineU l w).size; omega)] at this
    rw [Option.some.inj this]
    rfl
  · rw [at8_list (by omega)]
    have h1 : j < w.data.toList.length := by omega
    have : (lineU l w).data.toList[j]? = some w.data.toList[j] := by
      rw [hl, List.getElem?_append_left h1, List.getElem?_eq_getElem h1]
    rw [List.getElem?_eq_getElem (by rw [Array.length_toList]; show _ < (lineU l w).size; omega)] at this
    rw [Option.some.inj this]
    have := word_bytes (wordsU_word h w hw) _ (List.getElem_mem h1)
    omega
  · refine gl_ext ?_
    have hle : (pagesT (pagesU l w)).data.toList.length ≤ (lineU l w).size - (w.size + 1) := by
      have lt : ∀ b : ByteArray, b.data.toList.length = b.size := fun b => Array.length_toList
      rw [lt]
      omega
    rw [ByteArray.data_extract, Array.toList_extract, List.extract_eq_drop_take, hl]
    rw [show w.data.toList ++ 32 :: (pagesT (pagesU l w)).data.toList = (w.data.toList ++ [32]) ++ (pagesT (pagesU l w)).data.toList by simp, List.drop_left' (show (w.data.toList ++ [32]).length = w.size + 1 by rw [List.length_append, hwl]; rfl), List.take_of_length_le (hle)]
  · obtain ⟨x, hx, he⟩ := wordsU_mem.1 hw
    have h1 := ((indexB_iff.1 h).2 x hx).2
    exact List.length_pos_of_mem (pagesN_mem.2 ⟨⟨h1.1, by omega⟩, x, hx, he, rfl⟩)
end Go.Proofs.YtpggpdbipajchaaGreatDoor
namespace Go.Proofs.YtpggpdbipajchaaGreatDoor
open Go.RowKit
set_option linter.all false
noncomputable def rdZ (s : ByteArray) : PV × List CellIO := match readR s with
  | some P => (.tup [nP 1 (P.map fun n => .val (.int .i64 n)) 0, .val (.bool true)], nC 3 1 (P.map fun n => .val (.int .i64 n)))
  | none => (.tup [.val (.slice none 0 0), .val (.bool false)], [])
noncomputable def ΨRdp : FunN := G1 dS fun s => if s.size ≤ 1048576 then some (rdZ s) else none
noncomputable def φPtN : Fun := nilF 1 φPt
theorem φPtN_ap {l : List Int} (h : l.length ≤ 1099511627776) : φPtN [.lst false 1 (l.map fun n => .val (.int .i64 n))] = some (.val (.string (pagesT l))) := φPt_ap h
theorem φPtN_nil : φPtN [.val (.slice none 0 0)] = some (.val (.string ⟨#[]⟩)) := by
  have := φPt_ap (l := []) (by simp)
  rw [pagesT_nil] at this
  exact this
noncomputable def φPvN : Fun := nilF 1 φPagesV
theorem φPvN_ap {l : List Int} (h : l.length ≤ 1099511627776) : φPvN [.lst false 1 (l.map fun n => .val (.int .i64 n))] = some (.val (.bool (pagesB l))) := φPagesV_ap h
theorem φPvN_nil : φPvN [.val (.slice none 0 0)] = some (.val (.bool true)) := φPagesV_ap (zs := []) (by simp)
noncomputable def GRp : Ctx := { fn := fun f => if f = 19 then some φSplC else if f = 20 then some φRR else if f = 21 then some φPvN else if f = 16 then some φPtN else none, io := fun f => none }
theorem GRp_ok : SoundΓ Tryz.prog GRp := ⟨(fun f φ h => by
  unfold GRp at h
  dsimp only at h
  split at h
  · rename_i hf; cases h; subst hf; exact ⟨⟨_, Tryz.func19, rfl, rfl⟩, splitC_ok⟩
  split at h
  · rename_i hf; cases h; subst hf; exact ⟨⟨_, Tryz.func20, rfl, rfl⟩, readRun_ok⟩
  split at h
  · rename_i hf; cases h; subst hf; exact ⟨⟨_, Tryz.func21, rfl, rfl⟩, (implPagesV_ok.nil 1)⟩
  split at h
  · rename_i hf; cases h; subst hf; exact ⟨⟨_, Tryz.func16, rfl, rfl⟩, (implPt_ok.nil 1)⟩
  cases h), (fun f φ h => by
  unfold GRp at h
  dsimp only at h
  cases h), rfl⟩
theorem GRp_19 (ob : Objs) (ps : List PV) : evCall GRp ob 19 ps = (ps.mapM (reify false 0 ob fuel)).bind φSplC := by
  have h : GRp.fn 19 = some φSplC := by simp [GRp]
  unfold evCall
  rw [h]
  cases ps.mapM (reify false 0 ob fuel) <;> rfl
theorem GRp_20 (ob : Objs) (ps : List PV) : evCall GRp ob 20 ps = (ps.mapM (reify false 0 ob fuel)).bind φRR := by
  have h : GRp.fn 20 = some φRR := by simp [GRp]
  unfold evCall
  rw [h]
  cases ps.mapM (reify false 0 ob fuel) <;> rfl
theorem GRp_21 (ob : Objs) (ps : List PV) : evCall GRp ob 21 ps = (ps.mapM (reify false 0 ob fuel)).bind φPvN := by
  have h : GRp.fn 21 = some φPvN := by simp [GRp]
  unfold evCall
  rw [h]
  cases ps.mapM (reify false 0 ob fuel) <;> rfl
theorem GRp_16 (ob : Objs) (ps : List PV) : evCall GRp ob 16 ps = (ps.mapM (reify false 0 ob fuel)).bind φPtN := by
  have h : GRp.fn 16 = some φPtN := by simp [GRp]
  unfold evCall
  rw [h]
  cases ps.mapM (reify false 0 ob fuel) <;> rfl
set_option maxHeartbeats 16000000 in
theorem implRdN : SoundN Tryz.prog 8 ΨRdp := by
  refine sound_pqN mixed GRp_ok Tryz.func8 rfl 54 rfl [.tmp 2, .tmp 3] rfl (by kernel_rfl) fun ps r cs' hr => ?_
  obtain ⟨s, rfl, hq⟩ := G1_some hr
  clear hr
  split at hq
  case isFalse => cases hq
  case isTrue hs =>
  have hz : rdZ s = (r, cs') := by simpa using hq
  clear hq
  refine ⟨by simp, ?_⟩
  simp only [dIs, dUs, dSs, dI_e, dU_e, dB_e, dS_e, dFn_e, dL_e, dA2_e, dA3_e, dA4_e, dA5_e]
  by_cases hs0 : s = ⟨#[]⟩
  · subst hs0
    have hz2 : ((PV.tup [.val (.slice none 0 0), .val (.bool true)], []) : PV × List CellIO) = (r, cs') := by
      unfold rdZ at hz
      rw [readR_nil] at hz
      exact hz
    cases hz2
    have grp_c19 := GRp_19; have grp_c20 := GRp_20; have grp_c21 := GRp_21; have grp_c16 := GRp_16
    (refine wlk ?_; intros)
    all_goals ((with_reducible apply i_endN0 (by first | exact .inl rfl | exact .inr rfl)); (simp (disch := (first | omega | (simp only [push_cast]; first | done | omega))) only [push_cast, ↓reduceIte, Nat.reduceEqDiff, Nat.reduceBEq, Nat.reduceAdd, Nat.reduceSub, Int.reduceToNat, *] <;> with_reducible exact rfl))
  have ap1 := φSplC_ap hs
  have hcs : csB = ⟨#[44, 32]⟩ := rfl
  rw [hcs] at ap1
  obtain ⟨_, hpl⟩ := piecesC_facts s
  have hpz : ∀ i, i < (piecesC s).length → ((piecesC s)[i]?.getD .empty).size ≤ s.size := fun i hi => by
    rw [List.getElem?_eq_getElem hi, Option.getD_some]
    exact pieces_sz csB _ s _ (List.getElem_mem hi)
  have hyes := fun out => readR_out (out := out) hs0
  have hno := readR_none hs0
  generalize hps : piecesC s = ps at *
  generalize hT9 : rdI ps [] = T9 at *
  replace hyes := Lib.hid hyes
  replace hno := Lib.hid hno
  replace hT9 := Lib.hid hT9
  replace hz := Lib.hid hz
  clear hps hcs
  have grp_c19 := GRp_19; have grp_c20 := GRp_20; have grp_c21 := GRp_21; have grp_c16 := GRp_16
  (refine wlk ?_; intros)
  refine i_loop (α := Nat × List Int × Nat × Nat) mixed (fun z => [(0, .val (.string s)), (4, nP 1 (z.2.1.map fun n => .val (.int .i64 n)) z.2.2.1), (14, .lst true 1 (ps.map fun s => .val (.string s))), (15, iv ps.length), (16, iv z.1)])
    (fun z => nO 3 1 (z.2.1.map fun n => .val (.int .i64 n)) z.2.2.1) (fun z => z.2.2.2)
    (fun z => z.1 ≤ ps.length ∧ rdI (ps.drop z.1) z.2.1 = T9 ∧ z.2.1.length ≤ 1100 ∧ (0 < z.2.1.length → z.2.2.1 < z.2.2.2)) (fun z => ps.length - z.1) (by kernel_rfl) (0, [], 0, 0) ⟨Nat.zero_le _, by rw [List.drop_zero]; exact hT9.out, by simp, by simp⟩ ?_ ?_ rfl ?_
  · exact agr
  · exact agr
  rintro ⟨i, out, x, y⟩ ⟨hi, hI, hol, hxy⟩
  dsimp only at hi hI hol hxy
  by_cases hil : i < ps.length
  · have hpi := hpz i hil
    clear hpz
    rw [List.drop_eq_getElem_cons hil] at hI
    rw [List.getElem?_eq_getElem hil, Option.getD_some] at hpi
    have hge : ps[i]?.getD ByteArray.empty = ps[i] := by rw [List.getElem?_eq_getElem hil, Option.getD_some]
    unfold rdI at hI
    have ap2 := φRR_ap (s := ps[i]) (by omega)
    rw [← hge] at hI ap2 hpi
    clear hge
    generalize hpe : ps[i]?.getD ByteArray.empty = p at *
    cases hro : runOf p with
    | none =>
      rw [hro] at hI ap2
      dsimp only at hI ap2
      have hz := hz.out
      unfold rdZ at hz
      rw [hno.out hI.symm] at hz
      cases hz
      clear hro hI
      (refine wlk ?_; intros)
      all_goals ((with_reducible apply i_endN0 (by first | exact .inl rfl | exact .inr rfl)); (simp (disch := (first | omega | (simp only [push_cast]; first | done | omega))) only [push_cast, ↓reduceIte, Nat.reduceEqDiff, Nat.reduceBEq, Nat.reduceAdd, Nat.reduceSub, Int.reduceToNat, *] <;> with_reducible exact rfl))
    | some r9 =>
      obtain ⟨a, b⟩ := r9
      have hrg := (runOf_some hro).1
      rw [hro] at hI ap2
      dsimp only at hI ap2 hrg
      clear hro
      by_cases h30 : 30 < out.length
      · rw [if_pos h30] at hI
        have hxy := hxy (by omega)
        have hap : 0 < (out.map fun n => PV.val (.int .i64 n)).length := by rw [List.length_map]; omega
        have hz2 : ((PV.tup [.val (.slice none 0 0), .val (.bool false)], []) : PV × List CellIO) = (r, cs') := by
          have h := hz.out
          unfold rdZ at h
          rw [hno.out hI.symm] at h
          exact h
        cases hz2
        clear hI
        try simp only [nP_pos hap, nO_pos hap, List.length_map]
        (refine wlk ?_; intros)
        all_goals ((with_reducible apply i_endN0 (by first | exact .inl rfl | exact .inr rfl)); (simp (disch := (first | omega | (simp only [push_cast]; first | done | omega))) only [push_cast, ↓reduceIte, Nat.reduceEqDiff, Nat.reduceBEq, Nat.reduceAdd, Nat.reduceSub, Int.reduceToNat, *] <;> with_reducible exact rfl))
      · rw [if_neg h30] at hI
        replace hI := Lib.hid hI
        by_cases hl0 : out.length = 0
        · obtain rfl : out = [] := List.eq_nil_of_length_eq_zero hl0
          clear hxy h30 hl0
          simp only [List.map_nil, nP_nil, nO_nil]
          (refine wlk ?_; intros)
          refine i_loop (α := Int × List Int × Nat × Nat) mixed (fun z => [(0, .val (.string s)), (4, nP 1 (z.2.1.map fun n => .val (.int .i64 n)) z.2.2.1), (8, iv b), (10, iv z.1), (14, .lst true 1 (ps.map fun s => .val (.string s))), (15, iv ps.length), (16, iv i)])
            (fun z => nO 3 1 (z.2.1.map fun n => .val (.int .i64 n)) z.2.2.1) (fun z => z.2.2.2)
            (fun z => a ≤ z.1 ∧ (z.1 ≤ b + 1 ∨ z.1 = a) ∧ z.2.1 = [] ++ rangeL a (z.1 - 1) ∧ z.2.1.length ≤ 1100 ∧ (0 < z.2.1.length → z.2.2.1 < z.2.2.2)) (fun z => (b + 1 - z.1).toNat) (by kernel_rfl) (a, [], x, y) ⟨Int.le_refl _, .inr rfl, by dsimp only; rw [rangeL_nil (by omega), List.append_nil], by dsimp only [List.length_nil]; omega, fun h => by first | (simp at h; done) | exact hxy⟩ ?_ ?_ rfl ?_
          · exact agr
          · exact agr
          rintro ⟨n, o2, x2, y2⟩ ⟨n1, n2, ho2, ol2, hxy2⟩
          dsimp only at n1 n2 ho2 ol2 hxy2
          have hlen2 : o2.length ≤ 1050 := by
            rw [ho2, List.length_append, rangeL_len]
            simp only [List.length_nil]
            omega
          by_cases hnb : n ≤ b
          · have hst : o2 ++ [n] = [] ++ rangeL a (n + 1 - 1) := by
              rw [ho2, List.append_assoc, show n + 1 - 1 = (n - 1) + 1 by omega, rangeL_snoc (by omega), show n - 1 + 1 = n by omega]
            replace hst := Lib.hid hst
            clear ho2
            by_cases hz0 : o2.length = 0
            · obtain rfl : o2 = [] := List.eq_nil_of_length_eq_zero hz0
              clear hxy2
              simp only [List.map_nil, nP_nil, nO_nil]
              (refine wlk ?_; intros)
              refine ⟨(n + 1, [] ++ [n], y2 + 1, y2 + 2), ⟨by dsimp only; omega, .inl (by dsimp only; omega), hst.out, by simp, fun _ => by dsimp only; omega⟩, by dsimp only; omega, ?_, ?_, rfl⟩
              · exact agr
              · exact agr
            · have hxy2 := hxy2 (by omega)
              have hap2 : 0 < (o2.map fun n => PV.val (.int .i64 n)).length := by rw [List.length_map]; omega
              have hap3 : 0 < ((o2 ++ [n]).map fun n => PV.val (.int .i64 n)).length := by simp
              have hel := Lib.hid (show ((o2 ++ [n]).map fun n => PV.val (.int .i64 n)).length = o2.length + 1 by simp)
              have hes := Lib.hid (show ((o2 ++ [n]).map fun n => PV.val (.int .i64 n)) = (o2.map fun n => PV.val (.int .i64 n)) ++ [.val (.int .i64 n)] by rw [List.map_append]; rfl)
              simp only [nP_pos hap2, nO_pos hap2, List.length_map]
              (refine wlk ?_; intros)
              refine ⟨(n + 1, o2 ++ [n], y2 + 1, y2 + 2), ⟨by dsimp only; omega, .inl (by dsimp only; omega), hst.out, by rw [List.length_append, List.length_singleton]; omega, fun _ => by dsimp only; omega⟩, by dsimp only; omega, ?_, ?_, rfl⟩
              · simp (disch := (first | omega | (simp only [push_cast]; first | done | omega))) only [push_cast, ↓reduceIte, Nat.reduceEqDiff, Nat.reduceBEq, Nat.reduceAdd, Nat.reduceSub, Int.reduceToNat, nP_pos hap3, hel.out, *]
              · dsimp only
                rw [nO_pos hap3, hes.out]
                clear hI hrg ap2 hpi hil
                simp (disch := (first | omega | (simp only [push_cast]; first | done | omega))) only [push_cast, ↓reduceIte, Nat.reduceEqDiff, Nat.reduceBEq, Nat.reduceAdd, Nat.reduceSub, Int.reduceToNat, *]
          · have hend : rdI (ps.drop (i + 1)) o2 = T9 := by
              have h := hI.out
              rw [ho2]
              by_cases hab : a ≤ b
              · rw [show n - 1 = b by omega]
                exact h
              · rw [rangeL_nil (show n - 1 < a by omega)]
                rw [rangeL_nil (show b < a by omega)] at h
                exact h
            clear ho2
            by_cases hz0 : o2.length = 0
            · obtain rfl : o2 = [] := List.eq_nil_of_length_eq_zero hz0
              simp only [List.map_nil, nP_nil, nO_nil]
              (refine wlk ?_; intros)
              refine ⟨(i + 1, [], x2, y2), ⟨by dsimp only; omega, hend, by simp, fun h => by simp at h⟩, by dsimp only; omega, ?_, ?_, rfl⟩
              · exact agr
              · exact agr
            · have hxy2 := hxy2 (by omega)
              have hap2 : 0 < (o2.map fun n => PV.val (.int .i64 n)).length := by rw [List.length_map]; omega
              replace hend := Lib.hid hend
              simp only [nP_pos hap2, nO_pos hap2, List.length_map]
              (refine wlk ?_; intros)
              refine ⟨(i + 1, o2, x2, y2), ⟨by dsimp only; omega, hend.out, ol2, fun _ => hxy2⟩, by dsimp only; omega, ?_, ?_, rfl⟩
              · simp (disch := (first | omega | (simp only [push_cast]; first | done | omega))) only [push_cast, ↓reduceIte, Nat.reduceEqDiff, Nat.reduceBEq, Nat.reduceAdd, Nat.reduceSub, Int.reduceToNat, nP_pos hap2, List.length_map, *]
              · simp (disch := (first | omega | (simp only [push_cast]; first | done | omega))) only [push_cast, ↓reduceIte, Nat.reduceEqDiff, Nat.reduceBEq, Nat.reduceAdd, Nat.reduceSub, Int.reduceToNat, nO_pos hap2, *]
        · have hxy := hxy (by omega)
          have hap : 0 < (out.map fun n => PV.val (.int .i64 n)).length := by rw [List.length_map]; omega
          simp only [nP_pos hap, nO_pos hap, List.length_map]
          (refine wlk ?_; intros)
          refine i_loop (α := Int × List Int × Nat × Nat) mixed (fun z => [(0, .val (.string s)), (4, nP 1 (z.2.1.map fun n => .val (.int .i64 n)) z.2.2.1), (8, iv b), (10, iv z.1), (14, .lst true 1 (ps.map fun s => .val (.string s))), (15, iv ps.length), (16, iv i)])
            (fun z => nO 3 1 (z.2.1.map fun n => .val (.int .i64 n)) z.2.2.1) (fun z => z.2.2.2)
            (fun z => a ≤ z.1 ∧ (z.1 ≤ b + 1 ∨ z.1 = a) ∧ z.2.1 = out ++ rangeL a (z.1 - 1) ∧ z.2.1.length ≤ 1100 ∧ (0 < z.2.1.length → z.2.2.1 < z.2.2.2)) (fun z => (b + 1 - z.1).toNat) (by kernel_rfl) (a, out, x, y) ⟨Int.le_refl _, .inr rfl, by dsimp only; rw [rangeL_nil (by omega), List.append_nil], by dsimp only [List.length_nil]; omega, fun h => by first | (simp at h; done) | exact hxy⟩ ?_ ?_ rfl ?_
          · simp (disch := (first | omega | (simp only [push_cast]; first | done | omega))) only [push_cast, ↓reduceIte, Nat.reduceEqDiff, Nat.reduceBEq, Nat.reduceAdd, Nat.reduceSub, Int.reduceToNat, nP_pos hap, List.length_map, *]
          · simp (disch := (first | omega | (simp only [push_cast]; first | done | omega))) only [push_cast, ↓reduceIte, Nat.reduceEqDiff, Nat.reduceBEq, Nat.reduceAdd, Nat.reduceSub, Int.reduceToNat, nO_pos hap, *]
          rintro ⟨n, o2, x2, y2⟩ ⟨n1, n2, ho2, ol2, hxy2⟩
          dsimp only at n1 n2 ho2 ol2 hxy2
          have hlen2 : o2.length ≤ 1050 := by
            rw [ho2, List.length_append, rangeL_len]
            omega
          by_cases hnb : n ≤ b
          · have hst : o2 ++ [n] = out ++ rangeL a (n + 1 - 1) := by
              rw [ho2, List.append_assoc, show n + 1 - 1 = (n - 1) + 1 by omega, rangeL_snoc (by omega), show n - 1 + 1 = n by omega]
            replace hst := Lib.hid hst
            clear ho2
            by_cases hz0 : o2.length = 0
            · obtain rfl : o2 = [] := List.eq_nil_of_length_eq_zero hz0
              clear hxy2
              simp only [List.map_nil, nP_nil, nO_nil]
              (refine wlk ?_; intros)
              refine ⟨(n + 1, [] ++ [n], y2 + 1, y2 + 2), ⟨by dsimp only; omega, .inl (by dsimp only; omega), hst.out, by simp, fun _ => by dsimp only; omega⟩, by dsimp only; omega, ?_, ?_, rfl⟩
              · exact agr
              · exact agr
            · have hxy2 := hxy2 (by omega)
              have hap2 : 0 < (o2.map fun n => PV.val (.int .i64 n)).length := by rw [List.length_map]; omega
              have hap3 : 0 < ((o2 ++ [n]).map fun n => PV.val (.int .i64 n)).length := by simp
              have hel := Lib.hid (show ((o2 ++ [n]).map fun n => PV.val (.int .i64 n)).length = o2.length + 1 by simp)
              have hes := Lib.hid (show ((o2 ++ [n]).map fun n => PV.val (.int .i64 n)) = (o2.map fun n => PV.val (.int .i64 n)) ++ [.val (.int .i64 n)] by rw [List.map_append]; rfl)
              simp only [nP_pos hap2, nO_pos hap2, List.length_map]
              (refine wlk ?_; intros)
              refine ⟨(n + 1, o2 ++ [n], y2 + 1, y2 + 2), ⟨by dsimp only; omega, .inl (by dsimp only; omega), hst.out, by rw [List.length_append, List.length_singleton]; omega, fun _ => by dsimp only; omega⟩, by dsimp only; omega, ?_, ?_, rfl⟩
              · simp (disch := (first | omega | (simp only [push_cast]; first | done | omega))) only [push_cast, ↓reduceIte, Nat.reduceEqDiff, Nat.reduceBEq, Nat.reduceAdd, Nat.reduceSub, Int.reduceToNat, nP_pos hap3, hel.out, *]
              · dsimp only
                rw [nO_pos hap3, hes.out]
                clear hI hrg ap2 hpi hil
                simp (disch := (first | omega | (simp only [push_cast]; first | done | omega))) only [push_cast, ↓reduceIte, Nat.reduceEqDiff, Nat.reduceBEq, Nat.reduceAdd, Nat.reduceSub, Int.reduceToNat, *]
          · have hend : rdI (ps.drop (i + 1)) o2 = T9 := by
              have h := hI.out
              rw [ho2]
              by_cases hab : a ≤ b
              · rw [show n - 1 = b by omega]
                exact h
              · rw [rangeL_nil (show n - 1 < a by omega)]
                rw [rangeL_nil (show b < a by omega)] at h
                exact h
            clear ho2
            by_cases hz0 : o2.length = 0
            · obtain rfl : o2 = [] := List.eq_nil_of_length_eq_zero hz0
              simp only [List.map_nil, nP_nil, nO_nil]
              (refine wlk ?_; intros)
              refine ⟨(i + 1, [], x2, y2), ⟨by dsimp only; omega, hend, by simp, fun h => by simp at h⟩, by dsimp only; omega, ?_, ?_, rfl⟩
              · exact agr
              · exact agr
            · have hxy2 := hxy2 (by omega)
              have hap2 : 0 < (o2.map fun n => PV.val (.int .i64 n)).length := by rw [List.length_map]; omega
              replace hend := Lib.hid hend
              simp only [nP_pos hap2, nO_pos hap2, List.length_map]
              (refine wlk ?_; intros)
              refine ⟨(i + 1, o2, x2, y2), ⟨by dsimp only; omega, hend.out, ol2, fun _ => hxy2⟩, by dsimp only; omega, ?_, ?_, rfl⟩
              · simp (disch := (first | omega | (simp only [push_cast]; first | done | omega))) only [push_cast, ↓reduceIte, Nat.reduceEqDiff, Nat.reduceBEq, Nat.reduceAdd, Nat.reduceSub, Int.reduceToNat, nP_pos hap2, List.length_map, *]
              · simp (disch := (first | omega | (simp only [push_cast]; first | done | omega))) only [push_cast, ↓reduceIte, Nat.reduceEqDiff, Nat.reduceBEq, Nat.reduceAdd, Nat.reduceSub, Int.reduceToNat, nO_pos hap2, *]
  · obtain rfl : i = ps.length := by omega
    rw [List.drop_length] at hI
    have hI2 : T9 = some out := hI.symm
    have hro := hyes.out out hI2
    clear hI hpz
    by_cases hl0 : out.length = 0
    · obtain rfl : out = [] := List.eq_nil_of_length_eq_zero hl0
      have hne : ¬ pagesT [] = s := fun e => hs0 (by rw [← e, pagesT_nil])
      have hz2 : ((PV.tup [.val (.slice none 0 0), .val (.bool false)], []) : PV × List CellIO) = (r, cs') := by
        have h := hz.out
        unfold rdZ at h
        rw [hro, if_neg (fun q => hne q.2)] at h
        exact h
      cases hz2
      have ap5 := φPvN_nil
      have ap6 := φPtN_nil
      have hs9 : ¬ (⟨#[]⟩ : ByteArray) = s := fun e => hs0 e.symm
      clear hro hI2 hne
      (refine wlk ?_; intros)
      all_goals ((with_reducible apply i_endN0 (by first | exact .inl rfl | exact .inr rfl)); (simp (disch := (first | omega | (simp only [push_cast]; first | done | omega))) only [push_cast, ↓reduceIte, Nat.reduceEqDiff, Nat.reduceBEq, Nat.reduceAdd, Nat.reduceSub, Int.reduceToNat, *] <;> with_reducible exact rfl))
    · have hxy := hxy (by omega)
      have hap : 0 < (out.map fun n => PV.val (.int .i64 n)).length := by rw [List.length_map]; omega
      have ap5 := φPvN_ap (l := out) (by omega)
      have ap6 := φPtN_ap (l := out) (by omega)
      simp only [nP_pos hap, nO_pos hap, List.length_map]
      by_cases hc : pagesB out = true ∧ pagesT out = s
      · obtain ⟨hc1, hc2⟩ := hc
        have hz2 : ((PV.tup [.row 0 1 0 out.length, .val (.bool true)], [(3, 1, out.map fun n => PV.val (.int .i64 n))]) : PV × List CellIO) = (r, cs') := by
          have h := hz.out
          unfold rdZ at h
          rw [hro, if_pos ⟨hc1, hc2⟩] at h
          dsimp only at h
          rw [nP_pos hap, nC_pos hap, List.length_map] at h
          exact h
        cases hz2
        rw [hc1] at ap5
        rw [hc2] at ap6
        clear hro hI2 hc1 hc2
        (refine wlk ?_; intros)
        all_goals ((with_reducible apply i_endN1 (x) (by first | exact .inl rfl | exact .inr rfl)); (focus (simp (disch := (first | omega | (simp only [push_cast]; first | done | omega))) only [push_cast, ↓reduceIte, Nat.reduceEqDiff, Nat.reduceBEq, Nat.reduceAdd, Nat.reduceSub, Int.reduceToNat, *] <;> with_reducible exact rfl)); (focus (simp (disch := (first | omega | (simp only [push_cast]; first | done | omega))) only [push_cast, ↓reduceIte, Nat.reduceEqDiff, Nat.reduceBEq, Nat.reduceAdd, Nat.reduceSub, Int.reduceToNat, *] <;> with_reducible exact rfl)))
      · have hz2 : ((PV.tup [.val (.slice none 0 0), .val (.bool false)], []) : PV × List CellIO) = (r, cs') := by
          have h := hz.out
          unfold rdZ at h
          rw [hro, if_neg hc] at h
          exact h
        cases hz2
        clear hro hI2
        cases hb : pagesB out with
        | false =>
          rw [hb] at ap5
          clear hc hb
          (refine wlk ?_; intros)
          all_goals ((with_reducible apply i_endN0 (by first | exact .inl rfl | exact .inr rfl)); (simp (disch := (first | omega | (simp only [push_cast]; first | done | omega))) only [push_cast, ↓reduceIte, Nat.reduceEqDiff, Nat.reduceBEq, Nat.reduceAdd, Nat.reduceSub, Int.reduceToNat, *] <;> with_reducible exact rfl))
        | true =>
          have hc2 : ¬ pagesT out = s := fun e => hc ⟨hb, e⟩
          rw [hb] at ap5
          clear hc hb
          generalize pagesT out = t9 at *
          (refine wlk ?_; intros)
          all_goals ((with_reducible apply i_endN0 (by first | exact .inl rfl | exact .inr rfl)); (simp (disch := (first | omega | (simp only [push_cast]; first | done | omega))) only [push_cast, ↓reduceIte, Nat.reduceEqDiff, Nat.reduceBEq, Nat.reduceAdd, Nat.reduceSub, Int.reduceToNat, *] <;> with_reducible exact rfl))
end Go.Proofs.YtpggpdbipajchaaGreatDoor
namespace Go.Proofs.YtpggpdbipajchaaGreatDoor
open Go.RowKit
set_option linter.all false
def LineX (L : ByteArray) (n : Nat) (P : List Int) : Prop := n < L.size ∧ at8 L n = 32 ∧ (∀ j, j < n → ¬ at8 L j = 32) ∧ readR (L.extract (n + 1) L.size) = some P ∧ 0 < P.length ∧ L.size ≤ 360
theorem indexR_lines {l : List W2} {k : Nat} (hk : k < (indexR l).length) : ∃ n P, LineX ((indexR l)[k]?.getD .empty) n P := by
  by_cases h : indexB l = true
  · have he : indexR l = (wordsU l).map (lineU l) := by
      unfold indexR
      rw [if_pos h]
      rfl
    rw [he, List.length_map] at hk
    rw [he, List.getElem?_map, List.getElem?_eq_getElem hk]
    have hw := List.getElem_mem hk
    generalize (wordsU l)[k] = w at hw
    obtain ⟨h1, h2, h3, h4, h5, h6⟩ := line_space h hw
    exact ⟨w.size, pagesU l w, h1, h2, h3, by rw [← h5]; exact congrArg readR h4, h6, lineU_size h hw⟩
  · have he : indexR l = [] := by
      unfold indexR
      rw [if_neg h]
    rw [he] at hk
    simp at hk
theorem ext_size {L : ByteArray} {n : Nat} (h : L.size ≤ 360) : (L.extract (n + 1) L.size).size ≤ 1048576 := by
  rw [ByteArray.size_extract]
  omega
noncomputable def φRdz : Fun := pureN ΨRdp
theorem φRdz_pos {s : ByteArray} {P : List Int} (h : s.size ≤ 1048576) (hR : readR s = some P) (h0 : 0 < P.length) : φRdz [.val (.string s)] = some (.tup [.lst true 1 (P.map fun n => .val (.int .i64 n)), .val (.bool true)]) := by
  have hp : 0 < (P.map fun n => PV.val (.int .i64 n)).length := by simpa using h0
  refine pureN_of (r := .tup [.row 0 1 0 P.length, .val (.bool true)]) (cs0 := [(3, 1, P.map fun n => .val (.int .i64 n))]) (((G1_ap (A := dS) s).trans (if_pos h)).trans (by unfold rdZ; rw [hR]; dsimp only; rw [nP_pos hp, nC_pos hp, List.length_map])) ?_
  rw [ls_one]
  (simp (disch := (first | omega | (simp only [push_cast]; first | done | omega))) only [push_cast, ↓reduceIte, Nat.reduceEqDiff, Nat.reduceBEq, Nat.reduceAdd, Nat.reduceSub, Int.reduceToNat, *] <;> with_reducible exact rfl)
noncomputable def φLawIp : Fun := F1 dUs fun code => if okL okB8 code then some (bv true) else none
noncomputable def GLip : Ctx := { fn := fun f => if f = 4 then some φdrawIxOf else if f = 5 then some φIxI else if f = 7 then some φIx else if f = 6 then some φSmti else if f = 9 then some φTrue else if f = 8 then some φRdz else none, io := fun f => none }
theorem GLip_ok : SoundΓ Tryz.prog GLip := ⟨(fun f φ h => by
  unfold GLip at h
  dsimp only at h
  split at h
  · rename_i hf; cases h; subst hf; exact ⟨⟨_, Tryz.func4, rfl, rfl⟩, drawIxOf_ok⟩
  split at h
  · rename_i hf; cases h; subst hf; exact ⟨⟨_, Tryz.func5, rfl, rfl⟩, implIx_ok⟩
  split at h
  · rename_i hf; cases h; subst hf; exact ⟨⟨_, Tryz.func7, rfl, rfl⟩, specIx_ok⟩
  split at h
  · rename_i hf; cases h; subst hf; exact ⟨⟨_, Tryz.func6, rfl, rfl⟩, (smt_ok.nil 1)⟩
  split at h
  · rename_i hf; cases h; subst hf; exact ⟨⟨_, Tryz.func9, rfl, rfl⟩, alive_ok⟩
  split at h
  · rename_i hf; cases h; subst hf; exact ⟨⟨_, Tryz.func8, rfl, rfl⟩, implRdN.pure⟩
  cases h), (fun f φ h => by
  unfold GLip at h
  dsimp only at h
  cases h), rfl⟩
theorem GLip_4 (ob : Objs) (ps : List PV) : evCall GLip ob 4 ps = (ps.mapM (reify false 0 ob fuel)).bind φdrawIxOf := by
  have h : GLip.fn 4 = some φdrawIxOf := by simp [GLip]
  unfold evCall
  rw [h]
  cases ps.mapM (reify false 0 ob fuel) <;> rfl
theorem GLip_5 (ob : Objs) (ps : List PV) : evCall GLip ob 5 ps = (ps.mapM (reify false 0 ob fuel)).bind φIxI := by
  have h : GLip.fn 5 = some φIxI := by simp [GLip]
  unfold evCall
  rw [h]
  cases ps.mapM (reify false 0 ob fuel) <;> rfl
theorem GLip_7 (ob : Objs) (ps : List PV) : evCall GLip ob 7 ps = (ps.mapM (reify false 0 ob fuel)).bind φIx := by
  have h : GLip.fn 7 = some φIx := by simp [GLip]
  unfold evCall
  rw [h]
  cases ps.mapM (reify false 0 ob fuel) <;> rfl
theorem GLip_6 (ob : Objs) (ps : List PV) : evCall GLip ob 6 ps = (ps.mapM (reify false 0 ob fuel)).bind φSmti := by
  have h : GLip.fn 6 = some φSmti := by simp [GLip]
  unfold evCall
  rw [h]
  cases ps.mapM (reify false 0 ob fuel) <;> rfl
theorem GLip_9 (ob : Objs) (ps : List PV) : evCall GLip ob 9 ps = (ps.mapM (reify false 0 ob fuel)).bind φTrue := by
  have h : GLip.fn 9 = some φTrue := by simp [GLip]
  unfold evCall
  rw [h]
  cases ps.mapM (reify false 0 ob fuel) <;> rfl
theorem GLip_8 (ob : Objs) (ps : List PV) : evCall GLip ob 8 ps = (ps.mapM (reify false 0 ob fuel)).bind φRdz := by
  have h : GLip.fn 8 = some φRdz := by simp [GLip]
  unfold evCall
  rw [h]
  cases ps.mapM (reify false 0 ob fuel) <;> rfl
set_option maxHeartbeats 16000000 in
theorem lawIp_ok : Sound Tryz.prog 3 φLawIp := by
  refine sound_pq mixed GLip_ok Tryz.func3 rfl 71 rfl [.tmp 2] rfl (by kernel_rfl) fun ps r hr => ?_
  obtain ⟨code, rfl, hq⟩ := F1_some hr
  clear hr
  split at hq
  case isFalse => cases hq
  case isTrue hpre =>
  cases hq
  refine ⟨by simp, ?_⟩
  simp only [dIs, dUs, dSs, dI_e, dU_e, dB_e, dS_e, dFn_e, dL_e, dA2_e, dA3_e, dA4_e, dA5_e]
  have hbyte := bytes_ok hpre
  by_cases hlen : code.length ≤ 1048576
  · obtain ⟨l, e, hl, hs⟩ := drawIxOf_drw code hbyte hlen
    have apt := φTrue_ap
    have hw := okW_ofx (l := l) (by omega) hs
    have ap2 := φIx_ap hw
    have hle := indexR_le l
    by_cases h0 : (indexR l).length = 0
    · have ap1 := φIxI_no hw h0
      have ap4 := φSmti_nil
      rw [List.eq_nil_of_length_eq_zero h0, List.map_nil] at ap2
      clear hpre hbyte hs hw h0 hle
      have glip_c4 := GLip_4; have glip_c5 := GLip_5; have glip_c7 := GLip_7; have glip_c6 := GLip_6; have glip_c9 := GLip_9; have glip_c8 := GLip_8
      (refine wlk ?_; intros)
      refine i_loop (α := Unit) mixed (fun _ => [(4, .val (.slice none 0 0)), (5, iv 0)]) (fun _ => []) (fun _ => 0) (fun _ => True) (fun _ => 0) (by kernel_rfl) () trivial ?_ trivial rfl ?_
      · exact agr
      rintro _ _
      exact wlkS
    · have ap1 := φIxI_yes hw (by omega)
      have ap4 := φSmti_ap (a := indexR l) (b := indexR l) (by omega) (by omega)
      have hln := fun k h => indexR_lines (l := l) (k := k) h
      have hlt : (indexR l).length ≤ 1048576 := by omega
      clear hpre hbyte hs hw
      have glip_c4 := GLip_4; have glip_c5 := GLip_5; have glip_c7 := GLip_7; have glip_c6 := GLip_6; have glip_c9 := GLip_9; have glip_c8 := GLip_8
      (refine wlk ?_; intros)
      generalize indexR l = I at *
      replace hln := Lib.hid hln
      refine i_loop (α := Nat) mixed (fun k => [(4, .lst true 1 (I.map fun s => .val (.string s))), (5, iv k)]) (fun _ => []) (fun _ => 0) (fun k => k ≤ I.length) (fun k => I.length - k) (by kernel_rfl) 0 (by omega) ?_ trivial rfl ?_
      · exact agr
      rintro k hk
      by_cases hkl : k < I.length
      · obtain ⟨n, P, hL⟩ := hln.out k hkl
        obtain ⟨h1, h2, h3, h4, h5, h6⟩ := hL
        have ap3 := φRdz_pos (ext_size h6) h4 h5
        clear ap1 ap2 ap4 e
        replace h2 := Lib.hid h2
        replace h3 := Lib.hid h3
        replace ap3 := Lib.hid ap3
        (refine wlk ?_; intros)
        refine i_loop (α := Nat) mixed (fun j => [(4, .lst true 1 (I.map fun s => .val (.string s))), (5, iv k), (6, iv j)]) (fun _ => []) (fun _ => 0) (fun j => j ≤ n) (fun j => n - j) (by kernel_rfl) 0 (by omega) ?_ trivial rfl ?_
        · exact agr
        rintro j hj
        by_cases hjn : j < n
        · have h7 : j < (I[k]?.getD .empty).size := by omega
          have h8 := h3.out j hjn
          (refine wlk ?_; intros)
          refine ⟨j + 1, by omega, by dsimp only; omega, ?_, trivial, rfl⟩
          exact agr
        · obtain rfl : j = n := by omega
          have h8 := h2.out
          have ap3 := ap3.out
          (refine wlk ?_; intros)
          refine ⟨k + 1, by omega, by dsimp only; omega, ?_, trivial, rfl⟩
          exact agr
      · clear ap1 ap2 ap4 e
        exact wlkS
  · have glip_c4 := GLip_4; have glip_c5 := GLip_5; have glip_c7 := GLip_7; have glip_c6 := GLip_6; have glip_c9 := GLip_9; have glip_c8 := GLip_8
    exact wlkS
end Go.Proofs.YtpggpdbipajchaaGreatDoor
namespace Go.Proofs.YtpggpdbipajchaaGreatDoor
open Go.ChangeShapes Go.WideShapes Go.ChangeAt Go.RowKit
open Go.ChangeMaps (open_string shut_string)
set_option linter.all false
theorem own : ownKnob Tryz.prog.godebug = none := by kernel_rfl
theorem laidOut : laidOutB Tryz.prog = true := by kernel_rfl
theorem wf_u8 {x : Int} (h : (Lit.int .u8 x).wf = true) : 0 ≤ x ∧ x ≤ 255 := by
  simpa [Lit.wf, IntKind.min, IntKind.max, IntKind.signed, IntKind.bits] using h
theorem addr_add (b off i : Nat) : (⟨b, off, none⟩ : Addr).add i = ⟨b, off + i, none⟩ := by
  unfold Addr.add
  by_cases h : i = 0 <;> simp [h]
theorem cell_lt {w : World} {a : Addr} {v : Value} (h : w.cell? a = some v) : a.block < w.heap.size := by
  unfold World.cell? at h
  by_cases hb : a.block < w.heap.size
  · exact hb
  · rw [Array.getElem?_eq_none (by omega)] at h
    cases a.spot <;> simp at h
theorem tab_of {P : Program} {W : World} {name : String} {k : IntKind} {zs : List Int} {g : Nat} (hg : P.globalNamed name = some g) (h : Lib.TabIs P W name k zs) : ∃ T k', W.heap[g]? = some (.cells ((zs.map fun z => Value.int k z).toArray) T k') := by
  unfold Lib.TabIs World.var? at h
  rw [hg, Option.bind_some] at h
  split at h
  · rename_i cs T k' hc
    cases h
    exact ⟨_, _, hc⟩
  · cases h
theorem laid_tail {P : Program} {x : String × DataW Unit} {r : List (String × DataW Unit)} {w : World} (h : laidMet P (x :: r) w) : laidMet P r w := by
  obtain ⟨ps, hv, hnd, hc⟩ := h
  obtain ⟨g, t, cs, fuel, p, q, h1, h2, h3, h4, h5, rfl⟩ := hv
  exact ⟨q, h5, (List.nodup_append.1 hnd).2.1, fun b off hm => hc b off (List.mem_append_right _ hm)⟩
abbrev gW (W : World) : Gh := argG fun b => b < W.heap.size
section
variable {H : Type} {enc : TypeId × Value → H} {P : Program} {W : World} {base : Nat} {α β γ δ ε : Type}
def OpC (enc : TypeId × Value → H) (P : Program) (W : World) (base : Nat) (t : TypeId) (A : Dec α) (ok : α → Prop) : Prop :=
  ∀ fuel cs x, DataW.trod enc P W base (fun _ => true) true fuel t cs = some x → ∃ a v, ok a ∧ Rep (gW W) W (A.e a) v ∧ v.cells.toList = cs ∧ v.cells.all (·.oneCell') = true
theorem opU {t : TypeId} (ht : P.underlying t = some (.int .u8)) : OpC enc P W base t dU okB8 := fun fuel cs x h => by
  obtain ⟨n, rfl, _, hw⟩ := DataW.trod_int ht h
  exact ⟨n, .int .u8 n, wf_u8 hw, rfl, rfl, by simp [Value.cells, Value.oneCell']⟩
theorem list_of {n : Nat} {p : Nat → α → Prop} (h : ∀ i, i < n → ∃ x, p i x) : ∃ l : List α, l.length = n ∧ ∀ i a, l[i]? = some a → p i a := by
  induction n with
  | zero => exact ⟨[], rfl, fun i a h => by simp at h⟩
  | succ n ih =>
    obtain ⟨l, hl, hp⟩ := ih fun i hi => h i (by omega)
    obtain ⟨x, hx⟩ := h n (by omega)
    refine ⟨l ++ [x], by simp [hl], fun i a hi => ?_⟩
    rw [List.getElem?_append] at hi
    split at hi
    · exact hp i a hi
    · rename_i hlt
      have : i - l.length = 0 := by
        by_cases h0 : i - l.length = 0
        · exact h0
        · rw [List.getElem?_eq_none (by simp; omega)] at hi
          cases hi
      rw [this] at hi
      simp at hi
      subst hi
      have : i = n := by omega
      subst this
      exact hx
theorem opL {t e : TypeId} {A : Dec α} {ok : α → Prop} (sz : Nat) (ht : P.underlying t = some (.slice e)) (hs : P.cellsOf e = sz) (h0 : 0 < sz) (hA : OpC enc P W base e A ok) : OpC enc P W base t (dL sz A) (okL ok) := fun fuel cs x h => by
  rcases Go.Deep.open_slice ht h with ⟨rfl, _⟩ | ⟨x, len, cap, m, n, D, Pl, rfl, hb, hl, hm, hmm, _, hx⟩
  · exact ⟨[], .slice none 0 0, ⟨by simp, by simp⟩, ⟨none, 0, rfl, by simp, by simp, .inl rfl⟩, rfl, by simp [Value.cells, Value.oneCell']⟩
  have hm2 : m = cap := by simpa using hmm
  have hcap : cap ≤ 9223372036854775807 := hm
  obtain ⟨l, hlen, hp⟩ := list_of (n := len) (p := fun i a => ok a ∧ ∃ v, Rep (gW W) W (A.e a) v ∧ v.cells.size = sz ∧ v.cells.all (·.oneCell') = true ∧ ∀ j, j < sz → W.cell? ((x.add (i * sz)).add j) = v.cells[j]?) (fun i hi => by
    obtain ⟨cs', h1, h2⟩ := hx i (by omega)
    obtain ⟨a, v, h3, h4, h5, h6⟩ := hA _ _ _ h2
    obtain ⟨_, h7, h8⟩ := World.cells?_some h1
    rw [hs] at h7 h8
    refine ⟨a, h3, v, h4, ?_, h6, fun j hj => ?_⟩
    · rw [← h7, ← h5]; simp
    · rw [h8 j hj, ← h5]; simp)
  refine ⟨l, .slice (some x) len cap, ⟨by omega, fun a ha => ?_⟩, ?_, rfl, by simp [Value.cells, Value.oneCell']⟩
  · obtain ⟨i, hi, rfl⟩ := List.getElem_of_mem ha
    exact (hp i _ (by simp [hi])).1
  · refine ⟨some x, cap, by simp [hlen], by simp [hlen]; omega, hcap, ?_⟩
    by_cases hn : l = []
    · exact .inl (by simp [hn])
    right
    have hl0 : 0 < l.length := List.length_pos_iff.2 hn
    obtain ⟨_, v, h4, h5, h6, h7⟩ := hp 0 l[0] (by simp [hl0])
    have h8 := h7 0 h0
    have h9 : v.cells[0]? = some v.cells[0] := by simp
    rw [h9] at h8
    have hspot := World.cell?_spot h8
    have hlt := cell_lt h8
    obtain ⟨b, off, spot⟩ := x
    simp only [Nat.zero_mul, Addr.add, if_true] at hspot hlt
    subst hspot
    refine ⟨b, off, rfl, ⟨rfl, hlt⟩, RepEs.of fun i p hi => ?_⟩
    rw [List.getElem?_map, Option.map_eq_some_iff] at hi
    obtain ⟨a, ha, rfl⟩ := hi
    obtain ⟨_, v, h4, h5, h6, h7⟩ := hp i a ha
    refine ⟨v, h4, ⟨h6, fun j hj => ?_⟩, h5⟩
    have := h7 j (by omega)
    rwa [addr_add, addr_add] at this
theorem opF {t : TypeId} {A : Dec α} {ok : α → Prop} {n : Nat} {cs : List Value} {y : DataW H × List MemPlace} (hA : OpC enc P W base t A ok) (h1 : ∀ a, oneP (A.e a) = true)
    (h : DataW.trod enc P W base (fun _ => true) true n t cs = some y) : ∃ a v, ok a ∧ Rep (gW W) W (A.e a) v ∧ v.oneCell' = true ∧ cs = [v] := by
  obtain ⟨a, v, h3, h4, h5, h6⟩ := hA _ _ _ h
  have := oneP_rep h4 (h1 a)
  exact ⟨a, v, h3, h4, this, by rw [← h5, oneCell_cells this]⟩
theorem op1 {t : TypeId} {A : Dec α} {ok : α → Prop} {v : Value} {d : DataW H} {p : List MemPlace} (hA : OpC enc P W base t A ok) (h1 : ∀ a, oneP (A.e a) = true) (hv : v.cells = #[v])
    (h : DataW.Trod enc P W base (fun _ => true) true t v d p) : ∃ a, ok a ∧ Rep (gW W) W (A.e a) v := by
  obtain ⟨fuel, hf⟩ := h
  obtain ⟨a, u, h3, h4, h5, h6⟩ := opF hA h1 hf
  rw [hv] at h6
  have : v = u := by simpa using h6
  subst this
  exact ⟨a, h3, h4⟩
theorem walk_of {f : Nat} {φ : Fun} {ps : List PV} {args : Array Value} (h : Sound P f φ) (hT : TabF W fun _ => False) (ha : φ ps = some (bv true)) (hr : RepL (gW W) W ps args.toList) :
    Calls P f args W fun e w' => e = .returned (.bool true) ∧ Below W.heap.size W w' := by
  refine (h W (fun b => b < W.heap.size) ps args _ ha (fun b hb => hb) hT hr).mono ?_
  rintro e w' ⟨v, rfl, hb, hv⟩
  have := hv { I := fun _ _ => True, β := fun _ => 0, κ := fun _ => 0, nx := 0 } fun b _ _ => trivial
  have hv2 : v = .bool true := this
  subst hv2
  exact ⟨rfl, hb⟩
end
theorem err_of_head {P : Program} {W : World} {name nm : String} {d : DataW Unit} {rest : List (String × DataW Unit)} {g : Nat} {t : TypeId} {ms : Array (String × TypeId)}
    (hg : P.globalNamed name = some g) (hty : (P.globals[g]?).map (·.type) = some t) (hi : P.underlying t = some (.interface ms)) (h : laidMet P ((name, .iface nm d) :: rest) W) : ∃ u v, W.cell? ⟨g, 0, none⟩ = some (.iface u v) := by
  obtain ⟨ps, ⟨g', t', cs, fuel, p, q, hg', ht', hvar, hd, _, _⟩, _⟩ := h
  obtain rfl := Option.some.inj (hg.symm.trans hg')
  obtain rfl := Option.some.inj (hty.symm.trans ht')
  obtain ⟨_, u, v, hcs, _, _⟩ := iface_of_trod hi hd
  obtain rfl : cs = #[Value.iface u v] := Array.toList_inj.1 hcs
  have := World.var?_cell hg hvar 0
  exact ⟨u, v, by simpa using this⟩
theorem returns_and_shaped {H : Type} {enc : TypeId × Value → H} {a : Assume} {C : Checked} {os : Os} {f : FuncId} {fn : Func} {s : ChangeSpec} {conds : List PathCond} {apart fresh handsOn again : Bool} {X : World → Array Value → Prop}
    (hX : ∀ (w w' : World) (args : Array Value), w.heap = w'.heap → X w args → X w' args)
    (own : ownKnob C.prog.godebug = none) (started : os.Started) (noInit : C.prog.inits.idxOf? f = none) (hfn : C.prog.funcs[f]? = some fn)
    (witness : ∃ (w : World) (tape : Tape) (i : Input), w.os = os ∧ (w.forCall tape i).Shaped C.prog ∧ i.vars = [] ∧ Input.okWide C.prog (w.forCall tape i) .any w.heap.size f i ∧
      ((s.pre enc C.prog fn conds apart (w.forCall tape i).memory i.args ∧ X (w.forCall tape i).memory i.args) ∧ sizedMet enc C.prog fn (OpenSpec.ofChange s) apart (w.forCall tape i).memory i.args) ∧ a.holds C.prog (lone (Frame.enter C.prog f i.args .normal) [] (w.forCall tape i)))
    (contract : ∀ (W : World) (base : Nat) (args : Array Value) (ds gs : List (DataW H)) (before : List MemPlace),
      (∀ (j : Nat) t v, fn.params[j]? = some t → args[j]? = some v → Value.okWide C.prog W .any base t v) →
      DataW.Whole enc C.prog fn.params.toList s.vars apart W args.toList ds gs before →
      conds.all (PathCond.test C.prog ⟨fn.params.toList, ds, s.plain.varTypes C.prog, gs⟩) = true →
      (DataW.weightsEach C.prog (fn.params.toList ++ s.plain.varTypes C.prog) (ds ++ gs)).all (· ≤ reachBytes) = true → X W args → W.ShapedOpen C.prog →
      a.holds C.prog (lone (Frame.enter C.prog f args .normal) [] W) →
      Calls C.prog f args W fun e W' => ∃ v, e = .returned v ∧ s.post enc C.prog fn apart fresh handsOn again W args v W') :
    ReturnsInHanded a C os f .any (fun w args => (s.pre enc C.prog fn conds apart w args ∧ X w args) ∧ sizedMet enc C.prog fn (OpenSpec.ofChange s) apart w args) (s.post enc C.prog fn apart fresh handsOn again) := by
  refine returnsInHanded_of_calls own started noInit witness ?_
  intro w tape i _ hsh _ hok hpre hholds
  obtain ⟨_, _, _, fn', hfn', _, _, _, _, hval⟩ := hok
  have e : fn' = fn := Option.some.inj (hfn'.symm.trans hfn)
  subst e
  obtain ⟨⟨⟨ds, gs, before, hw, hc⟩, hx⟩, hz⟩ := hpre
  have hw' := DataW.Whole.of_heap (w' := w.forCall tape i) (by rfl) hw
  refine (contract (w.forCall tape i) w.heap.size i.args ds gs before hval hw' hc (hz.weights hw) (hX _ _ _ (by rfl) hx) hsh hholds).mono fun e W' ⟨v, he, hp⟩ => ?_
  subst he
  exact ChangeSpec.post_blind hp
end Go.Proofs.YtpggpdbipajchaaGreatDoor
