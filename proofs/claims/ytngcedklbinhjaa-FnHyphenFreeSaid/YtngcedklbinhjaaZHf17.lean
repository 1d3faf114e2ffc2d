/- What the proof rests on, part 17: contracts of functions. No condition beyond what each states. -/
import Derived.Test.YtngcedklbinhjaaZHf16
namespace Go.Proofs.Ytngcedklbinhjaa
open Go.RowKit
set_option linter.all false
section
variable {n sz f : Nat} {ob : Objs} {k fr : Bool} {l : List I4}
theorem reifyS_g4 : reify false n ob (f + 3) (.lst k sz (l.map pvG)) = some (.lst false sz (l.map pvG)) := reifyS_flat fun _ => rfl
theorem rowRe_g4 {m T : Nat} (hm : m = l.length) : rowRe fr (f + 2) ob sz 0 m (some (T, sz, l.map pvG)) = some (.lst fr sz (l.map pvG)) := rowRe_flat (fun _ => rfl) hm
end
attribute [push_cast]
  reifyS_g4 rowRe_g4
noncomputable def φTotN : Fun := nilF 4 φTot
theorem φTotN_ap {gs : List I4} (h : ∀ g ∈ gs, GOk g) (h2 : gs.length ≤ 61) : φTotN [.lst false 4 (gs.map pvG)] = some (pvG (totR gs)) := φTot_ap h h2
theorem φTotN_nil : φTotN [.val (.slice none 0 0)] = some (pvG (totR [])) := φTot_ap (gs := []) (by simp) (by simp)
def lgR (l : List It) (a en : Nat) : I4 := if lineQ l a en = true then totR (gluesL l a en) else (0, 0, 0, 0)
noncomputable def φLg : Fun := F3 dIts dI dI fun l n m => open Classical in if okLn l n m then some (.tup [pvG (lgR l (n + 1).toNat m.toNat), bv (lineQ l (n + 1).toNat m.toNat)]) else none
theorem φLg_ap {l : List It} {a en : Nat} (h : itemsB l = true) (h2 : a ≤ en) (h3 : en < l.length) : φLg [lsIt l, .val (.int .i64 ((a : Int) - 1)), .val (.int .i64 en)] = some (.tup [pvG (lgR l a en), .val (.bool (lineQ l a en))]) :=
  (F3_ap (A := dIts) (B := dI) (C := dI) l ((a : Int) - 1) en).trans ((if_pos ⟨h, by omega, by omega, by omega⟩).trans (by rw [show ((a : Int) - 1 + 1).toNat = a by omega, Int.toNat_natCast]))
theorem take_snocN {l : List Int} {k : Nat} (h : k < l.length) : l.take (k + 1) = l.take k ++ [l[k]?.getD 0] := by
  rw [List.take_succ_eq_append_getElem h, List.getElem?_eq_getElem h]
  rfl
noncomputable def GLg : Ctx := { fn := fun f => if f = 77 then some φLi else if f = 124 then some φTotN else none, io := fun f => none }
theorem GLg_ok : SoundΓ Try.prog GLg := ⟨(fun f φ h => by
  unfold GLg at h
  dsimp only at h
  split at h
  · rename_i hf; cases h; subst hf; exact ⟨⟨_, Try.func77, rfl, rfl⟩, implLi_ok⟩
  split at h
  · rename_i hf; cases h; subst hf; exact ⟨⟨_, Try.func124, rfl, rfl⟩, (implTot_ok.nil 4)⟩
  cases h), (fun f φ h => by
  unfold GLg at h
  dsimp only at h
  cases h), rfl⟩
theorem GLg_77 (ob : Objs) (ps : List PV) : evCall GLg ob 77 ps = (ps.mapM (reify false 0 ob fuel)).bind φLi := by
  have h : GLg.fn 77 = some φLi := by simp [GLg]
  unfold evCall
  rw [h]
  cases ps.mapM (reify false 0 ob fuel) <;> rfl
theorem GLg_124 (ob : Objs) (ps : List PV) : evCall GLg ob 124 ps = (ps.mapM (reify false 0 ob fuel)).bind φTotN := by
  have h : GLg.fn 124 = some φTotN := by simp [GLg]
  unfold evCall
  rw [h]
  cases ps.mapM (reify false 0 ob fuel) <;> rfl
set_option maxHeartbeats 16000000 in
theorem implLg_ok : Sound Try.prog 120 φLg := by
  refine sound_pq mixed GLg_ok Try.func120 rfl 54 rfl [.cell 6 57, .tmp 7] rfl (by kernel_rfl) fun ps r hr => ?_
  obtain ⟨l, n, m, rfl, hq⟩ := F3_some hr
  clear hr
  split at hq
  case isFalse => cases hq
  case isTrue hpre =>
  cases hq
  refine ⟨by simp, ?_⟩
  simp only [dIs, dUs, dSs, dI_e, dU_e, dB_e, dS_e, dFn_e, dL_e, dA2_e, dA3_e, dA4_e, dA5_e]
  obtain ⟨hB, hn0, hn1, hn2⟩ := hpre
  obtain ⟨a, rfl⟩ : ∃ a : Nat, n = (a : Int) - 1 := ⟨(n + 1).toNat, by omega⟩
  obtain ⟨en, rfl⟩ : ∃ en : Nat, m = en := ⟨m.toNat, by omega⟩
  have hl := items_len hB
  have hae : a ≤ en := by omega
  have hel : en < l.length := by omega
  show pq _ _ _ _ _ (initS [lsIt l, .val (.int .i64 ((a : Int) - 1)), .val (.int .i64 en)]).tm _ _
  rw [show ((a : Int) - 1 + 1).toNat = a by omega, Int.toNat_natCast]
  have ap := φLi_ap hB hae hel
  unfold lgR
  clear hn0 hn1 hn2
  cases hq : lineQ l a en with
  | false =>
    rw [hq, if_neg (by decide)] at ap
    rw [if_neg (by decide)]
    clear hq hB
    have glg_c77 := GLg_77; have glg_c124 := GLg_124
    exact wlkF
  | true =>
    rw [hq, if_pos rfl] at ap
    rw [if_pos rfl]
    have hst : startN l a ≤ en := (lineQ_iff.1 hq).2.2.2.1
    have hG : gluesL l a en = gls0 l (startN l a) en ++ (if (gI l en).kd = 3 then [(gI l en).gl] else []) := rfl
    have hgo := gls0_ok (b := startN l a) hB (show en ≤ l.length by omega)
    have hgl := gls0_len l (startN l a) en
    have hio := (items_at hB hel).gl
    have him := @idxL_mem l (startN l a) en
    have h0l : gls0 l (startN l a) en = (idxL l (startN l a) en).map fun n : Int => (gI l n.toNat).gl := rfl
    rw [hG]
    clear hG hq hB
    rw [h0l] at hgo hgl ⊢
    rw [List.length_map] at hgl
    generalize idxL l (startN l a) en = L at *
    clear h0l
    have hLl : L.length ≤ 60 := by omega
    have hLk : ∀ k, k < L.length → 0 ≤ L[k]?.getD 0 ∧ L[k]?.getD 0 < en := fun k hk => by
      rw [List.getElem?_eq_getElem hk, Option.getD_some]
      have := him _ (List.getElem_mem hk)
      omega
    clear him
    have glg_c77 := GLg_77; have glg_c124 := GLg_124
    (refine wlk ?_; intros)
    refine i_loop (α := Nat × Nat × Nat) mixed (fun z => [(0, lsIt l), (2, iv en), (6, .own 0 4 0 0), (10, nP 4 (((L.take z.1).map fun n : Int => (gI l n.toNat).gl).map pvG) z.2.1), (23, .lst true 1 (L.map pvN)), (24, iv L.length), (25, iv z.1)])
      (fun z => (0, 57, 4, [pvG g40]) :: nO 57 4 (((L.take z.1).map fun n : Int => (gI l n.toNat).gl).map pvG) z.2.1) (fun z => z.2.2)
      (fun z => z.1 ≤ L.length ∧ 0 < z.2.2 ∧ (0 < z.1 → 0 < z.2.1 ∧ z.2.1 < z.2.2)) (fun z => L.length - z.1) (by kernel_rfl) (0, 0, 1) ⟨Nat.zero_le _, by simp, by simp⟩ ?_ ?_ rfl ?_
    · simp (disch := (first | omega | (simp only [push_cast]; first | done | omega))) only [push_cast, ↓reduceIte, Nat.reduceEqDiff, Nat.reduceBEq, Nat.reduceAdd, Nat.reduceSub, Int.reduceToNat, List.take_zero, List.map_nil, *]
    · simp (disch := (first | omega | (simp only [push_cast]; first | done | omega))) only [push_cast, ↓reduceIte, Nat.reduceEqDiff, Nat.reduceBEq, Nat.reduceAdd, Nat.reduceSub, Int.reduceToNat, List.take_zero, List.map_nil, g40, *]
    rintro ⟨k, x, y⟩ ⟨hk, hy, hxy⟩
    dsimp only at hk hy hxy
    have hGl : ((L.take k).map fun n : Int => (gI l n.toNat).gl).length = k := by rw [List.length_map, List.length_take]; omega
    by_cases h0 : k < L.length
    · obtain ⟨q1, q2⟩ := hLk k h0
      have hn : (L.take (k + 1)).map (fun n : Int => (gI l n.toNat).gl) = (L.take k).map (fun n : Int => (gI l n.toNat).gl) ++ [(l[(L[k]?.getD 0).toNat]?.getD it0).gl] := by
        rw [take_snocN h0, List.map_append]
        rfl
      have hGb : k ≤ 60 := by omega
      clear hLk hgo hgl hio
      generalize hx9 : l[(L[k]?.getD 0).toNat]?.getD it0 = it at *
      obtain ⟨kd, w9, c, d, e, cost, g⟩ := it
      generalize hG9 : (L.take k).map (fun n : Int => (gI l n.toNat).gl) = G at *
      replace hn : (L.take (k + 1)).map (fun n : Int => (gI l n.toNat).gl) = G ++ [(w9, c, d, e)] := hn
      replace hn := Lib.hid hn
      by_cases hz : G.length = 0
      · obtain rfl : G = [] := List.eq_nil_of_length_eq_zero hz
        clear hGl hz hG9 hxy
        (refine wlk ?_; intros)
        refine ⟨(k + 1, y + 1, y + 2), ⟨by dsimp only; omega, by dsimp only; omega, fun _ => by dsimp only; omega⟩, by dsimp only; omega, ?_, ?_, rfl⟩
        · dsimp only
          rw [hn.out]
          exact agr
        · dsimp only
          rw [hn.out]
          exact agr
      · obtain ⟨hx0, hxy⟩ := hxy (by omega)
        have hap : 0 < (G.map pvG).length := by rw [List.length_map]; omega
        have hGc : G.length ≤ 60 := by omega
        clear hz hG9 hGl
        have hap3 : 0 < ((G ++ [(w9, c, d, e)]).map pvG).length := by simp
        simp only [nP_pos hap, nO_pos hap, List.length_map]
        (refine wlk ?_; intros)
        refine ⟨(k + 1, y + 1, y + 2), ⟨by dsimp only; omega, by dsimp only; omega, fun _ => by dsimp only; omega⟩, by dsimp only; omega, ?_, ?_, rfl⟩
        · dsimp only
          rw [hn.out]
          simp (disch := (first | omega | (simp only [push_cast]; first | done | omega))) only [push_cast, ↓reduceIte, Nat.reduceEqDiff, Nat.reduceBEq, Nat.reduceAdd, Nat.reduceSub, Int.reduceToNat, nP_pos hap3, List.length_append, *]
        · dsimp only
          rw [hn.out]
          simp (disch := (first | omega | (simp only [push_cast]; first | done | omega))) only [push_cast, ↓reduceIte, Nat.reduceEqDiff, Nat.reduceBEq, Nat.reduceAdd, Nat.reduceSub, Int.reduceToNat, nO_pos hap3, *]
    · obtain rfl : k = L.length := by omega
      rw [List.take_of_length_le (Nat.le_refl _)] at *
      have hkx : gI l en = l[en]?.getD it0 := rfl
      rw [hkx]
      clear hkx hLk
      have hGL : (L.map fun n : Int => (gI l n.toNat).gl).length = L.length := List.length_map _
      generalize hx9 : l[en]?.getD it0 = it at *
      obtain ⟨kd, w9, c, d, e, cost, g⟩ := it
      replace hio : GOk (w9, c, d, e) := hio
      generalize (L.map fun n : Int => (gI l n.toNat).gl) = G at *
      have apn := φTotN_nil
      have apt := φTotN_ap (gs := G) hgo (by omega)
      have apu := φTotN_ap (gs := G ++ [(w9, c, d, e)]) (fun z hz => by
        rcases List.mem_append.1 hz with hz | hz
        · exact hgo z hz
        · rw [List.mem_singleton.1 hz]; exact hio) (by rw [List.length_append, List.length_singleton]; omega)
      by_cases h3 : kd = 3
      · rw [if_pos (show It.kd (kd, w9, c, d, e, cost, g) = 3 from h3)]
        have hz9 : It.gl (kd, w9, c, d, e, cost, g) = (w9, c, d, e) := rfl
        rw [hz9]
        clear hz9 apn apt hgo hio
        subst h3
        by_cases hz : G.length = 0
        · obtain rfl : G = [] := List.eq_nil_of_length_eq_zero hz
          rw [List.nil_append] at *
          generalize totR [(w9, c, d, e)] = t at *
          obtain ⟨t1, t2, t3, t4⟩ := t
          clear hGl hGL hz hxy
          simp only [List.map_cons, List.map_nil] at apu
          exact wlkF
        · obtain ⟨hx0, hxy⟩ := hxy (by omega)
          have hap : 0 < (G.map pvG).length := by rw [List.length_map]; omega
          generalize totR (G ++ [(w9, c, d, e)]) = t at *
          obtain ⟨t1, t2, t3, t4⟩ := t
          have hGc : G.length ≤ 60 := by omega
          clear hz hGl hGL
          simp only [nP_pos hap, nO_pos hap, List.length_map]
          exact wlkF
      · rw [if_neg (show ¬ It.kd (kd, w9, c, d, e, cost, g) = 3 from h3), List.append_nil]
        clear apu hgo hio
        by_cases hz : G.length = 0
        · obtain rfl : G = [] := List.eq_nil_of_length_eq_zero hz
          generalize totR [] = t at *
          obtain ⟨t1, t2, t3, t4⟩ := t
          clear hGl hGL hz hxy apt
          exact wlkF
        · obtain ⟨hx0, hxy⟩ := hxy (by omega)
          have hap : 0 < (G.map pvG).length := by rw [List.length_map]; omega
          generalize totR G = t at *
          obtain ⟨t1, t2, t3, t4⟩ := t
          clear hz hGl hGL apn
          simp only [nP_pos hap, nO_pos hap, List.length_map]
          exact wlkF
noncomputable def φLb : Fun := F4 dIts dI dI dI fun l n m wd => open Classical in if okLn l n m ∧ 0 ≤ wd ∧ wd ≤ 1000 then some (.tup [iv (if lineQ l (n + 1).toNat m.toNat = true then (badL l wd (n + 1).toNat m.toNat).1 else -1), bv (lineQ l (n + 1).toNat m.toNat && (badL l wd (n + 1).toNat m.toNat).2)]) else none
theorem φLb_ap {l : List It} {a en : Nat} {wd : Int} (h : itemsB l = true) (h2 : a ≤ en) (h3 : en < l.length) (h4 : 0 ≤ wd ∧ wd ≤ 1000) : φLb [lsIt l, .val (.int .i64 ((a : Int) - 1)), .val (.int .i64 en), .val (.int .i64 wd)] = some (.tup [.val (.int .i64 (if lineQ l a en = true then (badL l wd a en).1 else -1)), .val (.bool (lineQ l a en && (badL l wd a en).2))]) :=
  (F4_ap (A := dIts) (B := dI) (C := dI) (D := dI) l ((a : Int) - 1) en wd).trans (by
    rw [show ((a : Int) - 1 + 1).toNat = a by omega, Int.toNat_natCast]
    exact if_pos ⟨⟨h, by omega, by omega, by omega⟩, h4⟩)
noncomputable def GLb : Ctx := { fn := fun f => if f = 120 then some φLg else if f = 57 then some φIn else if f = 121 then some φBadn else none, io := fun f => none }
theorem GLb_ok : SoundΓ Try.prog GLb := ⟨(fun f φ h => by
  unfold GLb at h
  dsimp only at h
  split at h
  · rename_i hf; cases h; subst hf; exact ⟨⟨_, Try.func120, rfl, rfl⟩, implLg_ok⟩
  split at h
  · rename_i hf; cases h; subst hf; exact ⟨⟨_, Try.func57, rfl, rfl⟩, in_ok⟩
  split at h
  · rename_i hf; cases h; subst hf; exact ⟨⟨_, Try.func121, rfl, rfl⟩, implBadn_ok⟩
  cases h), (fun f φ h => by
  unfold GLb at h
  dsimp only at h
  cases h), rfl⟩
theorem GLb_120 (ob : Objs) (ps : List PV) : evCall GLb ob 120 ps = (ps.mapM (reify false 0 ob fuel)).bind φLg := by
  have h : GLb.fn 120 = some φLg := by simp [GLb]
  unfold evCall
  rw [h]
  cases ps.mapM (reify false 0 ob fuel) <;> rfl
theorem GLb_57 (ob : Objs) (ps : List PV) : evCall GLb ob 57 ps = (ps.mapM (reify false 0 ob fuel)).bind φIn := by
  have h : GLb.fn 57 = some φIn := by simp [GLb]
  unfold evCall
  rw [h]
  cases ps.mapM (reify false 0 ob fuel) <;> rfl
theorem GLb_121 (ob : Objs) (ps : List PV) : evCall GLb ob 121 ps = (ps.mapM (reify false 0 ob fuel)).bind φBadn := by
  have h : GLb.fn 121 = some φBadn := by simp [GLb]
  unfold evCall
  rw [h]
  cases ps.mapM (reify false 0 ob fuel) <;> rfl
set_option maxHeartbeats 8000000 in
theorem implLb_ok : Sound Try.prog 113 φLb := by
  refine sound_pq mixed GLb_ok Try.func113 rfl 63 rfl [.tmp 8, .tmp 9] rfl (by kernel_rfl) fun ps r hr => ?_
  obtain ⟨l, n, m, wd, rfl, hq⟩ := F4_some hr
  clear hr
  split at hq
  case isFalse => cases hq
  case isTrue hpre =>
  cases hq
  refine ⟨by simp, ?_⟩
  simp only [dIs, dUs, dSs, dI_e, dU_e, dB_e, dS_e, dFn_e, dL_e, dA2_e, dA3_e, dA4_e, dA5_e]
  obtain ⟨⟨hB, hn0, hn1, hn2⟩, hw⟩ := hpre
  obtain ⟨a, rfl⟩ : ∃ a : Nat, n = (a : Int) - 1 := ⟨(n + 1).toNat, by omega⟩
  obtain ⟨en, rfl⟩ : ∃ en : Nat, m = en := ⟨m.toNat, by omega⟩
  show pq _ _ _ _ _ (initS [lsIt l, .val (.int .i64 ((a : Int) - 1)), .val (.int .i64 en), .val (.int .i64 wd)]).tm _ _
  rw [show ((a : Int) - 1 + 1).toNat = a by omega, Int.toNat_natCast]
  have ap1 := φLg_ap hB (show a ≤ en by omega) (show en < l.length by omega)
  have api : φIn [.val (.int .i64 wd), .val (.int .i64 0), .val (.int .i64 1000)] = some (.val (.bool true)) := (φIn_ap _ _ _).trans (by rw [inB_iff.2 hw])
  obtain ⟨g1, g2⟩ := gluesF_ok (b := startN l a) hB (show en < l.length by omega)
  obtain ⟨⟨o1, o2, o3, o4⟩, t1, t2, t3⟩ := tot_ok g1 g2
  have hE : badL l wd a en = badG (totR (gluesF l (startN l a) en)) wd := rfl
  have hE2 : gluesL l a en = gluesF l (startN l a) en := rfl
  unfold lgR at ap1
  rw [hE]
  rw [hE2] at ap1
  have hl := items_len hB
  clear hB g1 g2 hE hE2
  cases hq : lineQ l a en with
  | false =>
    rw [hq, if_neg (by decide)] at ap1
    rw [if_neg (by decide), Bool.false_and]
    clear hq o1 o2 o3 o4 t1 t2 t3
    have glb_c120 := GLb_120; have glb_c57 := GLb_57; have glb_c121 := GLb_121
    exact wlkF
  | true =>
    rw [hq, if_pos rfl] at ap1
    rw [if_pos rfl, Bool.true_and]
    clear hq
    generalize totR (gluesF l (startN l a) en) = t at *
    obtain ⟨tw, ts, th, tod⟩ := t
    dsimp only at o1 o2 o3 o4 t1 t2 t3
    have hG : badG (tw, ts, th, tod) wd = if tw ≤ wd then (if tod = 1 then (0, true) else (badR (wd - tw) ts, true)) else if tw - wd ≤ th then (badR (tw - wd) th, false) else (-1, false) := rfl
    rw [hG]
    by_cases h1 : tw ≤ wd
    · have ap3 := φBadn_ap (need := wd - tw) (room := ts) ⟨⟨by omega, by omega⟩, by omega, by omega⟩
      rw [if_pos h1]
      by_cases h2 : tod = 1
      · rw [if_pos h2]
        subst h2
        have glb_c120 := GLb_120; have glb_c57 := GLb_57; have glb_c121 := GLb_121
        exact wlkF
      · rw [if_neg h2]
        generalize badR (wd - tw) ts = bd at *
        have glb_c120 := GLb_120; have glb_c57 := GLb_57; have glb_c121 := GLb_121
        exact wlkF
    · rw [if_neg h1]
      by_cases h2 : tw - wd ≤ th
      · have ap3 := φBadn_ap (need := tw - wd) (room := th) ⟨⟨by omega, by omega⟩, by omega, by omega⟩
        rw [if_pos h2]
        generalize badR (tw - wd) th = bd at *
        have glb_c120 := GLb_120; have glb_c57 := GLb_57; have glb_c121 := GLb_121
        exact wlkF
      · rw [if_neg h2]
        have glb_c120 := GLb_120; have glb_c57 := GLb_57; have glb_c121 := GLb_121
        exact wlkF
end Go.Proofs.Ytngcedklbinhjaa
namespace Go.Proofs.Ytngcedklbinhjaa
open Go.RowKit
set_option linter.all false
abbrev LE := Int × Bool × Int
abbrev dLe : Dec LE := dA3 dI dB dI
abbrev pvLe (x : LE) : PV := .agg [.val (.int .i64 x.1), .val (.bool x.2.1), .val (.int .i64 x.2.2)]
def lcR (l : List It) (wd most : Int) (a en : Nat) (lk : Int) : Int × LE := match lineR l wd most a en with
  | none => (-1, (0, false, 0))
  | some x => (x.1 + betwR l a en lk x.2, ((en : Int), (l[en]?.getD it0).2.2.2.2.2.2, x.2))
abbrev okLc (l : List It) (wd most : Int) (e : LE) (m : Int) : Prop := okLn l e.1 m ∧ (0 ≤ wd ∧ wd ≤ 1000) ∧ (0 ≤ most ∧ most ≤ 10000) ∧ (0 ≤ e.2.2 ∧ e.2.2 ≤ 3) ∧ (0 ≤ e.1 → e.2.1 = (l[e.1.toNat]?.getD it0).2.2.2.2.2.2)
noncomputable def φLc : Fun := F5 dIts dI dI dLe dI fun l wd most e m => open Classical in if okLc l wd most e m then some (.tup [iv (lcR l wd most (e.1 + 1).toNat m.toNat e.2.2).1, pvLe (lcR l wd most (e.1 + 1).toNat m.toNat e.2.2).2]) else none
theorem φLc_ap {l : List It} {wd most : Int} {a en : Nat} {mk : Bool} {lk : Int} (h : okLc l wd most ((a : Int) - 1, mk, lk) en) : φLc [lsIt l, .val (.int .i64 wd), .val (.int .i64 most), pvLe ((a : Int) - 1, mk, lk), .val (.int .i64 en)] = some (.tup [.val (.int .i64 (lcR l wd most a en lk).1), pvLe (lcR l wd most a en lk).2]) :=
  (F5_ap (A := dIts) (B := dI) (C := dI) (D := dLe) (E := dI) l wd most ((a : Int) - 1, mk, lk) en).trans ((if_pos h).trans (by
    rw [show (((a : Int) - 1, mk, lk).1 + 1).toNat = a by dsimp only; omega, Int.toNat_natCast]))
noncomputable def GLc : Ctx := { fn := fun f => if f = 113 then some φLb else if f = 114 then some φLk else if f = 115 then some φCo else none, io := fun f => none }
theorem GLc_ok : SoundΓ Try.prog GLc := ⟨(fun f φ h => by
  unfold GLc at h
  dsimp only at h
  split at h
  · rename_i hf; cases h; subst hf; exact ⟨⟨_, Try.func113, rfl, rfl⟩, implLb_ok⟩
  split at h
  · rename_i hf; cases h; subst hf; exact ⟨⟨_, Try.func114, rfl, rfl⟩, implLk_ok⟩
  split at h
  · rename_i hf; cases h; subst hf; exact ⟨⟨_, Try.func115, rfl, rfl⟩, implCo_ok⟩
  cases h), (fun f φ h => by
  unfold GLc at h
  dsimp only at h
  cases h), rfl⟩
theorem GLc_113 (ob : Objs) (ps : List PV) : evCall GLc ob 113 ps = (ps.mapM (reify false 0 ob fuel)).bind φLb := by
  have h : GLc.fn 113 = some φLb := by simp [GLc]
  unfold evCall
  rw [h]
  cases ps.mapM (reify false 0 ob fuel) <;> rfl
theorem GLc_114 (ob : Objs) (ps : List PV) : evCall GLc ob 114 ps = (ps.mapM (reify false 0 ob fuel)).bind φLk := by
  have h : GLc.fn 114 = some φLk := by simp [GLc]
  unfold evCall
  rw [h]
  cases ps.mapM (reify false 0 ob fuel) <;> rfl
theorem GLc_115 (ob : Objs) (ps : List PV) : evCall GLc ob 115 ps = (ps.mapM (reify false 0 ob fuel)).bind φCo := by
  have h : GLc.fn 115 = some φCo := by simp [GLc]
  unfold evCall
  rw [h]
  cases ps.mapM (reify false 0 ob fuel) <;> rfl
set_option maxHeartbeats 16000000 in
theorem implLc_ok : Sound Try.prog 96 φLc := by
  refine sound_pq mixed GLc_ok Try.func96 rfl 77 rfl [.tmp 10, .cell 11 105] rfl (by kernel_rfl) fun ps r hr => ?_
  obtain ⟨l, wd, most, ⟨n, mk, lk⟩, m, rfl, hq⟩ := F5_some hr
  clear hr
  split at hq
  case isFalse => cases hq
  case isTrue hpre =>
  cases hq
  refine ⟨by simp, ?_⟩
  simp only [dIs, dUs, dSs, dI_e, dU_e, dB_e, dS_e, dFn_e, dL_e, dA2_e, dA3_e, dA4_e, dA5_e]
  obtain ⟨⟨hB, hn0, hn1, hn2⟩, hw, hm, hlk, hmk⟩ := hpre
  (try dsimp only at hn0 hn1 hn2 hlk hmk)
  obtain ⟨a, rfl⟩ : ∃ a : Nat, n = (a : Int) - 1 := ⟨(n + 1).toNat, by omega⟩
  obtain ⟨en, rfl⟩ : ∃ en : Nat, m = en := ⟨m.toNat, by omega⟩
  show pq _ _ _ _ _ (initS [lsIt l, .val (.int .i64 wd), .val (.int .i64 most), pvLe ((a : Int) - 1, mk, lk), .val (.int .i64 en)]).tm _ _
  (try dsimp only)
  rw [show ((a : Int) - 1 + 1).toNat = a by omega, Int.toNat_natCast]
  have hl := items_len hB
  have hel : en < l.length := by omega
  have ap1 := φLb_ap hB (show a ≤ en by omega) hel hw
  have hcst : okCst (l[en]?.getD it0).2.2.2.2.2.1 := (items_at hB hel).cost
  have hlr : lineR l wd most a en = if lineQ l a en = true ∧ 0 ≤ (badL l wd a en).1 ∧ (badL l wd a en).1 ≤ most then some (costR (badL l wd a en).1 (l[en]?.getD it0).2.2.2.2.2.1, looksR (badL l wd a en).2 (badL l wd a en).1) else none := rfl
  have hbw : ∀ k, betwR l a en lk k = (if 0 < a ∧ (l[a - 1]?.getD it0).2.2.2.2.2.2 = true ∧ (l[en]?.getD it0).2.2.2.2.2.2 = true then 3000 else 0) + (if 0 < a ∧ (1 < lk - k ∨ lk - k < -1) then 3000 else 0) := fun k => rfl
  have hmk2 : 0 < a → (l[a - 1]?.getD it0).2.2.2.2.2.2 = mk := fun h => by
    have := hmk (by omega)
    rw [show ((a : Int) - 1).toNat = a - 1 by omega] at this
    exact this.symm
  unfold lcR
  rw [hlr]
  clear hlr hmk hn0 hn1 hn2 hB
  generalize badL l wd a en = B at *
  obtain ⟨bad, st⟩ := B
  (try dsimp only at ap1 ⊢)
  by_cases hL : lineQ l a en = true ∧ 0 ≤ bad ∧ bad ≤ most
  · rw [if_pos hL]
    (try dsimp only)
    obtain ⟨h1, h2, h3⟩ := hL
    rw [h1, if_pos rfl, Bool.true_and] at ap1
    have ap2 := φLk_ap (s := st) (bad := bad) ⟨h2, by omega⟩
    have ap3 := φCo_ap (bad := bad) ⟨h2, by omega⟩ hcst
    have hkr := looksR_rng st bad
    have hcr := costR_rng (bad := bad) ⟨h2, by omega⟩ hcst
    rw [hbw]
    clear hbw h1 hcst
    by_cases h0 : 0 < a
    · rw [hmk2 h0]
      clear hmk2
      generalize hy : l[en]?.getD it0 = y at *
      obtain ⟨y1, y2, y3, y4, y5, y6, y7⟩ := y
      (try dsimp only at ap3 hcr ⊢)
      generalize costR bad y6 = co at *
      generalize looksR st bad = k at *
      cases mk <;> cases y7 <;> by_cases hz : 1 < lk - k ∨ lk - k < -1 <;>
      · first
          | rw [if_pos (show 0 < a ∧ (1 < lk - k ∨ lk - k < -1) from ⟨h0, hz⟩)]
          | rw [if_neg (show ¬ (0 < a ∧ (1 < lk - k ∨ lk - k < -1)) from fun q => hz q.2)]
        have glc_c113 := GLc_113; have glc_c114 := GLc_114; have glc_c115 := GLc_115
        (refine wlk ?_; intros)
        refine i_drawFS 10 (by simp only [List.map_cons, List.map_nil] <;> exact rfl) (by simp only [List.take_succ_cons, List.take_zero] <;> exact rfl) (by simp only [List.drop_succ_cons, List.drop_zero] <;> exact rfl) ze_105 (by decide +kernel) (by decide +kernel) ?_
        (refine wlk ?_; intros)
        refine i_kF (by (simp (disch := (first | omega | (simp only [push_cast]; first | done | omega))) only [push_cast, ↓reduceIte, Nat.reduceEqDiff, Nat.reduceBEq, Nat.reduceAdd, Nat.reduceSub, Int.reduceToNat, *] <;> with_reducible exact rfl)) ?_
        (repeat' (first | (with_reducible first | apply i_seq | apply i_block | apply i_skip | apply i_exit | apply i_ret | apply i_kS | apply i_kSx | apply i_kSr | apply i_kL | apply i_kLx | apply i_kLr | apply i_kB | apply i_kBr | apply i_kBs | apply i_nil) | ((with_reducible apply i_region); (simp only [List.map_cons, List.map_nil] <;> exact rfl)) | ((with_reducible apply i_draw); (simp only [List.map_cons, List.map_nil] <;> exact rfl); decide +kernel) | ((with_reducible apply i_kBo); rfl) | ((first | ((with_reducible apply i_V); rfl; rfl; rfl) | ((first | ((with_reducible apply i_E); rfl) | ((with_reducible apply i_S); rfl)); first | rfl | (simp only [push_cast, ↓reduceIte])) | ((with_reducible apply i_Vq); rfl; rfl) | ((with_reducible apply i_Vp); rfl; rfl; rfl) | (with_reducible first | apply i_Gb | apply i_cond)); (simp (disch := (first | omega | (simp only [push_cast]; first | done | omega))) only [push_cast, ↓reduceIte, Nat.reduceEqDiff, Nat.reduceBEq, Nat.reduceAdd, Nat.reduceSub, Int.reduceToNat, *] <;> with_reducible exact rfl); all_goals try (first | (with_reducible first | refine hyT ?_ | refine hyF ?_ | exact hyA | exact hyB) | (intro hX; first | (cases hX; done) | ((try simp only [decide_eq_true_eq, decide_eq_false_iff_not, Bool.not_eq_true', Bool.not_eq_false'] at hX); (try have hXb := inB_iff.1 hX))))))); all_goals try (exfalso; omega)
        all_goals ((first | apply i_end | apply i_endN); simp (disch := (first | omega | (simp only [push_cast]; first | done | omega))) only [push_cast, ↓reduceIte, Nat.reduceEqDiff, Nat.reduceBEq, Nat.reduceAdd, Nat.reduceSub, Int.reduceToNat, *])
        all_goals (simp [h0]; try omega)
    · obtain rfl : a = 0 := by omega
      rw [if_neg (fun q => h0 q.1), if_neg (fun q => h0 q.1)]
      clear hmk2
      generalize hy : l[en]?.getD it0 = y at *
      obtain ⟨y1, y2, y3, y4, y5, y6, y7⟩ := y
      (try dsimp only at ap3 hcr ⊢)
      generalize costR bad y6 = co at *
      generalize looksR st bad = k at *
      simp only [Int.natCast_zero, Int.zero_sub] at ap1 ⊢
      have glc_c113 := GLc_113; have glc_c114 := GLc_114; have glc_c115 := GLc_115
      (refine wlk ?_; intros)
      refine i_drawFS 10 (by simp only [List.map_cons, List.map_nil] <;> exact rfl) (by simp only [List.take_succ_cons, List.take_zero] <;> exact rfl) (by simp only [List.drop_succ_cons, List.drop_zero] <;> exact rfl) ze_105 (by decide +kernel) (by decide +kernel) ?_
      (refine wlk ?_; intros)
      refine i_kF (by (simp (disch := (first | omega | (simp only [push_cast]; first | done | omega))) only [push_cast, ↓reduceIte, Nat.reduceEqDiff, Nat.reduceBEq, Nat.reduceAdd, Nat.reduceSub, Int.reduceToNat, *] <;> with_reducible exact rfl)) ?_
      (repeat' (first | (with_reducible first | apply i_seq | apply i_block | apply i_skip | apply i_exit | apply i_ret | apply i_kS | apply i_kSx | apply i_kSr | apply i_kL | apply i_kLx | apply i_kLr | apply i_kB | apply i_kBr | apply i_kBs | apply i_nil) | ((with_reducible apply i_region); (simp only [List.map_cons, List.map_nil] <;> exact rfl)) | ((with_reducible apply i_draw); (simp only [List.map_cons, List.map_nil] <;> exact rfl); decide +kernel) | ((with_reducible apply i_kBo); rfl) | ((first | ((with_reducible apply i_V); rfl; rfl; rfl) | ((first | ((with_reducible apply i_E); rfl) | ((with_reducible apply i_S); rfl)); first | rfl | (simp only [push_cast, ↓reduceIte])) | ((with_reducible apply i_Vq); rfl; rfl) | ((with_reducible apply i_Vp); rfl; rfl; rfl) | (with_reducible first | apply i_Gb | apply i_cond)); (simp (disch := (first | omega | (simp only [push_cast]; first | done | omega))) only [push_cast, ↓reduceIte, Nat.reduceEqDiff, Nat.reduceBEq, Nat.reduceAdd, Nat.reduceSub, Int.reduceToNat, *] <;> with_reducible exact rfl); all_goals try (first | (with_reducible first | refine hyT ?_ | refine hyF ?_ | exact hyA | exact hyB) | (intro hX; first | (cases hX; done) | ((try simp only [decide_eq_true_eq, decide_eq_false_iff_not, Bool.not_eq_true', Bool.not_eq_false'] at hX); (try have hXb := inB_iff.1 hX))))))); all_goals try (exfalso; omega)
      all_goals ((first | apply i_end | apply i_endN); simp (disch := (first | omega | (simp only [push_cast]; first | done | omega))) only [push_cast, ↓reduceIte, Nat.reduceEqDiff, Nat.reduceBEq, Nat.reduceAdd, Nat.reduceSub, Int.reduceToNat, *])
      all_goals (simp; try omega)
  · rw [if_neg hL]
    (try dsimp only)
    have hbb : ∃ b9 : Int, φLb [lsIt l, .val (.int .i64 ((a : Int) - 1)), .val (.int .i64 en), .val (.int .i64 wd)] = some (.tup [.val (.int .i64 b9), .val (.bool (lineQ l a en && st))]) ∧ (b9 < 0 ∨ most < b9) := by
      refine ⟨_, ap1, ?_⟩
      split
      · rename_i h
        by_cases hb0 : bad < 0
        · exact .inl hb0
        · refine .inr ?_
          by_cases hb1 : bad ≤ most
          · exact absurd ⟨h, by omega, hb1⟩ hL
          · omega
      · exact .inl (by decide)
    clear hL ap1 hbw hmk2 hcst
    obtain ⟨b9, ap1, hb⟩ := hbb
    generalize (lineQ l a en && st) = q9 at *
    rcases hb with hb | hb
    · have glc_c113 := GLc_113; have glc_c114 := GLc_114; have glc_c115 := GLc_115
      exact wlkF
    · by_cases h00 : b9 < 0
      · have glc_c113 := GLc_113; have glc_c114 := GLc_114; have glc_c115 := GLc_115
        exact wlkF
      · have glc_c113 := GLc_113; have glc_c114 := GLc_114; have glc_c115 := GLc_115
        exact wlkF
end Go.Proofs.Ytngcedklbinhjaa
namespace Go.Proofs.Ytngcedklbinhjaa
open Go.RowKit
set_option linter.all false
theorem leMap : Try.prog.underlying 101 = some (.map 105 107) := by kernel_rfl
theorem leRow : (105 : TypeId) < Try.prog.types.size := of_decide_eq_true (by kernel_rfl)
theorem leWide : (match Try.prog.underlying 105 with | some (.array _ _) | some (.struct _) => true | _ => false) = true := by kernel_rfl
set_option maxRecDepth 100000 in
theorem leLaid : laidOutB Try.prog = true := by kernel_rfl
set_option maxRecDepth 100000 in
theorem leKt : Try.prog.keyTypeAt 3 105 = true := by kernel_rfl
theorem keyed_deep {P : Program} {k : TypeId} (hl : laidOutB P = true) (hrow : k < P.types.size) (hk : P.keyTypeAt 3 k = true) (hwide : (match P.underlying k with | some (.array _ _) | some (.struct _) => true | _ => false) = true) : Go.Maps.Keyed P k := Go.Maps.Keyed.of_law (deep_law_laid hl (m := 3) (by omega) hrow hk hwide)
set_option maxRecDepth 100000 in
theorem leKeyed : Go.Maps.Keyed Try.prog 105 := keyed_deep leLaid leRow leKt leWide
abbrev keyV (n : Int) (mk : Bool) (lk : Int) : Value := .agg #[.int .i64 n, .bool mk, .int .i64 lk]
def kl1 (n : Int) : Option (List Lit) := if IntKind.i64 = .i64 ∧ (Lit.int .i64 n).wf = true then some [.int .i64 n] else none
set_option maxRecDepth 100000 in
theorem keyLits_le (n lk : Int) (mk : Bool) : Try.prog.keyLits (Try.prog.types.size + 1) 105 (keyV n mk lk).cells.toList = (do let a ← kl1 n; let b ← some [Lit.bool mk]; let c ← kl1 lk; pure [a, b, c] : Option (List (List Lit))).map List.flatten := by kernel_rfl
theorem keyOf_le {n lk : Int} {mk : Bool} (h1 : okI n) (h2 : okI lk) : ∃ l, keyOf Try.prog 105 (keyV n mk lk) = some l := by
  have hk : Try.prog.keyType 105 = true := by kernel_rfl
  have hf : (keyV n mk lk).formed Try.prog 105 = true := by
    obtain ⟨fs, hu⟩ : ∃ fs, Try.prog.underlying 105 = some (.struct fs) := ⟨_, fd_105⟩
    have hc : Try.prog.cellsOf 105 = 3 := by kernel_rfl
    simp [Value.formed, hu, hc]
  have w1 : (Lit.int .i64 n).wf = true := by
    show (decide (-9223372036854775808 ≤ n) && decide (n ≤ 9223372036854775807)) = true
    simp [h1.1, h1.2]
  have w2 : (Lit.int .i64 lk).wf = true := by
    show (decide (-9223372036854775808 ≤ lk) && decide (lk ≤ 9223372036854775807)) = true
    simp [h2.1, h2.2]
  unfold keyOf
  rw [fd_105]
  dsimp only
  rw [hk, hf, Bool.and_self, if_pos rfl]
  rw [keyLits_le]
  unfold kl1
  rw [if_pos ⟨rfl, w1⟩, if_pos ⟨rfl, w2⟩]
  exact ⟨_, rfl⟩
theorem sz_103 : tySize Try.prog 103 = some 4 := by kernel_rfl
theorem ag_103 : tyAgg Try.prog 103 = some true := by kernel_rfl
theorem fo_103_0 : fieldOff Try.prog 103 0 = some 0 := by kernel_rfl
theorem fo_103_1 : fieldOff Try.prog 103 1 = some 1 := by kernel_rfl
theorem fo_103_2 : fieldOff Try.prog 103 2 = some 2 := by kernel_rfl
theorem fo_103_3 : fieldOff Try.prog 103 3 = some 3 := by kernel_rfl
theorem szM_103 : tySize Try.prog 101 = some 1 := by kernel_rfl
theorem agM_103 : tyAgg Try.prog 101 = some false := by kernel_rfl
attribute [push_cast]
  sz_103 ag_103 fo_103_0 fo_103_1 fo_103_2 fo_103_3 szM_103 agM_103
abbrev mkA (l : List It) (a : Nat) : Bool := if a = 0 then false else (gI l (a - 1)).2.2.2.2.2.2
def chV (l : List It) (a : Nat) (r : Option Ch) : Value := if a = l.length then .agg #[.int .i64 0, .int .i64 0, .bool false, .int .i64 0] else match r with
  | none => .agg #[.int .i64 (-1), .int .i64 0, .bool false, .int .i64 0]
  | some x => .agg #[.int .i64 x.1, .int .i64 x.2.1, .bool (gI l x.2.1).2.2.2.2.2.2, .int .i64 x.2.2]
def chP (l : List It) (a : Nat) (r : Option Ch) : PV := if a = l.length then .agg [iv 0, iv 0, bv false, iv 0] else match r with
  | none => .agg [iv (-1), iv 0, bv false, iv 0]
  | some x => .agg [iv x.1, iv x.2.1, bv (gI l x.2.1).2.2.2.2.2.2, iv x.2.2]
theorem toVal_ch (l : List It) (a : Nat) (r : Option Ch) : toVal (chP l a r) = some (chV l a r) := by
  unfold chP chV
  split
  · rfl
  · cases r <;> rfl
abbrev chsP (l : List It) (wd most : Int) (b : Nat) : PV := .ptr false (.agg [lsIt l, iv wd, iv most, .val (.map (some b))]) 0
def GoodL (l : List It) (wd most : Int) (L : VL) : Prop := ∀ p ∈ L, ∃ (a : Nat) (lk : Int), a < l.length ∧ (0 ≤ lk ∧ lk ≤ 3) ∧ p.1 = keyV ((a : Int) - 1) (mkA l a) lk ∧ p.2 = chV l a (bestA l wd most a lk)
def aC (r : Option Ch) : Int := match r with | none => -1 | some x => x.1
def aN (r : Option Ch) : Int := match r with | none => 0 | some x => x.2.1
def aM (l : List It) (r : Option Ch) : Bool := match r with | none => false | some x => (gI l x.2.1).2.2.2.2.2.2
def aK (r : Option Ch) : Int := match r with | none => 0 | some x => x.2.2
theorem chP_ne {l : List It} {a : Nat} {r : Option Ch} (h : ¬ a = l.length) : chP l a r = .agg [iv (aC r), iv (aN r), bv (aM l r), iv (aK r)] := by
  unfold chP
  rw [if_neg h]
  cases r <;> rfl
theorem chP_form (l : List It) (a : Nat) (lk wd most : Int) : ∃ c n m k, chP l a (bestA l wd most a lk) = .agg [iv c, iv n, bv m, iv k] ∧ ((bestA l wd most a lk = none ∧ c = -1) ∨ ∃ r, bestA l wd most a lk = some r ∧ c = r.1) := by
  by_cases h : a = l.length
  · subst h
    exact ⟨0, 0, false, 0, if_pos rfl, .inr ⟨_, bestA_end _ _ _ _, rfl⟩⟩
  · refine ⟨_, _, _, _, chP_ne h, ?_⟩
    cases hr : bestA l wd most a lk with
    | none => exact .inl ⟨rfl, rfl⟩
    | some r => exact .inr ⟨r, rfl, rfl⟩
theorem reify_ch {n : Nat} {ob : Objs} (l : List It) (wd most : Int) (b : Nat) : reify false n ob 8 (chsP l wd most b) = some (chsP l wd most b) := by
  have h1 : reify false n ob 6 (lsIt l) = some (lsIt l) := by (simp (disch := (first | omega | (simp only [push_cast]; first | done | omega))) only [push_cast, ↓reduceIte, Nat.reduceEqDiff, Nat.reduceBEq, Nat.reduceAdd, Nat.reduceSub, Int.reduceToNat, *] <;> with_reducible exact rfl)
  show (if false = true ∧ false = false then none else (([lsIt l, iv wd, iv most, .val (.map (some b))].mapM (reify false n ob 6)).map PV.agg).map (PV.ptr false · 0)) = _
  rw [if_neg (by decide)]
  simp only [List.mapM_cons, List.mapM_nil, h1]
  rfl
attribute [push_cast]
  reify_ch
theorem HY.updD2 {P : Program} {k : TypeId} {N B : Nat} {w00 : World} {Γ : Ctx} {K : X → AS → Sg → Prop} {s : AS} {b : Nat} {L : VL} {id : Nat} (n : Nat) {os pre : List Oper} {t e : TypeId} {x y z : Operand} {ty : Nat} {pos : String} {af : Array Edge} (hm : P.follows .mixedOrders = true) (hΓ : SoundΓ P Γ) (Ky : Go.Maps.Keyed P k) (ht : P.underlying t = some (.map k e))
    (h1 : os.take n = pre) (h2 : os.drop n = [{ dst := none, op := .mapUpdate t x y z, type := ty, pos := pos, after := af, guard := none }]) {gs : List (Option Nat)} (hgs : os.map (·.dst) = gs) (hd : os.toArray.all (dstOk N) = true) (hok : drawOk Γ (stdM true os.toArray) os.toArray = true) (hlast : (List.range n).all (fun i => ordB os.toArray os.toArray.size i n) = true) (hn : pre.length = n)
    (hp : wq P Γ (stdM true os.toArray) gs pre (fun s1 => ∃ key val kl, look s1.tm x = .val (.map (some b)) ∧ toVal (look s1.tm y) = some key ∧ toVal (look s1.tm z) = some val ∧ keyOf P k key = some kl ∧ ∀ L', Upd L key val L' → K .normal s1 (some (b, L'))) s.tm s.ob s.nx) : HY P k N B w00 (.region id os.toArray true) K s (some (b, L)) :=
  HY.updD hm hΓ Ky ht hd hok hlast (show os = pre ++ _ by rw [← h1, ← h2, List.take_append_drop]) hn rfl rfl rfl hgs hp
theorem GoodL.upd {l : List It} {wd most : Int} {L L' : VL} {a : Nat} {lk : Int} (h : GoodL l wd most L) (ha : a < l.length) (hk : 0 ≤ lk ∧ lk ≤ 3) (hu : Upd L (keyV ((a : Int) - 1) (mkA l a) lk) (chV l a (bestA l wd most a lk)) L') : GoodL l wd most L' := by
  cases hu with
  | new h1 =>
    intro p hp
    rcases List.mem_append.1 hp with hp | hp
    · exact h p hp
    · rw [List.mem_singleton.1 hp]
      exact ⟨a, lk, ha, hk, rfl, rfl⟩
  | old h1 =>
    subst h1
    intro p hp
    rcases List.mem_append.1 hp with hp | hp
    · exact h p (List.mem_append.2 (.inl hp))
    · rcases List.mem_cons.1 hp with rfl | hp
      · exact ⟨a, lk, ha, hk, rfl, rfl⟩
      · exact h p (List.mem_append.2 (.inr (List.mem_cons_of_mem _ hp)))
noncomputable def GBst : Ctx := { fn := fun f => if f = 96 then some φLc else none, io := fun f => none }
theorem GBst_ok : SoundΓ Try.prog GBst := ⟨(fun f φ h => by
  unfold GBst at h
  dsimp only at h
  split at h
  · rename_i hf; cases h; subst hf; exact ⟨⟨_, Try.func96, rfl, rfl⟩, implLc_ok⟩
  cases h), (fun f φ h => by
  unfold GBst at h
  dsimp only at h
  cases h), rfl⟩
theorem GBst_96 (ob : Objs) (ps : List PV) : evCall GBst ob 96 ps = (ps.mapM (reify false 0 ob fuel)).bind φLc := by
  have h : GBst.fn 96 = some φLc := by simp [GBst]
  unfold evCall
  rw [h]
  cases ps.mapM (reify false 0 ob fuel) <;> rfl
set_option maxHeartbeats 16000000 in
set_option maxRecDepth 100000 in
theorem best_any {l : List It} {wd most : Int} (hl : itemsB l = true) (hpos : 0 < l.length) (hw : 0 ≤ wd ∧ wd ≤ 1000) (hm : 0 ≤ most ∧ most ≤ 10000) : ∀ (n a : Nat) (lk : Int), l.length - a = n → a ≤ l.length → (0 ≤ lk ∧ lk ≤ 3) → ∀ (b : Nat) (L : VL), GoodL l wd most L →
    ∀ (w : World) (Jm : Nat → Prop) (args : Array Value), (∀ i, Jm i → i < w.heap.size ∧ i ≠ b) → RepL (argG Jm) w [chsP l wd most b, pvLe ((a : Int) - 1, mkA l a, lk)] args.toList → MapL Try.prog 105 w b L → TabF w (fun i => i = b) →
    Calls Try.prog 76 args w fun e w' => ∃ p v L', e = .returned v ∧ (∀ (g : Gh) (w : World), Rep g w p v) ∧ w.grownBy w' (some b) ∧ MapL Try.prog 105 w' b L' ∧ (p = chP l a (bestA l wd most a lk) ∧ GoodL l wd most L') := by
  intro n
  induction n using Nat.strongRecOn with
  | _ n ih =>
  intro a lk hn ha hlk b L hL w Jm args hJ hargs hM hT
  have hlen := items_len hl
  refine HY.calls (N := 99) (rs := [.cell 4 107]) (R := fun p L' => p = chP l a (bestA l wd most a lk) ∧ GoodL l wd most L') Try.func76 rfl rfl rfl (by simp) hJ hargs hM hT (HY.start ?_)
  refine HY.seq (HY.eng mixed GBst_ok (by kernel_rfl) ?_)
  (try dsimp only)
  (refine wlk ?_; intros)
  refine HY.seq (HY.eng mixed GBst_ok (by kernel_rfl) ?_)
  (try dsimp only)
  have hll : ((l.map pvIt).length : Int) = (l.length : Int) := by simp
  have IH := Lib.hid ih
  have HL := Lib.hid hL
  clear ih hL hJ hargs hM hT
  by_cases han : a = l.length
  · have hch : chP l a (bestA l wd most a lk) = .agg [iv 0, iv 0, bv false, iv 0] := if_pos han
    have hv := toVal_ch l a (bestA l wd most a lk)
    generalize mkA l a = mk
    subst han
    (refine wlk ?_; intros)
    dsimp only
    refine ⟨.inr rfl, _, _, L, ?_, hv, rfl, rfl, HL.out⟩
    rw [hch]
    clear hv hch
    exact agr
  have hal : a < l.length := by omega
  have hkn : okI ((a : Int) - 1) := by omega
  have hkk : okI lk := by omega
  obtain ⟨c0, n0, m0, k0, hch⟩ : ∃ c n m k, chP l a (bestA l wd most a lk) = .agg [iv c, iv n, bv m, iv k] := by
    unfold chP
    rw [if_neg han]
    cases bestA l wd most a lk <;> exact ⟨_, _, _, _, rfl⟩
  have hv := toVal_ch l a (bestA l wd most a lk)
  rw [hch] at hv
  by_cases hit : ∃ v, (keyV ((a : Int) - 1) (mkA l a) lk, v) ∈ L
  · obtain ⟨v, hin⟩ := hit
    obtain ⟨a', lk', h1, h2, h3, h4⟩ := HL.out _ hin
    obtain ⟨rfl, rfl⟩ : a' = a ∧ lk' = lk := by
      simp only [keyV, Value.agg.injEq] at h3
      have := congrArg Array.toList h3
      simp at this
      omega
    have h4' : v = chV l a' (bestA l wd most a' lk') := h4
    subst h4'
    clear h1 h2 h3 h4
    have HIN := Lib.hid hin
    have HCH := Lib.hid hch
    have HV := Lib.hid hv
    clear hin hch hv
    generalize mkA l a' = mk at *
    (refine wlk ?_; intros)
    dsimp only
    have hlk := lk_one (Γ := GBst) (t := 101) (b := b) (c := true) (k0 := keyV ((a' : Int) - 1) mk lk') (p := .tup [.agg [iv c0, iv n0, bv m0, iv k0], bv true])
    refine HY.seq (HY.see (M := ⟨101, b, ansOne true (keyV ((a' : Int) - 1) mk lk') (.tup [.agg [iv c0, iv n0, bv m0, iv k0], bv true])⟩) mixed GBst_ok rfl ?_ (by kernel_rfl) ?_)
    · intro key c p hp w1 g1 hM1
      obtain ⟨rfl, rfl, rfl⟩ := ansOne_some hp
      obtain ⟨kl, hkl⟩ := keyOf_le (mk := mk) hkn hkk
      refine ⟨_, hM1.look_yes leKeyed leMap true hkl HIN.out, ?_⟩
      exact rep_tup2 (rep_toVal HV.out) (by simp [Rep])
    (try dsimp only)
    (refine wlk ?_; intros)
    refine i_drawFS 9 (by simp only [List.map_cons, List.map_nil] <;> exact rfl) (by simp only [List.take_succ_cons, List.take_zero] <;> exact rfl) (by simp only [List.drop_succ_cons, List.drop_zero] <;> exact rfl) ze_107 (by kernel_rfl) (by kernel_rfl) ?_
    (refine wlk ?_; intros)
    refine i_kF (by (simp (disch := (first | omega | (simp only [push_cast]; first | done | omega))) only [push_cast, ↓reduceIte, Nat.reduceEqDiff, Nat.reduceBEq, Nat.reduceAdd, Nat.reduceSub, Int.reduceToNat, *] <;> with_reducible exact rfl)) ?_
    (refine wlk ?_; intros)
    dsimp only
    refine ⟨.inr rfl, _, _, L, ?_, HV.out, rfl, HCH.out.symm, HL.out⟩
    exact agr
  · have hmiss : ∀ p ∈ L, p.1 ≠ keyV ((a : Int) - 1) (mkA l a) lk := fun p hp e => hit ⟨p.2, by rw [← e]; exact hp⟩
    have HMI := Lib.hid hmiss
    have HCH := Lib.hid hch
    have HV := Lib.hid hv
    clear hit hch hv hmiss
    obtain ⟨mk, hmk⟩ : ∃ mk, mk = mkA l a := ⟨_, rfl⟩
    rw [← hmk] at HMI ⊢
    have HMK := Lib.hid hmk
    clear hmk
    (refine wlk ?_; intros)
    dsimp only
    have hlk := lk_one (Γ := GBst) (t := 101) (b := b) (c := true) (k0 := keyV ((a : Int) - 1) mk lk) (p := .tup [.agg [iv 0, iv 0, bv false, iv 0], bv false])
    refine HY.seq (HY.see (M := ⟨101, b, ansOne true (keyV ((a : Int) - 1) mk lk) (.tup [.agg [iv 0, iv 0, bv false, iv 0], bv false])⟩) mixed GBst_ok rfl ?_ (by kernel_rfl) ?_)
    · intro key c p hp w1 g1 hM1
      obtain ⟨rfl, rfl, rfl⟩ := ansOne_some hp
      obtain ⟨kl, hkl⟩ := keyOf_le (mk := mk) hkn hkk
      refine ⟨_, hM1.look_no leKeyed leMap true hkl (run_zero ze_107 w1) HMI.out, ?_⟩
      exact rep_tup2 (rep_toVal rfl) (by simp [Rep])
    (try dsimp only)
    (refine wlk ?_; intros)
    refine i_drawFS 9 (by simp only [List.map_cons, List.map_nil] <;> exact rfl) (by simp only [List.take_succ_cons, List.take_zero] <;> exact rfl) (by simp only [List.drop_succ_cons, List.drop_zero] <;> exact rfl) ze_107 (by kernel_rfl) (by kernel_rfl) ?_
    (refine wlk ?_; intros)
    refine i_kF (by (simp (disch := (first | omega | (simp only [push_cast]; first | done | omega))) only [push_cast, ↓reduceIte, Nat.reduceEqDiff, Nat.reduceBEq, Nat.reduceAdd, Nat.reduceSub, Int.reduceToNat, *] <;> with_reducible exact rfl)) ?_
    (refine wlk ?_; intros)
    dsimp only
    clear hlk
    refine HY.cut (Lf := [(0, chsP l wd most b), (3, .own 0 3 0 0), (4, .own 1 4 0 0)]) (O := [(0, 105, 3, [.agg [iv ((a : Int) - 1), bv mk, iv lk]]), (1, 107, 4, [.agg [iv 0, iv 0, bv false, iv 0]])]) (x := 3) (by exact agr) (by exact agr) rfl ?_
    refine HY.seq (HY.eng mixed GBst_ok (by kernel_rfl) ?_)
    dsimp only
    (refine wlk ?_; intros)
    dsimp only
    refine HY.seq (HY.seq (HY.eng mixed GBst_ok (by kernel_rfl) ?_))
    dsimp only
    (refine wlk ?_; intros)
    dsimp only
    refine HY.block (HY.loopA (α := Nat × Nat) (fun i => [(0, chsP l wd most b), (3, .own 0 3 0 0), (4, .own 1 4 0 0), (7, .own 3 4 0 0), (8, iv ((l.length : Int) - 1 - i.1))])
      (fun i => [(0, 105, 3, [.agg [iv ((a : Int) - 1), bv mk, iv lk]]), (1, 107, 4, [.agg [iv 0, iv 0, bv false, iv 0]]), (3, 107, 4, [.agg [iv (aC (bestTo l wd most a lk (bestA l wd most) i.1)), iv (aN (bestTo l wd most a lk (bestA l wd most) i.1)), bv (aM l (bestTo l wd most a lk (bestA l wd most) i.1)), iv (aK (bestTo l wd most a lk (bestA l wd most) i.1))]])])
      (fun i => i.2) (fun i σ => i.1 ≤ l.length - a ∧ 4 ≤ i.2 ∧ ∃ L', σ = some (b, L') ∧ GoodL l wd most L') (fun i => l.length - a - i.1) (0, 4) ⟨Nat.zero_le _, Nat.le_refl _, L, rfl, HL.out⟩ ?_ ?_ rfl ?_)
    · exact agi
    · simp only [bestTo, aC, aN, aM, aK]
      exact agr
    · rintro ⟨j, y⟩ σ ⟨hj, hy, L', rfl, hL'⟩
      dsimp only at hj hy
      have HL2 := Lib.hid hL'
      clear hL'
      by_cases hja : j < l.length - a
      · refine HY.seq (HY.eng mixed GBst_ok (by kernel_rfl) ?_)
        obtain ⟨en, hen⟩ : ∃ en : Nat, en + 1 + j = l.length := ⟨l.length - 1 - j, by omega⟩
        have he8 : (l.length : Int) - 1 - (j : Int) = (en : Int) := by omega
        dsimp only
        rw [he8]
        generalize hR : bestTo l wd most a lk (bestA l wd most) j = R at *
        have HR := Lib.hid hR
        clear hR he8
        have hap : okLc l wd most ((a : Int) - 1, mk, lk) en := ⟨⟨hl, by dsimp only; omega, by dsimp only; omega, by omega⟩, hw, hm, hlk, fun h0 => by
          have := HMK.out
          dsimp only at h0 ⊢
          rw [this]
          unfold mkA
          rw [if_neg (by omega), show ((a : Int) - 1).toNat = a - 1 by omega]⟩
        have ap := φLc_ap hap
        clear hap
        generalize hE : lcR l wd most a en lk = E at *
        obtain ⟨c9, e9, m9, k9⟩ := E
        have HE := Lib.hid hE
        clear hE
        dsimp only at ap
        have hy1 : ¬ y = 0 := by omega
        have hy2 : ¬ y = 1 := by omega
        have hy3 : ¬ y = 3 := by omega
        have gbst_c96 := GBst_96
        (refine wlk ?_; intros)
        dsimp only
        refine HY.seq (HY.block (HY.seq (HY.eng mixed GBst_ok (by kernel_rfl) ?_)))
        dsimp only
        (refine wlk ?_; intros)
        refine i_drawFS 18 (by simp only [List.map_cons, List.map_nil] <;> exact rfl) (by simp only [List.take_succ_cons, List.take_zero] <;> exact rfl) (by simp only [List.drop_succ_cons, List.drop_zero] <;> exact rfl) ze_105 (by kernel_rfl) (by kernel_rfl) ?_
        (refine wlk ?_; intros)
        refine i_kF (by (simp (disch := (first | omega | (simp only [push_cast]; first | done | omega))) only [push_cast, ↓reduceIte, Nat.reduceEqDiff, Nat.reduceBEq, Nat.reduceAdd, Nat.reduceSub, Int.reduceToNat, *] <;> with_reducible exact rfl)) ?_
        (refine wlk ?_; intros)
        dsimp only
        refine HY.cut (Lf := [(0, chsP l wd most b), (3, .own 0 3 0 0), (4, .own 1 4 0 0), (7, .own 3 4 0 0), (8, iv (en : Int)), (9, iv c9), (10, .own y 3 0 0)]) (O := [(0, 105, 3, [.agg [iv ((a : Int) - 1), bv mk, iv lk]]), (1, 107, 4, [.agg [iv 0, iv 0, bv false, iv 0]]), (3, 107, 4, [.agg [iv (aC R), iv (aN R), bv (aM l R), iv (aK R)]]), (y, 105, 3, [.agg [iv e9, bv m9, iv k9]])]) (x := y + 1) (by exact agr) (by exact agr) rfl ?_
        have hbn : ∀ z, bestStep l wd most a lk (bestA l wd most) R en = z → bestTo l wd most a lk (bestA l wd most) (j + 1) = z := fun z hz => by
          rw [bestTo, show l.length - (j + 1) = en by omega, HR.out, hz]
        clear ap
        cases hL : lineR l wd most a en with
        | none =>
          have hE2 := HE.out
          unfold lcR at hE2
          rw [hL] at hE2
          cases hE2
          have hN := Lib.hid (hbn _ (bestStep_none hL))
          clear hbn hL
          refine HY.seq (HY.eng mixed GBst_ok (by kernel_rfl) ?_)
          (refine wlk ?_; intros)
          refine HY.eng mixed GBst_ok (by kernel_rfl) ?_
          dsimp only
          (refine wlk ?_; intros)
          (try dsimp only)
          refine ⟨(j + 1, y + 1), ⟨by dsimp only; omega, by dsimp only; omega, L', rfl, HL2.out⟩, by dsimp only; omega, ?_, ?_, rfl⟩
          · dsimp only
            exact agi
          · dsimp only
            rw [hN.out]
            exact agr
        | some ck =>
          obtain ⟨c, k⟩ := ck
          have hE2 := HE.out
          unfold lcR at hE2
          rw [hL] at hE2
          obtain ⟨⟨-, -⟩, g2, g3⟩ := lineR_rng hl hm.2 hL
          have g4 := betwR_rng l a en lk k
          dsimp only at hE2 g2 g3
          have hmn : mkA l (en + 1) = (l[en]?.getD it0).2.2.2.2.2.2 := rfl
          have IHn := IH.out (l.length - (en + 1)) (by omega) (en + 1) k rfl (by omega) g3 b L' HL2.out
          rw [show ((en + 1 : Nat) : Int) - 1 = (en : Int) by omega, hmn] at IHn
          simp only [Prod.mk.injEq] at hE2
          obtain ⟨rfl, rfl, rfl, rfl⟩ := hE2
          have hc9 : 0 ≤ c + betwR l a en lk k ∧ c + betwR l a en lk k ≤ 400000000 := by omega
          have hbs := fun r (h2 : bestA l wd most (en + 1) k = some r) => hbn _ (bestStep_some hL h2)
          have hbd := fun (h2 : bestA l wd most (en + 1) k = none) => hbn _ (bestStep_dead hL h2)
          have hbr := fun r (h2 : bestA l wd most (en + 1) k = some r) => bestA_bound hl hm.2 (show en + 1 ≤ l.length by omega) h2
          have hRr : ∀ x, R = some x → 0 ≤ x.1 ∧ x.1 ≤ 20000000000 := fun x hx => (bestTo_rng (a := a) hl hm.2 hal (HR.out.trans hx)).1
          have hcp := chP_form l (en + 1) k wd most
          clear hbn g2 g4
          generalize hc8 : c + betwR l a en lk k = c9 at *
          generalize hme : (l[en]?.getD it0).2.2.2.2.2.2 = m9 at *
          generalize bestA l wd most (en + 1) k = rr at *
          have HME := Lib.hid hme
          have HB := Lib.hid (And.intro hbs (And.intro hbd (And.intro hbr hRr)))
          have HIH := Lib.hid IHn
          clear hc8 hL HE hme hbs hbd hbr hRr IHn hmn
          obtain ⟨c2, n2, m2, k2, hp2, hc2⟩ := hcp
          have HC2 := Lib.hid hc2
          have HP2 := Lib.hid hp2
          clear hc2 hp2
          refine HY.seq (HY.eng mixed GBst_ok (by kernel_rfl) ?_)
          (refine wlk ?_; intros)
          refine HY.seq (HY.each (HO.pre (imm := ⟨[], [], []⟩) 2 GBst_ok (by kernel_rfl) (by simp only [List.take_succ_cons, List.take_zero] <;> exact rfl) (by simp only [List.drop_succ_cons, List.drop_zero] <;> exact rfl) (by simp only [List.map_cons, List.map_nil] <;> exact rfl) ?_))
          (refine wlk ?_; intros)
          refine HO.call (ps := [chsP l wd most b, .agg [iv (en : Int), bv m9, iv k]]) (R := fun p L' => p = chP l (en + 1) rr ∧ GoodL l wd most L') rfl rfl ⟨_, Try.func76, rfl, rfl⟩ rfl ?_ ?_ HIH.out ?_
          · intro x e
            cases e
            decide
          · dsimp only
            (simp (disch := (first | omega | (simp only [push_cast]; first | done | omega))) only [push_cast, ↓reduceIte, Nat.reduceEqDiff, Nat.reduceBEq, Nat.reduceAdd, Nat.reduceSub, Int.reduceToNat, *] <;> with_reducible exact rfl)
          · rintro p L3 ⟨rfl, hL3⟩
            rw [HP2.out]
            have HL3 := Lib.hid hL3
            clear hL3
            refine HO.pre (imm := ⟨[], [], []⟩) 2 GBst_ok (by kernel_rfl) (by simp only [List.take_succ_cons, List.take_zero] <;> exact rfl) (by simp only [List.drop_succ_cons, List.drop_zero] <;> exact rfl) (by simp only [List.map_cons, List.map_nil] <;> exact rfl) ?_
            dsimp only [AS.put]
            (refine wlk ?_; intros)
            refine HO.nil ?_
            refine HY.cut (Lf := [(0, chsP l wd most b), (3, .own 0 3 0 0), (4, .own 1 4 0 0), (7, .own 3 4 0 0), (8, iv (en : Int)), (9, iv c9), (10, .own y 3 0 0), (11, .own (y + 1) 4 0 0)]) (O := [(0, 105, 3, [.agg [iv ((a : Int) - 1), bv mk, iv lk]]), (1, 107, 4, [.agg [iv 0, iv 0, bv false, iv 0]]), (3, 107, 4, [.agg [iv (aC R), iv (aN R), bv (aM l R), iv (aK R)]]), (y, 105, 3, [.agg [iv (en : Int), bv m9, iv k]]), (y + 1, 107, 4, [.agg [iv c2, iv n2, bv m2, iv k2]])]) (x := y + 2) (by exact agr) (by exact agr) rfl ?_
            rcases HC2.out with ⟨hr, rfl⟩ | ⟨r, hr, rfl⟩
            · have hN := Lib.hid (HB.out.2.1 hr)
              clear hr
              refine HY.eng mixed GBst_ok (by kernel_rfl) ?_
              (refine wlk ?_; intros)
              refine HY.eng mixed GBst_ok (by kernel_rfl) ?_
              dsimp only
              (refine wlk ?_; intros)
              (try dsimp only)
              refine ⟨(j + 1, y + 2), ⟨by dsimp only; omega, by dsimp only; omega, L3, rfl, HL3.out⟩, by dsimp only; omega, ?_, ?_, rfl⟩
              · dsimp only
                exact agi
              · dsimp only
                rw [hN.out]
                (try simp only [aC, aN, aM, aK, HME.out])
                exact agr
            · have hN1 := HB.out.1 r hr
              have hr1 := (HB.out.2.2.1 r hr).1
              have hRR := HB.out.2.2.2
              clear hr
              generalize r.1 = r1 at *
              cases R with
              | none =>
                have hN := Lib.hid (hN1.trans (if_pos rfl))
                clear hN1 hRR
                dsimp only [aC, aN, aM, aK]
                refine HY.eng mixed GBst_ok (by kernel_rfl) ?_
                (refine wlk ?_; intros)
                refine HY.eng mixed GBst_ok (by kernel_rfl) ?_
                dsimp only
                (refine wlk ?_; intros)
                (try dsimp only)
                refine ⟨(j + 1, y + 2), ⟨by dsimp only; omega, by dsimp only; omega, L3, rfl, HL3.out⟩, by dsimp only; omega, ?_, ?_, rfl⟩
                · dsimp only
                  exact agi
                · dsimp only
                  rw [hN.out]
                  (try simp only [aC, aN, aM, aK, HME.out])
                  exact agr
              | some x =>
                have hx1 := hRR x rfl
                clear hRR
                obtain ⟨x1, x2, x3⟩ := x
                dsimp only at hx1
                dsimp only [aC, aN, aM, aK]
                by_cases hlt : c9 + r1 < x1
                · have hN := Lib.hid (hN1.trans (if_pos (by simpa using hlt)))
                  clear hN1
                  refine HY.eng mixed GBst_ok (by kernel_rfl) ?_
                  (refine wlk ?_; intros)
                  refine HY.eng mixed GBst_ok (by kernel_rfl) ?_
                  dsimp only
                  (refine wlk ?_; intros)
                  (try dsimp only)
                  refine ⟨(j + 1, y + 2), ⟨by dsimp only; omega, by dsimp only; omega, L3, rfl, HL3.out⟩, by dsimp only; omega, ?_, ?_, rfl⟩
                  · dsimp only
                    exact agi
                  · dsimp only
                    rw [hN.out]
                    (try simp only [aC, aN, aM, aK, HME.out])
                    exact agr
                · have hN := Lib.hid (hN1.trans (if_neg (by simpa using hlt)))
                  clear hN1
                  refine HY.eng mixed GBst_ok (by kernel_rfl) ?_
                  (refine wlk ?_; intros)
                  refine HY.eng mixed GBst_ok (by kernel_rfl) ?_
                  dsimp only
                  (refine wlk ?_; intros)
                  (try dsimp only)
                  refine ⟨(j + 1, y + 2), ⟨by dsimp only; omega, by dsimp only; omega, L3, rfl, HL3.out⟩, by dsimp only; omega, ?_, ?_, rfl⟩
                  · dsimp only
                    exact agi
                  · dsimp only
                    rw [hN.out]
                    (try simp only [aC, aN, aM, aK, HME.out])
                    exact agr
      · refine HY.seq (HY.eng mixed GBst_ok (by kernel_rfl) ?_)
        obtain rfl : j = l.length - a := by omega
        have hR := (bestA_eq (wd := wd) (most := most) (lk := lk) hal).symm
        dsimp only
        rw [hR, show (l.length : Int) - 1 - ((l.length - a : Nat) : Int) = (a : Int) - 1 by omega]
        generalize hrr : bestA l wd most a lk = R at *
        have HRR := Lib.hid hrr
        clear hR hrr
        obtain ⟨kl, hkl⟩ := keyOf_le (mk := mk) hkn hkk
        have HKL := Lib.hid hkl
        clear hkl
        (refine wlk ?_; intros)
        refine HY.seq (HY.updD2 6 mixed GBst_ok leKeyed leMap (by simp only [List.take_succ_cons, List.take_zero] <;> exact rfl) (by simp only [List.drop_succ_cons, List.drop_zero] <;> exact rfl) (by simp only [List.map_cons, List.map_nil] <;> exact rfl) (by kernel_rfl) (by kernel_rfl) (by kernel_rfl) rfl ?_)
        (try dsimp only)
        (refine wlk ?_; intros)
        refine ⟨keyV ((a : Int) - 1) mk lk, chV l a R, kl, by (simp (disch := (first | omega | (simp only [push_cast]; first | done | omega))) only [push_cast, ↓reduceIte, Nat.reduceEqDiff, Nat.reduceBEq, Nat.reduceAdd, Nat.reduceSub, Int.reduceToNat, *] <;> with_reducible exact rfl), ?_, ?_, HKL.out, fun L9 hu => ?_⟩
        · refine Eq.trans (congrArg toVal (show _ = PV.agg [iv ((a : Int) - 1), bv mk, iv lk] by (simp (disch := (first | omega | (simp only [push_cast]; first | done | omega))) only [push_cast, ↓reduceIte, Nat.reduceEqDiff, Nat.reduceBEq, Nat.reduceAdd, Nat.reduceSub, Int.reduceToNat, *] <;> with_reducible exact rfl))) rfl
        · refine Eq.trans (congrArg toVal (show _ = chP l a R by rw [chP_ne han]; (simp (disch := (first | omega | (simp only [push_cast]; first | done | omega))) only [push_cast, ↓reduceIte, Nat.reduceEqDiff, Nat.reduceBEq, Nat.reduceAdd, Nat.reduceSub, Int.reduceToNat, *] <;> with_reducible exact rfl))) (toVal_ch l a R)
        have hG : GoodL l wd most L9 := HL2.out.upd hal hlk (by rw [← HMK.out, HRR.out]; exact hu)
        replace hG := Lib.hid hG
        clear hu
        (try dsimp only)
        refine HY.seq (HY.eng mixed GBst_ok (by kernel_rfl) ?_)
        (try dsimp only)
        (refine wlk ?_; intros)
        refine HY.eng mixed GBst_ok (by kernel_rfl) ?_
        (refine wlk ?_; intros)
        (try dsimp only)
        refine ⟨.inr rfl, _, _, L9, ?_, toVal_ch l a R, rfl, rfl, hG.out⟩
        rw [chP_ne han]
        exact agr
end Go.Proofs.Ytngcedklbinhjaa
namespace Go.Proofs.Ytngcedklbinhjaa
open Go.RowKit
set_option linter.all false
structure BkI (l : List It) (wd most : Int) (a : Nat) (lk : Int) (br : List Int) : Prop where
  le : a ≤ l.length
  lk0 : 0 ≤ lk ∧ lk ≤ 3
  len : br.length ≤ a
  pos : 0 < a → 0 < br.length
  ok : (bestA l wd most a lk).isSome = (bestA l wd most 0 1).isSome
  go : (bestA l wd most 0 1).isSome = true → brkList l wd most = br ++ bkF l wd most (l.length + 1 - br.length) a lk
theorem BkI.start (l : List It) (wd most : Int) : BkI l wd most 0 0 [] := ⟨Nat.zero_le _, by decide, Nat.le_refl _, fun h => by omega, by rw [bestA_first 0 1], fun _ => by
  show brkList l wd most = bkF l wd most (l.length + 1) 0 0
  unfold brkList
  rw [bkF, bkF, bestA_first 1 0]⟩
theorem BkI.next {l : List It} {wd most : Int} {a : Nat} {lk : Int} {br : List Int} {r : Ch} (h : BkI l wd most a lk br) (hl : itemsB l = true) (hm : most ≤ 10000) (ha : a < l.length) (hr : bestA l wd most a lk = some r) : BkI l wd most (r.2.1 + 1) r.2.2 (br ++ [(r.2.1 : Int)]) := by
  obtain ⟨h1, h2⟩ := bestA_bound hl hm h.le hr
  obtain ⟨h3, h4⟩ := h2 ha
  obtain ⟨x, c0, h5, h6⟩ := bestA_next ha hr
  have hok := h.ok
  rw [hr] at hok
  have h7 := h.len
  refine ⟨by omega, h4, by rw [List.length_append, List.length_singleton]; omega, fun _ => by simp, by rw [h5, ← hok]; rfl, fun hs => ?_⟩
  rw [h.go hs, show l.length + 1 - br.length = (l.length - br.length) + 1 by omega, bkF_step (by omega) hr]
  simp
theorem BkI.last {l : List It} {wd most : Int} {lk : Int} {br : List Int} (h : BkI l wd most l.length lk br) : (bestA l wd most 0 1).isSome = true ∧ brkList l wd most = br := by
  have h1 := h.ok
  rw [bestA_end] at h1
  have h2 : (bestA l wd most 0 1).isSome = true := h1.symm
  refine ⟨h2, ?_⟩
  rw [h.go h2, bkF_end, List.append_nil]
theorem ze_103 : zeroOf Try.prog 103 = some (.agg #[.slice none 0 0, .int .i64 0, .int .i64 0, .map none]) := by kernel_rfl
theorem pl_103 : structPlaces Try.prog 103 = some #[(0, 1), (1, 1), (2, 1), (3, 1)] := by kernel_rfl
theorem bl_103 (ps : List (Nat × PV)) : evBuild Try.prog 103 ps = (fillP (plF [(0, 1), (1, 1), (2, 1), (3, 1)]) [.val (.slice none 0 0), .val (.int .i64 0), .val (.int .i64 0), .val (.map none)] ps).map .agg := bl_of ze_103 rfl pl_103 ps
theorem reify_chO {ob : Objs} {l : List It} {wd most : Int} {b : Nat} (h : ob 0 = some (103, 4, [.agg [lsIt l, iv wd, iv most, .val (.map (some b))]])) : reify false 0 ob 8 (.own 0 4 0 0) = some (chsP l wd most b) := by
  have h1 : reify false 0 ob 6 (lsIt l) = some (lsIt l) := by (simp (disch := (first | omega | (simp only [push_cast]; first | done | omega))) only [push_cast, ↓reduceIte, Nat.reduceEqDiff, Nat.reduceBEq, Nat.reduceAdd, Nat.reduceSub, Int.reduceToNat, *] <;> with_reducible exact rfl)
  have h2 : reify false 0 ob 7 (.agg [lsIt l, iv wd, iv most, .val (.map (some b))]) = some (.agg [lsIt l, iv wd, iv most, .val (.map (some b))]) := by
    show ([lsIt l, iv wd, iv most, .val (.map (some b))].mapM (reify false 0 ob 6)).map PV.agg = _
    simp only [List.mapM_cons, List.mapM_nil, h1]
    rfl
  show (if false = true ∧ 0 < 0 then none else match ob 0 with
      | some (_, sz', es) => if 4 = sz' then (es[0]?).bind fun e => (reify false 0 ob 7 e).map (PV.ptr false · 0) else none
      | none => none) = _
  rw [if_neg (by decide), h]
  dsimp only
  rw [if_pos rfl]
  show (reify false 0 ob 7 (.agg [lsIt l, iv wd, iv most, .val (.map (some b))])).map (PV.ptr false · 0) = _
  rw [h2]
  rfl
theorem cl_map (m : Option Nat) : cellsL (.val (.map m)) = some [.val (.map m)] := rfl
attribute [push_cast]
  bl_103 cl_map
noncomputable def GBki : Ctx := { fn := fun f => if f = 75 then some φLa else none, io := fun f => none }
theorem GBki_ok : SoundΓ Try.prog GBki := ⟨(fun f φ h => by
  unfold GBki at h
  dsimp only at h
  split at h
  · rename_i hf; cases h; subst hf; exact ⟨⟨_, Try.func75, rfl, rfl⟩, implLa_ok⟩
  cases h), (fun f φ h => by
  unfold GBki at h
  dsimp only at h
  cases h), rfl⟩
theorem GBki_75 (ob : Objs) (ps : List PV) : evCall GBki ob 75 ps = (ps.mapM (reify false 0 ob fuel)).bind φLa := by
  have h : GBki.fn 75 = some φLa := by simp [GBki]
  unfold evCall
  rw [h]
  cases ps.mapM (reify false 0 ob fuel) <;> rfl
set_option maxHeartbeats 16000000 in
set_option maxRecDepth 100000 in
theorem implBk_ok : Sound Try.prog 40 φBb := by
  refine HY.sound (k := 105) (N := 44) (rs := [.tmp 6, .tmp 7]) Try.func40 rfl rfl rfl fun ps r hr => ?_
  obtain ⟨l, wd, most, rfl, hq⟩ := F3_some hr
  clear hr
  split at hq
  case isFalse => cases hq
  case isTrue hpre =>
  cases hq
  refine ⟨by simp, ?_⟩
  simp only [dIs, dUs, dSs, dI_e, dU_e, dB_e, dS_e, dFn_e, dL_e, dA2_e, dA3_e, dA4_e, dA5_e]
  intro B w00
  show HY _ _ _ _ _ _ _ (initS [lsIt l, .val (.int .i64 wd), .val (.int .i64 most)]) _
  refine HY.start ?_
  have apa := φLa_ap (wd := wd) (most := most) hpre
  have hl0 : l.length ≤ 1000 := hpre
  clear hpre
  have hll : ((l.map pvIt).length : Int) = (l.length : Int) := by simp
  unfold brkR
  refine HY.seq (HY.eng mixed GBki_ok (by kernel_rfl) ?_)
  by_cases hg : itemsB l = true ∧ 0 < l.length ∧ (0 ≤ wd ∧ wd ≤ 1000) ∧ (0 ≤ most ∧ most ≤ 10000)
  · obtain ⟨hB, hpos, hw, hm⟩ := hg
    have hok : brkOk l wd most = (bestA l wd most 0 1).isSome := by
      unfold brkOk
      rw [hB, decide_eq_true hpos, inB_iff.2 hw, inB_iff.2 hm]
      simp
    rw [hok]
    rw [hB, decide_eq_true hpos, inB_iff.2 hw, inB_iff.2 hm] at apa
    simp only [Bool.and_self] at apa
    clear hok
    have gbki_c75 := GBki_75
    (refine wlk ?_; intros)
    refine HY.seq (HY.eng mixed GBki_ok (by kernel_rfl) ?_)
    dsimp only
    (refine wlk ?_; intros)
    refine HY.seq (HY.each (HO.pre (imm := ⟨[], [], []⟩) 3 GBki_ok (by kernel_rfl) (by simp only [List.take_succ_cons, List.take_zero] <;> exact rfl) (by simp only [List.drop_succ_cons, List.drop_zero] <;> exact rfl) (by simp only [List.map_cons, List.map_nil] <;> exact rfl) ?_))
    dsimp only
    (refine wlk ?_; intros)
    refine HO.make rfl rfl (by decide) rfl fun b hb => ?_
    dsimp only [AS.put]
    refine HO.pre (imm := ⟨[], [], []⟩) 3 GBki_ok (by kernel_rfl) (by simp only [List.take_succ_cons, List.take_zero] <;> exact rfl) (by simp only [List.drop_succ_cons, List.drop_zero] <;> exact rfl) (by simp only [List.map_cons, List.map_nil] <;> exact rfl) ?_
    dsimp only
    (refine wlk ?_; intros)
    refine HO.nil ?_
    refine HY.seq (HY.eng mixed GBki_ok (by kernel_rfl) ?_)
    (try dsimp only)
    (refine wlk ?_; intros)
    refine HY.seq (HY.eng mixed GBki_ok (by kernel_rfl) ?_)
    (try dsimp only)
    (refine wlk ?_; intros)
    (try dsimp only)
    refine HY.seq (HY.block (HY.loopA (α := Nat × Int × List Int × Nat × Nat) (fun i => [(0, lsIt l), (8, .own 0 4 0 0), (9, .own 1 3 0 0), (10, nP 1 (i.2.2.1.map pvN) i.2.2.2.1)])
      (fun i => [(0, 103, 4, [.agg [lsIt l, iv wd, iv most, .val (.map (some b))]]), (1, 105, 3, [.agg [iv ((i.1 : Int) - 1), bv (mkA l i.1), iv i.2.1]])] ++ nO 3 1 (i.2.2.1.map pvN) i.2.2.2.1)
      (fun i => i.2.2.2.2) (fun i σ => BkI l wd most i.1 i.2.1 i.2.2.1 ∧ (2 ≤ i.2.2.2.2 ∧ (i.2.2.1 ≠ [] → 2 ≤ i.2.2.2.1 ∧ i.2.2.2.1 < i.2.2.2.2)) ∧ ∃ L', σ = some (b, L') ∧ GoodL l wd most L') (fun i => l.length - i.1) (0, 0, [], 0, 2) ⟨BkI.start l wd most, ⟨by decide, fun h => absurd rfl h⟩, [], rfl, fun p hp => by cases hp⟩ ?_ ?_ rfl ?_))
    · dsimp only
      exact agi
    · dsimp only
      rw [show ((0 : Nat) : Int) - 1 = -1 from rfl, show mkA l 0 = false from rfl]
      simp (disch := (first | omega | (simp only [push_cast]; first | done | omega))) only [push_cast, ↓reduceIte, Nat.reduceEqDiff, Nat.reduceBEq, Nat.reduceAdd, Nat.reduceSub, Int.reduceToNat, List.map_nil, List.append_nil, *]
    rintro ⟨a, lk, br, x, y⟩ σ ⟨hI, ⟨hy, hx⟩, L', rfl, hG⟩
    dsimp only at hI hy hx
    have HI := Lib.hid hI
    have HG := Lib.hid hG
    have hle := hI.le
    have hlk := hI.lk0
    have hbl := hI.len
    clear hI hG
    have ih := fun (h : a ≤ l.length) => best_any hB hpos hw hm (l.length - a) a lk rfl h hlk b L' HG.out
    have IH := Lib.hid (ih hle)
    clear ih
    dsimp only
    refine HY.seq (HY.eng mixed GBki_ok (by kernel_rfl) ?_)
    by_cases hal : a < l.length
    · by_cases hnil : br = []
      · skip
        subst hnil
        simp only [List.map_nil, nP_nil, nO_nil, List.append_nil]
        (refine wlk ?_; intros)
        refine HY.block (HY.seq (HY.each (HO.pre (imm := ⟨[], [], []⟩) 2 GBki_ok (by kernel_rfl) (by simp only [List.take_succ_cons, List.take_zero] <;> exact rfl) (by simp only [List.drop_succ_cons, List.drop_zero] <;> exact rfl) (by simp only [List.map_cons, List.map_nil] <;> exact rfl) ?_)))
        (try dsimp only)
        (refine wlk ?_; intros)
        refine HO.call (ps := [chsP l wd most b, .agg [iv ((a : Int) - 1), bv (mkA l a), iv lk]]) (R := fun p L' => p = chP l a (bestA l wd most a lk) ∧ GoodL l wd most L') rfl rfl ⟨_, Try.func76, rfl, rfl⟩ rfl ?_ ?_ IH.out ?_
        · intro x e
          cases e
          decide
        · (try dsimp only)
          simp (disch := (first | omega | (simp only [push_cast]; first | done | omega))) only [push_cast, ↓reduceIte, Nat.reduceEqDiff, Nat.reduceBEq, Nat.reduceAdd, Nat.reduceSub, Int.reduceToNat, reify_chO (l := l) (wd := wd) (most := most) (b := b), *]
        rintro p L3 ⟨rfl, hL3⟩
        rw [chP_ne (show ¬ a = l.length by omega)]
        have HL3 := Lib.hid hL3
        clear hL3
        cases hr : bestA l wd most a lk with
        | none =>
          have hno : (bestA l wd most 0 1).isSome = false := by rw [← HI.out.ok, hr]; rfl
          rw [hno, if_neg (by decide)]
          dsimp only [aC, aN, aM, aK, AS.put]
          refine HO.pre (imm := ⟨[], [], []⟩) 2 GBki_ok (by kernel_rfl) (by simp only [List.take_succ_cons, List.take_zero] <;> exact rfl) (by simp only [List.drop_succ_cons, List.drop_zero] <;> exact rfl) (by simp only [List.map_cons, List.map_nil] <;> exact rfl) ?_
          (try dsimp only)
          (refine wlk ?_; intros)
          refine HO.nil ?_
          refine HY.seq (HY.eng mixed GBki_ok (by kernel_rfl) ?_)
          (try dsimp only)
          (refine wlk ?_; intros)
          refine ⟨by simp, ⟨_, tup_le (ps := [.val (.slice none 0 0), bv false]) ⟨nil_le _ _, PV.le_refl _, trivial⟩, ?_⟩, fun b2 L2 e => by cases e; exact hb⟩
          (simp (disch := (first | omega | (simp only [push_cast]; first | done | omega))) only [push_cast, ↓reduceIte, Nat.reduceEqDiff, Nat.reduceBEq, Nat.reduceAdd, Nat.reduceSub, Int.reduceToNat, *] <;> with_reducible exact rfl)
        | some r =>
          have hn := HI.out.next hB hm.2 hal hr
          replace hn := Lib.hid hn
          have hr1 := (bestA_bound hB hm.2 hle hr).1
          have hr2 := ((bestA_bound hB hm.2 hle hr).2 hal).1
          clear hr
          obtain ⟨r1, r2, r3⟩ := r
          dsimp only at hr1 hr2
          dsimp only [aC, aN, aM, aK, AS.put]
          refine HO.pre (imm := ⟨[], [], []⟩) 2 GBki_ok (by kernel_rfl) (by simp only [List.take_succ_cons, List.take_zero] <;> exact rfl) (by simp only [List.drop_succ_cons, List.drop_zero] <;> exact rfl) (by simp only [List.map_cons, List.map_nil] <;> exact rfl) ?_
          (try dsimp only)
          (refine wlk ?_; intros)
          refine HO.nil ?_
          refine HY.seq (HY.eng mixed GBki_ok (by kernel_rfl) ?_)
          (try dsimp only)
          (refine wlk ?_; intros)
          refine HY.eng mixed GBki_ok (by kernel_rfl) ?_
          (try dsimp only)
          (refine wlk ?_; intros)
          (try dsimp only)
          show ∃ j : Nat × Int × List Int × Nat × Nat, _
          refine ⟨(r2 + 1, r3, [(r2 : Int)], y + 2, y + 3), ⟨hn.out, ⟨by dsimp only; omega, fun _ => ⟨by dsimp only; omega, by dsimp only; omega⟩⟩, L3, rfl, HL3.out⟩, by dsimp only; omega, ?_, ?_, rfl⟩
          · dsimp only
            rw [nP_pos (by simp)]
            exact agi
          · dsimp only
            rw [nO_pos (by simp), show mkA l (r2 + 1) = (gI l r2).2.2.2.2.2.2 from rfl]
            simp (disch := (first | omega | (simp only [push_cast]; first | done | omega))) only [push_cast, ↓reduceIte, Nat.reduceEqDiff, Nat.reduceBEq, Nat.reduceAdd, Nat.reduceSub, Int.reduceToNat, List.cons_append, List.nil_append, *]
      · skip
        have hbp : 0 < (br.map pvN).length := by rw [List.length_map]; exact List.length_pos_iff.2 hnil
        obtain ⟨hx2, hxy⟩ := hx hnil
        rw [nP_pos hbp, nO_pos hbp, List.length_map]
        simp only [List.cons_append, List.nil_append]
        have hx0 : ¬ x = 0 := by omega
        have hx1 : ¬ x = 1 := by omega
        have hxy2 : ¬ x = y := by omega
        have hyx : ¬ y = x := by omega
        (refine wlk ?_; intros)
        refine HY.block (HY.seq (HY.each (HO.pre (imm := ⟨[], [], []⟩) 2 GBki_ok (by kernel_rfl) (by simp only [List.take_succ_cons, List.take_zero] <;> exact rfl) (by simp only [List.drop_succ_cons, List.drop_zero] <;> exact rfl) (by simp only [List.map_cons, List.map_nil] <;> exact rfl) ?_)))
        (try dsimp only)
        (refine wlk ?_; intros)
        refine HO.call (ps := [chsP l wd most b, .agg [iv ((a : Int) - 1), bv (mkA l a), iv lk]]) (R := fun p L' => p = chP l a (bestA l wd most a lk) ∧ GoodL l wd most L') rfl rfl ⟨_, Try.func76, rfl, rfl⟩ rfl ?_ ?_ IH.out ?_
        · intro x e
          cases e
          decide
        · (try dsimp only)
          simp (disch := (first | omega | (simp only [push_cast]; first | done | omega))) only [push_cast, ↓reduceIte, Nat.reduceEqDiff, Nat.reduceBEq, Nat.reduceAdd, Nat.reduceSub, Int.reduceToNat, reify_chO (l := l) (wd := wd) (most := most) (b := b), *]
        rintro p L3 ⟨rfl, hL3⟩
        rw [chP_ne (show ¬ a = l.length by omega)]
        have HL3 := Lib.hid hL3
        clear hL3
        cases hr : bestA l wd most a lk with
        | none =>
          have hno : (bestA l wd most 0 1).isSome = false := by rw [← HI.out.ok, hr]; rfl
          rw [hno, if_neg (by decide)]
          dsimp only [aC, aN, aM, aK, AS.put]
          refine HO.pre (imm := ⟨[], [], []⟩) 2 GBki_ok (by kernel_rfl) (by simp only [List.take_succ_cons, List.take_zero] <;> exact rfl) (by simp only [List.drop_succ_cons, List.drop_zero] <;> exact rfl) (by simp only [List.map_cons, List.map_nil] <;> exact rfl) ?_
          (try dsimp only)
          (refine wlk ?_; intros)
          refine HO.nil ?_
          refine HY.seq (HY.eng mixed GBki_ok (by kernel_rfl) ?_)
          (try dsimp only)
          (refine wlk ?_; intros)
          refine ⟨by simp, ⟨_, tup_le (ps := [.val (.slice none 0 0), bv false]) ⟨nil_le _ _, PV.le_refl _, trivial⟩, ?_⟩, fun b2 L2 e => by cases e; exact hb⟩
          (simp (disch := (first | omega | (simp only [push_cast]; first | done | omega))) only [push_cast, ↓reduceIte, Nat.reduceEqDiff, Nat.reduceBEq, Nat.reduceAdd, Nat.reduceSub, Int.reduceToNat, *] <;> with_reducible exact rfl)
        | some r =>
          have hn := HI.out.next hB hm.2 hal hr
          replace hn := Lib.hid hn
          have hr1 := (bestA_bound hB hm.2 hle hr).1
          have hr2 := ((bestA_bound hB hm.2 hle hr).2 hal).1
          clear hr
          obtain ⟨r1, r2, r3⟩ := r
          dsimp only at hr1 hr2
          dsimp only [aC, aN, aM, aK, AS.put]
          refine HO.pre (imm := ⟨[], [], []⟩) 2 GBki_ok (by kernel_rfl) (by simp only [List.take_succ_cons, List.take_zero] <;> exact rfl) (by simp only [List.drop_succ_cons, List.drop_zero] <;> exact rfl) (by simp only [List.map_cons, List.map_nil] <;> exact rfl) ?_
          (try dsimp only)
          (refine wlk ?_; intros)
          refine HO.nil ?_
          refine HY.seq (HY.eng mixed GBki_ok (by kernel_rfl) ?_)
          (try dsimp only)
          (refine wlk ?_; intros)
          refine HY.eng mixed GBki_ok (by kernel_rfl) ?_
          (try dsimp only)
          (refine wlk ?_; intros)
          (try dsimp only)
          show ∃ j : Nat × Int × List Int × Nat × Nat, _
          refine ⟨(r2 + 1, r3, br ++ [(r2 : Int)], y + 2, y + 3), ⟨hn.out, ⟨by dsimp only; omega, fun _ => ⟨by dsimp only; omega, by dsimp only; omega⟩⟩, L3, rfl, HL3.out⟩, by dsimp only; omega, ?_, ?_, rfl⟩
          · dsimp only
            rw [nP_pos (by simp)]
            exact agi
          · dsimp only
            rw [nO_pos (by simp), show mkA l (r2 + 1) = (gI l r2).2.2.2.2.2.2 from rfl]
            simp (disch := (first | omega | (simp only [push_cast]; first | done | omega))) only [push_cast, ↓reduceIte, Nat.reduceEqDiff, Nat.reduceBEq, Nat.reduceAdd, Nat.reduceSub, Int.reduceToNat, List.cons_append, List.nil_append, *]
    · obtain rfl : a = l.length := by omega
      obtain ⟨hs, hbr⟩ := HI.out.last
      rw [hs, if_pos rfl, hbr]
      have hne : br ≠ [] := fun h => by
        have := HI.out.pos hpos
        rw [h] at this
        simp at this
      have hbp : 0 < (br.map pvN).length := by rw [List.length_map]; exact List.length_pos_iff.2 hne
      obtain ⟨hx2, hxy⟩ := hx hne
      rw [nP_pos hbp, nO_pos hbp, List.length_map]
      simp only [List.cons_append, List.nil_append]
      have hx0 : ¬ x = 0 := by omega
      have hx1 : ¬ x = 1 := by omega
      clear hbr hs
      (refine wlk ?_; intros)
      refine HY.seq (HY.eng mixed GBki_ok (by kernel_rfl) ?_)
      (try dsimp only)
      (refine wlk ?_; intros)
      refine HY.ret ?_
      refine ⟨by simp, ⟨_, PV.le_refl _, ?_⟩, fun b2 L2 e => by cases e; exact hb⟩
      (try dsimp only)
      (simp (disch := (first | omega | (simp only [push_cast]; first | done | omega))) only [push_cast, ↓reduceIte, Nat.reduceEqDiff, Nat.reduceBEq, Nat.reduceAdd, Nat.reduceSub, Int.reduceToNat, *] <;> with_reducible exact rfl)
  · have hno : brkOk l wd most = false := by
      cases h : brkOk l wd most with
      | false => rfl
      | true =>
        obtain ⟨h1, h2, h3, h4, -⟩ := brkOk_iff.1 h
        exact absurd ⟨h1, h2, h3, h4⟩ hg
    have hno2 : (itemsB l && (decide (0 < l.length) && (inB wd 0 1000 && inB most 0 10000))) = false := by
      cases h : (itemsB l && (decide (0 < l.length) && (inB wd 0 1000 && inB most 0 10000))) with
      | false => rfl
      | true =>
        simp only [Bool.and_eq_true, decide_eq_true_eq, inB_iff] at h
        exact absurd h hg
    rw [hno, if_neg (by decide)]
    rw [hno2] at apa
    clear hno hno2 hg
    have gbki_c75 := GBki_75
    (refine wlk ?_; intros)
    refine HY.seq (HY.eng mixed GBki_ok (by kernel_rfl) ?_)
    (try dsimp only)
    (refine wlk ?_; intros)
    refine ⟨by simp, ⟨_, tup_le (ps := [.val (.slice none 0 0), bv false]) ⟨nil_le _ _, PV.le_refl _, trivial⟩, ?_⟩, fun b2 L2 e => by cases e⟩
    (simp (disch := (first | omega | (simp only [push_cast]; first | done | omega))) only [push_cast, ↓reduceIte, Nat.reduceEqDiff, Nat.reduceBEq, Nat.reduceAdd, Nat.reduceSub, Int.reduceToNat, *] <;> with_reducible exact rfl)
end Go.Proofs.Ytngcedklbinhjaa
namespace Go.Proofs.Ytngcedklbinhjaa
open Go.RowKit
set_option linter.all false
noncomputable def prgA (ws pats : LS) : Bool := allWords ws && (allPats pats && decide (0 < ws.length))
noncomputable def φPiT : Fun := F2 dSs dSs fun ws pats => if okSs ws ∧ okSs pats then some (.tup [.lst true 7 ((if prgA ws pats = true then piR ws pats else []).map pvIt), .lst true 1 ((if prgA ws pats = true then txR ws pats else []).map fun s => .val (.string s)), bv (prgB ws pats)]) else none
theorem φPiT_ap {ws pats : LS} (h : okSs ws ∧ okSs pats) : φPiT [.lst false 1 (ws.map fun s => .val (.string s)), .lst false 1 (pats.map fun s => .val (.string s))] = some (.tup [.lst true 7 ((if prgA ws pats = true then piR ws pats else []).map pvIt), .lst true 1 ((if prgA ws pats = true then txR ws pats else []).map fun s => .val (.string s)), .val (.bool (prgB ws pats))]) := (F2_ap (A := dSs) (B := dSs) ws pats).trans (if_pos h)
theorem parts_pos {w : ByteArray} {pats : LS} (h1 : wordB w = true) (h2 : allPats pats = true) : 0 < (partsV w pats).length := by
  unfold partsV
  rw [if_pos (hypB_iff.2 ⟨h1, h2⟩)]
  unfold partsR
  rw [ptR_len]
  omega
theorem txK_pos {ws pats : LS} (h1 : allWords ws = true) (h2 : allPats pats = true) : ∀ k, k ≤ ws.length → 0 < k → 0 < (txK ws pats k).length
  | 0, _, h => by omega
  | k + 1, hk, _ => by
    have := parts_pos (pats := pats) (words_at h1 (k := k) (by omega)) h2
    rw [txK, List.length_append]
    omega
theorem piK_pos {ws pats : LS} (h1 : allWords ws = true) (h2 : allPats pats = true) {k : Nat} (hk : k ≤ ws.length) (h : 0 < k) : 0 < (piK ws pats k).length := by
  have h3 := txK_pos h1 h2 k hk h
  rw [← nb_pi] at h3
  exact Nat.lt_of_lt_of_le h3 (List.length_filter_le _ _)
end Go.Proofs.Ytngcedklbinhjaa
