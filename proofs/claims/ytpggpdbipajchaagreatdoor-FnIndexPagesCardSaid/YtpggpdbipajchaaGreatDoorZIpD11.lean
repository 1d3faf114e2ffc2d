/- What the proof rests on, part 11: contracts of functions. No condition beyond what each states. -/
import Derived.Test.YtpggpdbipajchaaGreatDoorZIpD10
namespace Go.Proofs.YtpggpdbipajchaaGreatDoor
open Go.RowKit
set_option linter.all false
noncomputable def φIx : Fun := F1 dWs fun l => if okW l then some (.lst true 1 ((indexR l).map fun s => .val (.string s))) else none
theorem φIx_ap {l : List W2} (h : okW l) : φIx [.lst false 2 (l.map fun x => .agg [.val (.string x.1), .val (.int .i64 x.2)])] = some (.lst true 1 ((indexR l).map fun s => .val (.string s))) := (F1_ap (A := dWs) l).trans (if_pos h)
def lastU (l : List W2) (k : Nat) : ByteArray := if k = 0 then ⟨#[]⟩ else (wordsU l)[k - 1]?.getD ⟨#[]⟩
theorem idx_take {l : List W2} {k : Nat} (h : k < (wordsU l).length) : (idxR l).take (k + 1) = (idxR l).take k ++ [lineU l ((wordsU l)[k]?.getD ⟨#[]⟩)] := by
  unfold idxR
  rw [List.map_take.symm, List.map_take.symm, List.take_succ_eq_append_getElem h, List.map_append, List.getElem?_eq_getElem h, Option.getD_some]
  rfl
def fndU (l : List W2) (w : ByteArray) (p : Int) (j : Nat) : Bool := hasP (l.take j) w p
theorem fndU_succ {l : List W2} {w : ByteArray} {p : Int} {j : Nat} (h : j < l.length) : fndU l w p (j + 1) = (fndU l w p j || decide ((l[j]?.getD w0).1 = w ∧ (l[j]?.getD w0).2 = p)) := by
  unfold fndU hasP
  rw [List.take_succ_eq_append_getElem h, List.any_append, List.getElem?_eq_getElem h, Option.getD_some]
  simp
noncomputable def GIxS : Ctx := { fn := fun f => if f = 17 then some φIndexValid else if f = 18 then some φPt else none, io := fun f => none }
theorem GIxS_ok : SoundΓ Tryz.prog GIxS := ⟨(fun f φ h => by
  unfold GIxS at h
  dsimp only at h
  split at h
  · rename_i hf; cases h; subst hf; exact ⟨⟨_, Tryz.func17, rfl, rfl⟩, specIndexValid_ok⟩
  split at h
  · rename_i hf; cases h; subst hf; exact ⟨⟨_, Tryz.func18, rfl, rfl⟩, specPt_ok⟩
  cases h), (fun f φ h => by
  unfold GIxS at h
  dsimp only at h
  cases h), rfl⟩
theorem GIxS_17 (ob : Objs) (ps : List PV) : evCall GIxS ob 17 ps = (ps.mapM (reify false 0 ob fuel)).bind φIndexValid := by
  have h : GIxS.fn 17 = some φIndexValid := by simp [GIxS]
  unfold evCall
  rw [h]
  cases ps.mapM (reify false 0 ob fuel) <;> rfl
theorem GIxS_18 (ob : Objs) (ps : List PV) : evCall GIxS ob 18 ps = (ps.mapM (reify false 0 ob fuel)).bind φPt := by
  have h : GIxS.fn 18 = some φPt := by simp [GIxS]
  unfold evCall
  rw [h]
  cases ps.mapM (reify false 0 ob fuel) <;> rfl
set_option maxHeartbeats 32000000 in
set_option maxRecDepth 100000 in
theorem specIx_ok : Sound Tryz.prog 7 φIx := by
  refine sound_pq mixed GIxS_ok Tryz.func7 rfl 93 rfl [.tmp 2] rfl (by kernel_rfl) fun ps r hr => ?_
  obtain ⟨l, rfl, hq⟩ := F1_some hr
  clear hr
  split at hq
  case isFalse => cases hq
  case isTrue hpre =>
  cases hq
  refine ⟨by simp, ?_⟩
  simp only [dIs, dUs, dSs, dI_e, dU_e, dB_e, dS_e, dFn_e, dL_e, dA2_e, dA3_e, dA4_e, dA5_e]
  have apv := φIndexValid_ap hpre
  have hl0 := hpre.1
  unfold indexR
  cases hv : indexB l with
  | false =>
    rw [hv] at apv
    clear hpre hv
    rw [if_neg (by decide)]
    have gixs_c17 := GIxS_17; have gixs_c18 := GIxS_18
    (refine wlk ?_; intros)
    refine i_loop (α := Unit) mixed (fun _ => [(0, .lst false 2 (l.map fun x => .agg [.val (.string x.1), .val (.int .i64 x.2)])), (3, .row 0 1 0 0)]) (fun _ => [(0, 9, 1, [])]) (fun _ => 1) (fun _ => True) (fun _ => 0) (by kernel_rfl) () trivial ?_ ?_ rfl ?_
    · exact agr
    · exact agr
    rintro _ _
    exact wlkF
  | true =>
    rw [hv] at apv
    rw [if_pos rfl]
    obtain ⟨hl30, hall⟩ := indexB_iff.1 hv
    have hne : ∀ x ∈ l, ¬ x.1 = ⟨#[]⟩ := fun x hx e => by
      have h1 := (wordB_letters (hall x hx).1).2.1
      rw [e] at h1
      exact absurd h1 (by decide)
    have hwl := wordsU_len l
    have hnx := fun next (k : Nat) hk h => NextI.done (l := l) (k := k) (next := next) hne h hk
    have hsz : ∀ j : Nat, (l[j]?.getD w0).1.size ≤ 20 := fun j => by
      by_cases hj : j < l.length
      · exact (wordB_letters (hall _ (getW hj)).1).2.2
      · rw [List.getElem?_eq_none (by omega)]; decide
    have hne2 : ∀ j : Nat, j < l.length → ¬ (l[j]?.getD w0).1 = ⟨#[]⟩ := fun j hj => hne _ (getW hj)
    have hlz : ∀ k : Nat, k < (wordsU l).length → (lineU l ((wordsU l)[k]?.getD ⟨#[]⟩)).size ≤ 360 ∧ ((wordsU l)[k]?.getD ⟨#[]⟩).size ≤ 20 := fun k hk => by
      rw [List.getElem?_eq_getElem hk, Option.getD_some]
      exact ⟨lineU_size hv (List.getElem_mem hk), (wordB_letters (wordsU_word hv _ (List.getElem_mem hk))).2.2⟩
    have hpz : ∀ w, (pagesT (pagesU l w)).size ≤ 330 := fun w => pagesT_size30 (pagesU_valid hl30 w)
    have apt := fun w => φPt_ap (l := pagesU l w) (by have := @pagesN_len l w 999; show (pagesN l w 999).length ≤ _; omega)
    have hpl := fun w n => @pagesN_len l w n
    clear hpre hv hall hne
    replace hnx := Lib.hid hnx
    replace apt := Lib.hid apt
    replace hlz := Lib.hid hlz
    replace hpz := Lib.hid hpz
    have hil : (idxR l).length = (wordsU l).length := by unfold idxR; rw [List.length_map]
    have gixs_c17 := GIxS_17; have gixs_c18 := GIxS_18
    (refine wlk ?_; intros)
    refine i_loop (α := Nat × Nat × Nat) mixed (fun i => [(0, .lst false 2 (l.map fun x => .agg [.val (.string x.1), .val (.int .i64 x.2)])), (3, .row i.2.1 1 0 i.1), (4, .val (.string (lastU l i.1)))]) (fun i => [(i.2.1, 9, 1, ((idxR l).take i.1).map fun s => .val (.string s))])
      (fun i => i.2.2) (fun i => i.1 ≤ (wordsU l).length ∧ i.2.1 < i.2.2) (fun i => (wordsU l).length + 1 - i.1) (by kernel_rfl) (0, 0, 1) ⟨Nat.zero_le _, by decide⟩ ?_ ?_ rfl ?_
    · have h0 : lastU l 0 = ⟨#[]⟩ := rfl
      exact agi
    · have h0 : (idxR l).take 0 = [] := rfl
      exact agr
    rintro ⟨k, o, nx⟩ ⟨hk, ho⟩
    dsimp only at hk ho
    have hlen : ((idxR l).take k).length = k := by rw [List.length_take]; omega
    generalize hLS : lastU l k = last at *
    replace hLS := Lib.hid hLS
    (refine wlk ?_; intros)
    refine i_loop (α := Nat × ByteArray) mixed (fun i => [(0, .lst false 2 (l.map fun x => .agg [.val (.string x.1), .val (.int .i64 x.2)])), (3, .row o 1 0 k), (4, .val (.string last)), (5, .val (.string i.2)), (6, iv i.1)]) (fun i => [(o, 9, 1, ((idxR l).take k).map fun s => .val (.string s))])
      (fun _ => nx) (fun i => i.1 ≤ l.length ∧ NextI l last i.2 i.1) (fun i => l.length - i.1) (by kernel_rfl) (0, ⟨#[]⟩) ⟨Nat.zero_le _, NextI.zero l last⟩ ?_ ?_ rfl ?_
    · exact agi
    · exact agr
    rintro ⟨j, next⟩ ⟨hj, hN⟩
    dsimp only at hj hN
    replace hN := Lib.hid hN
    by_cases hjl : j < l.length
    · have hnej := hne2 j hjl
      have hkeep := fun h => hN.out.keep (k := j) h
      have htake := fun h1 h2 => hN.out.take (k := j) hnej h1 h2
      replace hkeep := Lib.hid hkeep
      replace htake := Lib.hid htake
      generalize hxx : l[j]?.getD w0 = xx at *
      obtain ⟨x1, x2⟩ := xx
      dsimp only at hnej hkeep htake
      clear hne2 hsz
      cases c1 : ltB last x1 with
      | false =>
        have hr := Lib.hid (hkeep.out (.inl c1))
        (refine wlk ?_; intros)
        refine ⟨(j + 1, next), ⟨by dsimp only; omega, hr.out⟩, by dsimp only; omega, ?_, ?_, rfl⟩
        · exact agi
        · exact agr
      | true =>
        by_cases c2 : next = ⟨#[]⟩
        · have hr := Lib.hid (htake.out c1 (.inl c2))
          subst c2
          (refine wlk ?_; intros)
          refine ⟨(j + 1, x1), ⟨by dsimp only; omega, hr.out⟩, by dsimp only; omega, ?_, ?_, rfl⟩
          · exact agi
          · exact agr
        · cases c3 : ltB x1 next with
          | false =>
            have hr := Lib.hid (hkeep.out (.inr ⟨c2, c3⟩))
            (refine wlk ?_; intros)
            refine ⟨(j + 1, next), ⟨by dsimp only; omega, hr.out⟩, by dsimp only; omega, ?_, ?_, rfl⟩
            · exact agi
            · exact agr
          | true =>
            have hr := Lib.hid (htake.out c1 (.inr c3))
            (refine wlk ?_; intros)
            refine ⟨(j + 1, x1), ⟨by dsimp only; omega, hr.out⟩, by dsimp only; omega, ?_, ?_, rfl⟩
            · exact agi
            · exact agr
    · obtain rfl : j = l.length := by omega
      have hd := hnx.out next k hk (by
        have h1 := hN.out
        rw [← hLS.out] at h1
        exact h1)
      clear hne2
      by_cases hkw : k = (wordsU l).length
      · have hnn := hd.1.2 hkw
        subst hnn
        have ht : (idxR l).take k = idxR l := List.take_of_length_le (by omega)
        rw [ht] at *
        clear hd
        subst hkw
        exact wlkF
      · have hnn := hd.2 (by omega)
        have hn0 : ¬ next = ⟨#[]⟩ := fun e => hkw (hd.1.1 e)
        have hlk := hlz.out k (by omega)
        rw [← hnn] at hlk
        have htk := idx_take (l := l) (k := k) (by omega)
        rw [← hnn] at htk
        have hls : lastU l (k + 1) = next := by
          unfold lastU
          rw [if_neg (by omega), Nat.add_sub_cancel]
          exact hnn.symm
        have hlu : lineU l next = (next ++ ⟨#[32]⟩) ++ pagesT (pagesU l next) := rfl
        have apn := apt.out next
        have hpn := hpz.out next
        have hplen := hpl next 999
        replace htk := Lib.hid htk
        replace hls := Lib.hid hls
        replace hlu := Lib.hid hlu
        clear hd hnn hlz
        (refine wlk ?_; intros)
        refine i_loop (α := Nat × Nat × Nat) mixed (fun i => [(0, .lst false 2 (l.map fun x => .agg [.val (.string x.1), .val (.int .i64 x.2)])), (3, .row o 1 0 k), (5, .val (.string next)), (7, .row i.2.1 1 0 (pagesN l next i.1).length), (8, iv ((i.1 : Int) + 1))]) (fun i => [(o, 9, 1, ((idxR l).take k).map fun s => .val (.string s)), (i.2.1, 3, 1, (pagesN l next i.1).map fun n => .val (.int .i64 n))])
          (fun i => i.2.2) (fun i => i.1 ≤ 999 ∧ o < i.2.1 ∧ i.2.1 < i.2.2) (fun i => 999 - i.1) (by kernel_rfl) (0, nx, nx + 1) ⟨Nat.zero_le _, ho, by dsimp only; omega⟩ ?_ ?_ rfl ?_
        · have h0 : (pagesN l next 0).length = 0 := rfl
          exact agi
        · have h0 : pagesN l next 0 = [] := rfl
          exact agr
        rintro ⟨n, q, ny⟩ ⟨hn, hq, hqn⟩
        dsimp only at hn hq hqn
        have hoq : ¬ o = q := by omega
        have hqo : ¬ q = o := by omega
        have hpn2 := hpl next n
        by_cases hn9 : n < 999
        · have hyes := fun h => pagesN_yes (l := l) (w := next) (n := n) h
          have hno := fun h => pagesN_no (l := l) (w := next) (n := n) h
          replace hyes := Lib.hid hyes
          replace hno := Lib.hid hno
          (refine wlk ?_; intros)
          refine i_loop (α := Nat) mixed (fun j => [(0, .lst false 2 (l.map fun x => .agg [.val (.string x.1), .val (.int .i64 x.2)])), (3, .row o 1 0 k), (5, .val (.string next)), (7, .row q 1 0 (pagesN l next n).length), (8, iv ((n : Int) + 1)), (9, bv (fndU l next ((n : Int) + 1) j)), (10, iv j)]) (fun i => [(o, 9, 1, ((idxR l).take k).map fun s => .val (.string s)), (q, 3, 1, (pagesN l next n).map fun n => .val (.int .i64 n))])
            (fun _ => ny) (fun j => j ≤ l.length) (fun j => l.length - j) (by kernel_rfl) 0 (Nat.zero_le _) ?_ ?_ rfl ?_
          · have h0 : fndU l next ((n : Int) + 1) 0 = false := rfl
            exact agi
          · exact agr
          intro j hj
          by_cases hjl : j < l.length
          · have hfs := fndU_succ (w := next) (p := (n : Int) + 1) hjl
            replace hfs := Lib.hid hfs
            generalize hxx : l[j]?.getD w0 = xx at *
            obtain ⟨x1, x2⟩ := xx
            generalize fndU l next ((n : Int) + 1) j = F at *
            cases F with
            | true =>
              (refine wlk ?_; intros)
              refine ⟨j + 1, by dsimp only; omega, by dsimp only; omega, ?_, ?_, rfl⟩
              · dsimp only
                rw [hfs.out, Bool.true_or]
                exact agi
              · exact agr
            | false =>
              by_cases c1 : x1 = next
              · by_cases c2 : x2 = (n : Int) + 1
                · have hdd : decide (x1 = next ∧ x2 = (n : Int) + 1) = true := decide_eq_true ⟨c1, c2⟩
                  replace hdd := Lib.hid hdd
                  (refine wlk ?_; intros)
                  refine ⟨j + 1, by dsimp only; omega, by dsimp only; omega, ?_, ?_, rfl⟩
                  · dsimp only
                    rw [hfs.out, Bool.false_or]
                    dsimp only
                    rw [hdd.out]
                    exact agi
                  · exact agr
                · have hdd : decide (x1 = next ∧ x2 = (n : Int) + 1) = false := decide_eq_false fun e => c2 e.2
                  replace hdd := Lib.hid hdd
                  (refine wlk ?_; intros)
                  refine ⟨j + 1, by dsimp only; omega, by dsimp only; omega, ?_, ?_, rfl⟩
                  · dsimp only
                    rw [hfs.out, Bool.false_or]
                    dsimp only
                    rw [hdd.out]
                    exact agi
                  · exact agr
              · have hdd : decide (x1 = next ∧ x2 = (n : Int) + 1) = false := decide_eq_false fun e => c1 e.1
                replace hdd := Lib.hid hdd
                (refine wlk ?_; intros)
                refine ⟨j + 1, by dsimp only; omega, by dsimp only; omega, ?_, ?_, rfl⟩
                · dsimp only
                  rw [hfs.out, Bool.false_or]
                  dsimp only
                  rw [hdd.out]
                  exact agi
                · exact agr
          · obtain rfl : j = l.length := by omega
            have hfa : fndU l next ((n : Int) + 1) l.length = hasP l next ((n : Int) + 1) := by unfold fndU; rw [List.take_length]
            rw [hfa]
            cases hH : hasP l next ((n : Int) + 1) with
            | true =>
              have hy := hyes.out hH
              replace hy := Lib.hid hy
              clear hyes hno hH hfa
              (refine wlk ?_; intros)
              refine ⟨(n + 1, ny + 1, ny + 2), ⟨by dsimp only; omega, by dsimp only; omega, by dsimp only; omega⟩, by dsimp only; omega, ?_, ?_, rfl⟩
              · dsimp only
                rw [hy.out]
                exact agi
              · dsimp only
                rw [hy.out]
                exact agr
            | false =>
              have hy := hno.out hH
              replace hy := Lib.hid hy
              clear hyes hno hH hfa
              (refine wlk ?_; intros)
              refine ⟨(n + 1, q, ny), ⟨by dsimp only; omega, by dsimp only; omega, by dsimp only; omega⟩, by dsimp only; omega, ?_, ?_, rfl⟩
              · dsimp only
                rw [hy.out]
                exact agi
              · dsimp only
                rw [hy.out]
                exact agr
        · obtain rfl : n = 999 := by omega
          have hpU : pagesN l next 999 = pagesU l next := rfl
          rw [hpU] at *
          clear hpU
          generalize pagesU l next = PU at *
          have h32 : (⟨#[32]⟩ : ByteArray).size = 1 := rfl
          (refine wlk ?_; intros)
          refine ⟨(k + 1, ny + 1, ny + 2), ⟨by dsimp only; omega, by dsimp only; omega⟩, by dsimp only; omega, ?_, ?_, rfl⟩
          · dsimp only
            rw [hls.out]
            exact agi
          · dsimp only
            rw [htk.out, hlu.out]
            exact agr
end Go.Proofs.YtpggpdbipajchaaGreatDoor
namespace Go.Proofs.YtpggpdbipajchaaGreatDoor
open Go.RowKit
set_option linter.all false
structure Fgn where
  bk : Nat → Prop
  at_ : World → Prop
  keep : ∀ w w' : World, (∀ i, bk i → w'.heap[i]? = w.heap[i]?) → at_ w → at_ w'
def Fgn.no : Fgn := ⟨fun _ => False, fun _ => True, fun _ _ _ _ => trivial⟩
structure HzC (io : IoS) (w00 w0 : World) (B : Nat) (bk : Nat → Prop) : Prop where
  ne : ∀ i, io.wr i ∨ io.im i ∨ io.it i → ¬ bk i
  lo : ∀ i, io.wr i ∨ io.it i → B ≤ i
  lt : ∀ i, io.wr i → i < w0.heap.size
  hb : ∀ b, bk b → b < w0.heap.size
  sz : B ≤ w0.heap.size
  fr : Fr (fun i => bk i ∨ B ≤ i) w00 w0
  tk : ∀ t ∈ tks, t < B ∧ ¬ bk t
def Zt (P : Program) (N B : Nat) (w00 : World) (s : AS) (σ : Fgn) (a : Act) (w : World) : Prop :=
  (∃ io w0 g, Rel io w0 N g s a w ∧ HzC io w00 w0 B σ.bk) ∧ σ.at_ w
section
variable {P : Program} {N B : Nat} {w00 : World}
theorem HzC.apartI {io : IoS} {w0 : World} {bk : Nat → Prop} (h : HzC io w00 w0 B bk) {g : Gh} {s : AS} {a : Act} {w : World} (hr : Rel io w0 N g s a w) {kk : Bool} {i : Nat} (hi : g.I kk i) : i < w.heap.size ∧ ¬ bk i := by
  refine ⟨hr.lt _ _ hi, ?_⟩
  cases kk with
  | false => exact h.ne i (.inr (.inl (hr.old i hi)))
  | true =>
    rcases hr.new i hi with ⟨h1, _⟩ | h1
    · exact fun e => by have := h.hb i e; omega
    · exact h.ne i (.inr (.inr h1))
theorem HzC.apartO {io : IoS} {w0 : World} {bk : Nat → Prop} (h : HzC io w00 w0 B bk) {g : Gh} {s : AS} {a : Act} {w : World} (hr : Rel io w0 N g s a w) {o : Nat} {c : Nat × Nat × List PV} (ho : s.ob o = some c) : g.β o < w.heap.size ∧ ¬ bk (g.β o) ∧ B ≤ g.β o := by
  obtain ⟨h1, h2, h3, h4⟩ := hr.ob o c ho
  obtain ⟨arr, ha, _⟩ := h4.1
  refine ⟨lt_of_heap ha, ?_, ?_⟩
  · rcases h2 with h2 | h2
    · exact fun e => by have := h.hb _ e; omega
    · exact h.ne _ (.inl h2)
  · rcases h2 with h2 | h2
    · have := h.sz; omega
    · exact h.lo _ (.inl h2)
theorem Rel.rebaseZ {io : IoS} {w0 w w' : World} {bk bk' : Nat → Prop} {g : Gh} {s : AS} {a : Act} (hr : Rel io w0 N g s a w) (hC : HzC io w00 w0 B bk) (hf : Fr bk' w w')
    (h1 : ∀ i, i < w.heap.size → bk' i → bk i) (h2 : ∀ i, bk i → bk' i) (h3 : ∀ b, bk' b → b < w'.heap.size) : ∃ io', Rel io' w' N g s a w' ∧ HzC io' w00 w' B bk' := by
  have hI : ∀ kk i, g.I kk i → w'.heap[i]? = w.heap[i]? := fun kk i hi => by
    obtain ⟨q1, q2⟩ := hC.apartI hr hi
    exact hf.block i q1 fun e => q2 (h1 i q1 e)
  have hsz : B ≤ w.heap.size := Nat.le_trans hC.sz hr.fr.size
  have htk : ∀ t ∈ tks, ¬ bk' t := fun t ht e => (hC.tk t ht).2 (h1 t (by have := (hC.tk t ht).1; omega) e)
  refine ⟨{ wr := fun i => ∃ o, (s.ob o).isSome ∧ i = g.β o, im := g.I false, m := 0, β0 := fun _ => 0, κ0 := fun _ => 0, it := g.I true }, ⟨hr.nt, hr.df, fun t => (hr.tm t).mono (Gh.le_refl g) hI, fun o c ho => ?_, hr.inj, hr.nx, fun kk i hi => Nat.lt_of_lt_of_le (hr.lt kk i hi) hf.size, fun i hi => .inr hi, Fr.refl _ _, fun i hi => hi, ⟨fun o ho => (Nat.not_lt_zero o ho).elim, fun o ho => (Nat.not_lt_zero o ho).elim⟩, fun o ho => False.elim ho, ?_⟩, ⟨fun i hi => ?_, fun i hi => ?_, fun i hi => ?_, h3, Nat.le_trans hsz hf.size, ?_, fun t ht => ⟨(hC.tk t ht).1, htk t ht⟩⟩⟩
  · obtain ⟨k1, k2, k3, k4⟩ := hr.ob o c ho
    obtain ⟨q1, q2, q3⟩ := hC.apartO hr ho
    exact ⟨k1, .inr ⟨o, by simp [ho], rfl⟩, k3, k4.mono (Gh.le_refl g) k1 hI (hf.block _ q1 fun e => q2 (h1 _ q1 e))⟩
  · have t1 : TabF w (fun i => bk' i) := hr.tab.keep hr.fr fun t ht e => htk t ht e
    refine t1.keep hf ?_
    rintro t ht ⟨o, ho, rfl⟩
    obtain ⟨c, hc⟩ := Option.isSome_iff_exists.1 ho
    have := (hC.apartO hr hc).2.2
    have := (hC.tk _ ht).1
    omega
  · rcases hi with ⟨o, ho, rfl⟩ | hi | hi
    · obtain ⟨c, hc⟩ := Option.isSome_iff_exists.1 ho
      obtain ⟨q1, q2, q3⟩ := hC.apartO hr hc
      exact fun e => q2 (h1 _ q1 e)
    · obtain ⟨q1, q2⟩ := hC.apartI hr hi
      exact fun e => q2 (h1 _ q1 e)
    · obtain ⟨q1, q2⟩ := hC.apartI hr hi
      exact fun e => q2 (h1 _ q1 e)
  · rcases hi with ⟨o, ho, rfl⟩ | hi
    · obtain ⟨c, hc⟩ := Option.isSome_iff_exists.1 ho
      exact (hC.apartO hr hc).2.2
    · rcases hr.new i hi with ⟨q, _⟩ | q
      · exact Nat.le_trans hC.sz q
      · exact hC.lo i (.inr q)
  · obtain ⟨o, ho, rfl⟩ := hi
    obtain ⟨c, hc⟩ := Option.isSome_iff_exists.1 ho
    exact Nat.lt_of_lt_of_le (hC.apartO hr hc).1 hf.size
  · have hf1 : Fr (fun i => bk' i ∨ B ≤ i) w0 w := ⟨hr.fr.os, hr.fr.tape, hr.fr.output, hr.fr.size, fun i hi hn => hr.fr.block i hi fun q => hn (.inr (hC.lo i (.inl q)))⟩
    refine ⟨hf.os.trans (hf1.os.trans hC.fr.os), hf.tape.trans (hf1.tape.trans hC.fr.tape), hf.output.trans (hf1.output.trans hC.fr.output), Nat.le_trans hC.fr.size (Nat.le_trans hf1.size hf.size), fun i hi hn => ?_⟩
    have g1 := hC.fr.block i hi fun q => hn (q.imp (h2 i) id)
    have g2 := hf1.block i (Nat.lt_of_lt_of_le hi hC.fr.size) hn
    have g3 := hf.block i (Nat.lt_of_lt_of_le hi (Nat.le_trans hC.fr.size hf1.size)) fun q => hn (.inl q)
    exact g3.trans (g2.trans g1)
theorem Fgn.same {io : IoS} {w0 : World} {σ : Fgn} {g g' : Gh} {s s' : AS} {a a' : Act} {w w' : World} (hC : HzC io w00 w0 B σ.bk) (h1 : Rel io w0 N g s a w) (h2 : Rel io w0 N g' s' a' w') (hM : σ.at_ w) : σ.at_ w' :=
  σ.keep w w' (fun i hi => by
    have q : ∀ {g : Gh} {s : AS} {a : Act} {w : World}, Rel io w0 N g s a w → w.heap[i]? = w0.heap[i]? := fun hr => hr.fr.block i (hC.hb i hi) fun q => hC.ne i (.inl q) hi
    rw [q h1, q h2]) hM
structure HZ (P : Program) (N B : Nat) (w00 : World) (c : Code) (K : X → AS → Fgn → Prop) (s : AS) (σ : Fgn) : Prop where
  go : ∀ a w, Zt P N B w00 s σ a w → ∀ Q : Exit → Act → World → Prop, (∀ x s' σ' a' w', Zt P N B w00 s' σ' a' w' → K x s' σ' → Q x.toExit a' w') → CWp P c Q a w
variable {c c1 c2 : Code} {K : X → AS → Fgn → Prop} {s s' : AS} {σ : Fgn}
theorem HZ.seq (h : HZ P N B w00 c1 (fun x s' σ' => match x with | .normal => HZ P N B w00 c2 K s' σ' | .exit id => K (.exit id) s' σ' | .ret => K .ret s' σ') s σ) : HZ P N B w00 (.seq c1 c2) K s σ := HZ.mk fun a w hs Q hQ => by
  refine wp_seq (CWp.wp (h.go a w hs _ fun x s' σ' a' w' hs' hk => ?_))
  cases x with
  | normal => exact (hk.go a' w' hs' Q hQ).wp
  | exit id => exact hQ _ s' σ' a' w' hs' hk
  | ret => exact hQ _ s' σ' a' w' hs' hk
theorem HZ.block {id : Nat} (h : HZ P N B w00 c (fun x s' σ' => K (x.out id) s' σ') s σ) : HZ P N B w00 (.block id c) K s σ := HZ.mk fun a w hs Q hQ => by
  refine wp_block (CWp.wp (h.go a w hs _ fun x s' σ' a' w' hs' hk => ?_))
  have := hQ _ s' σ' a' w' hs' hk
  cases x with
  | normal => exact this
  | ret => exact this
  | exit id' =>
    simp only [X.toExit, Exit.inBlock, X.out] at this ⊢
    split
    · rename_i hid; simpa [hid] using this
    · rename_i hid; simpa [hid] using this
theorem HZ.cond {x : Operand} {b : Bool} (hc : look s.tm x = .val (.bool b)) (ht : b = true → HZ P N B w00 c1 K s σ) (hf : b = false → HZ P N B w00 c2 K s σ) : HZ P N B w00 (.cond x c1 c2) K s σ := HZ.mk fun a w hs Q hQ => by
  obtain ⟨⟨io, w0, g, hr, hC⟩, hM⟩ := hs
  have hx := hr.look x
  rw [hc] at hx
  simp only [Rep] at hx
  refine wp_cond hx ?_
  cases b with
  | true => exact ((ht rfl).go a w ⟨⟨io, w0, g, hr, hC⟩, hM⟩ Q hQ).wp
  | false => exact ((hf rfl).go a w ⟨⟨io, w0, g, hr, hC⟩, hM⟩ Q hQ).wp
theorem HZ.skip (h : K .normal s σ) : HZ P N B w00 .skip K s σ := HZ.mk fun a w hs Q hQ => wp_skip (hQ .normal s σ a w hs h)
theorem HZ.exit {id : Nat} (h : K (.exit id) s σ) : HZ P N B w00 (.exit id) K s σ := HZ.mk fun a w hs Q hQ => wp_exit (hQ (.exit id) s σ a w hs h)
theorem HZ.ret (h : K .ret s σ) : HZ P N B w00 .ret K s σ := HZ.mk fun a w hs Q hQ => wp_ret (hQ .ret s σ a w hs h)
theorem Zt.forget {a : Act} {w : World} (h : Zt P N B w00 s σ a w) (hf : s.forget s') : Zt P N B w00 s' σ a w := by
  obtain ⟨⟨io, w0, g, hr, hC⟩, hM⟩ := h
  exact ⟨⟨io, w0, g, hr.forget hf, hC⟩, hM⟩
theorem HZ.mono {K1 : X → AS → Fgn → Prop} (h : HZ P N B w00 c K1 s σ) (hk : ∀ x s' σ', K1 x s' σ' → K x s' σ') : HZ P N B w00 c K s σ := ⟨fun a w hs Q hQ => h.go a w hs Q fun x s' σ' a' w' hs' h1 => hQ x s' σ' a' w' hs' (hk x s' σ' h1)⟩
theorem HZ.forget (hf : s.forget s') (h : HZ P N B w00 c K s' σ) : HZ P N B w00 c K s σ := HZ.mk fun a w hs Q hQ => h.go a w (hs.forget hf) Q hQ
theorem HZ.loop {α : Type} (S : α → AS) (I : α → Fgn → Prop) (μ : α → Nat) (i : α) (hi : I i σ) (hs : s.forget (S i))
    (h : ∀ i σ, I i σ → HZ P N B w00 c (fun x s' σ' => match x with | .normal => ∃ j, I j σ' ∧ μ j < μ i ∧ s'.forget (S j) | .exit id => K (.exit id) s' σ' | .ret => K .ret s' σ') (S i) σ) : HZ P N B w00 (.loop c) K s σ := by
  have key : ∀ n i σ, μ i = n → I i σ → ∀ a w, Zt P N B w00 (S i) σ a w → ∀ Q : Exit → Act → World → Prop, (∀ x s' σ' a' w', Zt P N B w00 s' σ' a' w' → K x s' σ' → Q x.toExit a' w') → LoopWp P c Q a w := by
    intro n
    induction n using Nat.strongRecOn with
    | _ n ih =>
      intro i σ hn hi a w hst Q hQ
      refine LoopWp.step (CWp.wp ((h i σ hi).go a w hst _ fun x s' σ' a' w' hst' hk => ?_))
      cases x with
      | normal =>
        obtain ⟨j, hj, hlt, hf⟩ := hk
        exact ih (μ j) (hn ▸ hlt) j σ' rfl hj a' w' (hst'.forget hf) Q hQ
      | exit id => exact hQ _ s' σ' a' w' hst' hk
      | ret => exact hQ _ s' σ' a' w' hst' hk
  exact HZ.mk fun a w hst Q hQ => key _ i σ rfl hi a w (hst.forget hs) Q hQ
theorem HZ.eng {Γ : Ctx} (hm : P.follows .mixedOrders = true) (hΓ : SoundΓ P Γ) (hc : codeOk Γ true N c = true) (hp : pq P Γ N c (fun x s' => K x s' σ) s.tm s.ob s.nx) : HZ P N B w00 c K s σ := HZ.mk fun a w hs Q hQ => by
  obtain ⟨⟨io, w0, g, hr, hC⟩, hM⟩ := hs
  obtain ⟨x, s', h1, h2⟩ := pw_ok (fun _ => hm) c _ _ hc hp
  exact h1.cwp hΓ.w (fun b hb => hC.lt b hb) g a w Q hr fun g' a' w' hr' => hQ x s' σ a' w' ⟨⟨io, w0, g', hr', hC⟩, Fgn.same hC hr hr' hM⟩ h2
structure ZO (P : Program) (N B : Nat) (w00 : World) (ops : Array Oper) (j : Nat) (l : List Oper) (K : AS → Fgn → Prop) (s : AS) (σ : Fgn) : Prop where
  go : ops.toList.drop j = l → ∀ a w, Zt P N B w00 s σ a w → ∀ Q : Exit → Act → World → Prop, (∀ s' σ' a' w', Zt P N B w00 s' σ' a' w' → K s' σ' → Q .normal a' w') → wpOps P ops Q (List.range' j l.length) a w
variable {ops : Array Oper} {J : AS → Fgn → Prop} {j : Nat} {o : Oper} {l l1 l2 : List Oper}
theorem HZ.each {id : Nat} {os : List Oper} (h : ZO P N B w00 os.toArray 0 os (K .normal) s σ) : HZ P N B w00 (.region id os.toArray false) K s σ := HZ.mk fun a w hs Q hQ => by
  refine wp_region ?_
  have := h.go (by simp) a w hs Q fun s' σ' a' w' hs' hk => hQ .normal s' σ' a' w' hs' hk
  rw [List.range_eq_range']
  simpa using this
theorem ZO.nil (h : J s σ) : ZO P N B w00 ops j [] J s σ := ZO.mk fun _ a w hs Q hQ => hQ s σ a w hs h
theorem seqPreZ {Γ : Ctx} {imm : Md} {io : IoS} {w0 : World} {Q : Exit → Act → World → Prop} {s1 : AS} (hΓ : SoundW P Γ io.wr w0) (hio : ∀ b, io b → b < w0.heap.size) (hd : ∀ o ∈ ops.toList, dstOk N o = true) : ∀ (l1 : List Oper) (j : Nat) {g : Gh} {s : AS} {a : Act} {w : World}, ops.toList.drop j = l1 ++ l2 → Rel io w0 N g s a w →
    evSeq P Γ imm ops l1 s = some s1 → (∀ g' a' w', Rel io w0 N g' s1 a' w' → wpOps P ops Q (List.range' (j + l1.length) l2.length) a' w') → wpOps P ops Q (List.range' j (l1 ++ l2).length) a w
  | [], j, g, s, a, w, hl, h, he, hQ => by
    simp only [evSeq, Option.some.injEq] at he
    subst he
    exact hQ g a w h
  | o :: l, j, g, s, a, w, hl, h, he, hQ => by
    have hk : ops.toList[j]? = some o := by
      have := congrArg (·[0]?) hl
      simpa using this
    have hk' : ops[j]? = some o := by simpa using hk
    have hl' : ops.toList.drop (j + 1) = l ++ l2 := by
      rw [← List.drop_drop, hl]
      rfl
    simp only [evSeq] at he
    split at he
    · rename_i s2 h2
      simp only [List.cons_append, List.length_cons, List.range'_succ]
      rw [wpOps_cons]
      exact op_ok h hΓ hio (hd o (List.mem_of_getElem? hk)) h2 hk' fun g' a' w' hr => seqPreZ hΓ hio hd l (j + 1) hl' hr he fun g2 a2 w2 hr2 => by
        have := hQ g2 a2 w2 hr2
        rwa [List.length_cons, show j + (l.length + 1) = j + 1 + l.length by omega] at this
    · cases he
theorem ZO.pre {Γ : Ctx} {imm : Md} {os : List Oper} (n : Nat) (hΓ : SoundΓ P Γ) (hd : os.toArray.all (dstOk N) = true) (h1 : l.take n = l1) (h2 : l.drop n = l2) {gs : List (Option Nat)} (hg : os.map (·.dst) = gs) (hp : wq P Γ imm gs l1 (fun s1 => ZO P N B w00 os.toArray (j + l1.length) l2 J s1 σ) s.tm s.ob s.nx) : ZO P N B w00 os.toArray j l J s σ := ZO.mk fun hl a w hs Q hQ => by
  obtain ⟨⟨io, w0, g, hr, hC⟩, hM⟩ := hs
  have hl12 : l = l1 ++ l2 := by rw [← h1, ← h2, List.take_append_drop]
  subst hg
  rw [show os.map (·.dst) = os.toArray.toList.map (·.dst) by simp, ← evQ_wq] at hp
  obtain ⟨s1, e1, e2⟩ := evQ_ok _ _ hp
  rw [hl12] at hl ⊢
  refine seqPreZ hΓ.w (fun b hb => hC.lt b hb) (fun o ho => (Array.all_eq_true_iff_forall_mem.1 hd) o (by simpa using ho)) l1 j hl hr e1 fun g' a' w' hr' => ?_
  refine e2.go ?_ a' w' ⟨⟨io, w0, g', hr', hC⟩, Fgn.same hC hr hr' hM⟩ Q hQ
  rw [← List.drop_drop, hl]
  simp
theorem ZO.one (hg : o.guard = none) (h : ∀ a w, Zt P N B w00 s σ a w → ∀ (Kn : Act → World → Prop) (Q : Exit → Act → World → Prop), (∀ s' σ' a' w', Zt P N B w00 s' σ' a' w' → ZO P N B w00 ops (j + 1) l J s' σ' → Kn a' w') → o.wp P a w Kn Q) : ZO P N B w00 ops j (o :: l) J s σ := ZO.mk fun hl a w hs Q hQ => by
  have hk : ops.toList[j]? = some o := by
    have := congrArg (·[0]?) hl
    simpa using this
  have hk' : ops[j]? = some o := by simpa using hk
  have hl' : ops.toList.drop (j + 1) = l := by
    rw [← List.drop_drop, hl]
    rfl
  simp only [List.length_cons, List.range'_succ]
  rw [wpOps_cons]
  unfold wpOp
  simp only [hk']
  have hw : Region.wanted o (yielded ops a.tmps) = true := by simp [Region.wanted, hg]
  rw [hw]
  simp only [if_true]
  left
  exact h a w hs _ _ fun s' σ' a' w' hs' hh => hh.go hl' a' w' hs' Q hQ
theorem Zt.put {a : Act} {w : World} (h : Zt P N B w00 s σ a w) {d : Option Nat} (hd : ∀ x, d = some x → x < N) {p : PV} {v : Value} (hv : ∀ (g : Gh) (w : World), Rep g w p v) : Zt P N B w00 (s.put d p) σ (a.put d v) w := by
  obtain ⟨⟨io, w0, g, hr, hC⟩, hM⟩ := h
  exact ⟨⟨io, w0, g, hr.put hd (hv g w), hC⟩, hM⟩
theorem Zt.rebase {a : Act} {w w' : World} {σ' : Fgn} (h : Zt P N B w00 s σ a w) (hf : Fr σ'.bk w w') (h1 : ∀ i, i < w.heap.size → σ'.bk i → σ.bk i) (h2 : ∀ i, σ.bk i → σ'.bk i) (h3 : ∀ b, σ'.bk b → b < w'.heap.size) (hM : σ'.at_ w') : Zt P N B w00 s σ' a w' := by
  obtain ⟨⟨io, w0, g, hr, hC⟩, _⟩ := h
  obtain ⟨io', k1, k2⟩ := hr.rebaseZ hC hf h1 h2 h3
  exact ⟨⟨io', w', g, k1, k2⟩, hM⟩
theorem Zt.drop {a : Act} {w : World} (h : Zt P N B w00 s σ a w) (h1 : ∀ i, σ.bk i → B ≤ i) : Zt P N B w00 s Fgn.no a w := by
  obtain ⟨⟨io, w0, g, hr, hC⟩, _⟩ := h
  exact ⟨⟨io, w0, g, hr, ⟨fun i _ q => q, hC.lo, hC.lt, fun b q => False.elim q, hC.sz, ⟨hC.fr.os, hC.fr.tape, hC.fr.output, hC.fr.size, fun i hi hn => hC.fr.block i hi fun q => hn (.inr (q.elim (h1 i) id))⟩, fun t ht => ⟨(hC.tk t ht).1, fun q => q⟩⟩⟩, trivial⟩
theorem HZ.drop (h1 : ∀ i, σ.bk i → B ≤ i) (h : HZ P N B w00 c K s Fgn.no) : HZ P N B w00 c K s σ := HZ.mk fun a w hs Q hQ => h.go a w (hs.drop h1) Q hQ
theorem HZ.cut {Lf : List (Nat × PV)} {O : List (Nat × Nat × Nat × List PV)} {x : Nat} (h1 : agree s.tm Lf) (h2 : agreeO s.ob O) (h3 : s.nx = x) (h : HZ P N B w00 c K ⟨lk Lf, lo O, x⟩ σ) : HZ P N B w00 c K s σ :=
  HZ.forget (s' := mkS Lf O x) (forget_mk (agree_all h1) (agreeO_all h2) h3) h
theorem HZ.loopA {α : Type} (Lf : α → List (Nat × PV)) (O : α → List (Nat × Nat × Nat × List PV)) (XX : α → Nat) (I : α → Fgn → Prop) (μ : α → Nat) (i : α) (hi : I i σ) (h1 : agree s.tm (Lf i)) (h2 : agreeO s.ob (O i)) (h3 : s.nx = XX i)
    (h : ∀ i σ, I i σ → HZ P N B w00 c (fun x s' σ' => match x with | .normal => ∃ j, I j σ' ∧ μ j < μ i ∧ agree s'.tm (Lf j) ∧ agreeO s'.ob (O j) ∧ s'.nx = XX j | .exit id => K (.exit id) s' σ' | .ret => K .ret s' σ') ⟨lk (Lf i), lo (O i), XX i⟩ σ) : HZ P N B w00 (.loop c) K s σ := by
  refine HZ.loop (fun i => mkS (Lf i) (O i) (XX i)) I μ i hi (forget_mk (agree_all h1) (agreeO_all h2) h3) fun i σ hi => ⟨fun a w hs Q hQ => (h i σ hi).go a w hs Q fun x s' σ' a' w' hs' hk => hQ x s' σ' a' w' hs' ?_⟩
  cases x with
  | normal =>
    obtain ⟨j, k1, k2, k3, k4, k5⟩ := hk
    exact ⟨j, k1, k2, forget_mk (agree_all k3) (agreeO_all k4) k5⟩
  | exit id => exact hk
  | ret => exact hk
theorem HZ.start {ps : List PV} (h : HZ P N B w00 c K ⟨(initS ps).tm, fun _ => none, 0⟩ σ) : HZ P N B w00 c K (initS ps) σ := h
end
end Go.Proofs.YtpggpdbipajchaaGreatDoor
namespace Go.Proofs.YtpggpdbipajchaaGreatDoor
open Go.RowKit
set_option linter.all false
section
variable {P : Program} {N B : Nat} {w00 : World} {c : Code}
theorem initRelZ {fn : Func} {ps : List PV} {args : Array Value} {w : World} {Jm : Nat → Prop} (hJ : ∀ b, Jm b → b < w.heap.size) (hT : TabF w (fun _ => False)) (hargs : RepL (argG Jm) w ps args.toList) (hle : ps.length ≤ fn.ntmps) :
    Rel ⟨fun _ => False, Jm, 0, fun _ => 0, fun _ => 0, fun _ => False, fun _ => False⟩ w fn.ntmps (argG Jm) (initS ps) { tmps := args ++ Array.replicate (fn.ntmps - args.size) undef, defers := [] } w := by
  have hsz : args.size = ps.length := by simpa using hargs.get.1
  refine ⟨by simp; omega, rfl, fun t => ?_, fun o c ho => (by cases ho), fun o o' ho => (by cases ho), rfl, fun k b hi => hJ b hi.2, fun b hi => (by cases hi.1), Fr.refl _ _, fun b hi => hi.2, ⟨fun o ho => (Nat.not_lt_zero o ho).elim, fun o ho => (Nat.not_lt_zero o ho).elim⟩, fun o ho => False.elim ho, hT⟩
  simp only [initS]
  cases hp : ps[t]? with
  | none =>
    have hge : ps.length ≤ t := by simpa using hp
    have : (args ++ Array.replicate (fn.ntmps - args.size) undef).getD t undef = undef := by
      simp only [Array.getD_eq_getD_getElem?]
      rw [Array.getElem?_append_right (by omega)]
      simp only [Array.getElem?_replicate]
      split <;> rfl
    rw [this]
    simp [Rep]
  | some p =>
    obtain ⟨v, hv, hrep⟩ := hargs.get.2 t p hp
    have hlt : t < args.size := by have := (List.getElem?_eq_some_iff.1 hp).1; omega
    have : (args ++ Array.replicate (fn.ntmps - args.size) undef).getD t undef = v := by
      simp only [Array.getD_eq_getD_getElem?]
      rw [Array.getElem?_append_left hlt]
      have : args[t]? = some v := by simpa using hv
      simp [this]
    rw [this]
    exact hrep
theorem tks_ltZ {w : World} {io : Nat → Prop} (hT : TabF w io) : ∀ t ∈ tks, t < w.heap.size := fun t ht => hT.lt t ht
theorem HZ.soundN {f : Nat} {fn : Func} {rs : List ResultVar} {Ψ : FunN} (hf : P.funcs[f]? = some fn) (hb : fn.body = some c) (hN : fn.ntmps = N) (hrs : fn.results.toList = rs)
    (hpure : ∀ ps r cs', Ψ ps = some (r, cs') → ps.mapM (reify false 0 noObs fuel) = some ps ∧ renT id fuel r = some r ∧ cs'.mapM (renCT id fuel) = some cs')
    (h : ∀ ps r cs', Ψ ps = some (r, cs') → ps.length ≤ N ∧ ∀ B w00, HZ P N B w00 c (fun x s' σ' => PostIO P rs 0 r cs' x s' ∧ ∀ i, σ'.bk i → B ≤ i) (initS ps) Fgn.no) : SoundN P f Ψ := by
  intro w J β κ ps cs args r cs' hr hJ hO hT hargs
  subst hN hrs
  replace hr : (if cs = [] then Ψ ps else none) = some (r, cs') := hr
  split at hr
  case isFalse => cases hr
  case isTrue hcs =>
  subst hcs
  obtain ⟨hp1, hp2, hp3⟩ := hpure ps r cs' hr
  obtain ⟨hlen, h⟩ := h ps r cs' hr
  have hJ' : ∀ b, (∃ k, J k b) → b < w.heap.size := fun b ⟨k, hk⟩ => hJ k b hk
  have hT' : TabF w (fun _ => False) := hT.io fun _ _ q => False.elim q
  have hargs' : RepL (argG fun b => ∃ k, J k b) w ps args.toList := by
    refine RepL.conv (g := ghIO J β κ 0) (Rep.seen (fr := false) (n := 0) (g' := argG fun b => ∃ k, J k b) (s := ⟨fun _ => .dead, noObs, 0⟩) (fun o c ho => by cases ho) ⟨fun _ => ⟨fun k b hb => ⟨rfl, k, hb⟩, fun o ho => by cases ho⟩, fun e => by cases e⟩ fuel) hargs hp1
  refine calls_of_wp hf hb (CWp.wp ((h w.heap.size w).go _ _ ⟨⟨_, w, _, initRelZ hJ' hT' hargs' hlen, ⟨fun i hi e => e, fun i hi => ?_, fun i hi => False.elim hi, fun b' e => False.elim e, Nat.le_refl _, Fr.refl _ _, fun t ht => ⟨tks_ltZ hT' t ht, fun e => e⟩⟩⟩, trivial⟩ _ fun x s' σ' a' w' hs' hk => ?_))
  · rcases hi with hi | hi <;> exact False.elim hi
  · obtain ⟨⟨hx, news, hn0, hnd, hres, hobs0⟩, hbb⟩ := hk
    obtain ⟨⟨io, w0, g', hrel, hC⟩, hM'⟩ := hs'
    rw [Option.bind_eq_some_iff] at hres
    obtain ⟨qs, hres, hren⟩ := hres
    simp only [List.range_zero, List.nil_append] at hren hobs0
    have hocs : cs'.length = news.length := (mapM_get hobs0).1
    have hobs : ∀ (i o : Nat), news[i]? = some o → ∃ T sz es es', s'.ob o = some (T, sz, es) ∧ es.mapM (handF news s'.ob fuel) = some es' ∧ cs'[i]? = some (T, sz, es') := fun i o hi => by
      obtain ⟨c1, h1, h2⟩ := (mapM_get hobs0).2 i o hi
      unfold handC at h2
      simp only [Option.bind_eq_some_iff, Option.map_eq_some_iff] at h2
      obtain ⟨⟨T, sz, es⟩, h3, es', h4, rfl⟩ := h2
      exact ⟨T, sz, es, es', h3, h4, h1⟩
    have hget : ∀ i, i < news.length → news[i]? = some (news.getD i 0) := fun i hi => by simp [hi]
    have hsome : ∀ i, i < news.length → (s'.ob (news.getD i 0)).isSome := fun i hi => by
      obtain ⟨T, sz, es, es', h1, _⟩ := hobs i _ (hget i hi)
      rw [h1]; rfl
    have hinjO : ∀ i j, i < news.length → j < news.length → g'.β (news.getD i 0) = g'.β (news.getD j 0) → i = j := fun i j hi hj he => by
      have := hrel.inj _ _ (hsome i hi) (hsome j hj) he
      have e1 := hget i hi
      have e2 := hget j hj
      rw [this] at e1
      have e1 := e1.trans e2.symm
      exact (List.getElem?_inj hi hnd).1 e1
    have hinn : ∀ o1 o2, inn news o1 = some o2 → o2 < news.length ∧ news.getD o2 0 = o1 := fun o1 o2 hi => by
      unfold inn at hi
      split at hi
      · rename_i hm
        cases hi
        have hlt := List.idxOf_lt_length_of_mem hm
        exact ⟨hlt, by simp [List.getD, hlt]⟩
      · cases hi
    have hfrm : Fr (fun b => ∃ o, o < ([] : List CellIO).length ∧ b = β o) w w' := by
      have hf1 : Fr (fun i => w.heap.size ≤ i) w0 w' := ⟨hrel.fr.os, hrel.fr.tape, hrel.fr.output, hrel.fr.size, fun i hi hn => hrel.fr.block i hi fun q => hn (hC.lo i (.inl q))⟩
      refine ⟨hf1.os.trans hC.fr.os, hf1.tape.trans hC.fr.tape, hf1.output.trans hC.fr.output, Nat.le_trans hC.fr.size hf1.size, fun i hi _ => ?_⟩
      refine (hf1.block i (Nat.lt_of_lt_of_le hi hC.fr.size) (by omega)).trans (hC.fr.block i hi fun q => q.elim (fun q => ?_) fun q => by omega)
      have := hbb i q
      omega
    have hend : a'.defers = [] ∧ ∃ v, (results fn a'.tmps).run P w' = .ok v w' ∧ (∃ v' β' κ' M, Ending.returned v = .returned v' ∧ Fr (fun b => ∃ o, o < ([] : List CellIO).length ∧ b = β o) w w' ∧ ([] : List CellIO).length ≤ cs'.length ∧
        (∀ o, o < ([] : List CellIO).length → β' o = β o ∧ κ' o = κ o) ∧ (∀ o, ([] : List CellIO).length ≤ o → o < cs'.length → w.heap.size ≤ β' o) ∧ (∀ b, M b → w.heap.size ≤ b ∧ b < w'.heap.size) ∧
        ObjsIO (addN J M) w' β' κ' cs' ∧ Rep (ghIO (addN J M) β' κ' cs'.length) w' r v') := by
      obtain ⟨v, h1, h2⟩ := results_ok hrel hres
      let M : Nat → Prop := fun b => w.heap.size ≤ b ∧ b < w'.heap.size ∧ ∀ i, i < news.length → b ≠ g'.β (news.getD i 0)
      let G1 : Gh := ghIO (fun kk b => kk = false ∨ M b) (fun i => g'.β (news.getD i 0)) (fun i => g'.κ (news.getD i 0)) cs'.length
      let G : Gh := ghIO (addN J M) (fun i => g'.β (news.getD i 0)) (fun i => g'.κ (news.getD i 0)) cs'.length
      have hnewb : ∀ b, g'.I true b → w.heap.size ≤ b := fun b hb => by
        rcases hrel.new b hb with ⟨q, _⟩ | q
        · exact Nat.le_trans hC.sz q
        · exact hC.lo b (.inr q)
      have hI : ∀ k b, g'.I k b → G1.I k b := fun k b hi => by
        cases k with
        | false => exact .inl rfl
        | true =>
          refine .inr ⟨hnewb b hi, hrel.lt true b hi, fun i hil he => ?_⟩
          obtain ⟨T, sz, es, es', k1, _⟩ := hobs i _ (hget i hil)
          exact (hrel.ob _ _ k1).2.2.1 true (he ▸ hi)
      have hom : ∀ o o', inn news o = some o' → G1.β o' = g'.β o ∧ G1.κ o' = g'.κ o ∧ G1.D o' := fun o o' ho => by
        obtain ⟨k1, k2⟩ := hinn o o' ho
        exact ⟨by simp only [G1, ghIO, k2], by simp only [G1, ghIO, k2], ⟨by simp only [G1, ghIO]; omega, fun q => q⟩⟩
      have hfz : ∀ o, (s'.ob o).isSome → inn news o = none → G1.I true (g'.β o) := fun o ho hn => by
        obtain ⟨c, hc⟩ := Option.isSome_iff_exists.1 ho
        have hno : o ∉ news := fun hm => by simp [inn, hm] at hn
        obtain ⟨q1, q2, q3⟩ := hC.apartO hrel hc
        refine .inr ⟨q3, q1, fun i hi he => hno ?_⟩
        rw [hrel.inj o _ (by rw [hc]; rfl) (hsome i hi) he]
        exact List.mem_of_getElem? (hget i hi)
      have hobA : ∀ o c, s'.ob o = some c → ObjAt g' w' o c := fun o c ho => (hrel.ob o c ho).2.2.2
      have hI2 : ∀ b, G1.I true b → G.I true b := fun b hb => by
        rcases hb with hb | hb
        · cases hb
        · exact .inr ⟨rfl, hb⟩
      refine ⟨hrel.df, v, h1, v, fun i => g'.β (news.getD i 0), fun i => g'.κ (news.getD i 0), M, rfl, hfrm, Nat.zero_le _, fun o ho => (Nat.not_lt_zero o ho).elim, fun o h3 h4 => ?_, fun b hb => ⟨hb.1, hb.2.1⟩, ⟨fun o ho => ?_, fun o o' ho ho' he => hinjO o o' (by omega) (by omega) he, fun o c hc => ?_⟩,
        Rep.renT (g := G1) (g' := G) hI2 (fun o ho => ⟨rfl, rfl, ho⟩) fuel _ _ _ (Rep.hand (g := g') (g' := G1) hI hom hobA hfz fuel _ _ _ h2 hren) hp2⟩
      · obtain ⟨T, sz, es, es', k1, _⟩ := hobs o _ (hget o (by omega))
        exact (hC.apartO hrel k1).2.2
      · obtain ⟨T, sz, es, es', k1, _⟩ := hobs o _ (hget o (by omega))
        obtain ⟨_, _, k3, ⟨arr, k4, _⟩, _⟩ := hrel.ob _ _ k1
        refine ⟨lt_of_heap k4, fun k hj => ?_⟩
        rcases hj with hj | ⟨_, hj⟩
        · have := (hC.apartO hrel k1).2.2
          have := hJ _ _ hj
          omega
        · exact hj.2.2 o (by omega) rfl
      · have ho : o < cs'.length := (List.getElem?_eq_some_iff.1 hc).1
        obtain ⟨T, sz, es, es', k1, k2, k3⟩ := hobs o _ (hget o (by omega))
        rw [k3] at hc
        cases hc
        obtain ⟨_, _, _, ⟨arr, m1, m2⟩, m3, m4⟩ := hrel.ob _ _ k1
        have hl := (mapM_get k2).1
        have hes : es'.mapM (renT id fuel) = some es' := by
          obtain ⟨c2, e1, e2⟩ := (mapM_get hp3).2 o _ k3
          unfold renCT at e2
          simp only [Option.map_eq_some_iff] at e2
          obtain ⟨es2, e3, rfl⟩ := e2
          rw [k3] at e1
          cases e1
          exact e3
        exact ⟨⟨arr, m1, m2⟩, by rw [hl]; exact m3, RepEs.conv (g := G1) (g' := G) (Rep.renT (g := G1) (g' := G) hI2 (fun o ho => ⟨rfl, rfl, ho⟩) fuel) (RepEs.conv (g := g') (g' := G1) (Rep.hand (g := g') (g' := G1) hI hom hobA hfz fuel) m4 k2) hes⟩
    rcases hx with rfl | rfl <;> exact hend
end
end Go.Proofs.YtpggpdbipajchaaGreatDoor
namespace Go.Proofs.YtpggpdbipajchaaGreatDoor
open Go.RowKit
set_option linter.all false
section
variable {P : Program} {N B : Nat} {w00 : World}
variable {ops : Array Oper} {J : AS → Fgn → Prop} {s : AS} {σ : Fgn}
theorem ZO.callF {o : Oper} {j : Nat} {l : List Oper} {f : Nat} {c : Call} (ho : o.op = .call c) (hc : c.callee = .value (.func f)) (hf : Fnd P f) (hg : o.guard = none) (hd : ∀ x, o.dst = some x → x < N) (R : Value → Fgn → Prop)
    (hcall : ∀ a w, Zt P N B w00 s σ a w → Calls P f (c.args.map a.eval) w fun e w' => ∃ v σ', e = .returned v ∧ R v σ' ∧ Fr σ'.bk w w' ∧ (∀ i, i < w.heap.size → σ'.bk i → σ.bk i) ∧ (∀ i, σ.bk i → σ'.bk i) ∧ (∀ b, σ'.bk b → b < w'.heap.size) ∧ σ'.at_ w')
    (h : ∀ v σ', R v σ' → ZO P N B w00 ops (j + 1) l J (s.put o.dst (.val v)) σ') : ZO P N B w00 ops j (o :: l) J s σ := by
  refine ZO.one hg fun a w hst Kn Q hK => ?_
  obtain ⟨fn, hfn, hname, hbody⟩ := hf
  have hrun : (execOp a.eval o).run P w = .ok (.enter f (c.args.map a.eval)) w := by
    unfold execOp
    simp only [ho, resolve, hc, Act.eval, Deferred.ofValue, Sem.run_bind, Sem.run_pure, Result.andThen_ok, invoke, callFunc, run_program, hfn]
    simp [hname, hbody]
  unfold Oper.wp
  rw [hrun, Oper.upon_enter]
  refine (hcall a w hst).mono ?_
  rintro e w' ⟨v, σ', rfl, hR, h1, h2, h3, h4, h5⟩
  exact hK _ _ _ _ ((hst.rebase h1 h2 h3 h4 h5).put hd fun g w => by simp [Rep]) (h v σ' hR)
end
end Go.Proofs.YtpggpdbipajchaaGreatDoor
namespace Go.Proofs.YtpggpdbipajchaaGreatDoor
open Go.RowKit
open Go.ChangeMaps (setBlock heap_setBlock_same heap_setBlock_other modify_eq_set)
open Go.Maps (Keyed)
set_option linter.all false
abbrev VL := List (Value × Value)
abbrev kv (e : MapEntry) : Value × Value := (e.key, e.val)
structure EntL (P : Program) (k : TypeId) (es : Array MapEntry) (clock : Nat) (L : VL) : Prop where
  list : es.toList.map kv = L
  old : ∀ e ∈ es.toList, e.born < clock
  born : (es.toList.map (·.born)).Nodup
  keys : (L.map Prod.fst).Nodup
  keyed : ∀ p ∈ L, ∃ l, keyOf P k p.1 = some l
def MapL (P : Program) (k : TypeId) (w : World) (b : Nat) (L : VL) : Prop := ∃ es clock, w.heap[b]? = some (.map es clock) ∧ EntL P k es clock L
def IterL (P : Program) (k : TypeId) (w : World) (r b : Nat) (L : VL) (left : List Value) : Prop :=
  ∃ es clock since seen c0, w.heap[b]? = some (.map es clock) ∧ EntL P k es clock L ∧ w.heap[r]? = some (.mapIter (some b) since seen c0) ∧ (∀ x ∈ es.toList, x.born < since) ∧ since ≤ c0 ∧ since ≤ clock ∧ (leftOf es seen).toList.map (·.key) = left
variable {P : Program} {k t e : TypeId} {w w' : World} {b r : Nat} {L : VL} {left : List Value} {key v : Value} {kl : Lit}
theorem MapL.lt (h : MapL P k w b L) : b < w.heap.size := by
  obtain ⟨es, clock, hb, _⟩ := h
  exact (Array.getElem?_eq_some_iff.1 hb).1
theorem MapL.made (w : World) : MapL P k (w.alloc (.map #[] 0)) w.heap.size [] :=
  ⟨#[], 0, (MapKept.heap_alloc w _).1, rfl, by simp, by simp, by simp, by simp⟩
theorem MapL.kept {row : Option Nat} (h : MapL P k w b L) (hg : w.grownBy w' row) (hr : some b ≠ row) : MapL P k w' b L := by
  have hl := h.lt
  obtain ⟨es, clock, hb, H⟩ := h
  exact ⟨es, clock, (hg.block b hl hr).trans hb, H⟩
theorem EntL.key_mem {es : Array MapEntry} {clock : Nat} (H : EntL P k es clock L) {e0 : MapEntry} (h : e0 ∈ es.toList) : (e0.key, e0.val) ∈ L := by
  rw [← H.list]
  exact List.mem_map.2 ⟨e0, h, rfl⟩
theorem EntL.all {es : Array MapEntry} {clock : Nat} (H : EntL P k es clock L) : ∀ e ∈ es.toList, ∃ l, keyOf P k e.key = some l := fun e he => H.keyed _ (H.key_mem he)
theorem nodup_val {L : VL} (h : (L.map Prod.fst).Nodup) {key v v' : Value} (h1 : (key, v) ∈ L) (h2 : (key, v') ∈ L) : v = v' := by
  induction L with
  | nil => simp at h1
  | cons x L ih =>
    rw [List.map_cons, List.nodup_cons] at h
    rcases List.mem_cons.1 h1 with e1 | h1
    · rcases List.mem_cons.1 h2 with e2 | h2
      · have := e1.trans e2.symm
        exact (Prod.ext_iff.1 this).2
      · exact absurd (List.mem_map.2 ⟨_, h2, by rw [← e1]⟩) h.1
    · rcases List.mem_cons.1 h2 with e2 | h2
      · exact absurd (List.mem_map.2 ⟨_, h1, by rw [← e2]⟩) h.1
      · exact ih h.2 h1 h2
theorem MapL.look_yes (h : MapL P k w b L) (K : Keyed P k) (ht : P.underlying t = some (.map k e)) (c : Bool) (hkey : keyOf P k key = some kl) (hm : (key, v) ∈ L) :
    (Instr.lookup t (.map (some b)) key c).run P w = .ok (if c then .tuple #[v, .bool true] else v) w := by
  obtain ⟨es, clock, hb, H⟩ := h
  rcases K.find w hkey es.toList H.all with ⟨h1, h2⟩ | ⟨j, e0, h1, h2, h3⟩
  · rw [← H.list] at hm
    obtain ⟨e0, he, h4⟩ := List.mem_map.1 hm
    exact absurd (Prod.ext_iff.1 h4).1 (h2 e0 he)
  · have hv : e0.val = v := nodup_val H.keys (h3 ▸ H.key_mem (List.mem_of_getElem? h2)) hm
    rw [← hv]
    simp [Instr.lookup, run_underlying ht, MapKept.run_getObj_map hb, K.check w _ hkey, h1, Result.andThen]
theorem MapL.look_no (h : MapL P k w b L) (K : Keyed P k) (ht : P.underlying t = some (.map k e)) (c : Bool) (hkey : keyOf P k key = some kl) {z : Value} (hz : (zeroValue e).run P w = .ok z w) (hm : ∀ p ∈ L, p.1 ≠ key) :
    (Instr.lookup t (.map (some b)) key c).run P w = .ok (if c then .tuple #[z, .bool false] else z) w := by
  obtain ⟨es, clock, hb, H⟩ := h
  rcases K.find w hkey es.toList H.all with ⟨h1, h2⟩ | ⟨j, e0, h1, h2, h3⟩
  · simp [Instr.lookup, run_underlying ht, MapKept.run_getObj_map hb, K.check w _ hkey, h1, hz, Result.andThen]
  · exact absurd h3 (hm _ (H.key_mem (List.mem_of_getElem? h2)))
theorem grown_setBlock {o o' : Obj} (hb : w.heap[b]? = some o) : w.grownBy (setBlock w b o') (some b) :=
  ⟨rfl, rfl, rfl, by simp [setBlock], fun i _ hi => by
    have : i ≠ b := fun e1 => hi (by rw [e1])
    simp [setBlock, Array.getElem?_setIfInBounds, Ne.symm this]⟩
theorem EntL.push {es : Array MapEntry} {clock : Nat} (H : EntL P k es clock L) (hkey : keyOf P k key = some kl) (hm : ∀ p ∈ L, p.1 ≠ key) : EntL P k (es.push ⟨key, v, clock⟩) (clock + 1) (L ++ [(key, v)]) := by
  refine ⟨?_, fun e0 he => ?_, ?_, ?_, fun p hp => ?_⟩
  · rw [Array.toList_push, List.map_append, H.list]; rfl
  · rw [Array.toList_push] at he
    rcases List.mem_append.1 he with he | he
    · have := H.old e0 he; omega
    · rw [List.mem_singleton.1 he]; exact Nat.lt_succ_self _
  · rw [Array.toList_push, List.map_append, List.nodup_append]
    refine ⟨H.born, by simp, fun a ha c hc => ?_⟩
    obtain ⟨e0, he, rfl⟩ := List.mem_map.1 ha
    simp only [List.map_cons, List.map_nil, List.mem_singleton] at hc
    have := H.old e0 he
    omega
  · rw [List.map_append, List.nodup_append]
    refine ⟨H.keys, by simp, fun a ha c hc => ?_⟩
    obtain ⟨p, hp, rfl⟩ := List.mem_map.1 ha
    simp only [List.map_cons, List.map_nil, List.mem_singleton] at hc
    rw [hc]
    exact hm p hp
  · rcases List.mem_append.1 hp with hp | hp
    · exact H.keyed p hp
    · rw [List.mem_singleton.1 hp]; exact ⟨kl, hkey⟩
theorem MapL.upd_new (h : MapL P k w b L) (K : Keyed P k) (ht : P.underlying t = some (.map k e)) (hkey : keyOf P k key = some kl) (hm : ∀ p ∈ L, p.1 ≠ key) :
    ∃ w', (Instr.mapUpdate t (.map (some b)) key v).run P w = .ok () w' ∧ MapL P k w' b (L ++ [(key, v)]) ∧ w.grownBy w' (some b) ∧ w'.heap.size = w.heap.size := by
  obtain ⟨es, clock, hb, H⟩ := h
  rcases K.find w hkey es.toList H.all with ⟨h1, h2⟩ | ⟨j, e0, h1, h2, h3⟩
  · refine ⟨setBlock w b (.map (es.push ⟨key, v, clock⟩) (clock + 1)), ?_, ⟨_, _, heap_setBlock_same hb _, H.push hkey hm⟩, grown_setBlock hb, by simp [setBlock]⟩
    simp [Instr.mapUpdate, run_underlying ht, MapKept.run_getObj_map hb, K.check w false hkey, h1, MapKept.run_setObj_map _ hb, Result.andThen, setBlock]
  · exact absurd h3 (hm _ (H.key_mem (List.mem_of_getElem? h2)))
theorem EntL.set {es : Array MapEntry} {clock : Nat} {L1 L2 : VL} {v0 : Value} {j : Nat} {e0 : MapEntry} (H : EntL P k es clock (L1 ++ (key, v0) :: L2)) (h2 : es.toList[j]? = some e0) (h3 : e0.key = key) :
    EntL P k (es.modify j fun e' => { e' with key := key, val := v }) clock (L1 ++ (key, v) :: L2) ∧ (es.modify j fun e' => { e' with key := key, val := v }).toList = es.toList.set j { e0 with key := key, val := v } := by
  have hl : (es.modify j (fun e' => { e' with key := key, val := v })).toList = es.toList.set j { e0 with key := key, val := v } := by rw [Array.toList_modify, modify_eq_set _ _ _ _ h2]
  have hL : (L1 ++ (key, v0) :: L2)[j]? = some (key, e0.val) := by rw [← H.list, List.getElem?_map, h2, ← h3]; rfl
  have hj : j = L1.length := by
    have hjl := (List.getElem?_eq_some_iff.1 hL).1
    refine (List.getElem?_inj (by simpa using hjl) H.keys).1 ?_
    rw [List.getElem?_map, hL]
    simp
  refine ⟨⟨?_, fun x hx => ?_, ?_, ?_, fun p hp => ?_⟩, hl⟩
  · rw [hl, List.map_set, H.list, hj]
    simp
  · rw [hl] at hx
    rcases List.mem_or_eq_of_mem_set hx with hx | rfl
    · exact H.old x hx
    · exact H.old e0 (List.mem_of_getElem? h2)
  · rw [hl, List.map_set]
    have : (es.toList.map (·.born))[j]? = some e0.born := by rw [List.getElem?_map, h2]; rfl
    have e2 : (es.toList.map (·.born)).set j e0.born = es.toList.map (·.born) := by
      obtain ⟨hlt, he⟩ := List.getElem?_eq_some_iff.1 this
      exact he ▸ List.set_getElem_self hlt
    rw [show ({ e0 with key := key, val := v } : MapEntry).born = e0.born from rfl, e2]
    exact H.born
  · have := H.keys
    simpa using this
  · rcases List.mem_append.1 hp with hp | hp
    · exact H.keyed p (List.mem_append.2 (.inl hp))
    · rcases List.mem_cons.1 hp with rfl | hp
      · exact H.keyed (key, v0) (by simp)
      · exact H.keyed p (by simp [hp])
theorem MapL.upd_old {L1 L2 : VL} {v0 : Value} (h : MapL P k w b (L1 ++ (key, v0) :: L2)) (K : Keyed P k) (ht : P.underlying t = some (.map k e)) (hkey : keyOf P k key = some kl) :
    ∃ w', (Instr.mapUpdate t (.map (some b)) key v).run P w = .ok () w' ∧ MapL P k w' b (L1 ++ (key, v) :: L2) ∧ w.grownBy w' (some b) ∧ w'.heap.size = w.heap.size := by
  obtain ⟨es, clock, hb, H⟩ := h
  rcases K.find w hkey es.toList H.all with ⟨h1, h2⟩ | ⟨j, e0, h1, h2, h3⟩
  · have hm : (key, v0) ∈ es.toList.map kv := by rw [H.list]; simp
    obtain ⟨e0, he, h4⟩ := List.mem_map.1 hm
    exact absurd (Prod.ext_iff.1 h4).1 (h2 e0 he)
  · have hj : es[j]? = some e0 := by simpa using h2
    refine ⟨setBlock w b (.map (es.modify j fun e' => { e' with key := key, val := v }) clock), ?_, ⟨_, _, heap_setBlock_same hb _, (H.set h2 h3).1⟩, grown_setBlock hb, by simp [setBlock]⟩
    simp [Instr.mapUpdate, run_underlying ht, MapKept.run_getObj_map hb, K.check w false hkey, h1, hj, h3, K.stays w hkey, MapKept.run_setObj_map _ hb, Result.andThen, setBlock]
theorem IterL.toMap (h : IterL P k w r b L left) : MapL P k w b L := by
  obtain ⟨es, clock, since, seen, c0, hb, H, _⟩ := h
  exact ⟨es, clock, hb, H⟩
theorem IterL.ltr (h : IterL P k w r b L left) : r < w.heap.size := by
  obtain ⟨es, clock, since, seen, c0, _, _, hr, _⟩ := h
  exact (Array.getElem?_eq_some_iff.1 hr).1
theorem IterL.ne (h : IterL P k w r b L left) : r ≠ b := by
  obtain ⟨es, clock, since, seen, c0, hb, _, hr, _⟩ := h
  intro e1
  rw [e1, hb] at hr
  cases hr
theorem IterL.kept {row : Option Nat} (h : IterL P k w r b L left) (hg : w.grownBy w' row) (h1 : some b ≠ row) (h2 : some r ≠ row) : IterL P k w' r b L left := by
  have hl1 := h.toMap.lt
  have hl2 := h.ltr
  obtain ⟨es, clock, since, seen, c0, hb, H, hr, rest⟩ := h
  exact ⟨es, clock, since, seen, c0, (hg.block b hl1 h1).trans hb, H, (hg.block r hl2 h2).trans hr, rest⟩
theorem MapL.range (h : MapL P k w b L) (ht : P.underlying t = some (.map k e)) :
    ∃ w', (Instr.range t (.map (some b))).run P w = .ok (.pointer (some ⟨w.heap.size, 0, none⟩)) w' ∧ IterL P k w' w.heap.size b L (L.map Prod.fst) ∧ w.grownBy w' none ∧ w'.heap.size = w.heap.size + 1 := by
  have hlt := h.lt
  obtain ⟨es, clock, hb, H⟩ := h
  refine ⟨_, run_range_map w t k e b es clock ht hb, ⟨es, clock, clock, #[], clock, ((MapKept.heap_alloc w _).2 b hlt).trans hb, H, (MapKept.heap_alloc w _).1, H.old, Nat.le_refl _, Nat.le_refl _, ?_⟩, World.grownBy_alloc w _ none, by simp⟩
  rw [← H.list, List.map_map]
  simp only [leftOf, Array.toList_filter]
  rw [List.filter_eq_self.2 (fun x _ => by simp)]
  rfl
theorem IterL.next (h : IterL P k w r b L left) (ty : TypeId) :
    (left = [] ∧ (Instr.next (.pointer (some ⟨r, 0, none⟩)) false ty).run P w = .ok (.tuple #[.bool false]) w) ∨
    ∃ key v w' left', key ∈ left ∧ (key, v) ∈ L ∧ (Instr.next (.pointer (some ⟨r, 0, none⟩)) false ty).run P w = .ok (.tuple #[.bool true, key, v]) w' ∧ IterL P k w' r b L left' ∧
      (∀ x, x ∈ left' ↔ x ∈ left ∧ x ≠ key) ∧ left'.length < left.length ∧ w.grownBy w' (some r) ∧ w'.heap.size = w.heap.size ∧ ∀ w2 : World, w2.heap[r]? = w'.heap[r]? → w2.heap[b]? = w'.heap[b]? → (Instr.entry (.pointer (some ⟨r, 0, none⟩))).run P w2 = .ok (.tuple #[key, v]) w2 := by
  have hne := h.ne
  obtain ⟨es, clock, since, seen, c0, hb, H, hr, hold, hsc, hsk, rfl⟩ := h
  rcases run_next_at (P := P) w ty r b since c0 seen es clock hr hb hold hsc with ⟨h0, hrun⟩ | ⟨e, he, w1, hal, hrun⟩
  · refine Or.inl ⟨?_, hrun⟩
    have : (leftOf es seen).toList = [] := List.eq_nil_of_length_eq_zero (by rw [Array.length_toList]; exact h0)
    rw [this]
    rfl
  · obtain ⟨hem, hes⟩ := mem_left he
    have hr1 : w1.heap[r]? = some (.mapIter (some b) since seen c0) := by rcases hal with rfl | rfl <;> exact hr
    have hb1 : w1.heap[b]? = some (.map es clock) := by rcases hal with rfl | rfl <;> exact hb
    have hset := MapKept.heap_set (o' := .mapIter (some b) since (seen.push e.born) clock) hr1
    have hb' : (setBlock w1 r (.mapIter (some b) since (seen.push e.born) clock)).heap[b]? = some (.map es clock) := (hset.2 b (fun e1 => hne e1.symm)).trans hb1
    refine Or.inr ⟨e.key, e.val, _, _, List.mem_map.2 ⟨e, he, rfl⟩, H.key_mem hem, hrun, ⟨es, clock, since, seen.push e.born, clock, hb', H, hset.1, hold, hsk, hsk, rfl⟩, fun x => ?_, ?_, ?_, ?_,
      fun w2 h1 h2 => run_entry_at w2 r b since seen es clock e (h1.trans hset.1) (h2.trans hb') hem H.born⟩
    · have key1 : ∀ y ∈ es.toList, y.key = e.key → y.born = e.born := fun y hy h1 => by
        have hk := H.keys
        rw [← H.list, List.map_map] at hk
        obtain ⟨i, hi, rfl⟩ := List.getElem_of_mem hy
        obtain ⟨j, hj, rfl⟩ := List.getElem_of_mem hem
        have : i = j := by
          refine (List.getElem?_inj (by simpa using hi) hk).1 ?_
          rw [List.getElem?_map, List.getElem?_map, List.getElem?_eq_getElem hi, List.getElem?_eq_getElem hj]
          exact congrArg some h1
        subst this
        rfl
      constructor
      · intro hx
        obtain ⟨y, hy, rfl⟩ := List.mem_map.1 hx
        obtain ⟨y1, y2⟩ := mem_left hy
        rw [Array.contains_push] at y2
        simp only [Bool.or_eq_false_iff] at y2
        refine ⟨List.mem_map.2 ⟨y, ?_, rfl⟩, fun h1 => ?_⟩
        · simp only [leftOf, Array.mem_toList_iff, Array.mem_filter]
          exact ⟨by simpa using y1, by simp only [Bool.not_eq_true']; exact y2.1⟩
        · have := key1 y y1 h1
          simp [this] at y2
      · rintro ⟨hx, hxe⟩
        obtain ⟨y, hy, rfl⟩ := List.mem_map.1 hx
        obtain ⟨y1, y2⟩ := mem_left hy
        refine List.mem_map.2 ⟨y, ?_, rfl⟩
        simp only [leftOf, Array.mem_toList_iff, Array.mem_filter]
        refine ⟨by simpa using y1, ?_⟩
        rw [Array.contains_push, y2]
        have hbn : y.born ≠ e.born := fun h1 => hxe (by
          have hk := H.born
          obtain ⟨i, hi, rfl⟩ := List.getElem_of_mem y1
          obtain ⟨j, hj, rfl⟩ := List.getElem_of_mem hem
          have : i = j := by
            refine (List.getElem?_inj (by simpa using hi) hk).1 ?_
            rw [List.getElem?_map, List.getElem?_map, List.getElem?_eq_getElem hi, List.getElem?_eq_getElem hj]
            exact congrArg some h1
          subst this
          rfl)
        simp [hbn]
    · have := left_shrinks es seen e he
      simpa using this
    · rcases hal with rfl | rfl <;> exact ⟨rfl, rfl, rfl, by simp [setBlock], fun i _ hi => hset.2 i (fun e1 => hi (by rw [e1]))⟩
    · rcases hal with rfl | rfl <;> simp [setBlock]
theorem IterL.upd {L1 L2 : VL} {v0 : Value} (h : IterL P k w r b (L1 ++ (key, v0) :: L2) left) (K : Keyed P k) (ht : P.underlying t = some (.map k e)) (hkey : keyOf P k key = some kl) :
    ∃ w', (Instr.mapUpdate t (.map (some b)) key v).run P w = .ok () w' ∧ IterL P k w' r b (L1 ++ (key, v) :: L2) left ∧ w.grownBy w' (some b) ∧ w'.heap.size = w.heap.size := by
  have hne := h.ne
  obtain ⟨es, clock, since, seen, c0, hb, H, hr, hold, hsc, hsk, rfl⟩ := h
  rcases K.find w hkey es.toList H.all with ⟨h1, h2⟩ | ⟨j, e0, h1, h2, h3⟩
  · have hm : (key, v0) ∈ es.toList.map kv := by rw [H.list]; simp
    obtain ⟨e0, he, h4⟩ := List.mem_map.1 hm
    exact absurd (Prod.ext_iff.1 h4).1 (h2 e0 he)
  · have hj : es[j]? = some e0 := by simpa using h2
    obtain ⟨hE, hl⟩ := H.set (v := v) h2 h3
    refine ⟨setBlock w b (.map (es.modify j fun e' => { e' with key := key, val := v }) clock), ?_, ⟨_, clock, since, seen, c0, heap_setBlock_same hb _, hE, (heap_setBlock_other hb _ hne).trans hr, fun x hx => ?_, hsc, hsk, ?_⟩, grown_setBlock hb, by simp [setBlock]⟩
    · simp [Instr.mapUpdate, run_underlying ht, MapKept.run_getObj_map hb, K.check w false hkey, h1, hj, h3, K.stays w hkey, MapKept.run_setObj_map _ hb, Result.andThen, setBlock]
    · rw [hl] at hx
      rcases List.mem_or_eq_of_mem_set hx with hx | rfl
      · exact hold x hx
      · exact hold e0 (List.mem_of_getElem? h2)
    · simp only [leftOf, Array.toList_filter, hl]
      have hs : ∀ (l : List MapEntry) (j : Nat), l[j]? = some e0 → ((l.set j { e0 with key := key, val := v }).filter fun e => !seen.contains e.born).map (·.key) = (l.filter fun e => !seen.contains e.born).map (·.key) := by
        intro l
        induction l with
        | nil => intro j hj; simp at hj
        | cons x l ih =>
          intro j hj
          cases j with
          | zero =>
            simp only [List.getElem?_cons_zero, Option.some.injEq] at hj
            subst hj
            rw [List.set_cons_zero, List.filter_cons, List.filter_cons]
            dsimp only
            split
            · rw [List.map_cons, List.map_cons, h3]
            · rfl
          | succ j =>
            rw [List.getElem?_cons_succ] at hj
            rw [List.set_cons_succ, List.filter_cons, List.filter_cons]
            split
            · rw [List.map_cons, List.map_cons, ih j hj]
            · exact ih j hj
      exact hs _ j h2
end Go.Proofs.YtpggpdbipajchaaGreatDoor
namespace Go.Proofs.YtpggpdbipajchaaGreatDoor
open Go.RowKit
set_option linter.all false
abbrev Sg := Option (Nat × VL)
structure HyC (io : IoS) (w00 w0 : World) (B : Nat) (ob : Option Nat) : Prop where
  ne : ∀ i, io.wr i ∨ io.im i ∨ io.it i → some i ≠ ob
  lo : ∀ i, io.wr i ∨ io.it i → B ≤ i
  lt : ∀ i, io.wr i → i < w0.heap.size
  hb : ∀ b, ob = some b → b < w0.heap.size
  sz : B ≤ w0.heap.size
  fr : Fr (fun i => some i = ob ∨ B ≤ i) w00 w0
  tk : ∀ t ∈ tks, t < B ∧ some t ≠ ob
def St (P : Program) (k : TypeId) (N B : Nat) (w00 : World) (s : AS) (σ : Sg) (a : Act) (w : World) : Prop :=
  (∃ io w0 g, Rel io w0 N g s a w ∧ HyC io w00 w0 B (σ.map Prod.fst)) ∧ ∀ b L, σ = some (b, L) → MapL P k w b L
section
variable {P : Program} {k : TypeId} {N B : Nat} {w00 : World}
theorem MapL.same {w w' : World} {b : Nat} {L : VL} (h : MapL P k w b L) (e : w'.heap[b]? = w.heap[b]?) : MapL P k w' b L := by
  obtain ⟨es, clock, hb, H⟩ := h
  exact ⟨es, clock, e.trans hb, H⟩
theorem HyC.same {io : IoS} {w0 : World} {ob : Option Nat} (h : HyC io w00 w0 B ob) {g : Gh} {s : AS} {a : Act} {w : World} (hr : Rel io w0 N g s a w) {b : Nat} (hb : ob = some b) : w.heap[b]? = w0.heap[b]? :=
  hr.fr.block b (h.hb b hb) fun q => h.ne b (.inl q) hb.symm
theorem keepM {io : IoS} {w0 : World} {σ : Sg} {g g' : Gh} {s s' : AS} {a a' : Act} {w w' : World} (hC : HyC io w00 w0 B (σ.map Prod.fst)) (h1 : Rel io w0 N g s a w) (h2 : Rel io w0 N g' s' a' w') (hM : ∀ b L, σ = some (b, L) → MapL P k w b L) : ∀ b L, σ = some (b, L) → MapL P k w' b L := fun b L e =>
  (hM b L e).same (by
    have hb : σ.map Prod.fst = some b := by rw [e]; rfl
    rw [hC.same h1 hb, hC.same h2 hb])
theorem HyC.apartI {io : IoS} {w0 : World} {ob : Option Nat} (h : HyC io w00 w0 B ob) {g : Gh} {s : AS} {a : Act} {w : World} (hr : Rel io w0 N g s a w) {kk : Bool} {i : Nat} (hi : g.I kk i) : i < w.heap.size ∧ some i ≠ ob := by
  refine ⟨hr.lt _ _ hi, ?_⟩
  cases kk with
  | false => exact h.ne i (.inr (.inl (hr.old i hi)))
  | true =>
    rcases hr.new i hi with ⟨h1, _⟩ | h1
    · exact fun e => by have := h.hb i e.symm; omega
    · exact h.ne i (.inr (.inr h1))
theorem HyC.apartO {io : IoS} {w0 : World} {ob : Option Nat} (h : HyC io w00 w0 B ob) {g : Gh} {s : AS} {a : Act} {w : World} (hr : Rel io w0 N g s a w) {o : Nat} {c : Nat × Nat × List PV} (ho : s.ob o = some c) : g.β o < w.heap.size ∧ some (g.β o) ≠ ob ∧ B ≤ g.β o := by
  obtain ⟨h1, h2, h3, h4⟩ := hr.ob o c ho
  obtain ⟨arr, ha, _⟩ := h4.1
  refine ⟨lt_of_heap ha, ?_, ?_⟩
  · rcases h2 with h2 | h2
    · exact fun e => by have := h.hb _ e.symm; omega
    · exact h.ne _ (.inl h2)
  · rcases h2 with h2 | h2
    · have := h.sz; omega
    · exact h.lo _ (.inl h2)
theorem Rel.rebase {io : IoS} {w0 w w' : World} {ob ob' : Option Nat} {g : Gh} {s : AS} {a : Act} (hr : Rel io w0 N g s a w) (hC : HyC io w00 w0 B ob) (hf : w.grownBy w' ob')
    (h1 : ∀ i, i < w.heap.size → some i = ob' → some i = ob) (h2 : ∀ i, some i = ob → some i = ob') (h3 : ∀ b, ob' = some b → b < w'.heap.size) : ∃ io', Rel io' w' N g s a w' ∧ HyC io' w00 w' B ob' := by
  have hI : ∀ kk i, g.I kk i → w'.heap[i]? = w.heap[i]? := fun kk i hi => by
    obtain ⟨q1, q2⟩ := hC.apartI hr hi
    exact hf.block i q1 fun e => q2 (h1 i q1 e)
  have hsz : B ≤ w.heap.size := Nat.le_trans hC.sz hr.fr.size
  have htk : ∀ t ∈ tks, some t ≠ ob' := fun t ht e => (hC.tk t ht).2 (h1 t (by have := (hC.tk t ht).1; omega) e)
  refine ⟨{ wr := fun i => ∃ o, (s.ob o).isSome ∧ i = g.β o, im := g.I false, m := 0, β0 := fun _ => 0, κ0 := fun _ => 0, it := g.I true }, ⟨hr.nt, hr.df, fun t => (hr.tm t).mono (Gh.le_refl g) hI, fun o c ho => ?_, hr.inj, hr.nx, fun kk i hi => Nat.lt_of_lt_of_le (hr.lt kk i hi) hf.size, fun i hi => .inr hi, Fr.refl _ _, fun i hi => hi, ⟨fun o ho => (Nat.not_lt_zero o ho).elim, fun o ho => (Nat.not_lt_zero o ho).elim⟩, fun o ho => False.elim ho, ?_⟩, ⟨fun i hi => ?_, fun i hi => ?_, fun i hi => ?_, h3, Nat.le_trans hsz hf.size, ?_, fun t ht => ⟨(hC.tk t ht).1, htk t ht⟩⟩⟩
  · obtain ⟨k1, k2, k3, k4⟩ := hr.ob o c ho
    obtain ⟨q1, q2, q3⟩ := hC.apartO hr ho
    exact ⟨k1, .inr ⟨o, by simp [ho], rfl⟩, k3, k4.mono (Gh.le_refl g) k1 hI (hf.block _ q1 fun e => q2 (h1 _ q1 e))⟩
  · have t1 : TabF w (fun i => some i = ob') := hr.tab.keep hr.fr fun t ht e => htk t ht e
    refine t1.keep ⟨hf.os, hf.tape, hf.output, hf.size, fun i hi hn => hf.block i hi hn⟩ ?_
    rintro t ht ⟨o, ho, rfl⟩
    obtain ⟨c, hc⟩ := Option.isSome_iff_exists.1 ho
    have := (hC.apartO hr hc).2.2
    have := (hC.tk _ ht).1
    omega
  · rcases hi with ⟨o, ho, rfl⟩ | hi | hi
    · obtain ⟨c, hc⟩ := Option.isSome_iff_exists.1 ho
      obtain ⟨q1, q2, q3⟩ := hC.apartO hr hc
      exact fun e => q2 (h1 _ q1 e)
    · obtain ⟨q1, q2⟩ := hC.apartI hr hi
      exact fun e => q2 (h1 _ q1 e)
    · obtain ⟨q1, q2⟩ := hC.apartI hr hi
      exact fun e => q2 (h1 _ q1 e)
  · rcases hi with ⟨o, ho, rfl⟩ | hi
    · obtain ⟨c, hc⟩ := Option.isSome_iff_exists.1 ho
      exact (hC.apartO hr hc).2.2
    · rcases hr.new i hi with ⟨q, _⟩ | q
      · exact Nat.le_trans hC.sz q
      · exact hC.lo i (.inr q)
  · obtain ⟨o, ho, rfl⟩ := hi
    obtain ⟨c, hc⟩ := Option.isSome_iff_exists.1 ho
    exact Nat.lt_of_lt_of_le (hC.apartO hr hc).1 hf.size
  · have hf1 : Fr (fun i => some i = ob' ∨ B ≤ i) w0 w := ⟨hr.fr.os, hr.fr.tape, hr.fr.output, hr.fr.size, fun i hi hn => hr.fr.block i hi fun q => hn (.inr (hC.lo i (.inl q)))⟩
    refine ⟨hf.os.trans (hf1.os.trans hC.fr.os), hf.tape.trans (hf1.tape.trans hC.fr.tape), hf.output.trans (hf1.output.trans hC.fr.output), Nat.le_trans hC.fr.size (Nat.le_trans hf1.size hf.size), fun i hi hn => ?_⟩
    have g1 := hC.fr.block i hi fun q => hn (q.imp (h2 i) id)
    have g2 := hf1.block i (Nat.lt_of_lt_of_le hi hC.fr.size) hn
    have g3 := hf.block i (Nat.lt_of_lt_of_le hi (Nat.le_trans hC.fr.size hf1.size)) fun q => hn (.inl q)
    exact g3.trans (g2.trans g1)
structure HY (P : Program) (k : TypeId) (N B : Nat) (w00 : World) (c : Code) (K : X → AS → Sg → Prop) (s : AS) (σ : Sg) : Prop where
  go : ∀ a w, St P k N B w00 s σ a w → ∀ Q : Exit → Act → World → Prop, (∀ x s' σ' a' w', St P k N B w00 s' σ' a' w' → K x s' σ' → Q x.toExit a' w') → CWp P c Q a w
variable {c c1 c2 : Code} {K : X → AS → Sg → Prop} {s s' : AS} {σ : Sg}
theorem HY.seq (h : HY P k N B w00 c1 (fun x s' σ' => match x with | .normal => HY P k N B w00 c2 K s' σ' | .exit id => K (.exit id) s' σ' | .ret => K .ret s' σ') s σ) : HY P k N B w00 (.seq c1 c2) K s σ := HY.mk fun a w hs Q hQ => by
  refine wp_seq (CWp.wp (h.go a w hs _ fun x s' σ' a' w' hs' hk => ?_))
  cases x with
  | normal => exact (hk.go a' w' hs' Q hQ).wp
  | exit id => exact hQ _ s' σ' a' w' hs' hk
  | ret => exact hQ _ s' σ' a' w' hs' hk
theorem HY.block {id : Nat} (h : HY P k N B w00 c (fun x s' σ' => K (x.out id) s' σ') s σ) : HY P k N B w00 (.block id c) K s σ := HY.mk fun a w hs Q hQ => by
  refine wp_block (CWp.wp (h.go a w hs _ fun x s' σ' a' w' hs' hk => ?_))
  have := hQ _ s' σ' a' w' hs' hk
  cases x with
  | normal => exact this
  | ret => exact this
  | exit id' =>
    simp only [X.toExit, Exit.inBlock, X.out] at this ⊢
    split
    · rename_i hid; simpa [hid] using this
    · rename_i hid; simpa [hid] using this
theorem HY.cond {x : Operand} {b : Bool} (hc : look s.tm x = .val (.bool b)) (ht : b = true → HY P k N B w00 c1 K s σ) (hf : b = false → HY P k N B w00 c2 K s σ) : HY P k N B w00 (.cond x c1 c2) K s σ := HY.mk fun a w hs Q hQ => by
  obtain ⟨⟨io, w0, g, hr, hC⟩, hM⟩ := hs
  have hx := hr.look x
  rw [hc] at hx
  simp only [Rep] at hx
  refine wp_cond hx ?_
  cases b with
  | true => exact ((ht rfl).go a w ⟨⟨io, w0, g, hr, hC⟩, hM⟩ Q hQ).wp
  | false => exact ((hf rfl).go a w ⟨⟨io, w0, g, hr, hC⟩, hM⟩ Q hQ).wp
theorem HY.skip (h : K .normal s σ) : HY P k N B w00 .skip K s σ := HY.mk fun a w hs Q hQ => wp_skip (hQ .normal s σ a w hs h)
theorem HY.exit {id : Nat} (h : K (.exit id) s σ) : HY P k N B w00 (.exit id) K s σ := HY.mk fun a w hs Q hQ => wp_exit (hQ (.exit id) s σ a w hs h)
theorem HY.ret (h : K .ret s σ) : HY P k N B w00 .ret K s σ := HY.mk fun a w hs Q hQ => wp_ret (hQ .ret s σ a w hs h)
theorem St.forget {a : Act} {w : World} (h : St P k N B w00 s σ a w) (hf : s.forget s') : St P k N B w00 s' σ a w := by
  obtain ⟨⟨io, w0, g, hr, hC⟩, hM⟩ := h
  exact ⟨⟨io, w0, g, hr.forget hf, hC⟩, hM⟩
theorem HY.mono {K1 : X → AS → Sg → Prop} (h : HY P k N B w00 c K1 s σ) (hk : ∀ x s' σ', K1 x s' σ' → K x s' σ') : HY P k N B w00 c K s σ := ⟨fun a w hs Q hQ => h.go a w hs Q fun x s' σ' a' w' hs' h1 => hQ x s' σ' a' w' hs' (hk x s' σ' h1)⟩
theorem HY.forget (hf : s.forget s') (h : HY P k N B w00 c K s' σ) : HY P k N B w00 c K s σ := HY.mk fun a w hs Q hQ => h.go a w (hs.forget hf) Q hQ
theorem HY.loop {α : Type} (S : α → AS) (I : α → Sg → Prop) (μ : α → Nat) (i : α) (hi : I i σ) (hs : s.forget (S i))
    (h : ∀ i σ, I i σ → HY P k N B w00 c (fun x s' σ' => match x with | .normal => ∃ j, I j σ' ∧ μ j < μ i ∧ s'.forget (S j) | .exit id => K (.exit id) s' σ' | .ret => K .ret s' σ') (S i) σ) : HY P k N B w00 (.loop c) K s σ := by
  have key : ∀ n i σ, μ i = n → I i σ → ∀ a w, St P k N B w00 (S i) σ a w → ∀ Q : Exit → Act → World → Prop, (∀ x s' σ' a' w', St P k N B w00 s' σ' a' w' → K x s' σ' → Q x.toExit a' w') → LoopWp P c Q a w := by
    intro n
    induction n using Nat.strongRecOn with
    | _ n ih =>
      intro i σ hn hi a w hst Q hQ
      refine LoopWp.step (CWp.wp ((h i σ hi).go a w hst _ fun x s' σ' a' w' hst' hk => ?_))
      cases x with
      | normal =>
        obtain ⟨j, hj, hlt, hf⟩ := hk
        exact ih (μ j) (hn ▸ hlt) j σ' rfl hj a' w' (hst'.forget hf) Q hQ
      | exit id => exact hQ _ s' σ' a' w' hst' hk
      | ret => exact hQ _ s' σ' a' w' hst' hk
  exact HY.mk fun a w hst Q hQ => key _ i σ rfl hi a w (hst.forget hs) Q hQ
theorem HY.eng {Γ : Ctx} (hm : P.follows .mixedOrders = true) (hΓ : SoundΓ P Γ) (hc : codeOk Γ true N c = true) (hp : pq P Γ N c (fun x s' => K x s' σ) s.tm s.ob s.nx) : HY P k N B w00 c K s σ := HY.mk fun a w hs Q hQ => by
  obtain ⟨⟨io, w0, g, hr, hC⟩, hM⟩ := hs
  obtain ⟨x, s', h1, h2⟩ := pw_ok (fun _ => hm) c _ _ hc hp
  exact h1.cwp hΓ.w (fun b hb => hC.lt b hb) g a w Q hr fun g' a' w' hr' => hQ x s' σ a' w' ⟨⟨io, w0, g', hr', hC⟩, keepM hC hr hr' hM⟩ h2
def Ctx.see (Γ : Ctx) (M : MpO) : Ctx := { Γ with mp := some M }
theorem HY.see {Γ : Ctx} {M : MpO} {L : VL} (hm : P.follows .mixedOrders = true) (hΓ : SoundΓ P Γ) (hσ : σ = some (M.b, L)) (hans : ∀ key c p, M.ans key c = some p → ∀ (w : World) (g : Gh), MapL P k w M.b L → ∃ v, (Instr.lookup M.t (.map (some M.b)) key c).run P w = .ok v w ∧ Rep g w p v)
    (hc : codeOk (Γ.see M) true N c = true) (hp : pq P (Γ.see M) N c (fun x s' => K x s' σ) s.tm s.ob s.nx) : HY P k N B w00 c K s σ := HY.mk fun a w hs Q hQ => by
  obtain ⟨⟨io, w0, g, hr, hC⟩, hM⟩ := hs
  obtain ⟨x, s', h1, h2⟩ := pw_ok (fun _ => hm) c _ _ hc hp
  have hb : σ.map Prod.fst = some M.b := by rw [hσ]; rfl
  have hW : SoundW P (Γ.see M) io.wr w0 := ⟨hΓ.1, hΓ.2.1, fun M' hM' => by
    cases hM'
    refine ⟨hC.hb _ hb, fun q => hC.ne _ (.inl q) hb.symm, fun key c p hp w1 g1 he => hans key c p hp w1 g1 ((hM _ _ hσ).same ?_)⟩
    rw [he, hC.same hr hb]⟩
  exact h1.cwp hW (fun b hb => hC.lt b hb) g a w Q hr fun g' a' w' hr' => hQ x s' σ a' w' ⟨⟨io, w0, g', hr', hC⟩, keepM hC hr hr' hM⟩ h2
structure HO (P : Program) (k : TypeId) (N B : Nat) (w00 : World) (ops : Array Oper) (j : Nat) (l : List Oper) (K : AS → Sg → Prop) (s : AS) (σ : Sg) : Prop where
  go : ops.toList.drop j = l → ∀ a w, St P k N B w00 s σ a w → ∀ Q : Exit → Act → World → Prop, (∀ s' σ' a' w', St P k N B w00 s' σ' a' w' → K s' σ' → Q .normal a' w') → wpOps P ops Q (List.range' j l.length) a w
variable {ops : Array Oper} {J : AS → Sg → Prop} {j : Nat} {o : Oper} {l l1 l2 : List Oper}
theorem HY.each {id : Nat} {os : List Oper} (h : HO P k N B w00 os.toArray 0 os (K .normal) s σ) : HY P k N B w00 (.region id os.toArray false) K s σ := HY.mk fun a w hs Q hQ => by
  refine wp_region ?_
  have := h.go (by simp) a w hs Q fun s' σ' a' w' hs' hk => hQ .normal s' σ' a' w' hs' hk
  rw [List.range_eq_range']
  simpa using this
theorem HO.nil (h : J s σ) : HO P k N B w00 ops j [] J s σ := HO.mk fun _ a w hs Q hQ => hQ s σ a w hs h
theorem seqPre {Γ : Ctx} {imm : Md} {io : IoS} {w0 : World} {Q : Exit → Act → World → Prop} {s1 : AS} (hΓ : SoundW P Γ io.wr w0) (hio : ∀ b, io b → b < w0.heap.size) (hd : ∀ o ∈ ops.toList, dstOk N o = true) : ∀ (l1 : List Oper) (j : Nat) {g : Gh} {s : AS} {a : Act} {w : World}, ops.toList.drop j = l1 ++ l2 → Rel io w0 N g s a w →
    evSeq P Γ imm ops l1 s = some s1 → (∀ g' a' w', Rel io w0 N g' s1 a' w' → wpOps P ops Q (List.range' (j + l1.length) l2.length) a' w') → wpOps P ops Q (List.range' j (l1 ++ l2).length) a w
  | [], j, g, s, a, w, hl, h, he, hQ => by
    simp only [evSeq, Option.some.injEq] at he
    subst he
    exact hQ g a w h
  | o :: l, j, g, s, a, w, hl, h, he, hQ => by
    have hk : ops.toList[j]? = some o := by
      have := congrArg (·[0]?) hl
      simpa using this
    have hk' : ops[j]? = some o := by simpa using hk
    have hl' : ops.toList.drop (j + 1) = l ++ l2 := by
      rw [← List.drop_drop, hl]
      rfl
    simp only [evSeq] at he
    split at he
    · rename_i s2 h2
      simp only [List.cons_append, List.length_cons, List.range'_succ]
      rw [wpOps_cons]
      exact op_ok h hΓ hio (hd o (List.mem_of_getElem? hk)) h2 hk' fun g' a' w' hr => seqPre hΓ hio hd l (j + 1) hl' hr he fun g2 a2 w2 hr2 => by
        have := hQ g2 a2 w2 hr2
        rwa [List.length_cons, show j + (l.length + 1) = j + 1 + l.length by omega] at this
    · cases he
theorem HO.pre {Γ : Ctx} {imm : Md} {os : List Oper} (n : Nat) (hΓ : SoundΓ P Γ) (hd : os.toArray.all (dstOk N) = true) (h1 : l.take n = l1) (h2 : l.drop n = l2) {gs : List (Option Nat)} (hg : os.map (·.dst) = gs) (hp : wq P Γ imm gs l1 (fun s1 => HO P k N B w00 os.toArray (j + l1.length) l2 J s1 σ) s.tm s.ob s.nx) : HO P k N B w00 os.toArray j l J s σ := HO.mk fun hl a w hs Q hQ => by
  obtain ⟨⟨io, w0, g, hr, hC⟩, hM⟩ := hs
  have hl12 : l = l1 ++ l2 := by rw [← h1, ← h2, List.take_append_drop]
  subst hg
  rw [show os.map (·.dst) = os.toArray.toList.map (·.dst) by simp, ← evQ_wq] at hp
  obtain ⟨s1, e1, e2⟩ := evQ_ok _ _ hp
  rw [hl12] at hl ⊢
  refine seqPre hΓ.w (fun b hb => hC.lt b hb) (fun o ho => (Array.all_eq_true_iff_forall_mem.1 hd) o (by simpa using ho)) l1 j hl hr e1 fun g' a' w' hr' => ?_
  refine e2.go ?_ a' w' ⟨⟨io, w0, g', hr', hC⟩, keepM hC hr hr' hM⟩ Q hQ
  rw [← List.drop_drop, hl]
  simp
theorem HO.one (hg : o.guard = none) (h : ∀ a w, St P k N B w00 s σ a w → ∀ (Kn : Act → World → Prop) (Q : Exit → Act → World → Prop), (∀ s' σ' a' w', St P k N B w00 s' σ' a' w' → HO P k N B w00 ops (j + 1) l J s' σ' → Kn a' w') → o.wp P a w Kn Q) : HO P k N B w00 ops j (o :: l) J s σ := HO.mk fun hl a w hs Q hQ => by
  have hk : ops.toList[j]? = some o := by
    have := congrArg (·[0]?) hl
    simpa using this
  have hk' : ops[j]? = some o := by simpa using hk
  have hl' : ops.toList.drop (j + 1) = l := by
    rw [← List.drop_drop, hl]
    rfl
  simp only [List.length_cons, List.range'_succ]
  rw [wpOps_cons]
  unfold wpOp
  simp only [hk']
  have hw : Region.wanted o (yielded ops a.tmps) = true := by simp [Region.wanted, hg]
  rw [hw]
  simp only [if_true]
  left
  exact h a w hs _ _ fun s' σ' a' w' hs' hh => hh.go hl' a' w' hs' Q hQ
theorem St.put {a : Act} {w : World} (h : St P k N B w00 s σ a w) {d : Option Nat} (hd : ∀ x, d = some x → x < N) {p : PV} {v : Value} (hv : ∀ (g : Gh) (w : World), Rep g w p v) : St P k N B w00 (s.put d p) σ (a.put d v) w := by
  obtain ⟨⟨io, w0, g, hr, hC⟩, hM⟩ := h
  exact ⟨⟨io, w0, g, hr.put hd (hv g w), hC⟩, hM⟩
theorem St.rebase {a : Act} {w w' : World} {b : Nat} {L L' : VL} (h : St P k N B w00 s (some (b, L)) a w) (hf : w.grownBy w' (some b)) (hM : MapL P k w' b L') : St P k N B w00 s (some (b, L')) a w' := by
  obtain ⟨⟨io, w0, g, hr, hC⟩, _⟩ := h
  obtain ⟨io', h1, h2⟩ := hr.rebase hC hf (fun i _ e => e) (fun i e => e) (fun b' e => by cases e; exact hM.lt)
  exact ⟨⟨io', w', g, h1, h2⟩, fun b' L2 e => by cases e; exact hM⟩
theorem HO.call {b f : Nat} {L : VL} {c : Call} {ps : List PV} {R : PV → VL → Prop} (ho : o.op = .call c) (hc : c.callee = .value (.func f)) (hf : Fnd P f) (hg : o.guard = none) (hd : ∀ x, o.dst = some x → x < N) (hps : (c.args.toList.map (look s.tm)).mapM (reify false 0 s.ob fuel) = some ps)
    (hcall : ∀ (w : World) (Jm : Nat → Prop) (args : Array Value), (∀ i, Jm i → i < w.heap.size ∧ i ≠ b) → RepL (argG Jm) w ps args.toList → MapL P k w b L → TabF w (fun i => i = b) → Calls P f args w fun e w' => ∃ p v L', e = .returned v ∧ (∀ (g : Gh) (w : World), Rep g w p v) ∧ w.grownBy w' (some b) ∧ MapL P k w' b L' ∧ R p L')
    (h : ∀ p L', R p L' → HO P k N B w00 ops (j + 1) l J (s.put o.dst p) (some (b, L'))) : HO P k N B w00 ops j (o :: l) J s (some (b, L)) := by
  refine HO.one hg fun a w hs Kn Q hK => ?_
  have hs0 := hs
  obtain ⟨⟨io, w0, g, hr, hC⟩, hM⟩ := hs
  obtain ⟨fn, hfn, hname, hbody⟩ := hf
  have hrun : (execOp a.eval o).run P w = .ok (.enter f (c.args.map a.eval)) w := by
    unfold execOp
    simp only [ho, resolve, hc, Act.eval, Deferred.ofValue, Sem.run_bind, Sem.run_pure, Result.andThen_ok, invoke, callFunc, run_program, hfn]
    simp [hname, hbody]
  unfold Oper.wp
  rw [hrun, Oper.upon_enter]
  have hseen : Seen false 0 g s (argG fun b => (∃ k, g.I k b) ∨ ∃ o, (s.ob o).isSome ∧ b = g.β o) := ⟨fun _ => ⟨fun k b hb => ⟨rfl, .inl ⟨k, hb⟩⟩, fun o ho => ⟨rfl, .inr ⟨o, ho, rfl⟩⟩⟩, fun hh => by cases hh⟩
  have hargs : RepL (argG fun b => (∃ k, g.I k b) ∨ ∃ o, (s.ob o).isSome ∧ b = g.β o) w ps (c.args.map a.eval).toList := by
    rw [Array.toList_map]
    exact RepL.conv (Rep.seen (fun o c hoc => (hr.ob o c hoc).2.2.2) hseen fuel) (hr.looks _) hps
  have hT : TabF w (fun i => i = b) := hr.tab.keep hr.fr fun t ht e => (hC.tk t ht).2 (by rw [e]; rfl)
  refine (hcall w _ _ ?_ hargs (hM _ _ rfl) hT).mono ?_
  · rintro i (⟨k', hi⟩ | ⟨o', ho', rfl⟩)
    · obtain ⟨q1, q2⟩ := hC.apartI hr hi
      exact ⟨q1, fun e => q2 (by rw [e]; rfl)⟩
    · obtain ⟨c', hc'⟩ := Option.isSome_iff_exists.1 ho'
      obtain ⟨q1, q2, _⟩ := hC.apartO hr hc'
      exact ⟨q1, fun e => q2 (by rw [e]; rfl)⟩
  · rintro e w' ⟨p, v, L', rfl, hv, hgr, hM', hR⟩
    exact hK _ _ _ _ ((hs0.rebase hgr hM').put hd hv) (h p L' hR)
end
end Go.Proofs.YtpggpdbipajchaaGreatDoor
