/- What the proof rests on, part 6: contracts of functions. No condition beyond what each states. -/
import Derived.Test.YtpggpdbipajchaaGreatDoorZIpD5
namespace Go.Proofs.YtpggpdbipajchaaGreatDoor
open Go.RowKit
set_option linter.all false
section
variable {P : Program} {Γ : Ctx}
theorem rel_of_pq (hm : P.follows .mixedOrders = true) {f : Nat} {fn : Func} {c : Code} (hΓ : SoundΓ P Γ) (hf : P.funcs[f]? = some fn) (hb : fn.body = some c) (N : Nat) (hN : fn.ntmps = N) (rs : List ResultVar) (hrs : fn.results.toList = rs) (hc : codeOk Γ true N c = true)
    (D : List PV → Prop) (R : List PV → PV → Prop) (hlen : ∀ ps, D ps → ps.length ≤ N)
    (h : ∀ ps, D ps → pq P Γ N c (fun x s' => ∃ r, R ps r ∧ Post P rs r x s') (initS ps).tm (fun _ => none) 0) : ∃ φ : Fun, Sound P f φ ∧ ∀ ps, D ps → ∃ r, φ ps = some r ∧ R ps r := by
  classical
  subst hN hrs
  let Z : List PV → PV → Prop := fun ps r => D ps ∧ R ps r ∧ ∃ x s', Ev P Γ fn.ntmps c (initS ps) x s' ∧ Post P fn.results.toList r x s'
  let φ : Fun := fun ps => if h : ∃ r, Z ps r then some (Classical.choose h) else none
  have hφ : ∀ ps r, φ ps = some r → Z ps r := fun ps r hr => by
    simp only [φ] at hr
    split at hr
    · rename_i hz
      cases hr
      exact Classical.choose_spec hz
    · cases hr
  refine ⟨φ, sound_of_ev hΓ hf hb (fun ps r hr => hlen ps (hφ ps r hr).1) fun ps r hr => ?_, fun ps hd => ?_⟩
  · obtain ⟨_, _, x, s', h1, h2, h3⟩ := hφ ps r hr
    rw [Option.bind_eq_some_iff] at h3
    obtain ⟨qs, h4, h5⟩ := h3
    exact ⟨x, s', qs, h1, h2, h4, h5⟩
  · obtain ⟨x, s', h1, r, h2, h3⟩ := pw_ok (mixed := true) (fun _ => hm) c _ _ hc (h ps hd)
    have hz : ∃ r, Z ps r := ⟨r, hd, h2, x, s', h1, h3⟩
    have he : φ ps = some (Classical.choose hz) := by simp only [φ]; rw [dif_pos hz]
    exact ⟨_, he, (hφ ps _ he).2.1⟩
theorem relIO_of_pq (hm : P.follows .mixedOrders = true) {f : Nat} {fn : Func} {c : Code} (hΓ : SoundΓ P Γ) (hf : P.funcs[f]? = some fn) (hb : fn.body = some c) (N : Nat) (hN : fn.ntmps = N) (rs : List ResultVar) (hrs : fn.results.toList = rs) (hc : codeOk Γ true N c = true)
    (D : List PV → CellIO → Prop) (R : List PV → CellIO → PV → CellIO → Prop) (hlen : ∀ ps o, D ps o → ps.length ≤ N)
    (h : ∀ ps o, D ps o → pq P Γ N c (fun x s' => ∃ r o', R ps o r o' ∧ PostIO P rs 1 r [o'] x s') (initS ps).tm (lo [(0, o)]) 1) : ∃ Φ : FunIO, SoundIO P f Φ ∧ ∀ ps o, D ps o → ∃ r o', Φ ps [o] = some (r, [o']) ∧ R ps o r o' := by
  classical
  subst hN hrs
  let Z : List PV → List CellIO → PV × List CellIO → Prop := fun ps cs r => ∃ o o', cs = [o] ∧ r.2 = [o'] ∧ D ps o ∧ R ps o r.1 o' ∧ ∃ x s', Ev P Γ fn.ntmps c (initIO ps cs) x s' ∧ PostIO P fn.results.toList 1 r.1 [o'] x s'
  let Φ : FunIO := fun ps cs => if h : ∃ r, Z ps cs r then some (Classical.choose h) else none
  have hΦ : ∀ ps cs r, Φ ps cs = some r → Z ps cs r := fun ps cs r hr => by
    simp only [Φ] at hr
    split at hr
    · rename_i hz
      cases hr
      exact Classical.choose_spec hz
    · cases hr
  refine ⟨Φ, soundIO_of_ev hΓ hf hb (fun ps cs r hr => ?_) fun ps cs r cs' hr => ?_, fun ps o hd => ?_⟩
  · obtain ⟨o, o', _, _, h1, _⟩ := hΦ ps cs r hr
    exact hlen ps o h1
  · obtain ⟨o, o', rfl, h0, _, _, x, s', h1, h2, news, h3, h4, h5, h6⟩ := hΦ ps cs (r, cs') hr
    dsimp only at h0
    subst h0
    rw [Option.bind_eq_some_iff] at h5
    obtain ⟨qs, h8, h9⟩ := h5
    refine ⟨x, s', qs, List.range 1 ++ news, h1, h2, h8, h9, by simp, fun i hi => ?_, ?_, h6⟩
    · have : i = 0 := by simpa using hi
      subst this
      rfl
    · rw [List.nodup_append]
      exact ⟨List.nodup_range, h4, fun a ha b hb e => by
        have := h3 b hb
        have := List.mem_range.1 ha
        omega⟩
  · have h' : pw P Γ fn.ntmps c (fun x s' => ∃ r o', R ps o r o' ∧ PostIO P fn.results.toList 1 r [o'] x s') (initIO ps [o]) := by
      have := h ps o hd
      rw [← ls_one] at this
      exact this
    obtain ⟨x, s', h1, r, o', h2, h3⟩ := pw_ok (mixed := true) (fun _ => hm) c _ _ hc h'
    have hz : ∃ r, Z ps [o] r := ⟨(r, [o']), o, o', rfl, rfl, hd, h2, x, s', h1, h3⟩
    have he : Φ ps [o] = some (Classical.choose hz) := by simp only [Φ]; rw [dif_pos hz]
    obtain ⟨o1, o2, e1, e2, _, e3, _⟩ := hΦ ps [o] _ he
    cases e1
    exact ⟨(Classical.choose hz).1, o2, by rw [he, ← e2], e3⟩
end
abbrev rdC (T : Nat) (code : List Int) (p : Int) : CellIO := (T, 2, [.agg [.lst false 1 (code.map fun n => PV.val (.int .u8 n)), .val (.int .i64 p)]])
structure okRd (code : List Int) (p : Int) : Prop where
  len : code.length ≤ 2000
  byte : ∀ i : Nat, 0 ≤ code[i]?.getD 0 ∧ code[i]?.getD 0 ≤ 255
  pos : 0 ≤ p
  small : p ≤ 1000000000000
def Drw2 (T : Nat) (Φ : FunIO) (B c : Int) {α : Type} (E : α → PV) (D : Int → Prop) (R : Int → α → Prop) : Prop :=
  ∀ code p n, okRd code p → p ≤ B → D n → ∃ a p', Φ [.own 0 2 0 0, .val (.int .i64 n)] [rdC T code p] = some (E a, [rdC T code p']) ∧ R n a ∧ okRd code p' ∧ p ≤ p' ∧ p' ≤ p + c
section
variable {P : Program} {Γ : Ctx} {imm : Md} {N : Nat} {gs : List (Option Nat)} {l : List Oper} {Q : AS → Prop} {tm : Nat → PV} {ob : Objs} {nx T : Nat} {Φ : FunIO} {B c : Int} {α : Type} {E : α → PV}
theorem rd_ev {o : Nat} {code : List Int} {p p' : Int} {a : α} {qs : List PV} (hE : ∀ nm a, renF nm fuel (E a) = some (E a)) (ho : ob o = some (rdC T code p)) (h : Φ qs [rdC T code p] = some (E a, [rdC T code p'])) : ioOne Φ ob nx o qs (ob o) = some (E a, upd ob o (some (rdC T code p')), nx) := by
  have h1 : ∀ (nm : Nat → Option Nat) (q : Int), [PV.agg [.lst false 1 (code.map fun n => PV.val (.int .u8 n)), .val (.int .i64 q)]].mapM (renF nm fuel) = some [PV.agg [.lst false 1 (code.map fun n => PV.val (.int .u8 n)), .val (.int .i64 q)]] := fun nm q => by
    simp only [one_mapM, renS_fuel, renS_agg, mapM_cons', mapM_nil', renS_vals, renS_val, Option.bind_some, Option.map_some]
  rw [ho, ioOne_some, h1, Option.bind_some, h, ioR_one, hE, Option.bind_some, h1]
  rfl
theorem i_drw2 {D : Int → Prop} {R : Int → α → Prop} (hd : Drw2 T Φ B c E D R) (hE : ∀ nm a, renF nm fuel (E a) = some (E a)) {d f ty o : Nat} {x y : Operand} {ts : Array TypeId} {pos : String} {af : Array Edge} {code : List Int} {p n : Int} (hio : Γ.io f = some Φ) (hx : look tm x = .own o 2 0 0) (hy : look tm y = .val (.int .i64 n)) (ho : ob o = some (rdC T code p)) (hok : okRd code p) (hB : p ≤ B) (hD : D n)
    (he : effOk Γ imm nx (look tm) (.call { callee := .value (.func f), args := #[x, y], argTypes := ts }) = true)
    (hk : ∀ a p', R n a → okRd code p' → p ≤ p' → p' ≤ p + c → wq P Γ imm gs l Q (upd tm d (E a)) (upd ob o (some (rdC T code p'))) nx) :
    wq P Γ imm gs ({ dst := some d, op := .call { callee := .value (.func f), args := #[x, y], argTypes := ts }, type := ty, pos := pos, after := af, guard := none } :: l) Q tm ob nx := by
  obtain ⟨a, p', h1, h2, h3, h4, h5⟩ := hd code p n hok hB hD
  refine i_E (by simp [isEff, calleeIO, hio]) he ?_ (hk a p' h2 h3 h4 h5)
  rw [ee_call, hio, ioGo_some]
  show ioEv Φ ob nx [look tm x, look tm y] = _
  rw [hx, hy, io_o2]
  exact rd_ev hE ho h1
end
section
variable {v : Int}
theorem gl1 {a0 : Int} (h : v < 1) : ([.val (.int .i64 a0)] : List PV)[v.toNat]? = some (.val (.int .i64 (sel 0 [a0] v.toNat))) := by
  have hx : v.toNat < 1 := by omega
  have h2 := omg_i (f := fun n => PV.val (.int .i64 n)) (l := [a0]) (k := v.toNat) hx
  rw [← List.getElem?_map] at h2
  exact h2
theorem gs1 {a0 : ByteArray} (h : v < 1) : ([.val (.string a0)] : List PV)[v.toNat]? = some (.val (.string (sel .empty [a0] v.toNat))) := by
  have hx : v.toNat < 1 := by omega
  have h2 := omg_s (f := fun n => PV.val (.string n)) (l := [a0]) (k := v.toNat) hx
  rw [← List.getElem?_map] at h2
  exact h2
theorem gl2 {a0 a1 : Int} (h : v < 2) : ([.val (.int .i64 a0), .val (.int .i64 a1)] : List PV)[v.toNat]? = some (.val (.int .i64 (sel 0 [a0, a1] v.toNat))) := by
  have hx : v.toNat < 2 := by omega
  have h2 := omg_i (f := fun n => PV.val (.int .i64 n)) (l := [a0, a1]) (k := v.toNat) hx
  rw [← List.getElem?_map] at h2
  exact h2
theorem gs2 {a0 a1 : ByteArray} (h : v < 2) : ([.val (.string a0), .val (.string a1)] : List PV)[v.toNat]? = some (.val (.string (sel .empty [a0, a1] v.toNat))) := by
  have hx : v.toNat < 2 := by omega
  have h2 := omg_s (f := fun n => PV.val (.string n)) (l := [a0, a1]) (k := v.toNat) hx
  rw [← List.getElem?_map] at h2
  exact h2
theorem gl3 {a0 a1 a2 : Int} (h : v < 3) : ([.val (.int .i64 a0), .val (.int .i64 a1), .val (.int .i64 a2)] : List PV)[v.toNat]? = some (.val (.int .i64 (sel 0 [a0, a1, a2] v.toNat))) := by
  have hx : v.toNat < 3 := by omega
  have h2 := omg_i (f := fun n => PV.val (.int .i64 n)) (l := [a0, a1, a2]) (k := v.toNat) hx
  rw [← List.getElem?_map] at h2
  exact h2
theorem gs3 {a0 a1 a2 : ByteArray} (h : v < 3) : ([.val (.string a0), .val (.string a1), .val (.string a2)] : List PV)[v.toNat]? = some (.val (.string (sel .empty [a0, a1, a2] v.toNat))) := by
  have hx : v.toNat < 3 := by omega
  have h2 := omg_s (f := fun n => PV.val (.string n)) (l := [a0, a1, a2]) (k := v.toNat) hx
  rw [← List.getElem?_map] at h2
  exact h2
theorem gl4 {a0 a1 a2 a3 : Int} (h : v < 4) : ([.val (.int .i64 a0), .val (.int .i64 a1), .val (.int .i64 a2), .val (.int .i64 a3)] : List PV)[v.toNat]? = some (.val (.int .i64 (sel 0 [a0, a1, a2, a3] v.toNat))) := by
  have hx : v.toNat < 4 := by omega
  have h2 := omg_i (f := fun n => PV.val (.int .i64 n)) (l := [a0, a1, a2, a3]) (k := v.toNat) hx
  rw [← List.getElem?_map] at h2
  exact h2
theorem gs4 {a0 a1 a2 a3 : ByteArray} (h : v < 4) : ([.val (.string a0), .val (.string a1), .val (.string a2), .val (.string a3)] : List PV)[v.toNat]? = some (.val (.string (sel .empty [a0, a1, a2, a3] v.toNat))) := by
  have hx : v.toNat < 4 := by omega
  have h2 := omg_s (f := fun n => PV.val (.string n)) (l := [a0, a1, a2, a3]) (k := v.toNat) hx
  rw [← List.getElem?_map] at h2
  exact h2
theorem gl5 {a0 a1 a2 a3 a4 : Int} (h : v < 5) : ([.val (.int .i64 a0), .val (.int .i64 a1), .val (.int .i64 a2), .val (.int .i64 a3), .val (.int .i64 a4)] : List PV)[v.toNat]? = some (.val (.int .i64 (sel 0 [a0, a1, a2, a3, a4] v.toNat))) := by
  have hx : v.toNat < 5 := by omega
  have h2 := omg_i (f := fun n => PV.val (.int .i64 n)) (l := [a0, a1, a2, a3, a4]) (k := v.toNat) hx
  rw [← List.getElem?_map] at h2
  exact h2
theorem gs5 {a0 a1 a2 a3 a4 : ByteArray} (h : v < 5) : ([.val (.string a0), .val (.string a1), .val (.string a2), .val (.string a3), .val (.string a4)] : List PV)[v.toNat]? = some (.val (.string (sel .empty [a0, a1, a2, a3, a4] v.toNat))) := by
  have hx : v.toNat < 5 := by omega
  have h2 := omg_s (f := fun n => PV.val (.string n)) (l := [a0, a1, a2, a3, a4]) (k := v.toNat) hx
  rw [← List.getElem?_map] at h2
  exact h2
theorem gl6 {a0 a1 a2 a3 a4 a5 : Int} (h : v < 6) : ([.val (.int .i64 a0), .val (.int .i64 a1), .val (.int .i64 a2), .val (.int .i64 a3), .val (.int .i64 a4), .val (.int .i64 a5)] : List PV)[v.toNat]? = some (.val (.int .i64 (sel 0 [a0, a1, a2, a3, a4, a5] v.toNat))) := by
  have hx : v.toNat < 6 := by omega
  have h2 := omg_i (f := fun n => PV.val (.int .i64 n)) (l := [a0, a1, a2, a3, a4, a5]) (k := v.toNat) hx
  rw [← List.getElem?_map] at h2
  exact h2
theorem gs6 {a0 a1 a2 a3 a4 a5 : ByteArray} (h : v < 6) : ([.val (.string a0), .val (.string a1), .val (.string a2), .val (.string a3), .val (.string a4), .val (.string a5)] : List PV)[v.toNat]? = some (.val (.string (sel .empty [a0, a1, a2, a3, a4, a5] v.toNat))) := by
  have hx : v.toNat < 6 := by omega
  have h2 := omg_s (f := fun n => PV.val (.string n)) (l := [a0, a1, a2, a3, a4, a5]) (k := v.toNat) hx
  rw [← List.getElem?_map] at h2
  exact h2
theorem gl7 {a0 a1 a2 a3 a4 a5 a6 : Int} (h : v < 7) : ([.val (.int .i64 a0), .val (.int .i64 a1), .val (.int .i64 a2), .val (.int .i64 a3), .val (.int .i64 a4), .val (.int .i64 a5), .val (.int .i64 a6)] : List PV)[v.toNat]? = some (.val (.int .i64 (sel 0 [a0, a1, a2, a3, a4, a5, a6] v.toNat))) := by
  have hx : v.toNat < 7 := by omega
  have h2 := omg_i (f := fun n => PV.val (.int .i64 n)) (l := [a0, a1, a2, a3, a4, a5, a6]) (k := v.toNat) hx
  rw [← List.getElem?_map] at h2
  exact h2
theorem gs7 {a0 a1 a2 a3 a4 a5 a6 : ByteArray} (h : v < 7) : ([.val (.string a0), .val (.string a1), .val (.string a2), .val (.string a3), .val (.string a4), .val (.string a5), .val (.string a6)] : List PV)[v.toNat]? = some (.val (.string (sel .empty [a0, a1, a2, a3, a4, a5, a6] v.toNat))) := by
  have hx : v.toNat < 7 := by omega
  have h2 := omg_s (f := fun n => PV.val (.string n)) (l := [a0, a1, a2, a3, a4, a5, a6]) (k := v.toNat) hx
  rw [← List.getElem?_map] at h2
  exact h2
theorem gl8 {a0 a1 a2 a3 a4 a5 a6 a7 : Int} (h : v < 8) : ([.val (.int .i64 a0), .val (.int .i64 a1), .val (.int .i64 a2), .val (.int .i64 a3), .val (.int .i64 a4), .val (.int .i64 a5), .val (.int .i64 a6), .val (.int .i64 a7)] : List PV)[v.toNat]? = some (.val (.int .i64 (sel 0 [a0, a1, a2, a3, a4, a5, a6, a7] v.toNat))) := by
  have hx : v.toNat < 8 := by omega
  have h2 := omg_i (f := fun n => PV.val (.int .i64 n)) (l := [a0, a1, a2, a3, a4, a5, a6, a7]) (k := v.toNat) hx
  rw [← List.getElem?_map] at h2
  exact h2
theorem gs8 {a0 a1 a2 a3 a4 a5 a6 a7 : ByteArray} (h : v < 8) : ([.val (.string a0), .val (.string a1), .val (.string a2), .val (.string a3), .val (.string a4), .val (.string a5), .val (.string a6), .val (.string a7)] : List PV)[v.toNat]? = some (.val (.string (sel .empty [a0, a1, a2, a3, a4, a5, a6, a7] v.toNat))) := by
  have hx : v.toNat < 8 := by omega
  have h2 := omg_s (f := fun n => PV.val (.string n)) (l := [a0, a1, a2, a3, a4, a5, a6, a7]) (k := v.toNat) hx
  rw [← List.getElem?_map] at h2
  exact h2
theorem gl9 {a0 a1 a2 a3 a4 a5 a6 a7 a8 : Int} (h : v < 9) : ([.val (.int .i64 a0), .val (.int .i64 a1), .val (.int .i64 a2), .val (.int .i64 a3), .val (.int .i64 a4), .val (.int .i64 a5), .val (.int .i64 a6), .val (.int .i64 a7), .val (.int .i64 a8)] : List PV)[v.toNat]? = some (.val (.int .i64 (sel 0 [a0, a1, a2, a3, a4, a5, a6, a7, a8] v.toNat))) := by
  have hx : v.toNat < 9 := by omega
  have h2 := omg_i (f := fun n => PV.val (.int .i64 n)) (l := [a0, a1, a2, a3, a4, a5, a6, a7, a8]) (k := v.toNat) hx
  rw [← List.getElem?_map] at h2
  exact h2
theorem gs9 {a0 a1 a2 a3 a4 a5 a6 a7 a8 : ByteArray} (h : v < 9) : ([.val (.string a0), .val (.string a1), .val (.string a2), .val (.string a3), .val (.string a4), .val (.string a5), .val (.string a6), .val (.string a7), .val (.string a8)] : List PV)[v.toNat]? = some (.val (.string (sel .empty [a0, a1, a2, a3, a4, a5, a6, a7, a8] v.toNat))) := by
  have hx : v.toNat < 9 := by omega
  have h2 := omg_s (f := fun n => PV.val (.string n)) (l := [a0, a1, a2, a3, a4, a5, a6, a7, a8]) (k := v.toNat) hx
  rw [← List.getElem?_map] at h2
  exact h2
theorem gl10 {a0 a1 a2 a3 a4 a5 a6 a7 a8 a9 : Int} (h : v < 10) : ([.val (.int .i64 a0), .val (.int .i64 a1), .val (.int .i64 a2), .val (.int .i64 a3), .val (.int .i64 a4), .val (.int .i64 a5), .val (.int .i64 a6), .val (.int .i64 a7), .val (.int .i64 a8), .val (.int .i64 a9)] : List PV)[v.toNat]? = some (.val (.int .i64 (sel 0 [a0, a1, a2, a3, a4, a5, a6, a7, a8, a9] v.toNat))) := by
  have hx : v.toNat < 10 := by omega
  have h2 := omg_i (f := fun n => PV.val (.int .i64 n)) (l := [a0, a1, a2, a3, a4, a5, a6, a7, a8, a9]) (k := v.toNat) hx
  rw [← List.getElem?_map] at h2
  exact h2
theorem gs10 {a0 a1 a2 a3 a4 a5 a6 a7 a8 a9 : ByteArray} (h : v < 10) : ([.val (.string a0), .val (.string a1), .val (.string a2), .val (.string a3), .val (.string a4), .val (.string a5), .val (.string a6), .val (.string a7), .val (.string a8), .val (.string a9)] : List PV)[v.toNat]? = some (.val (.string (sel .empty [a0, a1, a2, a3, a4, a5, a6, a7, a8, a9] v.toNat))) := by
  have hx : v.toNat < 10 := by omega
  have h2 := omg_s (f := fun n => PV.val (.string n)) (l := [a0, a1, a2, a3, a4, a5, a6, a7, a8, a9]) (k := v.toNat) hx
  rw [← List.getElem?_map] at h2
  exact h2
theorem gl11 {a0 a1 a2 a3 a4 a5 a6 a7 a8 a9 a10 : Int} (h : v < 11) : ([.val (.int .i64 a0), .val (.int .i64 a1), .val (.int .i64 a2), .val (.int .i64 a3), .val (.int .i64 a4), .val (.int .i64 a5), .val (.int .i64 a6), .val (.int .i64 a7), .val (.int .i64 a8), .val (.int .i64 a9), .val (.int .i64 a10)] : List PV)[v.toNat]? = some (.val (.int .i64 (sel 0 [a0, a1, a2, a3, a4, a5, a6, a7, a8, a9, a10] v.toNat))) := by
  have hx : v.toNat < 11 := by omega
  have h2 := omg_i (f := fun n => PV.val (.int .i64 n)) (l := [a0, a1, a2, a3, a4, a5, a6, a7, a8, a9, a10]) (k := v.toNat) hx
  rw [← List.getElem?_map] at h2
  exact h2
theorem gs11 {a0 a1 a2 a3 a4 a5 a6 a7 a8 a9 a10 : ByteArray} (h : v < 11) : ([.val (.string a0), .val (.string a1), .val (.string a2), .val (.string a3), .val (.string a4), .val (.string a5), .val (.string a6), .val (.string a7), .val (.string a8), .val (.string a9), .val (.string a10)] : List PV)[v.toNat]? = some (.val (.string (sel .empty [a0, a1, a2, a3, a4, a5, a6, a7, a8, a9, a10] v.toNat))) := by
  have hx : v.toNat < 11 := by omega
  have h2 := omg_s (f := fun n => PV.val (.string n)) (l := [a0, a1, a2, a3, a4, a5, a6, a7, a8, a9, a10]) (k := v.toNat) hx
  rw [← List.getElem?_map] at h2
  exact h2
theorem gl12 {a0 a1 a2 a3 a4 a5 a6 a7 a8 a9 a10 a11 : Int} (h : v < 12) : ([.val (.int .i64 a0), .val (.int .i64 a1), .val (.int .i64 a2), .val (.int .i64 a3), .val (.int .i64 a4), .val (.int .i64 a5), .val (.int .i64 a6), .val (.int .i64 a7), .val (.int .i64 a8), .val (.int .i64 a9), .val (.int .i64 a10), .val (.int .i64 a11)] : List PV)[v.toNat]? = some (.val (.int .i64 (sel 0 [a0, a1, a2, a3, a4, a5, a6, a7, a8, a9, a10, a11] v.toNat))) := by
  have hx : v.toNat < 12 := by omega
  have h2 := omg_i (f := fun n => PV.val (.int .i64 n)) (l := [a0, a1, a2, a3, a4, a5, a6, a7, a8, a9, a10, a11]) (k := v.toNat) hx
  rw [← List.getElem?_map] at h2
  exact h2
theorem gs12 {a0 a1 a2 a3 a4 a5 a6 a7 a8 a9 a10 a11 : ByteArray} (h : v < 12) : ([.val (.string a0), .val (.string a1), .val (.string a2), .val (.string a3), .val (.string a4), .val (.string a5), .val (.string a6), .val (.string a7), .val (.string a8), .val (.string a9), .val (.string a10), .val (.string a11)] : List PV)[v.toNat]? = some (.val (.string (sel .empty [a0, a1, a2, a3, a4, a5, a6, a7, a8, a9, a10, a11] v.toNat))) := by
  have hx : v.toNat < 12 := by omega
  have h2 := omg_s (f := fun n => PV.val (.string n)) (l := [a0, a1, a2, a3, a4, a5, a6, a7, a8, a9, a10, a11]) (k := v.toNat) hx
  rw [← List.getElem?_map] at h2
  exact h2
theorem gl13 {a0 a1 a2 a3 a4 a5 a6 a7 a8 a9 a10 a11 a12 : Int} (h : v < 13) : ([.val (.int .i64 a0), .val (.int .i64 a1), .val (.int .i64 a2), .val (.int .i64 a3), .val (.int .i64 a4), .val (.int .i64 a5), .val (.int .i64 a6), .val (.int .i64 a7), .val (.int .i64 a8), .val (.int .i64 a9), .val (.int .i64 a10), .val (.int .i64 a11), .val (.int .i64 a12)] : List PV)[v.toNat]? = some (.val (.int .i64 (sel 0 [a0, a1, a2, a3, a4, a5, a6, a7, a8, a9, a10, a11, a12] v.toNat))) := by
  have hx : v.toNat < 13 := by omega
  have h2 := omg_i (f := fun n => PV.val (.int .i64 n)) (l := [a0, a1, a2, a3, a4, a5, a6, a7, a8, a9, a10, a11, a12]) (k := v.toNat) hx
  rw [← List.getElem?_map] at h2
  exact h2
theorem gs13 {a0 a1 a2 a3 a4 a5 a6 a7 a8 a9 a10 a11 a12 : ByteArray} (h : v < 13) : ([.val (.string a0), .val (.string a1), .val (.string a2), .val (.string a3), .val (.string a4), .val (.string a5), .val (.string a6), .val (.string a7), .val (.string a8), .val (.string a9), .val (.string a10), .val (.string a11), .val (.string a12)] : List PV)[v.toNat]? = some (.val (.string (sel .empty [a0, a1, a2, a3, a4, a5, a6, a7, a8, a9, a10, a11, a12] v.toNat))) := by
  have hx : v.toNat < 13 := by omega
  have h2 := omg_s (f := fun n => PV.val (.string n)) (l := [a0, a1, a2, a3, a4, a5, a6, a7, a8, a9, a10, a11, a12]) (k := v.toNat) hx
  rw [← List.getElem?_map] at h2
  exact h2
theorem gl14 {a0 a1 a2 a3 a4 a5 a6 a7 a8 a9 a10 a11 a12 a13 : Int} (h : v < 14) : ([.val (.int .i64 a0), .val (.int .i64 a1), .val (.int .i64 a2), .val (.int .i64 a3), .val (.int .i64 a4), .val (.int .i64 a5), .val (.int .i64 a6), .val (.int .i64 a7), .val (.int .i64 a8), .val (.int .i64 a9), .val (.int .i64 a10), .val (.int .i64 a11), .val (.int .i64 a12), .val (.int .i64 a13)] : List PV)[v.toNat]? = some (.val (.int .i64 (sel 0 [a0, a1, a2, a3, a4, a5, a6, a7, a8, a9, a10, a11, a12, a13] v.toNat))) := by
  have hx : v.toNat < 14 := by omega
  have h2 := omg_i (f := fun n => PV.val (.int .i64 n)) (l := [a0, a1, a2, a3, a4, a5, a6, a7, a8, a9, a10, a11, a12, a13]) (k := v.toNat) hx
  rw [← List.getElem?_map] at h2
  exact h2
theorem gs14 {a0 a1 a2 a3 a4 a5 a6 a7 a8 a9 a10 a11 a12 a13 : ByteArray} (h : v < 14) : ([.val (.string a0), .val (.string a1), .val (.string a2), .val (.string a3), .val (.string a4), .val (.string a5), .val (.string a6), .val (.string a7), .val (.string a8), .val (.string a9), .val (.string a10), .val (.string a11), .val (.string a12), .val (.string a13)] : List PV)[v.toNat]? = some (.val (.string (sel .empty [a0, a1, a2, a3, a4, a5, a6, a7, a8, a9, a10, a11, a12, a13] v.toNat))) := by
  have hx : v.toNat < 14 := by omega
  have h2 := omg_s (f := fun n => PV.val (.string n)) (l := [a0, a1, a2, a3, a4, a5, a6, a7, a8, a9, a10, a11, a12, a13]) (k := v.toNat) hx
  rw [← List.getElem?_map] at h2
  exact h2
theorem gl15 {a0 a1 a2 a3 a4 a5 a6 a7 a8 a9 a10 a11 a12 a13 a14 : Int} (h : v < 15) : ([.val (.int .i64 a0), .val (.int .i64 a1), .val (.int .i64 a2), .val (.int .i64 a3), .val (.int .i64 a4), .val (.int .i64 a5), .val (.int .i64 a6), .val (.int .i64 a7), .val (.int .i64 a8), .val (.int .i64 a9), .val (.int .i64 a10), .val (.int .i64 a11), .val (.int .i64 a12), .val (.int .i64 a13), .val (.int .i64 a14)] : List PV)[v.toNat]? = some (.val (.int .i64 (sel 0 [a0, a1, a2, a3, a4, a5, a6, a7, a8, a9, a10, a11, a12, a13, a14] v.toNat))) := by
  have hx : v.toNat < 15 := by omega
  have h2 := omg_i (f := fun n => PV.val (.int .i64 n)) (l := [a0, a1, a2, a3, a4, a5, a6, a7, a8, a9, a10, a11, a12, a13, a14]) (k := v.toNat) hx
  rw [← List.getElem?_map] at h2
  exact h2
theorem gs15 {a0 a1 a2 a3 a4 a5 a6 a7 a8 a9 a10 a11 a12 a13 a14 : ByteArray} (h : v < 15) : ([.val (.string a0), .val (.string a1), .val (.string a2), .val (.string a3), .val (.string a4), .val (.string a5), .val (.string a6), .val (.string a7), .val (.string a8), .val (.string a9), .val (.string a10), .val (.string a11), .val (.string a12), .val (.string a13), .val (.string a14)] : List PV)[v.toNat]? = some (.val (.string (sel .empty [a0, a1, a2, a3, a4, a5, a6, a7, a8, a9, a10, a11, a12, a13, a14] v.toNat))) := by
  have hx : v.toNat < 15 := by omega
  have h2 := omg_s (f := fun n => PV.val (.string n)) (l := [a0, a1, a2, a3, a4, a5, a6, a7, a8, a9, a10, a11, a12, a13, a14]) (k := v.toNat) hx
  rw [← List.getElem?_map] at h2
  exact h2
theorem gu1 {a0 : Int} (h : v < 1) : ([.val (.int .u8 a0)] : List PV)[v.toNat]? = some (.val (.int .u8 (sel 0 [a0] v.toNat))) := by
  have hx : v.toNat < 1 := by omega
  have h2 := omg_i (f := fun n => PV.val (.int .u8 n)) (l := [a0]) (k := v.toNat) hx
  rw [← List.getElem?_map] at h2
  exact h2
theorem gu2 {a0 a1 : Int} (h : v < 2) : ([.val (.int .u8 a0), .val (.int .u8 a1)] : List PV)[v.toNat]? = some (.val (.int .u8 (sel 0 [a0, a1] v.toNat))) := by
  have hx : v.toNat < 2 := by omega
  have h2 := omg_i (f := fun n => PV.val (.int .u8 n)) (l := [a0, a1]) (k := v.toNat) hx
  rw [← List.getElem?_map] at h2
  exact h2
theorem gu3 {a0 a1 a2 : Int} (h : v < 3) : ([.val (.int .u8 a0), .val (.int .u8 a1), .val (.int .u8 a2)] : List PV)[v.toNat]? = some (.val (.int .u8 (sel 0 [a0, a1, a2] v.toNat))) := by
  have hx : v.toNat < 3 := by omega
  have h2 := omg_i (f := fun n => PV.val (.int .u8 n)) (l := [a0, a1, a2]) (k := v.toNat) hx
  rw [← List.getElem?_map] at h2
  exact h2
theorem gu4 {a0 a1 a2 a3 : Int} (h : v < 4) : ([.val (.int .u8 a0), .val (.int .u8 a1), .val (.int .u8 a2), .val (.int .u8 a3)] : List PV)[v.toNat]? = some (.val (.int .u8 (sel 0 [a0, a1, a2, a3] v.toNat))) := by
  have hx : v.toNat < 4 := by omega
  have h2 := omg_i (f := fun n => PV.val (.int .u8 n)) (l := [a0, a1, a2, a3]) (k := v.toNat) hx
  rw [← List.getElem?_map] at h2
  exact h2
theorem gb1 {a0 b0 c0 d0 : Int} (h : v < 1) : ([.agg [.val (.int .i64 a0), .val (.int .i64 b0), .val (.int .i64 c0), .val (.int .i64 d0)]] : List PV)[v.toNat]? = some (.agg [.val (.int .i64 (sel i40 [(a0, b0, c0, d0)] v.toNat).1), .val (.int .i64 (sel i40 [(a0, b0, c0, d0)] v.toNat).2.1), .val (.int .i64 (sel i40 [(a0, b0, c0, d0)] v.toNat).2.2.1), .val (.int .i64 (sel i40 [(a0, b0, c0, d0)] v.toNat).2.2.2)]) := by
  have hx : v.toNat < 1 := by omega
  have h2 := omg_i4 (g := fun x : I4 => PV.agg [.val (.int .i64 x.1), .val (.int .i64 x.2.1), .val (.int .i64 x.2.2.1), .val (.int .i64 x.2.2.2)]) (l := [(a0, b0, c0, d0)]) (i := v.toNat) hx
  rw [← List.getElem?_map] at h2
  exact h2
theorem gb2 {a0 a1 b0 b1 c0 c1 d0 d1 : Int} (h : v < 2) : ([.agg [.val (.int .i64 a0), .val (.int .i64 b0), .val (.int .i64 c0), .val (.int .i64 d0)], .agg [.val (.int .i64 a1), .val (.int .i64 b1), .val (.int .i64 c1), .val (.int .i64 d1)]] : List PV)[v.toNat]? = some (.agg [.val (.int .i64 (sel i40 [(a0, b0, c0, d0), (a1, b1, c1, d1)] v.toNat).1), .val (.int .i64 (sel i40 [(a0, b0, c0, d0), (a1, b1, c1, d1)] v.toNat).2.1), .val (.int .i64 (sel i40 [(a0, b0, c0, d0), (a1, b1, c1, d1)] v.toNat).2.2.1), .val (.int .i64 (sel i40 [(a0, b0, c0, d0), (a1, b1, c1, d1)] v.toNat).2.2.2)]) := by
  have hx : v.toNat < 2 := by omega
  have h2 := omg_i4 (g := fun x : I4 => PV.agg [.val (.int .i64 x.1), .val (.int .i64 x.2.1), .val (.int .i64 x.2.2.1), .val (.int .i64 x.2.2.2)]) (l := [(a0, b0, c0, d0), (a1, b1, c1, d1)]) (i := v.toNat) hx
  rw [← List.getElem?_map] at h2
  exact h2
theorem gb3 {a0 a1 a2 b0 b1 b2 c0 c1 c2 d0 d1 d2 : Int} (h : v < 3) : ([.agg [.val (.int .i64 a0), .val (.int .i64 b0), .val (.int .i64 c0), .val (.int .i64 d0)], .agg [.val (.int .i64 a1), .val (.int .i64 b1), .val (.int .i64 c1), .val (.int .i64 d1)], .agg [.val (.int .i64 a2), .val (.int .i64 b2), .val (.int .i64 c2), .val (.int .i64 d2)]] : List PV)[v.toNat]? = some (.agg [.val (.int .i64 (sel i40 [(a0, b0, c0, d0), (a1, b1, c1, d1), (a2, b2, c2, d2)] v.toNat).1), .val (.int .i64 (sel i40 [(a0, b0, c0, d0), (a1, b1, c1, d1), (a2, b2, c2, d2)] v.toNat).2.1), .val (.int .i64 (sel i40 [(a0, b0, c0, d0), (a1, b1, c1, d1), (a2, b2, c2, d2)] v.toNat).2.2.1), .val (.int .i64 (sel i40 [(a0, b0, c0, d0), (a1, b1, c1, d1), (a2, b2, c2, d2)] v.toNat).2.2.2)]) := by
  have hx : v.toNat < 3 := by omega
  have h2 := omg_i4 (g := fun x : I4 => PV.agg [.val (.int .i64 x.1), .val (.int .i64 x.2.1), .val (.int .i64 x.2.2.1), .val (.int .i64 x.2.2.2)]) (l := [(a0, b0, c0, d0), (a1, b1, c1, d1), (a2, b2, c2, d2)]) (i := v.toNat) hx
  rw [← List.getElem?_map] at h2
  exact h2
theorem gb4 {a0 a1 a2 a3 b0 b1 b2 b3 c0 c1 c2 c3 d0 d1 d2 d3 : Int} (h : v < 4) : ([.agg [.val (.int .i64 a0), .val (.int .i64 b0), .val (.int .i64 c0), .val (.int .i64 d0)], .agg [.val (.int .i64 a1), .val (.int .i64 b1), .val (.int .i64 c1), .val (.int .i64 d1)], .agg [.val (.int .i64 a2), .val (.int .i64 b2), .val (.int .i64 c2), .val (.int .i64 d2)], .agg [.val (.int .i64 a3), .val (.int .i64 b3), .val (.int .i64 c3), .val (.int .i64 d3)]] : List PV)[v.toNat]? = some (.agg [.val (.int .i64 (sel i40 [(a0, b0, c0, d0), (a1, b1, c1, d1), (a2, b2, c2, d2), (a3, b3, c3, d3)] v.toNat).1), .val (.int .i64 (sel i40 [(a0, b0, c0, d0), (a1, b1, c1, d1), (a2, b2, c2, d2), (a3, b3, c3, d3)] v.toNat).2.1), .val (.int .i64 (sel i40 [(a0, b0, c0, d0), (a1, b1, c1, d1), (a2, b2, c2, d2), (a3, b3, c3, d3)] v.toNat).2.2.1), .val (.int .i64 (sel i40 [(a0, b0, c0, d0), (a1, b1, c1, d1), (a2, b2, c2, d2), (a3, b3, c3, d3)] v.toNat).2.2.2)]) := by
  have hx : v.toNat < 4 := by omega
  have h2 := omg_i4 (g := fun x : I4 => PV.agg [.val (.int .i64 x.1), .val (.int .i64 x.2.1), .val (.int .i64 x.2.2.1), .val (.int .i64 x.2.2.2)]) (l := [(a0, b0, c0, d0), (a1, b1, c1, d1), (a2, b2, c2, d2), (a3, b3, c3, d3)]) (i := v.toNat) hx
  rw [← List.getElem?_map] at h2
  exact h2
theorem gb5 {a0 a1 a2 a3 a4 b0 b1 b2 b3 b4 c0 c1 c2 c3 c4 d0 d1 d2 d3 d4 : Int} (h : v < 5) : ([.agg [.val (.int .i64 a0), .val (.int .i64 b0), .val (.int .i64 c0), .val (.int .i64 d0)], .agg [.val (.int .i64 a1), .val (.int .i64 b1), .val (.int .i64 c1), .val (.int .i64 d1)], .agg [.val (.int .i64 a2), .val (.int .i64 b2), .val (.int .i64 c2), .val (.int .i64 d2)], .agg [.val (.int .i64 a3), .val (.int .i64 b3), .val (.int .i64 c3), .val (.int .i64 d3)], .agg [.val (.int .i64 a4), .val (.int .i64 b4), .val (.int .i64 c4), .val (.int .i64 d4)]] : List PV)[v.toNat]? = some (.agg [.val (.int .i64 (sel i40 [(a0, b0, c0, d0), (a1, b1, c1, d1), (a2, b2, c2, d2), (a3, b3, c3, d3), (a4, b4, c4, d4)] v.toNat).1), .val (.int .i64 (sel i40 [(a0, b0, c0, d0), (a1, b1, c1, d1), (a2, b2, c2, d2), (a3, b3, c3, d3), (a4, b4, c4, d4)] v.toNat).2.1), .val (.int .i64 (sel i40 [(a0, b0, c0, d0), (a1, b1, c1, d1), (a2, b2, c2, d2), (a3, b3, c3, d3), (a4, b4, c4, d4)] v.toNat).2.2.1), .val (.int .i64 (sel i40 [(a0, b0, c0, d0), (a1, b1, c1, d1), (a2, b2, c2, d2), (a3, b3, c3, d3), (a4, b4, c4, d4)] v.toNat).2.2.2)]) := by
  have hx : v.toNat < 5 := by omega
  have h2 := omg_i4 (g := fun x : I4 => PV.agg [.val (.int .i64 x.1), .val (.int .i64 x.2.1), .val (.int .i64 x.2.2.1), .val (.int .i64 x.2.2.2)]) (l := [(a0, b0, c0, d0), (a1, b1, c1, d1), (a2, b2, c2, d2), (a3, b3, c3, d3), (a4, b4, c4, d4)]) (i := v.toNat) hx
  rw [← List.getElem?_map] at h2
  exact h2
theorem gb6 {a0 a1 a2 a3 a4 a5 b0 b1 b2 b3 b4 b5 c0 c1 c2 c3 c4 c5 d0 d1 d2 d3 d4 d5 : Int} (h : v < 6) : ([.agg [.val (.int .i64 a0), .val (.int .i64 b0), .val (.int .i64 c0), .val (.int .i64 d0)], .agg [.val (.int .i64 a1), .val (.int .i64 b1), .val (.int .i64 c1), .val (.int .i64 d1)], .agg [.val (.int .i64 a2), .val (.int .i64 b2), .val (.int .i64 c2), .val (.int .i64 d2)], .agg [.val (.int .i64 a3), .val (.int .i64 b3), .val (.int .i64 c3), .val (.int .i64 d3)], .agg [.val (.int .i64 a4), .val (.int .i64 b4), .val (.int .i64 c4), .val (.int .i64 d4)], .agg [.val (.int .i64 a5), .val (.int .i64 b5), .val (.int .i64 c5), .val (.int .i64 d5)]] : List PV)[v.toNat]? = some (.agg [.val (.int .i64 (sel i40 [(a0, b0, c0, d0), (a1, b1, c1, d1), (a2, b2, c2, d2), (a3, b3, c3, d3), (a4, b4, c4, d4), (a5, b5, c5, d5)] v.toNat).1), .val (.int .i64 (sel i40 [(a0, b0, c0, d0), (a1, b1, c1, d1), (a2, b2, c2, d2), (a3, b3, c3, d3), (a4, b4, c4, d4), (a5, b5, c5, d5)] v.toNat).2.1), .val (.int .i64 (sel i40 [(a0, b0, c0, d0), (a1, b1, c1, d1), (a2, b2, c2, d2), (a3, b3, c3, d3), (a4, b4, c4, d4), (a5, b5, c5, d5)] v.toNat).2.2.1), .val (.int .i64 (sel i40 [(a0, b0, c0, d0), (a1, b1, c1, d1), (a2, b2, c2, d2), (a3, b3, c3, d3), (a4, b4, c4, d4), (a5, b5, c5, d5)] v.toNat).2.2.2)]) := by
  have hx : v.toNat < 6 := by omega
  have h2 := omg_i4 (g := fun x : I4 => PV.agg [.val (.int .i64 x.1), .val (.int .i64 x.2.1), .val (.int .i64 x.2.2.1), .val (.int .i64 x.2.2.2)]) (l := [(a0, b0, c0, d0), (a1, b1, c1, d1), (a2, b2, c2, d2), (a3, b3, c3, d3), (a4, b4, c4, d4), (a5, b5, c5, d5)]) (i := v.toNat) hx
  rw [← List.getElem?_map] at h2
  exact h2
theorem gw1 {a0 : ByteArray} {b0 : Int} (h : v < 1) : ([.agg [.val (.string a0), .val (.int .i64 b0)]] : List PV)[v.toNat]? = some (.agg [.val (.string (sel w0 [(a0, b0)] v.toNat).1), .val (.int .i64 (sel w0 [(a0, b0)] v.toNat).2)]) := by
  have hx : v.toNat < 1 := by omega
  have h2 := omg_w (g := fun x : W2 => PV.agg [.val (.string x.1), .val (.int .i64 x.2)]) (l := [(a0, b0)]) (i := v.toNat) hx
  rw [← List.getElem?_map] at h2
  exact h2
theorem gw2 {a0 a1 : ByteArray} {b0 b1 : Int} (h : v < 2) : ([.agg [.val (.string a0), .val (.int .i64 b0)], .agg [.val (.string a1), .val (.int .i64 b1)]] : List PV)[v.toNat]? = some (.agg [.val (.string (sel w0 [(a0, b0), (a1, b1)] v.toNat).1), .val (.int .i64 (sel w0 [(a0, b0), (a1, b1)] v.toNat).2)]) := by
  have hx : v.toNat < 2 := by omega
  have h2 := omg_w (g := fun x : W2 => PV.agg [.val (.string x.1), .val (.int .i64 x.2)]) (l := [(a0, b0), (a1, b1)]) (i := v.toNat) hx
  rw [← List.getElem?_map] at h2
  exact h2
theorem gw3 {a0 a1 a2 : ByteArray} {b0 b1 b2 : Int} (h : v < 3) : ([.agg [.val (.string a0), .val (.int .i64 b0)], .agg [.val (.string a1), .val (.int .i64 b1)], .agg [.val (.string a2), .val (.int .i64 b2)]] : List PV)[v.toNat]? = some (.agg [.val (.string (sel w0 [(a0, b0), (a1, b1), (a2, b2)] v.toNat).1), .val (.int .i64 (sel w0 [(a0, b0), (a1, b1), (a2, b2)] v.toNat).2)]) := by
  have hx : v.toNat < 3 := by omega
  have h2 := omg_w (g := fun x : W2 => PV.agg [.val (.string x.1), .val (.int .i64 x.2)]) (l := [(a0, b0), (a1, b1), (a2, b2)]) (i := v.toNat) hx
  rw [← List.getElem?_map] at h2
  exact h2
theorem eq_s1 (x : Nat) : (x = x + 1) = False := by simp
theorem s1_eq (x : Nat) : (x + 1 = x) = False := by simp
theorem eq_s2 (x : Nat) : (x = x + 1 + 1) = False := by simp; omega
theorem s2_eq (x : Nat) : (x + 1 + 1 = x) = False := by simp; omega
theorem z_s (x : Nat) : (0 = x + 1) = False := by simp
theorem s_z (x : Nat) : (x + 1 = 0) = False := by simp
theorem eq_s3 (x : Nat) : (x = x + 1 + 1 + 1) = False := by simp; omega
theorem s3_eq (x : Nat) : (x + 1 + 1 + 1 = x) = False := by simp; omega
end
theorem app_iv {l : List Int} {y : Int} : (l.map fun n => PV.val (.int .i64 n)) ++ [.val (.int .i64 y)] = (l ++ [y]).map fun n => PV.val (.int .i64 n) := by simp
theorem app_nv {l : List Int} {y : Int} : (l.map fun n => PV.val (.int .u8 n)) ++ [.val (.int .u8 y)] = (l ++ [y]).map fun n => PV.val (.int .u8 n) := by simp
theorem app_sv {l : List ByteArray} {y : ByteArray} : (l.map fun n => PV.val (.string n)) ++ [.val (.string y)] = (l ++ [y]).map fun n => PV.val (.string n) := by simp
theorem app_w {l : List W2} {a : ByteArray} {b : Int} : (l.map fun x => PV.agg [.val (.string x.1), .val (.int .i64 x.2)]) ++ [.agg [.val (.string a), .val (.int .i64 b)]] = (l ++ [(a, b)]).map fun x => PV.agg [.val (.string x.1), .val (.int .i64 x.2)] := by simp
theorem app_i3 {l : List I3} {a b c : Int} : (l.map fun x => PV.agg [.val (.int .i64 x.1), .val (.int .i64 x.2.1), .val (.int .i64 x.2.2)]) ++ [.agg [.val (.int .i64 a), .val (.int .i64 b), .val (.int .i64 c)]] = (l ++ [(a, b, c)]).map fun x => PV.agg [.val (.int .i64 x.1), .val (.int .i64 x.2.1), .val (.int .i64 x.2.2)] := by simp
theorem app_i4 {l : List I4} {a b c d : Int} : (l.map fun x => PV.agg [.val (.int .i64 x.1), .val (.int .i64 x.2.1), .val (.int .i64 x.2.2.1), .val (.int .i64 x.2.2.2)]) ++ [.agg [.val (.int .i64 a), .val (.int .i64 b), .val (.int .i64 c), .val (.int .i64 d)]] = (l ++ [(a, b, c, d)]).map fun x => PV.agg [.val (.int .i64 x.1), .val (.int .i64 x.2.1), .val (.int .i64 x.2.2.1), .val (.int .i64 x.2.2.2)] := by simp
theorem rep_iv {n : Nat} {a : Int} : List.replicate n (PV.val (.int .i64 a)) = (List.replicate n a).map fun n => PV.val (.int .i64 n) := by simp
theorem rep_sv {n : Nat} {a : ByteArray} : List.replicate n (PV.val (.string a)) = (List.replicate n a).map fun n => PV.val (.string n) := by simp
theorem rep_w {n : Nat} {a : ByteArray} {b : Int} : List.replicate n (PV.agg [.val (.string a), .val (.int .i64 b)]) = (List.replicate n ((a, b) : W2)).map fun x => PV.agg [.val (.string x.1), .val (.int .i64 x.2)] := by simp
theorem rep_i3 {n : Nat} {a b c : Int} : List.replicate n (PV.agg [.val (.int .i64 a), .val (.int .i64 b), .val (.int .i64 c)]) = (List.replicate n ((a, b, c) : I3)).map fun x => PV.agg [.val (.int .i64 x.1), .val (.int .i64 x.2.1), .val (.int .i64 x.2.2)] := by simp
theorem rep_i4 {n : Nat} {a b c d : Int} : List.replicate n (PV.agg [.val (.int .i64 a), .val (.int .i64 b), .val (.int .i64 c), .val (.int .i64 d)]) = (List.replicate n ((a, b, c, d) : I4)).map fun x => PV.agg [.val (.int .i64 x.1), .val (.int .i64 x.2.1), .val (.int .i64 x.2.2.1), .val (.int .i64 x.2.2.2)] := by simp
theorem nat_ne {a b : Nat} (h : ¬ a = b) : (a = b) = False := by simp [h]
attribute [push_cast low]
  nat_ne
attribute [push_cast]
  app_iv app_nv app_sv app_w app_i3 app_i4
attribute [push_cast]
  gl1 gs1 gl2 gs2 gl3 gs3 gl4 gs4 gl5 gs5 gl6 gs6 gl7 gs7 gl8 gs8 gl9 gs9 gl10 gs10 gl11 gs11 gl12 gs12 gl13 gs13 gl14 gs14 gl15 gs15 gu1 gu2 gu3 gu4 gb1 gb2 gb3 gb4 gb5 gb6 gw1 gw2 gw3 eq_s1 s1_eq eq_s2 s2_eq z_s s_z eq_s3 s3_eq Nat.le_refl Nat.add_right_cancel_iff
theorem rdC_inj {T : Nat} {code code' : List Int} {p p' : Int} (h : rdC T code p = rdC T code' p') : code = code' ∧ p = p' := by
  simp only [rdC, Prod.mk.injEq, true_and, List.cons.injEq, PV.agg.injEq, PV.lst.injEq, PV.val.injEq, Value.int.injEq, and_true] at h
  refine ⟨?_, h.2⟩
  have : Function.Injective fun n : Int => PV.val (.int .u8 n) := fun a b e => by simpa using e
  exact (List.map_inj_right (fun a b e => this e)).1 h.1
theorem okRd.to {code : List Int} {p p' : Int} (h : okRd code p) (h1 : 0 ≤ p') (h2 : p' ≤ 1000000000000) : okRd code p' := ⟨h.len, h.byte, h1, h2⟩
section
variable {P : Program} {Γ : Ctx}
theorem drw2_of (hm : P.follows .mixedOrders = true) {f : Nat} {fn : Func} {C : Code} (hΓ : SoundΓ P Γ) (hf : P.funcs[f]? = some fn) (hb : fn.body = some C) (N : Nat) (hN : fn.ntmps = N) (rs : List ResultVar) (hrs : fn.results.toList = rs) (hc : codeOk Γ true N C = true) (hN1 : 2 ≤ N)
    (T : Nat) (B c : Int) {α : Type} (E : α → PV) (D : Int → Prop) (R : Int → α → Prop)
    (h : ∀ code p n, okRd code p → p ≤ B → D n → pq P Γ N C (fun x s' => ∃ a p', R n a ∧ okRd code p' ∧ p ≤ p' ∧ p' ≤ p + c ∧ PostIO P rs 1 (E a) [rdC T code p'] x s') (initS [.own 0 2 0 0, .val (.int .i64 n)]).tm (lo [(0, rdC T code p)]) 1) :
    ∃ Φ : FunIO, SoundIO P f Φ ∧ Drw2 T Φ B c E D R := by
  obtain ⟨Φ, h1, h2⟩ := relIO_of_pq hm hΓ hf hb N hN rs hrs hc
    (fun ps o => ∃ code p n, ps = [.own 0 2 0 0, .val (.int .i64 n)] ∧ o = rdC T code p ∧ okRd code p ∧ p ≤ B ∧ D n)
    (fun ps o r o' => ∃ code p n a p', ps = [.own 0 2 0 0, .val (.int .i64 n)] ∧ o = rdC T code p ∧ r = E a ∧ o' = rdC T code p' ∧ R n a ∧ okRd code p' ∧ p ≤ p' ∧ p' ≤ p + c)
    (fun ps o ⟨code, p, n, e, _⟩ => by rw [e]; exact hN1) (fun ps o ⟨code, p, n, e1, e2, h3, h4, h5⟩ => by
      subst e1 e2
      refine pw_mono (fun x s' hx => ?_) _ _ (h code p n h3 h4 h5)
      obtain ⟨a, p', k1, k2, k3, k4, k5⟩ := hx
      exact ⟨E a, rdC T code p', ⟨code, p, n, a, p', rfl, rfl, rfl, rfl, k1, k2, k3, k4⟩, k5⟩)
  refine ⟨Φ, h1, fun code p n h3 h4 h5 => ?_⟩
  obtain ⟨r, o', e, code', p1, n1, a, p', e0, e1, rfl, rfl, k1, k2, k3, k4⟩ := h2 _ _ ⟨code, p, n, rfl, rfl, h3, h4, h5⟩
  obtain ⟨rfl, rfl⟩ := rdC_inj e1
  have : n = n1 := by simpa using e0
  subst this
  exact ⟨a, p', e, k1, k2, k3, k4⟩
end
def Drw0 (φ : Fun) {α : Type} (E : α → PV) (R : α → Prop) : Prop := ∀ code : List Int, (∀ i : Nat, 0 ≤ code[i]?.getD 0 ∧ code[i]?.getD 0 ≤ 255) → code.length ≤ 1048576 → ∃ a, φ [.lst false 1 (code.map fun n => PV.val (.int .u8 n))] = some (E a) ∧ R a
theorem drw0_of {P : Program} {Γ : Ctx} (hm : P.follows .mixedOrders = true) {f : Nat} {fn : Func} {C : Code} (hΓ : SoundΓ P Γ) (hf : P.funcs[f]? = some fn) (hb : fn.body = some C) (N : Nat) (hN : fn.ntmps = N) (rs : List ResultVar) (hrs : fn.results.toList = rs) (hc : codeOk Γ true N C = true) (hN1 : 1 ≤ N)
    {α : Type} (E : α → PV) (R : α → Prop)
    (h : ∀ code : List Int, (∀ i : Nat, 0 ≤ code[i]?.getD 0 ∧ code[i]?.getD 0 ≤ 255) → code.length ≤ 1048576 → pq P Γ N C (fun x s' => ∃ a, R a ∧ Post P rs (E a) x s') (initS [.lst false 1 (code.map fun n => PV.val (.int .u8 n))]).tm (fun _ => none) 0) :
    ∃ φ : Fun, Sound P f φ ∧ Drw0 φ E R := by
  obtain ⟨φ, h1, h2⟩ := rel_of_pq hm hΓ hf hb N hN rs hrs hc
    (fun ps => ∃ code : List Int, ps = [.lst false 1 (code.map fun n => PV.val (.int .u8 n))] ∧ (∀ i : Nat, 0 ≤ code[i]?.getD 0 ∧ code[i]?.getD 0 ≤ 255) ∧ code.length ≤ 1048576)
    (fun ps r => ∃ a, r = E a ∧ R a)
    (fun ps ⟨code, e, _⟩ => by rw [e]; exact hN1) (fun ps ⟨code, e1, h3, h4⟩ => by
      subst e1
      refine pw_mono (fun x s' hx => ?_) _ _ (h code h3 h4)
      obtain ⟨a, k1, k2⟩ := hx
      exact ⟨E a, ⟨a, rfl, k1⟩, k2⟩)
  refine ⟨φ, h1, fun code h3 h4 => ?_⟩
  obtain ⟨r, e, a, rfl, k1⟩ := h2 _ ⟨code, rfl, h3, h4⟩
  exact ⟨a, e, k1⟩
theorem bp_xor {P : Program} {t : Nat} {x y : Operand} {m n : Int} : binP P .xor t x y (some (.int .i64 m)) (some (.int .i64 n)) = some (.val (.int .i64 (IntKind.i64.wrap ((BitVec.ofInt 64 m ^^^ BitVec.ofInt 64 n).toNat)))) := by
  have : pureRun P (do eqGuard .xor t x y (.int .i64 m) (.int .i64 n); binOp .xor t (.int .i64 m) (.int .i64 n)) = some (.int .i64 (IntKind.i64.wrap ((BitVec.ofInt 64 m ^^^ BitVec.ofInt 64 n).toNat))) := by
    rfl
  simp only [binP, this, Option.map_some]
theorem xor_nonneg {m n : Int} (hm : 0 ≤ m) (hm2 : m ≤ 4611686018427387903) (hn : 0 ≤ n) (hn2 : n ≤ 4611686018427387903) : 0 ≤ IntKind.i64.wrap ((BitVec.ofInt 64 m ^^^ BitVec.ofInt 64 n).toNat) ∧ IntKind.i64.wrap ((BitVec.ofInt 64 m ^^^ BitVec.ofInt 64 n).toNat) ≤ 4611686018427387903 := by
  have e1 : (BitVec.ofInt 64 m).toNat = m.toNat := by rw [BitVec.toNat_ofInt]; omega
  have e2 : (BitVec.ofInt 64 n).toNat = n.toNat := by rw [BitVec.toNat_ofInt]; omega
  rw [BitVec.toNat_xor, e1, e2]
  have h : m.toNat ^^^ n.toNat < 2 ^ 62 := Nat.xor_lt_two_pow (by omega) (by omega)
  rw [wrap_id (by omega) (by omega)]
  omega
theorem i_xor {P : Program} {Γ : Ctx} {imm : Md} {gs : List (Option Nat)} {l : List Oper} {Q : AS → Prop} {tm : Nat → PV} {ob : Objs} {nx d ty t t' : Nat} {x y : Operand} {pos : String} {af : Array Edge} {m n : Int}
    (h0 : isEff Γ imm { dst := some d, op := .binOp .xor t x y t', type := ty, pos := pos, after := af, guard := none } = false)
    (hx : look tm x = .val (.int .i64 m)) (hy : look tm y = .val (.int .i64 n)) (hm : 0 ≤ m) (hm2 : m ≤ 4611686018427387903) (hn : 0 ≤ n) (hn2 : n ≤ 4611686018427387903)
    (hk : ∀ z : Int, 0 ≤ z → z ≤ 4611686018427387903 → wq P Γ imm gs l Q (upd tm d (.val (.int .i64 z))) ob nx) :
    wq P Γ imm gs ({ dst := some d, op := .binOp .xor t x y t', type := ty, pos := pos, after := af, guard := none } :: l) Q tm ob nx := by
  obtain ⟨h1, h2⟩ := xor_nonneg hm hm2 hn hn2
  refine i_V h0 rfl rfl ?_ (hk _ h1 h2)
  rw [ev_binOp, hx, hy]
  exact bp_xor
theorem i_fin1 {P : Program} {rs : List ResultVar} {T : Nat} {α : Type} {E : α → PV} {R : α → Prop} {code : List Int} {p c : Int} {a : α} {p' : Int} {x : X} {tm : Nat → PV} {ob : Objs} {nx : Nat} (hx : x = .normal ∨ x = .ret)
    (h3 : ((resPs P ⟨tm, ob, nx⟩ rs).bind fun qs => handF [0] ob fuel (onePV qs)) = some (E a)) (h4 : handC [0] ob fuel 0 = some (rdC T code p')) (hR : R a) (ho : okRd code p') (h1 : p ≤ p') (h2 : p' ≤ p + c) :
    ∃ a p', R a ∧ okRd code p' ∧ p ≤ p' ∧ p' ≤ p + c ∧ PostIO P rs 1 (E a) [rdC T code p'] x ⟨tm, ob, nx⟩ := ⟨a, p', hR, ho, h1, h2, i_end1 hx h3 h4⟩
theorem i_fin0 {P : Program} {rs : List ResultVar} {α : Type} {E : α → PV} {R : α → Prop} {a : α} {x : X} {tm : Nat → PV} {ob : Objs} {nx : Nat} (hx : x = .normal ∨ x = .ret)
    (h3 : ((resPs P ⟨tm, ob, nx⟩ rs).bind fun qs => reify true 0 ob fuel (onePV qs)) = some (E a)) (hR : R a) :
    ∃ a, R a ∧ Post P rs (E a) x ⟨tm, ob, nx⟩ := ⟨a, hR, hx, h3⟩
abbrev okI (n : Int) : Prop := -9223372036854775808 ≤ n ∧ n ≤ 9223372036854775807
abbrev okB8 (n : Int) : Prop := 0 ≤ n ∧ n ≤ 255
abbrev okL {α : Type} (ok : α → Prop) (l : List α) : Prop := l.length ≤ 9223372036854775807 ∧ ∀ a ∈ l, ok a
theorem bytes_ok {code : List Int} (h : okL okB8 code) : ∀ i : Nat, 0 ≤ code[i]?.getD 0 ∧ code[i]?.getD 0 ≤ 255 := fun i => by
  by_cases hi : i < code.length
  · simp only [List.getElem?_eq_getElem hi, Option.getD_some]
    exact h.2 _ (List.getElem_mem hi)
  · rw [List.getElem?_eq_none (by omega)]
    simp
noncomputable instance {α : Type} (ok : α → Prop) (l : List α) : Decidable (okL ok l) := Classical.propDecidable _
theorem okRd_take {code : List Int} (h : ∀ i : Nat, 0 ≤ code[i]?.getD 0 ∧ code[i]?.getD 0 ≤ 255) : okRd (code.take 2000) 0 := by
  refine ⟨by simp; omega, fun i => ?_, by omega, by omega⟩
  rw [List.getElem?_take]
  split
  · exact h i
  · simp
end Go.Proofs.YtpggpdbipajchaaGreatDoor
namespace Go.Proofs.YtpggpdbipajchaaGreatDoor
open Go.RowKit
set_option linter.all false
theorem pureRun_bnd {α β : Type} {P : Program} (m : Sem α) (f : α → Sem β) : pureRun P (m >>= f) = (pureRun P m).bind fun x => pureRun P (f x) := by
  show pureRun P (m.bind f) = _
  induction m with
  | pure a => rfl
  | program k ih => simp only [Sem.bind, pureRun]; exact ih P
  | _ => rfl
def basicEq (P : Program) (t : Nat) (u v : Value) : Option Bool :=
  match P.underlying t, u, v with
  | some (.int _), .int k a, .int k' b => if k = k' then some (a == b) else none
  | some .bool, .bool a, .bool b => some (a == b)
  | some .string, .string a, .string b => some (a.toList == b.toList)
  | _, _, _ => none
def eqFl (P : Program) (xs ys : List Value) : List Field → Option Bool
  | [] => some true
  | f :: fs => match f.name == "_", tyAgg P f.type, xs[f.offset]?, ys[f.offset]? with
    | false, some false, some u, some v => match basicEq P f.type u v, eqFl P xs ys fs with
      | some b, some c => some (b && c)
      | _, _ => none
    | _, _, _, _ => none
theorem pr_under {P : Program} {t : Nat} {d : TypeDesc} (h : P.underlying t = some d) : pureRun P (underlying t) = some d := by
  simp [underlying, Go.program, bind, Sem.bind, pure, pureRun, h]
theorem pr_basic {P : Program} {d t : Nat} {u v : Value} {b : Bool} (h : basicEq P t u v = some b) : pureRun P (Op.equalIn (d + 1) t u v) = some b := by
  unfold basicEq at h
  split at h
  · rename_i ik k a k' b' hu
    split at h
    · rename_i hk
      subst hk
      cases h
      simp [Op.equalIn, pureRun_bnd, pr_under hu, pureRun, pure]
    · cases h
  · rename_i a b' hu
    cases h
    simp [Op.equalIn, pureRun_bnd, pr_under hu, pureRun, pure]
  · rename_i a b' hu
    cases h
    simp [Op.equalIn, pureRun_bnd, pr_under hu, pureRun, pure, Go.beq_toListBytes]
  · cases h
theorem pr_part {P : Program} {t f : Nat} {xs : List Value} {v : Value} (ht : tyAgg P t = some false) (h : xs[f]? = some v) : pureRun P (part t xs.toArray f) = some v := by
  unfold tyAgg at ht
  cases hu : P.underlying t with
  | none => simp [hu] at ht
  | some d =>
    simp only [hu, Option.map_some, Option.some.injEq] at ht
    have : pureRun P (isAgg t) = some false := by
      unfold isAgg
      rw [pureRun_bnd, pr_under hu]
      cases d <;> simp_all [pureRun, pure]
    unfold part
    rw [pureRun_bnd, this]
    simp [h, pureRun, pure]
theorem pr_fields {P : Program} {d : Nat} {xs ys : List Value} : ∀ {fs : List Field} {b : Bool}, eqFl P xs ys fs = some b → pureRun P (Op.eqFields (d + 1) xs.toArray ys.toArray fs) = some b
  | [], b, h => by
    simp only [eqFl, Option.some.injEq] at h
    subst h
    rfl
  | f :: fs, b, h => by
    simp only [eqFl] at h
    split at h
    · rename_i u v hn ht hx hy
      split at h
      · rename_i b1 b2 h1 h2
        cases h
        have hne : f.name ≠ "_" := by simpa using hn
        simp only [Op.eqFields]
        rw [if_pos hne, pureRun_bnd, pr_part ht hx, Option.bind_some, pureRun_bnd, pr_part ht hy, Option.bind_some, pureRun_bnd, pr_basic h1, Option.bind_some]
        cases b1
        · rfl
        · simpa using pr_fields h2
      · cases h
    · cases h
theorem pr_struct {P : Program} {d t : Nat} {xs ys : Array Value} (ht : P.underlying t = some (.struct (P.fieldsOf t))) (hp : P.stoodInHeld t = false) :
    pureRun P (Op.equalIn (d + 1) t (.agg xs) (.agg ys)) = pureRun P (Op.eqFields d xs ys (P.fieldsOf t).toList) := by
  have hprog : pureRun P Go.program = some P := rfl
  simp only [Op.equalIn, pureRun_bnd, pr_under ht, Option.bind_some, hprog, hp, Bool.false_eq_true, if_false]
  rw [← Array.forIn_toList]
  generalize (P.fieldsOf t).toList = fs
  clear ht
  induction fs with
  | nil => simp [Op.eqFields, pureRun, pure]
  | cons f fs ih =>
    simp only [List.forIn_cons, Op.eqFields]
    split
    · simp only [pureRun_bnd]
      cases pureRun P (part f.type xs f.offset) with
      | none => rfl
      | some a =>
        simp only [Option.bind_some]
        cases pureRun P (part f.type ys f.offset) with
        | none => rfl
        | some b =>
          simp only [Option.bind_some]
          cases pureRun P (Op.equalIn d f.type a b) with
          | none => rfl
          | some r =>
            cases r
            · simp [pureRun, pure]
            · simp only [Option.bind_some, Bool.not_true, Bool.false_eq_true, if_false, pureRun_bnd]
              simpa [pureRun, pure, pureRun_bnd] using ih
    · simp only [pureRun_bnd]
      simpa [pureRun, pure, pureRun_bnd] using ih
theorem bp_eqlA {P : Program} {t : Nat} {x y : Operand} {xs ys : List Value} {b : Bool} (ht : P.underlying t = some (.struct (P.fieldsOf t))) (hp : P.stoodInHeld t = false) (hg : P.eqGuardType P.depth t = false) (h : eqFl P xs ys (P.fieldsOf t).toList = some b) :
    binP P .eql t x y (some (.agg xs.toArray)) (some (.agg ys.toArray)) = some (.val (.bool b)) := by
  have hprog : pureRun P Go.program = some P := rfl
  have h1 : pureRun P (eqGuard .eql t x y (.agg xs.toArray) (.agg ys.toArray)) = some () := by
    simp [eqGuard, pureRun_bnd, hprog, hg, pureRun, pure]
  have h2 : pureRun P (binOp .eql t (.agg xs.toArray) (.agg ys.toArray)) = some (.bool b) := by
    show pureRun P (Op.equal t (.agg xs.toArray) (.agg ys.toArray) >>= fun r => pure (Value.bool r)) = _
    have h3 : pureRun P (Op.equal t (.agg xs.toArray) (.agg ys.toArray)) = some b := by
      show pureRun P (Op.equalIn (9998 + 1 + 1) t (.agg xs.toArray) (.agg ys.toArray)) = _
      rw [pr_struct ht hp]
      exact pr_fields h
    rw [pureRun_bind h3]
    rfl
  simp only [binP]
  rw [pureRun_bind h1, h2]
  rfl
theorem bp_neqA {P : Program} {t : Nat} {x y : Operand} {xs ys : List Value} {b : Bool} (ht : P.underlying t = some (.struct (P.fieldsOf t))) (hp : P.stoodInHeld t = false) (hg : P.eqGuardType P.depth t = false) (h : eqFl P xs ys (P.fieldsOf t).toList = some b) :
    binP P .neq t x y (some (.agg xs.toArray)) (some (.agg ys.toArray)) = some (.val (.bool (!b))) := by
  have hprog : pureRun P Go.program = some P := rfl
  have h1 : pureRun P (eqGuard .neq t x y (.agg xs.toArray) (.agg ys.toArray)) = some () := by
    simp [eqGuard, pureRun_bnd, hprog, hg, pureRun, pure]
  have h2 : pureRun P (binOp .neq t (.agg xs.toArray) (.agg ys.toArray)) = some (.bool (!b)) := by
    show pureRun P (Op.equal t (.agg xs.toArray) (.agg ys.toArray) >>= fun r => pure (Value.bool (!r))) = _
    have h3 : pureRun P (Op.equal t (.agg xs.toArray) (.agg ys.toArray)) = some b := by
      show pureRun P (Op.equalIn (9998 + 1 + 1) t (.agg xs.toArray) (.agg ys.toArray)) = _
      rw [pr_struct ht hp]
      exact pr_fields h
    rw [pureRun_bind h3]
    rfl
  simp only [binP]
  rw [pureRun_bind h1, h2]
  rfl
theorem toVal_agg (cs : List PV) : toVal (.agg cs) = (toVals cs).map fun vs => .agg vs.toArray := rfl
theorem onePV_three (p q r : PV) : onePV [p, q, r] = .tup [p, q, r] := rfl
theorem onePV_four (p q r s : PV) : onePV [p, q, r, s] = .tup [p, q, r, s] := rfl
theorem onePV_five (p q r s t : PV) : onePV [p, q, r, s, t] = .tup [p, q, r, s, t] := rfl
theorem rowRe_lit {fr : Bool} {f sz m T : Nat} {ob : Objs} {es : List PV} (hm : m = es.length) : rowRe fr f ob sz 0 m (some (T, sz, es)) = (es.mapM (reify fr 0 ob f)).map (.lst fr sz) := by
  subst hm
  simp [rowRe]
attribute [push_cast low]
  rowRe_lit
attribute [push_cast]
  onePV_three onePV_four onePV_five toVal_agg beq_self_eq_true
end Go.Proofs.YtpggpdbipajchaaGreatDoor
