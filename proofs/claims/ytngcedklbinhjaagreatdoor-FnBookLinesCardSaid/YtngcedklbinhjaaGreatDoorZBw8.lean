/- What the proof rests on, part 8: contracts of functions. No condition beyond what each states. -/
import Derived.Test.YtngcedklbinhjaaGreatDoorZBw7
namespace Go.Proofs
open Go.Shelf
def YtngcedklbinhjaaGreatDoor.uw : Go.Shelf.Ren := ⟨fun | 169 => 34 | n => n, fun | 70 => 70 | 9 => 9 | 0 => 0 | 72 => 72 | 37 => 22 | 127 => 109 | 3 => 3 | 5 => 5 | n => n, fun | n => n⟩
theorem YtngcedklbinhjaaGreatDoor.aoN : Go.Proofs.Lays.n169 Tryz.prog YtngcedklbinhjaaGreatDoor.uw := {
 mixed := by kernel_rfl
 f169 := Tryz.func34.trans (congrArg some (by kernel_rfl))
 t0 := Tryz.underlying0
 a0 := Tryz.isAgg0
 z0 := Tryz.sizeOf0
 v0 := Tryz.zeroValue0
 t3 := Tryz.underlying3
 a3 := Tryz.isAgg3
 z3 := Tryz.sizeOf3
 v3 := Tryz.zeroValue3
 t9 := Tryz.underlying9
 a9 := Tryz.isAgg9
 z9 := Tryz.sizeOf9
 v9 := Tryz.zeroValue9
 t37 := Tryz.underlying22
 a37 := Tryz.isAgg22
 z37 := Tryz.sizeOf22
 v37 := Tryz.zeroValue22
 t70 := Tryz.underlying70
 a70 := Tryz.isAgg70
 z70 := Tryz.sizeOf70
 v70 := Tryz.zeroValue70
 t72 := Tryz.underlying72
 a72 := Tryz.isAgg72
 z72 := Tryz.sizeOf72
 v72 := Tryz.zeroValue72
 t127 := Tryz.underlying109
 a127 := Tryz.isAgg109
 z127 := Tryz.sizeOf109
 v127 := Tryz.zeroValue109 }
theorem YtngcedklbinhjaaGreatDoor.qJ : Builder.Extra Tryz.prog YtngcedklbinhjaaGreatDoor.uw := {
 sizeBuilder := by kernel_rfl
 liesBuilder := by kernel_rfl
 t5 := Tryz.underlying5
 a5 := Tryz.isAgg5
 z5 := Tryz.sizeOf5
 v5 := Tryz.zeroValue5
 infoByte := by kernel_rfl
 cellsByte := by kernel_rfl
 sizeByte := by kernel_rfl
 neB5 := by decide }
open Go.RowKit in
theorem YtngcedklbinhjaaGreatDoor.Builder_String_any (B b : Nat) (l : List UInt8) (w : World) (h : Lib.IsBuilder 72 5 B b (Lib.byteCells l) w) (hBw : B ≤ w.heap.size) :
  Calls Tryz.prog 34 #[.pointer (some ⟨b, 0, none⟩)] w fun e w' => e = .returned (.string ⟨l.toArray⟩) ∧ Below B w w' := Any.Builder_String_any YtngcedklbinhjaaGreatDoor.aoN YtngcedklbinhjaaGreatDoor.qJ B b l w h hBw
def YtngcedklbinhjaaGreatDoor.ac3 : Go.Shelf.Ren := ⟨fun | 137 => 113 | 217 => 117 | 266 => 122 | n => n, fun | 9 => 9 | 5 => 5 | 3 => 3 | n => n, fun | n => n⟩
theorem YtngcedklbinhjaaGreatDoor.asq : Go.Proofs.Lays.n137 Tryz.prog YtngcedklbinhjaaGreatDoor.ac3 := {
 mixed := by kernel_rfl
 f137 := Tryz.func113.trans (congrArg some (by kernel_rfl))
 f217 := Tryz.func117.trans (congrArg some (by kernel_rfl))
 f266 := Tryz.func122.trans (congrArg some (by kernel_rfl))
 t3 := Tryz.underlying3
 a3 := Tryz.isAgg3
 z3 := Tryz.sizeOf3
 v3 := Tryz.zeroValue3
 t5 := Tryz.underlying5
 a5 := Tryz.isAgg5
 z5 := Tryz.sizeOf5
 v5 := Tryz.zeroValue5
 t9 := Tryz.underlying9
 a9 := Tryz.isAgg9
 z9 := Tryz.sizeOf9
 v9 := Tryz.zeroValue9 }
open Go.RowKit in
theorem YtngcedklbinhjaaGreatDoor.strings_IndexByte (s : ByteArray) (c : Int) (w : World) :
  Calls Tryz.prog 113 #[.string s, .int .u8 c] w fun e w' => e = .returned (.int .i64 (Lib.indexByte s.data.toList c.toNat.toUInt8)) ∧ w' = w := Any.strings_IndexByte YtngcedklbinhjaaGreatDoor.asq s c w
def YtngcedklbinhjaaGreatDoor.acy : Go.Shelf.Ren := ⟨fun | 104 => 31 | 211 => 64 | 207 => 88 | n => n, fun | 9 => 9 | 4 => 4 | 24 => 73 | 3 => 3 | n => n, fun | n => n⟩
theorem YtngcedklbinhjaaGreatDoor.apF : Go.Proofs.Lays.n104 Tryz.prog YtngcedklbinhjaaGreatDoor.acy := {
 mixed := by kernel_rfl
 f104 := Tryz.func31.trans (congrArg some (by kernel_rfl))
 f207 := Tryz.func88.trans (congrArg some (by kernel_rfl))
 f211 := Tryz.func64.trans (congrArg some (by kernel_rfl))
 t3 := Tryz.underlying3
 a3 := Tryz.isAgg3
 z3 := Tryz.sizeOf3
 v3 := Tryz.zeroValue3
 t4 := Tryz.underlying4
 a4 := Tryz.isAgg4
 z4 := Tryz.sizeOf4
 v4 := Tryz.zeroValue4
 t9 := Tryz.underlying9
 a9 := Tryz.isAgg9
 z9 := Tryz.sizeOf9
 v9 := Tryz.zeroValue9
 t24 := Tryz.underlying73
 a24 := Tryz.isAgg73
 z24 := Tryz.sizeOf73
 v24 := Tryz.zeroValue73 }
open Go.RowKit in
theorem YtngcedklbinhjaaGreatDoor.strings_CutSuffix (s p : ByteArray) (w : World) (hs : s.size ≤ 9223372036854775807) :
  Calls Tryz.prog 31 #[.string s, .string p] w fun e w' => e = .returned (.tuple #[.string ⟨(Lib.trimSuffix s.data.toList p.data.toList).toArray⟩, .bool (Lib.hasSuffix s.data.toList p.data.toList)]) ∧ w' = w := Any.strings_CutSuffix YtngcedklbinhjaaGreatDoor.apF s p w hs
def YtngcedklbinhjaaGreatDoor.abj : Go.Shelf.Ren := ⟨fun | 143 => 92 | 219 => 111 | 217 => 117 | 225 => 118 | 224 => 119 | 267 => 120 | 266 => 122 | 314 => 123 | n => n, fun | 9 => 9 | 3 => 3 | 4 => 4 | 5 => 5 | 46 => 134 | 146 => 142 | 51 => 141 | n => n, fun | 1 => 0 | n => n⟩
theorem YtngcedklbinhjaaGreatDoor.ara : Go.Proofs.Lays.n143 Tryz.prog YtngcedklbinhjaaGreatDoor.abj := {
 mixed := by kernel_rfl
 f143 := Tryz.func92.trans (congrArg some (by kernel_rfl))
 f217 := Tryz.func117.trans (congrArg some (by kernel_rfl))
 f219 := Tryz.func111.trans (congrArg some (by kernel_rfl))
 f224 := Tryz.func119.trans (congrArg some (by kernel_rfl))
 f225 := Tryz.func118.trans (congrArg some (by kernel_rfl))
 f266 := Tryz.func122.trans (congrArg some (by kernel_rfl))
 f267 := Tryz.func120.trans (congrArg some (by kernel_rfl))
 f314 := Tryz.func123.trans (congrArg some (by kernel_rfl))
 t3 := Tryz.underlying3
 a3 := Tryz.isAgg3
 z3 := Tryz.sizeOf3
 v3 := Tryz.zeroValue3
 t4 := Tryz.underlying4
 a4 := Tryz.isAgg4
 z4 := Tryz.sizeOf4
 v4 := Tryz.zeroValue4
 t5 := Tryz.underlying5
 a5 := Tryz.isAgg5
 z5 := Tryz.sizeOf5
 v5 := Tryz.zeroValue5
 t9 := Tryz.underlying9
 a9 := Tryz.isAgg9
 z9 := Tryz.sizeOf9
 v9 := Tryz.zeroValue9
 t46 := Tryz.underlying134
 a46 := Tryz.isAgg134
 z46 := Tryz.sizeOf134
 v46 := Tryz.zeroValue134
 t51 := Tryz.underlying141
 a51 := Tryz.isAgg141
 z51 := Tryz.sizeOf141
 v51 := Tryz.zeroValue141
 t146 := Tryz.underlying142
 a146 := Tryz.isAgg142
 z146 := Tryz.sizeOf142
 v146 := Tryz.zeroValue142
 g1 := by kernel_rfl }
open Go.RowKit Go.Lib in
theorem YtngcedklbinhjaaGreatDoor.strings_Index_one (s : ByteArray) (c : UInt8) (w : World) :
  Calls Tryz.prog 92 #[.string s, .string ⟨#[c]⟩] w fun e w' => e = .returned (.int .i64 (Lib.indexByte s.data.toList c)) ∧ w' = w := Any.strings_Index_one YtngcedklbinhjaaGreatDoor.ara s c w
def YtngcedklbinhjaaGreatDoor.acu : Go.Shelf.Ren := ⟨fun | 138 => 91 | 195 => 108 | 218 => 110 | 143 => 92 | 219 => 111 | 217 => 117 | 225 => 118 | 224 => 119 | 267 => 120 | 266 => 122 | 314 => 123 | n => n, fun | 9 => 9 | 3 => 3 | 4 => 4 | 5 => 5 | 0 => 0 | 46 => 134 | 146 => 142 | 51 => 141 | n => n, fun | 1 => 0 | n => n⟩
theorem YtngcedklbinhjaaGreatDoor.aou : Go.Proofs.Lays.n138 Tryz.prog YtngcedklbinhjaaGreatDoor.acu := {
 mixed := by kernel_rfl
 f138 := Tryz.func91.trans (congrArg some (by kernel_rfl))
 f143 := Tryz.func92.trans (congrArg some (by kernel_rfl))
 f195 := Tryz.func108.trans (congrArg some (by kernel_rfl))
 f217 := Tryz.func117.trans (congrArg some (by kernel_rfl))
 f218 := Tryz.func110.trans (congrArg some (by kernel_rfl))
 f219 := Tryz.func111.trans (congrArg some (by kernel_rfl))
 f224 := Tryz.func119.trans (congrArg some (by kernel_rfl))
 f225 := Tryz.func118.trans (congrArg some (by kernel_rfl))
 f266 := Tryz.func122.trans (congrArg some (by kernel_rfl))
 f267 := Tryz.func120.trans (congrArg some (by kernel_rfl))
 f314 := Tryz.func123.trans (congrArg some (by kernel_rfl))
 t0 := Tryz.underlying0
 a0 := Tryz.isAgg0
 z0 := Tryz.sizeOf0
 v0 := Tryz.zeroValue0
 t3 := Tryz.underlying3
 a3 := Tryz.isAgg3
 z3 := Tryz.sizeOf3
 v3 := Tryz.zeroValue3
 t4 := Tryz.underlying4
 a4 := Tryz.isAgg4
 z4 := Tryz.sizeOf4
 v4 := Tryz.zeroValue4
 t5 := Tryz.underlying5
 a5 := Tryz.isAgg5
 z5 := Tryz.sizeOf5
 v5 := Tryz.zeroValue5
 t9 := Tryz.underlying9
 a9 := Tryz.isAgg9
 z9 := Tryz.sizeOf9
 v9 := Tryz.zeroValue9
 t46 := Tryz.underlying134
 a46 := Tryz.isAgg134
 z46 := Tryz.sizeOf134
 v46 := Tryz.zeroValue134
 t51 := Tryz.underlying141
 a51 := Tryz.isAgg141
 z51 := Tryz.sizeOf141
 v51 := Tryz.zeroValue141
 t146 := Tryz.underlying142
 a146 := Tryz.isAgg142
 z146 := Tryz.sizeOf142
 v146 := Tryz.zeroValue142
 g1 := by kernel_rfl }
open Go.RowKit Go.Lib in
theorem YtngcedklbinhjaaGreatDoor.strings_Count_one (s : ByteArray) (c : UInt8) (w : World) :
  Calls Tryz.prog 91 #[.string s, .string ⟨#[c]⟩] w fun e w' => e = .returned (.int .i64 (Lib.countByte s.data.toList c)) ∧ w' = w := Any.strings_Count_one YtngcedklbinhjaaGreatDoor.aou s c w
def YtngcedklbinhjaaGreatDoor.abp : Go.Shelf.Ren := ⟨fun | 221 => 66 | 268 => 90 | 138 => 91 | 143 => 92 | 195 => 108 | 197 => 109 | 218 => 110 | 219 => 111 | 260 => 116 | 217 => 117 | 225 => 118 | 224 => 119 | 267 => 120 | 266 => 122 | 314 => 123 | n => n, fun | 9 => 9 | 3 => 3 | 31 => 23 | 4 => 4 | 0 => 0 | 105 => 129 | 21 => 21 | 5 => 5 | 46 => 134 | 119 => 137 | 139 => 140 | 138 => 139 | 146 => 142 | 51 => 141 | n => n, fun | 1 => 0 | 3 => 1 | 4 => 2 | n => n⟩
theorem YtngcedklbinhjaaGreatDoor.aqe : Go.Proofs.Lays.n221 Tryz.prog YtngcedklbinhjaaGreatDoor.abp := {
 mixed := by kernel_rfl
 f138 := Tryz.func91.trans (congrArg some (by kernel_rfl))
 f143 := Tryz.func92.trans (congrArg some (by kernel_rfl))
 f195 := Tryz.func108.trans (congrArg some (by kernel_rfl))
 f197 := Tryz.func109.trans (congrArg some (by kernel_rfl))
 f217 := Tryz.func117.trans (congrArg some (by kernel_rfl))
 f218 := Tryz.func110.trans (congrArg some (by kernel_rfl))
 f219 := Tryz.func111.trans (congrArg some (by kernel_rfl))
 f221 := Tryz.func66.trans (congrArg some (by kernel_rfl))
 f224 := Tryz.func119.trans (congrArg some (by kernel_rfl))
 f225 := Tryz.func118.trans (congrArg some (by kernel_rfl))
 f260 := Tryz.func116.trans (congrArg some (by kernel_rfl))
 f266 := Tryz.func122.trans (congrArg some (by kernel_rfl))
 f267 := Tryz.func120.trans (congrArg some (by kernel_rfl))
 f268 := Tryz.func90.trans (congrArg some (by kernel_rfl))
 f314 := Tryz.func123.trans (congrArg some (by kernel_rfl))
 t0 := Tryz.underlying0
 a0 := Tryz.isAgg0
 z0 := Tryz.sizeOf0
 v0 := Tryz.zeroValue0
 t3 := Tryz.underlying3
 a3 := Tryz.isAgg3
 z3 := Tryz.sizeOf3
 v3 := Tryz.zeroValue3
 t4 := Tryz.underlying4
 a4 := Tryz.isAgg4
 z4 := Tryz.sizeOf4
 v4 := Tryz.zeroValue4
 t5 := Tryz.underlying5
 a5 := Tryz.isAgg5
 z5 := Tryz.sizeOf5
 v5 := Tryz.zeroValue5
 t9 := Tryz.underlying9
 a9 := Tryz.isAgg9
 z9 := Tryz.sizeOf9
 v9 := Tryz.zeroValue9
 t21 := Tryz.underlying21
 a21 := Tryz.isAgg21
 z21 := Tryz.sizeOf21
 v21 := Tryz.zeroValue21
 t31 := Tryz.underlying23
 a31 := Tryz.isAgg23
 z31 := Tryz.sizeOf23
 v31 := Tryz.zeroValue23
 t46 := Tryz.underlying134
 a46 := Tryz.isAgg134
 z46 := Tryz.sizeOf134
 v46 := Tryz.zeroValue134
 t51 := Tryz.underlying141
 a51 := Tryz.isAgg141
 z51 := Tryz.sizeOf141
 v51 := Tryz.zeroValue141
 t105 := Tryz.underlying129
 a105 := Tryz.isAgg129
 z105 := Tryz.sizeOf129
 v105 := Tryz.zeroValue129
 t119 := Tryz.underlying137
 a119 := Tryz.isAgg137
 z119 := Tryz.sizeOf137
 t138 := Tryz.underlying139
 a138 := Tryz.isAgg139
 z138 := Tryz.sizeOf139
 v138 := Tryz.zeroValue139
 t139 := Tryz.underlying140
 a139 := Tryz.isAgg140
 z139 := Tryz.sizeOf140
 v139 := Tryz.zeroValue140
 t146 := Tryz.underlying142
 a146 := Tryz.isAgg142
 z146 := Tryz.sizeOf142
 v146 := Tryz.zeroValue142
 g1 := by kernel_rfl
 g3 := by kernel_rfl
 g4 := by kernel_rfl }
end Go.Proofs
namespace Go.Proofs.YtngcedklbinhjaaGreatDoor
open Go.RowKit
set_option linter.all false
def PV.le (p q : PV) : Prop := ∀ (g : Gh) (w : World) (v : Value), Rep g w p v → Rep g w q v
theorem PV.le_refl (p : PV) : p.le p := fun _ _ _ h => h
theorem PV.le.trans {p q r : PV} (h : p.le q) (h2 : q.le r) : p.le r := fun g w v hv => h2 g w v (h g w v hv)
theorem nil_le (k : Bool) (sz : Nat) : (PV.val (.slice none 0 0)).le (.lst k sz []) := fun g w v h => by
 simp only [Rep] at h ⊢
 subst h
 exact ⟨none, 0, rfl, Nat.le_refl _, by omega, .inl trivial⟩
def leL : List PV → List PV → Prop
 | [], [] => True
 | p :: ps, q :: qs => p.le q ∧ leL ps qs
 | _, _ => False
theorem ad9 : ∀ (l : List PV), leL l l
 | [] => trivial
 | p :: l => ⟨p.le_refl, ad9 l⟩
theorem xU {g : Gh} {w : World} : ∀ {ps qs : List PV} {vs : List Value}, leL ps qs → dQ g w ps vs → dQ g w qs vs
 | [], [], vs, _, h => h
 | p :: ps, q :: qs, vs, hl, h => by
  simp only [dQ] at h ⊢
  obtain ⟨v, vs', rfl, h1, h2⟩ := h
  exact ⟨v, vs', rfl, hl.1 _ _ _ h1, xU hl.2 h2⟩
 | [], _ :: _, vs, hl, _ => hl.elim
 | _ :: _, [], vs, hl, _ => hl.elim
theorem tQ {ps qs : List PV} (h : leL ps qs) : (PV.tup ps).le (.tup qs) := fun g w v hv => by
 simp only [Rep] at hv ⊢
 obtain ⟨vs, rfl, h1⟩ := hv
 exact ⟨vs, rfl, xU h h1⟩
theorem ayS {ps qs : List PV} (h : leL ps qs) : (PV.agg ps).le (.agg qs) := fun g w v hv => by
 simp only [Rep] at hv ⊢
 obtain ⟨vs, rfl, h1⟩ := hv
 exact ⟨vs, rfl, xU h h1⟩
theorem Sound.weak {P : Program} {f : Nat} {φ φ' : Fun} (h : Sound P f φ) (hw : ∀ ps r, φ' ps = some r → ∃ ps' r', leL ps ps' ∧ φ ps' = some r' ∧ r'.le r) : Sound P f φ' := by
 intro w J ps args r hr hJ hT hargs
 obtain ⟨ps', r', h1, h2, h3⟩ := hw ps r hr
 refine (h w J ps' args r' h2 hJ hT (xU h1 hargs)).mono ?_
 rintro e w' ⟨v, rfl, hb, hrep⟩
 exact ⟨v, rfl, hb, fun g' hg => h3 _ _ _ (hrep g' hg)⟩
def nrm (sz : Nat) : PV → PV
 | .val (.slice none 0 0) => .lst false sz []
 | p => p
theorem anm (sz : Nat) (p : PV) : p.le (nrm sz p) := by
 unfold nrm
 split
 ·exact nil_le _ _
 ·exact p.le_refl
theorem abu (sz : Nat) : ∀ ps : List PV, leL ps (ps.map (nrm sz))
 | [] => trivial
 | p :: ps => ⟨anm sz p, abu sz ps⟩
def atp (sz : Nat) (φ : Fun) : Fun := fun ps => φ (ps.map (nrm sz))
theorem Sound.nil {P : Program} {f : Nat} {φ : Fun} (h : Sound P f φ) (sz : Nat) : Sound P f (atp sz φ) :=
 h.weak fun ps r hr => ⟨_, r, abu sz ps, hr, PV.le_refl _⟩
section
variable {P : Program} {Γ : Ctx}
theorem l7 (hm : P.follows .mixedOrders = true) {f : Nat} {fn : Func} {c : Code} {φ : Fun} (hΓ : aA P Γ) (hf : P.funcs[f]? = some fn) (hb : fn.body = some c) (N : Nat) (hN : fn.ntmps = N) (rs : List ResultVar) (hrs : fn.results.toList = rs) (hc : codeOk Γ true N c = true)
  (h : ∀ ps r, φ ps = some r → ps.length ≤ N ∧ pq P Γ N c (fun x s' => ∃ r', r'.le r ∧ Post P rs r' x s') (eO ps).tm (fun _ => none) 0) : Sound P f φ := by
 obtain ⟨φ', h1, h2⟩ := zG hm hΓ hf hb N hN rs hrs hc (fun ps => ∃ r, φ ps = some r) (fun ps r' => ∀ r, φ ps = some r → r'.le r) (fun ps ⟨r, hr⟩ => (h ps r hr).1) (fun ps ⟨r, hr⟩ => by
  refine tJ (fun x s' hx => ?_) _ _ (h ps r hr).2
  obtain ⟨r', k1, k2⟩ := hx
  exact ⟨r', fun r1 hr1 => by rw [hr] at hr1; cases hr1; exact k1, k2⟩)
 refine h1.weak fun ps r hr => ?_
 obtain ⟨r', k1, k2⟩ := h2 ps ⟨r, hr⟩
 exact ⟨ps, r', ad9 _, k1, k2 r hr⟩
theorem fP {rs : List ResultVar} {r r' : PV} {tm : Nat → PV} {ob : aF} {nx : Nat} {x : X} (hx : x = .normal ∨ x = .ret) (h : ((gF P ⟨tm, ob, nx⟩ rs).bind fun qs => reify true 0 ob fuel (gY qs)) = some r') (hl : r'.le r) : ∃ r', r'.le r ∧ Post P rs r' x ⟨tm, ob, nx⟩ := ⟨r', hl, hx, h⟩
end
theorem aeJ {n f sz : Nat} {ob : aF} {k : Bool} : reify false n ob (f + 1) (.lst k sz []) = some (.lst false sz []) := by simp [reify]
theorem afT {n f sz : Nat} {ob : aF} {k : Bool} : reify true n ob (f + 1) (.lst k sz []) = some (.lst true sz []) := by simp [reify]
attribute [push_cast]
 aeJ afT
def nP (sz : Nat) (es : List PV) (x : Nat) : PV := match es with | [] => .val (.slice none 0 0) | _ :: _ => .row x sz 0 es.length
def nO (T sz : Nat) (es : List PV) (x : Nat) : List (Nat × aV) := match es with | [] => [] | _ :: _ => [(x, T, sz, es)]
theorem lK {sz x : Nat} : nP sz [] x = .val (.slice none 0 0) := rfl
theorem lg {T sz x : Nat} : nO T sz [] x = [] := rfl
theorem aS {sz x : Nat} {es : List PV} (h : 0 < es.length) : nP sz es x = .row x sz 0 es.length := by
 cases es with
 | nil => simp at h
 | cons e es => rfl
theorem aU {T sz x : Nat} {es : List PV} (h : 0 < es.length) : nO T sz es x = [(x, T, sz, es)] := by
 cases es with
 | nil => simp at h
 | cons e es => rfl
attribute [push_cast]
 lK lg
attribute [push_cast low]
 aS aU
theorem asi {P : Program} {t : Nat} {x y : Operand} {a b : ByteArray} (h : a.size + b.size ≤ 9223372036854775807) : jB P .add t x y (some (.string a)) (some (.string b)) = some (.val (.string (a ++ b))) := by
 have h2 : ¬ (((a.size + b.size : Nat) : Int) > IntKind.i64.max) := by
  have : IntKind.i64.max = 9223372036854775807 := by decide
  rw [this]
  omega
 have : ak P (do eqGuard .add t x y (.string a) (.string b); binOp .add t (.string a) (.string b)) = some (.string (a ++ b)) := by
  show ak P (Op.stringOp .add a b) = _
  unfold Op.stringOp
  dsimp only
  rw [if_neg h2]
  rfl
 simp only [jB, this, Option.map_some]
theorem size_push (ns : List Int) (r : ByteArray) : (ns.foldl (fun r n => r.push (UInt8.ofNat n.toNat)) r).size = r.size + ns.length := by
 induction ns generalizing r with
 | nil => simp
 | cons n ns ih => rw [List.foldl_cons, ih, List.length_cons, ByteArray.size_push]; omega
theorem qN (ns : List Int) : (bytesOf ns).size = ns.length := by
 unfold bytesOf
 rw [size_push]
 simp
attribute [push_cast]
 asi qN ByteArray.size_append iP
theorem aiq {g : Gh} {w : World} {b off : Nat} {l : List ByteArray} (h : dx g w 1 (l.map fun s => PV.val (.string s)) b off) : ∀ (j : Nat) x, l[j]? = some x → w.cell? ⟨b, off + j, none⟩ = some (.string x) := fun j x hx => by
 obtain ⟨u, h1, h2, _⟩ := h.get (i := j) (e := .val (.string x)) (by simp [hx])
 simp only [Rep] at h1
 subst h1
 have := h2.2 0 (by simp [Value.cells])
 simpa [Value.cells] using this
def aa1 (l : List ByteArray) : Nat := (l.map (·.size)).sum
theorem asK {l : List ByteArray} {c : Nat} (h : ∀ i : Nat, (l[i]?.getD .empty).size ≤ c) : aa1 l ≤ l.length * c := by
 induction l with
 | nil => simp [aa1]
 | cons x l ih =>
  have h0 := h 0
  have := ih fun i => by simpa using h (i + 1)
  simp only [List.getElem?_cons_zero, Option.getD_some] at h0
  simp only [aa1, List.map_cons, List.sum_cons, List.length_cons, Nat.add_mul, Nat.one_mul] at this ⊢
  omega
end Go.Proofs.YtngcedklbinhjaaGreatDoor
namespace Go.Proofs.YtngcedklbinhjaaGreatDoor
open Go.RowKit
set_option linter.all false
theorem ji {α β : Type} {P : Program} {m : Sem α} {f : α → Sem β} {a : α} (h : ak P m = some a) : ak P (m >>= f) = ak P (f a) := by
 induction m with
 | pure x => simp only [ak, Option.some.injEq] at h; subst h; rfl
 | program k ih => exact ih P h
 | _ => simp [ak] at h
theorem yX {P : Program} {v : Int} {m : Nat} {k : BoundsCode} (h : 0 ≤ v) (h2 : v ≤ m) : ak P (Instr.sliceBound (.int .i64 v) m k) = some v.toNat := by
 have e : Instr.sliceBound (.int .i64 v) m k = (if 0 ≤ v ∧ v ≤ m then pure v.toNat else boundsPanic .i64 v m k) := rfl
 rw [e, if_pos ⟨h, h2⟩]
 rfl
theorem ani {P : Program} {t : Nat} {d : TypeDesc} (hu : P.underlying t = some d) : ak P (underlying t) = some d := by
 unfold underlying
 rw [ji (a := P) rfl]
 simp only [hu]
 rfl
theorem sps {P : Program} {t : Nat} {s : ByteArray} {lo hi : Option Int} (hu : P.underlying t = some .string) (h0 : 0 ≤ lo.getD 0) (h1 : lo.getD 0 ≤ hi.getD s.size) (h2 : hi.getD s.size ≤ s.size) :
  ato P t (.val (.string s)) (some lo) (some hi) = some (.val (.string (s.extract (lo.getD 0).toNat (hi.getD s.size).toNat))) := by
 have hb : ak P (Instr.sliceBounds false s.size s.size (lo.map (Value.int .i64)) (hi.map (Value.int .i64)) none) = some ((lo.getD 0).toNat, (hi.getD s.size).toNat, s.size) := by
  unfold Instr.sliceBounds
  rw [ji (a := s.size) rfl]
  cases hi with
  | none =>
   simp only [Option.map_none, Option.getD_none] at h1 ⊢
   rw [ji (a := s.size) rfl]
   cases lo with
   | none => simp only [Option.map_none, Option.getD_none, Int.toNat_natCast]; rw [ji (a := 0) rfl]; rfl
   | some l => simp only [Option.map_some, Option.getD_some, Int.toNat_natCast] at h0 h1 ⊢; rw [ji (yX h0 h1)]; rfl
  | some h =>
   simp only [Option.map_some, Option.getD_some] at h1 h2 ⊢
   have h3 : 0 ≤ h := by omega
   rw [ji (yX h3 h2)]
   cases lo with
   | none => simp only [Option.map_none, Option.getD_none]; rw [ji (a := 0) rfl]; rfl
   | some l => simp only [Option.map_some, Option.getD_some] at h0 h1 ⊢; rw [ji (yX h0 (by omega))]; rfl
 have hs : ak P (Instr.sliceAt t (.string s) (lo.map (Value.int .i64)) (hi.map (Value.int .i64)) none) = some (.string (s.extract (lo.getD 0).toNat (hi.getD s.size).toNat)) := by
  unfold Instr.sliceAt
  rw [ji (ani hu)]
  dsimp only
  unfold Instr.slice
  rw [ji (ani hu)]
  dsimp only
  simp only [Option.isSome_none, Bool.false_eq_true, if_false]
  rw [ji hb]
  rfl
 show (ak P _).map _ = _
 rw [hs]
 rfl
theorem aoG {s : ByteArray} {lo hi : Option Int} (h0 : 0 ≤ lo.getD 0) (h1 : lo.getD 0 ≤ hi.getD s.size) (h2 : hi.getD s.size ≤ s.size) :
  ato Tryz.prog 9 (.val (.string s)) (some lo) (some hi) = some (.val (.string (s.extract (lo.getD 0).toNat (hi.getD s.size).toNat))) := sps Tryz.underlying9 h0 h1 h2
attribute [push_cast]
 aoG
end Go.Proofs.YtngcedklbinhjaaGreatDoor
namespace Go.Proofs.YtngcedklbinhjaaGreatDoor
open Go.RowKit
set_option linter.all false
section
variable {P : Program} {Γ : Ctx}
theorem zT (hm : P.follows .mixedOrders = true) {f : Nat} {fn : Func} {c : Code} (hΓ : aA P Γ) (hf : P.funcs[f]? = some fn) (hb : fn.body = some c) (N : Nat) (hN : fn.ntmps = N) (rs : List ResultVar) (hrs : fn.results.toList = rs) (hc : codeOk Γ true N c = true)
  (D : List PV → aV → Prop) (R : List PV → aV → PV → List aV → Prop) (hlen : ∀ ps o, D ps o → ps.length ≤ N)
  (h : ∀ ps o, D ps o → pq P Γ N c (fun x s' => ∃ r os', R ps o r os' ∧ gV P rs 1 r os' x s') (eO ps).tm (lo [(0, o)]) 1) : ∃ Φ : fG, dM P f Φ ∧ ∀ ps o, D ps o → ∃ r os', Φ ps [o] = some (r, os') ∧ R ps o r os' := by
 classical
 subst hN hrs
 let Z : List PV → List aV → PV × List aV → Prop := fun ps cs r => ∃ o, cs = [o] ∧ D ps o ∧ R ps o r.1 r.2 ∧ ∃ x s', Ev P Γ fn.ntmps c (pV ps cs) x s' ∧ gV P fn.results.toList 1 r.1 r.2 x s'
 let Φ : fG := fun ps cs => if h : ∃ r, Z ps cs r then some (Classical.choose h) else none
 have hΦ : ∀ ps cs r, Φ ps cs = some r → Z ps cs r := fun ps cs r hr => by
  simp only [Φ] at hr
  split at hr
  ·rename_i hz
   cases hr
   exact Classical.choose_spec hz
  ·cases hr
 refine ⟨Φ, kN hΓ hf hb (fun ps cs r hr => ?_) fun ps cs r cs' hr => ?_, fun ps o hd => ?_⟩
 ·obtain ⟨o, _, h1, _⟩ := hΦ ps cs r hr
  exact hlen ps o h1
 ·obtain ⟨o, rfl, _, _, x, s', h1, h2, news, h3, h4, h5, h6⟩ := hΦ ps cs (r, cs') hr
  rw [Option.bind_eq_some_iff] at h5
  obtain ⟨qs, h8, h9⟩ := h5
  refine ⟨x, s', qs, List.range 1 ++ news, h1, h2, h8, h9, by simp, fun i hi => ?_, ?_, h6⟩
  ·have : i = 0 := by simpa using hi
   subst this
   rfl
  ·rw [List.nodup_append]
   exact ⟨List.nodup_range, h4, fun a ha b hb e => by
    have := h3 b hb
    have := List.mem_range.1 ha
    omega⟩
 ·have h' : pw P Γ fn.ntmps c (fun x s' => ∃ r os', R ps o r os' ∧ gV P fn.results.toList 1 r os' x s') (pV ps [o]) := by
   have := h ps o hd
   rw [← zi] at this
   exact this
  obtain ⟨x, s', h1, r, os', h2, h3⟩ := y9 (mixed := true) (fun _ => hm) c _ _ hc h'
  have hz : ∃ r, Z ps [o] r := ⟨(r, os'), o, rfl, hd, h2, x, s', h1, h3⟩
  have he : Φ ps [o] = some (Classical.choose hz) := by simp only [Φ]; rw [dif_pos hz]
  obtain ⟨o1, e1, _, e3, _⟩ := hΦ ps [o] _ he
  cases e1
  exact ⟨(Classical.choose hz).1, (Classical.choose hz).2, he, e3⟩
end
def ams (T : Nat) (Φ : fG) (B c : Int) {α : Type} (E : Nat → α → PV) (O : α → aV) (D : Int → Prop) (R : Int → α → Prop) : Prop :=
 ∀ code p n, p8 code p → p ≤ B → D n → ∃ a p', Φ [.own 0 2 0 0, .val (.int .i64 n)] [rdC T code p] = some (E 1 a, [rdC T code p', O a]) ∧ R n a ∧ p8 code p' ∧ p ≤ p' ∧ p' ≤ p + c
theorem amR {P : Program} {Γ : Ctx} (hm : P.follows .mixedOrders = true) {f : Nat} {fn : Func} {C : Code} (hΓ : aA P Γ) (hf : P.funcs[f]? = some fn) (hb : fn.body = some C) (N : Nat) (hN : fn.ntmps = N) (rs : List ResultVar) (hrs : fn.results.toList = rs) (hc : codeOk Γ true N C = true) (hN1 : 2 ≤ N)
  (T : Nat) (B c : Int) {α : Type} (E : Nat → α → PV) (O : α → aV) (D : Int → Prop) (R : Int → α → Prop)
  (h : ∀ code p n, p8 code p → p ≤ B → D n → pq P Γ N C (fun x s' => ∃ a p', R n a ∧ p8 code p' ∧ p ≤ p' ∧ p' ≤ p + c ∧ gV P rs 1 (E 1 a) [rdC T code p', O a] x s') (eO [.own 0 2 0 0, .val (.int .i64 n)]).tm (lo [(0, rdC T code p)]) 1) :
  ∃ Φ : fG, dM P f Φ ∧ ams T Φ B c E O D R := by
 obtain ⟨Φ, h1, h2⟩ := zT hm hΓ hf hb N hN rs hrs hc
  (fun ps o => ∃ code p n, ps = [.own 0 2 0 0, .val (.int .i64 n)] ∧ o = rdC T code p ∧ p8 code p ∧ p ≤ B ∧ D n)
  (fun ps o r os' => ∃ code p n a p', ps = [.own 0 2 0 0, .val (.int .i64 n)] ∧ o = rdC T code p ∧ r = E 1 a ∧ os' = [rdC T code p', O a] ∧ R n a ∧ p8 code p' ∧ p ≤ p' ∧ p' ≤ p + c)
  (fun ps o ⟨code, p, n, e, _⟩ => by rw [e]; exact hN1) (fun ps o ⟨code, p, n, e1, e2, h3, h4, h5⟩ => by
   subst e1 e2
   refine tJ (fun x s' hx => ?_) _ _ (h code p n h3 h4 h5)
   obtain ⟨a, p', k1, k2, k3, k4, k5⟩ := hx
   exact ⟨E 1 a, [rdC T code p', O a], ⟨code, p, n, a, p', rfl, rfl, rfl, rfl, k1, k2, k3, k4⟩, k5⟩)
 refine ⟨Φ, h1, fun code p n h3 h4 h5 => ?_⟩
 obtain ⟨r, os', e, code', p1, n1, a, p', e0, e1, rfl, rfl, k1, k2, k3, k4⟩ := h2 _ _ ⟨code, p, n, rfl, rfl, h3, h4, h5⟩
 obtain ⟨rfl, rfl⟩ := aho e1
 have : n = n1 := by simpa using e0
 subst this
 exact ⟨a, p', e, k1, k2, k3, k4⟩
theorem axI {o : Nat} : inn [0, o] 0 = some 0 := by simp [inn]
theorem axJ {o : Nat} (h : 0 < o) : inn [0, o] o = some 1 := by
 have h0 : ¬ (0 : Nat) = o := by omega
 have h1 : (0 == o) = false := by simpa using h0
 simp [inn, List.idxOf_cons, h1]
theorem ax5 {o x : Nat} (h : 0 < x) (h2 : x ≠ o) : inn [0, o] x = none := by
 have h0 : ¬ x = 0 := by omega
 simp [inn, h0, h2]
theorem ail {o nx : Nat} : jy [o] nx 1 = some nx := by simp [jy, kD]
theorem aeG {out : List Nat} {ob : aF} {l : List PV} : l.mapM (cZ out ob fuel) = l.mapM (cZ out ob 8) := rfl
attribute [push_cast]
 aeG axI axJ ax5 ail
section
variable {P : Program} {Γ : Ctx} {imm : Md} {N : Nat} {gs : List (Option Nat)} {l : List Oper} {Q : AS → Prop} {tm : Nat → PV} {ob : aF} {nx T : Nat} {Φ : fG} {B c : Int} {α : Type} {E : Nat → α → PV} {O : α → aV}
theorem auY {o : Nat} {code : List Int} {p p' : Int} {a : α} {qs : List PV} (hE : dJ (jy [o] nx) fuel (E 1 a) = some (E nx a)) (hO : (O a).2.2.mapM (dJ (jy [o] nx) fuel) = some (O a).2.2)
  (ho : ob o = some (rdC T code p)) (h : Φ qs [rdC T code p] = some (E 1 a, [rdC T code p', O a])) : oM Φ ob nx o qs (ob o) = some (E nx a, upd (upd ob o (some (rdC T code p'))) nx (some (O a)), nx + 1) := by
 have h1 : ∀ (nm : Nat → Option Nat) (q : Int), [PV.agg [.lst false 1 (code.map fun n => PV.val (.int .u8 n)), .val (.int .i64 q)]].mapM (dJ nm fuel) = some [PV.agg [.lst false 1 (code.map fun n => PV.val (.int .u8 n)), .val (.int .i64 q)]] := fun nm q => by
  simp only [jG, fC, mO, mapM_cons', mapM_nil', kr, iU, Option.bind_some, Option.map_some]
 rw [ho, qg, h1, Option.bind_some, h]
 unfold ioR
 simp only [hE, mapM_cons', mapM_nil', aaL, h1, hO, Option.map_some, Option.bind_some]
 have e : O a = ((O a).1, (O a).2.1, (O a).2.2) := rfl
 simp only [List.length_cons, List.length_nil, Nat.zero_add, Nat.reduceAdd, Nat.reduceSub, Option.some.injEq, Prod.mk.injEq, true_and, and_true]
 show iH ob [(kD [o] nx 0, _), (kD [o] nx 1, _)] = _
 simp only [iH, kD, List.length_cons, List.length_nil, Nat.zero_add, Nat.lt_one_iff, if_true, Nat.one_ne_zero, if_false, Nat.sub_self, Nat.add_zero, List.getD_cons_zero]
theorem abT {D : Int → Prop} {R : Int → α → Prop} (hd : ams T Φ B c E O D R) (hE : ∀ o nx a, dJ (jy [o] nx) fuel (E 1 a) = some (E nx a)) (hO : ∀ nm a, (O a).2.2.mapM (dJ nm fuel) = some (O a).2.2) {d f ty o : Nat} {x y : Operand} {ts : Array TypeId} {pos : String} {af : Array Edge} {code : List Int} {p n : Int} (hio : Γ.io f = some Φ) (hx : look tm x = .own o 2 0 0) (hy : look tm y = .val (.int .i64 n)) (ho : ob o = some (rdC T code p)) (hok : p8 code p) (hB : p ≤ B) (hD : D n)
  (he : lq Γ imm nx (look tm) (.call { callee := .value (.func f), args := #[x, y], argTypes := ts }) = true)
  (hk : ∀ a p', R n a → p8 code p' → p ≤ p' → p' ≤ p + c → wq P Γ imm gs l Q (upd tm d (E nx a)) (upd (upd ob o (some (rdC T code p'))) nx (some (O a))) (nx + 1)) :
  wq P Γ imm gs ({ dst := some d, op := .call { callee := .value (.func f), args := #[x, y], argTypes := ts }, type := ty, pos := pos, after := af, guard := none } :: l) Q tm ob nx := by
 obtain ⟨a, p', h1, h2, h3, h4, h5⟩ := hd code p n hok hB hD
 refine i_E (by simp [fT, mG, hio]) he ?_ (hk a p' h2 h3 h4 h5)
 rw [abI, hio, uK]
 show qH Φ ob nx [look tm x, look tm y] = _
 rw [hx, hy, arh]
 exact auY (hE o nx a) (hO _ a) ho h1
theorem ao5 {rs : List ResultVar} {r : PV} {c1 c2 : aV} {x : X} (o : Nat) (h0 : 0 < o) (hx : x = .normal ∨ x = .ret) (h1 : ((gF P ⟨tm, ob, nx⟩ rs).bind fun qs => cZ [0, o] ob fuel (gY qs)) = some r) (h2 : kW [0, o] ob fuel 0 = some c1) (h3 : kW [0, o] ob fuel o = some c2) : gV P rs 1 r [c1, c2] x ⟨tm, ob, nx⟩ :=
 ⟨hx, [o], fun b hb => by simp only [List.mem_singleton] at hb; omega, by simp, h1, by
  show [0, o].mapM (kW [0, o] ob fuel) = some [c1, c2]
  rw [mapM_cons', h2, Option.bind_some, mapM_cons', h3, Option.bind_some, mapM_nil']; rfl⟩
theorem ab0 {rs : List ResultVar} {R : α → Prop} {code : List Int} {p : Int} {a : α} {p' : Int} {x : X} (o : Nat) (h0 : 0 < o) (hx : x = .normal ∨ x = .ret)
  (h5 : kW [0, o] ob fuel o = some (O a)) (h4 : kW [0, o] ob fuel 0 = some (rdC T code p')) (h3 : ((gF P ⟨tm, ob, nx⟩ rs).bind fun qs => cZ [0, o] ob fuel (gY qs)) = some (E 1 a)) (hR : R a) (ho : p8 code p') (h1 : p ≤ p') (h2 : p' ≤ p + c) :
  ∃ a p', R a ∧ p8 code p' ∧ p ≤ p' ∧ p' ≤ p + c ∧ gV P rs 1 (E 1 a) [rdC T code p', O a] x ⟨tm, ob, nx⟩ := ⟨a, p', hR, ho, h1, h2, ao5 o h0 hx h3 h4 h5⟩
end
end Go.Proofs.YtngcedklbinhjaaGreatDoor
namespace Go.Proofs.YtngcedklbinhjaaGreatDoor
open Go.RowKit
set_option linter.all false
abbrev ahb := List PV → Option (PV × List aV)
def nH (P : Program) (f : Nat) (Ψ : ahb) : Prop := dM P f fun ps cs => if cs = [] then Ψ ps else none
def oU (nm : Nat → Nat) : Nat → PV → Option PV
 | 0, _ => none
 | n + 1, p => match p with
  | .val v => some (.val v)
  | .dead => some .dead
  | .lst k sz es => if k = false ∧ es ≠ [] then none else (es.mapM (oU nm n)).map (.lst k sz)
  | .ptr k e o => if k = false then none else (oU nm n e).map (.ptr k · o)
  | .own o sz i f => some (.own (nm o) sz i f)
  | .row o sz i m => some (.row (nm o) sz i m)
  | .agg cs => (cs.mapM (oU nm n)).map .agg
  | .tup cs => (cs.mapM (oU nm n)).map .tup
theorem Rep.oU {nm : Nat → Nat} {g g' : Gh} {w : World} (hI : ∀ b, g.I true b → g'.I true b) (ho : ∀ o, g.D o → g'.β (nm o) = g.β o ∧ g'.κ (nm o) = g.κ o ∧ g'.D (nm o)) :
  ∀ (f : Nat) (p q : PV) (v : Value), Rep g w p v → Proofs.YtngcedklbinhjaaGreatDoor.oU nm f p = some q → Rep g' w q v
 | 0, p, q, v, h, hr => by simp [Proofs.YtngcedklbinhjaaGreatDoor.oU] at hr
 | f + 1, p, q, v, h, hr => by
  cases p with
  | val u => simp only [Proofs.YtngcedklbinhjaaGreatDoor.oU, Option.some.injEq] at hr; subst hr; simpa [Rep] using h
  | dead => simp only [Proofs.YtngcedklbinhjaaGreatDoor.oU, Option.some.injEq] at hr; subst hr; simp [Rep]
  | lst k sz es =>
   simp only [Proofs.YtngcedklbinhjaaGreatDoor.oU] at hr
   split at hr
   ·cases hr
   ·rename_i hk
    simp only [Option.map_eq_some_iff] at hr
    obtain ⟨es', h1, rfl⟩ := hr
    have hl := (dz h1).1
    simp only [Rep] at h ⊢
    obtain ⟨a, cap, rfl, h2, h3, h4⟩ := h
    refine ⟨a, cap, by rw [hl], by omega, h3, ?_⟩
    rcases h4 with rfl | ⟨b, off, rfl, h5, h6⟩
    ·left; exact List.eq_nil_of_length_eq_zero (by simpa using hl)
    ·by_cases hnil : es = []
     ·left; subst hnil; exact List.eq_nil_of_length_eq_zero (by simpa using hl)
     ·right
      cases k with
      | false => simp [hnil] at hk
      | true => exact ⟨b, off, rfl, hI _ h5, dx.conv (g := g) (g' := g') (Rep.oU hI ho f) h6 h1⟩
  | ptr k e o =>
   simp only [Proofs.YtngcedklbinhjaaGreatDoor.oU] at hr
   split at hr
   ·cases hr
   ·rename_i hk
    simp only [Option.map_eq_some_iff] at hr
    obtain ⟨e', h1, rfl⟩ := hr
    simp only [Rep] at h ⊢
    obtain ⟨b, off, rfl, h2, u, h3, h4⟩ := h
    cases k with
    | false => simp at hk
    | true => exact ⟨b, off, rfl, hI _ h2, u, Rep.oU hI ho f e e' u h3 h1, h4⟩
  | own o sz i f' =>
   simp only [Proofs.YtngcedklbinhjaaGreatDoor.oU, Option.some.injEq] at hr
   subst hr
   simp only [Rep] at h ⊢
   obtain ⟨e1, _, e3⟩ := ho o h.2
   exact ⟨by rw [e1]; exact h.1, e3⟩
  | row o sz i m =>
   simp only [Proofs.YtngcedklbinhjaaGreatDoor.oU, Option.some.injEq] at hr
   subst hr
   simp only [Rep] at h ⊢
   obtain ⟨c, h1, h2, h3, h4, h5⟩ := h
   obtain ⟨e1, e2, e3⟩ := ho o h5
   exact ⟨c, by rw [e1]; exact h1, h2, h3, by rw [e2]; exact h4, e3⟩
  | agg cs =>
   simp only [Proofs.YtngcedklbinhjaaGreatDoor.oU, Option.map_eq_some_iff] at hr
   obtain ⟨cs', h1, rfl⟩ := hr
   simp only [Rep] at h ⊢
   obtain ⟨vs, rfl, h2⟩ := h
   exact ⟨vs, rfl, dQ.conv (g := g) (g' := g') (Rep.oU hI ho f) h2 h1⟩
  | tup cs =>
   simp only [Proofs.YtngcedklbinhjaaGreatDoor.oU, Option.map_eq_some_iff] at hr
   obtain ⟨cs', h1, rfl⟩ := hr
   simp only [Rep] at h ⊢
   obtain ⟨vs, rfl, h2⟩ := h
   exact ⟨vs, rfl, dQ.conv (g := g) (g' := g') (Rep.oU hI ho f) h2 h1⟩
def ae1 (nm : Nat → Nat) (f : Nat) (c : aV) : Option aV := (c.2.2.mapM (oU nm f)).map fun es => (c.1, c.2.1, es)
def aaP (Ψ : ahb) : Fun := fun ps => (Ψ ps).bind fun rc => reify true 0 (fun o => rc.2[o]?) fuel rc.1
theorem nH.pure {P : Program} {f : Nat} {Ψ : ahb} (h : nH P f Ψ) : Sound P f (aaP Ψ) := by
 intro w J ps args r hr hJ hT hargs
 unfold aaP at hr
 simp only [Option.bind_eq_some_iff] at hr
 obtain ⟨⟨r0, cs0⟩, h2, h3⟩ := hr
 dsimp only at h3
 let J' : Bool → Nat → Prop := fun k b => k = false ∧ J b
 have hO' : uz J' w (fun _ => 0) (fun _ => 0) [] := ⟨fun o ho => by simp at ho, fun o o' ho => by simp at ho, fun o c ho => by simp at ho⟩
 refine (h w J' (fun _ => 0) (fun _ => 0) ps [] args r0 cs0 (by simpa using h2) (fun k b hb => hJ b hb.2) hO' (hT.io fun t _ ⟨o, ho, _⟩ => by simp at ho) hargs).mono ?_
 rintro e w' ⟨v, β', κ', M, rfl, hfr, _, _, hnew, hM, hO2, hrep⟩
 refine ⟨v, rfl, ⟨hfr.os, hfr.tape, hfr.output, hfr.size, fun b hb => hfr.block b hb (fun ⟨o, ho, _⟩ => by simp at ho)⟩, fun g' hg => ?_⟩
 refine Rep.seen (fr := true) (n := 0) (s := pV ps cs0) (g := kY (addN J' M) β' κ' cs0.length) (g' := g') (fun o c ho => hO2.at_ o c ho) ⟨fun e => (by cases e), fun _ => ⟨fun b hb => ?_, fun o ho _ => ?_⟩⟩ fuel _ _ _ hrep h3
 ·rcases hb with ⟨h6, _⟩ | ⟨_, h6⟩
  ·cases h6
  ·exact hg b (hM b h6).1 (hM b h6).2
 ·obtain ⟨c, hc⟩ := Option.isSome_iff_exists.1 ho
  have hlt := (List.getElem?_eq_some_iff.1 hc).1
  exact hg _ (hnew o (Nat.zero_le _) hlt) (hO2.lt o hlt).1
theorem nH.io {P : Program} {f : Nat} {Ψ : ahb} (h : nH P f Ψ) : dM P f fun ps cs => if cs = [] then Ψ ps else none := h
section
variable {P : Program} {Γ : Ctx}
theorem aaX (hm : P.follows .mixedOrders = true) {f : Nat} {fn : Func} {c : Code} {Ψ : ahb} (hΓ : aA P Γ) (hf : P.funcs[f]? = some fn) (hb : fn.body = some c) (N : Nat) (hN : fn.ntmps = N) (rs : List ResultVar) (hrs : fn.results.toList = rs) (hc : codeOk Γ true N c = true)
  (h : ∀ ps r cs', Ψ ps = some (r, cs') → ps.length ≤ N ∧ pq P Γ N c (gV P rs 0 r cs') (eO ps).tm lH 0) : nH P f Ψ := by
 refine z8 hm hΓ hf hb N hN rs hrs hc fun ps cs r cs' hr => ?_
 split at hr
 ·rename_i hcs
  exact ⟨hcs, h ps r cs' hr⟩
 ·cases hr
end
section
variable {α β γ δ ρ : Type} {A : Dec α} {B : Dec β} {C : Dec γ} {D : Dec δ} {ps : List PV} {r : ρ}
def G1 (A : Dec α) (F : α → Option ρ) (ps : List PV) : Option ρ := match ps with | [p] => (A.d p).bind F | _ => none
def G4 (A : Dec α) (B : Dec β) (C : Dec γ) (D : Dec δ) (F : α → β → γ → δ → Option ρ) (ps : List PV) : Option ρ := match ps with | [p, q, r, s] => (A.d p).bind fun a => (B.d q).bind fun b => (C.d r).bind fun c => (D.d s).bind fun d => F a b c d | _ => none
theorem ahU {F : α → Option ρ} (h : G1 A F ps = some r) : ∃ a, ps = [A.e a] ∧ F a = some r := by
 unfold G1 at h
 split at h
 ·rw [Option.bind_eq_some_iff] at h
  obtain ⟨a, h1, h2⟩ := h
  exact ⟨a, by rw [A.h _ _ h1], h2⟩
 ·cases h
theorem abe {F : α → β → γ → δ → Option ρ} (h : G4 A B C D F ps = some r) : ∃ a b c d, ps = [A.e a, B.e b, C.e c, D.e d] ∧ F a b c d = some r := by
 unfold G4 at h
 split at h
 ·simp only [Option.bind_eq_some_iff] at h
  obtain ⟨a, h1, b, h2, c, h3, d, h4, h5⟩ := h
  exact ⟨a, b, c, d, by rw [A.h _ _ h1, B.h _ _ h2, C.h _ _ h3, D.h _ _ h4], h5⟩
 ·cases h
theorem ak6 {F : α → Option ρ} (a : α) : G1 A F [A.e a] = F a := by simp [G1, A.h']
theorem aqk {F : α → β → γ → δ → Option ρ} (a : α) (b : β) (c : γ) (d : δ) : G4 A B C D F [A.e a, B.e b, C.e c, D.e d] = F a b c d := by simp [G4, A.h', B.h', C.h', D.h']
end
def nC (T sz : Nat) (es : List PV) : List aV := match es with | [] => [] | _ :: _ => [(T, sz, es)]
theorem anC {T sz : Nat} : nC T sz [] = [] := rfl
theorem aeo {T sz : Nat} {es : List PV} (h : 0 < es.length) : nC T sz es = [(T, sz, es)] := by
 cases es with
 | nil => simp at h
 | cons e es => rfl
section
variable {Ψ : ahb} {α : Type} {g : α → Value} {l : List α} {T sz : Nat}
theorem ku {ps : List PV} {cs0 : List aV} {r r1 : PV} (h2 : Ψ ps = some (r, cs0)) (h3 : reify true 0 (fun o => cs0[o]?) fuel r = some r1) : aaP Ψ ps = some r1 := by
 unfold aaP
 rw [h2, Option.bind_some, h3]
theorem za {nm : Nat → Nat} : ∀ {f : Nat} {p : PV}, fO f p = true → oU nm f p = some p
 | 0, _, h => by simp [fO] at h
 | f + 1, p, h => by
  cases p with
  | val v => rfl
  | dead => rfl
  | agg cs =>
   have h2 : ∀ c ∈ cs, fO f c = true := by simpa [fO] using h
   simp only [Proofs.YtngcedklbinhjaaGreatDoor.oU]
   rw [eH fun c hc => za (h2 c hc)]
   rfl
  | _ => simp [fO] at h
theorem aeN {β : Type} {nm : Nat → Nat} {f : Nat} {g : β → PV} {l : List β} (h : ∀ x, fO 2 (g x) = true) : (l.map g).mapM (oU nm (f + 2)) = some (l.map g) :=
 eH fun e he => by obtain ⟨x, _, rfl⟩ := List.mem_map.1 he; exact za (jR (by omega) (h x))
theorem af8 {nm : Nat → Nat} : ae1 nm fuel (T, sz, l.map fun x => PV.val (g x)) = some (T, sz, l.map fun x => PV.val (g x)) := by
 unfold ae1
 show ((l.map fun x => PV.val (g x)).mapM (oU nm (6 + 2))).map _ = _
 rw [aeN fun _ => rfl]
 rfl
theorem aow {ob : aF} {nx o T T2 sz sz2 : Nat} {es es2 : List PV} {r : PV} : ioR [o] ob nx (some (r, [(T, sz, es), (T2, sz2, es2)])) = (dJ (jy [o] nx) fuel r).bind fun r' => (es.mapM (dJ (jy [o] nx) fuel)).bind fun es' => (es2.mapM (dJ (jy [o] nx) fuel)).map fun es2' => (r', upd (upd ob o (some (T, sz, es'))) nx (some (T2, sz2, es2')), nx + 1) := by
 unfold ioR
 simp only [mapM_cons', mapM_nil', aaL]
 cases dJ (jy [o] nx) fuel r with
 | none => rfl
 | some r' =>
  cases es.mapM (dJ (jy [o] nx) fuel) with
  | none => rfl
  | some es' =>
   cases es2.mapM (dJ (jy [o] nx) fuel) with
   | none => rfl
   | some es2' => 
    simp only [Option.map_some, Option.bind_some, List.length_cons, List.length_nil, Nat.zero_add, Nat.reduceAdd, Nat.reduceSub, Option.some.injEq, Prod.mk.injEq, true_and, and_true]
    show iH ob [(kD [o] nx 0, _), (kD [o] nx 1, _)] = _
    simp only [iH, kD, List.length_cons, List.length_nil, Nat.zero_add, Nat.lt_one_iff, if_true, Nat.one_ne_zero, if_false, Nat.sub_self, Nat.add_zero, List.getD_cons_zero]
end
theorem aiy {nm : Nat → Option Nat} {l : List PV} : l.mapM (dJ nm fuel) = l.mapM (dJ nm 8) := rfl
attribute [push_cast]
 aow aiy
section
variable {P : Program} {Γ : Ctx}
end
section
variable {P : Program} {tm : Nat → PV} {ob : aF} {nx : Nat} {rs : List ResultVar} {r : PV} {c' : aV} {x : X} {R : PV → List aV → Prop}
end
end Go.Proofs.YtngcedklbinhjaaGreatDoor
namespace Go.Proofs.YtngcedklbinhjaaGreatDoor
open Go.RowKit
set_option linter.unusedVariables false
def inB (n a b : Int) : Bool := decide (a ≤ n) && decide (n ≤ b)
theorem aj {n a b : Int} : inB n a b = true ↔ a ≤ n ∧ n ≤ b := by simp [inB]
theorem abQ {a w w' : World} (h : Below a.heap.size a w) (k : Below w.heap.size w w') : Below a.heap.size a w' :=
 h.trans (k.mono h.size)
theorem vG {a w : World} {o : Obj} (h : Below a.heap.size a w) : Below a.heap.size a (w.alloc o) := h.alloc h.size o
def pK (w : World) (b : Nat) (cs : Array Value) (T : Nat) : Prop := w.heap[b]? = some (.cells cs T (0, 0))
theorem pK.facts {w : World} {b : Nat} {cs : Array Value} {T : Nat} (h : pK w b cs T) : (∀ j, w.cell? ⟨b, j, none⟩ = cs[j]?) ∧ (∀ j, w.frozen? ⟨b, j, none⟩ = false) ∧ b < w.heap.size := by
 unfold pK at h
 exact ⟨fun j => by simp [World.cell?, h], fun j => by simp [World.frozen?, h], (Array.getElem?_eq_some_iff.1 h).1⟩
theorem pK.lt {w : World} {b : Nat} {cs : Array Value} {T : Nat} (h : pK w b cs T) : b < w.heap.size := h.facts.2.2
theorem pK.new (w : World) (cs : Array Value) (T : Nat) : pK (w.alloc (.cells cs T)) w.heap.size cs T := heap_alloc_new w _
theorem pK.grown {w w' : World} {b : Nat} {cs : Array Value} {T : Nat} (h : pK w b cs T) {r : Option Nat} (hg : w.grownBy w' r) (hr : some b ≠ r) : pK w' b cs T := by
 unfold pK; rw [hg.block b h.lt hr]; exact h
theorem pK.below {w w' : World} {b : Nat} {cs : Array Value} {T : Nat} (h : pK w b cs T) (hb : Below w.heap.size w w') : pK w' b cs T := by
 unfold pK; rw [hb.block b h.lt]; exact h
theorem pK.alloc {w : World} {b : Nat} {cs : Array Value} {T : Nat} (h : pK w b cs T) (o : Obj) : pK (w.alloc o) b cs T :=
 h.below ((Below.refl _ _).alloc (Nat.le_refl _) o)
theorem pK.drew {w : World} {b : Nat} {cs : Array Value} {T : Nat} (h : pK w b cs T) : pK w.drew b cs T := h
theorem pK.other {w : World} {b : Nat} {cs : Array Value} {T : Nat} (h : pK w b cs T) {a : Addr} (ha : b ≠ a.block) (u : Value) : pK (w.setCell a u) b cs T := by
 unfold pK; rw [Below.heap_setCell _ _ _ _ ha]; exact h
theorem pK.set {w : World} {b : Nat} {cs : Array Value} {T : Nat} (h : pK w b cs T) (j : Nat) (u : Value) : pK (w.setCell ⟨b, j, none⟩ u) b (cs.setIfInBounds j u) T := by
 unfold pK at *; simp [World.setCell, Array.getElem?_modify, h]
def Sl (w : World) (k : Nat) (v : Value) (n : Nat) (cs : List Value) : Prop :=
 ∃ a cap b off, v = .slice a n cap ∧ cs.length = n * k ∧ n ≤ cap ∧ cap ≤ maxLen ∧ (0 < n → a = some ⟨b, off, none⟩) ∧ ∀ i, i < n * k → w.cell? ⟨b, off + i, none⟩ = cs[i]?
theorem Sl.below {w w' : World} {k : Nat} {v : Value} {n : Nat} {cs : List Value} (h : Sl w k v n cs) (hb : Below w.heap.size w w') : Sl w' k v n cs := by
 obtain ⟨a, cap, b, off, h1, h2, h3, h4, h5, h6⟩ := h
 refine ⟨a, cap, b, off, h1, h2, h3, h4, h5, fun i hi => ?_⟩
 have hc := h6 i hi
 have hs : cs[i]? = some (cs[i]'(by omega)) := List.getElem?_eq_getElem _
 rw [hs] at hc ⊢
 rw [hb.cell (p := ⟨b, off + i, none⟩) (World.block_lt_of_cell? w _ hc)]
 exact hc
theorem Sl.grown {w w' : World} {k : Nat} {v : Value} {n : Nat} {cs : List Value} {r : Option Nat} (h : Sl w k v n cs) (hb : w.grownBy w' r) (hne : 0 < n → v.ownBlock ≠ r) : Sl w' k v n cs := by
 obtain ⟨a, cap, b, off, h1, h2, h3, h4, h5, h6⟩ := h
 refine ⟨a, cap, b, off, h1, h2, h3, h4, h5, fun i hi => ?_⟩
 have hc := h6 i hi
 have hn : 0 < n := by
  rcases Nat.eq_zero_or_pos n with h0 | h0
  ·simp [h0] at hi
  ·exact h0
 have hs : cs[i]? = some (cs[i]'(by omega)) := List.getElem?_eq_getElem _
 rw [hs] at hc ⊢
 refine hb.cell hc ?_
 have := hne hn
 rw [h1, h5 hn] at this
 simpa [Value.ownBlock] using this
end Go.Proofs.YtngcedklbinhjaaGreatDoor
namespace Go.Proofs.YtngcedklbinhjaaGreatDoor
open Go.RowKit
set_option linter.unusedVariables false
structure agS (w : World) (a : Option Addr) (n cap : Nat) (zs : List Int) : Prop where
 len : zs.length = n
 le_cap : n ≤ cap
 cap_max : cap ≤ 9223372036854775807
 rng : ∀ i : Nat, -9223372036854775808 ≤ zs[i]?.getD 0 ∧ zs[i]?.getD 0 ≤ 9223372036854775807
 at_ : 0 < n → ∃ b off, a = some ⟨b, off, none⟩ ∧ ∀ i : Nat, i < n → w.cell? ⟨b, off + i, none⟩ = some (.int .i64 (zs[i]?.getD 0))
theorem agS.below {w w' : World} {a : Option Addr} {n cap : Nat} {zs : List Int} (h : agS w a n cap zs) (hb : Below w.heap.size w w') : agS w' a n cap zs :=
 ⟨h.len, h.le_cap, h.cap_max, h.rng, fun h0 => by
  obtain ⟨b, off, rfl, hc⟩ := h.at_ h0
  exact ⟨b, off, rfl, fun i hi => (hb.cell (World.block_lt_of_cell? w _ (hc i hi))).trans (hc i hi)⟩⟩
structure ajJ (w : World) (a : Option Addr) (n cap : Nat) (ss : List ByteArray) : Prop where
 len : ss.length = n
 le_cap : n ≤ cap
 cap_max : cap ≤ 9223372036854775807
 rng : ∀ i : Nat, (ss[i]?.getD ByteArray.empty).size ≤ 9223372036854775807
 at_ : 0 < n → ∃ b off, a = some ⟨b, off, none⟩ ∧ ∀ i : Nat, i < n → w.cell? ⟨b, off + i, none⟩ = some (.string (ss[i]?.getD ByteArray.empty))
theorem ajJ.below {w w' : World} {a : Option Addr} {n cap : Nat} {ss : List ByteArray} (h : ajJ w a n cap ss) (hb : Below w.heap.size w w') : ajJ w' a n cap ss :=
 ⟨h.len, h.le_cap, h.cap_max, h.rng, fun h0 => by
  obtain ⟨b, off, rfl, hc⟩ := h.at_ h0
  exact ⟨b, off, rfl, fun i hi => (hb.cell (World.block_lt_of_cell? w _ (hc i hi))).trans (hc i hi)⟩⟩
end Go.Proofs.YtngcedklbinhjaaGreatDoor
namespace Go.Proofs.YtngcedklbinhjaaGreatDoor
open Go.RowKit
set_option linter.all false
noncomputable def GE : Ctx := { fn := fun f => none, io := fun f => none }
theorem jQ : aA Tryz.prog GE := ⟨(fun f φ h => by
 unfold GE at h
 dsimp only at h
 cases h), (fun f φ h => by
 unfold GE at h
 dsimp only at h
 cases h), rfl⟩
def φIn : Fun := F3 dI dI dI fun n a b => some (bv (inB n a b))
theorem dR (n a b : Int) : φIn [.val (.int .i64 n), .val (.int .i64 a), .val (.int .i64 b)] = some (.val (.bool (inB n a b))) := rfl
theorem jK : Sound Tryz.prog 51 φIn := by
 refine ay mixed jQ Tryz.func51 rfl 15 rfl [.tmp 6] rfl (by kernel_rfl) fun ps r hr => ?_
 obtain ⟨n, a, b, rfl, hr⟩ := jq hr
 cases hr
 refine ⟨by simp, ?_⟩
 simp only [dIs, dUs, dSs, eX, fq, eT, fE, bS, fA, bO, bP, bR, bQ]
 repeat' (first | (with_reducible first | apply bF | apply av | apply aO | apply aJ | apply bC | apply dY | apply bA | apply bH | apply d9 | apply bE | apply bJ | apply dX | apply bI | apply bG | apply bD) | ((with_reducible apply au); (simp only [List.map_cons, List.map_nil] <;> exact rfl)) | ((with_reducible apply aI); (simp only [List.map_cons, List.map_nil] <;> exact rfl); decide +kernel) | ((with_reducible apply bB); rfl) | ((first | ((with_reducible apply i_V); rfl; rfl; rfl) | ((first | ((with_reducible apply i_E); rfl) | ((with_reducible apply i_S); rfl)); first | rfl | (simp only [push_cast, ↓reduceIte])) | ((with_reducible apply dW); rfl; rfl) | ((with_reducible apply dZ); rfl; rfl; rfl) | (with_reducible first | apply dV | apply aL)); (simp (disch := (first | omega | (simp only [push_cast]; first | done | omega))) only [push_cast, ↓reduceIte, Nat.reduceEqDiff, Nat.reduceBEq, Nat.reduceAdd, Nat.reduceSub, Int.reduceToNat, *] <;> with_reducible exact rfl); all_goals try (first | (with_reducible first | refine hyT ?_ | refine hyF ?_ | exact hyA | exact hyB) | (intro hX; first | (cases hX; done) | ((try simp only [decide_eq_true_eq, decide_eq_false_iff_not, Bool.not_eq_true', Bool.not_eq_false'] at hX); (try have hXb := aj.1 hX))))))
 all_goals ((first | apply dw | apply bK); simp (disch := (first | omega | (simp only [push_cast]; first | done | omega))) only [push_cast, ↓reduceIte, Nat.reduceEqDiff, Nat.reduceBEq, Nat.reduceAdd, Nat.reduceSub, Int.reduceToNat, *])
 all_goals (first | (simp_all [inB]; done) | (simp_all [inB]; omega))
theorem vU : Sound Tryz.prog 60 φIn := by
 refine ay mixed jQ Tryz.func60 rfl 15 rfl [.tmp 6] rfl (by kernel_rfl) fun ps r hr => ?_
 obtain ⟨n, a, b, rfl, hr⟩ := jq hr
 cases hr
 refine ⟨by simp, ?_⟩
 simp only [dIs, dUs, dSs, eX, fq, eT, fE, bS, fA, bO, bP, bR, bQ]
 repeat' (first | (with_reducible first | apply bF | apply av | apply aO | apply aJ | apply bC | apply dY | apply bA | apply bH | apply d9 | apply bE | apply bJ | apply dX | apply bI | apply bG | apply bD) | ((with_reducible apply au); (simp only [List.map_cons, List.map_nil] <;> exact rfl)) | ((with_reducible apply aI); (simp only [List.map_cons, List.map_nil] <;> exact rfl); decide +kernel) | ((with_reducible apply bB); rfl) | ((first | ((with_reducible apply i_V); rfl; rfl; rfl) | ((first | ((with_reducible apply i_E); rfl) | ((with_reducible apply i_S); rfl)); first | rfl | (simp only [push_cast, ↓reduceIte])) | ((with_reducible apply dW); rfl; rfl) | ((with_reducible apply dZ); rfl; rfl; rfl) | (with_reducible first | apply dV | apply aL)); (simp (disch := (first | omega | (simp only [push_cast]; first | done | omega))) only [push_cast, ↓reduceIte, Nat.reduceEqDiff, Nat.reduceBEq, Nat.reduceAdd, Nat.reduceSub, Int.reduceToNat, *] <;> with_reducible exact rfl); all_goals try (first | (with_reducible first | refine hyT ?_ | refine hyF ?_ | exact hyA | exact hyB) | (intro hX; first | (cases hX; done) | ((try simp only [decide_eq_true_eq, decide_eq_false_iff_not, Bool.not_eq_true', Bool.not_eq_false'] at hX); (try have hXb := aj.1 hX))))))
 all_goals ((first | apply dw | apply bK); simp (disch := (first | omega | (simp only [push_cast]; first | done | omega))) only [push_cast, ↓reduceIte, Nat.reduceEqDiff, Nat.reduceBEq, Nat.reduceAdd, Nat.reduceSub, Int.reduceToNat, *])
 all_goals (first | (simp_all [inB]; done) | (simp_all [inB]; omega))
end Go.Proofs.YtngcedklbinhjaaGreatDoor
namespace Go.Proofs.YtngcedklbinhjaaGreatDoor
open Go.RowKit
set_option linter.all false
def eB (s : ByteArray) : Bool := (List.range s.size).all (fun k => inB (at8 s k) 97 122) && inB s.size 1 20
theorem ady {s : ByteArray} {k : Nat} (h : k < s.size) (hb : ¬ (97 ≤ at8 s k ∧ at8 s k ≤ 122)) : eB s = false := by
 unfold eB
 have : (List.range s.size).all (fun k => inB (at8 s k) 97 122) = false := by
  rw [List.all_eq_false]
  exact ⟨k, List.mem_range.2 h, by rw [aj]; exact hb⟩
 rw [this]
 rfl
theorem tu {s : ByteArray} (h : ∀ j, j < s.size → 97 ≤ at8 s j ∧ at8 s j ≤ 122) : eB s = inB s.size 1 20 := by
 unfold eB
 have : (List.range s.size).all (fun k => inB (at8 s k) 97 122) = true := by
  rw [List.all_eq_true]
  intro k hk
  exact aj.2 (h k (List.mem_range.1 hk))
 rw [this]
 rfl
def fF : Fun := F1 dS fun s => if s.size ≤ 1099511627776 then some (bv (eB s)) else none
theorem iG {s : ByteArray} (h : s.size ≤ 1099511627776) : fF [.val (.string s)] = some (.val (.bool (eB s))) :=
 (jM (A := dS) s).trans (if_pos h)
def jr : Fun := F1 dU fun n => some (bv (inB n 97 122))
theorem qK (n : Int) : jr [.val (.int .u8 n)] = some (.val (.bool (inB n 97 122))) := rfl
theorem ql : Sound Tryz.prog 93 jr := by
 refine ay mixed jQ Tryz.func93 rfl 9 rfl [.tmp 2] rfl (by kernel_rfl) fun ps r hr => ?_
 obtain ⟨n, rfl, hr⟩ := bY hr
 cases hr
 refine ⟨by simp, ?_⟩
 simp only [dIs, dUs, dSs, eX, fq, eT, fE, bS, fA, bO, bP, bR, bQ]
 repeat' (first | (with_reducible first | apply bF | apply av | apply aO | apply aJ | apply bC | apply dY | apply bA | apply bH | apply d9 | apply bE | apply bJ | apply dX | apply bI | apply bG | apply bD) | ((with_reducible apply au); (simp only [List.map_cons, List.map_nil] <;> exact rfl)) | ((with_reducible apply aI); (simp only [List.map_cons, List.map_nil] <;> exact rfl); decide +kernel) | ((with_reducible apply bB); rfl) | ((first | ((with_reducible apply i_V); rfl; rfl; rfl) | ((first | ((with_reducible apply i_E); rfl) | ((with_reducible apply i_S); rfl)); first | rfl | (simp only [push_cast, ↓reduceIte])) | ((with_reducible apply dW); rfl; rfl) | ((with_reducible apply dZ); rfl; rfl; rfl) | (with_reducible first | apply dV | apply aL)); (simp (disch := (first | omega | (simp only [push_cast]; first | done | omega))) only [push_cast, ↓reduceIte, Nat.reduceEqDiff, Nat.reduceBEq, Nat.reduceAdd, Nat.reduceSub, Int.reduceToNat, *] <;> with_reducible exact rfl); all_goals try (first | (with_reducible first | refine hyT ?_ | refine hyF ?_ | exact hyA | exact hyB) | (intro hX; first | (cases hX; done) | ((try simp only [decide_eq_true_eq, decide_eq_false_iff_not, Bool.not_eq_true', Bool.not_eq_false'] at hX); (try have hXb := aj.1 hX))))))
 all_goals ((first | apply dw | apply bK); simp (disch := (first | omega | (simp only [push_cast]; first | done | omega))) only [push_cast, ↓reduceIte, Nat.reduceEqDiff, Nat.reduceBEq, Nat.reduceAdd, Nat.reduceSub, Int.reduceToNat, *])
 all_goals (first | (simp_all [inB]; done) | (simp_all [inB]; omega))
noncomputable def GWv : Ctx := { fn := fun f => if f = 93 then some jr else if f = 60 then some φIn else none, io := fun f => none }
theorem axj : aA Tryz.prog GWv := ⟨(fun f φ h => by
 unfold GWv at h
 dsimp only at h
 split at h
 ·rename_i hf; cases h; subst hf; exact ⟨⟨_, Tryz.func93, rfl, rfl⟩, ql⟩
 split at h
 ·rename_i hf; cases h; subst hf; exact ⟨⟨_, Tryz.func60, rfl, rfl⟩, vU⟩
 cases h), (fun f φ h => by
 unfold GWv at h
 dsimp only at h
 cases h), rfl⟩
theorem ayo (ob : aF) (ps : List PV) : ah GWv ob 93 ps = (ps.mapM (reify false 0 ob fuel)).bind jr := by
 have h : GWv.fn 93 = some jr := by simp [GWv]
 unfold ah
 rw [h]
 cases ps.mapM (reify false 0 ob fuel) <;> rfl
theorem awu (ob : aF) (ps : List PV) : ah GWv ob 60 ps = (ps.mapM (reify false 0 ob fuel)).bind φIn := by
 have h : GWv.fn 60 = some φIn := by simp [GWv]
 unfold ah
 rw [h]
 cases ps.mapM (reify false 0 ob fuel) <;> rfl
set_option maxHeartbeats 4000000 in
theorem gM : Sound Tryz.prog 67 fF := by
 refine ay mixed axj Tryz.func67 rfl 18 rfl [.tmp 2] rfl (by kernel_rfl) fun ps r hr => ?_
 obtain ⟨s, rfl, hq⟩ := bY hr
 clear hr
 split at hq
 case isFalse => cases hq
 case isTrue hlen =>
 cases hq
 refine ⟨by simp, ?_⟩
 simp only [dIs, dUs, dSs, eX, fq, eT, fE, bS, fA, bO, bP, bR, bQ]
 have gwv_c93 := ayo; have gwv_c60 := awu; have ap := qK; have ap2 := dR
 repeat' (first | (with_reducible first | apply bF | apply av | apply aO | apply aJ | apply bC | apply dY | apply bA | apply bH | apply d9 | apply bE | apply bJ | apply dX | apply bI | apply bG | apply bD) | ((with_reducible apply au); (simp only [List.map_cons, List.map_nil] <;> exact rfl)) | ((with_reducible apply aI); (simp only [List.map_cons, List.map_nil] <;> exact rfl); decide +kernel) | ((with_reducible apply bB); rfl) | ((first | ((with_reducible apply i_V); rfl; rfl; rfl) | ((first | ((with_reducible apply i_E); rfl) | ((with_reducible apply i_S); rfl)); first | rfl | (simp only [push_cast, ↓reduceIte])) | ((with_reducible apply dW); rfl; rfl) | ((with_reducible apply dZ); rfl; rfl; rfl) | (with_reducible first | apply dV | apply aL)); (simp (disch := (first | omega | (simp only [push_cast]; first | done | omega))) only [push_cast, ↓reduceIte, Nat.reduceEqDiff, Nat.reduceBEq, Nat.reduceAdd, Nat.reduceSub, Int.reduceToNat, *] <;> with_reducible exact rfl); all_goals try (first | (with_reducible first | refine hyT ?_ | refine hyF ?_ | exact hyA | exact hyB) | (intro hX; first | (cases hX; done) | ((try simp only [decide_eq_true_eq, decide_eq_false_iff_not, Bool.not_eq_true', Bool.not_eq_false'] at hX); (try have hXb := aj.1 hX))))))
 refine aT (α := Nat) mixed (fun k => [(0, sv s), (5, iv s.size), (6, iv k)]) (fun _ => []) (fun _ => 0)
  (fun k => k ≤ s.size ∧ ∀ j, j < k → 97 ≤ at8 s j ∧ at8 s j ≤ 122) (fun k => s.size - k) (by kernel_rfl) 0 ⟨Nat.zero_le _, fun j hj => by omega⟩ ?_ trivial rfl ?_
 ·simp only [push_cast, ↓reduceIte, Nat.reduceEqDiff, Nat.reduceBEq, Nat.reduceAdd, Nat.reduceSub, Int.reduceToNat]
 ·intro k ⟨hk, hok⟩
  have hrk := iM s k
  repeat' (first | (with_reducible first | apply bF | apply av | apply aO | apply aJ | apply bC | apply dY | apply bA | apply bH | apply d9 | apply bE | apply bJ | apply dX | apply bI | apply bG | apply bD) | ((with_reducible apply au); (simp only [List.map_cons, List.map_nil] <;> exact rfl)) | ((with_reducible apply aI); (simp only [List.map_cons, List.map_nil] <;> exact rfl); decide +kernel) | ((with_reducible apply bB); rfl) | ((first | ((with_reducible apply i_V); rfl; rfl; rfl) | ((first | ((with_reducible apply i_E); rfl) | ((with_reducible apply i_S); rfl)); first | rfl | (simp only [push_cast, ↓reduceIte])) | ((with_reducible apply dW); rfl; rfl) | ((with_reducible apply dZ); rfl; rfl; rfl) | (with_reducible first | apply dV | apply aL)); (simp (disch := (first | omega | (simp only [push_cast]; first | done | omega))) only [push_cast, ↓reduceIte, Nat.reduceEqDiff, Nat.reduceBEq, Nat.reduceAdd, Nat.reduceSub, Int.reduceToNat, *] <;> with_reducible exact rfl); all_goals try (first | (with_reducible first | refine hyT ?_ | refine hyF ?_ | exact hyA | exact hyB) | (intro hX; first | (cases hX; done) | ((try simp only [decide_eq_true_eq, decide_eq_false_iff_not, Bool.not_eq_true', Bool.not_eq_false'] at hX); (try have hXb := aj.1 hX))))))
  all_goals try ((first | apply dw | apply bK); simp (disch := (first | omega | (simp only [push_cast]; first | done | omega))) only [push_cast, ↓reduceIte, Nat.reduceEqDiff, Nat.reduceBEq, Nat.reduceAdd, Nat.reduceSub, Int.reduceToNat, *])
  ·rw [ady (s := s) (k := k) (by omega) (by (simp_all [inB]; try omega))]
  ·refine ⟨k + 1, ⟨by omega, fun j hj => ?_⟩, by dsimp only; omega, by simp only [push_cast, ↓reduceIte, Nat.reduceEqDiff, Nat.reduceBEq, Nat.reduceAdd, Nat.reduceSub, Int.reduceToNat], trivial, rfl⟩
   by_cases h1 : j < k
   ·exact hok j h1
   ·have : j = k := by omega
    subst this
    simp_all [inB]
  ·rw [tu fun j hj => hok j (by omega)]
noncomputable def GWs : Ctx := { fn := fun f => if f = 51 then some φIn else none, io := fun f => none }
theorem ayq : aA Tryz.prog GWs := ⟨(fun f φ h => by
 unfold GWs at h
 dsimp only at h
 split at h
 ·rename_i hf; cases h; subst hf; exact ⟨⟨_, Tryz.func51, rfl, rfl⟩, jK⟩
 cases h), (fun f φ h => by
 unfold GWs at h
 dsimp only at h
 cases h), rfl⟩
theorem atD (ob : aF) (ps : List PV) : ah GWs ob 51 ps = (ps.mapM (reify false 0 ob fuel)).bind φIn := by
 have h : GWs.fn 51 = some φIn := by simp [GWs]
 unfold ah
 rw [h]
 cases ps.mapM (reify false 0 ob fuel) <;> rfl
set_option maxHeartbeats 4000000 in
theorem gN : Sound Tryz.prog 58 fF := by
 refine ay mixed ayq Tryz.func58 rfl 23 rfl [.tmp 2] rfl (by kernel_rfl) fun ps r hr => ?_
 obtain ⟨s, rfl, hq⟩ := bY hr
 clear hr
 split at hq
 case isFalse => cases hq
 case isTrue hlen =>
 cases hq
 refine ⟨by simp, ?_⟩
 simp only [dIs, dUs, dSs, eX, fq, eT, fE, bS, fA, bO, bP, bR, bQ]
 have gws_c51 := atD; have ap2 := dR
 (refine wlkX ?_; intros)
 refine aT (α := Nat) mixed (fun k => [(0, sv s), (3, iv k)]) (fun _ => []) (fun _ => 0)
  (fun k => k ≤ s.size ∧ ∀ j, j < k → 97 ≤ at8 s j ∧ at8 s j ≤ 122) (fun k => s.size - k) (by kernel_rfl) 0 ⟨Nat.zero_le _, fun j hj => by omega⟩ ?_ trivial rfl ?_
 ·simp only [push_cast, ↓reduceIte, Nat.reduceEqDiff, Nat.reduceBEq, Nat.reduceAdd, Nat.reduceSub, Int.reduceToNat]
 ·intro k ⟨hk, hok⟩
  have hrk := iM s k
  repeat' (first | (with_reducible first | apply bF | apply av | apply aO | apply aJ | apply bC | apply dY | apply bA | apply bH | apply d9 | apply bE | apply bJ | apply dX | apply bI | apply bG | apply bD) | ((with_reducible apply au); (simp only [List.map_cons, List.map_nil] <;> exact rfl)) | ((with_reducible apply aI); (simp only [List.map_cons, List.map_nil] <;> exact rfl); decide +kernel) | ((with_reducible apply bB); rfl) | ((first | ((with_reducible apply i_V); rfl; rfl; rfl) | ((first | ((with_reducible apply i_E); rfl) | ((with_reducible apply i_S); rfl)); first | rfl | (simp only [push_cast, ↓reduceIte])) | ((with_reducible apply dW); rfl; rfl) | ((with_reducible apply dZ); rfl; rfl; rfl) | (with_reducible first | apply dV | apply aL)); (simp (disch := (first | omega | (simp only [push_cast]; first | done | omega))) only [push_cast, ↓reduceIte, Nat.reduceEqDiff, Nat.reduceBEq, Nat.reduceAdd, Nat.reduceSub, Int.reduceToNat, *] <;> with_reducible exact rfl); all_goals try (first | (with_reducible first | refine hyT ?_ | refine hyF ?_ | exact hyA | exact hyB) | (intro hX; first | (cases hX; done) | ((try simp only [decide_eq_true_eq, decide_eq_false_iff_not, Bool.not_eq_true', Bool.not_eq_false'] at hX); (try have hXb := aj.1 hX))))))
  all_goals try ((first | apply dw | apply bK); simp (disch := (first | omega | (simp only [push_cast]; first | done | omega))) only [push_cast, ↓reduceIte, Nat.reduceEqDiff, Nat.reduceBEq, Nat.reduceAdd, Nat.reduceSub, Int.reduceToNat, *])
  all_goals try (rw [ady (s := s) (k := k) (by omega) (by omega)]; done)
  all_goals try (rw [tu fun j hj => hok j (by omega)]; done)
  all_goals
   refine ⟨k + 1, ⟨by omega, fun j hj => ?_⟩, by dsimp only; omega, by simp only [push_cast, ↓reduceIte, Nat.reduceEqDiff, Nat.reduceBEq, Nat.reduceAdd, Nat.reduceSub, Int.reduceToNat], trivial, rfl⟩
   by_cases h1 : j < k
   ·exact hok j h1
   ·have : j = k := by omega
    subst this
    simp_all
    try omega
end Go.Proofs.YtngcedklbinhjaaGreatDoor
