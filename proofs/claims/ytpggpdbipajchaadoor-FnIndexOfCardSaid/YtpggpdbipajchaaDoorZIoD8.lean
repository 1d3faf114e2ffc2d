/- What the proof rests on, part 8: contracts of functions. No condition beyond what each states. -/
import Derived.Test.YtpggpdbipajchaaDoorZIoD7
namespace Go.Proofs
open Go.Shelf
def YtpggpdbipajchaaDoor.lays156_ren : Go.Shelf.Ren := ⟨fun | 156 => 69 | 165 => 95 | 166 => 96 | 169 => 97 | 240 => 115 | 241 => 116 | 276 => 154 | 277 => 109 | n => n, fun | 31 => 22 | 9 => 9 | 3 => 3 | 4 => 4 | 0 => 0 | 20 => 20 | 72 => 113 | 76 => 117 | 70 => 111 | 37 => 24 | 75 => 116 | 127 => 137 | 164 => 170 | 5 => 5 | 80 => 119 | n => n, fun | n => n⟩
theorem YtpggpdbipajchaaDoor.lays156 : Go.Proofs.Lays.n156 Tryd.prog YtpggpdbipajchaaDoor.lays156_ren := {
  mixed := by kernel_rfl
  f156 := Tryd.func69.trans (congrArg some (by kernel_rfl))
  f165 := Tryd.func95.trans (congrArg some (by kernel_rfl))
  f166 := Tryd.func96.trans (congrArg some (by kernel_rfl))
  f169 := Tryd.func97.trans (congrArg some (by kernel_rfl))
  f240 := Tryd.func115.trans (congrArg some (by kernel_rfl))
  f241 := Tryd.func116.trans (congrArg some (by kernel_rfl))
  f276 := Tryd.func154.trans (congrArg some (by kernel_rfl))
  f277 := Tryd.func109.trans (congrArg some (by kernel_rfl))
  t0 := Tryd.underlying0
  a0 := Tryd.isAgg0
  z0 := Tryd.sizeOf0
  v0 := Tryd.zeroValue0
  t3 := Tryd.underlying3
  a3 := Tryd.isAgg3
  z3 := Tryd.sizeOf3
  v3 := Tryd.zeroValue3
  t4 := Tryd.underlying4
  a4 := Tryd.isAgg4
  z4 := Tryd.sizeOf4
  v4 := Tryd.zeroValue4
  t9 := Tryd.underlying9
  a9 := Tryd.isAgg9
  z9 := Tryd.sizeOf9
  v9 := Tryd.zeroValue9
  t20 := Tryd.underlying20
  a20 := Tryd.isAgg20
  z20 := Tryd.sizeOf20
  v20 := Tryd.zeroValue20
  t31 := Tryd.underlying22
  a31 := Tryd.isAgg22
  z31 := Tryd.sizeOf22
  v31 := Tryd.zeroValue22
  t37 := Tryd.underlying24
  a37 := Tryd.isAgg24
  z37 := Tryd.sizeOf24
  v37 := Tryd.zeroValue24
  t70 := Tryd.underlying111
  a70 := Tryd.isAgg111
  z70 := Tryd.sizeOf111
  v70 := Tryd.zeroValue111
  t72 := Tryd.underlying113
  a72 := Tryd.isAgg113
  z72 := Tryd.sizeOf113
  v72 := Tryd.zeroValue113
  t75 := Tryd.underlying116
  a75 := Tryd.isAgg116
  z75 := Tryd.sizeOf116
  v75 := Tryd.zeroValue116
  t76 := Tryd.underlying117
  a76 := Tryd.isAgg117
  z76 := Tryd.sizeOf117
  v76 := Tryd.zeroValue117
  t127 := Tryd.underlying137
  a127 := Tryd.isAgg137
  z127 := Tryd.sizeOf137
  v127 := Tryd.zeroValue137
  t164 := Tryd.underlying170
  a164 := Tryd.isAgg170
  z164 := Tryd.sizeOf170
  v164 := Tryd.zeroValue170 }
theorem YtpggpdbipajchaaDoor.Builder_Extra_156 : Builder.Extra Tryd.prog YtpggpdbipajchaaDoor.lays156_ren := {
  sizeBuilder := by kernel_rfl
  liesBuilder := by kernel_rfl
  t5 := Tryd.underlying5
  a5 := Tryd.isAgg5
  z5 := Tryd.sizeOf5
  v5 := Tryd.zeroValue5
  infoByte := by kernel_rfl
  cellsByte := by kernel_rfl
  sizeByte := by kernel_rfl
  neB5 := by decide }
open Go.RowKit in
theorem YtpggpdbipajchaaDoor.strings_Join_none (a : Option Addr) (c : Nat) (sep : ByteArray) (w : World) :
    Calls Tryd.prog 69 #[.slice a 0 c, .string sep] w fun e w' => e = .returned (.string ⟨#[]⟩) ∧ w' = w := Any.strings_Join_none YtpggpdbipajchaaDoor.lays156 YtpggpdbipajchaaDoor.Builder_Extra_156 a c sep w
open Go.RowKit in
theorem YtpggpdbipajchaaDoor.strings_Join (bk o c : Nat) (xs : List ByteArray) (sep : ByteArray) (w : World) (hcells : ∀ (j : Nat) x, xs[j]? = some x → w.cell? ⟨bk, o + j, none⟩ = some (.string x)) (hbk : bk < w.heap.size) (hN : xs.length ≤ 140737488355328) (hcap : xs.length ≤ c) (hlen : (Lib.join (xs.map (·.data.toList)) sep.data.toList).length ≤ 140737488355328) :
    Calls Tryd.prog 69 #[.slice (some ⟨bk, o, none⟩) xs.length c, .string sep] w fun e w' => e = .returned (.string ⟨(Lib.join (xs.map (·.data.toList)) sep.data.toList).toArray⟩) ∧ Below w.heap.size w w' := Any.strings_Join YtpggpdbipajchaaDoor.lays156 YtpggpdbipajchaaDoor.Builder_Extra_156 bk o c xs sep w hcells hbk hN hcap hlen
def YtpggpdbipajchaaDoor.laysM171_ren : Go.Shelf.Ren := ⟨fun | 171 => 55 | 243 => 89 | 246 => 111 | 283 => 147 | 284 => 148 | 285 => 149 | 286 => 150 | 129 => 135 | 317 => 173 | 318 => 174 | 319 => 175 | 320 => 176 | 337 => 189 | 338 => 190 | n => n, fun | 3 => 3 | 9 => 9 | 2 => 2 | 4 => 4 | 171 => 165 | 0 => 0 | 53 => 154 | 37 => 24 | 5 => 5 | 173 => 167 | 212 => 189 | 51 => 152 | 20 => 20 | 213 => 190 | 46 => 127 | 232 => 210 | 233 => 211 | n => n, fun | 17 => 1 | 18 => 6 | 19 => 7 | n => n⟩
theorem YtpggpdbipajchaaDoor.laysM171 : Go.Proofs.LaysM.n171 Tryd.prog YtpggpdbipajchaaDoor.laysM171_ren := {
  mixed := by kernel_rfl
  f129 := Tryd.func135.trans (congrArg some (by kernel_rfl))
  f171 := Tryd.func55.trans (congrArg some (by kernel_rfl))
  f243 := Tryd.func89.trans (congrArg some (by kernel_rfl))
  f246 := Tryd.func111.trans (congrArg some (by kernel_rfl))
  f283 := Tryd.func147.trans (congrArg some (by kernel_rfl))
  f284 := Tryd.func148.trans (congrArg some (by kernel_rfl))
  f285 := Tryd.func149.trans (congrArg some (by kernel_rfl))
  f286 := Tryd.func150.trans (congrArg some (by kernel_rfl))
  f317 := Tryd.func173.trans (congrArg some (by kernel_rfl))
  f318 := Tryd.func174.trans (congrArg some (by kernel_rfl))
  f319 := Tryd.func175.trans (congrArg some (by kernel_rfl))
  f320 := Tryd.func176.trans (congrArg some (by kernel_rfl))
  f337 := Tryd.func189.trans (congrArg some (by kernel_rfl))
  f338 := Tryd.func190.trans (congrArg some (by kernel_rfl))
  t0 := Tryd.underlying0
  a0 := Tryd.isAgg0
  z0 := Tryd.sizeOf0
  v0 := Tryd.zeroValue0
  t2 := Tryd.underlying2
  a2 := Tryd.isAgg2
  z2 := Tryd.sizeOf2
  v2 := Tryd.zeroValue2
  t3 := Tryd.underlying3
  a3 := Tryd.isAgg3
  z3 := Tryd.sizeOf3
  v3 := Tryd.zeroValue3
  t4 := Tryd.underlying4
  a4 := Tryd.isAgg4
  z4 := Tryd.sizeOf4
  v4 := Tryd.zeroValue4
  t5 := Tryd.underlying5
  a5 := Tryd.isAgg5
  z5 := Tryd.sizeOf5
  v5 := Tryd.zeroValue5
  t9 := Tryd.underlying9
  a9 := Tryd.isAgg9
  z9 := Tryd.sizeOf9
  v9 := Tryd.zeroValue9
  t20 := Tryd.underlying20
  a20 := Tryd.isAgg20
  z20 := Tryd.sizeOf20
  v20 := Tryd.zeroValue20
  t37 := Tryd.underlying24
  a37 := Tryd.isAgg24
  z37 := Tryd.sizeOf24
  v37 := Tryd.zeroValue24
  t46 := Tryd.underlying127
  a46 := Tryd.isAgg127
  z46 := Tryd.sizeOf127
  v46 := Tryd.zeroValue127
  t51 := Tryd.underlying152
  a51 := Tryd.isAgg152
  z51 := Tryd.sizeOf152
  v51 := Tryd.zeroValue152
  t53 := Tryd.underlying154
  a53 := Tryd.isAgg154
  z53 := Tryd.sizeOf154
  v53 := Tryd.zeroValue154
  t171 := Tryd.underlying165
  a171 := Tryd.isAgg165
  z171 := Tryd.sizeOf165
  v171 := Tryd.zeroValue165
  t173 := Tryd.underlying167
  a173 := Tryd.isAgg167
  z173 := Tryd.sizeOf167
  v173 := Tryd.zeroValue167
  t212 := Tryd.underlying189
  a212 := Tryd.isAgg189
  z212 := Tryd.sizeOf189
  v212 := Tryd.zeroValue189
  t213 := Tryd.underlying190
  a213 := Tryd.isAgg190
  z213 := Tryd.sizeOf190
  t232 := Tryd.underlying210
  a232 := Tryd.isAgg210
  z232 := Tryd.sizeOf210
  v232 := Tryd.zeroValue210
  t233 := Tryd.underlying211
  a233 := Tryd.isAgg211
  z233 := Tryd.sizeOf211
  v233 := Tryd.zeroValue211
  g17 := by kernel_rfl
  g18 := by kernel_rfl
  g19 := by kernel_rfl
  i0 := by kernel_rfl
  i2 := by kernel_rfl
  i3 := by kernel_rfl
  i4 := by kernel_rfl
  i5 := by kernel_rfl
  i9 := by kernel_rfl
  i20 := by kernel_rfl
  i37 := by kernel_rfl
  i46 := by kernel_rfl
  i51 := by kernel_rfl
  i53 := by kernel_rfl
  i171 := by kernel_rfl
  i173 := by kernel_rfl
  i212 := by kernel_rfl
  i232 := by kernel_rfl
  i233 := by kernel_rfl
  m17 := by kernel_rfl
  m18 := by kernel_rfl
  m19 := by kernel_rfl }
open Go.RowKit Go.Sort Go.Lib in
theorem YtpggpdbipajchaaDoor.strconv_Itoa (n : Int) (h0 : -9223372036854775808 ≤ n) (h1 : n ≤ 9223372036854775807) (w : World) (htab : Lib.TabIs Tryd.prog w "internal/strconv.uint64pow10" .u64 Lib.pow10Tab) :
    Calls Tryd.prog 55 #[.int .i64 n] w fun e w' => e = .returned (.string ⟨(Lib.itoa n).toArray⟩) ∧ ∃ k os, w' = grow (w.drewN k) os := Any.strconv_Itoa YtpggpdbipajchaaDoor.laysM171 n h0 h1 w htab
def YtpggpdbipajchaaDoor.laysSlN43_f80_ren : Go.Shelf.Ren := ⟨fun | 43 => 80 | n => n, fun | 22 => 40 | 23 => 3 | 3 => 3 | 4 => 4 | 0 => 0 | n => n, fun | n => n⟩
theorem YtpggpdbipajchaaDoor.laysSlN43_f80 : Go.Proofs.SlLaysN.n43 Tryd.prog YtpggpdbipajchaaDoor.laysSlN43_f80_ren := {
  mixed := by kernel_rfl
  f43 := ⟨Tryd.f80.name, by decide, Tryd.func80.trans (congrArg some (by kernel_rfl))⟩
  t0 := Tryd.underlying0
  a0 := Tryd.isAgg0
  z0 := Tryd.sizeOf0
  v0 := Tryd.zeroValue0
  t3 := Tryd.underlying3
  a3 := Tryd.isAgg3
  z3 := Tryd.sizeOf3
  v3 := Tryd.zeroValue3
  t4 := Tryd.underlying4
  a4 := Tryd.isAgg4
  z4 := Tryd.sizeOf4
  v4 := Tryd.zeroValue4
  t22 := Tryd.underlying40
  a22 := Tryd.isAgg40
  z22 := Tryd.sizeOf40
  v22 := Tryd.zeroValue40
  t23 := Tryd.underlying3
  a23 := Tryd.isAgg3
  z23 := Tryd.sizeOf3
  v23 := Tryd.zeroValue3
  i23 := by kernel_rfl }
open Go.RowKit Go.Lib Go.Sort in
theorem YtpggpdbipajchaaDoor.slices_Compact_int (blk off cap : Nat) (zs : List Int) (w : World) (hH : Holds (Value.int .i64) w blk off zs.toArray) (hsz : zs.length ≤ 9223372036854775807) (hcap : zs.length ≤ cap) :
    Calls Tryd.prog 80 #[.slice (some ⟨blk, off, none⟩) zs.length cap] w fun e w' => e = .returned (.slice (some ⟨blk, off, none⟩) (Lib.compact zs).length cap) ∧ ∃ q, w' = putRow (Value.int .i64) (Sort.ahead w q) blk off (Lib.compact zs ++ List.replicate (zs.length - (Lib.compact zs).length) 0).toArray := AnyG.slices_Compact_int YtpggpdbipajchaaDoor.laysSlN43_f80 blk off cap zs w hH hsz hcap
def YtpggpdbipajchaaDoor.laysSlM5_f79_ren : Go.Shelf.Ren := ⟨fun | 5 => 79 | 8 => 106 | 7 => 105 | 19 => 134 | 20 => 135 | 10 => 125 | 11 => 126 | 12 => 127 | 13 => 128 | 14 => 129 | 15 => 130 | 16 => 131 | 17 => 132 | 18 => 133 | 30 => 163 | 31 => 164 | 32 => 165 | 33 => 166 | 34 => 167 | 35 => 168 | 40 => 187 | n => n, fun | 23 => 40 | 25 => 3 | 3 => 3 | 32 => 127 | 22 => 40 | 0 => 0 | 44 => 152 | 46 => 154 | 4 => 4 | 36 => 144 | 35 => 143 | 41 => 149 | 5 => 5 | 9 => 9 | 53 => 180 | 57 => 184 | 63 => 198 | 64 => 87 | n => n, fun | n => n⟩
theorem YtpggpdbipajchaaDoor.laysSlM5_f79 : Go.Proofs.SlLaysM.n5 Tryd.prog YtpggpdbipajchaaDoor.laysSlM5_f79_ren := {
  mixed := by kernel_rfl
  f5 := ⟨Tryd.f79.name, by decide, Tryd.func79.trans (congrArg some (by kernel_rfl))⟩
  f7 := ⟨Tryd.f105.name, by decide, Tryd.func105.trans (congrArg some (by kernel_rfl))⟩
  f8 := Tryd.func106.trans (congrArg some (by kernel_rfl))
  f10 := ⟨Tryd.f125.name, by decide, Tryd.func125.trans (congrArg some (by kernel_rfl))⟩
  f11 := ⟨Tryd.f126.name, by decide, Tryd.func126.trans (congrArg some (by kernel_rfl))⟩
  f12 := ⟨Tryd.f127.name, by decide, Tryd.func127.trans (congrArg some (by kernel_rfl))⟩
  f13 := ⟨Tryd.f128.name, by decide, Tryd.func128.trans (congrArg some (by kernel_rfl))⟩
  f14 := ⟨Tryd.f129.name, by decide, Tryd.func129.trans (congrArg some (by kernel_rfl))⟩
  f15 := ⟨Tryd.f130.name, by decide, Tryd.func130.trans (congrArg some (by kernel_rfl))⟩
  f16 := ⟨Tryd.f131.name, by decide, Tryd.func131.trans (congrArg some (by kernel_rfl))⟩
  f17 := ⟨Tryd.f132.name, by decide, Tryd.func132.trans (congrArg some (by kernel_rfl))⟩
  f18 := ⟨Tryd.f133.name, by decide, Tryd.func133.trans (congrArg some (by kernel_rfl))⟩
  f19 := Tryd.func134.trans (congrArg some (by kernel_rfl))
  f20 := Tryd.func135.trans (congrArg some (by kernel_rfl))
  f30 := ⟨Tryd.f163.name, by decide, Tryd.func163.trans (congrArg some (by kernel_rfl))⟩
  f31 := Tryd.func164.trans (congrArg some (by kernel_rfl))
  f32 := Tryd.func165.trans (congrArg some (by kernel_rfl))
  f33 := ⟨Tryd.f166.name, by decide, Tryd.func166.trans (congrArg some (by kernel_rfl))⟩
  f34 := ⟨Tryd.f167.name, by decide, Tryd.func167.trans (congrArg some (by kernel_rfl))⟩
  f35 := ⟨Tryd.f168.name, by decide, Tryd.func168.trans (congrArg some (by kernel_rfl))⟩
  f40 := ⟨Tryd.f187.name, by decide, Tryd.func187.trans (congrArg some (by kernel_rfl))⟩
  t0 := Tryd.underlying0
  a0 := Tryd.isAgg0
  z0 := Tryd.sizeOf0
  v0 := Tryd.zeroValue0
  t3 := Tryd.underlying3
  a3 := Tryd.isAgg3
  z3 := Tryd.sizeOf3
  v3 := Tryd.zeroValue3
  t4 := Tryd.underlying4
  a4 := Tryd.isAgg4
  z4 := Tryd.sizeOf4
  v4 := Tryd.zeroValue4
  t5 := Tryd.underlying5
  a5 := Tryd.isAgg5
  z5 := Tryd.sizeOf5
  v5 := Tryd.zeroValue5
  t9 := Tryd.underlying9
  a9 := Tryd.isAgg9
  z9 := Tryd.sizeOf9
  v9 := Tryd.zeroValue9
  t22 := Tryd.underlying40
  a22 := Tryd.isAgg40
  z22 := Tryd.sizeOf40
  v22 := Tryd.zeroValue40
  t23 := Tryd.underlying40
  a23 := Tryd.isAgg40
  z23 := Tryd.sizeOf40
  v23 := Tryd.zeroValue40
  t25 := Tryd.underlying3
  a25 := Tryd.isAgg3
  z25 := Tryd.sizeOf3
  v25 := Tryd.zeroValue3
  t32 := Tryd.underlying127
  a32 := Tryd.isAgg127
  z32 := Tryd.sizeOf127
  v32 := Tryd.zeroValue127
  t35 := Tryd.underlying143
  a35 := Tryd.isAgg143
  z35 := Tryd.sizeOf143
  v35 := Tryd.zeroValue143
  t36 := Tryd.underlying144
  a36 := Tryd.isAgg144
  z36 := Tryd.sizeOf144
  v36 := Tryd.zeroValue144
  t41 := Tryd.underlying149
  a41 := Tryd.isAgg149
  z41 := Tryd.sizeOf149
  v41 := Tryd.zeroValue149
  t44 := Tryd.underlying152
  a44 := Tryd.isAgg152
  z44 := Tryd.sizeOf152
  v44 := Tryd.zeroValue152
  t46 := Tryd.underlying154
  a46 := Tryd.isAgg154
  z46 := Tryd.sizeOf154
  v46 := Tryd.zeroValue154
  t53 := Tryd.underlying180
  a53 := Tryd.isAgg180
  z53 := Tryd.sizeOf180
  v53 := Tryd.zeroValue180
  t57 := Tryd.underlying184
  a57 := Tryd.isAgg184
  z57 := Tryd.sizeOf184
  v57 := Tryd.zeroValue184
  t63 := Tryd.underlying198
  a63 := Tryd.isAgg198
  z63 := Tryd.sizeOf198
  v63 := Tryd.zeroValue198
  t64 := Tryd.underlying87
  a64 := Tryd.isAgg87
  z64 := Tryd.sizeOf87
  v64 := Tryd.zeroValue87 }
open Go.Sort Go.RowKit in
theorem YtpggpdbipajchaaDoor.slices_Sort_int (blk off cap : Nat) (zs : List Int) (w : World) (hH : Holds (Value.int .i64) w blk off zs.toArray) (hblk : blk < w.heap.size) (hsz : zs.length < 4611686018427387904) :
    Calls Tryd.prog 79 #[.slice (some ⟨blk, off, none⟩) zs.length cap] w fun e w' =>
      e = .returned (.tuple #[]) ∧ ∃ n os, w' = grow (putRow (Value.int .i64) (Sort.ahead w n) blk off (zs.mergeSort fun x y => decide (x ≤ y)).toArray) os := AnyM.slices_Sort_int YtpggpdbipajchaaDoor.laysSlM5_f79 blk off cap zs w hH hblk hsz
def YtpggpdbipajchaaDoor.laysSlM6_f81_ren : Go.Shelf.Ren := ⟨fun | 6 => 81 | 8 => 106 | 9 => 107 | 19 => 134 | 20 => 135 | 21 => 136 | 22 => 137 | 23 => 138 | 24 => 139 | 25 => 140 | 26 => 141 | 27 => 142 | 28 => 143 | 29 => 144 | 36 => 169 | 31 => 164 | 32 => 165 | 37 => 170 | 38 => 171 | 39 => 172 | 41 => 188 | n => n, fun | 27 => 22 | 29 => 9 | 3 => 3 | 32 => 127 | 26 => 22 | 0 => 0 | 44 => 152 | 46 => 154 | 4 => 4 | 36 => 144 | 35 => 143 | 41 => 149 | 5 => 5 | 9 => 9 | 53 => 180 | 57 => 184 | 63 => 198 | 64 => 87 | n => n, fun | n => n⟩
theorem YtpggpdbipajchaaDoor.laysSlM6_f81 : Go.Proofs.SlLaysM.n6 Tryd.prog YtpggpdbipajchaaDoor.laysSlM6_f81_ren := {
  mixed := by kernel_rfl
  f6 := ⟨Tryd.f81.name, by decide, Tryd.func81.trans (congrArg some (by kernel_rfl))⟩
  f8 := Tryd.func106.trans (congrArg some (by kernel_rfl))
  f9 := ⟨Tryd.f107.name, by decide, Tryd.func107.trans (congrArg some (by kernel_rfl))⟩
  f19 := Tryd.func134.trans (congrArg some (by kernel_rfl))
  f20 := Tryd.func135.trans (congrArg some (by kernel_rfl))
  f21 := ⟨Tryd.f136.name, by decide, Tryd.func136.trans (congrArg some (by kernel_rfl))⟩
  f22 := ⟨Tryd.f137.name, by decide, Tryd.func137.trans (congrArg some (by kernel_rfl))⟩
  f23 := ⟨Tryd.f138.name, by decide, Tryd.func138.trans (congrArg some (by kernel_rfl))⟩
  f24 := ⟨Tryd.f139.name, by decide, Tryd.func139.trans (congrArg some (by kernel_rfl))⟩
  f25 := ⟨Tryd.f140.name, by decide, Tryd.func140.trans (congrArg some (by kernel_rfl))⟩
  f26 := ⟨Tryd.f141.name, by decide, Tryd.func141.trans (congrArg some (by kernel_rfl))⟩
  f27 := ⟨Tryd.f142.name, by decide, Tryd.func142.trans (congrArg some (by kernel_rfl))⟩
  f28 := ⟨Tryd.f143.name, by decide, Tryd.func143.trans (congrArg some (by kernel_rfl))⟩
  f29 := ⟨Tryd.f144.name, by decide, Tryd.func144.trans (congrArg some (by kernel_rfl))⟩
  f31 := Tryd.func164.trans (congrArg some (by kernel_rfl))
  f32 := Tryd.func165.trans (congrArg some (by kernel_rfl))
  f36 := ⟨Tryd.f169.name, by decide, Tryd.func169.trans (congrArg some (by kernel_rfl))⟩
  f37 := ⟨Tryd.f170.name, by decide, Tryd.func170.trans (congrArg some (by kernel_rfl))⟩
  f38 := ⟨Tryd.f171.name, by decide, Tryd.func171.trans (congrArg some (by kernel_rfl))⟩
  f39 := ⟨Tryd.f172.name, by decide, Tryd.func172.trans (congrArg some (by kernel_rfl))⟩
  f41 := ⟨Tryd.f188.name, by decide, Tryd.func188.trans (congrArg some (by kernel_rfl))⟩
  t0 := Tryd.underlying0
  a0 := Tryd.isAgg0
  z0 := Tryd.sizeOf0
  v0 := Tryd.zeroValue0
  t3 := Tryd.underlying3
  a3 := Tryd.isAgg3
  z3 := Tryd.sizeOf3
  v3 := Tryd.zeroValue3
  t4 := Tryd.underlying4
  a4 := Tryd.isAgg4
  z4 := Tryd.sizeOf4
  v4 := Tryd.zeroValue4
  t5 := Tryd.underlying5
  a5 := Tryd.isAgg5
  z5 := Tryd.sizeOf5
  v5 := Tryd.zeroValue5
  t9 := Tryd.underlying9
  a9 := Tryd.isAgg9
  z9 := Tryd.sizeOf9
  v9 := Tryd.zeroValue9
  t26 := Tryd.underlying22
  a26 := Tryd.isAgg22
  z26 := Tryd.sizeOf22
  v26 := Tryd.zeroValue22
  t27 := Tryd.underlying22
  a27 := Tryd.isAgg22
  z27 := Tryd.sizeOf22
  v27 := Tryd.zeroValue22
  t29 := Tryd.underlying9
  a29 := Tryd.isAgg9
  z29 := Tryd.sizeOf9
  v29 := Tryd.zeroValue9
  t32 := Tryd.underlying127
  a32 := Tryd.isAgg127
  z32 := Tryd.sizeOf127
  v32 := Tryd.zeroValue127
  t35 := Tryd.underlying143
  a35 := Tryd.isAgg143
  z35 := Tryd.sizeOf143
  v35 := Tryd.zeroValue143
  t36 := Tryd.underlying144
  a36 := Tryd.isAgg144
  z36 := Tryd.sizeOf144
  v36 := Tryd.zeroValue144
  t41 := Tryd.underlying149
  a41 := Tryd.isAgg149
  z41 := Tryd.sizeOf149
  v41 := Tryd.zeroValue149
  t44 := Tryd.underlying152
  a44 := Tryd.isAgg152
  z44 := Tryd.sizeOf152
  v44 := Tryd.zeroValue152
  t46 := Tryd.underlying154
  a46 := Tryd.isAgg154
  z46 := Tryd.sizeOf154
  v46 := Tryd.zeroValue154
  t53 := Tryd.underlying180
  a53 := Tryd.isAgg180
  z53 := Tryd.sizeOf180
  v53 := Tryd.zeroValue180
  t57 := Tryd.underlying184
  a57 := Tryd.isAgg184
  z57 := Tryd.sizeOf184
  v57 := Tryd.zeroValue184
  t63 := Tryd.underlying198
  a63 := Tryd.isAgg198
  z63 := Tryd.sizeOf198
  v63 := Tryd.zeroValue198
  t64 := Tryd.underlying87
  a64 := Tryd.isAgg87
  z64 := Tryd.sizeOf87
  v64 := Tryd.zeroValue87 }
open Go.Sort Go.RowKit in
theorem YtpggpdbipajchaaDoor.slices_Sort_string (blk off cap : Nat) (ss : List (List UInt8)) (w : World) (hH : Holds encStr w blk off ss.toArray) (hblk : blk < w.heap.size) (hsz : ss.length < 4611686018427387904) :
    Calls Tryd.prog 81 #[.slice (some ⟨blk, off, none⟩) ss.length cap] w fun e w' =>
      e = .returned (.tuple #[]) ∧ ∃ n os, w' = grow (putRow encStr (Sort.ahead w n) blk off (ss.mergeSort fun x y => decide (x ≤ y)).toArray) os := AnyM.slices_Sort_string YtpggpdbipajchaaDoor.laysSlM6_f81 blk off cap ss w hH hblk hsz
open Go.RowKit Go.Sort in
theorem YtpggpdbipajchaaDoor.slices_Sort_string_none (p : Option Addr) (cap : Nat) (w : World) :
    Calls Tryd.prog 81 #[.slice p 0 cap] w fun e w' => e = .returned (.tuple #[]) ∧ w' = w := AnyM.slices_Sort_string_none YtpggpdbipajchaaDoor.laysSlM6_f81 p cap w
end Go.Proofs
namespace Go.Proofs.YtpggpdbipajchaaDoor
open Go.RowKit
set_option linter.all false
def PV.le (p q : PV) : Prop := ∀ (g : Gh) (w : World) (v : Value), Rep g w p v → Rep g w q v
theorem PV.le_refl (p : PV) : p.le p := fun _ _ _ h => h
theorem PV.le.trans {p q r : PV} (h : p.le q) (h2 : q.le r) : p.le r := fun g w v hv => h2 g w v (h g w v hv)
theorem nil_le (k : Bool) (sz : Nat) : (PV.val (.slice none 0 0)).le (.lst k sz []) := fun g w v h => by
  simp only [Rep] at h ⊢
  subst h
  exact ⟨none, 0, rfl, Nat.le_refl _, by omega, .inl trivial⟩
def leL : List PV → List PV → Prop
  | [], [] => True
  | p :: ps, q :: qs => p.le q ∧ leL ps qs
  | _, _ => False
theorem leL_refl : ∀ (l : List PV), leL l l
  | [] => trivial
  | p :: l => ⟨p.le_refl, leL_refl l⟩
theorem leL_rep {g : Gh} {w : World} : ∀ {ps qs : List PV} {vs : List Value}, leL ps qs → RepL g w ps vs → RepL g w qs vs
  | [], [], vs, _, h => h
  | p :: ps, q :: qs, vs, hl, h => by
    simp only [RepL] at h ⊢
    obtain ⟨v, vs', rfl, h1, h2⟩ := h
    exact ⟨v, vs', rfl, hl.1 _ _ _ h1, leL_rep hl.2 h2⟩
  | [], _ :: _, vs, hl, _ => hl.elim
  | _ :: _, [], vs, hl, _ => hl.elim
theorem Sound.weak {P : Program} {f : Nat} {φ φ' : Fun} (h : Sound P f φ) (hw : ∀ ps r, φ' ps = some r → ∃ ps' r', leL ps ps' ∧ φ ps' = some r' ∧ r'.le r) : Sound P f φ' := by
  intro w J ps args r hr hJ hT hargs
  obtain ⟨ps', r', h1, h2, h3⟩ := hw ps r hr
  refine (h w J ps' args r' h2 hJ hT (leL_rep h1 hargs)).mono ?_
  rintro e w' ⟨v, rfl, hb, hrep⟩
  exact ⟨v, rfl, hb, fun g' hg => h3 _ _ _ (hrep g' hg)⟩
def nrm (sz : Nat) : PV → PV
  | .val (.slice none 0 0) => .lst false sz []
  | p => p
theorem le_nrm (sz : Nat) (p : PV) : p.le (nrm sz p) := by
  unfold nrm
  split
  · exact nil_le _ _
  · exact p.le_refl
theorem leL_nrm (sz : Nat) : ∀ ps : List PV, leL ps (ps.map (nrm sz))
  | [] => trivial
  | p :: ps => ⟨le_nrm sz p, leL_nrm sz ps⟩
def nilF (sz : Nat) (φ : Fun) : Fun := fun ps => φ (ps.map (nrm sz))
theorem Sound.nil {P : Program} {f : Nat} {φ : Fun} (h : Sound P f φ) (sz : Nat) : Sound P f (nilF sz φ) :=
  h.weak fun ps r hr => ⟨_, r, leL_nrm sz ps, hr, PV.le_refl _⟩
section
variable {P : Program} {Γ : Ctx}
theorem sound_pqW (hm : P.follows .mixedOrders = true) {f : Nat} {fn : Func} {c : Code} {φ : Fun} (hΓ : SoundΓ P Γ) (hf : P.funcs[f]? = some fn) (hb : fn.body = some c) (N : Nat) (hN : fn.ntmps = N) (rs : List ResultVar) (hrs : fn.results.toList = rs) (hc : codeOk Γ true N c = true)
    (h : ∀ ps r, φ ps = some r → ps.length ≤ N ∧ pq P Γ N c (fun x s' => ∃ r', r'.le r ∧ Post P rs r' x s') (initS ps).tm (fun _ => none) 0) : Sound P f φ := by
  obtain ⟨φ', h1, h2⟩ := rel_of_pq hm hΓ hf hb N hN rs hrs hc (fun ps => ∃ r, φ ps = some r) (fun ps r' => ∀ r, φ ps = some r → r'.le r) (fun ps ⟨r, hr⟩ => (h ps r hr).1) (fun ps ⟨r, hr⟩ => by
    refine pw_mono (fun x s' hx => ?_) _ _ (h ps r hr).2
    obtain ⟨r', k1, k2⟩ := hx
    exact ⟨r', fun r1 hr1 => by rw [hr] at hr1; cases hr1; exact k1, k2⟩)
  refine h1.weak fun ps r hr => ?_
  obtain ⟨r', k1, k2⟩ := h2 ps ⟨r, hr⟩
  exact ⟨ps, r', leL_refl _, k1, k2 r hr⟩
theorem i_endW {rs : List ResultVar} {r r' : PV} {tm : Nat → PV} {ob : Objs} {nx : Nat} {x : X} (hx : x = .normal ∨ x = .ret) (h : ((resPs P ⟨tm, ob, nx⟩ rs).bind fun qs => reify true 0 ob fuel (onePV qs)) = some r') (hl : r'.le r) : ∃ r', r'.le r ∧ Post P rs r' x ⟨tm, ob, nx⟩ := ⟨r', hl, hx, h⟩
end
theorem reify_nil0 {n f sz : Nat} {ob : Objs} {k : Bool} : reify false n ob (f + 1) (.lst k sz []) = some (.lst false sz []) := by simp [reify]
theorem reify_nil1 {n f sz : Nat} {ob : Objs} {k : Bool} : reify true n ob (f + 1) (.lst k sz []) = some (.lst true sz []) := by simp [reify]
attribute [push_cast]
  reify_nil0 reify_nil1
def nP (sz : Nat) (es : List PV) (x : Nat) : PV := match es with | [] => .val (.slice none 0 0) | _ :: _ => .row x sz 0 es.length
def nO (T sz : Nat) (es : List PV) (x : Nat) : List (Nat × CellIO) := match es with | [] => [] | _ :: _ => [(x, T, sz, es)]
theorem nP_nil {sz x : Nat} : nP sz [] x = .val (.slice none 0 0) := rfl
theorem nO_nil {T sz x : Nat} : nO T sz [] x = [] := rfl
theorem nP_pos {sz x : Nat} {es : List PV} (h : 0 < es.length) : nP sz es x = .row x sz 0 es.length := by
  cases es with
  | nil => simp at h
  | cons e es => rfl
theorem nO_pos {T sz x : Nat} {es : List PV} (h : 0 < es.length) : nO T sz es x = [(x, T, sz, es)] := by
  cases es with
  | nil => simp at h
  | cons e es => rfl
attribute [push_cast]
  nP_nil nO_nil
attribute [push_cast low]
  nP_pos nO_pos
theorem bp_addS {P : Program} {t : Nat} {x y : Operand} {a b : ByteArray} (h : a.size + b.size ≤ 9223372036854775807) : binP P .add t x y (some (.string a)) (some (.string b)) = some (.val (.string (a ++ b))) := by
  have h2 : ¬ (((a.size + b.size : Nat) : Int) > IntKind.i64.max) := by
    have : IntKind.i64.max = 9223372036854775807 := by decide
    rw [this]
    omega
  have : pureRun P (do eqGuard .add t x y (.string a) (.string b); binOp .add t (.string a) (.string b)) = some (.string (a ++ b)) := by
    show pureRun P (Op.stringOp .add a b) = _
    unfold Op.stringOp
    dsimp only
    rw [if_neg h2]
    rfl
  simp only [binP, this, Option.map_some]
theorem size_push (ns : List Int) (r : ByteArray) : (ns.foldl (fun r n => r.push (UInt8.ofNat n.toNat)) r).size = r.size + ns.length := by
  induction ns generalizing r with
  | nil => simp
  | cons n ns ih => rw [List.foldl_cons, ih, List.length_cons, ByteArray.size_push]; omega
theorem size_bytesOf (ns : List Int) : (bytesOf ns).size = ns.length := by
  unfold bytesOf
  rw [size_push]
  simp
attribute [push_cast]
  bp_addS size_bytesOf ByteArray.size_append byteNs
def joinB (l : List ByteArray) (sep : ByteArray) : ByteArray := ⟨(Lib.join (l.map (·.data.toList)) sep.data.toList).toArray⟩
def φJoin : Fun := F2 dSs dS fun l sep => if l.length ≤ 1048576 ∧ (joinB l sep).size ≤ 140737488355328 then some (.val (.string (joinB l sep))) else none
theorem φJoin_ap {l : List ByteArray} {sep : ByteArray} (h : l.length ≤ 1048576) (h2 : (joinB l sep).size ≤ 140737488355328) : φJoin [.lst false 1 (l.map fun s => .val (.string s)), .val (.string sep)] = some (.val (.string (joinB l sep))) :=
  (F2_ap (A := dSs) (B := dS) l sep).trans (if_pos ⟨h, h2⟩)
theorem str_cells {g : Gh} {w : World} {b off : Nat} {l : List ByteArray} (h : RepEs g w 1 (l.map fun s => PV.val (.string s)) b off) : ∀ (j : Nat) x, l[j]? = some x → w.cell? ⟨b, off + j, none⟩ = some (.string x) := fun j x hx => by
  obtain ⟨u, h1, h2, _⟩ := h.get (i := j) (e := .val (.string x)) (by simp [hx])
  simp only [Rep] at h1
  subst h1
  have := h2.2 0 (by simp [Value.cells])
  simpa [Value.cells] using this
theorem sound_join {P : Program} {f : Nat} (H0 : ∀ (a : Option Addr) (c : Nat) (sep : ByteArray) (w : World), Calls P f #[.slice a 0 c, .string sep] w fun e w' => e = .returned (.string ⟨#[]⟩) ∧ w' = w)
    (H1 : ∀ (bk o c : Nat) (xs : List ByteArray) (sep : ByteArray) (w : World), (∀ (j : Nat) x, xs[j]? = some x → w.cell? ⟨bk, o + j, none⟩ = some (.string x)) → bk < w.heap.size → xs.length ≤ 140737488355328 → xs.length ≤ c → (Lib.join (xs.map (·.data.toList)) sep.data.toList).length ≤ 140737488355328 →
      Calls P f #[.slice (some ⟨bk, o, none⟩) xs.length c, .string sep] w fun e w' => e = .returned (.string ⟨(Lib.join (xs.map (·.data.toList)) sep.data.toList).toArray⟩) ∧ Below w.heap.size w w') : Sound P f φJoin := by
  intro w J ps args r hr hJ hT hargs
  obtain ⟨l, sep, rfl, hq⟩ := F2_some hr
  split at hq
  case isFalse => cases hq
  case isTrue hok =>
  cases hq
  have hargs := hargs
  simp only [RepL] at hargs
  obtain ⟨v1, vs1, e1, h1, v2, vs2, rfl, h2, rfl⟩ := hargs
  obtain rfl : args = #[v1, v2] := by
    obtain ⟨a⟩ := args
    simp only at e1
    rw [e1]
  simp only [dSs, dL, dS, Rep] at h1 h2
  subst h2
  obtain ⟨a, cap, rfl, k1, k2, k3⟩ := h1
  simp only [List.length_map] at k1 ⊢
  have hsz : (joinB l sep).size = (Lib.join (l.map (·.data.toList)) sep.data.toList).length := by simp [joinB, ByteArray.size]
  rcases k3 with k3 | ⟨b, off, rfl, k4, k5⟩
  · have : l = [] := by simpa using k3
    subst this
    refine (H0 a cap sep w).mono ?_
    rintro e w' ⟨rfl, rfl⟩
    exact ⟨_, rfl, Below.refl _ _, fun g' _ => by simp only [Rep]; rfl⟩
  · refine (H1 b off cap l sep w (str_cells k5) (hJ b k4.2) (by omega) k1 (by omega)).mono ?_
    rintro e w' ⟨rfl, hb⟩
    exact ⟨_, rfl, hb, fun g' _ => by simp only [Rep]; rfl⟩
theorem joinTail_len (sep : List UInt8) : ∀ (r : List (List UInt8)), (Lib.joinTail sep r).length = (r.map List.length).sum + r.length * sep.length
  | [] => by simp [Lib.joinTail]
  | x :: r => by
    have ih := joinTail_len sep r
    unfold Lib.joinTail at ih ⊢
    simp only [List.map_cons, List.flatten_cons, List.length_append, List.sum_cons, List.length_cons, ih, Nat.add_mul]
    omega
def sumS (l : List ByteArray) : Nat := (l.map (·.size)).sum
theorem joinB_size (l : List ByteArray) (sep : ByteArray) : (joinB l sep).size = sumS l + (l.length - 1) * sep.size := by
  have hsz : (joinB l sep).size = (Lib.join (l.map (·.data.toList)) sep.data.toList).length := by simp [joinB, ByteArray.size]
  rw [hsz]
  clear hsz
  have e : ∀ s : ByteArray, s.data.toList.length = s.size := fun s => Array.length_toList
  cases l with
  | nil => simp [Lib.join_nil, sumS]
  | cons x r =>
    rw [List.map_cons, Lib.join_cons, List.length_append, joinTail_len]
    simp only [List.map_map, List.length_map, sumS, List.map_cons, List.sum_cons, List.length_cons, Nat.add_sub_cancel, e]
    have h2 : (List.length ∘ fun x : ByteArray => x.data.toList) = fun x => x.size := funext fun s => e s
    rw [h2]
    omega
theorem sumS_le {l : List ByteArray} {c : Nat} (h : ∀ i : Nat, (l[i]?.getD .empty).size ≤ c) : sumS l ≤ l.length * c := by
  induction l with
  | nil => simp [sumS]
  | cons x l ih =>
    have h0 := h 0
    have := ih fun i => by simpa using h (i + 1)
    simp only [List.getElem?_cons_zero, Option.getD_some] at h0
    simp only [sumS, List.map_cons, List.sum_cons, List.length_cons, Nat.add_mul, Nat.one_mul] at this ⊢
    omega
theorem join_ok : Sound Tryd.prog 69 φJoin := sound_join YtpggpdbipajchaaDoor.strings_Join_none YtpggpdbipajchaaDoor.strings_Join
end Go.Proofs.YtpggpdbipajchaaDoor
namespace Go.Proofs.YtpggpdbipajchaaDoor
open Go.RowKit
set_option linter.all false
theorem pr_bind {α β : Type} {P : Program} {m : Sem α} {f : α → Sem β} {a : α} (h : pureRun P m = some a) : pureRun P (m >>= f) = pureRun P (f a) := by
  induction m with
  | pure x => simp only [pureRun, Option.some.injEq] at h; subst h; rfl
  | program k ih => exact ih P h
  | _ => simp [pureRun] at h
theorem pr_bound {P : Program} {v : Int} {m : Nat} {k : BoundsCode} (h : 0 ≤ v) (h2 : v ≤ m) : pureRun P (Instr.sliceBound (.int .i64 v) m k) = some v.toNat := by
  have e : Instr.sliceBound (.int .i64 v) m k = (if 0 ≤ v ∧ v ≤ m then pure v.toNat else boundsPanic .i64 v m k) := rfl
  rw [e, if_pos ⟨h, h2⟩]
  rfl
theorem pr_und {P : Program} {t : Nat} {d : TypeDesc} (hu : P.underlying t = some d) : pureRun P (underlying t) = some d := by
  unfold underlying
  rw [pr_bind (a := P) rfl]
  simp only [hu]
  rfl
theorem sps {P : Program} {t : Nat} {s : ByteArray} {lo hi : Option Int} (hu : P.underlying t = some .string) (h0 : 0 ≤ lo.getD 0) (h1 : lo.getD 0 ≤ hi.getD s.size) (h2 : hi.getD s.size ≤ s.size) :
    slcP P t (.val (.string s)) (some lo) (some hi) = some (.val (.string (s.extract (lo.getD 0).toNat (hi.getD s.size).toNat))) := by
  have hb : pureRun P (Instr.sliceBounds false s.size s.size (lo.map (Value.int .i64)) (hi.map (Value.int .i64)) none) = some ((lo.getD 0).toNat, (hi.getD s.size).toNat, s.size) := by
    unfold Instr.sliceBounds
    rw [pr_bind (a := s.size) rfl]
    cases hi with
    | none =>
      simp only [Option.map_none, Option.getD_none] at h1 ⊢
      rw [pr_bind (a := s.size) rfl]
      cases lo with
      | none => simp only [Option.map_none, Option.getD_none, Int.toNat_natCast]; rw [pr_bind (a := 0) rfl]; rfl
      | some l => simp only [Option.map_some, Option.getD_some, Int.toNat_natCast] at h0 h1 ⊢; rw [pr_bind (pr_bound h0 h1)]; rfl
    | some h =>
      simp only [Option.map_some, Option.getD_some] at h1 h2 ⊢
      have h3 : 0 ≤ h := by omega
      rw [pr_bind (pr_bound h3 h2)]
      cases lo with
      | none => simp only [Option.map_none, Option.getD_none]; rw [pr_bind (a := 0) rfl]; rfl
      | some l => simp only [Option.map_some, Option.getD_some] at h0 h1 ⊢; rw [pr_bind (pr_bound h0 (by omega))]; rfl
  have hs : pureRun P (Instr.sliceAt t (.string s) (lo.map (Value.int .i64)) (hi.map (Value.int .i64)) none) = some (.string (s.extract (lo.getD 0).toNat (hi.getD s.size).toNat)) := by
    unfold Instr.sliceAt
    rw [pr_bind (pr_und hu)]
    dsimp only
    unfold Instr.slice
    rw [pr_bind (pr_und hu)]
    dsimp only
    simp only [Option.isSome_none, Bool.false_eq_true, if_false]
    rw [pr_bind hb]
    rfl
  show (pureRun P _).map _ = _
  rw [hs]
  rfl
theorem sps_str {s : ByteArray} {lo hi : Option Int} (h0 : 0 ≤ lo.getD 0) (h1 : lo.getD 0 ≤ hi.getD s.size) (h2 : hi.getD s.size ≤ s.size) :
    slcP Tryd.prog 9 (.val (.string s)) (some lo) (some hi) = some (.val (.string (s.extract (lo.getD 0).toNat (hi.getD s.size).toNat))) := sps Tryd.underlying9 h0 h1 h2
attribute [push_cast]
  sps_str
end Go.Proofs.YtpggpdbipajchaaDoor
namespace Go.Proofs.YtpggpdbipajchaaDoor
open Go.RowKit
set_option linter.unusedVariables false
def inB (n a b : Int) : Bool := decide (a ≤ n) && decide (n ≤ b)
theorem inB_iff {n a b : Int} : inB n a b = true ↔ a ≤ n ∧ n ≤ b := by simp [inB]
def OwnC (w : World) (b : Nat) (cs : Array Value) (T : Nat) : Prop := w.heap[b]? = some (.cells cs T (0, 0))
theorem OwnC.facts {w : World} {b : Nat} {cs : Array Value} {T : Nat} (h : OwnC w b cs T) : (∀ j, w.cell? ⟨b, j, none⟩ = cs[j]?) ∧ (∀ j, w.frozen? ⟨b, j, none⟩ = false) ∧ b < w.heap.size := by
  unfold OwnC at h
  exact ⟨fun j => by simp [World.cell?, h], fun j => by simp [World.frozen?, h], (Array.getElem?_eq_some_iff.1 h).1⟩
theorem OwnC.lt {w : World} {b : Nat} {cs : Array Value} {T : Nat} (h : OwnC w b cs T) : b < w.heap.size := h.facts.2.2
theorem OwnC.new (w : World) (cs : Array Value) (T : Nat) : OwnC (w.alloc (.cells cs T)) w.heap.size cs T := heap_alloc_new w _
theorem OwnC.below {w w' : World} {b : Nat} {cs : Array Value} {T : Nat} (h : OwnC w b cs T) (hb : Below w.heap.size w w') : OwnC w' b cs T := by
  unfold OwnC; rw [hb.block b h.lt]; exact h
theorem OwnC.alloc {w : World} {b : Nat} {cs : Array Value} {T : Nat} (h : OwnC w b cs T) (o : Obj) : OwnC (w.alloc o) b cs T :=
  h.below ((Below.refl _ _).alloc (Nat.le_refl _) o)
theorem OwnC.drew {w : World} {b : Nat} {cs : Array Value} {T : Nat} (h : OwnC w b cs T) : OwnC w.drew b cs T := h
theorem OwnC.drewN {w : World} {b : Nat} {cs : Array Value} {T : Nat} (h : OwnC w b cs T) (n : Nat) : OwnC (w.drewN n) b cs T := h
theorem OwnC.set {w : World} {b : Nat} {cs : Array Value} {T : Nat} (h : OwnC w b cs T) (j : Nat) (u : Value) : OwnC (w.setCell ⟨b, j, none⟩ u) b (cs.setIfInBounds j u) T := by
  unfold OwnC at *; simp [World.setCell, Array.getElem?_modify, h]
def Sl (w : World) (k : Nat) (v : Value) (n : Nat) (cs : List Value) : Prop :=
  ∃ a cap b off, v = .slice a n cap ∧ cs.length = n * k ∧ n ≤ cap ∧ cap ≤ maxLen ∧ (0 < n → a = some ⟨b, off, none⟩) ∧ ∀ i, i < n * k → w.cell? ⟨b, off + i, none⟩ = cs[i]?
theorem Sl.below {w w' : World} {k : Nat} {v : Value} {n : Nat} {cs : List Value} (h : Sl w k v n cs) (hb : Below w.heap.size w w') : Sl w' k v n cs := by
  obtain ⟨a, cap, b, off, h1, h2, h3, h4, h5, h6⟩ := h
  refine ⟨a, cap, b, off, h1, h2, h3, h4, h5, fun i hi => ?_⟩
  have hc := h6 i hi
  have hs : cs[i]? = some (cs[i]'(by omega)) := List.getElem?_eq_getElem _
  rw [hs] at hc ⊢
  rw [hb.cell (p := ⟨b, off + i, none⟩) (World.block_lt_of_cell? w _ hc)]
  exact hc
end Go.Proofs.YtpggpdbipajchaaDoor
namespace Go.Proofs.YtpggpdbipajchaaDoor
open Go.RowKit
set_option linter.unusedVariables false
structure IntsAt (w : World) (a : Option Addr) (n cap : Nat) (zs : List Int) : Prop where
  len : zs.length = n
  le_cap : n ≤ cap
  cap_max : cap ≤ 9223372036854775807
  rng : ∀ i : Nat, -9223372036854775808 ≤ zs[i]?.getD 0 ∧ zs[i]?.getD 0 ≤ 9223372036854775807
  at_ : 0 < n → ∃ b off, a = some ⟨b, off, none⟩ ∧ ∀ i : Nat, i < n → w.cell? ⟨b, off + i, none⟩ = some (.int .i64 (zs[i]?.getD 0))
theorem IntsAt.below {w w' : World} {a : Option Addr} {n cap : Nat} {zs : List Int} (h : IntsAt w a n cap zs) (hb : Below w.heap.size w w') : IntsAt w' a n cap zs :=
  ⟨h.len, h.le_cap, h.cap_max, h.rng, fun h0 => by
    obtain ⟨b, off, rfl, hc⟩ := h.at_ h0
    exact ⟨b, off, rfl, fun i hi => (hb.cell (World.block_lt_of_cell? w _ (hc i hi))).trans (hc i hi)⟩⟩
structure StrsAt (w : World) (a : Option Addr) (n cap : Nat) (ss : List ByteArray) : Prop where
  len : ss.length = n
  le_cap : n ≤ cap
  cap_max : cap ≤ 9223372036854775807
  rng : ∀ i : Nat, (ss[i]?.getD ByteArray.empty).size ≤ 9223372036854775807
  at_ : 0 < n → ∃ b off, a = some ⟨b, off, none⟩ ∧ ∀ i : Nat, i < n → w.cell? ⟨b, off + i, none⟩ = some (.string (ss[i]?.getD ByteArray.empty))
theorem StrsAt.below {w w' : World} {a : Option Addr} {n cap : Nat} {ss : List ByteArray} (h : StrsAt w a n cap ss) (hb : Below w.heap.size w w') : StrsAt w' a n cap ss :=
  ⟨h.len, h.le_cap, h.cap_max, h.rng, fun h0 => by
    obtain ⟨b, off, rfl, hc⟩ := h.at_ h0
    exact ⟨b, off, rfl, fun i hi => (hb.cell (World.block_lt_of_cell? w _ (hc i hi))).trans (hc i hi)⟩⟩
def okPage (zs : List Int) (i : Nat) : Bool := inB (zs[i]?.getD 0) 1 999 && (i == 0 || decide (zs[i - 1]?.getD 0 < zs[i]?.getD 0))
def okPages (zs : List Int) (k : Nat) : Bool := (List.range k).all (okPage zs)
def pagesB (zs : List Int) : Bool := okPages zs zs.length && decide (zs.length ≤ 30)
theorem okPages_succ (zs : List Int) (k : Nat) : okPages zs (k + 1) = (okPages zs k && okPage zs k) := by
  simp [okPages, List.range_succ]
theorem okPages_mono {zs : List Int} {k n : Nat} (h : k < n) (hk : okPage zs k = false) : okPages zs n = false := by
  simp only [okPages, List.all_eq_false]
  exact ⟨k, by simpa using h, by simp [hk]⟩
end Go.Proofs.YtpggpdbipajchaaDoor
namespace Go.Proofs.YtpggpdbipajchaaDoor
open Go.RowKit
set_option linter.all false
noncomputable def GE : Ctx := { fn := fun f => none, io := fun f => none }
theorem GE_ok : SoundΓ Tryd.prog GE := ⟨(fun f φ h => by
  unfold GE at h
  dsimp only at h
  cases h), (fun f φ h => by
  unfold GE at h
  dsimp only at h
  cases h), rfl⟩
def φIn : Fun := F3 dI dI dI fun n a b => some (bv (inB n a b))
theorem φIn_ap (n a b : Int) : φIn [.val (.int .i64 n), .val (.int .i64 a), .val (.int .i64 b)] = some (.val (.bool (inB n a b))) := rfl
theorem l1In_ok : Sound Tryd.prog 48 φIn := by
  refine sound_pq mixed GE_ok Tryd.func48 rfl 15 rfl [.tmp 6] rfl (by kernel_rfl) fun ps r hr => ?_
  obtain ⟨n, a, b, rfl, hr⟩ := F3_some hr
  cases hr
  refine ⟨by simp, ?_⟩
  simp only [dIs, dUs, dSs, dI_e, dU_e, dB_e, dS_e, dFn_e, dL_e, dA2_e, dA3_e, dA4_e, dA5_e]
  repeat' (first | (with_reducible first | apply i_seq | apply i_block | apply i_skip | apply i_exit | apply i_ret | apply i_kS | apply i_kSx | apply i_kSr | apply i_kL | apply i_kLx | apply i_kLr | apply i_kB | apply i_kBr | apply i_kBs | apply i_nil) | ((with_reducible apply i_region); (simp only [List.map_cons, List.map_nil] <;> exact rfl)) | ((with_reducible apply i_draw); (simp only [List.map_cons, List.map_nil] <;> exact rfl); decide +kernel) | ((with_reducible apply i_kBo); rfl) | ((first | ((with_reducible apply i_V); rfl; rfl; rfl) | ((first | ((with_reducible apply i_E); rfl) | ((with_reducible apply i_S); rfl)); first | rfl | (simp only [push_cast, ↓reduceIte])) | ((with_reducible apply i_Vq); rfl; rfl) | ((with_reducible apply i_Vp); rfl; rfl; rfl) | (with_reducible first | apply i_Gb | apply i_cond)); (simp (disch := (first | omega | (simp only [push_cast]; first | done | omega))) only [push_cast, ↓reduceIte, Nat.reduceEqDiff, Nat.reduceBEq, Nat.reduceAdd, Nat.reduceSub, Int.reduceToNat, *] <;> with_reducible exact rfl); all_goals try (first | (with_reducible first | refine hyT ?_ | refine hyF ?_ | exact hyA | exact hyB) | (intro hX; first | (cases hX; done) | ((try simp only [decide_eq_true_eq, decide_eq_false_iff_not, Bool.not_eq_true', Bool.not_eq_false'] at hX); (try have hXb := inB_iff.1 hX))))))
  all_goals ((first | apply i_end | apply i_endN); simp (disch := (first | omega | (simp only [push_cast]; first | done | omega))) only [push_cast, ↓reduceIte, Nat.reduceEqDiff, Nat.reduceBEq, Nat.reduceAdd, Nat.reduceSub, Int.reduceToNat, *])
  all_goals (first | (simp_all [inB]; done) | (simp_all [inB]; omega))
theorem in_ok : Sound Tryd.prog 86 φIn := by
  refine sound_pq mixed GE_ok Tryd.func86 rfl 15 rfl [.tmp 6] rfl (by kernel_rfl) fun ps r hr => ?_
  obtain ⟨n, a, b, rfl, hr⟩ := F3_some hr
  cases hr
  refine ⟨by simp, ?_⟩
  simp only [dIs, dUs, dSs, dI_e, dU_e, dB_e, dS_e, dFn_e, dL_e, dA2_e, dA3_e, dA4_e, dA5_e]
  repeat' (first | (with_reducible first | apply i_seq | apply i_block | apply i_skip | apply i_exit | apply i_ret | apply i_kS | apply i_kSx | apply i_kSr | apply i_kL | apply i_kLx | apply i_kLr | apply i_kB | apply i_kBr | apply i_kBs | apply i_nil) | ((with_reducible apply i_region); (simp only [List.map_cons, List.map_nil] <;> exact rfl)) | ((with_reducible apply i_draw); (simp only [List.map_cons, List.map_nil] <;> exact rfl); decide +kernel) | ((with_reducible apply i_kBo); rfl) | ((first | ((with_reducible apply i_V); rfl; rfl; rfl) | ((first | ((with_reducible apply i_E); rfl) | ((with_reducible apply i_S); rfl)); first | rfl | (simp only [push_cast, ↓reduceIte])) | ((with_reducible apply i_Vq); rfl; rfl) | ((with_reducible apply i_Vp); rfl; rfl; rfl) | (with_reducible first | apply i_Gb | apply i_cond)); (simp (disch := (first | omega | (simp only [push_cast]; first | done | omega))) only [push_cast, ↓reduceIte, Nat.reduceEqDiff, Nat.reduceBEq, Nat.reduceAdd, Nat.reduceSub, Int.reduceToNat, *] <;> with_reducible exact rfl); all_goals try (first | (with_reducible first | refine hyT ?_ | refine hyF ?_ | exact hyA | exact hyB) | (intro hX; first | (cases hX; done) | ((try simp only [decide_eq_true_eq, decide_eq_false_iff_not, Bool.not_eq_true', Bool.not_eq_false'] at hX); (try have hXb := inB_iff.1 hX))))))
  all_goals ((first | apply i_end | apply i_endN); simp (disch := (first | omega | (simp only [push_cast]; first | done | omega))) only [push_cast, ↓reduceIte, Nat.reduceEqDiff, Nat.reduceBEq, Nat.reduceAdd, Nat.reduceSub, Int.reduceToNat, *])
  all_goals (first | (simp_all [inB]; done) | (simp_all [inB]; omega))
end Go.Proofs.YtpggpdbipajchaaDoor
namespace Go.Proofs.YtpggpdbipajchaaDoor
open Go.RowKit
set_option linter.all false
def wordB (s : ByteArray) : Bool := (List.range s.size).all (fun k => inB (at8 s k) 97 122) && inB s.size 1 20
theorem wordB_no {s : ByteArray} {k : Nat} (h : k < s.size) (hb : ¬ (97 ≤ at8 s k ∧ at8 s k ≤ 122)) : wordB s = false := by
  unfold wordB
  have : (List.range s.size).all (fun k => inB (at8 s k) 97 122) = false := by
    rw [List.all_eq_false]
    exact ⟨k, List.mem_range.2 h, by rw [inB_iff]; exact hb⟩
  rw [this]
  rfl
theorem wordB_yes {s : ByteArray} (h : ∀ j, j < s.size → 97 ≤ at8 s j ∧ at8 s j ≤ 122) : wordB s = inB s.size 1 20 := by
  unfold wordB
  have : (List.range s.size).all (fun k => inB (at8 s k) 97 122) = true := by
    rw [List.all_eq_true]
    intro k hk
    exact inB_iff.2 (h k (List.mem_range.1 hk))
  rw [this]
  rfl
def φWord : Fun := F1 dS fun s => if s.size ≤ 1099511627776 then some (bv (wordB s)) else none
theorem φWord_ap {s : ByteArray} (h : s.size ≤ 1099511627776) : φWord [.val (.string s)] = some (.val (.bool (wordB s))) :=
  (F1_ap (A := dS) s).trans (if_pos h)
def φSmall : Fun := F1 dU fun n => some (bv (inB n 97 122))
theorem φSmall_ap (n : Int) : φSmall [.val (.int .u8 n)] = some (.val (.bool (inB n 97 122))) := rfl
theorem isSmall_ok : Sound Tryd.prog 124 φSmall := by
  refine sound_pq mixed GE_ok Tryd.func124 rfl 9 rfl [.tmp 2] rfl (by kernel_rfl) fun ps r hr => ?_
  obtain ⟨n, rfl, hr⟩ := F1_some hr
  cases hr
  refine ⟨by simp, ?_⟩
  simp only [dIs, dUs, dSs, dI_e, dU_e, dB_e, dS_e, dFn_e, dL_e, dA2_e, dA3_e, dA4_e, dA5_e]
  repeat' (first | (with_reducible first | apply i_seq | apply i_block | apply i_skip | apply i_exit | apply i_ret | apply i_kS | apply i_kSx | apply i_kSr | apply i_kL | apply i_kLx | apply i_kLr | apply i_kB | apply i_kBr | apply i_kBs | apply i_nil) | ((with_reducible apply i_region); (simp only [List.map_cons, List.map_nil] <;> exact rfl)) | ((with_reducible apply i_draw); (simp only [List.map_cons, List.map_nil] <;> exact rfl); decide +kernel) | ((with_reducible apply i_kBo); rfl) | ((first | ((with_reducible apply i_V); rfl; rfl; rfl) | ((first | ((with_reducible apply i_E); rfl) | ((with_reducible apply i_S); rfl)); first | rfl | (simp only [push_cast, ↓reduceIte])) | ((with_reducible apply i_Vq); rfl; rfl) | ((with_reducible apply i_Vp); rfl; rfl; rfl) | (with_reducible first | apply i_Gb | apply i_cond)); (simp (disch := (first | omega | (simp only [push_cast]; first | done | omega))) only [push_cast, ↓reduceIte, Nat.reduceEqDiff, Nat.reduceBEq, Nat.reduceAdd, Nat.reduceSub, Int.reduceToNat, *] <;> with_reducible exact rfl); all_goals try (first | (with_reducible first | refine hyT ?_ | refine hyF ?_ | exact hyA | exact hyB) | (intro hX; first | (cases hX; done) | ((try simp only [decide_eq_true_eq, decide_eq_false_iff_not, Bool.not_eq_true', Bool.not_eq_false'] at hX); (try have hXb := inB_iff.1 hX))))))
  all_goals ((first | apply i_end | apply i_endN); simp (disch := (first | omega | (simp only [push_cast]; first | done | omega))) only [push_cast, ↓reduceIte, Nat.reduceEqDiff, Nat.reduceBEq, Nat.reduceAdd, Nat.reduceSub, Int.reduceToNat, *])
  all_goals (first | (simp_all [inB]; done) | (simp_all [inB]; omega))
noncomputable def GWv : Ctx := { fn := fun f => if f = 124 then some φSmall else if f = 86 then some φIn else none, io := fun f => none }
theorem GWv_ok : SoundΓ Tryd.prog GWv := ⟨(fun f φ h => by
  unfold GWv at h
  dsimp only at h
  split at h
  · rename_i hf; cases h; subst hf; exact ⟨⟨_, Tryd.func124, rfl, rfl⟩, isSmall_ok⟩
  split at h
  · rename_i hf; cases h; subst hf; exact ⟨⟨_, Tryd.func86, rfl, rfl⟩, in_ok⟩
  cases h), (fun f φ h => by
  unfold GWv at h
  dsimp only at h
  cases h), rfl⟩
theorem GWv_124 (ob : Objs) (ps : List PV) : evCall GWv ob 124 ps = (ps.mapM (reify false 0 ob fuel)).bind φSmall := by
  have h : GWv.fn 124 = some φSmall := by simp [GWv]
  unfold evCall
  rw [h]
  cases ps.mapM (reify false 0 ob fuel) <;> rfl
theorem GWv_86 (ob : Objs) (ps : List PV) : evCall GWv ob 86 ps = (ps.mapM (reify false 0 ob fuel)).bind φIn := by
  have h : GWv.fn 86 = some φIn := by simp [GWv]
  unfold evCall
  rw [h]
  cases ps.mapM (reify false 0 ob fuel) <;> rfl
set_option maxHeartbeats 4000000 in
theorem implWordValid_ok : Sound Tryd.prog 104 φWord := by
  refine sound_pq mixed GWv_ok Tryd.func104 rfl 18 rfl [.tmp 2] rfl (by kernel_rfl) fun ps r hr => ?_
  obtain ⟨s, rfl, hq⟩ := F1_some hr
  clear hr
  split at hq
  case isFalse => cases hq
  case isTrue hlen =>
  cases hq
  refine ⟨by simp, ?_⟩
  simp only [dIs, dUs, dSs, dI_e, dU_e, dB_e, dS_e, dFn_e, dL_e, dA2_e, dA3_e, dA4_e, dA5_e]
  have gwv_c124 := GWv_124; have gwv_c86 := GWv_86; have ap := φSmall_ap; have ap2 := φIn_ap
  repeat' (first | (with_reducible first | apply i_seq | apply i_block | apply i_skip | apply i_exit | apply i_ret | apply i_kS | apply i_kSx | apply i_kSr | apply i_kL | apply i_kLx | apply i_kLr | apply i_kB | apply i_kBr | apply i_kBs | apply i_nil) | ((with_reducible apply i_region); (simp only [List.map_cons, List.map_nil] <;> exact rfl)) | ((with_reducible apply i_draw); (simp only [List.map_cons, List.map_nil] <;> exact rfl); decide +kernel) | ((with_reducible apply i_kBo); rfl) | ((first | ((with_reducible apply i_V); rfl; rfl; rfl) | ((first | ((with_reducible apply i_E); rfl) | ((with_reducible apply i_S); rfl)); first | rfl | (simp only [push_cast, ↓reduceIte])) | ((with_reducible apply i_Vq); rfl; rfl) | ((with_reducible apply i_Vp); rfl; rfl; rfl) | (with_reducible first | apply i_Gb | apply i_cond)); (simp (disch := (first | omega | (simp only [push_cast]; first | done | omega))) only [push_cast, ↓reduceIte, Nat.reduceEqDiff, Nat.reduceBEq, Nat.reduceAdd, Nat.reduceSub, Int.reduceToNat, *] <;> with_reducible exact rfl); all_goals try (first | (with_reducible first | refine hyT ?_ | refine hyF ?_ | exact hyA | exact hyB) | (intro hX; first | (cases hX; done) | ((try simp only [decide_eq_true_eq, decide_eq_false_iff_not, Bool.not_eq_true', Bool.not_eq_false'] at hX); (try have hXb := inB_iff.1 hX))))))
  refine i_loop (α := Nat) mixed (fun k => [(0, sv s), (5, iv s.size), (6, iv k)]) (fun _ => []) (fun _ => 0)
    (fun k => k ≤ s.size ∧ ∀ j, j < k → 97 ≤ at8 s j ∧ at8 s j ≤ 122) (fun k => s.size - k) (by kernel_rfl) 0 ⟨Nat.zero_le _, fun j hj => by omega⟩ ?_ trivial rfl ?_
  · simp only [push_cast, ↓reduceIte, Nat.reduceEqDiff, Nat.reduceBEq, Nat.reduceAdd, Nat.reduceSub, Int.reduceToNat]
  · intro k ⟨hk, hok⟩
    have hrk := at8_rng s k
    repeat' (first | (with_reducible first | apply i_seq | apply i_block | apply i_skip | apply i_exit | apply i_ret | apply i_kS | apply i_kSx | apply i_kSr | apply i_kL | apply i_kLx | apply i_kLr | apply i_kB | apply i_kBr | apply i_kBs | apply i_nil) | ((with_reducible apply i_region); (simp only [List.map_cons, List.map_nil] <;> exact rfl)) | ((with_reducible apply i_draw); (simp only [List.map_cons, List.map_nil] <;> exact rfl); decide +kernel) | ((with_reducible apply i_kBo); rfl) | ((first | ((with_reducible apply i_V); rfl; rfl; rfl) | ((first | ((with_reducible apply i_E); rfl) | ((with_reducible apply i_S); rfl)); first | rfl | (simp only [push_cast, ↓reduceIte])) | ((with_reducible apply i_Vq); rfl; rfl) | ((with_reducible apply i_Vp); rfl; rfl; rfl) | (with_reducible first | apply i_Gb | apply i_cond)); (simp (disch := (first | omega | (simp only [push_cast]; first | done | omega))) only [push_cast, ↓reduceIte, Nat.reduceEqDiff, Nat.reduceBEq, Nat.reduceAdd, Nat.reduceSub, Int.reduceToNat, *] <;> with_reducible exact rfl); all_goals try (first | (with_reducible first | refine hyT ?_ | refine hyF ?_ | exact hyA | exact hyB) | (intro hX; first | (cases hX; done) | ((try simp only [decide_eq_true_eq, decide_eq_false_iff_not, Bool.not_eq_true', Bool.not_eq_false'] at hX); (try have hXb := inB_iff.1 hX))))))
    all_goals try ((first | apply i_end | apply i_endN); simp (disch := (first | omega | (simp only [push_cast]; first | done | omega))) only [push_cast, ↓reduceIte, Nat.reduceEqDiff, Nat.reduceBEq, Nat.reduceAdd, Nat.reduceSub, Int.reduceToNat, *])
    · rw [wordB_no (s := s) (k := k) (by omega) (by (simp_all [inB]; try omega))]
    · refine ⟨k + 1, ⟨by omega, fun j hj => ?_⟩, by dsimp only; omega, by simp only [push_cast, ↓reduceIte, Nat.reduceEqDiff, Nat.reduceBEq, Nat.reduceAdd, Nat.reduceSub, Int.reduceToNat], trivial, rfl⟩
      by_cases h1 : j < k
      · exact hok j h1
      · have : j = k := by omega
        subst this
        simp_all [inB]
    · rw [wordB_yes fun j hj => hok j (by omega)]
noncomputable def GWs : Ctx := { fn := fun f => if f = 48 then some φIn else none, io := fun f => none }
theorem GWs_ok : SoundΓ Tryd.prog GWs := ⟨(fun f φ h => by
  unfold GWs at h
  dsimp only at h
  split at h
  · rename_i hf; cases h; subst hf; exact ⟨⟨_, Tryd.func48, rfl, rfl⟩, l1In_ok⟩
  cases h), (fun f φ h => by
  unfold GWs at h
  dsimp only at h
  cases h), rfl⟩
theorem GWs_48 (ob : Objs) (ps : List PV) : evCall GWs ob 48 ps = (ps.mapM (reify false 0 ob fuel)).bind φIn := by
  have h : GWs.fn 48 = some φIn := by simp [GWs]
  unfold evCall
  rw [h]
  cases ps.mapM (reify false 0 ob fuel) <;> rfl
set_option maxHeartbeats 4000000 in
theorem specWordValid_ok : Sound Tryd.prog 101 φWord := by
  refine sound_pq mixed GWs_ok Tryd.func101 rfl 23 rfl [.tmp 2] rfl (by kernel_rfl) fun ps r hr => ?_
  obtain ⟨s, rfl, hq⟩ := F1_some hr
  clear hr
  split at hq
  case isFalse => cases hq
  case isTrue hlen =>
  cases hq
  refine ⟨by simp, ?_⟩
  simp only [dIs, dUs, dSs, dI_e, dU_e, dB_e, dS_e, dFn_e, dL_e, dA2_e, dA3_e, dA4_e, dA5_e]
  have gws_c48 := GWs_48; have ap2 := φIn_ap
  (refine wlkX ?_; intros)
  refine i_loop (α := Nat) mixed (fun k => [(0, sv s), (3, iv k)]) (fun _ => []) (fun _ => 0)
    (fun k => k ≤ s.size ∧ ∀ j, j < k → 97 ≤ at8 s j ∧ at8 s j ≤ 122) (fun k => s.size - k) (by kernel_rfl) 0 ⟨Nat.zero_le _, fun j hj => by omega⟩ ?_ trivial rfl ?_
  · simp only [push_cast, ↓reduceIte, Nat.reduceEqDiff, Nat.reduceBEq, Nat.reduceAdd, Nat.reduceSub, Int.reduceToNat]
  · intro k ⟨hk, hok⟩
    have hrk := at8_rng s k
    repeat' (first | (with_reducible first | apply i_seq | apply i_block | apply i_skip | apply i_exit | apply i_ret | apply i_kS | apply i_kSx | apply i_kSr | apply i_kL | apply i_kLx | apply i_kLr | apply i_kB | apply i_kBr | apply i_kBs | apply i_nil) | ((with_reducible apply i_region); (simp only [List.map_cons, List.map_nil] <;> exact rfl)) | ((with_reducible apply i_draw); (simp only [List.map_cons, List.map_nil] <;> exact rfl); decide +kernel) | ((with_reducible apply i_kBo); rfl) | ((first | ((with_reducible apply i_V); rfl; rfl; rfl) | ((first | ((with_reducible apply i_E); rfl) | ((with_reducible apply i_S); rfl)); first | rfl | (simp only [push_cast, ↓reduceIte])) | ((with_reducible apply i_Vq); rfl; rfl) | ((with_reducible apply i_Vp); rfl; rfl; rfl) | (with_reducible first | apply i_Gb | apply i_cond)); (simp (disch := (first | omega | (simp only [push_cast]; first | done | omega))) only [push_cast, ↓reduceIte, Nat.reduceEqDiff, Nat.reduceBEq, Nat.reduceAdd, Nat.reduceSub, Int.reduceToNat, *] <;> with_reducible exact rfl); all_goals try (first | (with_reducible first | refine hyT ?_ | refine hyF ?_ | exact hyA | exact hyB) | (intro hX; first | (cases hX; done) | ((try simp only [decide_eq_true_eq, decide_eq_false_iff_not, Bool.not_eq_true', Bool.not_eq_false'] at hX); (try have hXb := inB_iff.1 hX))))))
    all_goals try ((first | apply i_end | apply i_endN); simp (disch := (first | omega | (simp only [push_cast]; first | done | omega))) only [push_cast, ↓reduceIte, Nat.reduceEqDiff, Nat.reduceBEq, Nat.reduceAdd, Nat.reduceSub, Int.reduceToNat, *])
    all_goals try (rw [wordB_no (s := s) (k := k) (by omega) (by omega)]; done)
    all_goals try (rw [wordB_yes fun j hj => hok j (by omega)]; done)
    all_goals
      refine ⟨k + 1, ⟨by omega, fun j hj => ?_⟩, by dsimp only; omega, by simp only [push_cast, ↓reduceIte, Nat.reduceEqDiff, Nat.reduceBEq, Nat.reduceAdd, Nat.reduceSub, Int.reduceToNat], trivial, rfl⟩
      by_cases h1 : j < k
      · exact hok j h1
      · have : j = k := by omega
        subst this
        simp_all
        try omega
def φPage : Fun := F1 dI fun n => some (bv (inB n 1 999))
theorem φPage_ap (n : Int) : φPage [.val (.int .i64 n)] = some (.val (.bool (inB n 1 999))) := rfl
noncomputable def GPg : Ctx := { fn := fun f => if f = 86 then some φIn else none, io := fun f => none }
theorem GPg_ok : SoundΓ Tryd.prog GPg := ⟨(fun f φ h => by
  unfold GPg at h
  dsimp only at h
  split at h
  · rename_i hf; cases h; subst hf; exact ⟨⟨_, Tryd.func86, rfl, rfl⟩, in_ok⟩
  cases h), (fun f φ h => by
  unfold GPg at h
  dsimp only at h
  cases h), rfl⟩
theorem GPg_86 (ob : Objs) (ps : List PV) : evCall GPg ob 86 ps = (ps.mapM (reify false 0 ob fuel)).bind φIn := by
  have h : GPg.fn 86 = some φIn := by simp [GPg]
  unfold evCall
  rw [h]
  cases ps.mapM (reify false 0 ob fuel) <;> rfl
theorem isPage_ok : Sound Tryd.prog 52 φPage := by
  refine sound_pq mixed GPg_ok Tryd.func52 rfl 5 rfl [.tmp 2] rfl (by kernel_rfl) fun ps r hr => ?_
  obtain ⟨n, rfl, hr⟩ := F1_some hr
  cases hr
  refine ⟨by simp, ?_⟩
  simp only [dIs, dUs, dSs, dI_e, dU_e, dB_e, dS_e, dFn_e, dL_e, dA2_e, dA3_e, dA4_e, dA5_e]
  have gpg_c86 := GPg_86; have ap := φIn_ap
  (refine wlkX ?_; intros)
  all_goals (exact fnF)
def badW (x : W2) : Bool := !wordB x.1 || !inB x.2 1 999
def φBadW : Fun := F1 dW2 fun x => if x.1.size ≤ 1099511627776 then some (bv (badW x)) else none
theorem φBadW_ap {s : ByteArray} {n : Int} (h : s.size ≤ 1099511627776) : φBadW [.agg [.val (.string s), .val (.int .i64 n)]] = some (.val (.bool (badW (s, n)))) :=
  (F1_ap (A := dW2) (s, n)).trans (if_pos h)
noncomputable def GIc : Ctx := { fn := fun f => if f = 104 then some φWord else if f = 52 then some φPage else none, io := fun f => none }
theorem GIc_ok : SoundΓ Tryd.prog GIc := ⟨(fun f φ h => by
  unfold GIc at h
  dsimp only at h
  split at h
  · rename_i hf; cases h; subst hf; exact ⟨⟨_, Tryd.func104, rfl, rfl⟩, implWordValid_ok⟩
  split at h
  · rename_i hf; cases h; subst hf; exact ⟨⟨_, Tryd.func52, rfl, rfl⟩, isPage_ok⟩
  cases h), (fun f φ h => by
  unfold GIc at h
  dsimp only at h
  cases h), rfl⟩
theorem GIc_104 (ob : Objs) (ps : List PV) : evCall GIc ob 104 ps = (ps.mapM (reify false 0 ob fuel)).bind φWord := by
  have h : GIc.fn 104 = some φWord := by simp [GIc]
  unfold evCall
  rw [h]
  cases ps.mapM (reify false 0 ob fuel) <;> rfl
theorem GIc_52 (ob : Objs) (ps : List PV) : evCall GIc ob 52 ps = (ps.mapM (reify false 0 ob fuel)).bind φPage := by
  have h : GIc.fn 52 = some φPage := by simp [GIc]
  unfold evCall
  rw [h]
  cases ps.mapM (reify false 0 ob fuel) <;> rfl
set_option maxHeartbeats 4000000 in
theorem indexFn_ok : Sound Tryd.prog 103 φBadW := by
  refine sound_pq mixed GIc_ok Tryd.func103 rfl 13 rfl [.tmp 2] rfl (by kernel_rfl) fun ps r hr => ?_
  obtain ⟨⟨s, n⟩, rfl, hq⟩ := F1_some hr
  clear hr
  split at hq
  case isFalse => cases hq
  case isTrue hlen =>
  cases hq
  dsimp only at hlen
  refine ⟨by simp, ?_⟩
  simp only [dIs, dUs, dSs, dI_e, dU_e, dB_e, dS_e, dFn_e, dL_e, dA2_e, dA3_e, dA4_e, dA5_e]
  have gic_c104 := GIc_104; have gic_c52 := GIc_52; have ap := @φWord_ap; have ap2 := φPage_ap
  repeat' (first | (with_reducible first | apply i_seq | apply i_block | apply i_skip | apply i_exit | apply i_ret | apply i_kS | apply i_kSx | apply i_kSr | apply i_kL | apply i_kLx | apply i_kLr | apply i_kB | apply i_kBr | apply i_kBs | apply i_nil) | ((with_reducible apply i_region); (simp only [List.map_cons, List.map_nil] <;> exact rfl)) | ((with_reducible apply i_draw); (simp only [List.map_cons, List.map_nil] <;> exact rfl); decide +kernel) | ((with_reducible apply i_kBo); rfl) | ((first | ((with_reducible apply i_V); rfl; rfl; rfl) | ((first | ((with_reducible apply i_E); rfl) | ((with_reducible apply i_S); rfl)); first | rfl | (simp only [push_cast, ↓reduceIte])) | ((with_reducible apply i_Vq); rfl; rfl) | ((with_reducible apply i_Vp); rfl; rfl; rfl) | (with_reducible first | apply i_Gb | apply i_cond)); (simp (disch := (first | omega | (simp only [push_cast]; first | done | omega))) only [push_cast, ↓reduceIte, Nat.reduceEqDiff, Nat.reduceBEq, Nat.reduceAdd, Nat.reduceSub, Int.reduceToNat, *] <;> with_reducible exact rfl); all_goals try (first | (with_reducible first | refine hyT ?_ | refine hyF ?_ | exact hyA | exact hyB) | (intro hX; first | (cases hX; done) | ((try simp only [decide_eq_true_eq, decide_eq_false_iff_not, Bool.not_eq_true', Bool.not_eq_false'] at hX); (try have hXb := inB_iff.1 hX))))))
  all_goals ((first | apply i_end | apply i_endN); simp (disch := (first | omega | (simp only [push_cast]; first | done | omega))) only [push_cast, ↓reduceIte, Nat.reduceEqDiff, Nat.reduceBEq, Nat.reduceAdd, Nat.reduceSub, Int.reduceToNat, *])
  all_goals simp_all [badW]
def firstAtG {α : Type} (p : α → Bool) (zs : List α) : Int := match zs.findIdx? p with | some i => i | none => -1
theorem firstAtG_found {α : Type} {d : α} {p : α → Bool} {zs : List α} {k : Nat} (h : ∀ j, j < k → p (zs[j]?.getD d) = false) (hk : k < zs.length) (hp : p (zs[k]?.getD d) = true) : firstAtG p zs = k := by
  have : zs.findIdx? p = some k := by
    rw [List.findIdx?_eq_some_iff_getElem]
    refine ⟨hk, by simpa [hk] using hp, fun j hj => ?_⟩
    have := h j hj
    simpa [show j < zs.length by omega] using this
  simp [firstAtG, this]
theorem firstAtG_none {α : Type} {d : α} {p : α → Bool} {zs : List α} (h : ∀ j, j < zs.length → p (zs[j]?.getD d) = false) : firstAtG p zs = -1 := by
  have : zs.findIdx? p = none := by
    rw [List.findIdx?_eq_none_iff]
    intro x hx
    obtain ⟨j, hj, rfl⟩ := List.getElem_of_mem hx
    simpa [hj] using h j hj
  simp [firstAtG, this]
theorem firstAtG_any {α : Type} (p : α → Bool) (zs : List α) : decide (0 ≤ firstAtG p zs) = zs.any p := by
  unfold firstAtG
  split
  · rename_i i h
    rw [List.findIdx?_eq_some_iff_getElem] at h
    obtain ⟨h1, h2, _⟩ := h
    have : zs.any p = true := List.any_eq_true.2 ⟨_, List.getElem_mem h1, h2⟩
    simp [this]
  · rename_i h
    rw [List.findIdx?_eq_none_iff] at h
    have : zs.any p = false := by
      rw [List.any_eq_false]
      intro x hx
      simp [h x hx]
    simp [this]
theorem any_splitG {α : Type} {d : α} {zs : List α} {p : α → Bool} {k : Nat} (hk : k < zs.length) (hp : p (zs[k]?.getD d) = true) : zs.any p = true :=
  List.any_eq_true.2 ⟨zs[k], List.getElem_mem hk, by simpa [hk] using hp⟩
theorem any_noneG {α : Type} {d : α} {zs : List α} {p : α → Bool} (h : ∀ j, j < zs.length → p (zs[j]?.getD d) = false) : zs.any p = false := by
  rw [List.any_eq_false]
  intro x hx
  obtain ⟨j, hj, rfl⟩ := List.getElem_of_mem hx
  simpa [hj] using h j hj
abbrev okW (l : List W2) : Prop := l.length ≤ 1099511627776 ∧ ∀ i : Nat, (l[i]?.getD w0).1.size ≤ 1099511627776
noncomputable instance (l : List W2) : Decidable (okW l) := Classical.propDecidable _
abbrev dWs : Dec (List W2) := dL 2 dW2
noncomputable def φIdxW : Fun := F2 dWs (dFn 103) fun l _ => if okW l then some (iv (firstAtG badW l)) else none
noncomputable def GXw : Ctx := { fn := fun f => if f = 103 then some φBadW else none, io := fun f => none }
theorem GXw_ok : SoundΓ Tryd.prog GXw := ⟨(fun f φ h => by
  unfold GXw at h
  dsimp only at h
  split at h
  · rename_i hf; cases h; subst hf; exact ⟨⟨_, Tryd.func103, rfl, rfl⟩, indexFn_ok⟩
  cases h), (fun f φ h => by
  unfold GXw at h
  dsimp only at h
  cases h), rfl⟩
theorem GXw_103 (ob : Objs) (ps : List PV) : evCall GXw ob 103 ps = (ps.mapM (reify false 0 ob fuel)).bind φBadW := by
  have h : GXw.fn 103 = some φBadW := by simp [GXw]
  unfold evCall
  rw [h]
  cases ps.mapM (reify false 0 ob fuel) <;> rfl
set_option maxHeartbeats 4000000 in
theorem idxW_ok : Sound Tryd.prog 123 φIdxW := by
  refine sound_pq mixed GXw_ok Tryd.func123 rfl 19 rfl [.tmp 4] rfl (by kernel_rfl) fun ps r hr => ?_
  obtain ⟨l, u, rfl, hq⟩ := F2_some hr
  clear hr
  split at hq
  case isFalse => cases hq
  case isTrue hok =>
  cases hq
  obtain ⟨hlen, hsz⟩ := hok
  refine ⟨by simp, ?_⟩
  simp only [dIs, dUs, dSs, dI_e, dU_e, dB_e, dS_e, dFn_e, dL_e, dA2_e, dA3_e, dA4_e, dA5_e]
  have gxw_c103 := GXw_103
  repeat' (first | (with_reducible first | apply i_seq | apply i_block | apply i_skip | apply i_exit | apply i_ret | apply i_kS | apply i_kSx | apply i_kSr | apply i_kL | apply i_kLx | apply i_kLr | apply i_kB | apply i_kBr | apply i_kBs | apply i_nil) | ((with_reducible apply i_region); (simp only [List.map_cons, List.map_nil] <;> exact rfl)) | ((with_reducible apply i_draw); (simp only [List.map_cons, List.map_nil] <;> exact rfl); decide +kernel) | ((with_reducible apply i_kBo); rfl) | ((first | ((with_reducible apply i_V); rfl; rfl; rfl) | ((first | ((with_reducible apply i_E); rfl) | ((with_reducible apply i_S); rfl)); first | rfl | (simp only [push_cast, ↓reduceIte])) | ((with_reducible apply i_Vq); rfl; rfl) | ((with_reducible apply i_Vp); rfl; rfl; rfl) | (with_reducible first | apply i_Gb | apply i_cond)); (simp (disch := (first | omega | (simp only [push_cast]; first | done | omega))) only [push_cast, ↓reduceIte, Nat.reduceEqDiff, Nat.reduceBEq, Nat.reduceAdd, Nat.reduceSub, Int.reduceToNat, *] <;> with_reducible exact rfl); all_goals try (first | (with_reducible first | refine hyT ?_ | refine hyF ?_ | exact hyA | exact hyB) | (intro hX; first | (cases hX; done) | ((try simp only [decide_eq_true_eq, decide_eq_false_iff_not, Bool.not_eq_true', Bool.not_eq_false'] at hX); (try have hXb := inB_iff.1 hX))))))
  refine i_loop (α := Nat) mixed (fun k => [(0, .lst false 2 (l.map fun x => .agg [.val (.string x.1), .val (.int .i64 x.2)])), (1, .val (.func (.func 103) #[] #[])), (7, iv l.length), (8, iv k)]) (fun _ => []) (fun _ => 0)
    (fun k => k ≤ l.length ∧ ∀ j, j < k → badW (l[j]?.getD w0) = false) (fun k => l.length - k) (by kernel_rfl) 0 ⟨Nat.zero_le _, fun j hj => by omega⟩ ?_ trivial rfl ?_
  · simp only [push_cast, ↓reduceIte, Nat.reduceEqDiff, Nat.reduceBEq, Nat.reduceAdd, Nat.reduceSub, Int.reduceToNat]
  · intro k ⟨hk, hok⟩
    have ap := @φBadW_ap _ (l[k]?.getD w0).2 (hsz k)
    clear hsz
    repeat' (first | (with_reducible first | apply i_seq | apply i_block | apply i_skip | apply i_exit | apply i_ret | apply i_kS | apply i_kSx | apply i_kSr | apply i_kL | apply i_kLx | apply i_kLr | apply i_kB | apply i_kBr | apply i_kBs | apply i_nil) | ((with_reducible apply i_region); (simp only [List.map_cons, List.map_nil] <;> exact rfl)) | ((with_reducible apply i_draw); (simp only [List.map_cons, List.map_nil] <;> exact rfl); decide +kernel) | ((with_reducible apply i_kBo); rfl) | ((first | ((with_reducible apply i_V); rfl; rfl; rfl) | ((first | ((with_reducible apply i_E); rfl) | ((with_reducible apply i_S); rfl)); first | rfl | (simp only [push_cast, ↓reduceIte])) | ((with_reducible apply i_Vq); rfl; rfl) | ((with_reducible apply i_Vp); rfl; rfl; rfl) | (with_reducible first | apply i_Gb | apply i_cond)); (simp (disch := (first | omega | (simp only [push_cast]; first | done | omega))) only [push_cast, ↓reduceIte, Nat.reduceEqDiff, Nat.reduceBEq, Nat.reduceAdd, Nat.reduceSub, Int.reduceToNat, *] <;> with_reducible exact rfl); all_goals try (first | (with_reducible first | refine hyT ?_ | refine hyF ?_ | exact hyA | exact hyB) | (intro hX; first | (cases hX; done) | ((try simp only [decide_eq_true_eq, decide_eq_false_iff_not, Bool.not_eq_true', Bool.not_eq_false'] at hX); (try have hXb := inB_iff.1 hX))))))
    all_goals try ((first | apply i_end | apply i_endN); simp (disch := (first | omega | (simp only [push_cast]; first | done | omega))) only [push_cast, ↓reduceIte, Nat.reduceEqDiff, Nat.reduceBEq, Nat.reduceAdd, Nat.reduceSub, Int.reduceToNat, *])
    · rw [firstAtG_found (d := w0) hok (by omega) (by simp_all)]
    · refine ⟨k + 1, ⟨by omega, fun j hj => ?_⟩, by dsimp only; omega, by simp only [push_cast, ↓reduceIte, Nat.reduceEqDiff, Nat.reduceBEq, Nat.reduceAdd, Nat.reduceSub, Int.reduceToNat], trivial, rfl⟩
      by_cases h1 : j < k
      · exact hok j h1
      · have : j = k := by omega
        subst this
        simp_all
    · rw [firstAtG_none (d := w0) fun j hj => hok j (by omega)]
theorem φIdxW_ap {l : List W2} (h : okW l) : φIdxW [.lst false 2 (l.map fun x => .agg [.val (.string x.1), .val (.int .i64 x.2)]), .val (.func (.func 103) #[] #[])] = some (.val (.int .i64 (firstAtG badW l))) :=
  (F2_ap (A := dWs) (B := dFn 103) l ()).trans (if_pos h)
noncomputable def φConW : Fun := F2 dWs (dFn 103) fun l _ => if okW l then some (bv (l.any badW)) else none
theorem φConW_ap {l : List W2} (h : okW l) : φConW [.lst false 2 (l.map fun x => .agg [.val (.string x.1), .val (.int .i64 x.2)]), .val (.func (.func 103) #[] #[])] = some (.val (.bool (l.any badW))) :=
  (F2_ap (A := dWs) (B := dFn 103) l ()).trans (if_pos h)
noncomputable def GCw : Ctx := { fn := fun f => if f = 123 then some φIdxW else none, io := fun f => none }
theorem GCw_ok : SoundΓ Tryd.prog GCw := ⟨(fun f φ h => by
  unfold GCw at h
  dsimp only at h
  split at h
  · rename_i hf; cases h; subst hf; exact ⟨⟨_, Tryd.func123, rfl, rfl⟩, idxW_ok⟩
  cases h), (fun f φ h => by
  unfold GCw at h
  dsimp only at h
  cases h), rfl⟩
theorem GCw_123 (ob : Objs) (ps : List PV) : evCall GCw ob 123 ps = (ps.mapM (reify false 0 ob fuel)).bind φIdxW := by
  have h : GCw.fn 123 = some φIdxW := by simp [GCw]
  unfold evCall
  rw [h]
  cases ps.mapM (reify false 0 ob fuel) <;> rfl
theorem conW_ok : Sound Tryd.prog 102 φConW := by
  refine sound_pq mixed GCw_ok Tryd.func102 rfl 9 rfl [.tmp 4] rfl (by kernel_rfl) fun ps r hr => ?_
  obtain ⟨l, u, rfl, hq⟩ := F2_some hr
  clear hr
  split at hq
  case isFalse => cases hq
  case isTrue hok =>
  cases hq
  have ap := φIdxW_ap hok
  clear hok
  refine ⟨by simp, ?_⟩
  simp only [dIs, dUs, dSs, dI_e, dU_e, dB_e, dS_e, dFn_e, dL_e, dA2_e, dA3_e, dA4_e, dA5_e]
  have gcw_c123 := GCw_123
  repeat' (first | (with_reducible first | apply i_seq | apply i_block | apply i_skip | apply i_exit | apply i_ret | apply i_kS | apply i_kSx | apply i_kSr | apply i_kL | apply i_kLx | apply i_kLr | apply i_kB | apply i_kBr | apply i_kBs | apply i_nil) | ((with_reducible apply i_region); (simp only [List.map_cons, List.map_nil] <;> exact rfl)) | ((with_reducible apply i_draw); (simp only [List.map_cons, List.map_nil] <;> exact rfl); decide +kernel) | ((with_reducible apply i_kBo); rfl) | ((first | ((with_reducible apply i_V); rfl; rfl; rfl) | ((first | ((with_reducible apply i_E); rfl) | ((with_reducible apply i_S); rfl)); first | rfl | (simp only [push_cast, ↓reduceIte])) | ((with_reducible apply i_Vq); rfl; rfl) | ((with_reducible apply i_Vp); rfl; rfl; rfl) | (with_reducible first | apply i_Gb | apply i_cond)); (simp (disch := (first | omega | (simp only [push_cast]; first | done | omega))) only [push_cast, ↓reduceIte, Nat.reduceEqDiff, Nat.reduceBEq, Nat.reduceAdd, Nat.reduceSub, Int.reduceToNat, *] <;> with_reducible exact rfl); all_goals try (first | (with_reducible first | refine hyT ?_ | refine hyF ?_ | exact hyA | exact hyB) | (intro hX; first | (cases hX; done) | ((try simp only [decide_eq_true_eq, decide_eq_false_iff_not, Bool.not_eq_true', Bool.not_eq_false'] at hX); (try have hXb := inB_iff.1 hX))))))
  all_goals ((first | apply i_end | apply i_endN); simp (disch := (first | omega | (simp only [push_cast]; first | done | omega))) only [push_cast, ↓reduceIte, Nat.reduceEqDiff, Nat.reduceBEq, Nat.reduceAdd, Nat.reduceSub, Int.reduceToNat, *])
  all_goals rw [firstAtG_any]
def indexB (l : List W2) : Bool := decide (l.length ≤ 30) && !l.any badW
noncomputable def φIndexValid : Fun := F1 dWs fun l => if okW l then some (bv (indexB l)) else none
theorem φIndexValid_ap {l : List W2} (h : okW l) : φIndexValid [.lst false 2 (l.map fun x => .agg [.val (.string x.1), .val (.int .i64 x.2)])] = some (.val (.bool (indexB l))) :=
  (F1_ap (A := dWs) l).trans (if_pos h)
noncomputable def GIi : Ctx := { fn := fun f => if f = 102 then some φConW else none, io := fun f => none }
theorem GIi_ok : SoundΓ Tryd.prog GIi := ⟨(fun f φ h => by
  unfold GIi at h
  dsimp only at h
  split at h
  · rename_i hf; cases h; subst hf; exact ⟨⟨_, Tryd.func102, rfl, rfl⟩, conW_ok⟩
  cases h), (fun f φ h => by
  unfold GIi at h
  dsimp only at h
  cases h), rfl⟩
theorem GIi_102 (ob : Objs) (ps : List PV) : evCall GIi ob 102 ps = (ps.mapM (reify false 0 ob fuel)).bind φConW := by
  have h : GIi.fn 102 = some φConW := by simp [GIi]
  unfold evCall
  rw [h]
  cases ps.mapM (reify false 0 ob fuel) <;> rfl
set_option maxHeartbeats 4000000 in
theorem implIndexValid_ok : Sound Tryd.prog 78 φIndexValid := by
  refine sound_pq mixed GIi_ok Tryd.func78 rfl 11 rfl [.tmp 2] rfl (by kernel_rfl) fun ps r hr => ?_
  obtain ⟨l, rfl, hq⟩ := F1_some hr
  clear hr
  split at hq
  case isFalse => cases hq
  case isTrue hok =>
  cases hq
  have hlen := hok.1
  have ap := φConW_ap hok
  clear hok
  refine ⟨by simp, ?_⟩
  simp only [dIs, dUs, dSs, dI_e, dU_e, dB_e, dS_e, dFn_e, dL_e, dA2_e, dA3_e, dA4_e, dA5_e]
  have gii_c102 := GIi_102
  repeat' (first | (with_reducible first | apply i_seq | apply i_block | apply i_skip | apply i_exit | apply i_ret | apply i_kS | apply i_kSx | apply i_kSr | apply i_kL | apply i_kLx | apply i_kLr | apply i_kB | apply i_kBr | apply i_kBs | apply i_nil) | ((with_reducible apply i_region); (simp only [List.map_cons, List.map_nil] <;> exact rfl)) | ((with_reducible apply i_draw); (simp only [List.map_cons, List.map_nil] <;> exact rfl); decide +kernel) | ((with_reducible apply i_kBo); rfl) | ((first | ((with_reducible apply i_V); rfl; rfl; rfl) | ((first | ((with_reducible apply i_E); rfl) | ((with_reducible apply i_S); rfl)); first | rfl | (simp only [push_cast, ↓reduceIte])) | ((with_reducible apply i_Vq); rfl; rfl) | ((with_reducible apply i_Vp); rfl; rfl; rfl) | (with_reducible first | apply i_Gb | apply i_cond)); (simp (disch := (first | omega | (simp only [push_cast]; first | done | omega))) only [push_cast, ↓reduceIte, Nat.reduceEqDiff, Nat.reduceBEq, Nat.reduceAdd, Nat.reduceSub, Int.reduceToNat, *] <;> with_reducible exact rfl); all_goals try (first | (with_reducible first | refine hyT ?_ | refine hyF ?_ | exact hyA | exact hyB) | (intro hX; first | (cases hX; done) | ((try simp only [decide_eq_true_eq, decide_eq_false_iff_not, Bool.not_eq_true', Bool.not_eq_false'] at hX); (try have hXb := inB_iff.1 hX))))))
  all_goals ((first | apply i_end | apply i_endN); simp (disch := (first | omega | (simp only [push_cast]; first | done | omega))) only [push_cast, ↓reduceIte, Nat.reduceEqDiff, Nat.reduceBEq, Nat.reduceAdd, Nat.reduceSub, Int.reduceToNat, *])
  all_goals (simp_all [indexB]; try omega)
noncomputable def GIs : Ctx := { fn := fun f => if f = 101 then some φWord else if f = 48 then some φIn else none, io := fun f => none }
theorem GIs_ok : SoundΓ Tryd.prog GIs := ⟨(fun f φ h => by
  unfold GIs at h
  dsimp only at h
  split at h
  · rename_i hf; cases h; subst hf; exact ⟨⟨_, Tryd.func101, rfl, rfl⟩, specWordValid_ok⟩
  split at h
  · rename_i hf; cases h; subst hf; exact ⟨⟨_, Tryd.func48, rfl, rfl⟩, l1In_ok⟩
  cases h), (fun f φ h => by
  unfold GIs at h
  dsimp only at h
  cases h), rfl⟩
theorem GIs_101 (ob : Objs) (ps : List PV) : evCall GIs ob 101 ps = (ps.mapM (reify false 0 ob fuel)).bind φWord := by
  have h : GIs.fn 101 = some φWord := by simp [GIs]
  unfold evCall
  rw [h]
  cases ps.mapM (reify false 0 ob fuel) <;> rfl
theorem GIs_48 (ob : Objs) (ps : List PV) : evCall GIs ob 48 ps = (ps.mapM (reify false 0 ob fuel)).bind φIn := by
  have h : GIs.fn 48 = some φIn := by simp [GIs]
  unfold evCall
  rw [h]
  cases ps.mapM (reify false 0 ob fuel) <;> rfl
set_option maxHeartbeats 4000000 in
theorem specIndexValid_ok : Sound Tryd.prog 76 φIndexValid := by
  refine sound_pq mixed GIs_ok Tryd.func76 rfl 29 rfl [.tmp 2] rfl (by kernel_rfl) fun ps r hr => ?_
  obtain ⟨l, rfl, hq⟩ := F1_some hr
  clear hr
  split at hq
  case isFalse => cases hq
  case isTrue hok =>
  cases hq
  obtain ⟨hlen, hsz⟩ := hok
  refine ⟨by simp, ?_⟩
  simp only [dIs, dUs, dSs, dI_e, dU_e, dB_e, dS_e, dFn_e, dL_e, dA2_e, dA3_e, dA4_e, dA5_e]
  have gis_c101 := GIs_101; have gis_c48 := GIs_48
  repeat' (first | (with_reducible first | apply i_seq | apply i_block | apply i_skip | apply i_exit | apply i_ret | apply i_kS | apply i_kSx | apply i_kSr | apply i_kL | apply i_kLx | apply i_kLr | apply i_kB | apply i_kBr | apply i_kBs | apply i_nil) | ((with_reducible apply i_region); (simp only [List.map_cons, List.map_nil] <;> exact rfl)) | ((with_reducible apply i_draw); (simp only [List.map_cons, List.map_nil] <;> exact rfl); decide +kernel) | ((with_reducible apply i_kBo); rfl) | ((first | ((with_reducible apply i_V); rfl; rfl; rfl) | ((first | ((with_reducible apply i_E); rfl) | ((with_reducible apply i_S); rfl)); first | rfl | (simp only [push_cast, ↓reduceIte])) | ((with_reducible apply i_Vq); rfl; rfl) | ((with_reducible apply i_Vp); rfl; rfl; rfl) | (with_reducible first | apply i_Gb | apply i_cond)); (simp (disch := (first | omega | (simp only [push_cast]; first | done | omega))) only [push_cast, ↓reduceIte, Nat.reduceEqDiff, Nat.reduceBEq, Nat.reduceAdd, Nat.reduceSub, Int.reduceToNat, *] <;> with_reducible exact rfl); all_goals try (first | (with_reducible first | refine hyT ?_ | refine hyF ?_ | exact hyA | exact hyB) | (intro hX; first | (cases hX; done) | ((try simp only [decide_eq_true_eq, decide_eq_false_iff_not, Bool.not_eq_true', Bool.not_eq_false'] at hX); (try have hXb := inB_iff.1 hX))))))
  refine i_loop (α := Nat) mixed (fun k => [(0, .lst false 2 (l.map fun x => .agg [.val (.string x.1), .val (.int .i64 x.2)])), (3, iv k)]) (fun _ => []) (fun _ => 0)
    (fun k => k ≤ l.length ∧ ∀ j, j < k → badW (l[j]?.getD w0) = false) (fun k => l.length - k) (by kernel_rfl) 0 ⟨Nat.zero_le _, fun j hj => by omega⟩ ?_ trivial rfl ?_
  · simp only [push_cast, ↓reduceIte, Nat.reduceEqDiff, Nat.reduceBEq, Nat.reduceAdd, Nat.reduceSub, Int.reduceToNat]
  · intro k ⟨hk, hok⟩
    have ap := @φWord_ap (l[k]?.getD w0).1 (hsz k)
    have ap2 := φIn_ap
    clear hsz
    have hb : badW (l[k]?.getD w0) = (!wordB (l[k]?.getD w0).1 || !inB (l[k]?.getD w0).2 1 999) := rfl
    repeat' (first | (with_reducible first | apply i_seq | apply i_block | apply i_skip | apply i_exit | apply i_ret | apply i_kS | apply i_kSx | apply i_kSr | apply i_kL | apply i_kLx | apply i_kLr | apply i_kB | apply i_kBr | apply i_kBs | apply i_nil) | ((with_reducible apply i_region); (simp only [List.map_cons, List.map_nil] <;> exact rfl)) | ((with_reducible apply i_draw); (simp only [List.map_cons, List.map_nil] <;> exact rfl); decide +kernel) | ((with_reducible apply i_kBo); rfl) | ((first | ((with_reducible apply i_V); rfl; rfl; rfl) | ((first | ((with_reducible apply i_E); rfl) | ((with_reducible apply i_S); rfl)); first | rfl | (simp only [push_cast, ↓reduceIte])) | ((with_reducible apply i_Vq); rfl; rfl) | ((with_reducible apply i_Vp); rfl; rfl; rfl) | (with_reducible first | apply i_Gb | apply i_cond)); (simp (disch := (first | omega | (simp only [push_cast]; first | done | omega))) only [push_cast, ↓reduceIte, Nat.reduceEqDiff, Nat.reduceBEq, Nat.reduceAdd, Nat.reduceSub, Int.reduceToNat, *] <;> with_reducible exact rfl); all_goals try (first | (with_reducible first | refine hyT ?_ | refine hyF ?_ | exact hyA | exact hyB) | (intro hX; first | (cases hX; done) | ((try simp only [decide_eq_true_eq, decide_eq_false_iff_not, Bool.not_eq_true', Bool.not_eq_false'] at hX); (try have hXb := inB_iff.1 hX))))))
    all_goals try ((first | apply i_end | apply i_endN); simp (disch := (first | omega | (simp only [push_cast]; first | done | omega))) only [push_cast, ↓reduceIte, Nat.reduceEqDiff, Nat.reduceBEq, Nat.reduceAdd, Nat.reduceSub, Int.reduceToNat, *])
    all_goals try (rw [show indexB l = false from by (unfold indexB; rw [any_splitG (d := w0) (k := k) (by omega) (by simp_all)]; simp)]; done)
    all_goals try (rw [show indexB l = decide (l.length ≤ 30) from by (unfold indexB; rw [any_noneG (d := w0) fun j hj => hok j (by omega)]; simp)]; simp; omega)
    all_goals
      refine ⟨k + 1, ⟨by omega, fun j hj => ?_⟩, by dsimp only; omega, by simp only [push_cast, ↓reduceIte, Nat.reduceEqDiff, Nat.reduceBEq, Nat.reduceAdd, Nat.reduceSub, Int.reduceToNat], trivial, rfl⟩
      by_cases h1 : j < k
      · exact hok j h1
      · have : j = k := by omega
        subst this
        simp_all
end Go.Proofs.YtpggpdbipajchaaDoor
namespace Go.Proofs.YtpggpdbipajchaaDoor
open Go.RowKit
set_option linter.all false
abbrev LS := List ByteArray
section
variable {α β : Type} {n sz sz' f i : Nat} {ob : Objs} {k k' fr : Bool} {l : List LS}
theorem get_ss {g : LS → PV} (h : i < l.length) : ((l[i]?).map g).getD .dead = g ((l[i]?).getD []) := by simp [h]
theorem omg_ss {g : LS → β} (h : i < l.length) : Option.map g l[i]? = some (g ((l[i]?).getD [])) := by simp [h]
theorem mapM_maps {F : PV → Option PV} {g g' : α → PV} (h : ∀ x, F (g x) = some (g' x)) : ∀ {l : List α}, (l.map g).mapM F = some (l.map g')
  | [] => rfl
  | x :: l => by rw [List.map_cons, List.mapM_cons, h x, mapM_maps h]; rfl
theorem reify_strs {m : Nat} {p : LS} : reify false m ob (f + 2) (.lst k sz (p.map fun s => .val (.string s))) = some (.lst false sz (p.map fun s => .val (.string s))) := reifyS_vals
theorem reify_strsT {m : Nat} {p : LS} : reify fr m ob (f + 2) (.lst true sz (p.map fun s => .val (.string s))) = some (.lst fr sz (p.map fun s => .val (.string s))) := by
  cases fr
  · exact reifyS_vals
  · exact reifyT_vals
theorem reifyS_lsts : reify false n ob (f + 3) (.lst k sz (l.map fun p => .lst k' sz' (p.map fun s => .val (.string s)))) = some (.lst false sz (l.map fun p => .lst false sz' (p.map fun s => .val (.string s)))) := by
  show (if false = true ∧ k = false ∧ (l.map fun p => PV.lst k' sz' (p.map fun s => PV.val (.string s))) ≠ [] then none else ((l.map fun p => PV.lst k' sz' (p.map fun s => PV.val (.string s))).mapM (reify false n ob (f + 2))).map (PV.lst false sz)) = _
  rw [mapM_maps (g' := fun p => PV.lst false sz' (p.map fun s => PV.val (.string s))) fun p => reify_strs]
  simp
theorem reifyT_lsts : reify true n ob (f + 3) (.lst true sz (l.map fun p => .lst true sz' (p.map fun s => .val (.string s)))) = some (.lst true sz (l.map fun p => .lst true sz' (p.map fun s => .val (.string s)))) := by
  show (if true = true ∧ true = false ∧ (l.map fun p => PV.lst true sz' (p.map fun s => PV.val (.string s))) ≠ [] then none else ((l.map fun p => PV.lst true sz' (p.map fun s => PV.val (.string s))).mapM (reify true n ob (f + 2))).map (PV.lst true sz)) = _
  rw [mapM_maps (g' := fun p => PV.lst true sz' (p.map fun s => PV.val (.string s))) fun p => reify_strsT]
  simp
theorem rowRe_lsts {m T : Nat} (hm : m = l.length) : rowRe fr (f + 2) ob sz 0 m (some (T, sz, l.map fun p => .lst true sz' (p.map fun s => .val (.string s)))) = some (.lst fr sz (l.map fun p => .lst fr sz' (p.map fun s => .val (.string s)))) := by
  subst hm
  have e : ((l.map fun p => PV.lst true sz' (p.map fun s => PV.val (.string s))).drop 0).take l.length = l.map fun p => PV.lst true sz' (p.map fun s => PV.val (.string s)) := by
    rw [List.drop_zero, List.take_of_length_le (by simp)]
  have e2 := mapM_maps (l := l) (F := reify fr 0 ob (f + 2)) (g := fun p => PV.lst true sz' (p.map fun s => PV.val (.string s))) (g' := fun p => PV.lst fr sz' (p.map fun s => PV.val (.string s))) fun p => reify_strsT
  simp only [rowRe, e, e2, Nat.zero_add, List.length_map, Nat.le_refl, and_self, if_true, Option.map_some]
end
attribute [push_cast]
  get_ss omg_ss reifyS_lsts reifyT_lsts rowRe_lsts
theorem eq_of_getDK {α : Type} {d : α} {xs ys : List α} (hl : xs.length = ys.length) (h : ∀ j, j < xs.length → xs[j]?.getD d = ys[j]?.getD d) : xs = ys := by
  apply List.ext_getElem hl
  intro i h1 h2
  have := h i h1
  simpa [h1, h2] using this
def smallC (c : Int) : Bool := inB c 97 122
def digC (c : Int) : Bool := inB c 48 57
def prevD (s : ByteArray) (k : Nat) : Bool := decide (0 < k) && digC (at8 s (k - 1))
def patAt (s : ByteArray) (k : Nat) : Bool := smallC (at8 s k) || (digC (at8 s k) && !prevD s k) || (decide (at8 s k = 46) && (decide (k = 0) || decide (k + 1 = s.size)))
def anyS (s : ByteArray) (k : Nat) : Bool := (List.range k).any fun j => smallC (at8 s j)
def patB (s : ByteArray) : Bool := (List.range s.size).all (patAt s) && (anyS s s.size && decide (s.size ≤ 12))
theorem patB_yes {s : ByteArray} (h : ∀ j, j < s.size → patAt s j = true) : patB s = (anyS s s.size && decide (s.size ≤ 12)) := by
  have : (List.range s.size).all (patAt s) = true := by
    rw [List.all_eq_true]
    exact fun k hk => h k (List.mem_range.1 hk)
  simp [patB, this]
structure PatI (s : ByteArray) (k : Nat) (n : Int) : Prop where
  kk : k ≤ s.size
  n0 : 0 ≤ n
  n1 : n ≤ k
  all : ∀ j, j < k → patAt s j = true
  any : decide (0 < n) = anyS s k
theorem PatI.zero (s : ByteArray) : PatI s 0 0 := ⟨Nat.zero_le _, by omega, by omega, fun j hj => by omega, rfl⟩
theorem PatI.done {s : ByteArray} {k : Nat} {n : Int} (h : PatI s k n) (hk : ¬ k < s.size) : patB s = (decide (0 < n) && decide (s.size ≤ 12)) := by
  have hk2 := h.kk
  have : k = s.size := by omega
  subst this
  rw [patB_yes h.all, h.any]
end Go.Proofs.YtpggpdbipajchaaDoor
