/- Lemmas. -/
import Derived.Test.YtjaapemopbbfaaaGreatDoorRows
import Derived.Test.YtjaapemopbbfaaaGreatDoorPPointsM03
import Derived.Test.YtjaapemopbbfaaaGreatDoorPPointsM10
import Derived.Test.YtjaapemopbbfaaaGreatDoorPPointsM13
import Derived.Shelf.Strings.Builder1
import Derived.Shelf.Strings.Builder2
import Derived.Shelf.Strings.BuilderF
import Derived.Shelf.Strings.BuilderK
import Derived.Shelf.Strconv.Atoi
import Derived.Shelf.Strconv.Itoa0
import Derived.Shelf.Strconv.Itoa1
import Derived.Shelf.LaysM
import Derived.Shelf.Strconv.Itoa2
import Derived.Shelf.Strconv.Itoa3
import Derived.Shelf.Strings.Search1
import Derived.Shelf.Strings.Search2
import Derived.Shelf.Strings.Search3
import Derived.Shelf.Strings.Cut
import Derived.Shelf.Strings.Count
import Derived.Shelf.Strings.Shaped
import Derived.Shelf.Strings.Prefix
import Derived.Shelf.Strings.Split
import Derived.Shelf.Bits.Mul64
import Derived.Shelf.Strings.Repeat
import Derived.Shelf.Unicode.DecodeSlow
import Derived.Test.YtjaapemopbbfaaaGreatDoorProg
import Derived.Test.YtjaapemopbbfaaaGreatDoorPPointsM01
namespace Go.Proofs.YtjaapemopbbfaaaGreatDoor
section
open Go.RowKit

theorem lowD_snoc : ∀ (l : List Nat) (x : Nat), lowD (l ++ [x]) = padZ (dD x) 9 ++ lowD l
  | [], x => by simp [lowD]
  | y :: l, x => by rw [List.cons_append, lowD, lowD_snoc l x, lowD, List.append_assoc]
theorem lowD_take {l : List Nat} {k : Nat} (h : k < l.length) : lowD (l.take (k + 1)) = padZ (dD (dx l k)) 9 ++ lowD (l.take k) := by
  rw [List.take_add_one, List.getElem?_eq_getElem h]
  simp only [Option.toList]
  rw [lowD_snoc]
  congr 3
  simp [dx, List.getD_eq_getElem?_getD, List.getElem?_eq_getElem h]
theorem Bs_pow (k : Nat) : Bs ^ k = 10 ^ (9 * k) := by rw [show Bs = 10 ^ 9 from rfl, ← Nat.pow_mul]
theorem dD_len540 {N : Nat} (h : (dig N).length ≤ 60) : (dD N).length ≤ 540 := by
  have hk : ∀ k, k = 60 → (dD N).length ≤ 9 * k := fun k hk => dD_len_le (by omega) (by rw [← Bs_pow]; exact dig_len_le.1 (by rw [hk]; exact h))
  exact hk 60 rfl
theorem dx_dig_lt (N k : Nat) : dx (dig N) k < 1000000000 := dx_lt (digs_dig N) k
theorem okN_dig {N : Nat} (h : (dig N).length ≤ 60) : okN (ints (dig N)) = true := okN_of ⟨N, rfl, h⟩
end

section
open Go.Shelf
def Tryz.lays169_ren : Go.Shelf.Ren := ⟨fun | 169 => 122 | n => n, fun | 70 => 143 | 9 => 9 | 0 => 0 | 72 => 145 | 37 => 34 | 127 => 178 | 3 => 3 | 5 => 5 | n => n, fun | n => n⟩
theorem Tryz.lays169 : Go.Proofs.Lays.n169 Tryz.prog Tryz.lays169_ren := {
  mixed := by kernel_rfl
  f169 := Tryz.func122.trans (congrArg some (by kernel_rfl))
  t0 := Tryz.underlying0
  a0 := Tryz.isAgg0
  z0 := Tryz.sizeOf0
  v0 := Tryz.zeroValue0
  t3 := Tryz.underlying3
  a3 := Tryz.isAgg3
  z3 := Tryz.sizeOf3
  v3 := Tryz.zeroValue3
  t9 := Tryz.underlying9
  a9 := Tryz.isAgg9
  z9 := Tryz.sizeOf9
  v9 := Tryz.zeroValue9
  t37 := Tryz.underlying34
  a37 := Tryz.isAgg34
  z37 := Tryz.sizeOf34
  v37 := Tryz.zeroValue34
  t70 := Tryz.underlying143
  a70 := Tryz.isAgg143
  z70 := Tryz.sizeOf143
  v70 := Tryz.zeroValue143
  t72 := Tryz.underlying145
  a72 := Tryz.isAgg145
  z72 := Tryz.sizeOf145
  v72 := Tryz.zeroValue145
  t127 := Tryz.underlying178
  a127 := Tryz.isAgg178
  z127 := Tryz.sizeOf178
  v127 := Tryz.zeroValue178 }
theorem Tryz.Builder_Extra_169 : Builder.Extra Tryz.prog Tryz.lays169_ren := {
  sizeBuilder := by kernel_rfl
  liesBuilder := by kernel_rfl
  t5 := Tryz.underlying5
  a5 := Tryz.isAgg5
  z5 := Tryz.sizeOf5
  v5 := Tryz.zeroValue5
  infoByte := by kernel_rfl
  cellsByte := by kernel_rfl
  sizeByte := by kernel_rfl
  neB5 := by decide }
open Go.RowKit in
theorem Tryz.Builder_String_any_k (B b : Nat) (l : List UInt8) (w : World) (h : Lib.IsBuilderF 145 5 B b (Lib.byteCells l) w) (hBw : B ≤ w.heap.size) :
    Calls Tryz.prog 122 #[.pointer (some ⟨b, 0, none⟩)] w fun e w' => e = .returned (.string ⟨l.toArray⟩) ∧ (Lib.IsBuilderF 145 5 B b (Lib.byteCells l) w' ∧ Below B w w' ∧ Lib.OthersKept 5 (some b) w w') := Any.Builder_String_any_k Tryz.lays169 Tryz.Builder_Extra_169 B b l w h hBw
def Tryz.laysM171_ren : Go.Shelf.Ren := ⟨fun | 171 => 132 | 243 => 176 | 246 => 227 | 283 => 261 | 284 => 262 | 285 => 263 | 286 => 264 | 129 => 280 | 317 => 279 | 318 => 281 | 319 => 282 | 320 => 283 | 337 => 290 | 338 => 291 | n => n, fun | 3 => 3 | 9 => 9 | 2 => 2 | 4 => 4 | 171 => 235 | 0 => 0 | 53 => 167 | 37 => 34 | 5 => 5 | 173 => 238 | 212 => 254 | 51 => 218 | 20 => 20 | 213 => 255 | 46 => 160 | 232 => 263 | 233 => 264 | n => n, fun | 17 => 5 | 18 => 6 | 19 => 7 | n => n⟩
theorem Tryz.laysM171 : Go.Proofs.LaysM.n171 Tryz.prog Tryz.laysM171_ren := {
  mixed := by kernel_rfl
  f129 := Tryz.func280.trans (congrArg some (by kernel_rfl))
  f171 := Tryz.func132.trans (congrArg some (by kernel_rfl))
  f243 := Tryz.func176.trans (congrArg some (by kernel_rfl))
  f246 := Tryz.func227.trans (congrArg some (by kernel_rfl))
  f283 := Tryz.func261.trans (congrArg some (by kernel_rfl))
  f284 := Tryz.func262.trans (congrArg some (by kernel_rfl))
  f285 := Tryz.func263.trans (congrArg some (by kernel_rfl))
  f286 := Tryz.func264.trans (congrArg some (by kernel_rfl))
  f317 := Tryz.func279.trans (congrArg some (by kernel_rfl))
  f318 := Tryz.func281.trans (congrArg some (by kernel_rfl))
  f319 := Tryz.func282.trans (congrArg some (by kernel_rfl))
  f320 := Tryz.func283.trans (congrArg some (by kernel_rfl))
  f337 := Tryz.func290.trans (congrArg some (by kernel_rfl))
  f338 := Tryz.func291.trans (congrArg some (by kernel_rfl))
  t0 := Tryz.underlying0
  a0 := Tryz.isAgg0
  z0 := Tryz.sizeOf0
  v0 := Tryz.zeroValue0
  t2 := Tryz.underlying2
  a2 := Tryz.isAgg2
  z2 := Tryz.sizeOf2
  v2 := Tryz.zeroValue2
  t3 := Tryz.underlying3
  a3 := Tryz.isAgg3
  z3 := Tryz.sizeOf3
  v3 := Tryz.zeroValue3
  t4 := Tryz.underlying4
  a4 := Tryz.isAgg4
  z4 := Tryz.sizeOf4
  v4 := Tryz.zeroValue4
  t5 := Tryz.underlying5
  a5 := Tryz.isAgg5
  z5 := Tryz.sizeOf5
  v5 := Tryz.zeroValue5
  t9 := Tryz.underlying9
  a9 := Tryz.isAgg9
  z9 := Tryz.sizeOf9
  v9 := Tryz.zeroValue9
  t20 := Tryz.underlying20
  a20 := Tryz.isAgg20
  z20 := Tryz.sizeOf20
  v20 := Tryz.zeroValue20
  t37 := Tryz.underlying34
  a37 := Tryz.isAgg34
  z37 := Tryz.sizeOf34
  v37 := Tryz.zeroValue34
  t46 := Tryz.underlying160
  a46 := Tryz.isAgg160
  z46 := Tryz.sizeOf160
  v46 := Tryz.zeroValue160
  t51 := Tryz.underlying218
  a51 := Tryz.isAgg218
  z51 := Tryz.sizeOf218
  v51 := Tryz.zeroValue218
  t53 := Tryz.underlying167
  a53 := Tryz.isAgg167
  z53 := Tryz.sizeOf167
  v53 := Tryz.zeroValue167
  t171 := Tryz.underlying235
  a171 := Tryz.isAgg235
  z171 := Tryz.sizeOf235
  v171 := Tryz.zeroValue235
  t173 := Tryz.underlying238
  a173 := Tryz.isAgg238
  z173 := Tryz.sizeOf238
  v173 := Tryz.zeroValue238
  t212 := Tryz.underlying254
  a212 := Tryz.isAgg254
  z212 := Tryz.sizeOf254
  v212 := Tryz.zeroValue254
  t213 := Tryz.underlying255
  a213 := Tryz.isAgg255
  z213 := Tryz.sizeOf255
  t232 := Tryz.underlying263
  a232 := Tryz.isAgg263
  z232 := Tryz.sizeOf263
  v232 := Tryz.zeroValue263
  t233 := Tryz.underlying264
  a233 := Tryz.isAgg264
  z233 := Tryz.sizeOf264
  v233 := Tryz.zeroValue264
  g17 := by kernel_rfl
  g18 := by kernel_rfl
  g19 := by kernel_rfl
  i0 := by kernel_rfl
  i2 := by kernel_rfl
  i3 := by kernel_rfl
  i4 := by kernel_rfl
  i5 := by kernel_rfl
  i9 := by kernel_rfl
  i20 := by kernel_rfl
  i37 := by kernel_rfl
  i46 := by kernel_rfl
  i51 := by kernel_rfl
  i53 := by kernel_rfl
  i171 := by kernel_rfl
  i173 := by kernel_rfl
  i212 := by kernel_rfl
  i232 := by kernel_rfl
  i233 := by kernel_rfl
  m17 := by kernel_rfl
  m18 := by kernel_rfl
  m19 := by kernel_rfl }
open Go.RowKit Go.Sort Go.Lib in
theorem Tryz.strconv_Itoa (n : Int) (h0 : -9223372036854775808 ≤ n) (h1 : n ≤ 9223372036854775807) (w : World) (htab : Lib.TabIs Tryz.prog w "internal/strconv.uint64pow10" .u64 Lib.pow10Tab) :
    Calls Tryz.prog 132 #[.int .i64 n] w fun e w' => e = .returned (.string ⟨(Lib.itoa n).toArray⟩) ∧ ∃ k os, w' = grow (w.drewN k) os := Any.strconv_Itoa Tryz.laysM171 n h0 h1 w htab
def Tryz.lays145_ren : Go.Shelf.Ren := ⟨fun | 145 => 37 | 220 => 81 | 219 => 139 | 217 => 182 | 225 => 183 | 224 => 184 | 267 => 185 | 266 => 231 | 314 => 232 | n => n, fun | 9 => 9 | 4 => 4 | 59 => 64 | 3 => 3 | 5 => 5 | 46 => 160 | 146 => 219 | 51 => 218 | n => n, fun | 1 => 0 | n => n⟩
theorem Tryz.lays145 : Go.Proofs.Lays.n145 Tryz.prog Tryz.lays145_ren := {
  mixed := by kernel_rfl
  f145 := Tryz.func37.trans (congrArg some (by kernel_rfl))
  f217 := Tryz.func182.trans (congrArg some (by kernel_rfl))
  f219 := Tryz.func139.trans (congrArg some (by kernel_rfl))
  f220 := Tryz.func81.trans (congrArg some (by kernel_rfl))
  f224 := Tryz.func184.trans (congrArg some (by kernel_rfl))
  f225 := Tryz.func183.trans (congrArg some (by kernel_rfl))
  f266 := Tryz.func231.trans (congrArg some (by kernel_rfl))
  f267 := Tryz.func185.trans (congrArg some (by kernel_rfl))
  f314 := Tryz.func232.trans (congrArg some (by kernel_rfl))
  t3 := Tryz.underlying3
  a3 := Tryz.isAgg3
  z3 := Tryz.sizeOf3
  v3 := Tryz.zeroValue3
  t4 := Tryz.underlying4
  a4 := Tryz.isAgg4
  z4 := Tryz.sizeOf4
  v4 := Tryz.zeroValue4
  t5 := Tryz.underlying5
  a5 := Tryz.isAgg5
  z5 := Tryz.sizeOf5
  v5 := Tryz.zeroValue5
  t9 := Tryz.underlying9
  a9 := Tryz.isAgg9
  z9 := Tryz.sizeOf9
  v9 := Tryz.zeroValue9
  t46 := Tryz.underlying160
  a46 := Tryz.isAgg160
  z46 := Tryz.sizeOf160
  v46 := Tryz.zeroValue160
  t51 := Tryz.underlying218
  a51 := Tryz.isAgg218
  z51 := Tryz.sizeOf218
  v51 := Tryz.zeroValue218
  t59 := Tryz.underlying64
  a59 := Tryz.isAgg64
  z59 := Tryz.sizeOf64
  v59 := Tryz.zeroValue64
  t146 := Tryz.underlying219
  a146 := Tryz.isAgg219
  z146 := Tryz.sizeOf219
  v146 := Tryz.zeroValue219
  g1 := by kernel_rfl }
open Go.RowKit Go.Lib in
theorem Tryz.strings_Cut (s sep : ByteArray) (m : Int) (w : World) (hs : s.size < 4294967281) (hm : w.cell? ⟨0, 0, none⟩ = some (.int .i64 m)) :
    Calls Tryz.prog 37 #[.string s, .string sep] w fun e w' => e = .returned (.tuple #[.string ⟨(Lib.cut s.data.toList sep.data.toList).1.toArray⟩, .string ⟨(Lib.cut s.data.toList sep.data.toList).2.1.toArray⟩, .bool (Lib.cut s.data.toList sep.data.toList).2.2]) ∧ ∃ n, w' = w.drewN n := Any.strings_Cut Tryz.lays145 s sep m w hs hm
def Tryz.lays105_ren : Go.Shelf.Ren := ⟨fun | 105 => 194 | 212 => 237 | 99 => 238 | 165 => 239 | 166 => 121 | 170 => 240 | 169 => 122 | 263 => 267 | 264 => 268 | 206 => 269 | 240 => 168 | 241 => 270 | 276 => 221 | 277 => 284 | n => n, fun | 9 => 9 | 3 => 3 | 4 => 4 | 20 => 20 | 0 => 0 | 46 => 160 | 109 => 221 | 5 => 5 | 72 => 145 | 76 => 148 | 51 => 218 | 146 => 219 | 53 => 167 | 148 => 241 | 70 => 143 | 37 => 34 | 75 => 147 | 127 => 178 | 164 => 213 | 80 => 150 | n => n, fun | n => n⟩
theorem Tryz.lays105 : Go.Proofs.Lays.n105 Tryz.prog Tryz.lays105_ren := {
  mixed := by kernel_rfl
  f99 := Tryz.func238.trans (congrArg some (by kernel_rfl))
  f105 := Tryz.func194.trans (congrArg some (by kernel_rfl))
  f165 := Tryz.func239.trans (congrArg some (by kernel_rfl))
  f166 := Tryz.func121.trans (congrArg some (by kernel_rfl))
  f169 := Tryz.func122.trans (congrArg some (by kernel_rfl))
  f170 := Tryz.func240.trans (congrArg some (by kernel_rfl))
  f206 := Tryz.func269.trans (congrArg some (by kernel_rfl))
  f212 := Tryz.func237.trans (congrArg some (by kernel_rfl))
  f240 := Tryz.func168.trans (congrArg some (by kernel_rfl))
  f241 := Tryz.func270.trans (congrArg some (by kernel_rfl))
  f263 := Tryz.func267.trans (congrArg some (by kernel_rfl))
  f264 := Tryz.func268.trans (congrArg some (by kernel_rfl))
  f276 := Tryz.func221.trans (congrArg some (by kernel_rfl))
  f277 := Tryz.func284.trans (congrArg some (by kernel_rfl))
  t0 := Tryz.underlying0
  a0 := Tryz.isAgg0
  z0 := Tryz.sizeOf0
  v0 := Tryz.zeroValue0
  t3 := Tryz.underlying3
  a3 := Tryz.isAgg3
  z3 := Tryz.sizeOf3
  v3 := Tryz.zeroValue3
  t4 := Tryz.underlying4
  a4 := Tryz.isAgg4
  z4 := Tryz.sizeOf4
  v4 := Tryz.zeroValue4
  t5 := Tryz.underlying5
  a5 := Tryz.isAgg5
  z5 := Tryz.sizeOf5
  v5 := Tryz.zeroValue5
  t9 := Tryz.underlying9
  a9 := Tryz.isAgg9
  z9 := Tryz.sizeOf9
  v9 := Tryz.zeroValue9
  t20 := Tryz.underlying20
  a20 := Tryz.isAgg20
  z20 := Tryz.sizeOf20
  v20 := Tryz.zeroValue20
  t37 := Tryz.underlying34
  a37 := Tryz.isAgg34
  z37 := Tryz.sizeOf34
  v37 := Tryz.zeroValue34
  t46 := Tryz.underlying160
  a46 := Tryz.isAgg160
  z46 := Tryz.sizeOf160
  v46 := Tryz.zeroValue160
  t51 := Tryz.underlying218
  a51 := Tryz.isAgg218
  z51 := Tryz.sizeOf218
  v51 := Tryz.zeroValue218
  t53 := Tryz.underlying167
  a53 := Tryz.isAgg167
  z53 := Tryz.sizeOf167
  v53 := Tryz.zeroValue167
  t70 := Tryz.underlying143
  a70 := Tryz.isAgg143
  z70 := Tryz.sizeOf143
  v70 := Tryz.zeroValue143
  t72 := Tryz.underlying145
  a72 := Tryz.isAgg145
  z72 := Tryz.sizeOf145
  v72 := Tryz.zeroValue145
  t75 := Tryz.underlying147
  a75 := Tryz.isAgg147
  z75 := Tryz.sizeOf147
  v75 := Tryz.zeroValue147
  t76 := Tryz.underlying148
  a76 := Tryz.isAgg148
  z76 := Tryz.sizeOf148
  v76 := Tryz.zeroValue148
  t109 := Tryz.underlying221
  a109 := Tryz.isAgg221
  z109 := Tryz.sizeOf221
  v109 := Tryz.zeroValue221
  t127 := Tryz.underlying178
  a127 := Tryz.isAgg178
  z127 := Tryz.sizeOf178
  v127 := Tryz.zeroValue178
  t146 := Tryz.underlying219
  a146 := Tryz.isAgg219
  z146 := Tryz.sizeOf219
  v146 := Tryz.zeroValue219
  t148 := Tryz.underlying241
  a148 := Tryz.isAgg241
  z148 := Tryz.sizeOf241
  v148 := Tryz.zeroValue241
  t164 := Tryz.underlying213
  a164 := Tryz.isAgg213
  z164 := Tryz.sizeOf213
  v164 := Tryz.zeroValue213 }
theorem Tryz.Builder_Extra_105 : Builder.Extra Tryz.prog Tryz.lays105_ren := {
  sizeBuilder := by kernel_rfl
  liesBuilder := by kernel_rfl
  t5 := Tryz.underlying5
  a5 := Tryz.isAgg5
  z5 := Tryz.sizeOf5
  v5 := Tryz.zeroValue5
  infoByte := by kernel_rfl
  cellsByte := by kernel_rfl
  sizeByte := by kernel_rfl
  neB5 := by decide }
open Go.RowKit Go.Lib in
theorem Tryz.strings_Repeat (s : ByteArray) (c : Nat) (w : World) (hc : c ≤ 9223372036854775807) (hlen : s.size * c ≤ 140737488355328) :
    Calls Tryz.prog 194 #[.string s, .int .i64 c] w fun e w' => e = .returned (.string ⟨(Lib.repeatL s.data.toList c).toArray⟩) ∧ Below w.heap.size w w' := Any.strings_Repeat Tryz.lays105 Tryz.Builder_Extra_105 s c w hc hlen
end

section
open Go.RowKit

/-- What the library's tables hold: nothing here writes them. -/
def Env (w : World) : Prop := Lib.TabIs Tryz.prog w "internal/strconv.uint64pow10" .u64 Lib.pow10Tab ∧ ∃ m : Int, w.cell? ⟨0, 0, none⟩ = some (.int .i64 m)
theorem tab_bl {w W : World} {k : IntKind} {zs : List Int} {n : String} (h : Lib.TabIs Tryz.prog w n k zs) (hb : Bl w W) : Lib.TabIs Tryz.prog W n k zs := by
  unfold Lib.TabIs World.var? at *
  cases hg : Tryz.prog.globalNamed n with
  | none => simp [hg] at h
  | some g =>
    simp only [hg, Option.bind_some] at h ⊢
    have hlt : g < w.heap.size := by
      rcases Nat.lt_or_ge g w.heap.size with h' | h'
      · exact h'
      · rw [Array.getElem?_eq_none h'] at h; simp at h
    rw [Below.block hb g hlt]
    exact h
theorem cell_lt {w : World} {p : Addr} {v : Value} (h : w.cell? p = some v) : p.block < w.heap.size := by
  rcases Nat.lt_or_ge p.block w.heap.size with h' | h'
  · exact h'
  · unfold World.cell? at h
    rw [Array.getElem?_eq_none h'] at h
    simp at h
theorem Env.bl {w W : World} (h : Env w) (hb : Bl w W) : Env W := by
  obtain ⟨h1, m, h2⟩ := h
  exact ⟨tab_bl h1 hb, m, (Bl.cellOf hb (cell_lt h2)).trans h2⟩
theorem grow_bl (w : World) (k : Nat) (os : Array Obj) : Bl w (Sort.grow (w.drewN k) os) := by
  refine ⟨rfl, rfl, rfl, by simp [Sort.grow], fun b hb => ?_⟩
  simp only [Sort.grow]
  exact Array.getElem?_append_left hb

set_option maxHeartbeats 1600000 in
theorem isDigit_any (w : World) (x : UInt8) :
    Calls Tryz.prog 186 #[.int .u8 (x.toNat : Int)] w fun e w' => e = .returned (.bool (isDg x)) ∧ ∃ q, w' = w.drewN q := by
  have hx := x.toNat_lt
  rw [isDg_eq]
  by_cases h1 : (48 : Int) ≤ (x.toNat : Int)
  · by_cases h2 : (x.toNat : Int) ≤ 57
    · go_enter Tryz.func186, Tryz.ntmps186
      go_wp2
      go_ret
      exact ⟨by simp [*], (by first | exact ⟨_, rfl⟩ | exact ⟨0, rfl⟩ | exact q_drewN ⟨_, rfl⟩ | exact q_drewN (q_drewN ⟨_, rfl⟩))⟩
    · go_enter Tryz.func186, Tryz.ntmps186
      go_wp2
      go_ret
      exact ⟨by simp [*], (by first | exact ⟨_, rfl⟩ | exact ⟨0, rfl⟩ | exact q_drewN ⟨_, rfl⟩ | exact q_drewN (q_drewN ⟨_, rfl⟩))⟩
  · go_enter Tryz.func186, Tryz.ntmps186
    go_wp2
    go_ret
    exact ⟨by rw [decide_eq_false (show ¬ (48 : Int) ≤ (x.toNat : Int) by omega)]; rfl, (by first | exact ⟨_, rfl⟩ | exact ⟨0, rfl⟩ | exact q_drewN ⟨_, rfl⟩ | exact q_drewN (q_drewN ⟨_, rfl⟩))⟩

set_option maxHeartbeats 1600000 in
theorem IsDigits_any (w : World) (s : ByteArray) (hs : s.size ≤ 9223372036854775807) :
    Calls Tryz.prog 140 #[.string s] w fun e w' => e = .returned (.bool (isDgs (bl s))) ∧ ∃ q, w' = w.drewN q := by
  have hidx := fun (W : World) (i : Nat) (h : i < s.size) => run_idx (P := Tryz.prog) (t := 9) W s i h Tryz.underlying9
  go_enter Tryz.func140, Tryz.ntmps140
  go_wp2_with fail
  go_loopw [6] (fun v wr => ∃ i : Nat, v = .int .i64 (i : Int) ∧ i ≤ s.size ∧ Hid (∀ j, j < i → isDg (bt s j) = true) ∧ ∃ q, wr = w.drewN q) (fun v _ => s.size - (intOf v).toNat)
  case atStart => exact ⟨0, rfl, by omega, fun j hj => by omega, 0, rfl⟩
  case round =>
    obtain ⟨i, rfl, hi, hz, q, rfl⟩ := hrel
    rcases Nat.lt_or_ge i s.size with hlt | hge
    · have h1 := fun W => hidx W i hlt
      have hci : (i : Int) < (s.size : Int) := by omega
      clear hidx
      by_cases hd : isDg (bt s i) = true
      · have hz' : Hid (∀ j, j < i + 1 → isDg (bt s j) = true) := Lib.hid fun j hj => by
          rcases Nat.lt_succ_iff_lt_or_eq.1 hj with h | h
          · exact hz.out j h
          · rw [h]; exact hd
        go_wp2_with (go_at_call 186; refine (isDigit_any _ _).mono ?_; rw [hd]; rintro e w1 ⟨rfl, q1, rfl⟩)
        go_roundw
        case rel => exact ⟨i + 1, by go_num, by omega, hz', (by first | exact ⟨_, rfl⟩ | exact ⟨0, rfl⟩ | exact q_drewN ⟨_, rfl⟩ | exact q_drewN (q_drewN ⟨_, rfl⟩))⟩
        case measure => simp [intOf]; omega
      · have hfin : isDgs (bl s) = false := Bool.eq_false_iff.2 fun e => hd (((isDgs_iff s).1 e).2 i hlt)
        have hd := Bool.eq_false_iff.2 hd
        go_wp2_with (go_at_call 186; refine (isDigit_any _ _).mono ?_; rw [hd]; rintro e w1 ⟨rfl, q1, rfl⟩)
        go_ret
        exact ⟨by first | rfl | (rw [hfin]; rfl), (by first | exact ⟨_, rfl⟩ | exact ⟨0, rfl⟩ | exact q_drewN ⟨_, rfl⟩ | exact q_drewN (q_drewN ⟨_, rfl⟩))⟩
    · obtain rfl : i = s.size := by omega
      have hfin : isDgs (bl s) = !s.toList.isEmpty := by
        rw [Bool.eq_iff_iff, isDgs_iff, bl_toList, ← bl_len]
        simp only [Bool.not_eq_true', List.isEmpty_eq_false_iff, ne_eq]
        exact ⟨fun h e => by rw [e] at h; exact absurd h.1 (by simp), fun h => ⟨List.length_pos_iff.2 h, by rw [bl_len]; exact hz.out⟩⟩
      clear hidx
      go_wp2_with fail
      go_ret
      exact ⟨by first | rfl | (rw [hfin]; rfl), (by first | exact ⟨_, rfl⟩ | exact ⟨0, rfl⟩ | exact q_drewN ⟨_, rfl⟩ | exact q_drewN (q_drewN ⟨_, rfl⟩))⟩

set_option maxHeartbeats 1600000 in
/-- FormatInt of a number that is not negative. -/
theorem FormatInt_any (w : World) (N : Nat) (hN : N ≤ 9223372036854775807) (he : Env w) :
    Calls Tryz.prog 77 #[.int .i64 (N : Int)] w fun e w' => e = .returned (.string (sb (dD N))) ∧ Bl w w' := by
  have h1 : Lib.itoa (N : Int) = dD N := by unfold Lib.itoa; rw [if_neg (by omega)]; rfl
  have htab := Lib.hid he.1
  clear he
  go_enter Tryz.func77, Tryz.ntmps77
  go_wp2_with (go_at_call 132; refine (Tryz.strconv_Itoa (N : Int) (by omega) (by omega) _ htab.out).mono ?_; rw [h1]; rintro e w1 ⟨rfl, k, os, rfl⟩)
  go_ret
  exact ⟨rfl, grow_bl w k os⟩

set_option maxHeartbeats 1600000 in
theorem PadZeros_any (w : World) (l : List UInt8) (k : Nat) (hl : l.length ≤ 1048576) (hk : k ≤ 2000) :
    Calls Tryz.prog 149 #[.string (sb l), .int .i64 (k : Int)] w fun e w' => e = .returned (.string (sb (padZ l k))) ∧ Bl w w' := by
  have hs := sb_size l
  have hk2 : ¬ (2000 : Int) < (k : Int) := by omega
  rcases Nat.lt_or_ge l.length k with h | h
  · have hlt : ¬ (k : Int) ≤ ((sb l).size : Int) := by omega
    have hsub : (k : Int) - ((sb l).size : Int) = ((k - l.length : Nat) : Int) := by omega
    have hrep : Lib.repeatL [48] (k - l.length) = List.replicate (k - l.length) 48 := by
      generalize k - l.length = n
      induction n with
      | zero => rfl
      | succ n ih => rw [List.replicate_succ, ← ih]; rfl
    have hadd := fun W => add_str (P := Tryz.prog) W (List.replicate (k - l.length) 48) l (by rw [List.length_replicate]; omega) (by omega)
    clear hs
    go_enter Tryz.func149, Tryz.ntmps149
    go_wp2_with (go_at_call 194; refine (Tryz.strings_Repeat (sb [48]) (k - l.length) _ (by omega) (by rw [sb_size]; simp; omega)).mono ?_; rw [show (sb [48]).data.toList = [48] from rfl, hrep]; rintro e w1 ⟨rfl, hb1⟩)
    go_ret
    exact ⟨rfl, hb1⟩
  · have hlt : (k : Int) ≤ ((sb l).size : Int) := by omega
    have hfin : padZ l k = l := by unfold padZ; rw [show k - l.length = 0 by omega]; rfl
    clear hs
    go_enter Tryz.func149, Tryz.ntmps149
    go_wp2
    go_ret
    exact ⟨by first | rfl | (rw [hfin]; rfl), slc⟩
end

section
open Go.RowKit

/-- Only the blocks of bs, and what is new, may have turned. -/
structure Ob (bs : List Nat) (w W : World) : Prop where
  os : W.os = w.os
  tape : W.tape = w.tape
  output : W.output = w.output
  size : w.heap.size ≤ W.heap.size
  block : ∀ k, k < w.heap.size → k ∉ bs → W.heap[k]? = w.heap[k]?
section
variable {T : TypeId} {bs cs : List Nat} {w W W2 w0 : World}
theorem Ob.refl (bs : List Nat) (w : World) : Ob bs w w := ⟨rfl, rfl, rfl, Nat.le_refl _, fun _ _ _ => rfl⟩
theorem Ob.trans (h : Ob bs w W) (k : Ob bs W W2) : Ob bs w W2 :=
  ⟨k.os.trans h.os, k.tape.trans h.tape, k.output.trans h.output, Nat.le_trans h.size k.size, fun b hb hn => (k.block b (Nat.lt_of_lt_of_le hb h.size) hn).trans (h.block b hb hn)⟩
theorem Ob.mono (h : Ob bs w W) (hs : ∀ b ∈ bs, b ∈ cs) : Ob cs w W := ⟨h.os, h.tape, h.output, h.size, fun b hb hn => h.block b hb fun hm => hn (hs b hm)⟩
theorem Ob.set (h : Ob bs w W) {g : Nat} (hg : g ∈ bs) (off : Nat) (u : Value) : Ob bs w (W.setCell ⟨g, off, none⟩ u) :=
  ⟨h.os, h.tape, h.output, by simpa [World.setCell] using h.size, fun k hk hn => (Below.heap_setCell W _ u k (by intro e; exact hn (by rw [e]; exact hg))).trans (h.block k hk hn)⟩
theorem Ob.drewN (h : Ob bs w W) (q : Nat) : Ob bs w (W.drewN q) := ⟨h.os, h.tape, h.output, h.size, h.block⟩
theorem Ob.of_bl (h : Bl w W) (bs : List Nat) : Ob bs w W := ⟨h.os, h.tape, h.output, h.size, fun k hk _ => h.block k hk⟩
theorem Bl.ob (h : Bl w0 w) (ho : Ob bs w W) (hb : ∀ b ∈ bs, w0.heap.size ≤ b) : Bl w0 W :=
  ⟨ho.os.trans h.os, ho.tape.trans h.tape, ho.output.trans h.output, Nat.le_trans h.size ho.size, fun k hk => (ho.block k (Nat.lt_of_lt_of_le hk h.size) fun hm => by have := hb k hm; omega).trans (h.block k hk)⟩
theorem Blk.ob {g : Nat} {xs : Array Value} (h : Blk w g T xs) (ho : Ob bs w W) (hg : g ∉ bs) : Blk W g T xs := (ho.block g h.lt hg).trans h
theorem FtI.ob {A : Option Addr} {n c : Nat} {l : List Int} (h : FtI T w A n c l cs) (ho : Ob bs w W) (hd : ∀ b ∈ cs, b ∉ bs) : FtI T W A n c l cs := by
  refine h.keep ho.size fun b hm => ho.block b ?_ (hd b hm)
  rcases h.2 with ⟨_, e⟩ | ⟨g, xs, _, _, hh, _, e⟩
  · rw [e] at hm; cases hm
  · rw [e] at hm; simp at hm; subst hm; exact heap_lt hh
end
/-- The n marks from k on. -/
def marks (k : Int) (n : Nat) : List Int := (List.range n).map fun i : Nat => k + (i : Int)
/-- The first i cells hold marks. -/
def Mkd (k : Int) (i : Nat) (cs : Array Value) : Prop := ∀ j, j < i → cs[j]? = some (.int .i64 (k + (j : Int)))
theorem Mkd.step {k : Int} {i : Nat} {cs : Array Value} (h : Mkd k i cs) (hi : i < cs.size) : Mkd k (i + 1) (cs.setIfInBounds i (.int .i64 (k + (i : Int)))) := by
  intro j hj
  rcases Nat.lt_succ_iff_lt_or_eq.1 hj with hj | rfl
  · rw [Array.getElem?_setIfInBounds_ne (by omega)]; exact h j hj
  · simp [hi]
end

end Go.Proofs.YtjaapemopbbfaaaGreatDoor
