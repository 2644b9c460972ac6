/- Small functions over texts: HasPrefix; opcode.of, begins. -/
import Derived.Test.YtgbgnipidakdhaaGreatDoorJE
import Derived.Test.YtgbgnipidakdhaaGreatDoorJTy
import Derived.Shelf.Strings.Fields
import Derived.Shelf.Strings.Search3
import Derived.Test.YtgbgnipidakdhaaGreatDoorProg
import Derived.KernelRfl
import Derived.Test.YtgbgnipidakdhaaGreatDoorJJ
import Derived.Test.YtgbgnipidakdhaaGreatDoorJR8
namespace Go.Proofs.YtgbgnipidakdhaaGreatDoor
open Go.RowKit
set_option maxRecDepth 100000
abbrev by_ (s : ByteArray) : List UInt8 := s.data.toList
theorem by_len (s : ByteArray) : (by_ s).length = s.size := rfl
def hasPre (s p : List UInt8) : Bool := p.length ≤ s.length && s.take p.length == p
theorem by_extract (s : ByteArray) (i j : Nat) : by_ (s.extract i j) = ((by_ s).take j).drop i := by
  simp only [by_, ByteArray.data_extract, Array.toList_extract, List.extract_eq_drop_take']
theorem lite_HasPrefix (s p : ByteArray) (w : World) : Calls G.P 168 #[.string s, .string p] w fun e w' => e = .returned (.bool (hasPre (by_ s) (by_ p))) ∧ w = w' := by
  refine enter (G := G) Tryz.func168 rfl Tryz.ntmps168 rfl ?_
  have hs := by_len s
  have hp := by_len p
  by_cases h : p.size ≤ s.size
  · refine wgx ?_
    refine Fin.ret1 rfl rfl ⟨?_, rfl⟩
    unfold hasPre
    rw [hp, hs, decide_eq_true h, Bool.true_and, ← hp]
    congr 2
    have := by_extract s 0 p.size
    rw [List.drop_zero] at this
    rw [hp]; exact congrArg (· == by_ p) this
  · refine wgx ?_
    refine Fin.ret1 rfl rfl ⟨?_, rfl⟩
    unfold hasPre
    rw [hp, hs, decide_eq_false h, Bool.false_and]
theorem strings_HasPrefix (s p : ByteArray) (w : World) : Calls G.P 141 #[.string s, .string p] w fun e w' => e = .returned (.bool (hasPre (by_ s) (by_ p))) ∧ w = w' := by
  refine enter (G := G) Tryz.func141 rfl Tryz.ntmps141 rfl ?_
  refine wgx ?_
  refine Ops.call rfl rfl rfl (lite_HasPrefix s p w) ?_
  rintro _ _ ⟨rfl, rfl⟩
  refine ⟨_, rfl, ?_⟩
  refine wgx ?_
  exact Fin.ret1 rfl rfl ⟨rfl, rfl⟩
def begO (s : List UInt8) : Int := if hasPre s [105, 54, 52] then 2 else 1
theorem opcode_begins (s : ByteArray) (w : World) : Calls G.P 143 #[.string s] w fun e w' => e = .returned (.int .i64 (begO (by_ s))) ∧ w = w' := by
  refine enter (G := G) Tryz.func143 rfl Tryz.ntmps143 rfl ?_
  refine wgx ?_
  refine Ops.call rfl rfl rfl (strings_HasPrefix s _ w) ?_
  rintro _ _ ⟨rfl, rfl⟩
  refine ⟨_, rfl, ?_⟩
  unfold begO
  cases hasPre (by_ s) [105, 54, 52] <;> (refine wgx ?_; exact Fin.ret1 rfl rfl ⟨rfl, rfl⟩)
theorem opcode_of (a b : Option Addr) (l c l2 c2 : Nat) (w : World) : Calls G.P 139 #[.slice a l c, .slice b l2 c2] w fun e w' => e = .returned (.agg #[.slice a l c, .slice b l2 c2]) ∧ Ext w w' := by
  refine enter (G := G) Tryz.func139 rfl Tryz.ntmps139 rfl ?_
  refine wgx ?_
  refine Ops.e (Eff.alloc rfl) rfl ?_
  rintro _ w1 ⟨rfl, hn⟩
  refine wgx ?_
  refine Ops.e0 (Eff.storeB (ti := ti47) (cs := [.slice a l c, .slice b l2 c2]) rfl rfl rfl rfl rfl (by simp [Value.oneCell']) hn.blk rfl) ?_
  rintro _ w2 ⟨hb, hc, _⟩
  refine wgx ?_
  exact Fin.ret1c (.inl rfl) rfl rfl rfl rfl rfl hb rfl ⟨rfl, Chg.trans' hn.ext hc (fun k hk e => by omega)⟩
open Go.Shelf
def lays157__ren : Go.Shelf.Ren := ⟨fun | 157 => 185 | 229 => 194 | 199 => 195 | 261 => 200 | 311 => 203 | 312 => 204 | n => n, fun | 9 => 9 | 31 => 224 | 3 => 3 | 5 => 5 | 4 => 4 | 119 => 252 | 0 => 0 | 40 => 254 | 152 => 258 | 21 => 21 | 154 => 260 | 51 => 261 | 141 => 263 | 196 => 269 | 193 => 266 | 198 => 272 | 49 => 270 | 194 => 267 | 201 => 275 | 226 => 277 | 46 => 257 | 227 => 278 | n => n, fun | 0 => 0 | 6 => 2 | n => n⟩
theorem lays157_ : Go.Proofs.Lays.n157 Tryz.prog lays157__ren := {
  mixed := by kernel_rfl
  f157 := Tryz.func185.trans (congrArg some (by kernel_rfl))
  f199 := Tryz.func195.trans (congrArg some (by kernel_rfl))
  f229 := Tryz.func194.trans (congrArg some (by kernel_rfl))
  f261 := Tryz.func200.trans (congrArg some (by kernel_rfl))
  f311 := Tryz.func203.trans (congrArg some (by kernel_rfl))
  f312 := Tryz.func204.trans (congrArg some (by kernel_rfl))
  t0 := Tryz.underlying0
  a0 := Tryz.isAgg0
  z0 := Tryz.sizeOf0
  v0 := Tryz.zeroValue0
  t3 := Tryz.underlying3
  a3 := Tryz.isAgg3
  z3 := Tryz.sizeOf3
  v3 := Tryz.zeroValue3
  t4 := Tryz.underlying4
  a4 := Tryz.isAgg4
  z4 := Tryz.sizeOf4
  v4 := Tryz.zeroValue4
  t5 := Tryz.underlying5
  a5 := Tryz.isAgg5
  z5 := Tryz.sizeOf5
  v5 := Tryz.zeroValue5
  t9 := Tryz.underlying9
  a9 := Tryz.isAgg9
  z9 := Tryz.sizeOf9
  v9 := Tryz.zeroValue9
  t21 := Tryz.underlying21
  a21 := Tryz.isAgg21
  z21 := Tryz.sizeOf21
  v21 := Tryz.zeroValue21
  t31 := Tryz.underlying224
  a31 := Tryz.isAgg224
  z31 := Tryz.sizeOf224
  v31 := Tryz.zeroValue224
  t40 := Tryz.underlying254
  a40 := Tryz.isAgg254
  z40 := Tryz.sizeOf254
  v40 := Tryz.zeroValue254
  t46 := Tryz.underlying257
  a46 := Tryz.isAgg257
  z46 := Tryz.sizeOf257
  v46 := Tryz.zeroValue257
  t49 := Tryz.underlying270
  a49 := Tryz.isAgg270
  z49 := Tryz.sizeOf270
  v49 := Tryz.zeroValue270
  t51 := Tryz.underlying261
  a51 := Tryz.isAgg261
  z51 := Tryz.sizeOf261
  v51 := Tryz.zeroValue261
  t119 := Tryz.underlying252
  a119 := Tryz.isAgg252
  z119 := Tryz.sizeOf252
  t141 := Tryz.underlying263
  a141 := Tryz.isAgg263
  z141 := Tryz.sizeOf263
  v141 := Tryz.zeroValue263
  t152 := Tryz.underlying258
  a152 := Tryz.isAgg258
  z152 := Tryz.sizeOf258
  v152 := Tryz.zeroValue258
  t154 := Tryz.underlying260
  a154 := Tryz.isAgg260
  z154 := Tryz.sizeOf260
  v154 := Tryz.zeroValue260
  t193 := Tryz.underlying266
  a193 := Tryz.isAgg266
  z193 := Tryz.sizeOf266
  v193 := Tryz.zeroValue266
  t194 := Tryz.underlying267
  a194 := Tryz.isAgg267
  z194 := Tryz.sizeOf267
  v194 := Tryz.zeroValue267
  t196 := Tryz.underlying269
  a196 := Tryz.isAgg269
  z196 := Tryz.sizeOf269
  v196 := Tryz.zeroValue269
  t198 := Tryz.underlying272
  a198 := Tryz.isAgg272
  z198 := Tryz.sizeOf272
  v198 := Tryz.zeroValue272
  t201 := Tryz.underlying275
  a201 := Tryz.isAgg275
  z201 := Tryz.sizeOf275
  v201 := Tryz.zeroValue275
  t226 := Tryz.underlying277
  a226 := Tryz.isAgg277
  z226 := Tryz.sizeOf277
  v226 := Tryz.zeroValue277
  t227 := Tryz.underlying278
  a227 := Tryz.isAgg278
  z227 := Tryz.sizeOf278
  v227 := Tryz.zeroValue278
  g0 := by kernel_rfl
  g6 := by kernel_rfl }
open Go.RowKit Go.Lib in
theorem sh_Fields (s : ByteArray) (w : World) (hs : s.size < 4294967281) (hascii : ∀ (j : Nat) b, s.data.toList[j]? = some b → b.toNat < 128) (hT : ∀ c : Nat, c < 256 → w.cell? ⟨0, c, none⟩ = some (.int .u8 (if Lib.isSp (UInt8.ofNat c) then 1 else 0))) :
    Calls Tryz.prog 185 #[.string s] w fun e w' => e = .returned (.slice (some ⟨w.heap.size, 0, none⟩) (Lib.fields s.data.toList).length (Lib.fields s.data.toList).length) ∧ w' = w.alloc (.cells ((Lib.fields s.data.toList).map fun l => Value.string ⟨l.toArray⟩).toArray 9) := Any.strings_Fields_core lays157_ (by kernel_rfl) s w hs hascii hT
def lays144__ren : Go.Shelf.Ren := ⟨fun | 144 => 160 | 143 => 182 | 219 => 193 | 217 => 196 | 225 => 197 | 224 => 198 | 267 => 199 | 266 => 201 | 314 => 202 | n => n, fun | 9 => 9 | 4 => 4 | 3 => 3 | 5 => 5 | 46 => 257 | 146 => 264 | 51 => 261 | n => n, fun | 1 => 1 | n => n⟩
theorem lays144_ : Go.Proofs.Lays.n144 Tryz.prog lays144__ren := {
  mixed := by kernel_rfl
  f143 := Tryz.func182.trans (congrArg some (by kernel_rfl))
  f144 := Tryz.func160.trans (congrArg some (by kernel_rfl))
  f217 := Tryz.func196.trans (congrArg some (by kernel_rfl))
  f219 := Tryz.func193.trans (congrArg some (by kernel_rfl))
  f224 := Tryz.func198.trans (congrArg some (by kernel_rfl))
  f225 := Tryz.func197.trans (congrArg some (by kernel_rfl))
  f266 := Tryz.func201.trans (congrArg some (by kernel_rfl))
  f267 := Tryz.func199.trans (congrArg some (by kernel_rfl))
  f314 := Tryz.func202.trans (congrArg some (by kernel_rfl))
  t3 := Tryz.underlying3
  a3 := Tryz.isAgg3
  z3 := Tryz.sizeOf3
  v3 := Tryz.zeroValue3
  t4 := Tryz.underlying4
  a4 := Tryz.isAgg4
  z4 := Tryz.sizeOf4
  v4 := Tryz.zeroValue4
  t5 := Tryz.underlying5
  a5 := Tryz.isAgg5
  z5 := Tryz.sizeOf5
  v5 := Tryz.zeroValue5
  t9 := Tryz.underlying9
  a9 := Tryz.isAgg9
  z9 := Tryz.sizeOf9
  v9 := Tryz.zeroValue9
  t46 := Tryz.underlying257
  a46 := Tryz.isAgg257
  z46 := Tryz.sizeOf257
  v46 := Tryz.zeroValue257
  t51 := Tryz.underlying261
  a51 := Tryz.isAgg261
  z51 := Tryz.sizeOf261
  v51 := Tryz.zeroValue261
  t146 := Tryz.underlying264
  a146 := Tryz.isAgg264
  z146 := Tryz.sizeOf264
  v146 := Tryz.zeroValue264
  g1 := by kernel_rfl }
theorem sh_strings_Contains (s sub : ByteArray) (m : Int) (w : World) (hs : s.size < 4294967281) (hm : w.cell? ⟨1, 0, none⟩ = some (.int .i64 m)) :
    Calls Tryz.prog 160 #[.string s, .string sub] w fun e w' => e = .returned (.bool (Lib.contains s.data.toList sub.data.toList)) ∧ w' = w := Any.strings_Contains lays144_ s sub m w hs hm
structure Env0 (w : World) : Prop where
  asc : ∀ c : Nat, c < 256 → w.cell? ⟨0, c, none⟩ = some (.int .u8 (if Lib.isSp (UInt8.ofNat c) then 1 else 0))
  mx : ∃ m, w.cell? ⟨1, 0, none⟩ = some (.int .i64 m)
theorem Env0.ext {w w' : World} (h : Env0 w) (hx : Ext w w') : Env0 w' := ⟨fun c hc => hx.cell (h.asc c hc), by obtain ⟨m, hm⟩ := h.mx; exact ⟨m, hx.cell hm⟩⟩
theorem Env0.put {W : World} {l : Nat} {o o' : Obj} (h : Env0 W) (hl : W.heap[l]? = some o) (ho : o.isCells = false) : Env0 (W.putObj l o') := by
  have key : ∀ {p : Addr} {v : Value}, W.cell? p = some v → (W.putObj l o').cell? p = some v := fun {p v} hc => by
    have hne : p.block ≠ l := by
      intro e
      unfold World.cell? at hc
      rw [e, hl] at hc
      cases o <;> simp_all [Obj.isCells]
    rw [World.cell?_of_block (w := W) (by simp [World.putObj, Ne.symm hne])]; exact hc
  exact ⟨fun c hc => key (h.asc c hc), by obtain ⟨m, hm⟩ := h.mx; exact ⟨m, key hm⟩⟩
def rowsO : List (Int × List UInt8 × List UInt8) := [(0, [], [117, 110, 114, 101, 97, 99, 104, 97, 98, 108, 101, 32, 110, 111, 112, 32, 98, 108, 111, 99, 107, 32, 108, 111, 111, 112, 32, 105, 102, 32, 101, 108, 115, 101]), (11, [], [101, 110, 100, 32, 98, 114, 32, 98, 114, 95, 105, 102, 32, 98, 114, 95, 116, 97, 98, 108, 101, 32, 114, 101, 116, 117, 114, 110, 32, 99, 97, 108, 108, 32, 99, 97, 108, 108, 95, 105, 110, 100, 105, 114, 101, 99, 116]), (26, [], [100, 114, 111, 112, 32, 115, 101, 108, 101, 99, 116, 32, 115, 101, 108, 101, 99, 116]), (32, [108, 111, 99, 97, 108, 46], [103, 101, 116, 32, 115, 101, 116, 32, 116, 101, 101]), (35, [103, 108, 111, 98, 97, 108, 46], [103, 101, 116, 32, 115, 101, 116]), (37, [116, 97, 98, 108, 101, 46], [103, 101, 116, 32, 115, 101, 116]), (40, [], [105, 51, 50, 46, 108, 111, 97, 100, 32, 105, 54, 52, 46, 108, 111, 97, 100]), (44, [105, 51, 50, 46], [108, 111, 97, 100, 56, 95, 115, 32, 108, 111, 97, 100, 56, 95, 117, 32, 108, 111, 97, 100, 49, 54, 95, 115, 32, 108, 111, 97, 100, 49, 54, 95, 117]), (48, [105, 54, 52, 46], [108, 111, 97, 100, 56, 95, 115, 32, 108, 111, 97, 100, 56, 95, 117, 32, 108, 111, 97, 100, 49, 54, 95, 115, 32, 108, 111, 97, 100, 49, 54, 95, 117, 32, 108, 111, 97, 100, 51, 50, 95, 115, 32, 108, 111, 97, 100, 51, 50, 95, 117]), (54, [], [105, 51, 50, 46, 115, 116, 111, 114, 101, 32, 105, 54, 52, 46, 115, 116, 111, 114, 101]), (58, [105, 51, 50, 46], [115, 116, 111, 114, 101, 56, 32, 115, 116, 111, 114, 101, 49, 54]), (60, [105, 54, 52, 46], [115, 116, 111, 114, 101, 56, 32, 115, 116, 111, 114, 101, 49, 54, 32, 115, 116, 111, 114, 101, 51, 50]), (63, [109, 101, 109, 111, 114, 121, 46], [115, 105, 122, 101, 32, 103, 114, 111, 119]), (65, [], [105, 51, 50, 46, 99, 111, 110, 115, 116, 32, 105, 54, 52, 46, 99, 111, 110, 115, 116]), (69, [105, 51, 50, 46], [101, 113, 122, 32, 101, 113, 32, 110, 101, 32, 108, 116, 95, 115, 32, 108, 116, 95, 117, 32, 103, 116, 95, 115, 32, 103, 116, 95, 117, 32, 108, 101, 95, 115, 32, 108, 101, 95, 117, 32, 103, 101, 95, 115, 32, 103, 101, 95, 117]), (80, [105, 54, 52, 46], [101, 113, 122, 32, 101, 113, 32, 110, 101, 32, 108, 116, 95, 115, 32, 108, 116, 95, 117, 32, 103, 116, 95, 115, 32, 103, 116, 95, 117, 32, 108, 101, 95, 115, 32, 108, 101, 95, 117, 32, 103, 101, 95, 115, 32, 103, 101, 95, 117]), (103, [105, 51, 50, 46], [99, 108, 122, 32, 99, 116, 122, 32, 112, 111, 112, 99, 110, 116, 32, 97, 100, 100, 32, 115, 117, 98, 32, 109, 117, 108, 32, 100, 105, 118, 95, 115, 32, 100, 105, 118, 95, 117, 32, 114, 101, 109, 95, 115, 32, 114, 101, 109, 95, 117, 32, 97, 110, 100, 32, 111, 114, 32, 120, 111, 114, 32, 115, 104, 108, 32, 115, 104, 114, 95, 115, 32, 115, 104, 114, 95, 117, 32, 114, 111, 116, 108, 32, 114, 111, 116, 114]), (121, [105, 54, 52, 46], [99, 108, 122, 32, 99, 116, 122, 32, 112, 111, 112, 99, 110, 116, 32, 97, 100, 100, 32, 115, 117, 98, 32, 109, 117, 108, 32, 100, 105, 118, 95, 115, 32, 100, 105, 118, 95, 117, 32, 114, 101, 109, 95, 115, 32, 114, 101, 109, 95, 117, 32, 97, 110, 100, 32, 111, 114, 32, 120, 111, 114, 32, 115, 104, 108, 32, 115, 104, 114, 95, 115, 32, 115, 104, 114, 95, 117, 32, 114, 111, 116, 108, 32, 114, 111, 116, 114]), (167, [], [105, 51, 50, 46, 119, 114, 97, 112, 95, 105, 54, 52]), (172, [105, 54, 52, 46], [101, 120, 116, 101, 110, 100, 95, 105, 51, 50, 95, 115, 32, 101, 120, 116, 101, 110, 100, 95, 105, 51, 50, 95, 117]), (192, [105, 51, 50, 46], [101, 120, 116, 101, 110, 100, 56, 95, 115, 32, 101, 120, 116, 101, 110, 100, 49, 54, 95, 115]), (194, [105, 54, 52, 46], [101, 120, 116, 101, 110, 100, 56, 95, 115, 32, 101, 120, 116, 101, 110, 100, 49, 54, 95, 115, 32, 101, 120, 116, 101, 110, 100, 51, 50, 95, 115]), (208, [114, 101, 102, 46], [110, 117, 108, 108, 32, 105, 115, 95, 110, 117, 108, 108, 32, 102, 117, 110, 99]), (64520, [], [109, 101, 109, 111, 114, 121, 46, 105, 110, 105, 116, 32, 100, 97, 116, 97, 46, 100, 114, 111, 112, 32, 109, 101, 109, 111, 114, 121, 46, 99, 111, 112, 121, 32, 109, 101, 109, 111, 114, 121, 46, 102, 105, 108, 108, 32, 116, 97, 98, 108, 101, 46, 105, 110, 105, 116, 32, 101, 108, 101, 109, 46, 100, 114, 111, 112, 32, 116, 97, 98, 108, 101, 46, 99, 111, 112, 121, 32, 116, 97, 98, 108, 101, 46, 103, 114, 111, 119, 32, 116, 97, 98, 108, 101, 46, 115, 105, 122, 101, 32, 116, 97, 98, 108, 101, 46, 102, 105, 108, 108])]
def rwV (r : Int × List UInt8 × List UInt8) : List Value := [.int .i64 r.1, .string ⟨r.2.1.toArray⟩, .string ⟨r.2.2.toArray⟩]
def rowCells : List Value := rowsO.flatMap rwV
def opsOf (r : Int × List UInt8 × List UInt8) : List (Int × ByteArray) := (Lib.fields r.2.2).zipIdx.map fun p => (r.1 + p.2, ⟨r.2.1.toArray⟩ ++ ⟨p.1.toArray⟩)
def opX : List (Int × ByteArray) := rowsO.flatMap opsOf
theorem opcode_rows (w : World) : Calls G.P 184 #[] w fun e w' => e = .returned (.slice (some ⟨w.heap.size, 0, none⟩) 24 24) ∧ New w w' rowCells 247 := by
  refine enter (G := G) Tryz.func184 rfl Tryz.ntmps184 rfl ?_
  refine wgx ?_
  refine Ops.e (Eff.buildSlice (cs := rowCells) (e := 247) rfl (by kernel_rfl)) rfl ?_
  rintro _ w1 ⟨rfl, hn⟩
  refine wgx ?_
  exact Fin.ret1 rfl rfl ⟨rfl, hn⟩
theorem rowCells_eq : rowCells = (List.range 24).flatMap (fun i => rwV (ix rowsO i)) := by kernel_rfl
theorem rowsO_len : rowsO.length = 24 := rfl
theorem row_ok : ∀ i, i < 24 → 0 ≤ (ix rowsO i).1 ∧ (ix rowsO i).1 ≤ 70000 ∧ (ix rowsO i).2.1.length ≤ 100 ∧ (ix rowsO i).2.2.length ≤ 1000 ∧ ((ix rowsO i).2.2.all fun b => decide (b.toNat < 128)) = true ∧ ((Lib.fields (ix rowsO i).2.2).all fun f => decide (f.length ≤ 100)) = true ∧ (Lib.fields (ix rowsO i).2.2).length ≤ 100 := by decide +kernel
def opAt (r : Int × List UInt8 × List UInt8) (k : Nat) : Int × ByteArray := (r.1 + k, ⟨r.2.1.toArray⟩ ++ ⟨(ix (Lib.fields r.2.2) k).toArray⟩)
theorem opsOf_len (r : Int × List UInt8 × List UInt8) : (opsOf r).length = (Lib.fields r.2.2).length := by simp [opsOf]
theorem opsOf_take {r : Int × List UInt8 × List UInt8} {k : Nat} (h : k < (Lib.fields r.2.2).length) : (opsOf r).take (k + 1) = (opsOf r).take k ++ [opAt r k] := by
  have hl : k < (opsOf r).length := by rw [opsOf_len]; exact h
  rw [List.take_succ_eq_append_getElem hl]
  congr 2
  simp only [opsOf, List.getElem_map, List.getElem_zipIdx, opAt, ix_eq h]
  simp
def preO (i k : Nat) : List (Int × ByteArray) := (rowsO.take i).flatMap opsOf ++ (opsOf (ix rowsO i)).take k
theorem preO_pre {i k : Nat} (hi : i < 24) : preO i k <+: opX := by
  refine ⟨(opsOf (ix rowsO i)).drop k ++ (rowsO.drop (i + 1)).flatMap opsOf, ?_⟩
  have e : rowsO = rowsO.take i ++ ([ix rowsO i] ++ rowsO.drop (i + 1)) := by
    rw [← List.append_assoc, ← take_succ_ix (by rw [rowsO_len]; exact hi), List.take_append_drop]
  unfold preO opX
  conv => rhs; rw [e]
  simp only [List.flatMap_append, List.flatMap_cons, List.flatMap_nil, List.append_nil]
  rw [List.append_assoc, ← List.append_assoc (List.take k _), List.take_append_drop]
theorem preO_next {i : Nat} (hi : i < 24) : preO i (Lib.fields (ix rowsO i).2.2).length = preO (i + 1) 0 := by
  unfold preO
  rw [← opsOf_len, List.take_length, List.take_zero, List.append_nil, take_succ_ix (by rw [rowsO_len]; exact hi), List.flatMap_append]
  simp
theorem preO_end : preO 24 0 = opX := by unfold preO opX; rw [List.take_zero, List.append_nil, ← rowsO_len, List.take_length]
def TK (T : TypeId) : Prop := T = 247 ∨ T = 9 ∨ T = 163
structure KpO (B : Nat) (W W' : World) : Prop where
  size : W.heap.size ≤ W'.heap.size
  same : ∀ (k : Nat) (cs : List Value) (T : TypeId), B ≤ k → TK T → Blk W k cs T → Blk W' k cs T
  env : Env0 W → Env0 W'
theorem KpO.refl (B : Nat) (W : World) : KpO B W W := ⟨Nat.le_refl _, fun _ _ _ _ _ h => h, id⟩
theorem KpO.trans {B : Nat} {X Y Z : World} (h : KpO B X Y) (k : KpO B Y Z) : KpO B X Z := ⟨Nat.le_trans h.size k.size, fun i cs T hB hT hi => k.same i cs T hB hT (h.same i cs T hB hT hi), fun e => k.env (h.env e)⟩
theorem KpO.put {B : Nat} {W : World} {l : Nat} {o o' : Obj} (hl : W.heap[l]? = some o) (ho : o.isCells = false) : KpO B W (W.putObj l o') :=
  ⟨by simp [World.putObj], fun k cs T _ _ hk => by
    have : k ≠ l := by rintro rfl; unfold Blk at hk; rw [hl] at hk; cases hk; cases ho
    unfold Blk; rw [World.putObj_heap_other this]; exact hk, fun e => e.put hl ho⟩
theorem KpO.blk {B : Nat} {W W' : World} (h : KpO B W W') {b : Nat} {cs : List Value} {T : TypeId} (hb : Blk W b cs T) (hB : B ≤ b) (hT : TK T) : Blk W' b cs T := h.same b cs T hB hT hb
theorem KpO.le {B B' : Nat} {W W' : World} (h : KpO B W W') (hB : B ≤ B') : KpO B' W W' := ⟨h.size, fun k cs T hk => h.same k cs T (Nat.le_trans hB hk), h.env⟩
theorem Ext.grown {W W' : World} (h : Ext W W') : W.grownBy W' none := ⟨h.os, h.tape, h.output, h.size, fun k hk _ => h.block k hk id⟩
def encO (x : Int × ByteArray) : List Value := [.int .i64 x.1, .string x.2]
theorem yield_any {ro ro' : Option Nat} {m m' : Nat} {l : Nat} {args : Array Value} {W : World} {R : Ending → World → Prop} (h : YieldAt (FW ro) m G.P l args W R) : YieldAt (FW ro') m' G.P l args W R := by
  obtain ⟨fn, tmps, assign, body, hy, hR⟩ := h
  exact ⟨fn, tmps, assign, body, hy, trivial, fun c cs _ => hR.2 c cs (fun d hd => by cases hd)⟩
set_option maxHeartbeats 4000000 in
theorem named1_gen (w0 : World) (h0 : Env0 w0) (l : Nat) (J Jx : List (Int × ByteArray) → World → Prop) (W : World) (hW : Below w0.heap.size w0 W) (hJ : ∀ s A B, J s A → A.grownBy B none → J s B)
    (hY : ∀ pre x W1, J pre W1 → pre ++ [x] <+: opX → YieldAt (FW none) 0 G.P l (encO x).toArray W1 fun e W' => (e = .returned (.bool true) ∧ J (pre ++ [x]) W' ∧ KpO w0.heap.size W1 W') ∨ (e = .returned (.bool false) ∧ Jx (pre ++ [x]) W')) (hJ0 : J [] W) :
    Calls G.P 183 ([.func (.yield l) #[] #[]] : List Value).toArray W fun e W' => (∃ v, e = .returned v) ∧ (J opX W' ∨ ∃ pre, pre <+: opX ∧ Jx pre W') := by
  have hEW : Env0 W := h0.ext (Ext.ofBelow hW)
  have hBW : w0.heap.size ≤ W.heap.size := hW.size
  have abide : ∀ {pre : List (Int × ByteArray)} {A B : World}, J pre A → Ext A B → J pre B := fun {pre A B} h hx => hJ pre A B h hx.grown
  refine enter (G := G) Tryz.func183 rfl Tryz.ntmps183 rfl ?_
  refine wgy ?_
  refine Ops.call rfl rfl rfl (opcode_rows W) ?_
  rintro _ w1 ⟨rfl, hn1⟩
  refine ⟨_, rfl, ?_⟩
  refine wgy ?_
  refine Cd.loop (σ := Nat) (fun i => [(0, .func (.yield l) #[] #[]), (6, .slice (some ⟨W.heap.size, 0, none⟩) 24 24), (7, .int .i64 24), (8, .int .i64 i)]) (fun i wr => i ≤ 24 ∧ J (preO i 0) wr ∧ Env0 wr ∧ Blk wr W.heap.size rowCells 247) (fun i => 24 - i) 0 wsub ⟨by omega, abide (show J (preO 0 0) W from hJ0) hn1.ext, hEW.ext hn1.ext, hn1.blk⟩ ?_
  rintro i wr ⟨hi, hJi, hEi, hBi⟩
  by_cases hlt : i < 24
  · obtain ⟨k1, k2, k3, k4, k5, k6, k7⟩ := row_ok i hlt
    have hcell : ∀ w', w' = wr → ∀ j, j < 3 → w'.cell? ⟨W.heap.size, 0 + i * 3 + j, none⟩ = (rwV (ix rowsO i))[j]? := by
      rintro _ rfl j hj
      have e : rowCells[i * 3 + j]? = (rwV (ix rowsO i))[j]? := by rw [rowCells_eq]; exact flat_get 3 (fun i => rwV (ix rowsO i)) 24 (fun _ _ => rfl) i j hlt hj
      rw [Nat.zero_add]
      have hs : ∃ u, (rwV (ix rowsO i))[j]? = some u := ⟨_, List.getElem?_eq_getElem (by simpa [rwV] using hj)⟩
      obtain ⟨u, hu⟩ := hs
      rw [hu] at e ⊢
      exact hBi.cell e
    have hpre := fun k => preO_pre (i := i) (k := k) hlt
    have hnext := preO_next hlt
    have htake := fun k (h : k < (Lib.fields (ix rowsO i).2.2).length) => opsOf_take h
    refine wgy ?_
    refine Ops.y (Yl.loadA (cs := rwV (ix rowsO i)) rfl rfl rfl rfl rfl hcell) rfl ?_
    refine Ops.e (Eff.alloc rfl) rfl ?_
    rintro _ w2 ⟨rfl, hn2⟩
    refine Ops.e0 (Eff.storeB (ti := ti247) (cs := rwV (ix rowsO i)) rfl rfl rfl rfl rfl (by simp [rwV, Value.oneCell']) hn2.blk rfl) ?_
    rintro _ w3 ⟨hb3, hc3, hz3⟩
    have hx3 : Ext wr w3 := Chg.trans' hn2.ext hc3 (fun k hk e => by omega)
    generalize hgb : wr.heap.size = b2 at *
    have c0 : w3.cell? ⟨b2, 0, none⟩ = some (.int .i64 (ix rowsO i).1) := hb3.cell rfl
    have c1 : w3.cell? ⟨b2, 0 + 1, none⟩ = some (.string ⟨(ix rowsO i).2.1.toArray⟩) := hb3.cell rfl
    have c2 : w3.cell? ⟨b2, 0 + 2, none⟩ = some (.string ⟨(ix rowsO i).2.2.toArray⟩) := hb3.cell rfl
    refine wgy ?_
    have hE3 : Env0 w3 := hEi.ext hx3
    refine Ops.call rfl rfl rfl (sh_Fields ⟨(ix rowsO i).2.2.toArray⟩ w3 (show (ix rowsO i).2.2.length < _ by omega) (fun j b hb => ?_) hE3.asc) ?_
    · have := List.all_eq_true.1 k5 b (List.mem_of_getElem? hb)
      simpa using this
    rintro _ _ ⟨rfl, rfl⟩
    refine ⟨_, rfl, ?_⟩
    have hn4 := New.alloc w3 ((Lib.fields (ix rowsO i).2.2).map fun l => Value.string ⟨l.toArray⟩) 9
    generalize hw4 : w3.alloc (.cells ((Lib.fields (ix rowsO i).2.2).map fun l => Value.string ⟨l.toArray⟩).toArray 9) = w4 at *
    have hx4 : Ext wr w4 := hx3.trans hn4.ext
    have hb4 : Blk w4 b2 (rwV (ix rowsO i)) 247 := hb3.chg hn4.ext id
    have hB4 : Blk w4 W.heap.size rowCells 247 := hBi.chg hx4 id
    have hf4 := hn4.blk
    generalize hgc : w3.heap.size = b4 at *
    have hle2 : W.heap.size < b2 := by have := hBi.lt; omega
    have hle4 : b2 < b4 := by have := hb3.lt; omega
    have hJ4 : J (preO i 0) w4 := abide hJi hx4
    have hE4 : Env0 w4 := hE3.ext hn4.ext
    clear hn4 hx4 hx3 hb3 hc3 hz3 hn2 c0 c1 c2 hE3 hEi hJi hBi hcell hw4
    refine wgy ?_
    refine Cd.loop (σ := Nat) (fun k => [(0, .func (.yield l) #[] #[]), (3, .pointer (some ⟨b2, 0, none⟩)), (6, .slice (some ⟨W.heap.size, 0, none⟩) 24 24), (7, .int .i64 24), (8, .int .i64 i), (14, .slice (some ⟨b4, 0, none⟩) (Lib.fields (ix rowsO i).2.2).length (Lib.fields (ix rowsO i).2.2).length), (15, .int .i64 ((Lib.fields (ix rowsO i).2.2).length : Nat)), (16, .int .i64 k)])
      (fun k wq => k ≤ (Lib.fields (ix rowsO i).2.2).length ∧ J (preO i k) wq ∧ Env0 wq ∧ Blk wq W.heap.size rowCells 247 ∧ Blk wq b2 (rwV (ix rowsO i)) 247 ∧ Blk wq b4 ((Lib.fields (ix rowsO i).2.2).map fun l => Value.string ⟨l.toArray⟩) 9) (fun k => (Lib.fields (ix rowsO i).2.2).length - k) 0 wsub ⟨by omega, hJ4, hE4, hB4, hb4, hf4⟩ ?_
    clear hJ4 hE4 hB4 hb4 hf4
    rintro k wq ⟨hk, hJk, hEk, hBk, hb, hf⟩
    by_cases hkl : k < (Lib.fields (ix rowsO i).2.2).length
    · have c0 : wq.cell? ⟨b2, 0, none⟩ = some (.int .i64 (ix rowsO i).1) := hb.cell rfl
      have c1 : wq.cell? ⟨b2, 0 + 1, none⟩ = some (.string ⟨(ix rowsO i).2.1.toArray⟩) := hb.cell rfl
      have c4 : wq.cell? ⟨b4, 0 + k, none⟩ = some (.string ⟨(ix (Lib.fields (ix rowsO i).2.2) k).toArray⟩) := by
        rw [Nat.zero_add]
        exact hf.cell (by rw [List.getElem?_map, ix_some hkl]; rfl)
      have hs1 : (⟨(ix rowsO i).2.1.toArray⟩ : ByteArray).size = (ix rowsO i).2.1.length := rfl
      have hs2 : (⟨(ix (Lib.fields (ix rowsO i).2.2) k).toArray⟩ : ByteArray).size = (ix (Lib.fields (ix rowsO i).2.2) k).length := rfl
      have hs3 : (ix (Lib.fields (ix rowsO i).2.2) k).length ≤ 100 := by
        have := List.all_eq_true.1 k6 _ (show ix (Lib.fields (ix rowsO i).2.2) k ∈ _ by rw [ix_eq hkl]; exact List.getElem_mem hkl)
        simpa using this
      have hstep : preO i (k + 1) = preO i k ++ [opAt (ix rowsO i) k] := by unfold preO; rw [htake k hkl, List.append_assoc]
      have hyk := hY (preO i k) (opAt (ix rowsO i) k) wq hJk (by rw [← hstep]; exact hpre (k + 1))
      refine wgy ?_
      refine Cd.regionI 0 ?_
      refine wgi ?_
      refine OpsI.round rfl rfl rfl hyk ?_
      rintro e w5 (⟨rfl, hJ5, hK5⟩ | ⟨rfl, hJx5⟩)
      · refine ⟨_, rfl, ?_⟩
        refine wgi ?_
        refine FinI.ofFin ?_
        refine wgy ?_
        refine Fin.next (k + 1) wsub ⟨by omega, by rw [hstep]; exact hJ5, hK5.env hEk, hK5.blk hBk hBW (.inl rfl), hK5.blk hb (by omega) (.inl rfl), hK5.blk hf (by omega) (.inr (.inl rfl))⟩ (by omega)
      · refine ⟨_, rfl, ?_⟩
        refine wgi ?_
        refine FinI.ofFin ?_
        refine wgy ?_
        refine Fin.ret0 rfl ⟨⟨_, rfl⟩, .inr ⟨preO i k ++ [opAt (ix rowsO i) k], ?_, hJx5⟩⟩
        rw [← hstep]; exact hpre (k + 1)
    · have hke : k = (Lib.fields (ix rowsO i).2.2).length := by omega
      subst hke
      refine wgy ?_
      refine Fin.next (i + 1) wsub ⟨by omega, by rw [← hnext]; exact hJk, hEk, hBk⟩ (by omega)
  · have hie : i = 24 := by omega
    subst hie
    refine wgy ?_
    refine Fin.end0 rfl ⟨⟨_, rfl⟩, .inl (by rw [← preO_end]; exact hJi)⟩
theorem named1_stops (m : Nat) (w0 : World) (h0 : Env0 w0) : SeqStopsK (FW none) m G.P 183 #[] (fun x => (encO x).toArray) (KpO w0.heap.size) (fun xs => xs = opX) (fun pre => pre <+: opX) opX.length w0 := fun l J Jx W hW hJ hJx hY hJ0 =>
  FW_calls ((named1_gen w0 h0 l J Jx W hW (fun s A B h hg => hJ s A B none h hg (fun r e => by cases e)) (fun pre x W1 hj hp => yield_any (hY pre x W1 hj (by have := hp.length_le; simp at this; omega))) hJ0).mono fun _ _ h => ⟨h.1, h.2.imp (fun h => ⟨_, rfl, h⟩) id⟩)
theorem run_ret1s {fn : Func} {n : Nat} {E : Env} {w : World} {a T : Nat} {ti : TI} {v : Value} {ad : Addr} (hr : fn.results = #[.cell a T]) (ha : lk E a = some (.pointer (some ad))) (hT : G.ty T = some ti) (hag : ti.agg = false) (hc : w.cell? ad = some v) :
    ∀ ac, Ag n ac E → (results fn ac.tmps).run G.P w = .ok v w := fun ac hac => by
  have h1 := (G.tyOk T ti hT).agg w
  rw [hag] at h1
  have g1 : ac.tmps[a]?.getD undef = .pointer (some ad) := by have := (hac.eq a _ ha).2; simpa using this
  simp [results, hr, g1, asAddr, loadVar, h1, hc]
def findO (op : Int) : List (Int × ByteArray) → Option ByteArray
  | [] => none
  | x :: r => if x.1 = op then some x.2 else findO op r
def nameO (op : Int) : ByteArray := (findO op opX).getD ⟨#[]⟩
theorem findO_none {op : Int} : ∀ {l : List (Int × ByteArray)}, (∀ x ∈ l, x.1 ≠ op) → findO op l = none
  | [], _ => rfl
  | x :: r, h => by rw [findO, if_neg (h x (by simp))]; exact findO_none (fun y hy => h y (by simp [hy]))
theorem findO_app {op : Int} {x : Int × ByteArray} (hx : x.1 = op) {r : List (Int × ByteArray)} : ∀ {l : List (Int × ByteArray)}, (∀ y ∈ l, y.1 ≠ op) → findO op (l ++ [x] ++ r) = some x.2
  | [], _ => by simp [findO, hx]
  | y :: l, h => by
    show findO op (y :: (l ++ [x] ++ r)) = _
    rw [findO, if_neg (h y (by simp))]; exact findO_app hx (fun z hz => h z (by simp [hz]))
theorem opcode_named (w : World) : Calls G.P 167 #[] w fun e w' => e = .returned (.func (.func 183) #[] #[]) ∧ w = w' := by
  refine enter (G := G) Tryz.func167 rfl Tryz.ntmps167 rfl ?_
  refine wgx ?_
  exact Fin.ret1 rfl rfl ⟨rfl, rfl⟩
theorem Blk.grown {W W' : World} {row : Option Nat} {B b : Nat} {cs : List Value} {T : TypeId} (h : Blk W b cs T) (hb : b < B) (hg : W.grownBy W' row) (hr : ∀ r, row = some r → B ≤ r ∧ ∃ o : Obj, W.heap[r]? = some o ∧ o.isCells = false) : Blk W' b cs T := by
  unfold Blk
  rw [hg.block b h.lt (fun e => by have := (hr b e.symm).1; omega)]; exact h
theorem Ext.grownB {w W W' : World} {row : Option Nat} {B : Nat} (h : Ext w W) (hB : w.heap.size ≤ B) (hg : W.grownBy W' row) (hr : ∀ r, row = some r → B ≤ r ∧ ∃ o : Obj, W.heap[r]? = some o ∧ o.isCells = false) : Ext w W' :=
  Chg.trans' h (Chg.ofGrown hg) (fun k hk e => by have := (hr k e).1; omega)
theorem Ext.putD {w W : World} (h : Ext w W) {l : Nat} (hl : w.heap.size ≤ l) (o : Obj) : Ext w (W.putObj l o) :=
  Chg.trans' h (T := fun k => k = l) ⟨rfl, rfl, rfl, by simp [World.putObj], fun k _ hk => World.putObj_heap_other hk⟩ (fun k hk e => by omega)
set_option maxHeartbeats 4000000 in
theorem opcode_Name (op : Int) (w : World) (h0 : Env0 w) : Calls G.P 140 #[.int .i64 op] w fun e w' => e = .returned (.string (nameO op)) ∧ Ext w w' := by
  refine enterI (m := 5) (l := [.int .i64 op]) Tryz.func140 rfl Tryz.ntmps140 rfl ?_
  refine wgi ?_
  refine OpsI.e (Eff.box rfl rfl) rfl rfl ?_
  rintro _ w1 ⟨rfl, hn1⟩
  refine OpsI.e (Eff.alloc rfl) rfl rfl ?_
  rintro _ w2 ⟨rfl, hn2⟩
  refine wgi ?_
  refine OpsI.e (Eff.call rfl rfl (opcode_named w2) (fun e w' h => ⟨_, h.1⟩)) rfl rfl ?_
  rintro _ _ ⟨h, rfl⟩
  cases h
  refine wgi ?_
  have hx2 : Ext w w2 := hn1.ext.trans hn2.ext
  have hs1 := hn1.size
  have hs2 := hn2.size
  have hb1 : Blk w2 w.heap.size [.int .i64 op] 35 := hn1.blk.chg hn2.ext id
  have hb2 : Blk w2 w1.heap.size [.string ⟨#[]⟩] 9 := hn2.blk
  generalize w1.heap.size = b2 at *
  generalize hgb : w.heap.size = b1 at *
  refine CdI.rangeFunc (encs := encO) (Kp := KpO w2.heap.size) (S := fun xs => xs = opX) (Sp := fun pre => pre <+: opX) (N := opX.length) rfl rfl (by omega) (named1_stops _ w2 (h0.ext hx2)) (fun h k => h.trans k) (fun W l o o' _ hl ho _ => KpO.put hl ho) (KpO.refl _) (fun _ => rfl) rfl
    (fun pre W => (∀ x ∈ pre, x.1 ≠ op) ∧ Blk W b1 [.int .i64 op] 35 ∧ Blk W b2 [.string ⟨#[]⟩] 9 ∧ Ext w W)
    (fun c pre W => c = .ret ∧ ∃ pre' x, pre = pre' ++ [x] ∧ x.1 = op ∧ (∀ y ∈ pre', y.1 ≠ op) ∧ Blk W b2 [.string x.2] 9 ∧ Ext w W)
    (fun pre W W' row ⟨h1, h2, h3, h4⟩ hg hr => ⟨h1, h2.grown (by omega) hg hr, h3.grown (by omega) hg hr, h4.grownB (by omega) hg hr⟩)
    (fun c pre W W' row ⟨h1, p, x, h2, h3, h4, h5, h6⟩ hg hr => ⟨h1, p, x, h2, h3, h4, h5.grown (by omega) hg hr, h6.grownB (by omega) hg hr⟩)
    ⟨by simp, hb1, hb2, hx2⟩ (fun x => [(1, .pointer (some ⟨b1, 0, none⟩)), (2, .pointer (some ⟨b2, 0, none⟩)), (3, .int .i64 x.1), (4, .string x.2)]) ?_ ?_ ?_ ?_
  · intro l x W K hK
    refine wgi ?_
    exact FinI.thenK (fun a ha => hK a (ha.sub wsub))
  · rintro l pre x W ⟨h1, h2, h3, h4⟩ hN
    have c1 : W.cell? ⟨b1, 0, none⟩ = some (.int .i64 op) := h2.cell rfl
    by_cases hx : x.1 = op
    · refine wgi ?_
      refine OpsI.e0 (Eff.storeW (ti := ti9) rfl rfl rfl rfl rfl h3 (by simp)) rfl ?_
      rintro _ W2 ⟨hb, hc, hz⟩
      refine wgi ?_
      refine ⟨fun a ha => ⟨⟨by omega, fun k o hk ho hno => ?_⟩, rfl, pre, x, rfl, hx, h1, hb, ?_⟩⟩
      · rw [hc.block k (Array.getElem?_eq_some_iff.1 ho).1 (by omega)]; exact ho
      · exact Chg.trans' h4 hc (fun k hk e => by omega)
    · refine wgi ?_
      refine ⟨fun a ha => ⟨KeepsFrom.refl _ _, KpO.refl _ _, fun y hy => ?_, h2, h3, h4⟩⟩
      rcases List.mem_append.1 hy with hy | hy
      · exact h1 y hy
      · rw [List.mem_singleton] at hy; subst hy; exact hx
  · rintro Dn xs W hD rfl ⟨h1, h2, h3, h4⟩ hK
    refine wgi ?_
    refine OpsI.e0 (Eff.storeW (ti := ti9) rfl rfl rfl rfl rfl h3 (by simp)) rfl ?_
    rintro _ W2 ⟨hb, hc, hz⟩
    refine wgi ?_
    have hx4 : Ext w W2 := Chg.trans' h4 hc (fun k hk e => by omega)
    refine FinI.retM (.inl rfl) (by rw [hc.block Dn (Array.getElem?_eq_some_iff.1 hK).1 (by omega)]; exact hK) (run_ret1s rfl rfl rfl rfl ?_) ⟨rfl, hx4.putD (by omega) _⟩
    rw [World.cell?_of_block (w := W2) (World.putObj_heap_other (by show b2 ≠ Dn; omega)), show nameO op = ⟨#[]⟩ by unfold nameO; rw [findO_none h1]; rfl]
    exact hb.cell rfl
  · rintro Dn c pre W hD hp ⟨rfl, pre', x, rfl, hx, h1, hb, h4⟩ hK
    refine wgi ?_
    refine FinI.retM (.inl rfl) hK (run_ret1s rfl rfl rfl rfl ?_) ⟨rfl, h4.putD (by omega) _⟩
    obtain ⟨r, hr⟩ := hp
    rw [World.cell?_of_block (w := W) (World.putObj_heap_other (by show b2 ≠ Dn; omega)), show nameO op = x.2 by unfold nameO; rw [← hr, findO_app hx h1]; rfl]
    exact hb.cell rfl
theorem opcode_Known (op : Int) (w : World) (h0 : Env0 w) : Calls G.P 124 #[.int .i64 op] w fun e w' => e = .returned (.bool (!(by_ (nameO op) == []))) ∧ Ext w w' := by
  refine enter (G := G) Tryz.func124 rfl Tryz.ntmps124 rfl ?_
  refine wgx ?_
  refine Ops.call rfl rfl rfl (opcode_Name op w h0) ?_
  rintro _ w1 ⟨rfl, hx⟩
  refine ⟨_, rfl, ?_⟩
  refine wgx ?_
  exact Fin.ret1 rfl rfl ⟨rfl, hx⟩
end Go.Proofs.YtgbgnipidakdhaaGreatDoor
