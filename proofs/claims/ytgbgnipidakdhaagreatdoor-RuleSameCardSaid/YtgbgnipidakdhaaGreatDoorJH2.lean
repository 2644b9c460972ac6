/- Small functions over texts: HasPrefix; opcode.of, begins. -/
import Derived.Test.YtgbgnipidakdhaaGreatDoorJE
import Derived.Test.YtgbgnipidakdhaaGreatDoorJTy
import Derived.Shelf.Strings.Fields
import Derived.Shelf.Strings.Search3
import Derived.Test.YtgbgnipidakdhaaGreatDoorProg
import Derived.KernelRfl
import Derived.Test.YtgbgnipidakdhaaGreatDoorJJ
namespace Go.Proofs.YtgbgnipidakdhaaGreatDoor
open Go.RowKit
set_option maxRecDepth 100000

/-- the letters of a text -/
abbrev by_ (s : ByteArray) : List UInt8 := s.data.toList
theorem by_len (s : ByteArray) : (by_ s).length = s.size := rfl
def hasPre (s p : List UInt8) : Bool := p.length ≤ s.length && s.take p.length == p
theorem by_extract (s : ByteArray) (i j : Nat) : by_ (s.extract i j) = ((by_ s).take j).drop i := by
  simp only [by_, ByteArray.data_extract, Array.toList_extract, List.extract_eq_drop_take']

theorem lite_HasPrefix (s p : ByteArray) (w : World) : Calls G.P 168 #[.string s, .string p] w fun e w' => e = .returned (.bool (hasPre (by_ s) (by_ p))) ∧ w = w' := by
  refine enter (G := G) Tryz.func168 rfl Tryz.ntmps168 rfl ?_
  have hs := by_len s
  have hp := by_len p
  by_cases h : p.size ≤ s.size
  · refine wgx ?_
    refine Fin.ret1 rfl rfl ⟨?_, rfl⟩
    unfold hasPre
    rw [hp, hs, decide_eq_true h, Bool.true_and, ← hp]
    congr 2
    have := by_extract s 0 p.size
    rw [List.drop_zero] at this
    rw [hp]; exact congrArg (· == by_ p) this
  · refine wgx ?_
    refine Fin.ret1 rfl rfl ⟨?_, rfl⟩
    unfold hasPre
    rw [hp, hs, decide_eq_false h, Bool.false_and]

theorem strings_HasPrefix (s p : ByteArray) (w : World) : Calls G.P 141 #[.string s, .string p] w fun e w' => e = .returned (.bool (hasPre (by_ s) (by_ p))) ∧ w = w' := by
  refine enter (G := G) Tryz.func141 rfl Tryz.ntmps141 rfl ?_
  refine wgx ?_
  refine Ops.call rfl rfl rfl (lite_HasPrefix s p w) ?_
  rintro _ _ ⟨rfl, rfl⟩
  refine ⟨_, rfl, ?_⟩
  refine wgx ?_
  exact Fin.ret1 rfl rfl ⟨rfl, rfl⟩

/-- the number type with which a name begins -/
def begO (s : List UInt8) : Int := if hasPre s [105, 54, 52] then 2 else 1
theorem opcode_begins (s : ByteArray) (w : World) : Calls G.P 143 #[.string s] w fun e w' => e = .returned (.int .i64 (begO (by_ s))) ∧ w = w' := by
  refine enter (G := G) Tryz.func143 rfl Tryz.ntmps143 rfl ?_
  refine wgx ?_
  refine Ops.call rfl rfl rfl (strings_HasPrefix s _ w) ?_
  rintro _ _ ⟨rfl, rfl⟩
  refine ⟨_, rfl, ?_⟩
  unfold begO
  cases hasPre (by_ s) [105, 54, 52] <;> (refine wgx ?_; exact Fin.ret1 rfl rfl ⟨rfl, rfl⟩)

theorem opcode_of (a b : Option Addr) (l c l2 c2 : Nat) (w : World) : Calls G.P 139 #[.slice a l c, .slice b l2 c2] w fun e w' => e = .returned (.agg #[.slice a l c, .slice b l2 c2]) ∧ Ext w w' := by
  refine enter (G := G) Tryz.func139 rfl Tryz.ntmps139 rfl ?_
  refine wgx ?_
  refine Ops.e (Eff.alloc rfl) rfl ?_
  rintro _ w1 ⟨rfl, hn⟩
  refine wgx ?_
  refine Ops.e0 (Eff.storeB (ti := ti47) (cs := [.slice a l c, .slice b l2 c2]) rfl rfl rfl rfl rfl (by simp [Value.oneCell']) hn.blk rfl) ?_
  rintro _ w2 ⟨hb, hc, _⟩
  refine wgx ?_
  exact Fin.ret1c (.inl rfl) rfl rfl rfl rfl rfl hb rfl ⟨rfl, Chg.trans' hn.ext hc (fun k hk e => by omega)⟩
end Go.Proofs.YtgbgnipidakdhaaGreatDoor
/- Contracts off the shelf, laid by the kit's tools over this seat's dump. Printed by gen_sh.py. -/
namespace Go.Proofs.YtgbgnipidakdhaaGreatDoor
open Go.Shelf
set_option maxRecDepth 100000
def lays157__ren : Go.Shelf.Ren := ⟨fun | 157 => 185 | 229 => 194 | 199 => 195 | 261 => 200 | 311 => 203 | 312 => 204 | n => n, fun | 9 => 9 | 31 => 224 | 3 => 3 | 5 => 5 | 4 => 4 | 119 => 252 | 0 => 0 | 40 => 254 | 152 => 258 | 21 => 21 | 154 => 260 | 51 => 261 | 141 => 263 | 196 => 269 | 193 => 266 | 198 => 272 | 49 => 270 | 194 => 267 | 201 => 275 | 226 => 277 | 46 => 257 | 227 => 278 | n => n, fun | 0 => 0 | 6 => 2 | n => n⟩
theorem lays157_ : Go.Proofs.Lays.n157 Tryz.prog lays157__ren := {
  mixed := by kernel_rfl
  f157 := Tryz.func185.trans (congrArg some (by kernel_rfl))
  f199 := Tryz.func195.trans (congrArg some (by kernel_rfl))
  f229 := Tryz.func194.trans (congrArg some (by kernel_rfl))
  f261 := Tryz.func200.trans (congrArg some (by kernel_rfl))
  f311 := Tryz.func203.trans (congrArg some (by kernel_rfl))
  f312 := Tryz.func204.trans (congrArg some (by kernel_rfl))
  t0 := Tryz.underlying0
  a0 := Tryz.isAgg0
  z0 := Tryz.sizeOf0
  v0 := Tryz.zeroValue0
  t3 := Tryz.underlying3
  a3 := Tryz.isAgg3
  z3 := Tryz.sizeOf3
  v3 := Tryz.zeroValue3
  t4 := Tryz.underlying4
  a4 := Tryz.isAgg4
  z4 := Tryz.sizeOf4
  v4 := Tryz.zeroValue4
  t5 := Tryz.underlying5
  a5 := Tryz.isAgg5
  z5 := Tryz.sizeOf5
  v5 := Tryz.zeroValue5
  t9 := Tryz.underlying9
  a9 := Tryz.isAgg9
  z9 := Tryz.sizeOf9
  v9 := Tryz.zeroValue9
  t21 := Tryz.underlying21
  a21 := Tryz.isAgg21
  z21 := Tryz.sizeOf21
  v21 := Tryz.zeroValue21
  t31 := Tryz.underlying224
  a31 := Tryz.isAgg224
  z31 := Tryz.sizeOf224
  v31 := Tryz.zeroValue224
  t40 := Tryz.underlying254
  a40 := Tryz.isAgg254
  z40 := Tryz.sizeOf254
  v40 := Tryz.zeroValue254
  t46 := Tryz.underlying257
  a46 := Tryz.isAgg257
  z46 := Tryz.sizeOf257
  v46 := Tryz.zeroValue257
  t49 := Tryz.underlying270
  a49 := Tryz.isAgg270
  z49 := Tryz.sizeOf270
  v49 := Tryz.zeroValue270
  t51 := Tryz.underlying261
  a51 := Tryz.isAgg261
  z51 := Tryz.sizeOf261
  v51 := Tryz.zeroValue261
  t119 := Tryz.underlying252
  a119 := Tryz.isAgg252
  z119 := Tryz.sizeOf252
  t141 := Tryz.underlying263
  a141 := Tryz.isAgg263
  z141 := Tryz.sizeOf263
  v141 := Tryz.zeroValue263
  t152 := Tryz.underlying258
  a152 := Tryz.isAgg258
  z152 := Tryz.sizeOf258
  v152 := Tryz.zeroValue258
  t154 := Tryz.underlying260
  a154 := Tryz.isAgg260
  z154 := Tryz.sizeOf260
  v154 := Tryz.zeroValue260
  t193 := Tryz.underlying266
  a193 := Tryz.isAgg266
  z193 := Tryz.sizeOf266
  v193 := Tryz.zeroValue266
  t194 := Tryz.underlying267
  a194 := Tryz.isAgg267
  z194 := Tryz.sizeOf267
  v194 := Tryz.zeroValue267
  t196 := Tryz.underlying269
  a196 := Tryz.isAgg269
  z196 := Tryz.sizeOf269
  v196 := Tryz.zeroValue269
  t198 := Tryz.underlying272
  a198 := Tryz.isAgg272
  z198 := Tryz.sizeOf272
  v198 := Tryz.zeroValue272
  t201 := Tryz.underlying275
  a201 := Tryz.isAgg275
  z201 := Tryz.sizeOf275
  v201 := Tryz.zeroValue275
  t226 := Tryz.underlying277
  a226 := Tryz.isAgg277
  z226 := Tryz.sizeOf277
  v226 := Tryz.zeroValue277
  t227 := Tryz.underlying278
  a227 := Tryz.isAgg278
  z227 := Tryz.sizeOf278
  v227 := Tryz.zeroValue278
  g0 := by kernel_rfl
  g6 := by kernel_rfl }

open Go.RowKit Go.Lib in
theorem sh_Fields (s : ByteArray) (w : World) (hs : s.size < 4294967281) (hascii : ∀ (j : Nat) b, s.data.toList[j]? = some b → b.toNat < 128) (hT : ∀ c : Nat, c < 256 → w.cell? ⟨0, c, none⟩ = some (.int .u8 (if Lib.isSp (UInt8.ofNat c) then 1 else 0))) :
    Calls Tryz.prog 185 #[.string s] w fun e w' => e = .returned (.slice (some ⟨w.heap.size, 0, none⟩) (Lib.fields s.data.toList).length (Lib.fields s.data.toList).length) ∧ w' = w.alloc (.cells ((Lib.fields s.data.toList).map fun l => Value.string ⟨l.toArray⟩).toArray 9) := Any.strings_Fields_core lays157_ (by kernel_rfl) s w hs hascii hT
def lays144__ren : Go.Shelf.Ren := ⟨fun | 144 => 160 | 143 => 182 | 219 => 193 | 217 => 196 | 225 => 197 | 224 => 198 | 267 => 199 | 266 => 201 | 314 => 202 | n => n, fun | 9 => 9 | 4 => 4 | 3 => 3 | 5 => 5 | 46 => 257 | 146 => 264 | 51 => 261 | n => n, fun | 1 => 1 | n => n⟩
theorem lays144_ : Go.Proofs.Lays.n144 Tryz.prog lays144__ren := {
  mixed := by kernel_rfl
  f143 := Tryz.func182.trans (congrArg some (by kernel_rfl))
  f144 := Tryz.func160.trans (congrArg some (by kernel_rfl))
  f217 := Tryz.func196.trans (congrArg some (by kernel_rfl))
  f219 := Tryz.func193.trans (congrArg some (by kernel_rfl))
  f224 := Tryz.func198.trans (congrArg some (by kernel_rfl))
  f225 := Tryz.func197.trans (congrArg some (by kernel_rfl))
  f266 := Tryz.func201.trans (congrArg some (by kernel_rfl))
  f267 := Tryz.func199.trans (congrArg some (by kernel_rfl))
  f314 := Tryz.func202.trans (congrArg some (by kernel_rfl))
  t3 := Tryz.underlying3
  a3 := Tryz.isAgg3
  z3 := Tryz.sizeOf3
  v3 := Tryz.zeroValue3
  t4 := Tryz.underlying4
  a4 := Tryz.isAgg4
  z4 := Tryz.sizeOf4
  v4 := Tryz.zeroValue4
  t5 := Tryz.underlying5
  a5 := Tryz.isAgg5
  z5 := Tryz.sizeOf5
  v5 := Tryz.zeroValue5
  t9 := Tryz.underlying9
  a9 := Tryz.isAgg9
  z9 := Tryz.sizeOf9
  v9 := Tryz.zeroValue9
  t46 := Tryz.underlying257
  a46 := Tryz.isAgg257
  z46 := Tryz.sizeOf257
  v46 := Tryz.zeroValue257
  t51 := Tryz.underlying261
  a51 := Tryz.isAgg261
  z51 := Tryz.sizeOf261
  v51 := Tryz.zeroValue261
  t146 := Tryz.underlying264
  a146 := Tryz.isAgg264
  z146 := Tryz.sizeOf264
  v146 := Tryz.zeroValue264
  g1 := by kernel_rfl }

open Go.RowKit Go.Lib in
theorem sh_strings_Contains (s sub : ByteArray) (m : Int) (w : World) (hs : s.size < 4294967281) (hm : w.cell? ⟨1, 0, none⟩ = some (.int .i64 m)) :
    Calls Tryz.prog 160 #[.string s, .string sub] w fun e w' => e = .returned (.bool (Lib.contains s.data.toList sub.data.toList)) ∧ w' = w := Any.strings_Contains lays144_ s sub m w hs hm
end Go.Proofs.YtgbgnipidakdhaaGreatDoor
/- The table of opcodes: opcode.rows, and the iterator that goes through it. Printed by gen_op.py. -/
namespace Go.Proofs.YtgbgnipidakdhaaGreatDoor
open Go.RowKit
set_option maxRecDepth 100000

/-- what the package-level variables hold -/
structure Env0 (w : World) : Prop where
  asc : ∀ c : Nat, c < 256 → w.cell? ⟨0, c, none⟩ = some (.int .u8 (if Lib.isSp (UInt8.ofNat c) then 1 else 0))
  mx : ∃ m, w.cell? ⟨1, 0, none⟩ = some (.int .i64 m)
theorem Env0.ext {w w' : World} (h : Env0 w) (hx : Ext w w') : Env0 w' := ⟨fun c hc => hx.cell (h.asc c hc), by obtain ⟨m, hm⟩ := h.mx; exact ⟨m, hx.cell hm⟩⟩
theorem Env0.put {W : World} {l : Nat} {o o' : Obj} (h : Env0 W) (hl : W.heap[l]? = some o) (ho : o.isCells = false) : Env0 (W.putObj l o') := by
  have key : ∀ {p : Addr} {v : Value}, W.cell? p = some v → (W.putObj l o').cell? p = some v := fun {p v} hc => by
    have hne : p.block ≠ l := by
      intro e
      unfold World.cell? at hc
      rw [e, hl] at hc
      cases o <;> simp_all [Obj.isCells]
    rw [World.cell?_of_block (w := W) (by simp [World.putObj, Ne.symm hne])]; exact hc
  exact ⟨fun c hc => key (h.asc c hc), by obtain ⟨m, hm⟩ := h.mx; exact ⟨m, key hm⟩⟩

/-- first opcode, head and tails of each row -/
def rowsO : List (Int × List UInt8 × List UInt8) := [(0, [], [117, 110, 114, 101, 97, 99, 104, 97, 98, 108, 101, 32, 110, 111, 112, 32, 98, 108, 111, 99, 107, 32, 108, 111, 111, 112, 32, 105, 102, 32, 101, 108, 115, 101]), (11, [], [101, 110, 100, 32, 98, 114, 32, 98, 114, 95, 105, 102, 32, 98, 114, 95, 116, 97, 98, 108, 101, 32, 114, 101, 116, 117, 114, 110, 32, 99, 97, 108, 108, 32, 99, 97, 108, 108, 95, 105, 110, 100, 105, 114, 101, 99, 116]), (26, [], [100, 114, 111, 112, 32, 115, 101, 108, 101, 99, 116, 32, 115, 101, 108, 101, 99, 116]), (32, [108, 111, 99, 97, 108, 46], [103, 101, 116, 32, 115, 101, 116, 32, 116, 101, 101]), (35, [103, 108, 111, 98, 97, 108, 46], [103, 101, 116, 32, 115, 101, 116]), (37, [116, 97, 98, 108, 101, 46], [103, 101, 116, 32, 115, 101, 116]), (40, [], [105, 51, 50, 46, 108, 111, 97, 100, 32, 105, 54, 52, 46, 108, 111, 97, 100]), (44, [105, 51, 50, 46], [108, 111, 97, 100, 56, 95, 115, 32, 108, 111, 97, 100, 56, 95, 117, 32, 108, 111, 97, 100, 49, 54, 95, 115, 32, 108, 111, 97, 100, 49, 54, 95, 117]), (48, [105, 54, 52, 46], [108, 111, 97, 100, 56, 95, 115, 32, 108, 111, 97, 100, 56, 95, 117, 32, 108, 111, 97, 100, 49, 54, 95, 115, 32, 108, 111, 97, 100, 49, 54, 95, 117, 32, 108, 111, 97, 100, 51, 50, 95, 115, 32, 108, 111, 97, 100, 51, 50, 95, 117]), (54, [], [105, 51, 50, 46, 115, 116, 111, 114, 101, 32, 105, 54, 52, 46, 115, 116, 111, 114, 101]), (58, [105, 51, 50, 46], [115, 116, 111, 114, 101, 56, 32, 115, 116, 111, 114, 101, 49, 54]), (60, [105, 54, 52, 46], [115, 116, 111, 114, 101, 56, 32, 115, 116, 111, 114, 101, 49, 54, 32, 115, 116, 111, 114, 101, 51, 50]), (63, [109, 101, 109, 111, 114, 121, 46], [115, 105, 122, 101, 32, 103, 114, 111, 119]), (65, [], [105, 51, 50, 46, 99, 111, 110, 115, 116, 32, 105, 54, 52, 46, 99, 111, 110, 115, 116]), (69, [105, 51, 50, 46], [101, 113, 122, 32, 101, 113, 32, 110, 101, 32, 108, 116, 95, 115, 32, 108, 116, 95, 117, 32, 103, 116, 95, 115, 32, 103, 116, 95, 117, 32, 108, 101, 95, 115, 32, 108, 101, 95, 117, 32, 103, 101, 95, 115, 32, 103, 101, 95, 117]), (80, [105, 54, 52, 46], [101, 113, 122, 32, 101, 113, 32, 110, 101, 32, 108, 116, 95, 115, 32, 108, 116, 95, 117, 32, 103, 116, 95, 115, 32, 103, 116, 95, 117, 32, 108, 101, 95, 115, 32, 108, 101, 95, 117, 32, 103, 101, 95, 115, 32, 103, 101, 95, 117]), (103, [105, 51, 50, 46], [99, 108, 122, 32, 99, 116, 122, 32, 112, 111, 112, 99, 110, 116, 32, 97, 100, 100, 32, 115, 117, 98, 32, 109, 117, 108, 32, 100, 105, 118, 95, 115, 32, 100, 105, 118, 95, 117, 32, 114, 101, 109, 95, 115, 32, 114, 101, 109, 95, 117, 32, 97, 110, 100, 32, 111, 114, 32, 120, 111, 114, 32, 115, 104, 108, 32, 115, 104, 114, 95, 115, 32, 115, 104, 114, 95, 117, 32, 114, 111, 116, 108, 32, 114, 111, 116, 114]), (121, [105, 54, 52, 46], [99, 108, 122, 32, 99, 116, 122, 32, 112, 111, 112, 99, 110, 116, 32, 97, 100, 100, 32, 115, 117, 98, 32, 109, 117, 108, 32, 100, 105, 118, 95, 115, 32, 100, 105, 118, 95, 117, 32, 114, 101, 109, 95, 115, 32, 114, 101, 109, 95, 117, 32, 97, 110, 100, 32, 111, 114, 32, 120, 111, 114, 32, 115, 104, 108, 32, 115, 104, 114, 95, 115, 32, 115, 104, 114, 95, 117, 32, 114, 111, 116, 108, 32, 114, 111, 116, 114]), (167, [], [105, 51, 50, 46, 119, 114, 97, 112, 95, 105, 54, 52]), (172, [105, 54, 52, 46], [101, 120, 116, 101, 110, 100, 95, 105, 51, 50, 95, 115, 32, 101, 120, 116, 101, 110, 100, 95, 105, 51, 50, 95, 117]), (192, [105, 51, 50, 46], [101, 120, 116, 101, 110, 100, 56, 95, 115, 32, 101, 120, 116, 101, 110, 100, 49, 54, 95, 115]), (194, [105, 54, 52, 46], [101, 120, 116, 101, 110, 100, 56, 95, 115, 32, 101, 120, 116, 101, 110, 100, 49, 54, 95, 115, 32, 101, 120, 116, 101, 110, 100, 51, 50, 95, 115]), (208, [114, 101, 102, 46], [110, 117, 108, 108, 32, 105, 115, 95, 110, 117, 108, 108, 32, 102, 117, 110, 99]), (64520, [], [109, 101, 109, 111, 114, 121, 46, 105, 110, 105, 116, 32, 100, 97, 116, 97, 46, 100, 114, 111, 112, 32, 109, 101, 109, 111, 114, 121, 46, 99, 111, 112, 121, 32, 109, 101, 109, 111, 114, 121, 46, 102, 105, 108, 108, 32, 116, 97, 98, 108, 101, 46, 105, 110, 105, 116, 32, 101, 108, 101, 109, 46, 100, 114, 111, 112, 32, 116, 97, 98, 108, 101, 46, 99, 111, 112, 121, 32, 116, 97, 98, 108, 101, 46, 103, 114, 111, 119, 32, 116, 97, 98, 108, 101, 46, 115, 105, 122, 101, 32, 116, 97, 98, 108, 101, 46, 102, 105, 108, 108])]
def rwV (r : Int × List UInt8 × List UInt8) : List Value := [.int .i64 r.1, .string ⟨r.2.1.toArray⟩, .string ⟨r.2.2.toArray⟩]
def rowCells : List Value := rowsO.flatMap rwV
/-- the opcodes of a row, with their names -/
def opsOf (r : Int × List UInt8 × List UInt8) : List (Int × ByteArray) := (Lib.fields r.2.2).zipIdx.map fun p => (r.1 + p.2, ⟨r.2.1.toArray⟩ ++ ⟨p.1.toArray⟩)
def opX : List (Int × ByteArray) := rowsO.flatMap opsOf

theorem opcode_rows (w : World) : Calls G.P 184 #[] w fun e w' => e = .returned (.slice (some ⟨w.heap.size, 0, none⟩) 24 24) ∧ New w w' rowCells 247 := by
  refine enter (G := G) Tryz.func184 rfl Tryz.ntmps184 rfl ?_
  refine wgx ?_
  refine Ops.e (Eff.buildSlice (cs := rowCells) (e := 247) rfl (by kernel_rfl)) rfl ?_
  rintro _ w1 ⟨rfl, hn⟩
  refine wgx ?_
  exact Fin.ret1 rfl rfl ⟨rfl, hn⟩
end Go.Proofs.YtgbgnipidakdhaaGreatDoor
