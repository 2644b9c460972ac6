/- Small functions over texts: HasPrefix; opcode.of, begins. -/
import Derived.Test.YtmkgfccfnpmcjaaGreatDoorJE
import Derived.Test.YtmkgfccfnpmcjaaGreatDoorJTy
import Derived.Shelf.Slices.Cells
import Derived.Shelf.Slices.Empties
import Derived.Shelf.Slices.In.SortNone
import Derived.Shelf.Strings.Fields
import Derived.Shelf.Strings.Search3
import Derived.Test.YtmkgfccfnpmcjaaGreatDoorProg
import Derived.KernelRfl
import Derived.Test.YtmkgfccfnpmcjaaGreatDoorJJ
namespace Go.Proofs.YtmkgfccfnpmcjaaGreatDoor
open Go.RowKit
set_option maxRecDepth 100000

/-- the letters of a text -/
abbrev by_ (s : ByteArray) : List UInt8 := s.data.toList
theorem by_len (s : ByteArray) : (by_ s).length = s.size := rfl
def hasPre (s p : List UInt8) : Bool := p.length ≤ s.length && s.take p.length == p
theorem by_extract (s : ByteArray) (i j : Nat) : by_ (s.extract i j) = ((by_ s).take j).drop i := by
  simp only [by_, ByteArray.data_extract, Array.toList_extract, List.extract_eq_drop_take']

theorem lite_HasPrefix (s p : ByteArray) (w : World) : Calls G.P 104 #[.string s, .string p] w fun e w' => e = .returned (.bool (hasPre (by_ s) (by_ p))) ∧ w = w' := by
  refine enter (G := G) Tryz.func104 rfl Tryz.ntmps104 rfl ?_
  have hs := by_len s
  have hp := by_len p
  by_cases h : p.size ≤ s.size
  · refine wgx ?_
    refine Fin.ret1 rfl rfl ⟨?_, rfl⟩
    unfold hasPre
    rw [hp, hs, decide_eq_true h, Bool.true_and, ← hp]
    congr 2
    have := by_extract s 0 p.size
    rw [List.drop_zero] at this
    rw [hp]; exact congrArg (· == by_ p) this
  · refine wgx ?_
    refine Fin.ret1 rfl rfl ⟨?_, rfl⟩
    unfold hasPre
    rw [hp, hs, decide_eq_false h, Bool.false_and]

theorem strings_HasPrefix (s p : ByteArray) (w : World) : Calls G.P 75 #[.string s, .string p] w fun e w' => e = .returned (.bool (hasPre (by_ s) (by_ p))) ∧ w = w' := by
  refine enter (G := G) Tryz.func75 rfl Tryz.ntmps75 rfl ?_
  refine wgx ?_
  refine Ops.call rfl rfl rfl (lite_HasPrefix s p w) ?_
  rintro _ _ ⟨rfl, rfl⟩
  refine ⟨_, rfl, ?_⟩
  refine wgx ?_
  exact Fin.ret1 rfl rfl ⟨rfl, rfl⟩

/-- the number type with which a name begins -/
def begO (s : List UInt8) : Int := if hasPre s [105, 54, 52] then 2 else 1
theorem opcode_begins (s : ByteArray) (w : World) : Calls G.P 77 #[.string s] w fun e w' => e = .returned (.int .i64 (begO (by_ s))) ∧ w = w' := by
  refine enter (G := G) Tryz.func77 rfl Tryz.ntmps77 rfl ?_
  refine wgx ?_
  refine Ops.call rfl rfl rfl (strings_HasPrefix s _ w) ?_
  rintro _ _ ⟨rfl, rfl⟩
  refine ⟨_, rfl, ?_⟩
  unfold begO
  cases hasPre (by_ s) [105, 54, 52] <;> (refine wgx ?_; exact Fin.ret1 rfl rfl ⟨rfl, rfl⟩)

theorem opcode_of (a b : Option Addr) (l c l2 c2 : Nat) (w : World) : Calls G.P 74 #[.slice a l c, .slice b l2 c2] w fun e w' => e = .returned (.agg #[.slice a l c, .slice b l2 c2]) ∧ Ext w w' := by
  refine enter (G := G) Tryz.func74 rfl Tryz.ntmps74 rfl ?_
  refine wgx ?_
  refine Ops.e (Eff.alloc rfl) rfl ?_
  rintro _ w1 ⟨rfl, hn⟩
  refine wgx ?_
  refine Ops.e0 (Eff.storeB (ti := ti94) (cs := [.slice a l c, .slice b l2 c2]) rfl rfl rfl rfl rfl (by simp [Value.oneCell']) hn.blk rfl) ?_
  rintro _ w2 ⟨hb, hc, _⟩
  refine wgx ?_
  exact Fin.ret1c (.inl rfl) rfl rfl rfl rfl rfl hb rfl ⟨rfl, Chg.trans' hn.ext hc (fun k hk e => by omega)⟩
end Go.Proofs.YtmkgfccfnpmcjaaGreatDoor
/- Contracts off the shelf, laid by the kit's tools over this seat's dump. Printed by gen_sh.py. -/
namespace Go.Proofs.YtmkgfccfnpmcjaaGreatDoor
open Go.Shelf
set_option maxRecDepth 100000
def lays157__ren : Go.Shelf.Ren := ⟨fun | 157 => 98 | 229 => 118 | 199 => 119 | 261 => 124 | 311 => 129 | 312 => 130 | n => n, fun | 9 => 9 | 31 => 154 | 3 => 3 | 5 => 5 | 4 => 4 | 119 => 208 | 0 => 0 | 40 => 210 | 152 => 214 | 21 => 21 | 154 => 216 | 51 => 183 | 141 => 218 | 196 => 223 | 193 => 220 | 198 => 226 | 49 => 224 | 194 => 221 | 201 => 229 | 226 => 233 | 46 => 148 | 227 => 234 | n => n, fun | 0 => 0 | 6 => 1 | n => n⟩
theorem lays157_ : Go.Proofs.Lays.n157 Tryz.prog lays157__ren := {
  mixed := by kernel_rfl
  f157 := Tryz.func98.trans (congrArg some (by kernel_rfl))
  f199 := Tryz.func119.trans (congrArg some (by kernel_rfl))
  f229 := Tryz.func118.trans (congrArg some (by kernel_rfl))
  f261 := Tryz.func124.trans (congrArg some (by kernel_rfl))
  f311 := Tryz.func129.trans (congrArg some (by kernel_rfl))
  f312 := Tryz.func130.trans (congrArg some (by kernel_rfl))
  t0 := Tryz.underlying0
  a0 := Tryz.isAgg0
  z0 := Tryz.sizeOf0
  v0 := Tryz.zeroValue0
  t3 := Tryz.underlying3
  a3 := Tryz.isAgg3
  z3 := Tryz.sizeOf3
  v3 := Tryz.zeroValue3
  t4 := Tryz.underlying4
  a4 := Tryz.isAgg4
  z4 := Tryz.sizeOf4
  v4 := Tryz.zeroValue4
  t5 := Tryz.underlying5
  a5 := Tryz.isAgg5
  z5 := Tryz.sizeOf5
  v5 := Tryz.zeroValue5
  t9 := Tryz.underlying9
  a9 := Tryz.isAgg9
  z9 := Tryz.sizeOf9
  v9 := Tryz.zeroValue9
  t21 := Tryz.underlying21
  a21 := Tryz.isAgg21
  z21 := Tryz.sizeOf21
  v21 := Tryz.zeroValue21
  t31 := Tryz.underlying154
  a31 := Tryz.isAgg154
  z31 := Tryz.sizeOf154
  v31 := Tryz.zeroValue154
  t40 := Tryz.underlying210
  a40 := Tryz.isAgg210
  z40 := Tryz.sizeOf210
  v40 := Tryz.zeroValue210
  t46 := Tryz.underlying148
  a46 := Tryz.isAgg148
  z46 := Tryz.sizeOf148
  v46 := Tryz.zeroValue148
  t49 := Tryz.underlying224
  a49 := Tryz.isAgg224
  z49 := Tryz.sizeOf224
  v49 := Tryz.zeroValue224
  t51 := Tryz.underlying183
  a51 := Tryz.isAgg183
  z51 := Tryz.sizeOf183
  v51 := Tryz.zeroValue183
  t119 := Tryz.underlying208
  a119 := Tryz.isAgg208
  z119 := Tryz.sizeOf208
  t141 := Tryz.underlying218
  a141 := Tryz.isAgg218
  z141 := Tryz.sizeOf218
  v141 := Tryz.zeroValue218
  t152 := Tryz.underlying214
  a152 := Tryz.isAgg214
  z152 := Tryz.sizeOf214
  v152 := Tryz.zeroValue214
  t154 := Tryz.underlying216
  a154 := Tryz.isAgg216
  z154 := Tryz.sizeOf216
  v154 := Tryz.zeroValue216
  t193 := Tryz.underlying220
  a193 := Tryz.isAgg220
  z193 := Tryz.sizeOf220
  v193 := Tryz.zeroValue220
  t194 := Tryz.underlying221
  a194 := Tryz.isAgg221
  z194 := Tryz.sizeOf221
  v194 := Tryz.zeroValue221
  t196 := Tryz.underlying223
  a196 := Tryz.isAgg223
  z196 := Tryz.sizeOf223
  v196 := Tryz.zeroValue223
  t198 := Tryz.underlying226
  a198 := Tryz.isAgg226
  z198 := Tryz.sizeOf226
  v198 := Tryz.zeroValue226
  t201 := Tryz.underlying229
  a201 := Tryz.isAgg229
  z201 := Tryz.sizeOf229
  v201 := Tryz.zeroValue229
  t226 := Tryz.underlying233
  a226 := Tryz.isAgg233
  z226 := Tryz.sizeOf233
  v226 := Tryz.zeroValue233
  t227 := Tryz.underlying234
  a227 := Tryz.isAgg234
  z227 := Tryz.sizeOf234
  v227 := Tryz.zeroValue234
  g0 := by kernel_rfl
  g6 := by kernel_rfl }

open Go.RowKit Go.Lib Go.Sort in
theorem sh_Fields (s : ByteArray) (w : World) (hs : s.size < 4294967281) (hascii : ∀ (j : Nat) b, s.data.toList[j]? = some b → b.toNat < 128) (hT : ∀ c : Nat, c < 256 → w.cell? ⟨0, c, none⟩ = some (.int .u8 (if Lib.isSp (UInt8.ofNat c) then 1 else 0))) :
    Calls Tryz.prog 98 #[.string s] w fun e w' => e = .returned (.slice (some ⟨w.heap.size, 0, none⟩) (Lib.fields s.data.toList).length (Lib.fields s.data.toList).length) ∧ w' = w.alloc (.cells ((Lib.fields s.data.toList).map fun l => Value.string ⟨l.toArray⟩).toArray 9) := Any.strings_Fields_core lays157_ (by kernel_rfl) s w hs hascii hT
def lays144__ren : Go.Shelf.Ren := ⟨fun | 144 => 73 | 143 => 103 | 219 => 120 | 217 => 125 | 225 => 126 | 224 => 127 | 267 => 128 | 266 => 131 | 314 => 132 | n => n, fun | 9 => 9 | 4 => 4 | 3 => 3 | 5 => 5 | 46 => 148 | 146 => 231 | 51 => 183 | n => n, fun | 1 => 2 | n => n⟩
theorem lays144_ : Go.Proofs.Lays.n144 Tryz.prog lays144__ren := {
  mixed := by kernel_rfl
  f143 := Tryz.func103.trans (congrArg some (by kernel_rfl))
  f144 := Tryz.func73.trans (congrArg some (by kernel_rfl))
  f217 := Tryz.func125.trans (congrArg some (by kernel_rfl))
  f219 := Tryz.func120.trans (congrArg some (by kernel_rfl))
  f224 := Tryz.func127.trans (congrArg some (by kernel_rfl))
  f225 := Tryz.func126.trans (congrArg some (by kernel_rfl))
  f266 := Tryz.func131.trans (congrArg some (by kernel_rfl))
  f267 := Tryz.func128.trans (congrArg some (by kernel_rfl))
  f314 := Tryz.func132.trans (congrArg some (by kernel_rfl))
  t3 := Tryz.underlying3
  a3 := Tryz.isAgg3
  z3 := Tryz.sizeOf3
  v3 := Tryz.zeroValue3
  t4 := Tryz.underlying4
  a4 := Tryz.isAgg4
  z4 := Tryz.sizeOf4
  v4 := Tryz.zeroValue4
  t5 := Tryz.underlying5
  a5 := Tryz.isAgg5
  z5 := Tryz.sizeOf5
  v5 := Tryz.zeroValue5
  t9 := Tryz.underlying9
  a9 := Tryz.isAgg9
  z9 := Tryz.sizeOf9
  v9 := Tryz.zeroValue9
  t46 := Tryz.underlying148
  a46 := Tryz.isAgg148
  z46 := Tryz.sizeOf148
  v46 := Tryz.zeroValue148
  t51 := Tryz.underlying183
  a51 := Tryz.isAgg183
  z51 := Tryz.sizeOf183
  v51 := Tryz.zeroValue183
  t146 := Tryz.underlying231
  a146 := Tryz.isAgg231
  z146 := Tryz.sizeOf231
  v146 := Tryz.zeroValue231
  g1 := by kernel_rfl }

open Go.RowKit Go.Lib Go.Sort in
theorem sh_strings_Contains (s sub : ByteArray) (m : Int) (w : World) (hs : s.size < 4294967281) (hm : w.cell? ⟨2, 0, none⟩ = some (.int .i64 m)) :
    Calls Tryz.prog 73 #[.string s, .string sub] w fun e w' => e = .returned (.bool (Lib.contains s.data.toList sub.data.toList)) ∧ w' = w := Any.strings_Contains lays144_ s sub m w hs hm
def laysNm220__ren : Go.Shelf.Ren := ⟨fun | 20 => 29 | n => n, fun | 22 => 47 | 3 => 3 | 4 => 4 | 0 => 0 | n => n, fun | n => n⟩
theorem laysNm220_ : Go.Proofs.Lays2.n20 Tryz.prog laysNm220__ren := {
  mixed := by kernel_rfl
  f20 := Tryz.func29.trans (congrArg some (by kernel_rfl))
  t0 := Tryz.underlying0
  a0 := Tryz.isAgg0
  z0 := Tryz.sizeOf0
  v0 := Tryz.zeroValue0
  t3 := Tryz.underlying3
  a3 := Tryz.isAgg3
  z3 := Tryz.sizeOf3
  v3 := Tryz.zeroValue3
  t4 := Tryz.underlying4
  a4 := Tryz.isAgg4
  z4 := Tryz.sizeOf4
  v4 := Tryz.zeroValue4
  t22 := Tryz.underlying47
  a22 := Tryz.isAgg47
  z22 := Tryz.sizeOf47
  v22 := Tryz.zeroValue47
  i3 := by kernel_rfl }

open Go.RowKit Go.Lib Go.Sort in
theorem sh_slices_Compact_int_cells (b off n c : Nat) (zs : List Int) (w : World) (hz : n ≤ zs.length) (hbig : n ≤ 9223372036854775807) (hcap : n ≤ c) (hc : ∀ j, j < zs.length → w.cell? ⟨b, off + j, none⟩ = some (.int .i64 (zs.getD j 0))) (hf : ∀ j, j < n → w.frozen? ⟨b, off + j, none⟩ = false) :
    Calls Tryz.prog 29 #[.slice (some ⟨b, off, none⟩) n c] w fun e w' => e = .returned (.slice (some ⟨b, off, none⟩) (Lib.compact (zs.take n)).length c) ∧ ∃ q, w' = (w.drewN q).setCells b off ((Lib.compact (zs.take n) ++ List.replicate (n - (Lib.compact (zs.take n)).length) 0).map (Value.int .i64)) := Any.slices_Compact_int_cells laysNm220_ b off n c zs w hz hbig hcap hc hf
open Go.RowKit Go.Lib Go.Sort in
theorem sh_slices_Compact_int_empty (a : Option Addr) (cap : Nat) (w : World) :
    Calls Tryz.prog 29 #[.slice a 0 cap] w fun e w' => e = .returned (.slice a 0 cap) ∧ w' = w := Any.slices_Compact_int_empty laysNm220_ a cap w
def lays189__ren : Go.Shelf.Ren := ⟨fun | 189 => 28 | 125 => 53 | 257 => 52 | 128 => 94 | 129 => 95 | 294 => 86 | 295 => 87 | 296 => 88 | 297 => 89 | 298 => 90 | 299 => 91 | 216 => 67 | 300 => 92 | 301 => 93 | 328 => 113 | 329 => 114 | 330 => 115 | 331 => 116 | 332 => 117 | 215 => 101 | 343 => 123 | n => n, fun | 28 => 47 | 3 => 3 | 46 => 148 | 0 => 0 | 51 => 183 | 53 => 58 | 4 => 4 | 183 => 177 | 182 => 176 | 131 => 125 | 5 => 5 | 9 => 9 | 218 => 202 | 222 => 206 | 228 => 211 | 229 => 212 | n => n, fun | n => n⟩
theorem lays189_ : Go.Proofs.Lays.n189 Tryz.prog lays189__ren := {
  mixed := by kernel_rfl
  f125 := Tryz.func53.trans (congrArg some (by kernel_rfl))
  f128 := Tryz.func94.trans (congrArg some (by kernel_rfl))
  f129 := Tryz.func95.trans (congrArg some (by kernel_rfl))
  f189 := Tryz.func28.trans (congrArg some (by kernel_rfl))
  f215 := Tryz.func101.trans (congrArg some (by kernel_rfl))
  f216 := Tryz.func67.trans (congrArg some (by kernel_rfl))
  f257 := Tryz.func52.trans (congrArg some (by kernel_rfl))
  f294 := Tryz.func86.trans (congrArg some (by kernel_rfl))
  f295 := Tryz.func87.trans (congrArg some (by kernel_rfl))
  f296 := Tryz.func88.trans (congrArg some (by kernel_rfl))
  f297 := Tryz.func89.trans (congrArg some (by kernel_rfl))
  f298 := Tryz.func90.trans (congrArg some (by kernel_rfl))
  f299 := Tryz.func91.trans (congrArg some (by kernel_rfl))
  f300 := Tryz.func92.trans (congrArg some (by kernel_rfl))
  f301 := Tryz.func93.trans (congrArg some (by kernel_rfl))
  f328 := Tryz.func113.trans (congrArg some (by kernel_rfl))
  f329 := Tryz.func114.trans (congrArg some (by kernel_rfl))
  f330 := Tryz.func115.trans (congrArg some (by kernel_rfl))
  f331 := Tryz.func116.trans (congrArg some (by kernel_rfl))
  f332 := Tryz.func117.trans (congrArg some (by kernel_rfl))
  f343 := Tryz.func123.trans (congrArg some (by kernel_rfl))
  t0 := Tryz.underlying0
  a0 := Tryz.isAgg0
  z0 := Tryz.sizeOf0
  v0 := Tryz.zeroValue0
  t3 := Tryz.underlying3
  a3 := Tryz.isAgg3
  z3 := Tryz.sizeOf3
  v3 := Tryz.zeroValue3
  t4 := Tryz.underlying4
  a4 := Tryz.isAgg4
  z4 := Tryz.sizeOf4
  v4 := Tryz.zeroValue4
  t5 := Tryz.underlying5
  a5 := Tryz.isAgg5
  z5 := Tryz.sizeOf5
  v5 := Tryz.zeroValue5
  t9 := Tryz.underlying9
  a9 := Tryz.isAgg9
  z9 := Tryz.sizeOf9
  v9 := Tryz.zeroValue9
  t28 := Tryz.underlying47
  a28 := Tryz.isAgg47
  z28 := Tryz.sizeOf47
  v28 := Tryz.zeroValue47
  t46 := Tryz.underlying148
  a46 := Tryz.isAgg148
  z46 := Tryz.sizeOf148
  v46 := Tryz.zeroValue148
  t51 := Tryz.underlying183
  a51 := Tryz.isAgg183
  z51 := Tryz.sizeOf183
  v51 := Tryz.zeroValue183
  t53 := Tryz.underlying58
  a53 := Tryz.isAgg58
  z53 := Tryz.sizeOf58
  v53 := Tryz.zeroValue58
  t131 := Tryz.underlying125
  a131 := Tryz.isAgg125
  z131 := Tryz.sizeOf125
  v131 := Tryz.zeroValue125
  t182 := Tryz.underlying176
  a182 := Tryz.isAgg176
  z182 := Tryz.sizeOf176
  v182 := Tryz.zeroValue176
  t183 := Tryz.underlying177
  a183 := Tryz.isAgg177
  z183 := Tryz.sizeOf177
  v183 := Tryz.zeroValue177
  t218 := Tryz.underlying202
  a218 := Tryz.isAgg202
  z218 := Tryz.sizeOf202
  v218 := Tryz.zeroValue202
  t222 := Tryz.underlying206
  a222 := Tryz.isAgg206
  z222 := Tryz.sizeOf206
  v222 := Tryz.zeroValue206
  t228 := Tryz.underlying211
  a228 := Tryz.isAgg211
  z228 := Tryz.sizeOf211
  v228 := Tryz.zeroValue211
  t229 := Tryz.underlying212
  a229 := Tryz.isAgg212
  z229 := Tryz.sizeOf212
  v229 := Tryz.zeroValue212 }

open Go.RowKit Go.Lib Go.Sort in
theorem sh_slices_Sort_int_none (p : Option Addr) (cap : Nat) (w : World) :
    Calls Tryz.prog 28 #[.slice p 0 cap] w fun e w' => e = .returned (.tuple #[]) ∧ w' = w := Any.slices_Sort_int_none lays189_ p cap w
end Go.Proofs.YtmkgfccfnpmcjaaGreatDoor
/- The table of opcodes: opcode.rows, and the iterator that goes through it. Printed by gen_op.py. -/
namespace Go.Proofs.YtmkgfccfnpmcjaaGreatDoor
open Go.RowKit
set_option maxRecDepth 100000

/-- what the package-level variables hold -/
structure Env0 (w : World) : Prop where
  asc : ∀ c : Nat, c < 256 → w.cell? ⟨0, c, none⟩ = some (.int .u8 (if Lib.isSp (UInt8.ofNat c) then 1 else 0))
  mx : ∃ m, w.cell? ⟨2, 0, none⟩ = some (.int .i64 m)
theorem Env0.ext {w w' : World} (h : Env0 w) (hx : Ext w w') : Env0 w' := ⟨fun c hc => hx.cell (h.asc c hc), by obtain ⟨m, hm⟩ := h.mx; exact ⟨m, hx.cell hm⟩⟩
theorem Env0.put {W : World} {l : Nat} {o o' : Obj} (h : Env0 W) (hl : W.heap[l]? = some o) (ho : o.isCells = false) : Env0 (W.putObj l o') := by
  have key : ∀ {p : Addr} {v : Value}, W.cell? p = some v → (W.putObj l o').cell? p = some v := fun {p v} hc => by
    have hne : p.block ≠ l := by
      intro e
      unfold World.cell? at hc
      rw [e, hl] at hc
      cases o <;> simp_all [Obj.isCells]
    rw [World.cell?_of_block (w := W) (by simp [World.putObj, Ne.symm hne])]; exact hc
  exact ⟨fun c hc => key (h.asc c hc), by obtain ⟨m, hm⟩ := h.mx; exact ⟨m, key hm⟩⟩

/-- first opcode, head and tails of each row -/
def rowsO : List (Int × List UInt8 × List UInt8) := [(0, [], [117, 110, 114, 101, 97, 99, 104, 97, 98, 108, 101, 32, 110, 111, 112, 32, 98, 108, 111, 99, 107, 32, 108, 111, 111, 112, 32, 105, 102, 32, 101, 108, 115, 101]), (11, [], [101, 110, 100, 32, 98, 114, 32, 98, 114, 95, 105, 102, 32, 98, 114, 95, 116, 97, 98, 108, 101, 32, 114, 101, 116, 117, 114, 110, 32, 99, 97, 108, 108, 32, 99, 97, 108, 108, 95, 105, 110, 100, 105, 114, 101, 99, 116]), (26, [], [100, 114, 111, 112, 32, 115, 101, 108, 101, 99, 116, 32, 115, 101, 108, 101, 99, 116]), (32, [108, 111, 99, 97, 108, 46], [103, 101, 116, 32, 115, 101, 116, 32, 116, 101, 101]), (35, [103, 108, 111, 98, 97, 108, 46], [103, 101, 116, 32, 115, 101, 116]), (37, [116, 97, 98, 108, 101, 46], [103, 101, 116, 32, 115, 101, 116]), (40, [], [105, 51, 50, 46, 108, 111, 97, 100, 32, 105, 54, 52, 46, 108, 111, 97, 100]), (44, [105, 51, 50, 46], [108, 111, 97, 100, 56, 95, 115, 32, 108, 111, 97, 100, 56, 95, 117, 32, 108, 111, 97, 100, 49, 54, 95, 115, 32, 108, 111, 97, 100, 49, 54, 95, 117]), (48, [105, 54, 52, 46], [108, 111, 97, 100, 56, 95, 115, 32, 108, 111, 97, 100, 56, 95, 117, 32, 108, 111, 97, 100, 49, 54, 95, 115, 32, 108, 111, 97, 100, 49, 54, 95, 117, 32, 108, 111, 97, 100, 51, 50, 95, 115, 32, 108, 111, 97, 100, 51, 50, 95, 117]), (54, [], [105, 51, 50, 46, 115, 116, 111, 114, 101, 32, 105, 54, 52, 46, 115, 116, 111, 114, 101]), (58, [105, 51, 50, 46], [115, 116, 111, 114, 101, 56, 32, 115, 116, 111, 114, 101, 49, 54]), (60, [105, 54, 52, 46], [115, 116, 111, 114, 101, 56, 32, 115, 116, 111, 114, 101, 49, 54, 32, 115, 116, 111, 114, 101, 51, 50]), (63, [109, 101, 109, 111, 114, 121, 46], [115, 105, 122, 101, 32, 103, 114, 111, 119]), (65, [], [105, 51, 50, 46, 99, 111, 110, 115, 116, 32, 105, 54, 52, 46, 99, 111, 110, 115, 116]), (69, [105, 51, 50, 46], [101, 113, 122, 32, 101, 113, 32, 110, 101, 32, 108, 116, 95, 115, 32, 108, 116, 95, 117, 32, 103, 116, 95, 115, 32, 103, 116, 95, 117, 32, 108, 101, 95, 115, 32, 108, 101, 95, 117, 32, 103, 101, 95, 115, 32, 103, 101, 95, 117]), (80, [105, 54, 52, 46], [101, 113, 122, 32, 101, 113, 32, 110, 101, 32, 108, 116, 95, 115, 32, 108, 116, 95, 117, 32, 103, 116, 95, 115, 32, 103, 116, 95, 117, 32, 108, 101, 95, 115, 32, 108, 101, 95, 117, 32, 103, 101, 95, 115, 32, 103, 101, 95, 117]), (103, [105, 51, 50, 46], [99, 108, 122, 32, 99, 116, 122, 32, 112, 111, 112, 99, 110, 116, 32, 97, 100, 100, 32, 115, 117, 98, 32, 109, 117, 108, 32, 100, 105, 118, 95, 115, 32, 100, 105, 118, 95, 117, 32, 114, 101, 109, 95, 115, 32, 114, 101, 109, 95, 117, 32, 97, 110, 100, 32, 111, 114, 32, 120, 111, 114, 32, 115, 104, 108, 32, 115, 104, 114, 95, 115, 32, 115, 104, 114, 95, 117, 32, 114, 111, 116, 108, 32, 114, 111, 116, 114]), (121, [105, 54, 52, 46], [99, 108, 122, 32, 99, 116, 122, 32, 112, 111, 112, 99, 110, 116, 32, 97, 100, 100, 32, 115, 117, 98, 32, 109, 117, 108, 32, 100, 105, 118, 95, 115, 32, 100, 105, 118, 95, 117, 32, 114, 101, 109, 95, 115, 32, 114, 101, 109, 95, 117, 32, 97, 110, 100, 32, 111, 114, 32, 120, 111, 114, 32, 115, 104, 108, 32, 115, 104, 114, 95, 115, 32, 115, 104, 114, 95, 117, 32, 114, 111, 116, 108, 32, 114, 111, 116, 114]), (167, [], [105, 51, 50, 46, 119, 114, 97, 112, 95, 105, 54, 52]), (172, [105, 54, 52, 46], [101, 120, 116, 101, 110, 100, 95, 105, 51, 50, 95, 115, 32, 101, 120, 116, 101, 110, 100, 95, 105, 51, 50, 95, 117]), (192, [105, 51, 50, 46], [101, 120, 116, 101, 110, 100, 56, 95, 115, 32, 101, 120, 116, 101, 110, 100, 49, 54, 95, 115]), (194, [105, 54, 52, 46], [101, 120, 116, 101, 110, 100, 56, 95, 115, 32, 101, 120, 116, 101, 110, 100, 49, 54, 95, 115, 32, 101, 120, 116, 101, 110, 100, 51, 50, 95, 115]), (208, [114, 101, 102, 46], [110, 117, 108, 108, 32, 105, 115, 95, 110, 117, 108, 108, 32, 102, 117, 110, 99]), (64520, [], [109, 101, 109, 111, 114, 121, 46, 105, 110, 105, 116, 32, 100, 97, 116, 97, 46, 100, 114, 111, 112, 32, 109, 101, 109, 111, 114, 121, 46, 99, 111, 112, 121, 32, 109, 101, 109, 111, 114, 121, 46, 102, 105, 108, 108, 32, 116, 97, 98, 108, 101, 46, 105, 110, 105, 116, 32, 101, 108, 101, 109, 46, 100, 114, 111, 112, 32, 116, 97, 98, 108, 101, 46, 99, 111, 112, 121, 32, 116, 97, 98, 108, 101, 46, 103, 114, 111, 119, 32, 116, 97, 98, 108, 101, 46, 115, 105, 122, 101, 32, 116, 97, 98, 108, 101, 46, 102, 105, 108, 108])]
def rwV (r : Int × List UInt8 × List UInt8) : List Value := [.int .i64 r.1, .string ⟨r.2.1.toArray⟩, .string ⟨r.2.2.toArray⟩]
def rowCells : List Value := rowsO.flatMap rwV
/-- the opcodes of a row, with their names -/
def opsOf (r : Int × List UInt8 × List UInt8) : List (Int × ByteArray) := (Lib.fields r.2.2).zipIdx.map fun p => (r.1 + p.2, ⟨r.2.1.toArray⟩ ++ ⟨p.1.toArray⟩)
def opX : List (Int × ByteArray) := rowsO.flatMap opsOf

theorem opcode_rows (w : World) : Calls G.P 97 #[] w fun e w' => e = .returned (.slice (some ⟨w.heap.size, 0, none⟩) 24 24) ∧ New w w' rowCells 189 := by
  refine enter (G := G) Tryz.func97 rfl Tryz.ntmps97 rfl ?_
  refine wgx ?_
  refine Ops.e (Eff.buildSlice (cs := rowCells) (e := 189) rfl (by kernel_rfl)) rfl ?_
  rintro _ w1 ⟨rfl, hn⟩
  refine wgx ?_
  exact Fin.ret1 rfl rfl ⟨rfl, hn⟩
end Go.Proofs.YtmkgfccfnpmcjaaGreatDoor
