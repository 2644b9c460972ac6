/- Small functions over texts: HasPrefix; opcode.of, begins. -/
import Derived.Test.YtmkgfccfnpmcjaaDoorJE
import Derived.Test.YtmkgfccfnpmcjaaDoorJTy
import Derived.Shelf.Slices.Cells
import Derived.Shelf.Slices.Empties
import Derived.Shelf.Slices.In.SortNone
import Derived.Shelf.Strings.Fields
import Derived.Shelf.Strings.Search3
import Derived.Test.YtmkgfccfnpmcjaaDoorProg
import Derived.KernelRfl
import Derived.Test.YtmkgfccfnpmcjaaDoorJJ
namespace Go.Proofs.YtmkgfccfnpmcjaaDoor
open Go.RowKit
set_option maxRecDepth 100000

/-- the letters of a text -/
abbrev by_ (s : ByteArray) : List UInt8 := s.data.toList
theorem by_len (s : ByteArray) : (by_ s).length = s.size := rfl
def hasPre (s p : List UInt8) : Bool := p.length ≤ s.length && s.take p.length == p
theorem by_extract (s : ByteArray) (i j : Nat) : by_ (s.extract i j) = ((by_ s).take j).drop i := by
  simp only [by_, ByteArray.data_extract, Array.toList_extract, List.extract_eq_drop_take']

theorem lite_HasPrefix (s p : ByteArray) (w : World) : Calls G.P 65 #[.string s, .string p] w fun e w' => e = .returned (.bool (hasPre (by_ s) (by_ p))) ∧ w = w' := by
  refine enter (G := G) Tryd.func65 rfl Tryd.ntmps65 rfl ?_
  have hs := by_len s
  have hp := by_len p
  by_cases h : p.size ≤ s.size
  · refine wgx ?_
    refine Fin.ret1 rfl rfl ⟨?_, rfl⟩
    unfold hasPre
    rw [hp, hs, decide_eq_true h, Bool.true_and, ← hp]
    congr 2
    have := by_extract s 0 p.size
    rw [List.drop_zero] at this
    rw [hp]; exact congrArg (· == by_ p) this
  · refine wgx ?_
    refine Fin.ret1 rfl rfl ⟨?_, rfl⟩
    unfold hasPre
    rw [hp, hs, decide_eq_false h, Bool.false_and]

theorem strings_HasPrefix (s p : ByteArray) (w : World) : Calls G.P 46 #[.string s, .string p] w fun e w' => e = .returned (.bool (hasPre (by_ s) (by_ p))) ∧ w = w' := by
  refine enter (G := G) Tryd.func46 rfl Tryd.ntmps46 rfl ?_
  refine wgx ?_
  refine Ops.call rfl rfl rfl (lite_HasPrefix s p w) ?_
  rintro _ _ ⟨rfl, rfl⟩
  refine ⟨_, rfl, ?_⟩
  refine wgx ?_
  exact Fin.ret1 rfl rfl ⟨rfl, rfl⟩

/-- the number type with which a name begins -/
def begO (s : List UInt8) : Int := if hasPre s [105, 54, 52] then 2 else 1
theorem opcode_begins (s : ByteArray) (w : World) : Calls G.P 48 #[.string s] w fun e w' => e = .returned (.int .i64 (begO (by_ s))) ∧ w = w' := by
  refine enter (G := G) Tryd.func48 rfl Tryd.ntmps48 rfl ?_
  refine wgx ?_
  refine Ops.call rfl rfl rfl (strings_HasPrefix s _ w) ?_
  rintro _ _ ⟨rfl, rfl⟩
  refine ⟨_, rfl, ?_⟩
  unfold begO
  cases hasPre (by_ s) [105, 54, 52] <;> (refine wgx ?_; exact Fin.ret1 rfl rfl ⟨rfl, rfl⟩)

theorem opcode_of (a b : Option Addr) (l c l2 c2 : Nat) (w : World) : Calls G.P 45 #[.slice a l c, .slice b l2 c2] w fun e w' => e = .returned (.agg #[.slice a l c, .slice b l2 c2]) ∧ Ext w w' := by
  refine enter (G := G) Tryd.func45 rfl Tryd.ntmps45 rfl ?_
  refine wgx ?_
  refine Ops.e (Eff.alloc rfl) rfl ?_
  rintro _ w1 ⟨rfl, hn⟩
  refine wgx ?_
  refine Ops.e0 (Eff.storeB (ti := ti97) (cs := [.slice a l c, .slice b l2 c2]) rfl rfl rfl rfl rfl (by simp [Value.oneCell']) hn.blk rfl) ?_
  rintro _ w2 ⟨hb, hc, _⟩
  refine wgx ?_
  exact Fin.ret1c (.inl rfl) rfl rfl rfl rfl rfl hb rfl ⟨rfl, Chg.trans' hn.ext hc (fun k hk e => by omega)⟩
end Go.Proofs.YtmkgfccfnpmcjaaDoor
/- Contracts off the shelf, laid by the kit's tools over this seat's dump. Printed by gen_sh.py. -/
namespace Go.Proofs.YtmkgfccfnpmcjaaDoor
open Go.Shelf
set_option maxRecDepth 100000
def lays157__ren : Go.Shelf.Ren := ⟨fun | 157 => 73 | 229 => 76 | 199 => 77 | 261 => 82 | 311 => 85 | 312 => 86 | n => n, fun | 9 => 9 | 31 => 134 | 3 => 3 | 5 => 5 | 4 => 4 | 119 => 173 | 0 => 0 | 40 => 175 | 152 => 177 | 21 => 21 | 154 => 179 | 51 => 146 | 141 => 181 | 196 => 187 | 193 => 184 | 198 => 189 | 49 => 57 | 194 => 185 | 201 => 192 | 226 => 194 | 46 => 121 | 227 => 195 | n => n, fun | 0 => 0 | 6 => 2 | n => n⟩
theorem lays157_ : Go.Proofs.Lays.n157 Tryd.prog lays157__ren := {
  mixed := by kernel_rfl
  f157 := Tryd.func73.trans (congrArg some (by kernel_rfl))
  f199 := Tryd.func77.trans (congrArg some (by kernel_rfl))
  f229 := Tryd.func76.trans (congrArg some (by kernel_rfl))
  f261 := Tryd.func82.trans (congrArg some (by kernel_rfl))
  f311 := Tryd.func85.trans (congrArg some (by kernel_rfl))
  f312 := Tryd.func86.trans (congrArg some (by kernel_rfl))
  t0 := Tryd.underlying0
  a0 := Tryd.isAgg0
  z0 := Tryd.sizeOf0
  v0 := Tryd.zeroValue0
  t3 := Tryd.underlying3
  a3 := Tryd.isAgg3
  z3 := Tryd.sizeOf3
  v3 := Tryd.zeroValue3
  t4 := Tryd.underlying4
  a4 := Tryd.isAgg4
  z4 := Tryd.sizeOf4
  v4 := Tryd.zeroValue4
  t5 := Tryd.underlying5
  a5 := Tryd.isAgg5
  z5 := Tryd.sizeOf5
  v5 := Tryd.zeroValue5
  t9 := Tryd.underlying9
  a9 := Tryd.isAgg9
  z9 := Tryd.sizeOf9
  v9 := Tryd.zeroValue9
  t21 := Tryd.underlying21
  a21 := Tryd.isAgg21
  z21 := Tryd.sizeOf21
  v21 := Tryd.zeroValue21
  t31 := Tryd.underlying134
  a31 := Tryd.isAgg134
  z31 := Tryd.sizeOf134
  v31 := Tryd.zeroValue134
  t40 := Tryd.underlying175
  a40 := Tryd.isAgg175
  z40 := Tryd.sizeOf175
  v40 := Tryd.zeroValue175
  t46 := Tryd.underlying121
  a46 := Tryd.isAgg121
  z46 := Tryd.sizeOf121
  v46 := Tryd.zeroValue121
  t49 := Tryd.underlying57
  a49 := Tryd.isAgg57
  z49 := Tryd.sizeOf57
  v49 := Tryd.zeroValue57
  t51 := Tryd.underlying146
  a51 := Tryd.isAgg146
  z51 := Tryd.sizeOf146
  v51 := Tryd.zeroValue146
  t119 := Tryd.underlying173
  a119 := Tryd.isAgg173
  z119 := Tryd.sizeOf173
  t141 := Tryd.underlying181
  a141 := Tryd.isAgg181
  z141 := Tryd.sizeOf181
  v141 := Tryd.zeroValue181
  t152 := Tryd.underlying177
  a152 := Tryd.isAgg177
  z152 := Tryd.sizeOf177
  v152 := Tryd.zeroValue177
  t154 := Tryd.underlying179
  a154 := Tryd.isAgg179
  z154 := Tryd.sizeOf179
  v154 := Tryd.zeroValue179
  t193 := Tryd.underlying184
  a193 := Tryd.isAgg184
  z193 := Tryd.sizeOf184
  v193 := Tryd.zeroValue184
  t194 := Tryd.underlying185
  a194 := Tryd.isAgg185
  z194 := Tryd.sizeOf185
  v194 := Tryd.zeroValue185
  t196 := Tryd.underlying187
  a196 := Tryd.isAgg187
  z196 := Tryd.sizeOf187
  v196 := Tryd.zeroValue187
  t198 := Tryd.underlying189
  a198 := Tryd.isAgg189
  z198 := Tryd.sizeOf189
  v198 := Tryd.zeroValue189
  t201 := Tryd.underlying192
  a201 := Tryd.isAgg192
  z201 := Tryd.sizeOf192
  v201 := Tryd.zeroValue192
  t226 := Tryd.underlying194
  a226 := Tryd.isAgg194
  z226 := Tryd.sizeOf194
  v226 := Tryd.zeroValue194
  t227 := Tryd.underlying195
  a227 := Tryd.isAgg195
  z227 := Tryd.sizeOf195
  v227 := Tryd.zeroValue195
  g0 := by kernel_rfl
  g6 := by kernel_rfl }

open Go.RowKit Go.Lib Go.Sort in
theorem sh_Fields (s : ByteArray) (w : World) (hs : s.size < 4294967281) (hascii : ∀ (j : Nat) b, s.data.toList[j]? = some b → b.toNat < 128) (hT : ∀ c : Nat, c < 256 → w.cell? ⟨0, c, none⟩ = some (.int .u8 (if Lib.isSp (UInt8.ofNat c) then 1 else 0))) :
    Calls Tryd.prog 73 #[.string s] w fun e w' => e = .returned (.slice (some ⟨w.heap.size, 0, none⟩) (Lib.fields s.data.toList).length (Lib.fields s.data.toList).length) ∧ w' = w.alloc (.cells ((Lib.fields s.data.toList).map fun l => Value.string ⟨l.toArray⟩).toArray 9) := Any.strings_Fields_core lays157_ (by kernel_rfl) s w hs hascii hT
def lays144__ren : Go.Shelf.Ren := ⟨fun | 144 => 44 | 143 => 64 | 219 => 74 | 217 => 78 | 225 => 79 | 224 => 80 | 267 => 81 | 266 => 83 | 314 => 84 | n => n, fun | 9 => 9 | 4 => 4 | 3 => 3 | 5 => 5 | 46 => 121 | 146 => 182 | 51 => 146 | n => n, fun | 1 => 1 | n => n⟩
theorem lays144_ : Go.Proofs.Lays.n144 Tryd.prog lays144__ren := {
  mixed := by kernel_rfl
  f143 := Tryd.func64.trans (congrArg some (by kernel_rfl))
  f144 := Tryd.func44.trans (congrArg some (by kernel_rfl))
  f217 := Tryd.func78.trans (congrArg some (by kernel_rfl))
  f219 := Tryd.func74.trans (congrArg some (by kernel_rfl))
  f224 := Tryd.func80.trans (congrArg some (by kernel_rfl))
  f225 := Tryd.func79.trans (congrArg some (by kernel_rfl))
  f266 := Tryd.func83.trans (congrArg some (by kernel_rfl))
  f267 := Tryd.func81.trans (congrArg some (by kernel_rfl))
  f314 := Tryd.func84.trans (congrArg some (by kernel_rfl))
  t3 := Tryd.underlying3
  a3 := Tryd.isAgg3
  z3 := Tryd.sizeOf3
  v3 := Tryd.zeroValue3
  t4 := Tryd.underlying4
  a4 := Tryd.isAgg4
  z4 := Tryd.sizeOf4
  v4 := Tryd.zeroValue4
  t5 := Tryd.underlying5
  a5 := Tryd.isAgg5
  z5 := Tryd.sizeOf5
  v5 := Tryd.zeroValue5
  t9 := Tryd.underlying9
  a9 := Tryd.isAgg9
  z9 := Tryd.sizeOf9
  v9 := Tryd.zeroValue9
  t46 := Tryd.underlying121
  a46 := Tryd.isAgg121
  z46 := Tryd.sizeOf121
  v46 := Tryd.zeroValue121
  t51 := Tryd.underlying146
  a51 := Tryd.isAgg146
  z51 := Tryd.sizeOf146
  v51 := Tryd.zeroValue146
  t146 := Tryd.underlying182
  a146 := Tryd.isAgg182
  z146 := Tryd.sizeOf182
  v146 := Tryd.zeroValue182
  g1 := by kernel_rfl }

open Go.RowKit Go.Lib Go.Sort in
theorem sh_strings_Contains (s sub : ByteArray) (m : Int) (w : World) (hs : s.size < 4294967281) (hm : w.cell? ⟨1, 0, none⟩ = some (.int .i64 m)) :
    Calls Tryd.prog 44 #[.string s, .string sub] w fun e w' => e = .returned (.bool (Lib.contains s.data.toList sub.data.toList)) ∧ w' = w := Any.strings_Contains lays144_ s sub m w hs hm
def laysNm220__ren : Go.Shelf.Ren := ⟨fun | 20 => 16 | n => n, fun | 22 => 51 | 3 => 3 | 4 => 4 | 0 => 0 | n => n, fun | n => n⟩
theorem laysNm220_ : Go.Proofs.Lays2.n20 Tryd.prog laysNm220__ren := {
  mixed := by kernel_rfl
  f20 := Tryd.func16.trans (congrArg some (by kernel_rfl))
  t0 := Tryd.underlying0
  a0 := Tryd.isAgg0
  z0 := Tryd.sizeOf0
  v0 := Tryd.zeroValue0
  t3 := Tryd.underlying3
  a3 := Tryd.isAgg3
  z3 := Tryd.sizeOf3
  v3 := Tryd.zeroValue3
  t4 := Tryd.underlying4
  a4 := Tryd.isAgg4
  z4 := Tryd.sizeOf4
  v4 := Tryd.zeroValue4
  t22 := Tryd.underlying51
  a22 := Tryd.isAgg51
  z22 := Tryd.sizeOf51
  v22 := Tryd.zeroValue51
  i3 := by kernel_rfl }

open Go.RowKit Go.Lib Go.Sort in
theorem sh_slices_Compact_int_cells (b off n c : Nat) (zs : List Int) (w : World) (hz : n ≤ zs.length) (hbig : n ≤ 9223372036854775807) (hcap : n ≤ c) (hc : ∀ j, j < zs.length → w.cell? ⟨b, off + j, none⟩ = some (.int .i64 (zs.getD j 0))) (hf : ∀ j, j < n → w.frozen? ⟨b, off + j, none⟩ = false) :
    Calls Tryd.prog 16 #[.slice (some ⟨b, off, none⟩) n c] w fun e w' => e = .returned (.slice (some ⟨b, off, none⟩) (Lib.compact (zs.take n)).length c) ∧ ∃ q, w' = (w.drewN q).setCells b off ((Lib.compact (zs.take n) ++ List.replicate (n - (Lib.compact (zs.take n)).length) 0).map (Value.int .i64)) := Any.slices_Compact_int_cells laysNm220_ b off n c zs w hz hbig hcap hc hf
open Go.RowKit Go.Lib Go.Sort in
theorem sh_slices_Compact_int_empty (a : Option Addr) (cap : Nat) (w : World) :
    Calls Tryd.prog 16 #[.slice a 0 cap] w fun e w' => e = .returned (.slice a 0 cap) ∧ w' = w := Any.slices_Compact_int_empty laysNm220_ a cap w
def lays189__ren : Go.Shelf.Ren := ⟨fun | 189 => 15 | 125 => 33 | 257 => 32 | 128 => 57 | 129 => 58 | 294 => 49 | 295 => 50 | 296 => 51 | 297 => 52 | 298 => 53 | 299 => 54 | 216 => 38 | 300 => 55 | 301 => 56 | 328 => 66 | 329 => 67 | 330 => 68 | 331 => 69 | 332 => 70 | 215 => 61 | 343 => 75 | n => n, fun | 28 => 51 | 3 => 3 | 46 => 121 | 0 => 0 | 51 => 146 | 53 => 47 | 4 => 4 | 183 => 140 | 182 => 139 | 131 => 91 | 5 => 5 | 9 => 9 | 218 => 158 | 222 => 162 | 228 => 170 | 229 => 171 | n => n, fun | n => n⟩
theorem lays189_ : Go.Proofs.Lays.n189 Tryd.prog lays189__ren := {
  mixed := by kernel_rfl
  f125 := Tryd.func33.trans (congrArg some (by kernel_rfl))
  f128 := Tryd.func57.trans (congrArg some (by kernel_rfl))
  f129 := Tryd.func58.trans (congrArg some (by kernel_rfl))
  f189 := Tryd.func15.trans (congrArg some (by kernel_rfl))
  f215 := Tryd.func61.trans (congrArg some (by kernel_rfl))
  f216 := Tryd.func38.trans (congrArg some (by kernel_rfl))
  f257 := Tryd.func32.trans (congrArg some (by kernel_rfl))
  f294 := Tryd.func49.trans (congrArg some (by kernel_rfl))
  f295 := Tryd.func50.trans (congrArg some (by kernel_rfl))
  f296 := Tryd.func51.trans (congrArg some (by kernel_rfl))
  f297 := Tryd.func52.trans (congrArg some (by kernel_rfl))
  f298 := Tryd.func53.trans (congrArg some (by kernel_rfl))
  f299 := Tryd.func54.trans (congrArg some (by kernel_rfl))
  f300 := Tryd.func55.trans (congrArg some (by kernel_rfl))
  f301 := Tryd.func56.trans (congrArg some (by kernel_rfl))
  f328 := Tryd.func66.trans (congrArg some (by kernel_rfl))
  f329 := Tryd.func67.trans (congrArg some (by kernel_rfl))
  f330 := Tryd.func68.trans (congrArg some (by kernel_rfl))
  f331 := Tryd.func69.trans (congrArg some (by kernel_rfl))
  f332 := Tryd.func70.trans (congrArg some (by kernel_rfl))
  f343 := Tryd.func75.trans (congrArg some (by kernel_rfl))
  t0 := Tryd.underlying0
  a0 := Tryd.isAgg0
  z0 := Tryd.sizeOf0
  v0 := Tryd.zeroValue0
  t3 := Tryd.underlying3
  a3 := Tryd.isAgg3
  z3 := Tryd.sizeOf3
  v3 := Tryd.zeroValue3
  t4 := Tryd.underlying4
  a4 := Tryd.isAgg4
  z4 := Tryd.sizeOf4
  v4 := Tryd.zeroValue4
  t5 := Tryd.underlying5
  a5 := Tryd.isAgg5
  z5 := Tryd.sizeOf5
  v5 := Tryd.zeroValue5
  t9 := Tryd.underlying9
  a9 := Tryd.isAgg9
  z9 := Tryd.sizeOf9
  v9 := Tryd.zeroValue9
  t28 := Tryd.underlying51
  a28 := Tryd.isAgg51
  z28 := Tryd.sizeOf51
  v28 := Tryd.zeroValue51
  t46 := Tryd.underlying121
  a46 := Tryd.isAgg121
  z46 := Tryd.sizeOf121
  v46 := Tryd.zeroValue121
  t51 := Tryd.underlying146
  a51 := Tryd.isAgg146
  z51 := Tryd.sizeOf146
  v51 := Tryd.zeroValue146
  t53 := Tryd.underlying47
  a53 := Tryd.isAgg47
  z53 := Tryd.sizeOf47
  v53 := Tryd.zeroValue47
  t131 := Tryd.underlying91
  a131 := Tryd.isAgg91
  z131 := Tryd.sizeOf91
  v131 := Tryd.zeroValue91
  t182 := Tryd.underlying139
  a182 := Tryd.isAgg139
  z182 := Tryd.sizeOf139
  v182 := Tryd.zeroValue139
  t183 := Tryd.underlying140
  a183 := Tryd.isAgg140
  z183 := Tryd.sizeOf140
  v183 := Tryd.zeroValue140
  t218 := Tryd.underlying158
  a218 := Tryd.isAgg158
  z218 := Tryd.sizeOf158
  v218 := Tryd.zeroValue158
  t222 := Tryd.underlying162
  a222 := Tryd.isAgg162
  z222 := Tryd.sizeOf162
  v222 := Tryd.zeroValue162
  t228 := Tryd.underlying170
  a228 := Tryd.isAgg170
  z228 := Tryd.sizeOf170
  v228 := Tryd.zeroValue170
  t229 := Tryd.underlying171
  a229 := Tryd.isAgg171
  z229 := Tryd.sizeOf171
  v229 := Tryd.zeroValue171 }

open Go.RowKit Go.Lib Go.Sort in
theorem sh_slices_Sort_int_none (p : Option Addr) (cap : Nat) (w : World) :
    Calls Tryd.prog 15 #[.slice p 0 cap] w fun e w' => e = .returned (.tuple #[]) ∧ w' = w := Any.slices_Sort_int_none lays189_ p cap w
end Go.Proofs.YtmkgfccfnpmcjaaDoor
/- The table of opcodes: opcode.rows, and the iterator that goes through it. Printed by gen_op.py. -/
namespace Go.Proofs.YtmkgfccfnpmcjaaDoor
open Go.RowKit
set_option maxRecDepth 100000

/-- what the package-level variables hold -/
structure Env0 (w : World) : Prop where
  asc : ∀ c : Nat, c < 256 → w.cell? ⟨0, c, none⟩ = some (.int .u8 (if Lib.isSp (UInt8.ofNat c) then 1 else 0))
  mx : ∃ m, w.cell? ⟨1, 0, none⟩ = some (.int .i64 m)
theorem Env0.ext {w w' : World} (h : Env0 w) (hx : Ext w w') : Env0 w' := ⟨fun c hc => hx.cell (h.asc c hc), by obtain ⟨m, hm⟩ := h.mx; exact ⟨m, hx.cell hm⟩⟩
theorem Env0.put {W : World} {l : Nat} {o o' : Obj} (h : Env0 W) (hl : W.heap[l]? = some o) (ho : o.isCells = false) : Env0 (W.putObj l o') := by
  have key : ∀ {p : Addr} {v : Value}, W.cell? p = some v → (W.putObj l o').cell? p = some v := fun {p v} hc => by
    have hne : p.block ≠ l := by
      intro e
      unfold World.cell? at hc
      rw [e, hl] at hc
      cases o <;> simp_all [Obj.isCells]
    rw [World.cell?_of_block (w := W) (by simp [World.putObj, Ne.symm hne])]; exact hc
  exact ⟨fun c hc => key (h.asc c hc), by obtain ⟨m, hm⟩ := h.mx; exact ⟨m, key hm⟩⟩

/-- first opcode, head and tails of each row -/
def rowsO : List (Int × List UInt8 × List UInt8) := [(0, [], [117, 110, 114, 101, 97, 99, 104, 97, 98, 108, 101, 32, 110, 111, 112, 32, 98, 108, 111, 99, 107, 32, 108, 111, 111, 112, 32, 105, 102, 32, 101, 108, 115, 101]), (11, [], [101, 110, 100, 32, 98, 114, 32, 98, 114, 95, 105, 102, 32, 98, 114, 95, 116, 97, 98, 108, 101, 32, 114, 101, 116, 117, 114, 110, 32, 99, 97, 108, 108, 32, 99, 97, 108, 108, 95, 105, 110, 100, 105, 114, 101, 99, 116]), (26, [], [100, 114, 111, 112, 32, 115, 101, 108, 101, 99, 116, 32, 115, 101, 108, 101, 99, 116]), (32, [108, 111, 99, 97, 108, 46], [103, 101, 116, 32, 115, 101, 116, 32, 116, 101, 101]), (35, [103, 108, 111, 98, 97, 108, 46], [103, 101, 116, 32, 115, 101, 116]), (37, [116, 97, 98, 108, 101, 46], [103, 101, 116, 32, 115, 101, 116]), (40, [], [105, 51, 50, 46, 108, 111, 97, 100, 32, 105, 54, 52, 46, 108, 111, 97, 100]), (44, [105, 51, 50, 46], [108, 111, 97, 100, 56, 95, 115, 32, 108, 111, 97, 100, 56, 95, 117, 32, 108, 111, 97, 100, 49, 54, 95, 115, 32, 108, 111, 97, 100, 49, 54, 95, 117]), (48, [105, 54, 52, 46], [108, 111, 97, 100, 56, 95, 115, 32, 108, 111, 97, 100, 56, 95, 117, 32, 108, 111, 97, 100, 49, 54, 95, 115, 32, 108, 111, 97, 100, 49, 54, 95, 117, 32, 108, 111, 97, 100, 51, 50, 95, 115, 32, 108, 111, 97, 100, 51, 50, 95, 117]), (54, [], [105, 51, 50, 46, 115, 116, 111, 114, 101, 32, 105, 54, 52, 46, 115, 116, 111, 114, 101]), (58, [105, 51, 50, 46], [115, 116, 111, 114, 101, 56, 32, 115, 116, 111, 114, 101, 49, 54]), (60, [105, 54, 52, 46], [115, 116, 111, 114, 101, 56, 32, 115, 116, 111, 114, 101, 49, 54, 32, 115, 116, 111, 114, 101, 51, 50]), (63, [109, 101, 109, 111, 114, 121, 46], [115, 105, 122, 101, 32, 103, 114, 111, 119]), (65, [], [105, 51, 50, 46, 99, 111, 110, 115, 116, 32, 105, 54, 52, 46, 99, 111, 110, 115, 116]), (69, [105, 51, 50, 46], [101, 113, 122, 32, 101, 113, 32, 110, 101, 32, 108, 116, 95, 115, 32, 108, 116, 95, 117, 32, 103, 116, 95, 115, 32, 103, 116, 95, 117, 32, 108, 101, 95, 115, 32, 108, 101, 95, 117, 32, 103, 101, 95, 115, 32, 103, 101, 95, 117]), (80, [105, 54, 52, 46], [101, 113, 122, 32, 101, 113, 32, 110, 101, 32, 108, 116, 95, 115, 32, 108, 116, 95, 117, 32, 103, 116, 95, 115, 32, 103, 116, 95, 117, 32, 108, 101, 95, 115, 32, 108, 101, 95, 117, 32, 103, 101, 95, 115, 32, 103, 101, 95, 117]), (103, [105, 51, 50, 46], [99, 108, 122, 32, 99, 116, 122, 32, 112, 111, 112, 99, 110, 116, 32, 97, 100, 100, 32, 115, 117, 98, 32, 109, 117, 108, 32, 100, 105, 118, 95, 115, 32, 100, 105, 118, 95, 117, 32, 114, 101, 109, 95, 115, 32, 114, 101, 109, 95, 117, 32, 97, 110, 100, 32, 111, 114, 32, 120, 111, 114, 32, 115, 104, 108, 32, 115, 104, 114, 95, 115, 32, 115, 104, 114, 95, 117, 32, 114, 111, 116, 108, 32, 114, 111, 116, 114]), (121, [105, 54, 52, 46], [99, 108, 122, 32, 99, 116, 122, 32, 112, 111, 112, 99, 110, 116, 32, 97, 100, 100, 32, 115, 117, 98, 32, 109, 117, 108, 32, 100, 105, 118, 95, 115, 32, 100, 105, 118, 95, 117, 32, 114, 101, 109, 95, 115, 32, 114, 101, 109, 95, 117, 32, 97, 110, 100, 32, 111, 114, 32, 120, 111, 114, 32, 115, 104, 108, 32, 115, 104, 114, 95, 115, 32, 115, 104, 114, 95, 117, 32, 114, 111, 116, 108, 32, 114, 111, 116, 114]), (167, [], [105, 51, 50, 46, 119, 114, 97, 112, 95, 105, 54, 52]), (172, [105, 54, 52, 46], [101, 120, 116, 101, 110, 100, 95, 105, 51, 50, 95, 115, 32, 101, 120, 116, 101, 110, 100, 95, 105, 51, 50, 95, 117]), (192, [105, 51, 50, 46], [101, 120, 116, 101, 110, 100, 56, 95, 115, 32, 101, 120, 116, 101, 110, 100, 49, 54, 95, 115]), (194, [105, 54, 52, 46], [101, 120, 116, 101, 110, 100, 56, 95, 115, 32, 101, 120, 116, 101, 110, 100, 49, 54, 95, 115, 32, 101, 120, 116, 101, 110, 100, 51, 50, 95, 115]), (208, [114, 101, 102, 46], [110, 117, 108, 108, 32, 105, 115, 95, 110, 117, 108, 108, 32, 102, 117, 110, 99]), (64520, [], [109, 101, 109, 111, 114, 121, 46, 105, 110, 105, 116, 32, 100, 97, 116, 97, 46, 100, 114, 111, 112, 32, 109, 101, 109, 111, 114, 121, 46, 99, 111, 112, 121, 32, 109, 101, 109, 111, 114, 121, 46, 102, 105, 108, 108, 32, 116, 97, 98, 108, 101, 46, 105, 110, 105, 116, 32, 101, 108, 101, 109, 46, 100, 114, 111, 112, 32, 116, 97, 98, 108, 101, 46, 99, 111, 112, 121, 32, 116, 97, 98, 108, 101, 46, 103, 114, 111, 119, 32, 116, 97, 98, 108, 101, 46, 115, 105, 122, 101, 32, 116, 97, 98, 108, 101, 46, 102, 105, 108, 108])]
def rwV (r : Int × List UInt8 × List UInt8) : List Value := [.int .i64 r.1, .string ⟨r.2.1.toArray⟩, .string ⟨r.2.2.toArray⟩]
def rowCells : List Value := rowsO.flatMap rwV
/-- the opcodes of a row, with their names -/
def opsOf (r : Int × List UInt8 × List UInt8) : List (Int × ByteArray) := (Lib.fields r.2.2).zipIdx.map fun p => (r.1 + p.2, ⟨r.2.1.toArray⟩ ++ ⟨p.1.toArray⟩)
def opX : List (Int × ByteArray) := rowsO.flatMap opsOf

theorem opcode_rows (w : World) : Calls G.P 72 #[] w fun e w' => e = .returned (.slice (some ⟨w.heap.size, 0, none⟩) 24 24) ∧ New w w' rowCells 168 := by
  refine enter (G := G) Tryd.func72 rfl Tryd.ntmps72 rfl ?_
  refine wgx ?_
  refine Ops.e (Eff.buildSlice (cs := rowCells) (e := 168) rfl (by kernel_rfl)) rfl ?_
  rintro _ w1 ⟨rfl, hn⟩
  refine wgx ?_
  exact Fin.ret1 rfl rfl ⟨rfl, hn⟩
end Go.Proofs.YtmkgfccfnpmcjaaDoor
