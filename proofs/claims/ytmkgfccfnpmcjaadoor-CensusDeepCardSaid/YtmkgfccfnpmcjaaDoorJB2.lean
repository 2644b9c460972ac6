/- The reference's table of opcodes: ref05.rows, find, Known, Name, Of, All, within, Width. Printed by gen_b1.py. -/
import Derived.Test.YtmkgfccfnpmcjaaDoorJH7
import Derived.Test.YtmkgfccfnpmcjaaDoorJHq
namespace Go.Proofs.YtmkgfccfnpmcjaaDoor
open Go.RowKit
set_option maxRecDepth 100000

abbrev Row5 := Int × List UInt8 × Int
def rwC (r : Row5) : List Value := [.int .i64 r.1, .string ⟨r.2.1.toArray⟩, .int .i64 r.2.2]
def control5 : List Row5 := [(0, [117, 110, 114, 101, 97, 99, 104, 97, 98, 108, 101], 0), (1, [110, 111, 112], 0), (2, [98, 108, 111, 99, 107], 1), (3, [108, 111, 111, 112], 1), (4, [105, 102], 1), (5, [101, 108, 115, 101], 0), (11, [101, 110, 100], 0), (12, [98, 114], 2), (13, [98, 114, 95, 105, 102], 2), (14, [98, 114, 95, 116, 97, 98, 108, 101], 3), (15, [114, 101, 116, 117, 114, 110], 0), (16, [99, 97, 108, 108], 4), (17, [99, 97, 108, 108, 95, 105, 110, 100, 105, 114, 101, 99, 116], 5), (26, [100, 114, 111, 112], 0), (27, [115, 101, 108, 101, 99, 116], 0), (28, [115, 101, 108, 101, 99, 116], 6), (32, [108, 111, 99, 97, 108, 46, 103, 101, 116], 7), (33, [108, 111, 99, 97, 108, 46, 115, 101, 116], 7), (34, [108, 111, 99, 97, 108, 46, 116, 101, 101], 7), (35, [103, 108, 111, 98, 97, 108, 46, 103, 101, 116], 8), (36, [103, 108, 111, 98, 97, 108, 46, 115, 101, 116], 8), (37, [116, 97, 98, 108, 101, 46, 103, 101, 116], 9), (38, [116, 97, 98, 108, 101, 46, 115, 101, 116], 9)]
def access5 : List Row5 := [(40, [105, 51, 50, 46, 108, 111, 97, 100], 17), (41, [105, 54, 52, 46, 108, 111, 97, 100], 17), (44, [105, 51, 50, 46, 108, 111, 97, 100, 56, 95, 115], 17), (45, [105, 51, 50, 46, 108, 111, 97, 100, 56, 95, 117], 17), (46, [105, 51, 50, 46, 108, 111, 97, 100, 49, 54, 95, 115], 17), (47, [105, 51, 50, 46, 108, 111, 97, 100, 49, 54, 95, 117], 17), (48, [105, 54, 52, 46, 108, 111, 97, 100, 56, 95, 115], 17), (49, [105, 54, 52, 46, 108, 111, 97, 100, 56, 95, 117], 17), (50, [105, 54, 52, 46, 108, 111, 97, 100, 49, 54, 95, 115], 17), (51, [105, 54, 52, 46, 108, 111, 97, 100, 49, 54, 95, 117], 17), (52, [105, 54, 52, 46, 108, 111, 97, 100, 51, 50, 95, 115], 17), (53, [105, 54, 52, 46, 108, 111, 97, 100, 51, 50, 95, 117], 17), (54, [105, 51, 50, 46, 115, 116, 111, 114, 101], 17), (55, [105, 54, 52, 46, 115, 116, 111, 114, 101], 17), (58, [105, 51, 50, 46, 115, 116, 111, 114, 101, 56], 17), (59, [105, 51, 50, 46, 115, 116, 111, 114, 101, 49, 54], 17), (60, [105, 54, 52, 46, 115, 116, 111, 114, 101, 56], 17), (61, [105, 54, 52, 46, 115, 116, 111, 114, 101, 49, 54], 17), (62, [105, 54, 52, 46, 115, 116, 111, 114, 101, 51, 50], 17), (63, [109, 101, 109, 111, 114, 121, 46, 115, 105, 122, 101], 13), (64, [109, 101, 109, 111, 114, 121, 46, 103, 114, 111, 119], 13), (65, [105, 51, 50, 46, 99, 111, 110, 115, 116], 18), (66, [105, 54, 52, 46, 99, 111, 110, 115, 116], 19)]
def end5 : List Row5 := [(208, [114, 101, 102, 46, 110, 117, 108, 108], 20), (209, [114, 101, 102, 46, 105, 115, 95, 110, 117, 108, 108], 0), (210, [114, 101, 102, 46, 102, 117, 110, 99], 4), (64520, [109, 101, 109, 111, 114, 121, 46, 105, 110, 105, 116], 15), (64521, [100, 97, 116, 97, 46, 100, 114, 111, 112], 16), (64522, [109, 101, 109, 111, 114, 121, 46, 99, 111, 112, 121], 14), (64523, [109, 101, 109, 111, 114, 121, 46, 102, 105, 108, 108], 13), (64524, [116, 97, 98, 108, 101, 46, 105, 110, 105, 116], 11), (64525, [101, 108, 101, 109, 46, 100, 114, 111, 112], 12), (64526, [116, 97, 98, 108, 101, 46, 99, 111, 112, 121], 10), (64527, [116, 97, 98, 108, 101, 46, 103, 114, 111, 119], 9), (64528, [116, 97, 98, 108, 101, 46, 115, 105, 122, 101], 9), (64529, [116, 97, 98, 108, 101, 46, 102, 105, 108, 108], 9)]
def mid5 : List Row5 := [(167, [105, 51, 50, 46, 119, 114, 97, 112, 95, 105, 54, 52], 0), (172, [105, 54, 52, 46, 101, 120, 116, 101, 110, 100, 95, 105, 51, 50, 95, 115], 0), (173, [105, 54, 52, 46, 101, 120, 116, 101, 110, 100, 95, 105, 51, 50, 95, 117], 0)]
def compares5 : List (List UInt8) := [[101, 113, 122], [101, 113], [110, 101], [108, 116, 95, 115], [108, 116, 95, 117], [103, 116, 95, 115], [103, 116, 95, 117], [108, 101, 95, 115], [108, 101, 95, 117], [103, 101, 95, 115], [103, 101, 95, 117]]
def twos5 : List (List UInt8) := [[99, 108, 122], [99, 116, 122], [112, 111, 112, 99, 110, 116], [97, 100, 100], [115, 117, 98], [109, 117, 108], [100, 105, 118, 95, 115], [100, 105, 118, 95, 117], [114, 101, 109, 95, 115], [114, 101, 109, 95, 117], [97, 110, 100], [111, 114], [120, 111, 114], [115, 104, 108], [115, 104, 114, 95, 115], [115, 104, 114, 95, 117], [114, 111, 116, 108], [114, 111, 116, 114]]
def nums5 (f : Int) (t : List UInt8) (l : List (List UInt8)) : List Row5 := l.zipIdx.map fun p => (f + p.2, t ++ [46] ++ p.1, 0)
def ext2 : List (List UInt8) := [[101, 120, 116, 101, 110, 100, 56, 95, 115], [101, 120, 116, 101, 110, 100, 49, 54, 95, 115]]
def ext3 : List (List UInt8) := [[101, 120, 116, 101, 110, 100, 56, 95, 115], [101, 120, 116, 101, 110, 100, 49, 54, 95, 115], [101, 120, 116, 101, 110, 100, 51, 50, 95, 115]]
def r05 : List Row5 := ((((((((control5 ++ access5) ++ nums5 69 [105, 51, 50] compares5) ++ nums5 80 [105, 54, 52] compares5) ++ nums5 103 [105, 51, 50] twos5) ++ nums5 121 [105, 54, 52] twos5) ++ mid5) ++ nums5 192 [105, 51, 50] ext2) ++ nums5 194 [105, 54, 52] ext3) ++ end5

theorem rwC_len (xs : List Row5) : (xs.flatMap rwC).length = xs.length * 3 := by
  induction xs with
  | nil => rfl
  | cons a r ih => rw [List.flatMap_cons, List.length_append, ih, List.length_cons]; simp [rwC]; omega
theorem rwC_one {xs : List Row5} : ∀ u ∈ xs.flatMap rwC, u.oneCell' = true := by
  intro u hu
  obtain ⟨r, _, hr⟩ := List.mem_flatMap.1 hu
  simp only [rwC, List.mem_cons, List.not_mem_nil, or_false] at hr
  rcases hr with rfl | rfl | rfl <;> rfl
theorem nums5_len (f : Int) (t : List UInt8) (l : List (List UInt8)) : (nums5 f t l).length = l.length := by simp [nums5]
theorem nums5_take {f : Int} {t : List UInt8} {l : List (List UInt8)} {k : Nat} (h : k < l.length) : (nums5 f t l).take (k + 1) = (nums5 f t l).take k ++ [(f + k, t ++ [46] ++ ix l k, 0)] := by
  have hl : k < (nums5 f t l).length := by rw [nums5_len]; exact h
  rw [List.take_succ_eq_append_getElem hl]
  congr 2
  simp only [nums5, List.getElem_map, List.getElem_zipIdx, ix_eq h]
  simp
theorem bapp (a b : List UInt8) : (⟨a.toArray⟩ : ByteArray) ++ ⟨b.toArray⟩ = ⟨(a ++ b).toArray⟩ := by
  apply ByteArray.ext
  simp
/-- texts read -/
def Texts (w : World) (v : Value) (l : List (List UInt8)) : Prop := ∃ p c, v = .slice p l.length c ∧ ∀ i, i < l.length → ∃ b o, p = some ⟨b, o, none⟩ ∧ w.cell? ⟨b, o + i, none⟩ = some (.string ⟨(ix l i).toArray⟩)
theorem texts_own {w : World} {B : Nat} {v : Value} {l : List (List UInt8)} (h : w.ownsRow B 9 1 v l.length (l.map fun l => Value.string ⟨l.toArray⟩)) : Texts w v l := by
  obtain ⟨p, c, rfl, _, _, hg⟩ := own_slice h
  refine ⟨p, c, rfl, fun i hi => ?_⟩
  obtain ⟨g, rfl, _, _⟩ := hg (by omega)
  exact ⟨g, 0, rfl, by rw [Nat.zero_add]; exact own_get h (by rw [List.getElem?_map, ix_some hi]; rfl)⟩
end Go.Proofs.YtmkgfccfnpmcjaaDoor
/- The reference's table of opcodes: rows, find, Known, Name, Of, within, Width, All. -/
namespace Go.Proofs.YtmkgfccfnpmcjaaDoor
open Go.RowKit
set_option maxRecDepth 100000

theorem texts_of {w : World} {B : Nat} {v : Value} (l : List (List UInt8)) {n : Nat} {xs : List Value} (h : w.ownsRow B 9 1 v n xs) (hn : n = l.length) (hx : xs = l.map fun l => Value.string ⟨l.toArray⟩) : Texts w v l := by
  subst hn; subst hx; exact texts_own h
end Go.Proofs.YtmkgfccfnpmcjaaDoor
