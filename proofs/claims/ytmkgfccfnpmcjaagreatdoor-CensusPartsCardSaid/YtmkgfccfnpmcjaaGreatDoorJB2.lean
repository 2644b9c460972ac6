/- The reference's table of opcodes: ref05.rows, find, Known, Name, Of, All, within, Width. Printed by gen_b1.py. -/
import Derived.Test.YtmkgfccfnpmcjaaGreatDoorJH7
import Derived.Test.YtmkgfccfnpmcjaaGreatDoorJHq
namespace Go.Proofs.YtmkgfccfnpmcjaaGreatDoor
open Go.RowKit
set_option maxRecDepth 100000

abbrev Row5 := Int × List UInt8 × Int
def rwC (r : Row5) : List Value := [.int .i64 r.1, .string ⟨r.2.1.toArray⟩, .int .i64 r.2.2]
def control5 : List Row5 := [(0, [117, 110, 114, 101, 97, 99, 104, 97, 98, 108, 101], 0), (1, [110, 111, 112], 0), (2, [98, 108, 111, 99, 107], 1), (3, [108, 111, 111, 112], 1), (4, [105, 102], 1), (5, [101, 108, 115, 101], 0), (11, [101, 110, 100], 0), (12, [98, 114], 2), (13, [98, 114, 95, 105, 102], 2), (14, [98, 114, 95, 116, 97, 98, 108, 101], 3), (15, [114, 101, 116, 117, 114, 110], 0), (16, [99, 97, 108, 108], 4), (17, [99, 97, 108, 108, 95, 105, 110, 100, 105, 114, 101, 99, 116], 5), (26, [100, 114, 111, 112], 0), (27, [115, 101, 108, 101, 99, 116], 0), (28, [115, 101, 108, 101, 99, 116], 6), (32, [108, 111, 99, 97, 108, 46, 103, 101, 116], 7), (33, [108, 111, 99, 97, 108, 46, 115, 101, 116], 7), (34, [108, 111, 99, 97, 108, 46, 116, 101, 101], 7), (35, [103, 108, 111, 98, 97, 108, 46, 103, 101, 116], 8), (36, [103, 108, 111, 98, 97, 108, 46, 115, 101, 116], 8), (37, [116, 97, 98, 108, 101, 46, 103, 101, 116], 9), (38, [116, 97, 98, 108, 101, 46, 115, 101, 116], 9)]
def access5 : List Row5 := [(40, [105, 51, 50, 46, 108, 111, 97, 100], 17), (41, [105, 54, 52, 46, 108, 111, 97, 100], 17), (44, [105, 51, 50, 46, 108, 111, 97, 100, 56, 95, 115], 17), (45, [105, 51, 50, 46, 108, 111, 97, 100, 56, 95, 117], 17), (46, [105, 51, 50, 46, 108, 111, 97, 100, 49, 54, 95, 115], 17), (47, [105, 51, 50, 46, 108, 111, 97, 100, 49, 54, 95, 117], 17), (48, [105, 54, 52, 46, 108, 111, 97, 100, 56, 95, 115], 17), (49, [105, 54, 52, 46, 108, 111, 97, 100, 56, 95, 117], 17), (50, [105, 54, 52, 46, 108, 111, 97, 100, 49, 54, 95, 115], 17), (51, [105, 54, 52, 46, 108, 111, 97, 100, 49, 54, 95, 117], 17), (52, [105, 54, 52, 46, 108, 111, 97, 100, 51, 50, 95, 115], 17), (53, [105, 54, 52, 46, 108, 111, 97, 100, 51, 50, 95, 117], 17), (54, [105, 51, 50, 46, 115, 116, 111, 114, 101], 17), (55, [105, 54, 52, 46, 115, 116, 111, 114, 101], 17), (58, [105, 51, 50, 46, 115, 116, 111, 114, 101, 56], 17), (59, [105, 51, 50, 46, 115, 116, 111, 114, 101, 49, 54], 17), (60, [105, 54, 52, 46, 115, 116, 111, 114, 101, 56], 17), (61, [105, 54, 52, 46, 115, 116, 111, 114, 101, 49, 54], 17), (62, [105, 54, 52, 46, 115, 116, 111, 114, 101, 51, 50], 17), (63, [109, 101, 109, 111, 114, 121, 46, 115, 105, 122, 101], 13), (64, [109, 101, 109, 111, 114, 121, 46, 103, 114, 111, 119], 13), (65, [105, 51, 50, 46, 99, 111, 110, 115, 116], 18), (66, [105, 54, 52, 46, 99, 111, 110, 115, 116], 19)]
def end5 : List Row5 := [(208, [114, 101, 102, 46, 110, 117, 108, 108], 20), (209, [114, 101, 102, 46, 105, 115, 95, 110, 117, 108, 108], 0), (210, [114, 101, 102, 46, 102, 117, 110, 99], 4), (64520, [109, 101, 109, 111, 114, 121, 46, 105, 110, 105, 116], 15), (64521, [100, 97, 116, 97, 46, 100, 114, 111, 112], 16), (64522, [109, 101, 109, 111, 114, 121, 46, 99, 111, 112, 121], 14), (64523, [109, 101, 109, 111, 114, 121, 46, 102, 105, 108, 108], 13), (64524, [116, 97, 98, 108, 101, 46, 105, 110, 105, 116], 11), (64525, [101, 108, 101, 109, 46, 100, 114, 111, 112], 12), (64526, [116, 97, 98, 108, 101, 46, 99, 111, 112, 121], 10), (64527, [116, 97, 98, 108, 101, 46, 103, 114, 111, 119], 9), (64528, [116, 97, 98, 108, 101, 46, 115, 105, 122, 101], 9), (64529, [116, 97, 98, 108, 101, 46, 102, 105, 108, 108], 9)]
def mid5 : List Row5 := [(167, [105, 51, 50, 46, 119, 114, 97, 112, 95, 105, 54, 52], 0), (172, [105, 54, 52, 46, 101, 120, 116, 101, 110, 100, 95, 105, 51, 50, 95, 115], 0), (173, [105, 54, 52, 46, 101, 120, 116, 101, 110, 100, 95, 105, 51, 50, 95, 117], 0)]
def compares5 : List (List UInt8) := [[101, 113, 122], [101, 113], [110, 101], [108, 116, 95, 115], [108, 116, 95, 117], [103, 116, 95, 115], [103, 116, 95, 117], [108, 101, 95, 115], [108, 101, 95, 117], [103, 101, 95, 115], [103, 101, 95, 117]]
def twos5 : List (List UInt8) := [[99, 108, 122], [99, 116, 122], [112, 111, 112, 99, 110, 116], [97, 100, 100], [115, 117, 98], [109, 117, 108], [100, 105, 118, 95, 115], [100, 105, 118, 95, 117], [114, 101, 109, 95, 115], [114, 101, 109, 95, 117], [97, 110, 100], [111, 114], [120, 111, 114], [115, 104, 108], [115, 104, 114, 95, 115], [115, 104, 114, 95, 117], [114, 111, 116, 108], [114, 111, 116, 114]]
def nums5 (f : Int) (t : List UInt8) (l : List (List UInt8)) : List Row5 := l.zipIdx.map fun p => (f + p.2, t ++ [46] ++ p.1, 0)
def ext2 : List (List UInt8) := [[101, 120, 116, 101, 110, 100, 56, 95, 115], [101, 120, 116, 101, 110, 100, 49, 54, 95, 115]]
def ext3 : List (List UInt8) := [[101, 120, 116, 101, 110, 100, 56, 95, 115], [101, 120, 116, 101, 110, 100, 49, 54, 95, 115], [101, 120, 116, 101, 110, 100, 51, 50, 95, 115]]
def r05 : List Row5 := ((((((((control5 ++ access5) ++ nums5 69 [105, 51, 50] compares5) ++ nums5 80 [105, 54, 52] compares5) ++ nums5 103 [105, 51, 50] twos5) ++ nums5 121 [105, 54, 52] twos5) ++ mid5) ++ nums5 192 [105, 51, 50] ext2) ++ nums5 194 [105, 54, 52] ext3) ++ end5

theorem rwC_len (xs : List Row5) : (xs.flatMap rwC).length = xs.length * 3 := by
  induction xs with
  | nil => rfl
  | cons a r ih => rw [List.flatMap_cons, List.length_append, ih, List.length_cons]; simp [rwC]; omega
theorem rwC_one {xs : List Row5} : ∀ u ∈ xs.flatMap rwC, u.oneCell' = true := by
  intro u hu
  obtain ⟨r, _, hr⟩ := List.mem_flatMap.1 hu
  simp only [rwC, List.mem_cons, List.not_mem_nil, or_false] at hr
  rcases hr with rfl | rfl | rfl <;> rfl
abbrev T5 : Nat := 89
/-- a table of rows, new -/
def Tab5 (w : World) (xs : List Row5) (e : Ending) (w' : World) : Prop := (∃ v, e = .returned v ∧ w'.ownsRow w.heap.size T5 3 v xs.length (xs.flatMap rwC)) ∧ Ext w w'

theorem ref05_control (w : World) : Calls G.P 57 #[] w (Tab5 w control5) := by
  refine enter (G := G) Tryz.func57 rfl Tryz.ntmps57 rfl ?_
  refine wgx ?_
  refine Ops.e (Eff.buildSlice (cs := control5.flatMap rwC) (e := T5) rfl (by kernel_rfl)) rfl ?_
  rintro _ w1 ⟨rfl, hn⟩
  refine wgx ?_
  exact Fin.ret1 rfl rfl ⟨⟨_, rfl, own_new hn (Nat.le_refl _) (by unfold maxLen; decide) rfl⟩, hn.ext⟩
theorem ref05_access (w : World) : Calls G.P 58 #[] w (Tab5 w access5) := by
  refine enter (G := G) Tryz.func58 rfl Tryz.ntmps58 rfl ?_
  refine wgx ?_
  refine Ops.e (Eff.buildSlice (cs := access5.flatMap rwC) (e := T5) rfl (by kernel_rfl)) rfl ?_
  rintro _ w1 ⟨rfl, hn⟩
  refine wgx ?_
  exact Fin.ret1 rfl rfl ⟨⟨_, rfl, own_new hn (Nat.le_refl _) (by unfold maxLen; decide) rfl⟩, hn.ext⟩
theorem ref05_end (w : World) : Calls G.P 62 #[] w (Tab5 w end5) := by
  refine enter (G := G) Tryz.func62 rfl Tryz.ntmps62 rfl ?_
  refine wgx ?_
  refine Ops.e (Eff.buildSlice (cs := end5.flatMap rwC) (e := T5) rfl (by kernel_rfl)) rfl ?_
  rintro _ w1 ⟨rfl, hn⟩
  refine wgx ?_
  exact Fin.ret1 rfl rfl ⟨⟨_, rfl, own_new hn (Nat.le_refl _) (by unfold maxLen; decide) rfl⟩, hn.ext⟩
theorem ref05_compares (w : World) : Calls G.P 60 #[] w fun e w' => (∃ v, e = .returned v ∧ w'.ownsRow w.heap.size 9 1 v compares5.length (compares5.map fun l => Value.string ⟨l.toArray⟩)) ∧ Ext w w' := by
  refine enter (G := G) Tryz.func60 rfl Tryz.ntmps60 rfl ?_
  refine wgx ?_
  refine Ops.e (Eff.buildSlice (cs := compares5.map fun l => Value.string ⟨l.toArray⟩) (e := 9) rfl (by kernel_rfl)) rfl ?_
  rintro _ w1 ⟨rfl, hn⟩
  refine wgx ?_
  exact Fin.ret1 rfl rfl ⟨⟨_, rfl, own_new hn (Nat.le_refl _) (by unfold maxLen; decide) rfl⟩, hn.ext⟩
theorem ref05_twos (w : World) : Calls G.P 61 #[] w fun e w' => (∃ v, e = .returned v ∧ w'.ownsRow w.heap.size 9 1 v twos5.length (twos5.map fun l => Value.string ⟨l.toArray⟩)) ∧ Ext w w' := by
  refine enter (G := G) Tryz.func61 rfl Tryz.ntmps61 rfl ?_
  refine wgx ?_
  refine Ops.e (Eff.buildSlice (cs := twos5.map fun l => Value.string ⟨l.toArray⟩) (e := 9) rfl (by kernel_rfl)) rfl ?_
  rintro _ w1 ⟨rfl, hn⟩
  refine wgx ?_
  exact Fin.ret1 rfl rfl ⟨⟨_, rfl, own_new hn (Nat.le_refl _) (by unfold maxLen; decide) rfl⟩, hn.ext⟩

theorem nums5_len (f : Int) (t : List UInt8) (l : List (List UInt8)) : (nums5 f t l).length = l.length := by simp [nums5]
theorem nums5_take {f : Int} {t : List UInt8} {l : List (List UInt8)} {k : Nat} (h : k < l.length) : (nums5 f t l).take (k + 1) = (nums5 f t l).take k ++ [(f + k, t ++ [46] ++ ix l k, 0)] := by
  have hl : k < (nums5 f t l).length := by rw [nums5_len]; exact h
  rw [List.take_succ_eq_append_getElem hl]
  congr 2
  simp only [nums5, List.getElem_map, List.getElem_zipIdx, ix_eq h]
  simp
theorem bapp (a b : List UInt8) : (⟨a.toArray⟩ : ByteArray) ++ ⟨b.toArray⟩ = ⟨(a ++ b).toArray⟩ := by
  apply ByteArray.ext
  simp
/-- texts read -/
def Texts (w : World) (v : Value) (l : List (List UInt8)) : Prop := ∃ p c, v = .slice p l.length c ∧ ∀ i, i < l.length → ∃ b o, p = some ⟨b, o, none⟩ ∧ w.cell? ⟨b, o + i, none⟩ = some (.string ⟨(ix l i).toArray⟩)
theorem texts_own {w : World} {B : Nat} {v : Value} {l : List (List UInt8)} (h : w.ownsRow B 9 1 v l.length (l.map fun l => Value.string ⟨l.toArray⟩)) : Texts w v l := by
  obtain ⟨p, c, rfl, _, _, hg⟩ := own_slice h
  refine ⟨p, c, rfl, fun i hi => ?_⟩
  obtain ⟨g, rfl, _, _⟩ := hg (by omega)
  exact ⟨g, 0, rfl, by rw [Nat.zero_add]; exact own_get h (by rw [List.getElem?_map, ix_some hi]; rfl)⟩
set_option maxHeartbeats 4000000 in
theorem ref05_numbers (f : Int) (t : List UInt8) (l : List (List UInt8)) (v : Value) (w : World) (hv : Texts w v l) (hf : 0 ≤ f ∧ f ≤ 100000) (ht : t.length ≤ 100) (hl : l.length ≤ 100) (hs : ∀ i, i < l.length → (ix l i).length ≤ 100) :
    Calls G.P 59 #[.int .i64 f, .string ⟨t.toArray⟩, v] w (Tab5 w (nums5 f t l)) := by
  obtain ⟨p, c, rfl, hc⟩ := hv
  refine enterH (l := [.int .i64 f, .string ⟨t.toArray⟩, .slice p l.length c]) Tryz.func59 rfl Tryz.ntmps59 rfl (Ok.start w) ?_
  refine CdH.nilO w.heap.size T5 3 ?_
  refine wgh ?_
  refine CdH.loop (σ := Nat × Value) (fun s => [(0, .int .i64 f), (1, .string ⟨t.toArray⟩), (2, .slice p l.length c), (7, s.2), (8, .int .i64 s.1)]) (fun s => [.own w.heap.size T5 3 s.2 s.1 (((nums5 f t l).take s.1).flatMap rwC)]) (fun _ => [Ext w]) (fun s => s.1 ≤ l.length) (fun s => l.length - s.1) (0, .slice none 0 0) wsub wsl wsr (by dsimp only; omega) ?_
  rintro ⟨i, v⟩ hi
  dsimp only at hi ⊢
  by_cases hlt : i < l.length
  · obtain ⟨b, o, rfl, c1⟩ := hc i hlt
    have hsi := hs i hlt
    have z1 : (⟨t.toArray⟩ : ByteArray).size = t.length := rfl
    have z2 : (⟨#[46]⟩ : ByteArray).size = 1 := rfl
    have z3 : (⟨(ix l i).toArray⟩ : ByteArray).size = (ix l i).length := rfl
    have z4 : ((⟨t.toArray⟩ : ByteArray) ++ ⟨#[46]⟩).size = t.length + 1 := by rw [ByteArray.size_append, z1, z2]
    refine wgh ?_
    refine OpsH.he (HE.bsl rfl rfl rfl rfl rfl wcel (by rfl) (by rfl)) rfl ?_
    intro b2 _
    refine OpsH.he (HE.app rfl rfl (fun _ => wup) wup rfl rfl rfl (by rfl) (by rfl) (by rfl) (by rfl) (by rfl) (by rfl) (by omega) szR) rfl ?_
    intro v2 _
    refine wgh ?_
    refine FinH.next (i + 1, v2) wsub (.cons _ (sub_own rfl rfl ?_ (List.nil_sublist _))) wsr (by dsimp only; omega) (by dsimp only; omega)
    rw [nums5_take hlt, List.flatMap_append, show (⟨t.toArray⟩ : ByteArray) ++ ⟨#[46]⟩ = ⟨(t ++ [46]).toArray⟩ from bapp t [46], bapp]
    rfl
  · obtain rfl : i = l.length := by omega
    refine wgh ?_
    refine FinH.ret1 rfl rfl fun w' hw' => ?_
    have h1 : w'.ownsRow w.heap.size T5 3 v l.length (((nums5 f t l).take l.length).flatMap rwC) := (hw'.m _ (List.mem_singleton.2 rfl)).1
    refine ⟨⟨v, rfl, ?_⟩, hw'.get wmem⟩
    rw [← nums5_len f t l, List.take_length] at h1; exact h1
end Go.Proofs.YtmkgfccfnpmcjaaGreatDoor
/- The reference's table of opcodes: rows, find, Known, Name, Of, within, Width, All. -/
namespace Go.Proofs.YtmkgfccfnpmcjaaGreatDoor
open Go.RowKit
set_option maxRecDepth 100000

theorem texts_of {w : World} {B : Nat} {v : Value} (l : List (List UInt8)) {n : Nat} {xs : List Value} (h : w.ownsRow B 9 1 v n xs) (hn : n = l.length) (hx : xs = l.map fun l => Value.string ⟨l.toArray⟩) : Texts w v l := by
  subst hn; subst hx; exact texts_own h
set_option maxHeartbeats 8000000 in
theorem ref05_rows (w : World) : Calls G.P 33 #[] w (Tab5 w r05) := by
  refine enterH (l := []) Tryz.func33 rfl Tryz.ntmps33 rfl (Ok.start w) ?_
  refine wgh ?_
  refine OpsH.he (HE.callO (B := w.heap.size) rfl rfl szR (fun w' _ => ref05_control w')) rfl ?_
  intro v1 _
  refine OpsH.he (HE.callO (B := w.heap.size) rfl rfl szR (fun w' _ => ref05_access w')) rfl ?_
  intro v2 _
  refine OpsH.he (HE.appOwn rfl rfl (fun _ => wup) wup rfl rfl rfl (by rfl) (by rfl) (by rfl) (by rfl) rwC_one (by decide) szR) rfl ?_
  intro v3 _
  refine wgh ?_
  refine OpsH.he (HE.callO (B := w.heap.size) rfl rfl szR (fun w' _ => ref05_compares w')) rfl ?_
  intro s1 _
  refine OpsH.he (HE.callO (B := w.heap.size) rfl rfl szR (fun w' hw' => ref05_numbers 69 [105, 51, 50] compares5 s1 w' (texts_own hw'.own) (by omega) (by decide) (by decide) (by decide))) rfl ?_
  intro v4 _
  refine OpsH.he (HE.appOwn rfl rfl (fun _ => wup) wup rfl rfl rfl (by rfl) (by rfl) (by rfl) (by rfl) rwC_one (by decide) szR) rfl ?_
  intro v5 _
  refine wgh ?_
  refine OpsH.he (HE.callO (B := w.heap.size) rfl rfl szR (fun w' _ => ref05_compares w')) rfl ?_
  intro s2 _
  refine OpsH.he (HE.callO (B := w.heap.size) rfl rfl szR (fun w' hw' => ref05_numbers 80 [105, 54, 52] compares5 s2 w' (texts_own hw'.own) (by omega) (by decide) (by decide) (by decide))) rfl ?_
  intro v6 _
  refine OpsH.he (HE.appOwn rfl rfl (fun _ => wup) wup rfl rfl rfl (by rfl) (by rfl) (by rfl) (by rfl) rwC_one (by decide) szR) rfl ?_
  intro v7 _
  refine wgh ?_
  refine OpsH.he (HE.callO (B := w.heap.size) rfl rfl szR (fun w' _ => ref05_twos w')) rfl ?_
  intro s3 _
  refine OpsH.he (HE.callO (B := w.heap.size) rfl rfl szR (fun w' hw' => ref05_numbers 103 [105, 51, 50] twos5 s3 w' (texts_own hw'.own) (by omega) (by decide) (by decide) (by decide))) rfl ?_
  intro v8 _
  refine OpsH.he (HE.appOwn rfl rfl (fun _ => wup) wup rfl rfl rfl (by rfl) (by rfl) (by rfl) (by rfl) rwC_one (by decide) szR) rfl ?_
  intro v9 _
  refine wgh ?_
  refine OpsH.he (HE.callO (B := w.heap.size) rfl rfl szR (fun w' _ => ref05_twos w')) rfl ?_
  intro s4 _
  refine OpsH.he (HE.callO (B := w.heap.size) rfl rfl szR (fun w' hw' => ref05_numbers 121 [105, 54, 52] twos5 s4 w' (texts_own hw'.own) (by omega) (by decide) (by decide) (by decide))) rfl ?_
  intro v10 _
  refine OpsH.he (HE.appOwn rfl rfl (fun _ => wup) wup rfl rfl rfl (by rfl) (by rfl) (by rfl) (by rfl) rwC_one (by decide) szR) rfl ?_
  intro v11 _
  refine wgh ?_
  refine OpsH.he (HE.bsl rfl rfl rfl rfl rfl wcel (by rfl) (by rfl)) rfl ?_
  intro b1 _
  refine OpsH.toOwn (b := b1) (len := 3) 3 wup rfl (by unfold maxLen; decide) ?_
  refine OpsH.he (HE.appOwn rfl rfl (fun _ => wup) wup rfl rfl rfl (by rfl) (by rfl) (by rfl) (by rfl) (by decide) (by decide) szR) rfl ?_
  intro v12 _
  refine wgh ?_
  refine OpsH.he (HE.bsl rfl rfl rfl rfl rfl wcel (by rfl) (by rfl)) rfl ?_
  intro b2 _
  refine OpsH.toOwn (b := b2) (len := 2) 1 wup rfl (by unfold maxLen; decide) ?_
  refine OpsH.he (HE.callO (B := w.heap.size) rfl rfl szR (fun w' hw' => ref05_numbers 192 [105, 51, 50] ext2 _ w' (texts_of ext2 hw'.own (by rfl) (by rfl)) (by omega) (by decide) (by decide) (by decide))) rfl ?_
  intro v13 _
  refine OpsH.he (HE.appOwn rfl rfl (fun _ => wup) wup rfl rfl rfl (by rfl) (by rfl) (by rfl) (by rfl) rwC_one (by decide) szR) rfl ?_
  intro v14 _
  refine wgh ?_
  refine OpsH.he (HE.bsl rfl rfl rfl rfl rfl wcel (by rfl) (by rfl)) rfl ?_
  intro b3 _
  refine OpsH.toOwn (b := b3) (len := 3) 1 wup rfl (by unfold maxLen; decide) ?_
  refine OpsH.he (HE.callO (B := w.heap.size) rfl rfl szR (fun w' hw' => ref05_numbers 194 [105, 54, 52] ext3 _ w' (texts_of ext3 hw'.own (by rfl) (by rfl)) (by omega) (by decide) (by decide) (by decide))) rfl ?_
  intro v15 _
  refine OpsH.he (HE.appOwn rfl rfl (fun _ => wup) wup rfl rfl rfl (by rfl) (by rfl) (by rfl) (by rfl) rwC_one (by decide) szR) rfl ?_
  intro v16 _
  refine wgh ?_
  refine OpsH.he (HE.callO (B := w.heap.size) rfl rfl szR (fun w' _ => ref05_end w')) rfl ?_
  intro v17 _
  refine OpsH.he (HE.appOwn rfl rfl (fun _ => wup) wup rfl rfl rfl (by rfl) (by rfl) (by rfl) (by rfl) rwC_one (by decide) szR) rfl ?_
  intro v18 _
  refine wgh ?_
  refine FinH.ret1 rfl rfl fun w' hw' => ⟨⟨v18, rfl, ?_⟩, hw'.at⟩
  have h1 := (hw'.m (.own w.heap.size T5 3 v18 ((((((((((control5.length + access5.length) + (nums5 69 [105, 51, 50] compares5).length) + (nums5 80 [105, 54, 52] compares5).length) + (nums5 103 [105, 51, 50] twos5).length) + (nums5 121 [105, 54, 52] twos5).length) + 3) + (nums5 192 [105, 51, 50] ext2).length) + (nums5 194 [105, 54, 52] ext3).length) + end5.length)) _) wmm).1
  have e : r05.flatMap rwC = (((((((((control5.flatMap rwC ++ access5.flatMap rwC) ++ (nums5 69 [105, 51, 50] compares5).flatMap rwC) ++ (nums5 80 [105, 54, 52] compares5).flatMap rwC) ++ (nums5 103 [105, 51, 50] twos5).flatMap rwC) ++ (nums5 121 [105, 54, 52] twos5).flatMap rwC) ++ mid5.flatMap rwC) ++ (nums5 192 [105, 51, 50] ext2).flatMap rwC) ++ (nums5 194 [105, 54, 52] ext3).flatMap rwC) ++ end5.flatMap rwC) := by
    unfold r05; simp only [List.flatMap_append]
  rw [e]
  exact h1
end Go.Proofs.YtmkgfccfnpmcjaaGreatDoor
