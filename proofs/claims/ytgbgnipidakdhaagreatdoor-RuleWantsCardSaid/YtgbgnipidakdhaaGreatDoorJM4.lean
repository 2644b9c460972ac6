/- The reference's table of opcodes: ref05.rows, find, Known, Name, Of, All, within, Width. Printed by gen_b1.py. -/
import Derived.Test.YtgbgnipidakdhaaGreatDoorJH7
import Derived.Test.YtgbgnipidakdhaaGreatDoorJHq
namespace Go.Proofs.YtgbgnipidakdhaaGreatDoor
open Go.RowKit
set_option maxRecDepth 100000
abbrev Row5 := Int × List UInt8 × Int
def rwC (r : Row5) : List Value := [.int .i64 r.1, .string ⟨r.2.1.toArray⟩, .int .i64 r.2.2]
def control5 : List Row5 := [(0, [117, 110, 114, 101, 97, 99, 104, 97, 98, 108, 101], 0), (1, [110, 111, 112], 0), (2, [98, 108, 111, 99, 107], 1), (3, [108, 111, 111, 112], 1), (4, [105, 102], 1), (5, [101, 108, 115, 101], 0), (11, [101, 110, 100], 0), (12, [98, 114], 2), (13, [98, 114, 95, 105, 102], 2), (14, [98, 114, 95, 116, 97, 98, 108, 101], 3), (15, [114, 101, 116, 117, 114, 110], 0), (16, [99, 97, 108, 108], 4), (17, [99, 97, 108, 108, 95, 105, 110, 100, 105, 114, 101, 99, 116], 5), (26, [100, 114, 111, 112], 0), (27, [115, 101, 108, 101, 99, 116], 0), (28, [115, 101, 108, 101, 99, 116], 6), (32, [108, 111, 99, 97, 108, 46, 103, 101, 116], 7), (33, [108, 111, 99, 97, 108, 46, 115, 101, 116], 7), (34, [108, 111, 99, 97, 108, 46, 116, 101, 101], 7), (35, [103, 108, 111, 98, 97, 108, 46, 103, 101, 116], 8), (36, [103, 108, 111, 98, 97, 108, 46, 115, 101, 116], 8), (37, [116, 97, 98, 108, 101, 46, 103, 101, 116], 9), (38, [116, 97, 98, 108, 101, 46, 115, 101, 116], 9)]
def access5 : List Row5 := [(40, [105, 51, 50, 46, 108, 111, 97, 100], 17), (41, [105, 54, 52, 46, 108, 111, 97, 100], 17), (44, [105, 51, 50, 46, 108, 111, 97, 100, 56, 95, 115], 17), (45, [105, 51, 50, 46, 108, 111, 97, 100, 56, 95, 117], 17), (46, [105, 51, 50, 46, 108, 111, 97, 100, 49, 54, 95, 115], 17), (47, [105, 51, 50, 46, 108, 111, 97, 100, 49, 54, 95, 117], 17), (48, [105, 54, 52, 46, 108, 111, 97, 100, 56, 95, 115], 17), (49, [105, 54, 52, 46, 108, 111, 97, 100, 56, 95, 117], 17), (50, [105, 54, 52, 46, 108, 111, 97, 100, 49, 54, 95, 115], 17), (51, [105, 54, 52, 46, 108, 111, 97, 100, 49, 54, 95, 117], 17), (52, [105, 54, 52, 46, 108, 111, 97, 100, 51, 50, 95, 115], 17), (53, [105, 54, 52, 46, 108, 111, 97, 100, 51, 50, 95, 117], 17), (54, [105, 51, 50, 46, 115, 116, 111, 114, 101], 17), (55, [105, 54, 52, 46, 115, 116, 111, 114, 101], 17), (58, [105, 51, 50, 46, 115, 116, 111, 114, 101, 56], 17), (59, [105, 51, 50, 46, 115, 116, 111, 114, 101, 49, 54], 17), (60, [105, 54, 52, 46, 115, 116, 111, 114, 101, 56], 17), (61, [105, 54, 52, 46, 115, 116, 111, 114, 101, 49, 54], 17), (62, [105, 54, 52, 46, 115, 116, 111, 114, 101, 51, 50], 17), (63, [109, 101, 109, 111, 114, 121, 46, 115, 105, 122, 101], 13), (64, [109, 101, 109, 111, 114, 121, 46, 103, 114, 111, 119], 13), (65, [105, 51, 50, 46, 99, 111, 110, 115, 116], 18), (66, [105, 54, 52, 46, 99, 111, 110, 115, 116], 19)]
def end5 : List Row5 := [(208, [114, 101, 102, 46, 110, 117, 108, 108], 20), (209, [114, 101, 102, 46, 105, 115, 95, 110, 117, 108, 108], 0), (210, [114, 101, 102, 46, 102, 117, 110, 99], 4), (64520, [109, 101, 109, 111, 114, 121, 46, 105, 110, 105, 116], 15), (64521, [100, 97, 116, 97, 46, 100, 114, 111, 112], 16), (64522, [109, 101, 109, 111, 114, 121, 46, 99, 111, 112, 121], 14), (64523, [109, 101, 109, 111, 114, 121, 46, 102, 105, 108, 108], 13), (64524, [116, 97, 98, 108, 101, 46, 105, 110, 105, 116], 11), (64525, [101, 108, 101, 109, 46, 100, 114, 111, 112], 12), (64526, [116, 97, 98, 108, 101, 46, 99, 111, 112, 121], 10), (64527, [116, 97, 98, 108, 101, 46, 103, 114, 111, 119], 9), (64528, [116, 97, 98, 108, 101, 46, 115, 105, 122, 101], 9), (64529, [116, 97, 98, 108, 101, 46, 102, 105, 108, 108], 9)]
def mid5 : List Row5 := [(167, [105, 51, 50, 46, 119, 114, 97, 112, 95, 105, 54, 52], 0), (172, [105, 54, 52, 46, 101, 120, 116, 101, 110, 100, 95, 105, 51, 50, 95, 115], 0), (173, [105, 54, 52, 46, 101, 120, 116, 101, 110, 100, 95, 105, 51, 50, 95, 117], 0)]
def compares5 : List (List UInt8) := [[101, 113, 122], [101, 113], [110, 101], [108, 116, 95, 115], [108, 116, 95, 117], [103, 116, 95, 115], [103, 116, 95, 117], [108, 101, 95, 115], [108, 101, 95, 117], [103, 101, 95, 115], [103, 101, 95, 117]]
def twos5 : List (List UInt8) := [[99, 108, 122], [99, 116, 122], [112, 111, 112, 99, 110, 116], [97, 100, 100], [115, 117, 98], [109, 117, 108], [100, 105, 118, 95, 115], [100, 105, 118, 95, 117], [114, 101, 109, 95, 115], [114, 101, 109, 95, 117], [97, 110, 100], [111, 114], [120, 111, 114], [115, 104, 108], [115, 104, 114, 95, 115], [115, 104, 114, 95, 117], [114, 111, 116, 108], [114, 111, 116, 114]]
def nums5 (f : Int) (t : List UInt8) (l : List (List UInt8)) : List Row5 := l.zipIdx.map fun p => (f + p.2, t ++ [46] ++ p.1, 0)
def ext2 : List (List UInt8) := [[101, 120, 116, 101, 110, 100, 56, 95, 115], [101, 120, 116, 101, 110, 100, 49, 54, 95, 115]]
def ext3 : List (List UInt8) := [[101, 120, 116, 101, 110, 100, 56, 95, 115], [101, 120, 116, 101, 110, 100, 49, 54, 95, 115], [101, 120, 116, 101, 110, 100, 51, 50, 95, 115]]
def r05 : List Row5 := ((((((((control5 ++ access5) ++ nums5 69 [105, 51, 50] compares5) ++ nums5 80 [105, 54, 52] compares5) ++ nums5 103 [105, 51, 50] twos5) ++ nums5 121 [105, 54, 52] twos5) ++ mid5) ++ nums5 192 [105, 51, 50] ext2) ++ nums5 194 [105, 54, 52] ext3) ++ end5
theorem rwC_len (xs : List Row5) : (xs.flatMap rwC).length = xs.length * 3 := by
  induction xs with
  | nil => rfl
  | cons a r ih => rw [List.flatMap_cons, List.length_append, ih, List.length_cons]; simp [rwC]; omega
theorem rwC_one {xs : List Row5} : ∀ u ∈ xs.flatMap rwC, u.oneCell' = true := by
  intro u hu
  obtain ⟨r, _, hr⟩ := List.mem_flatMap.1 hu
  simp only [rwC, List.mem_cons, List.not_mem_nil, or_false] at hr
  rcases hr with rfl | rfl | rfl <;> rfl
abbrev T5 : Nat := 212
def Tab5 (w : World) (xs : List Row5) (e : Ending) (w' : World) : Prop := (∃ v, e = .returned v ∧ w'.ownsRow w.heap.size T5 3 v xs.length (xs.flatMap rwC)) ∧ Ext w w'
theorem ref05_control (w : World) : Calls G.P 186 #[] w (Tab5 w control5) := by
  refine enter (G := G) Tryz.func186 rfl Tryz.ntmps186 rfl ?_
  refine wgx ?_
  refine Ops.e (Eff.buildSlice (cs := control5.flatMap rwC) (e := T5) rfl (by kernel_rfl)) rfl ?_
  rintro _ w1 ⟨rfl, hn⟩
  refine wgx ?_
  exact Fin.ret1 rfl rfl ⟨⟨_, rfl, own_new hn (Nat.le_refl _) (by unfold maxLen; decide) rfl⟩, hn.ext⟩
theorem ref05_access (w : World) : Calls G.P 187 #[] w (Tab5 w access5) := by
  refine enter (G := G) Tryz.func187 rfl Tryz.ntmps187 rfl ?_
  refine wgx ?_
  refine Ops.e (Eff.buildSlice (cs := access5.flatMap rwC) (e := T5) rfl (by kernel_rfl)) rfl ?_
  rintro _ w1 ⟨rfl, hn⟩
  refine wgx ?_
  exact Fin.ret1 rfl rfl ⟨⟨_, rfl, own_new hn (Nat.le_refl _) (by unfold maxLen; decide) rfl⟩, hn.ext⟩
theorem ref05_end (w : World) : Calls G.P 191 #[] w (Tab5 w end5) := by
  refine enter (G := G) Tryz.func191 rfl Tryz.ntmps191 rfl ?_
  refine wgx ?_
  refine Ops.e (Eff.buildSlice (cs := end5.flatMap rwC) (e := T5) rfl (by kernel_rfl)) rfl ?_
  rintro _ w1 ⟨rfl, hn⟩
  refine wgx ?_
  exact Fin.ret1 rfl rfl ⟨⟨_, rfl, own_new hn (Nat.le_refl _) (by unfold maxLen; decide) rfl⟩, hn.ext⟩
theorem ref05_compares (w : World) : Calls G.P 189 #[] w fun e w' => (∃ v, e = .returned v ∧ w'.ownsRow w.heap.size 9 1 v compares5.length (compares5.map fun l => Value.string ⟨l.toArray⟩)) ∧ Ext w w' := by
  refine enter (G := G) Tryz.func189 rfl Tryz.ntmps189 rfl ?_
  refine wgx ?_
  refine Ops.e (Eff.buildSlice (cs := compares5.map fun l => Value.string ⟨l.toArray⟩) (e := 9) rfl (by kernel_rfl)) rfl ?_
  rintro _ w1 ⟨rfl, hn⟩
  refine wgx ?_
  exact Fin.ret1 rfl rfl ⟨⟨_, rfl, own_new hn (Nat.le_refl _) (by unfold maxLen; decide) rfl⟩, hn.ext⟩
theorem ref05_twos (w : World) : Calls G.P 190 #[] w fun e w' => (∃ v, e = .returned v ∧ w'.ownsRow w.heap.size 9 1 v twos5.length (twos5.map fun l => Value.string ⟨l.toArray⟩)) ∧ Ext w w' := by
  refine enter (G := G) Tryz.func190 rfl Tryz.ntmps190 rfl ?_
  refine wgx ?_
  refine Ops.e (Eff.buildSlice (cs := twos5.map fun l => Value.string ⟨l.toArray⟩) (e := 9) rfl (by kernel_rfl)) rfl ?_
  rintro _ w1 ⟨rfl, hn⟩
  refine wgx ?_
  exact Fin.ret1 rfl rfl ⟨⟨_, rfl, own_new hn (Nat.le_refl _) (by unfold maxLen; decide) rfl⟩, hn.ext⟩
theorem nums5_len (f : Int) (t : List UInt8) (l : List (List UInt8)) : (nums5 f t l).length = l.length := by simp [nums5]
theorem nums5_take {f : Int} {t : List UInt8} {l : List (List UInt8)} {k : Nat} (h : k < l.length) : (nums5 f t l).take (k + 1) = (nums5 f t l).take k ++ [(f + k, t ++ [46] ++ ix l k, 0)] := by
  have hl : k < (nums5 f t l).length := by rw [nums5_len]; exact h
  rw [List.take_succ_eq_append_getElem hl]
  congr 2
  simp only [nums5, List.getElem_map, List.getElem_zipIdx, ix_eq h]
  simp
theorem bapp (a b : List UInt8) : (⟨a.toArray⟩ : ByteArray) ++ ⟨b.toArray⟩ = ⟨(a ++ b).toArray⟩ := by
  apply ByteArray.ext
  simp
def Texts (w : World) (v : Value) (l : List (List UInt8)) : Prop := ∃ p c, v = .slice p l.length c ∧ ∀ i, i < l.length → ∃ b o, p = some ⟨b, o, none⟩ ∧ w.cell? ⟨b, o + i, none⟩ = some (.string ⟨(ix l i).toArray⟩)
theorem texts_own {w : World} {B : Nat} {v : Value} {l : List (List UInt8)} (h : w.ownsRow B 9 1 v l.length (l.map fun l => Value.string ⟨l.toArray⟩)) : Texts w v l := by
  obtain ⟨p, c, rfl, _, _, hg⟩ := own_slice h
  refine ⟨p, c, rfl, fun i hi => ?_⟩
  obtain ⟨g, rfl, _, _⟩ := hg (by omega)
  exact ⟨g, 0, rfl, by rw [Nat.zero_add]; exact own_get h (by rw [List.getElem?_map, ix_some hi]; rfl)⟩
set_option maxHeartbeats 4000000 in
theorem ref05_numbers (f : Int) (t : List UInt8) (l : List (List UInt8)) (v : Value) (w : World) (hv : Texts w v l) (hf : 0 ≤ f ∧ f ≤ 100000) (ht : t.length ≤ 100) (hl : l.length ≤ 100) (hs : ∀ i, i < l.length → (ix l i).length ≤ 100) :
    Calls G.P 188 #[.int .i64 f, .string ⟨t.toArray⟩, v] w (Tab5 w (nums5 f t l)) := by
  obtain ⟨p, c, rfl, hc⟩ := hv
  refine enterH (l := [.int .i64 f, .string ⟨t.toArray⟩, .slice p l.length c]) Tryz.func188 rfl Tryz.ntmps188 rfl (Ok.start w) ?_
  refine CdH.nilO w.heap.size T5 3 ?_
  refine wgh ?_
  refine CdH.loop (σ := Nat × Value) (fun s => [(0, .int .i64 f), (1, .string ⟨t.toArray⟩), (2, .slice p l.length c), (7, s.2), (8, .int .i64 s.1)]) (fun s => [.own w.heap.size T5 3 s.2 s.1 (((nums5 f t l).take s.1).flatMap rwC)]) (fun _ => [Ext w]) (fun s => s.1 ≤ l.length) (fun s => l.length - s.1) (0, .slice none 0 0) wsub wsl wsr (by dsimp only; omega) ?_
  rintro ⟨i, v⟩ hi
  dsimp only at hi ⊢
  by_cases hlt : i < l.length
  · obtain ⟨b, o, rfl, c1⟩ := hc i hlt
    have hsi := hs i hlt
    have z1 : (⟨t.toArray⟩ : ByteArray).size = t.length := rfl
    have z2 : (⟨#[46]⟩ : ByteArray).size = 1 := rfl
    have z3 : (⟨(ix l i).toArray⟩ : ByteArray).size = (ix l i).length := rfl
    have z4 : ((⟨t.toArray⟩ : ByteArray) ++ ⟨#[46]⟩).size = t.length + 1 := by rw [ByteArray.size_append, z1, z2]
    refine wgh ?_
    refine OpsH.he (HE.bsl rfl rfl rfl rfl rfl wcel (by rfl) (by rfl)) rfl ?_
    intro b2 _
    refine OpsH.he (HE.app rfl rfl (fun _ => wup) wup rfl rfl rfl (by rfl) (by rfl) (by rfl) (by rfl) (by rfl) (by rfl) (by omega) szR) rfl ?_
    intro v2 _
    refine wgh ?_
    refine FinH.next (i + 1, v2) wsub (.cons _ (sub_own rfl rfl ?_ (List.nil_sublist _))) wsr (by dsimp only; omega) (by dsimp only; omega)
    rw [nums5_take hlt, List.flatMap_append, show (⟨t.toArray⟩ : ByteArray) ++ ⟨#[46]⟩ = ⟨(t ++ [46]).toArray⟩ from bapp t [46], bapp]
    rfl
  · obtain rfl : i = l.length := by omega
    refine wgh ?_
    refine FinH.ret1 rfl rfl fun w' hw' => ?_
    have h1 : w'.ownsRow w.heap.size T5 3 v l.length (((nums5 f t l).take l.length).flatMap rwC) := (hw'.m _ (List.mem_singleton.2 rfl)).1
    refine ⟨⟨v, rfl, ?_⟩, hw'.get wmem⟩
    rw [← nums5_len f t l, List.take_length] at h1; exact h1
theorem texts_of {w : World} {B : Nat} {v : Value} (l : List (List UInt8)) {n : Nat} {xs : List Value} (h : w.ownsRow B 9 1 v n xs) (hn : n = l.length) (hx : xs = l.map fun l => Value.string ⟨l.toArray⟩) : Texts w v l := by
  subst hn; subst hx; exact texts_own h
set_option maxHeartbeats 8000000 in
theorem ref05_rows (w : World) : Calls G.P 169 #[] w (Tab5 w r05) := by
  refine enterH (l := []) Tryz.func169 rfl Tryz.ntmps169 rfl (Ok.start w) ?_
  refine wgh ?_
  refine OpsH.he (HE.callO (B := w.heap.size) rfl rfl szR (fun w' _ => ref05_control w')) rfl ?_
  intro v1 _
  refine OpsH.he (HE.callO (B := w.heap.size) rfl rfl szR (fun w' _ => ref05_access w')) rfl ?_
  intro v2 _
  refine OpsH.he (HE.appOwn rfl rfl (fun _ => wup) wup rfl rfl rfl (by rfl) (by rfl) (by rfl) (by rfl) rwC_one (by decide) szR) rfl ?_
  intro v3 _
  refine wgh ?_
  refine OpsH.he (HE.callO (B := w.heap.size) rfl rfl szR (fun w' _ => ref05_compares w')) rfl ?_
  intro s1 _
  refine OpsH.he (HE.callO (B := w.heap.size) rfl rfl szR (fun w' hw' => ref05_numbers 69 [105, 51, 50] compares5 s1 w' (texts_own hw'.own) (by omega) (by decide) (by decide) (by decide))) rfl ?_
  intro v4 _
  refine OpsH.he (HE.appOwn rfl rfl (fun _ => wup) wup rfl rfl rfl (by rfl) (by rfl) (by rfl) (by rfl) rwC_one (by decide) szR) rfl ?_
  intro v5 _
  refine wgh ?_
  refine OpsH.he (HE.callO (B := w.heap.size) rfl rfl szR (fun w' _ => ref05_compares w')) rfl ?_
  intro s2 _
  refine OpsH.he (HE.callO (B := w.heap.size) rfl rfl szR (fun w' hw' => ref05_numbers 80 [105, 54, 52] compares5 s2 w' (texts_own hw'.own) (by omega) (by decide) (by decide) (by decide))) rfl ?_
  intro v6 _
  refine OpsH.he (HE.appOwn rfl rfl (fun _ => wup) wup rfl rfl rfl (by rfl) (by rfl) (by rfl) (by rfl) rwC_one (by decide) szR) rfl ?_
  intro v7 _
  refine wgh ?_
  refine OpsH.he (HE.callO (B := w.heap.size) rfl rfl szR (fun w' _ => ref05_twos w')) rfl ?_
  intro s3 _
  refine OpsH.he (HE.callO (B := w.heap.size) rfl rfl szR (fun w' hw' => ref05_numbers 103 [105, 51, 50] twos5 s3 w' (texts_own hw'.own) (by omega) (by decide) (by decide) (by decide))) rfl ?_
  intro v8 _
  refine OpsH.he (HE.appOwn rfl rfl (fun _ => wup) wup rfl rfl rfl (by rfl) (by rfl) (by rfl) (by rfl) rwC_one (by decide) szR) rfl ?_
  intro v9 _
  refine wgh ?_
  refine OpsH.he (HE.callO (B := w.heap.size) rfl rfl szR (fun w' _ => ref05_twos w')) rfl ?_
  intro s4 _
  refine OpsH.he (HE.callO (B := w.heap.size) rfl rfl szR (fun w' hw' => ref05_numbers 121 [105, 54, 52] twos5 s4 w' (texts_own hw'.own) (by omega) (by decide) (by decide) (by decide))) rfl ?_
  intro v10 _
  refine OpsH.he (HE.appOwn rfl rfl (fun _ => wup) wup rfl rfl rfl (by rfl) (by rfl) (by rfl) (by rfl) rwC_one (by decide) szR) rfl ?_
  intro v11 _
  refine wgh ?_
  refine OpsH.he (HE.bsl rfl rfl rfl rfl rfl wcel (by rfl) (by rfl)) rfl ?_
  intro b1 _
  refine OpsH.toOwn (b := b1) (len := 3) 3 wup rfl (by unfold maxLen; decide) ?_
  refine OpsH.he (HE.appOwn rfl rfl (fun _ => wup) wup rfl rfl rfl (by rfl) (by rfl) (by rfl) (by rfl) (by decide) (by decide) szR) rfl ?_
  intro v12 _
  refine wgh ?_
  refine OpsH.he (HE.bsl rfl rfl rfl rfl rfl wcel (by rfl) (by rfl)) rfl ?_
  intro b2 _
  refine OpsH.toOwn (b := b2) (len := 2) 1 wup rfl (by unfold maxLen; decide) ?_
  refine OpsH.he (HE.callO (B := w.heap.size) rfl rfl szR (fun w' hw' => ref05_numbers 192 [105, 51, 50] ext2 _ w' (texts_of ext2 hw'.own (by rfl) (by rfl)) (by omega) (by decide) (by decide) (by decide))) rfl ?_
  intro v13 _
  refine OpsH.he (HE.appOwn rfl rfl (fun _ => wup) wup rfl rfl rfl (by rfl) (by rfl) (by rfl) (by rfl) rwC_one (by decide) szR) rfl ?_
  intro v14 _
  refine wgh ?_
  refine OpsH.he (HE.bsl rfl rfl rfl rfl rfl wcel (by rfl) (by rfl)) rfl ?_
  intro b3 _
  refine OpsH.toOwn (b := b3) (len := 3) 1 wup rfl (by unfold maxLen; decide) ?_
  refine OpsH.he (HE.callO (B := w.heap.size) rfl rfl szR (fun w' hw' => ref05_numbers 194 [105, 54, 52] ext3 _ w' (texts_of ext3 hw'.own (by rfl) (by rfl)) (by omega) (by decide) (by decide) (by decide))) rfl ?_
  intro v15 _
  refine OpsH.he (HE.appOwn rfl rfl (fun _ => wup) wup rfl rfl rfl (by rfl) (by rfl) (by rfl) (by rfl) rwC_one (by decide) szR) rfl ?_
  intro v16 _
  refine wgh ?_
  refine OpsH.he (HE.callO (B := w.heap.size) rfl rfl szR (fun w' _ => ref05_end w')) rfl ?_
  intro v17 _
  refine OpsH.he (HE.appOwn rfl rfl (fun _ => wup) wup rfl rfl rfl (by rfl) (by rfl) (by rfl) (by rfl) rwC_one (by decide) szR) rfl ?_
  intro v18 _
  refine wgh ?_
  refine FinH.ret1 rfl rfl fun w' hw' => ⟨⟨v18, rfl, ?_⟩, hw'.at⟩
  have h1 := (hw'.m (.own w.heap.size T5 3 v18 ((((((((((control5.length + access5.length) + (nums5 69 [105, 51, 50] compares5).length) + (nums5 80 [105, 54, 52] compares5).length) + (nums5 103 [105, 51, 50] twos5).length) + (nums5 121 [105, 54, 52] twos5).length) + 3) + (nums5 192 [105, 51, 50] ext2).length) + (nums5 194 [105, 54, 52] ext3).length) + end5.length)) _) wmm).1
  have e : r05.flatMap rwC = (((((((((control5.flatMap rwC ++ access5.flatMap rwC) ++ (nums5 69 [105, 51, 50] compares5).flatMap rwC) ++ (nums5 80 [105, 54, 52] compares5).flatMap rwC) ++ (nums5 103 [105, 51, 50] twos5).flatMap rwC) ++ (nums5 121 [105, 54, 52] twos5).flatMap rwC) ++ mid5.flatMap rwC) ++ (nums5 192 [105, 51, 50] ext2).flatMap rwC) ++ (nums5 194 [105, 54, 52] ext3).flatMap rwC) ++ end5.flatMap rwC) := by
    unfold r05; simp only [List.flatMap_append]
  rw [e]
  exact h1
def find5 (op : Int) : Option Row5 := r05.find? fun r => decide (r.1 = op)
def row5 (op : Int) : Row5 := (find5 op).getD (0, [], 0)
theorem rwC_get : ∀ (xs : List Row5) (i j : Nat), i < xs.length → j < 3 → (xs.flatMap rwC)[i * 3 + j]? = (rwC (ix xs i))[j]?
  | [], i, _, h, _ => by simp at h
  | a :: r, 0, j, _, hj => by
    rw [List.flatMap_cons, List.getElem?_append_left (by simp [rwC]; omega)]
    simp [ix]
  | a :: r, i + 1, j, h, hj => by
    rw [List.flatMap_cons, List.getElem?_append_right (by simp [rwC]; omega)]
    have e : (i + 1) * 3 + j - (rwC a).length = i * 3 + j := by simp [rwC]; omega
    rw [e, rwC_get r i j (by simpa using h) hj]
    simp [ix]
def Tb5 (g : Nat) : World → Prop := fun w => ∀ i, i < r05.length → ∀ j, j < 3 → w.cell? ⟨g, 0 + i * 3 + j, none⟩ = (rwC (ix r05 i))[j]?
theorem tb5_own {w : World} {B g cap : Nat} (h : w.ownsRow B T5 3 (.slice (some ⟨g, 0, none⟩) r05.length cap) r05.length (r05.flatMap rwC)) : Tb5 g w := fun i hi j hj => by
  rw [← rwC_get r05 i j hi hj]
  have hs : ∃ u, (r05.flatMap rwC)[i * 3 + j]? = some u := ⟨_, List.getElem?_eq_getElem (by rw [rwC_len]; omega)⟩
  obtain ⟨u, hu⟩ := hs
  rw [hu, Nat.zero_add]
  exact own_get h hu
theorem r05_len : r05.length = 125 := by decide +kernel
theorem find5_at {op : Int} {i : Nat} (hi : i < r05.length) (h : ∀ j, j < i → (ix r05 j).1 ≠ op) (e : (ix r05 i).1 = op) : find5 op = some (ix r05 i) := by
  unfold find5
  rw [List.find?_eq_some_iff_getElem]
  refine ⟨by simpa using e, i, hi, (ix_eq hi).symm, fun j hj => ?_⟩
  have := h j hj
  rw [ix_eq (by omega)] at this
  simpa using this
theorem find5_none {op : Int} (h : ∀ j, j < r05.length → (ix r05 j).1 ≠ op) : find5 op = none := by
  unfold find5
  rw [List.find?_eq_none]
  intro x hx
  obtain ⟨j, hj, e⟩ := List.getElem_of_mem hx
  have := h j hj
  rw [ix_eq hj, e] at this
  simpa using this
def findV (op : Int) : Value := .tuple #[.agg #[.int .i64 (row5 op).1, .string ⟨(row5 op).2.1.toArray⟩, .int .i64 (row5 op).2.2], .bool (find5 op).isSome]
set_option maxHeartbeats 8000000 in
theorem ref05_find (op : Int) (w : World) : Calls G.P 144 #[.int .i64 op] w fun e w' => e = .returned (findV op) ∧ Ext w w' := by
  refine enterH (l := [.int .i64 op]) Tryz.func144 rfl Tryz.ntmps144 rfl (Ok.start w) ?_
  refine wgh ?_
  refine OpsH.alloc [.int .i64 0, .string ⟨#[]⟩, .int .i64 0] rfl rfl rfl fun b => ?_
  refine wgh ?_
  refine OpsH.he (HE.callO (B := w.heap.size) rfl rfl szR (fun w' _ => ref05_rows w')) rfl ?_
  intro v1 _
  refine OpsH.pure (φ := ∃ g cap, v1 = .slice (some ⟨g, 0, none⟩) r05.length cap) (fun w' hw' => ?_) ?_
  · obtain ⟨p, c, rfl, _, _, hg⟩ := own_slice (hw'.own (v := v1))
    obtain ⟨g, rfl, _⟩ := hg (by rw [r05_len]; omega)
    exact ⟨g, c, rfl⟩
  rintro ⟨g, cap, rfl⟩
  refine OpsH.freeze (Tb5 g) wrm (fun w' hq _ => tb5_own hq) ?_
  have hlen := r05_len
  generalize hn : r05.length = n at *
  refine wgh ?_
  refine CdH.loop (σ := Nat) (fun i => [(0, .int .i64 op), (2, .pointer (some ⟨b, 0, none⟩)), (4, .slice (some ⟨g, 0, none⟩) n cap), (5, .int .i64 i)]) (fun _ => [.blk b [.int .i64 0, .string ⟨#[]⟩, .int .i64 0] T5]) (fun _ => [Tb5 g, Ext w]) (fun i => i ≤ n ∧ ∀ j, j < i → (ix r05 j).1 ≠ op) (fun i => n - i) 0 wsub wsl wsr ⟨by omega, fun j hj => by omega⟩ ?_
  rintro i ⟨hi, hall⟩
  by_cases hlt : i < n
  · have hlt' : i < r05.length := by omega
    refine CdH.der (Cs g (0 + i * 3) [.int .i64 (ix r05 i).1, .string ⟨(ix r05 i).2.1.toArray⟩, .int .i64 (ix r05 i).2.2]) (fun w' hw' j hj => (all_at hw' : Tb5 g w') i hlt' j hj) ?_
    by_cases he : (ix r05 i).1 = op
    · have hf := find5_at hlt' hall he
      refine wgh ?_
      refine FinH.ret2c (cs := [.int .i64 (ix r05 i).1, .string ⟨(ix r05 i).2.1.toArray⟩, .int .i64 (ix r05 i).2.2]) (.inl rfl) rfl rfl rfl rfl rfl wup rfl rfl fun w' hw' => ⟨?_, hw'.at⟩
      unfold findV row5; rw [hf]; rfl
    · refine wgh ?_
      refine FinH.next (i + 1) wsub wsl wsr ⟨by omega, fun j hj => ?_⟩ (by omega)
      by_cases e : j = i
      · subst e; exact he
      · exact hall j (by omega)
  · obtain rfl : i = n := by omega
    have hf := find5_none (op := op) (by rw [hn]; exact hall)
    refine wgh ?_
    refine FinH.ret2c (.inl rfl) rfl rfl rfl rfl rfl wup rfl rfl fun w' hw' => ⟨?_, hw'.at⟩
    unfold findV row5; rw [hf]; rfl
theorem ref05_Known (op : Int) (w : World) : Calls G.P 87 #[.int .i64 op] w fun e w' => e = .returned (.bool (find5 op).isSome) ∧ Ext w w' := by
  refine enterH (l := [.int .i64 op]) Tryz.func87 rfl Tryz.ntmps87 rfl (Ok.start w) ?_
  refine wgh ?_
  refine OpsH.call1 rfl rfl rfl (fun w' _ => ref05_find op w') ?_
  refine wgh ?_
  refine OpsH.alloc [.int .i64 0, .string ⟨#[]⟩, .int .i64 0] rfl rfl rfl fun b => ?_
  refine wgh ?_
  exact FinH.ret1 rfl rfl fun w' hw' => ⟨rfl, hw'.at⟩
theorem ref05_Name (op : Int) (w : World) : Calls G.P 177 #[.int .i64 op] w fun e w' => e = .returned (.string ⟨(row5 op).2.1.toArray⟩) ∧ Ext w w' := by
  refine enterH (l := [.int .i64 op]) Tryz.func177 rfl Tryz.ntmps177 rfl (Ok.start w) ?_
  refine wgh ?_
  refine OpsH.call1 rfl rfl rfl (fun w' _ => ref05_find op w') ?_
  refine wgh ?_
  refine OpsH.alloc [.int .i64 0, .string ⟨#[]⟩, .int .i64 0] rfl rfl rfl fun b => ?_
  refine wgh ?_
  exact FinH.ret1 rfl rfl fun w' hw' => ⟨rfl, hw'.at⟩
theorem ref05_Of (op : Int) (w : World) : Calls G.P 86 #[.int .i64 op] w fun e w' => e = .returned (.int .i64 (row5 op).2.2) ∧ Ext w w' := by
  refine enterH (l := [.int .i64 op]) Tryz.func86 rfl Tryz.ntmps86 rfl (Ok.start w) ?_
  refine wgh ?_
  refine OpsH.call1 rfl rfl rfl (fun w' _ => ref05_find op w') ?_
  refine wgh ?_
  refine OpsH.alloc [.int .i64 0, .string ⟨#[]⟩, .int .i64 0] rfl rfl rfl fun b => ?_
  refine wgh ?_
  exact FinH.ret1 rfl rfl fun w' hw' => ⟨rfl, hw'.at⟩
def at5 (s p : List UInt8) (i : Nat) : Bool := (s.drop i).take p.length == p
def within5 (s p : List UInt8) : Bool := (List.range (s.length + 1)).any fun i => decide (i + p.length ≤ s.length) && at5 s p i
theorem within5_T {s p : List UInt8} {i : Nat} (h : i + p.length ≤ s.length) (e : at5 s p i = true) : within5 s p = true := by
  unfold within5; rw [List.any_eq_true]; exact ⟨i, by simp; omega, by simp [h, e]⟩
theorem within5_F {s p : List UInt8} {i : Nat} (h : s.length < i + p.length) (hall : ∀ j, j < i → at5 s p j = false) : within5 s p = false := by
  unfold within5; rw [List.any_eq_false]
  intro j _
  by_cases hj : j < i
  · simp [hall j hj]
  · simp; omega
set_option maxHeartbeats 8000000 in
theorem ref05_within (s p : List UInt8) (w : World) (hs : s.length ≤ 1000) (hp : p.length ≤ 1000) : Calls G.P 179 #[.string ⟨s.toArray⟩, .string ⟨p.toArray⟩] w fun e w' => e = .returned (.bool (within5 s p)) ∧ Ext w w' := by
  refine enterH (l := [.string ⟨s.toArray⟩, .string ⟨p.toArray⟩]) Tryz.func179 rfl Tryz.ntmps179 rfl (Ok.start w) ?_
  have z1 : (⟨s.toArray⟩ : ByteArray).size = s.length := rfl
  have z2 : (⟨p.toArray⟩ : ByteArray).size = p.length := rfl
  refine wgh ?_
  refine CdH.loop (σ := Nat) (fun i => [(0, .string ⟨s.toArray⟩), (1, .string ⟨p.toArray⟩), (5, .int .i64 i)]) (fun _ => []) (fun _ => [Ext w]) (fun i => i ≤ s.length + 1 ∧ ∀ j, j < i → at5 s p j = false) (fun i => s.length + 1 - i) 0 wsub wsl wsr ⟨by omega, fun j hj => by omega⟩ ?_
  rintro i ⟨hi, hall⟩
  by_cases hlt : i + p.length ≤ s.length
  · refine wgh ?_
    have e : ((ByteArray.mk s.toArray).extract i (i + (⟨p.toArray⟩ : ByteArray).size)).data.toList = (s.drop i).take p.length := by
      show by_ _ = _
      rw [by_extract, List.drop_take, z2]
      have : i + p.length - i = p.length := by omega
      rw [this]
    refine CdH.condB (b := at5 s p i) (by unfold at5; rw [← e]; rfl) (fun h => ?_) (fun h => ?_)
    · refine wgh ?_
      exact FinH.ret1 rfl rfl fun w' hw' => ⟨by rw [within5_T hlt h], hw'.at⟩
    · refine wgh ?_
      refine FinH.next (i + 1) wsub wsl wsr ⟨by omega, fun j hj => ?_⟩ (by omega)
      by_cases e : j = i
      · subst e; exact h
      · exact hall j (by omega)
  · refine wgh ?_
    exact FinH.ret1 rfl rfl fun w' hw' => ⟨by rw [within5_F (by omega) hall], hw'.at⟩
def has5 (s : List UInt8) (d e : List UInt8) : Bool := within5 s d || within5 s e
def width5 (op : Int) : Int :=
  if (row5 op).2.2 ≠ 17 then 0 else
  let s := (row5 op).2.1
  if has5 s [100, 56] [101, 56] = true then 1 else if has5 s [100, 49, 54] [101, 49, 54] = true then 2 else if has5 s [100, 51, 50] [101, 51, 50] = true then 4 else if ((s.drop 1).take 2 == [51, 50]) = true then 4 else 8
theorem r05_small : (r05.all fun r => decide (r.2.1.length ≤ 100) && (decide (r.2.2 ≠ 17) || decide (3 ≤ r.2.1.length))) = true := by decide +kernel
theorem row5_small (op : Int) : (row5 op).2.1.length ≤ 100 ∧ ((row5 op).2.2 = 17 → 3 ≤ (row5 op).2.1.length) := by
  unfold row5
  cases h : find5 op with
  | none => simp
  | some r =>
    have := List.all_eq_true.1 r05_small r (List.mem_of_find?_eq_some h)
    simp only [Bool.and_eq_true, Bool.or_eq_true, decide_eq_true_eq] at this
    exact ⟨this.1, fun e => this.2.resolve_left (fun h => h e)⟩
set_option maxHeartbeats 8000000 in
theorem ref05_Width (op : Int) (w : World) : Calls G.P 175 #[.int .i64 op] w fun e w' => e = .returned (.int .i64 (width5 op)) ∧ Ext w w' := by
  obtain ⟨q1, q2⟩ := row5_small op
  have hw5 : width5 op = width5 op := rfl
  conv at hw5 => rhs; unfold width5
  refine enterH (l := [.int .i64 op]) Tryz.func175 rfl Tryz.ntmps175 rfl (Ok.start w) ?_
  refine wgh ?_
  refine OpsH.call1 rfl rfl rfl (fun w' _ => ref05_Name op w') ?_
  refine wgh ?_
  refine OpsH.call1 rfl rfl rfl (fun w' _ => ref05_Of op w') ?_
  by_cases h17 : (row5 op).2.2 = 17
  · rw [if_neg (by simp [h17])] at hw5
    have q3 := q2 h17
    dsimp only at hw5
    generalize (row5 op).2.1 = s at *
    have z1 : (⟨s.toArray⟩ : ByteArray).size = s.length := rfl
    refine wgh ?_
    refine OpsH.call1 (v := .bool (within5 s [100, 56])) rfl rfl rfl (fun w' _ => ref05_within s [100, 56] w' (by omega) (by decide)) ?_
    cases a0 : within5 s [100, 56] with
    | true =>
      refine wgh ?_
      refine FinH.ret1 rfl rfl fun w' hw' => ⟨?_, hw'.at⟩
      rw [hw5]; simp [has5, a0]
    | false =>
      refine wgh ?_
      refine OpsH.call1g (v := .bool (within5 s [101, 56])) rfl rfl rfl rfl (fun w' _ => ref05_within s [101, 56] w' (by omega) (by decide)) ?_
      cases b0 : within5 s [101, 56] with
      | true =>
        refine wgh ?_
        refine FinH.ret1 rfl rfl fun w' hw' => ⟨?_, hw'.at⟩
        rw [hw5]; simp [has5, a0, b0]
      | false =>
        refine wgh ?_
        refine OpsH.call1 (v := .bool (within5 s [100, 49, 54])) rfl rfl rfl (fun w' _ => ref05_within s [100, 49, 54] w' (by omega) (by decide)) ?_
        cases a1 : within5 s [100, 49, 54] with
        | true =>
          refine wgh ?_
          refine FinH.ret1 rfl rfl fun w' hw' => ⟨?_, hw'.at⟩
          rw [hw5]; simp [has5, a0, b0, a1]
        | false =>
          refine wgh ?_
          refine OpsH.call1g (v := .bool (within5 s [101, 49, 54])) rfl rfl rfl rfl (fun w' _ => ref05_within s [101, 49, 54] w' (by omega) (by decide)) ?_
          cases b1 : within5 s [101, 49, 54] with
          | true =>
            refine wgh ?_
            refine FinH.ret1 rfl rfl fun w' hw' => ⟨?_, hw'.at⟩
            rw [hw5]; simp [has5, a0, b0, a1, b1]
          | false =>
            refine wgh ?_
            refine OpsH.call1 (v := .bool (within5 s [100, 51, 50])) rfl rfl rfl (fun w' _ => ref05_within s [100, 51, 50] w' (by omega) (by decide)) ?_
            cases a2 : within5 s [100, 51, 50] with
            | true =>
              refine wgh ?_
              refine FinH.ret1 rfl rfl fun w' hw' => ⟨?_, hw'.at⟩
              rw [hw5]; simp [has5, a0, b0, a1, b1, a2]
            | false =>
              refine wgh ?_
              refine OpsH.call1g (v := .bool (within5 s [101, 51, 50])) rfl rfl rfl rfl (fun w' _ => ref05_within s [101, 51, 50] w' (by omega) (by decide)) ?_
              cases b2 : within5 s [101, 51, 50] with
              | true =>
                refine wgh ?_
                refine FinH.ret1 rfl rfl fun w' hw' => ⟨?_, hw'.at⟩
                rw [hw5]; simp [has5, a0, b0, a1, b1, a2, b2]
              | false =>
                refine wgh ?_
                refine OpsH.y_ (Yl.sliceSLH (i := 1) (j := 3) Tryz.underlying9 rfl rfl rfl rfl rfl (by omega) (by omega)) rfl ?_
                have e : ((ByteArray.mk s.toArray).extract 1 3).data.toList = (s.drop 1).take 2 := by
                  show by_ _ = _
                  rw [by_extract, List.drop_take]
                refine wgh ?_
                refine CdH.condB (b := ((s.drop 1).take 2 == [51, 50])) (by rw [← e]; rfl) (fun h => ?_) (fun h => ?_)
                · refine wgh ?_
                  refine FinH.ret1 rfl rfl fun w' hw' => ⟨?_, hw'.at⟩
                  rw [hw5]; simp only [has5, a0, b0, a1, b1, a2, b2, h, Bool.or_false, Bool.false_eq_true, if_false, if_true]
                · refine wgh ?_
                  refine FinH.ret1 rfl rfl fun w' hw' => ⟨?_, hw'.at⟩
                  rw [hw5]; simp only [has5, a0, b0, a1, b1, a2, b2, h, Bool.or_false, Bool.false_eq_true, if_false]
  · rw [if_pos h17] at hw5
    refine wgh ?_
    exact FinH.ret1 rfl rfl fun w' hw' => ⟨by rw [hw5], hw'.at⟩
theorem tables : opX = r05.map fun r => (r.1, ⟨r.2.1.toArray⟩) := by decide +kernel
theorem findO_map (op : Int) : ∀ l : List Row5, findO op (l.map fun r => (r.1, ⟨r.2.1.toArray⟩)) = (l.find? fun r => decide (r.1 = op)).map fun r => ⟨r.2.1.toArray⟩
  | [] => rfl
  | a :: r => by
    rw [List.map_cons, findO, List.find?_cons]
    by_cases h : a.1 = op
    · simp [h]
    · simp [h, findO_map op r]
theorem findO_5 (op : Int) : findO op opX = (find5 op).map fun r => ⟨r.2.1.toArray⟩ := by rw [tables, findO_map]; rfl
theorem nameO_5 (op : Int) : by_ (nameO op) = (row5 op).2.1 := by
  unfold nameO row5; rw [findO_5]
  cases find5 op <;> rfl
theorem known_tab : (r05.all fun r => !(r.2.1 == [])) = true := by decide +kernel
theorem knownO_5 (op : Int) : knownO op = (find5 op).isSome := by
  unfold knownO; rw [nameO_5]; unfold row5
  cases h : find5 op with
  | none => rfl
  | some r =>
    have := List.all_eq_true.1 known_tab r (List.mem_of_find?_eq_some h)
    simpa using this
theorem width_tab : (r05.all fun r => width5 r.1 == widthO r.1) = true := by decide +kernel
theorem widthO_5 (op : Int) : widthO op = width5 op := by
  cases h : find5 op with
  | none =>
    have h1 := knownO_5 op
    rw [h] at h1
    have h2 : accessO op = false := by unfold accessO; rw [h1]; simp
    unfold widthO width5 row5
    rw [h2, h]; rfl
  | some r =>
    have := List.all_eq_true.1 width_tab r (List.mem_of_find?_eq_some h)
    have e : r.1 = op := by have := List.find?_some h; simpa using this
    rw [e] at this
    exact (beq_iff_eq.1 this).symm
structure Cen where
  funcs : Int
  instrs : Int
  blocks : Int
  loops : Int
  calls : Int
  loads : Int
  stores : Int
  consts : Int
  deriving Inhabited, DecidableEq
def b01 (b : Bool) : Int := if b then 1 else 0
theorem Blk.all {w : World} {b : Nat} {cs : List Value} {T : TypeId} (h : Blk w b cs T) {n : Nat} (hn : cs.length = n) : ∀ w', w' = w → ∀ j, j < n → w'.cell? ⟨b, 0 + j, none⟩ = cs[j]? := by
  rintro _ rfl j hj
  rw [Nat.zero_add, List.getElem?_eq_getElem (by omega)]
  exact h.cell (List.getElem?_eq_getElem (by omega))
theorem SlR.el {α : Type} [Inhabited α] {s N : Nat} {R : ElR α} {F : Nat → Prop} {w : World} {p : Option Addr} {n cap : Nat} {xs : List α} (h : SlR s N R F w (.slice p n cap) xs) {i : Nat} (hi : i < xs.length) : ∃ b off, p = some ⟨b, off, none⟩ ∧ F b ∧ R F w b (off + i * s) (ix xs i) := by
  obtain ⟨b, off, e, hF, hall⟩ := h.at hi
  exact ⟨b, off, e, hF, hall i hi⟩
def impC (l : List ApiImport) (k : Int) (n : Nat) : Nat := ((l.take n).filter fun x => decide (x.kind = k)).length
def impN (m : ApiModule) (k : Int) : Nat := impC m.imports k m.imports.length
theorem impC_succ {l : List ApiImport} {k : Int} {n : Nat} (h : n < l.length) : impC l k (n + 1) = impC l k n + if (ix l n).kind = k then 1 else 0 := by
  unfold impC
  rw [take_succ_ix h, List.filter_append, List.length_append]
  by_cases e : (ix l n).kind = k <;> simp [e]
theorem impC_le (l : List ApiImport) (k : Int) (n : Nat) : impC l k n ≤ n := by
  unfold impC
  exact Nat.le_trans (List.length_filter_le _ _) (by rw [List.length_take]; omega)
abbrev TMod : Nat := 33
set_option maxHeartbeats 8000000 in
theorem ref08_Imported (F : Nat → Prop) (m : ApiModule) (k : Int) (cs : List Value) (w : World) (hm : ApiModuleV F w cs m) :
    Calls G.P 192 #[.agg cs.toArray, .int .i64 k] w fun e w' => e = .returned (.int .i64 (impN m k)) ∧ Ext w w' := by
  obtain ⟨v0, v1, v2, v3, v4, v5, v6, v7, v8, v9, rfl, r0, r1, r2, r3, r4, r5, r6, r7, r8, r9, g0⟩ := hm
  obtain ⟨p1, c1, rfl, l1⟩ := r1.slice
  refine enterH (l := [.agg ([v0, .slice p1 m.imports.length c1, v2, v3, v4, v5, v6, .bool m.hasStart, .int .i64 m.start, v7, v8, v9]).toArray, .int .i64 k]) Tryz.func192 rfl Tryz.ntmps192 rfl (Ok.start w) ?_
  refine wgh ?_
  refine OpsH.box [v0, .slice p1 m.imports.length c1, v2, v3, v4, v5, v6, .bool m.hasStart, .int .i64 m.start, v7, v8, v9] rfl rfl rfl fun b => ?_
  refine wgh ?_
  refine CdH.loop (σ := Nat) (fun i => [(1, .int .i64 k), (2, .pointer (some ⟨b, 0, none⟩)), (5, .int .i64 (impC m.imports k i)), (6, .int .i64 i)]) (fun _ => [.blk b [v0, .slice p1 m.imports.length c1, v2, v3, v4, v5, v6, .bool m.hasStart, .int .i64 m.start, v7, v8, v9] TMod]) (fun _ => [Ext w]) (fun i => i ≤ m.imports.length) (fun i => m.imports.length - i) 0 wsub wsl wsr (by omega) ?_
  intro i hi
  by_cases hlt : i < m.imports.length
  · obtain ⟨b1, o1, rfl, hF, he⟩ := r1.el hlt
    have c := he.kind
    have hs := impC_succ (k := k) hlt
    have hle := impC_le m.imports k i
    by_cases hk : (ix m.imports i).kind = k
    · rw [if_pos hk] at hs
      refine wgh ?_
      exact FinH.next (i + 1) wsub wsl wsr (by omega) (by omega)
    · rw [if_neg hk] at hs
      refine wgh ?_
      exact FinH.next (i + 1) wsub wsl wsr (by omega) (by omega)
  · obtain rfl : i = m.imports.length := by omega
    refine wgh ?_
    exact FinH.ret1 rfl rfl fun w' hw' => ⟨rfl, hw'.at⟩
structure BL (w : World) (ls : List Value) (bs : List (List Ins)) : Prop where
  len : ls.length = bs.length
  rd : ∀ i, i < bs.length → Body w (ix ls i) (ix bs i)
theorem ix_app_l {α : Type} [Inhabited α] {a b : List α} {i : Nat} (h : i < a.length) : ix (a ++ b) i = ix a i := by simp [ix, List.getElem?_append_left h]
theorem ix_app_r {α : Type} [Inhabited α] {a b : List α} {i : Nat} (h : a.length ≤ i) : ix (a ++ b) i = ix b (i - a.length) := by simp [ix, List.getElem?_append_right h]
theorem BL.nil (w : World) : BL w [] [] := ⟨rfl, fun i h => by simp at h⟩
theorem BL.app {w : World} {ls ls' : List Value} {bs bs' : List (List Ins)} (h : BL w ls bs) (h' : BL w ls' bs') : BL w (ls ++ ls') (bs ++ bs') := by
  refine ⟨by simp [h.len, h'.len], fun i hi => ?_⟩
  by_cases hlt : i < bs.length
  · rw [ix_app_l (a := bs) hlt, ix_app_l (a := ls) (by rw [h.len]; exact hlt)]; exact h.rd i hlt
  · rw [ix_app_r (a := bs) (by omega), ix_app_r (a := ls) (by rw [h.len]; omega), h.len]
    exact h'.rd _ (by simp at hi; omega)
theorem BL.one {w : World} {v : Value} {x : List Ins} (h : Body w v x) : BL w [v] [x] := ⟨rfl, fun i hi => by
  obtain rfl : i = 0 := by simpa using hi
  exact h⟩
def BoolTells (P : Prop) (w : World) (e : Ending) (w' : World) : Prop := (∃ b : Bool, e = .returned (.bool b) ∧ (b = true → P)) ∧ Ext w w'
def LensP (m : ApiModule) : Prop := m.types.length ≤ 100 ∧ m.imports.length ≤ 100 ∧ m.funcs.length ≤ 100 ∧ m.tables.length ≤ 100 ∧ m.mems.length ≤ 100 ∧ m.globals.length ≤ 100 ∧ m.exports.length ≤ 100 ∧ m.elems.length ≤ 100 ∧ m.datas.length ≤ 100
section
variable {n : Nat} {E : Env} {M : List Res} {R : List (World → Prop)}
theorem HE.callB {f : Nat} {args : List Operand} {tys : Array TypeId} {vs : List Value} {P : Prop} (hf : G.fb[f]? = some true) (ha : evs E args = some vs) (hc : ∀ w, Ok M R w → Calls G.P f vs.toArray w (BoolTells P w)) :
    HE n (.call ⟨.value (.func f), args.toArray, tys⟩) E M R (fun b : Bool => b = true → P) (fun b => .bool b) (fun _ => M) (fun _ => R) :=
  HE.call (fun b : Bool => .bool b) hf ha fun w hw => (hc w hw).mono fun _e _w' ⟨⟨b, e1, h1⟩, hx⟩ => ⟨b, e1, h1, hw.ext hx⟩
end
end Go.Proofs.YtgbgnipidakdhaaGreatDoor
