/- Plain laws: what the index spaces hold; the reference's way through the imports. -/
import Derived.Test.YtgbgnipidakdhaaGreatDoorJSr
import Derived.Test.YtgbgnipidakdhaaGreatDoorJH7
import Derived.Test.YtgbgnipidakdhaaGreatDoorJAu
import Derived.Test.YtgbgnipidakdhaaGreatDoorJAw
import Derived.Test.YtgbgnipidakdhaaGreatDoorJH5
namespace Go.Proofs.YtgbgnipidakdhaaGreatDoor
def kindsM (m : ApiModule) (k : Int) : List ApiImport := m.imports.filter fun x => decide (x.kind = k)
def funcsM (m : ApiModule) : List Int := (kindsM m 0).map (·.func) ++ m.funcs.map (·.type_)
def tablesM (m : ApiModule) : List ApiTable := (kindsM m 1).map (·.table) ++ m.tables
def memsM (m : ApiModule) : List ApiLimits := (kindsM m 2).map (·.mem) ++ m.mems
def globalsM (m : ApiModule) : List ApiGlobal := (kindsM m 3).map (·.global_) ++ m.globals.map (·.type_)
def elemsM (m : ApiModule) : List Int := m.elems.map (·.type_)
theorem bring_all (l : List ApiImport) (X : SpX) : l.foldl SpX.bring X = { X with funcs := X.funcs ++ (l.filter fun x => decide (x.kind = 0)).map (·.func), tables := X.tables ++ (l.filter fun x => decide (x.kind = 1)).map (·.table), mems := X.mems ++ (l.filter fun x => decide (x.kind = 2)).map (·.mem), globals := X.globals ++ (l.filter fun x => decide (x.kind = 3)).map (·.global_) } := by
  induction l generalizing X with
  | nil => simp
  | cons a r ih =>
    rw [List.foldl_cons, ih]
    unfold SpX.bring
    by_cases h0 : a.kind = 0
    · simp [h0]
    by_cases h1 : a.kind = 1
    · simp [h1]
    by_cases h2 : a.kind = 2
    · simp [h2]
    by_cases h3 : a.kind = 3
    · simp [h3]
    simp [h0, h1, h2, h3]
theorem spX_eq (m : ApiModule) : spX m = ⟨funcsM m, tablesM m, memsM m, globalsM m, elemsM m, m.datas.length⟩ := by
  unfold spX X5 X4 X3 X2 X1 brN
  rw [bring_all]
  simp [X0, funcsM, tablesM, memsM, globalsM, elemsM, kindsM]
def atK {α : Type} [Inhabited α] (l : List α) (i : Int) : Option α := if 0 ≤ i ∧ i < l.length then some (ix l i.toNat) else none
def nthK (l : List ApiImport) (k : Int) : Int → Option ApiImport := match l with
  | [] => fun _ => none
  | a :: r => fun i => if a.kind ≠ k then nthK r k i else if i = 0 then some a else nthK r k (i - 1)
theorem nthK_neg (k : Int) : ∀ (l : List ApiImport) (i : Int), i < 0 → nthK l k i = none
  | [], _, _ => rfl
  | a :: r, i, h => by
    unfold nthK
    split
    · exact nthK_neg k r i h
    · rw [if_neg (by omega)]; exact nthK_neg k r (i - 1) (by omega)
theorem nthK_eq (k : Int) : ∀ (l : List ApiImport) (i : Nat), nthK l k i = (l.filter fun x => decide (x.kind = k))[i]?
  | [], i => by simp [nthK]
  | a :: r, i => by
    unfold nthK
    by_cases h : a.kind = k
    · rw [if_neg (by simp [h]), List.filter_cons_of_pos (by simpa using h)]
      cases i with
      | zero => simp
      | succ i => rw [if_neg (by omega), show ((i + 1 : Nat) : Int) - 1 = (i : Int) by omega, nthK_eq k r i]; simp
    · rw [if_pos h, List.filter_cons_of_neg (by simpa using h)]; exact nthK_eq k r i
theorem atK_app {α : Type} [Inhabited α] (f : ApiImport → α) (l : List ApiImport) (k : Int) (own : List α) (i : Int) :
    atK ((l.filter fun x => decide (x.kind = k)).map f ++ own) i = match nthK l k i with
      | some x => some (f x)
      | none => if 0 ≤ i then atK own (i - (l.filter fun x => decide (x.kind = k)).length) else none := by
  generalize hf : l.filter (fun x => decide (x.kind = k)) = fl
  by_cases h0 : 0 ≤ i
  · obtain ⟨j, rfl⟩ := Int.eq_ofNat_of_zero_le h0
    rw [nthK_eq, hf]
    by_cases hj : j < fl.length
    · rw [List.getElem?_eq_getElem hj]
      unfold atK
      rw [if_pos ⟨h0, by simp; omega⟩]
      congr 1
      rw [Int.toNat_natCast, ix_eq (by simp; omega), List.getElem_append_left (by simpa using hj)]
      simp
    · rw [List.getElem?_eq_none (by omega), if_pos h0]
      unfold atK
      by_cases h1 : j < fl.length + own.length
      · rw [if_pos ⟨h0, by simp; omega⟩, if_pos ⟨by omega, by omega⟩]
        congr 1
        rw [Int.toNat_natCast, ix_app_r (by simp; omega)]
        congr 1
        simp
      · rw [if_neg (by simp; omega), if_neg (by omega)]
  · rw [nthK_neg k l i (by omega), if_neg h0]
    unfold atK
    rw [if_neg (by omega)]
end Go.Proofs.YtgbgnipidakdhaaGreatDoor
namespace Go.Proofs.YtgbgnipidakdhaaGreatDoor
set_option maxRecDepth 100000
def ofK (op : Int) : Int := (row5 op).2.2
def indexK (n : Int) : Bool := decide (0 ≤ n) && decide (n < 4294967296)
def valK (t : Int) : Bool := decide (1 ≤ t) && decide (t ≤ 4)
def blockK (k v i : Int) : Bool := if k = 0 then decide (v = 0) && decide (i = 0) else if k = 1 then valK v && decide (i = 0) else decide (k = 2) && (decide (v = 0) && indexK i)
def plainK (x : Ins) : Bool :=
  let k := ofK x.op
  let ab := decide (x.a = 0) && decide (x.b = 0)
  if (find5 x.op).isSome = false ∨ (k ≠ 1 ∧ ¬ (x.kind = 0 ∧ x.val = 0 ∧ x.index = 0)) ∨ (k ≠ 3 ∧ 0 < x.labels.length) ∨ (k ≠ 6 ∧ 0 < x.types.length) then false else
  if k = 0 then ab && decide (x.n = 0) else
  if k = 1 then ab && decide (x.n = 0) && blockK x.kind x.val x.index else
  if k = 3 then indexK x.a && decide (x.b = 0) && decide (x.n = 0) && x.labels.all indexK else
  if k = 6 then ab && decide (x.n = 0) && decide (x.types.length = 1) && valK (ix x.types 0) else
  if k = 2 ∨ k = 4 ∨ k = 7 ∨ k = 8 ∨ k = 9 ∨ k = 12 ∨ k = 16 then indexK x.a && decide (x.b = 0) && decide (x.n = 0) else
  if k = 5 ∨ k = 10 ∨ k = 11 ∨ k = 14 ∨ k = 15 then indexK x.a && indexK x.b && decide (x.n = 0) else
  if k = 13 then decide (x.a = 0) && indexK x.b && decide (x.n = 0) else
  if k = 17 then decide (0 ≤ x.a) && decide (x.a ≤ 63) && indexK x.b && decide (x.n < 4294967296) else
  if k = 18 then ab && decide (x.n < 4294967296) else
  if k = 19 then ab else (decide (x.a = 3) || decide (x.a = 4)) && decide (x.b = 0) && decide (x.n = 0)
theorem kind_tab : (r05.all fun r => decide (0 ≤ r.2.2) && decide (r.2.2 ≤ 20)) = true := by decide +kernel
theorem ofK_r (op : Int) : 0 ≤ ofK op ∧ ofK op ≤ 20 := by
  unfold ofK row5
  cases h : find5 op with
  | none => exact ⟨by decide, by decide⟩
  | some r =>
    have := List.all_eq_true.1 kind_tab r (List.mem_of_find?_eq_some h)
    simpa using this
theorem ofK_row {op : Int} (h : ofK op ≠ 0) : ∃ r ∈ r05, r.1 = op ∧ r.2.2 = ofK op := by
  unfold ofK row5 at *
  cases hf : find5 op with
  | none => rw [hf] at h; exact absurd rfl h
  | some r => exact ⟨r, List.mem_of_find?_eq_some hf, by have := List.find?_some hf; simpa using this, rfl⟩
def declK (m : ApiModule) (i : Int) : Bool := decide (0 ≤ i) && decide (i < (funcsM m).length) && d6 m m.exports.length i
def funcTy (m : ApiModule) (i : Int) : Option ApiFunc := (atK (funcsM m) i).bind (atK m.types)
def noF : ApiFunc := ⟨[], []⟩
def sigW (op : Int) : ApiFunc × Int := match sigO op with
  | some f => (f, 0)
  | none => (noF, 1)
def alignK (op : Int) : Int := if widthO op = 2 then 1 else if widthO op = 4 then 2 else if widthO op = 8 then 3 else 0
def wantsK (m : ApiModule) (locals : List Int) (x : Ins) : ApiFunc × Int :=
  let k := ofK x.op
  if k = 1 ∨ k = 2 ∨ k = 3 then (noF, 1) else
  if k = 4 then match funcTy m x.a with
    | none => (noF, 11)
    | some f => if x.op = 16 then (f, 0) else if declK m x.a = true then sigW x.op else (noF, 22)
  else if k = 5 then match atK m.types x.a, atK (tablesM m) x.b with
    | some f, some t => if t.elem ≠ 3 then (noF, 12) else (⟨f.params ++ [1], f.results⟩, 0)
    | _, _ => (noF, 11)
  else if k = 6 then (⟨[ix x.types 0, ix x.types 0, 1], [ix x.types 0]⟩, 0)
  else if k = 7 then
    if (locals.length : Int) ≤ x.a then (noF, 11) else
      let t := ix locals x.a.toNat
      if x.op = 32 then (⟨[], [t]⟩, 0) else if x.op = 33 then (⟨[t], []⟩, 0) else (⟨[t], [t]⟩, 0)
  else if k = 8 then match atK (globalsM m) x.a with
    | none => (noF, 11)
    | some g => if x.op = 35 then (⟨[], [g.val_]⟩, 0) else if g.mut_ = false then (noF, 18) else (⟨[g.val_], []⟩, 0)
  else if k = 9 then match atK (tablesM m) x.a with
    | none => (noF, 11)
    | some t => if x.op = 37 then (⟨[1], [t.elem]⟩, 0) else if x.op = 38 then (⟨[1, t.elem], []⟩, 0) else if x.op = 64528 then (⟨[], [1]⟩, 0) else if x.op = 64527 then (⟨[t.elem, 1], [1]⟩, 0) else (⟨[1, t.elem, 1], []⟩, 0)
  else if k = 10 then match atK (tablesM m) x.a, atK (tablesM m) x.b with
    | some a, some b => if a.elem ≠ b.elem then (noF, 12) else sigW x.op
    | _, _ => (noF, 11)
  else if k = 11 then match atK (elemsM m) x.a, atK (tablesM m) x.b with
    | some a, some b => if a ≠ b.elem then (noF, 12) else sigW x.op
    | _, _ => (noF, 11)
  else if k = 12 then if (atK (elemsM m) x.a).isNone then (noF, 11) else sigW x.op
  else if k = 13 ∨ k = 14 ∨ k = 15 ∨ k = 17 then
    if k = 14 ∧ (atK (memsM m) x.a).isNone then (noF, 11) else if k = 15 ∧ (m.datas.length : Int) ≤ x.a then (noF, 11) else if (atK (memsM m) x.b).isNone then (noF, 11) else if k = 17 ∧ alignK x.op < x.a then (noF, 19) else sigW x.op
  else if k = 16 then if (m.datas.length : Int) ≤ x.a then (noF, 11) else sigW x.op
  else if k = 20 then (⟨[], [x.a]⟩, 0)
  else sigW x.op
def apartK (op : Int) : Bool := decide (op = 2) || decide (op = 3) || decide (op = 4) || decide (op = 5) || decide (op = 11) || decide (op = 0) || decide (op = 12) || decide (op = 13) || decide (op = 14) || decide (op = 15) || decide (op = 26) || decide (op = 27) || decide (op = 209)
def wantsT (m : ApiModule) (locals : List Int) (x : Ins) : ApiFunc × Int := if plainK x = false then (noF, 10) else wantsK m locals x
theorem apart_tab : (r05.all fun r => !apartK r.1 || ((decide (r.2.2 = 1) || decide (r.2.2 = 2) || decide (r.2.2 = 3) || decide (r.2.2 = 0)) && (sigO r.1).isNone)) = true := by decide +kernel
theorem apart_no (m : ApiModule) (locals : List Int) (x : Ins) (h : apartK x.op = true) (hk : (find5 x.op).isSome = true) : wantsK m locals x = (noF, 1) := by
  obtain ⟨r, hr⟩ := Option.isSome_iff_exists.1 hk
  have h1 := List.all_eq_true.1 apart_tab r (List.mem_of_find?_eq_some hr)
  have e : r.1 = x.op := by have := List.find?_some hr; simpa using this
  have e2 : ofK x.op = r.2.2 := by unfold ofK row5; rw [hr]; rfl
  rw [e, h] at h1
  simp only [Bool.not_true, Bool.false_or, Bool.and_eq_true, Bool.or_eq_true, decide_eq_true_eq, ← e2] at h1
  obtain ⟨h2, h3⟩ := h1
  unfold wantsK
  dsimp only
  rcases h2 with ((h2 | h2) | h2) | h2
  · rw [if_pos (.inl h2)]
  · rw [if_pos (.inr (.inl h2))]
  · rw [if_pos (.inr (.inr h2))]
  · have h4 : sigO x.op = none := by simpa using h3
    simp [h2, sigW, h4]
end Go.Proofs.YtgbgnipidakdhaaGreatDoor
namespace Go.Proofs.YtgbgnipidakdhaaGreatDoor
open Go.RowKit
set_option maxRecDepth 100000
theorem opcode_index (n : Int) (w : World) : Calls G.P 125 #[.int .i64 n] w fun e w' => e = .returned (.bool (indexK n)) ∧ Ext w w' := by
  refine enterH (l := [.int .i64 n]) Tryz.func125 rfl Tryz.ntmps125 rfl (Ok.start w) ?_
  repeat' (first | refine wau ?_ | (refine wspl ?_ ?_ <;> intro hc_))
  all_goals exact FinH.ret1 rfl rfl fun w' hw' => ⟨by simp_all [indexK] <;> omega, hw'.at⟩
theorem ref05_index (n : Int) (w : World) : Calls G.P 89 #[.int .i64 n] w fun e w' => e = .returned (.bool (indexK n)) ∧ Ext w w' := by
  refine enterH (l := [.int .i64 n]) Tryz.func89 rfl Tryz.ntmps89 rfl (Ok.start w) ?_
  repeat' (first | refine wau ?_ | (refine wspl ?_ ?_ <;> intro hc_))
  all_goals exact FinH.ret1 rfl rfl fun w' hw' => ⟨by simp_all [indexK] <;> omega, hw'.at⟩
theorem opcode_val (n : Int) (w : World) : Calls G.P 127 #[.int .i64 n] w fun e w' => e = .returned (.bool (valK n)) ∧ Ext w w' := by
  refine enterH (l := [.int .i64 n]) Tryz.func127 rfl Tryz.ntmps127 rfl (Ok.start w) ?_
  repeat' (first | refine wau ?_ | (refine wspl ?_ ?_ <;> intro hc_))
  all_goals exact FinH.ret1 rfl rfl fun w' hw' => ⟨by simp_all [valK] <;> omega, hw'.at⟩
theorem ref05_val (n : Int) (w : World) : Calls G.P 91 #[.int .i64 n] w fun e w' => e = .returned (.bool (valK n)) ∧ Ext w w' := by
  refine enterH (l := [.int .i64 n]) Tryz.func91 rfl Tryz.ntmps91 rfl (Ok.start w) ?_
  repeat' (first | refine wau ?_ | (refine wspl ?_ ?_ <;> intro hc_))
  all_goals exact FinH.ret1 rfl rfl fun w' hw' => ⟨by simp_all [valK] <;> omega, hw'.at⟩
theorem rule_alike (b : Bool) (p q : Int) (w : World) : Calls G.P 134 #[.bool b, .int .i64 p, .int .i64 q] w fun e w' => e = .returned (.int .i64 (if b = false then 11 else if p ≠ q then 12 else 0)) ∧ Ext w w' := by
  refine enterH (l := [.bool b, .int .i64 p, .int .i64 q]) Tryz.func134 rfl Tryz.ntmps134 rfl (Ok.start w) ?_
  repeat' (first | refine wau ?_ | (refine wspl ?_ ?_ <;> intro hc_))
  all_goals exact FinH.ret1 rfl rfl fun w' hw' => ⟨by simp_all, hw'.at⟩
def numK (t : Int) : Bool := decide (t = 1) || decide (t = 2)
def refK (t : Int) : Bool := decide (t = 3) || decide (t = 4)
theorem valK_eq (t : Int) : (numK t || refK t) = valK t := by
  unfold numK refK valK
  rw [Bool.eq_iff_iff]
  simp only [Bool.or_eq_true, Bool.and_eq_true, decide_eq_true_eq]; omega
theorem types_Num (n : Int) (w : World) : Calls G.P 152 #[.int .i64 n] w fun e w' => e = .returned (.bool (numK n)) ∧ Ext w w' := by
  refine enterH (l := [.int .i64 n]) Tryz.func152 rfl Tryz.ntmps152 rfl (Ok.start w) ?_
  repeat' (first | refine wau ?_ | (refine wspl ?_ ?_ <;> intro hc_))
  all_goals exact FinH.ret1 rfl rfl fun w' hw' => ⟨by simp_all [numK] <;> omega, hw'.at⟩
theorem types_Ref (n : Int) (w : World) : Calls G.P 153 #[.int .i64 n] w fun e w' => e = .returned (.bool (refK n)) ∧ Ext w w' := by
  refine enterH (l := [.int .i64 n]) Tryz.func153 rfl Tryz.ntmps153 rfl (Ok.start w) ?_
  repeat' (first | refine wau ?_ | (refine wspl ?_ ?_ <;> intro hc_))
  all_goals exact FinH.ret1 rfl rfl fun w' hw' => ⟨by simp_all [refK] <;> omega, hw'.at⟩
attribute [local irreducible] numK refK
set_option maxHeartbeats 4000000 in
theorem types_Val (n : Int) (w : World) : Calls G.P 105 #[.int .i64 n] w fun e w' => e = .returned (.bool (valK n)) ∧ Ext w w' := by
  refine enterH (l := [.int .i64 n]) Tryz.func105 rfl Tryz.ntmps105 rfl (Ok.start w) ?_
  repeat' (first | refine wau ?_ | (refine OpsH.call1 rfl rfl rfl (fun w' _ => types_Num n w') ?_) | (refine OpsH.call1g (by first | rfl | exact gdBT rfl wraq | exact gdBF rfl wraq) rfl rfl rfl (fun w' _ => types_Ref n w') ?_) | (refine wspl ?_ ?_ <;> intro hc_))
  all_goals exact FinH.ret1 rfl rfl fun w' hw' => ⟨by rw [← valK_eq]; simp_all, hw'.at⟩
end Go.Proofs.YtgbgnipidakdhaaGreatDoor
namespace Go.Proofs.YtgbgnipidakdhaaGreatDoor
open Go.RowKit
set_option maxRecDepth 100000
def storedP (op : Int) : Int :=
  if op = 37 ∨ op = 38 ∨ op = 64528 ∨ op = 64527 ∨ op = 64529 then 9 else if op = 64526 then 10 else if op = 64524 then 11 else if op = 64525 then 12 else
  if op = 63 ∨ op = 64 ∨ op = 64523 then 13 else if op = 64522 then 14 else if op = 64520 then 15 else if op = 64521 then 16 else 0
def ofP (op : Int) : Int :=
  if op = 2 ∨ op = 3 ∨ op = 4 then 1 else if op = 12 ∨ op = 13 then 2 else if op = 14 then 3 else if op = 16 ∨ op = 210 then 4 else if op = 17 then 5 else if op = 28 then 6 else
  if op = 32 ∨ op = 33 ∨ op = 34 then 7 else if op = 35 ∨ op = 36 then 8 else if op = 65 then 18 else if op = 66 then 19 else if op = 208 then 20 else if 0 < widthO op then 17 else storedP op
def namedP : List Int := [2, 3, 4, 12, 13, 14, 16, 210, 17, 28, 32, 33, 34, 35, 36, 65, 66, 208, 37, 38, 64528, 64527, 64529, 64526, 64524, 64525, 63, 64, 64523, 64522, 64520, 64521]
theorem of_tab : (r05.all fun r => decide (ofP r.1 = r.2.2)) = true := by decide +kernel
theorem named_tab : (namedP.all fun c => (find5 c).isSome) = true := by decide +kernel
theorem ofP_eq (op : Int) : ofP op = ofK op := by
  cases h : find5 op with
  | some r =>
    have := List.all_eq_true.1 of_tab r (List.mem_of_find?_eq_some h)
    have e : r.1 = op := by have := List.find?_some h; simpa using this
    rw [e] at this
    rw [of_decide_eq_true this]
    unfold ofK row5; rw [h]; rfl
  | none =>
    have hne : ∀ c ∈ namedP, op ≠ c := by
      rintro c hc rfl
      have := List.all_eq_true.1 named_tab _ hc
      rw [h] at this; cases this
    have hw : widthO op = 0 := by rw [widthO_5]; unfold width5 row5; rw [h]; rfl
    have e : ofK op = 0 := by unfold ofK row5; rw [h]; rfl
    rw [e]
    simp only [namedP, List.mem_cons, List.not_mem_nil, or_false, forall_eq_or_imp, forall_eq] at hne
    unfold ofP storedP
    simp [hne, hw]
set_option maxHeartbeats 8000000 in
theorem opcode_stored (op : Int) (w : World) : Calls G.P 129 #[.int .i64 op] w fun e w' => e = .returned (.int .i64 (storedP op)) ∧ Ext w w' := by
  refine enterH (l := [.int .i64 op]) Tryz.func129 rfl Tryz.ntmps129 rfl (Ok.start w) ?_
  repeat' (first | refine wav ?_ | (refine wspv ?_ ?_ <;> (intro hc_; try subst hc_)))
  all_goals first | exact FinH.ret1 rfl rfl fun w' hw' => ⟨rfl, hw'.at⟩ | exact FinH.ret1 rfl rfl fun w' hw' => ⟨by unfold storedP; simp only [*, if_false, or_false], hw'.at⟩
set_option maxHeartbeats 8000000 in
theorem opcode_Of (op : Int) (w : World) (h0 : Env0 w) : Calls G.P 76 #[.int .i64 op] w fun e w' => e = .returned (.int .i64 (ofK op)) ∧ Ext w w' := by
  rw [← ofP_eq]
  refine enterH (l := [.int .i64 op]) Tryz.func76 rfl Tryz.ntmps76 rfl (Ok.start w) ?_
  repeat' (first | refine wav ?_ | (refine OpsH.isCall (f := 128) ?_; refine OpsH.call1 rfl rfl rfl (fun w' hw' => opcode_Width _ w' (h0.ext hw'.at)) ?_) | (refine OpsH.isCall (f := 129) ?_; refine OpsH.call1 rfl rfl rfl (fun w' hw' => opcode_stored _ w') ?_) | (refine wspv ?_ ?_ <;> (intro hc_; try subst hc_)))
  all_goals first | exact FinH.ret1 rfl rfl fun w' hw' => ⟨rfl, hw'.at⟩ | exact FinH.ret1 rfl rfl fun w' hw' => ⟨by unfold ofP; simp only [*, if_true, if_false, or_false], hw'.at⟩
end Go.Proofs.YtgbgnipidakdhaaGreatDoor
