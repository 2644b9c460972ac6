/- The rows of the types and functions that the walk's own rules look up; printed by gen_g.py off the seat's translation. -/
import Derived.Test.YtgbgnipidakdhaaGreatDoorJA
namespace Go.Proofs.YtgbgnipidakdhaaGreatDoor
set_option maxRecDepth 100000
theorem TyOk.mk1q {P : Program} {t : Nat} {i : TI} (a : (P.info? t).map (fun j => (j.zero, j.size, j.bytes)) = some (some i.zero, i.size, i.bytes) := by kernel_rfl) (b : ∀ w, (sizeOf t).run P w = .ok i.size w := by (intro w; kernel_rfl)) (c : ∀ w, (zeroValue t).run P w = .ok i.zero w := by (intro w; kernel_rfl)) (d : ∀ w, (isAgg t).run P w = .ok i.agg w := by (intro w; kernel_rfl)) (e : ∀ e, i.elem = some e → P.underlying t = some (.slice e) := by (intro e he; cases he)) (k : ∀ k, i.ik = some k → P.underlying t = some (.int k) := by (intro k hk; cases hk)) (f : ∀ f o, i.offs[f]? = some o → ∀ w a, (Instr.fieldAt t (.pointer (some a)) f).run P w = .ok (.pointer (some (a.add o))) w := by (intro f o hf; cases f <;> cases hf)) : TyOk P t i := ⟨a, b, c, d, e, k, f⟩
theorem TyOk.mk2q {P : Program} {t : Nat} {i : TI} (a : (P.info? t).map (fun j => (j.zero, j.size, j.bytes)) = some (some i.zero, i.size, i.bytes) := by kernel_rfl) (b : ∀ w, (sizeOf t).run P w = .ok i.size w := by (intro w; kernel_rfl)) (c : ∀ w, (zeroValue t).run P w = .ok i.zero w := by (intro w; kernel_rfl)) (d : ∀ w, (isAgg t).run P w = .ok i.agg w := by (intro w; kernel_rfl)) (e : ∀ e, i.elem = some e → P.underlying t = some (.slice e) := by (intro e he; cases he)) (k : ∀ k, i.ik = some k → P.underlying t = some (.int k) := by (intro k hk; cases hk; kernel_rfl)) (f : ∀ f o, i.offs[f]? = some o → ∀ w a, (Instr.fieldAt t (.pointer (some a)) f).run P w = .ok (.pointer (some (a.add o))) w := by (intro f o hf; cases f <;> cases hf)) : TyOk P t i := ⟨a, b, c, d, e, k, f⟩
def ti1 : TI := ⟨1, 8, false, none, [], .nilFunc, none⟩
theorem ty1 : TyOk Tryz.prog 1 ti1 := TyOk.mk1q
def ti2 : TI := ⟨1, 8, false, none, [], .int .i64 0, some .i64⟩
theorem ty2 : TyOk Tryz.prog 2 ti2 := TyOk.mk2q
def ti3 : TI := ⟨1, 8, false, none, [], .int .i64 0, some .i64⟩
theorem ty3 : TyOk Tryz.prog 3 ti3 := TyOk.mk2q
def ti4 : TI := ⟨1, 1, false, none, [], .bool false, none⟩
theorem ty4 : TyOk Tryz.prog 4 ti4 := TyOk.mk1q
def ti5 : TI := ⟨1, 1, false, none, [], .int .u8 0, some .u8⟩
theorem ty5 : TyOk Tryz.prog 5 ti5 := TyOk.mk2q
def ti6 : TI := ⟨1, 1, false, none, [], .int .u8 0, some .u8⟩
theorem ty6 : TyOk Tryz.prog 6 ti6 := TyOk.mk2q
def ti7 : TI := ⟨4, 24, true, none, [0, 1, 2, 3], .agg #[.int .i64 0, .int .i64 0, .bool false, .int .u8 0], none⟩
theorem ty7 : TyOk Tryz.prog 7 ti7 := ⟨by kernel_rfl, fun w => by kernel_rfl, fun w => by kernel_rfl, fun w => by kernel_rfl, (fun e he => by cases he), (fun k hk => by cases hk), (fun f o hf w a => by
    match f, hf with
    | 0, hf => cases hf; (show _ = _); kernel_rfl
    | 1, hf => cases hf; (show _ = _); kernel_rfl
    | 2, hf => cases hf; (show _ = _); kernel_rfl
    | 3, hf => cases hf; (show _ = _); kernel_rfl
    | n + 4, hf => cases hf)⟩
def ti8 : TI := ⟨4, 24, true, none, [0, 1, 2, 3], .agg #[.int .i64 0, .int .i64 0, .bool false, .int .u8 0], none⟩
theorem ty8 : TyOk Tryz.prog 8 ti8 := ⟨by kernel_rfl, fun w => by kernel_rfl, fun w => by kernel_rfl, fun w => by kernel_rfl, (fun e he => by cases he), (fun k hk => by cases hk), (fun f o hf w a => by
    match f, hf with
    | 0, hf => cases hf; (show _ = _); kernel_rfl
    | 1, hf => cases hf; (show _ = _); kernel_rfl
    | 2, hf => cases hf; (show _ = _); kernel_rfl
    | 3, hf => cases hf; (show _ = _); kernel_rfl
    | n + 4, hf => cases hf)⟩
def ti9 : TI := ⟨1, 16, false, none, [], .string ByteArray.empty, none⟩
theorem ty9 : TyOk Tryz.prog 9 ti9 := TyOk.mk1q
def ti10 : TI := ⟨1, 16, false, none, [], .string ByteArray.empty, none⟩
theorem ty10 : TyOk Tryz.prog 10 ti10 := TyOk.mk1q
def ti11 : TI := ⟨1, 16, false, none, [], .string ByteArray.empty, none⟩
theorem ty11 : TyOk Tryz.prog 11 ti11 := TyOk.mk1q
def ti12 : TI := ⟨1, 8, false, none, [], .int .u64 0, some .u64⟩
theorem ty12 : TyOk Tryz.prog 12 ti12 := TyOk.mk2q
def ti13 : TI := ⟨2, 24, true, none, [0, 1], .agg #[.string ByteArray.empty, .int .u64 0], none⟩
theorem ty13 : TyOk Tryz.prog 13 ti13 := ⟨by kernel_rfl, fun w => by kernel_rfl, fun w => by kernel_rfl, fun w => by kernel_rfl, (fun e he => by cases he), (fun k hk => by cases hk), (fun f o hf w a => by
    match f, hf with
    | 0, hf => cases hf; (show _ = _); kernel_rfl
    | 1, hf => cases hf; (show _ = _); kernel_rfl
    | n + 2, hf => cases hf)⟩
def ti14 : TI := ⟨2, 24, true, none, [0, 1], .agg #[.string ByteArray.empty, .int .u64 0], none⟩
theorem ty14 : TyOk Tryz.prog 14 ti14 := ⟨by kernel_rfl, fun w => by kernel_rfl, fun w => by kernel_rfl, fun w => by kernel_rfl, (fun e he => by cases he), (fun k hk => by cases hk), (fun f o hf w a => by
    match f, hf with
    | 0, hf => cases hf; (show _ = _); kernel_rfl
    | 1, hf => cases hf; (show _ = _); kernel_rfl
    | n + 2, hf => cases hf)⟩
def ti15 : TI := ⟨1, 8, false, none, [], .pointer none, none⟩
theorem ty15 : TyOk Tryz.prog 15 ti15 := TyOk.mk1q
def ti16 : TI := ⟨1, 8, false, none, [], .pointer none, none⟩
theorem ty16 : TyOk Tryz.prog 16 ti16 := TyOk.mk1q
def ti17 : TI := ⟨1, 8, false, none, [], .pointer none, none⟩
theorem ty17 : TyOk Tryz.prog 17 ti17 := TyOk.mk1q
def ti18 : TI := ⟨1, 8, true, none, [0], .agg #[.pointer none], none⟩
theorem ty18 : TyOk Tryz.prog 18 ti18 := ⟨by kernel_rfl, fun w => by kernel_rfl, fun w => by kernel_rfl, fun w => by kernel_rfl, (fun e he => by cases he), (fun k hk => by cases hk), (fun f o hf w a => by
    match f, hf with
    | 0, hf => cases hf; (show _ = _); kernel_rfl
    | n + 1, hf => cases hf)⟩
def ti19 : TI := ⟨1, 8, true, none, [0], .agg #[.pointer none], none⟩
theorem ty19 : TyOk Tryz.prog 19 ti19 := ⟨by kernel_rfl, fun w => by kernel_rfl, fun w => by kernel_rfl, fun w => by kernel_rfl, (fun e he => by cases he), (fun k hk => by cases hk), (fun f o hf w a => by
    match f, hf with
    | 0, hf => cases hf; (show _ = _); kernel_rfl
    | n + 1, hf => cases hf)⟩
def ti20 : TI := ⟨1, 16, false, none, [], .nilIface, none⟩
theorem ty20 : TyOk Tryz.prog 20 ti20 := TyOk.mk1q
def ti21 : TI := ⟨1, 4, false, none, [], .int .i32 0, some .i32⟩
theorem ty21 : TyOk Tryz.prog 21 ti21 := TyOk.mk2q
def ti22 : TI := ⟨1, 24, false, some 47, [], .slice none 0 0, none⟩
theorem ty22 : TyOk Tryz.prog 22 ti22 := ⟨by kernel_rfl, fun w => by kernel_rfl, fun w => by kernel_rfl, fun w => by kernel_rfl, (fun e he => by cases he; kernel_rfl), (fun k hk => by cases hk), (fun f o hf => by cases f <;> cases hf)⟩
def ti23 : TI := ⟨1, 24, false, some 106, [], .slice none 0 0, none⟩
theorem ty23 : TyOk Tryz.prog 23 ti23 := ⟨by kernel_rfl, fun w => by kernel_rfl, fun w => by kernel_rfl, fun w => by kernel_rfl, (fun e he => by cases he; kernel_rfl), (fun k hk => by cases hk), (fun f o hf => by cases f <;> cases hf)⟩
def ti24 : TI := ⟨1, 24, false, some 109, [], .slice none 0 0, none⟩
theorem ty24 : TyOk Tryz.prog 24 ti24 := ⟨by kernel_rfl, fun w => by kernel_rfl, fun w => by kernel_rfl, fun w => by kernel_rfl, (fun e he => by cases he; kernel_rfl), (fun k hk => by cases hk), (fun f o hf => by cases f <;> cases hf)⟩
def ti25 : TI := ⟨1, 24, false, some 102, [], .slice none 0 0, none⟩
theorem ty25 : TyOk Tryz.prog 25 ti25 := ⟨by kernel_rfl, fun w => by kernel_rfl, fun w => by kernel_rfl, fun w => by kernel_rfl, (fun e he => by cases he; kernel_rfl), (fun k hk => by cases hk), (fun f o hf => by cases f <;> cases hf)⟩
def ti26 : TI := ⟨1, 24, false, some 100, [], .slice none 0 0, none⟩
theorem ty26 : TyOk Tryz.prog 26 ti26 := ⟨by kernel_rfl, fun w => by kernel_rfl, fun w => by kernel_rfl, fun w => by kernel_rfl, (fun e he => by cases he; kernel_rfl), (fun k hk => by cases hk), (fun f o hf => by cases f <;> cases hf)⟩
def ti27 : TI := ⟨1, 24, false, some 112, [], .slice none 0 0, none⟩
theorem ty27 : TyOk Tryz.prog 27 ti27 := ⟨by kernel_rfl, fun w => by kernel_rfl, fun w => by kernel_rfl, fun w => by kernel_rfl, (fun e he => by cases he; kernel_rfl), (fun k hk => by cases hk), (fun f o hf => by cases f <;> cases hf)⟩
def ti28 : TI := ⟨1, 24, false, some 117, [], .slice none 0 0, none⟩
theorem ty28 : TyOk Tryz.prog 28 ti28 := ⟨by kernel_rfl, fun w => by kernel_rfl, fun w => by kernel_rfl, fun w => by kernel_rfl, (fun e he => by cases he; kernel_rfl), (fun k hk => by cases hk), (fun f o hf => by cases f <;> cases hf)⟩
def ti29 : TI := ⟨1, 24, false, some 115, [], .slice none 0 0, none⟩
theorem ty29 : TyOk Tryz.prog 29 ti29 := ⟨by kernel_rfl, fun w => by kernel_rfl, fun w => by kernel_rfl, fun w => by kernel_rfl, (fun e he => by cases he; kernel_rfl), (fun k hk => by cases hk), (fun f o hf => by cases f <;> cases hf)⟩
def ti30 : TI := ⟨1, 24, false, some 295, [], .slice none 0 0, none⟩
theorem ty30 : TyOk Tryz.prog 30 ti30 := ⟨by kernel_rfl, fun w => by kernel_rfl, fun w => by kernel_rfl, fun w => by kernel_rfl, (fun e he => by cases he; kernel_rfl), (fun k hk => by cases hk), (fun f o hf => by cases f <;> cases hf)⟩
def ti31 : TI := ⟨1, 24, false, some 297, [], .slice none 0 0, none⟩
theorem ty31 : TyOk Tryz.prog 31 ti31 := ⟨by kernel_rfl, fun w => by kernel_rfl, fun w => by kernel_rfl, fun w => by kernel_rfl, (fun e he => by cases he; kernel_rfl), (fun k hk => by cases hk), (fun f o hf => by cases f <;> cases hf)⟩
def ti32 : TI := ⟨12, 256, true, none, [0, 1, 2, 3, 4, 5, 6, 7, 8, 9, 10, 11], .agg #[.slice none 0 0, .slice none 0 0, .slice none 0 0, .slice none 0 0, .slice none 0 0, .slice none 0 0, .slice none 0 0, .bool false, .int .i64 0, .slice none 0 0, .slice none 0 0, .slice none 0 0], none⟩
theorem ty32 : TyOk Tryz.prog 32 ti32 := ⟨by kernel_rfl, fun w => by kernel_rfl, fun w => by kernel_rfl, fun w => by kernel_rfl, (fun e he => by cases he), (fun k hk => by cases hk), (fun f o hf w a => by
    match f, hf with
    | 0, hf => cases hf; (show _ = _); kernel_rfl
    | 1, hf => cases hf; (show _ = _); kernel_rfl
    | 2, hf => cases hf; (show _ = _); kernel_rfl
    | 3, hf => cases hf; (show _ = _); kernel_rfl
    | 4, hf => cases hf; (show _ = _); kernel_rfl
    | 5, hf => cases hf; (show _ = _); kernel_rfl
    | 6, hf => cases hf; (show _ = _); kernel_rfl
    | 7, hf => cases hf; (show _ = _); kernel_rfl
    | 8, hf => cases hf; (show _ = _); kernel_rfl
    | 9, hf => cases hf; (show _ = _); kernel_rfl
    | 10, hf => cases hf; (show _ = _); kernel_rfl
    | 11, hf => cases hf; (show _ = _); kernel_rfl
    | n + 12, hf => cases hf)⟩
def ti33 : TI := ⟨12, 256, true, none, [0, 1, 2, 3, 4, 5, 6, 7, 8, 9, 10, 11], .agg #[.slice none 0 0, .slice none 0 0, .slice none 0 0, .slice none 0 0, .slice none 0 0, .slice none 0 0, .slice none 0 0, .bool false, .int .i64 0, .slice none 0 0, .slice none 0 0, .slice none 0 0], none⟩
theorem ty33 : TyOk Tryz.prog 33 ti33 := ⟨by kernel_rfl, fun w => by kernel_rfl, fun w => by kernel_rfl, fun w => by kernel_rfl, (fun e he => by cases he), (fun k hk => by cases hk), (fun f o hf w a => by
    match f, hf with
    | 0, hf => cases hf; (show _ = _); kernel_rfl
    | 1, hf => cases hf; (show _ = _); kernel_rfl
    | 2, hf => cases hf; (show _ = _); kernel_rfl
    | 3, hf => cases hf; (show _ = _); kernel_rfl
    | 4, hf => cases hf; (show _ = _); kernel_rfl
    | 5, hf => cases hf; (show _ = _); kernel_rfl
    | 6, hf => cases hf; (show _ = _); kernel_rfl
    | 7, hf => cases hf; (show _ = _); kernel_rfl
    | 8, hf => cases hf; (show _ = _); kernel_rfl
    | 9, hf => cases hf; (show _ = _); kernel_rfl
    | 10, hf => cases hf; (show _ = _); kernel_rfl
    | 11, hf => cases hf; (show _ = _); kernel_rfl
    | n + 12, hf => cases hf)⟩
def ti34 : TI := ⟨1, 24, false, some 37, [], .slice none 0 0, none⟩
theorem ty34 : TyOk Tryz.prog 34 ti34 := ⟨by kernel_rfl, fun w => by kernel_rfl, fun w => by kernel_rfl, fun w => by kernel_rfl, (fun e he => by cases he; kernel_rfl), (fun k hk => by cases hk), (fun f o hf => by cases f <;> cases hf)⟩
def ti35 : TI := ⟨1, 8, false, none, [], .int .i64 0, some .i64⟩
theorem ty35 : TyOk Tryz.prog 35 ti35 := TyOk.mk2q
def ti36 : TI := ⟨1, 8, false, none, [], .int .u64 0, some .u64⟩
theorem ty36 : TyOk Tryz.prog 36 ti36 := TyOk.mk2q
def ti37 : TI := ⟨1, 8, false, none, [], .int .i64 0, some .i64⟩
theorem ty37 : TyOk Tryz.prog 37 ti37 := TyOk.mk2q
def ti38 : TI := ⟨3, 24, true, none, [0, 1, 2], .agg #[.int .i64 0, .int .i64 0, .int .i64 0], none⟩
theorem ty38 : TyOk Tryz.prog 38 ti38 := ⟨by kernel_rfl, fun w => by kernel_rfl, fun w => by kernel_rfl, fun w => by kernel_rfl, (fun e he => by cases he), (fun k hk => by cases hk), (fun f o hf w a => by
    match f, hf with
    | 0, hf => cases hf; (show _ = _); kernel_rfl
    | 1, hf => cases hf; (show _ = _); kernel_rfl
    | 2, hf => cases hf; (show _ = _); kernel_rfl
    | n + 3, hf => cases hf)⟩
def ti39 : TI := ⟨3, 24, true, none, [0, 1, 2], .agg #[.int .i64 0, .int .i64 0, .int .i64 0], none⟩
theorem ty39 : TyOk Tryz.prog 39 ti39 := ⟨by kernel_rfl, fun w => by kernel_rfl, fun w => by kernel_rfl, fun w => by kernel_rfl, (fun e he => by cases he), (fun k hk => by cases hk), (fun f o hf w a => by
    match f, hf with
    | 0, hf => cases hf; (show _ = _); kernel_rfl
    | 1, hf => cases hf; (show _ = _); kernel_rfl
    | 2, hf => cases hf; (show _ = _); kernel_rfl
    | n + 3, hf => cases hf)⟩
def ti40 : TI := ⟨1, 24, false, some 3, [], .slice none 0 0, none⟩
theorem ty40 : TyOk Tryz.prog 40 ti40 := ⟨by kernel_rfl, fun w => by kernel_rfl, fun w => by kernel_rfl, fun w => by kernel_rfl, (fun e he => by cases he; kernel_rfl), (fun k hk => by cases hk), (fun f o hf => by cases f <;> cases hf)⟩
def ti41 : TI := ⟨9, 104, true, none, [0, 1, 2, 3, 4, 7, 8], .agg #[.int .i64 0, .int .i64 0, .int .i64 0, .int .u64 0, .int .i64 0, .int .i64 0, .int .i64 0, .slice none 0 0, .slice none 0 0], none⟩
theorem ty41 : TyOk Tryz.prog 41 ti41 := ⟨by kernel_rfl, fun w => by kernel_rfl, fun w => by kernel_rfl, fun w => by kernel_rfl, (fun e he => by cases he), (fun k hk => by cases hk), (fun f o hf w a => by
    match f, hf with
    | 0, hf => cases hf; (show _ = _); kernel_rfl
    | 1, hf => cases hf; (show _ = _); kernel_rfl
    | 2, hf => cases hf; (show _ = _); kernel_rfl
    | 3, hf => cases hf; (show _ = _); kernel_rfl
    | 4, hf => cases hf; (show _ = _); kernel_rfl
    | 5, hf => cases hf; (show _ = _); kernel_rfl
    | 6, hf => cases hf; (show _ = _); kernel_rfl
    | n + 7, hf => cases hf)⟩
def ti42 : TI := ⟨9, 104, true, none, [0, 1, 2, 3, 4, 7, 8], .agg #[.int .i64 0, .int .i64 0, .int .i64 0, .int .u64 0, .int .i64 0, .int .i64 0, .int .i64 0, .slice none 0 0, .slice none 0 0], none⟩
theorem ty42 : TyOk Tryz.prog 42 ti42 := ⟨by kernel_rfl, fun w => by kernel_rfl, fun w => by kernel_rfl, fun w => by kernel_rfl, (fun e he => by cases he), (fun k hk => by cases hk), (fun f o hf w a => by
    match f, hf with
    | 0, hf => cases hf; (show _ = _); kernel_rfl
    | 1, hf => cases hf; (show _ = _); kernel_rfl
    | 2, hf => cases hf; (show _ = _); kernel_rfl
    | 3, hf => cases hf; (show _ = _); kernel_rfl
    | 4, hf => cases hf; (show _ = _); kernel_rfl
    | 5, hf => cases hf; (show _ = _); kernel_rfl
    | 6, hf => cases hf; (show _ = _); kernel_rfl
    | n + 7, hf => cases hf)⟩
def ti43 : TI := ⟨1, 8, false, none, [], .nilFunc, none⟩
theorem ty43 : TyOk Tryz.prog 43 ti43 := TyOk.mk1q
def ti44 : TI := ⟨1, 24, false, some 42, [], .slice none 0 0, none⟩
theorem ty44 : TyOk Tryz.prog 44 ti44 := ⟨by kernel_rfl, fun w => by kernel_rfl, fun w => by kernel_rfl, fun w => by kernel_rfl, (fun e he => by cases he; kernel_rfl), (fun k hk => by cases hk), (fun f o hf => by cases f <;> cases hf)⟩
def ti45 : TI := ⟨1, 8, false, none, [], .nilFunc, none⟩
theorem ty45 : TyOk Tryz.prog 45 ti45 := TyOk.mk1q
def ti46 : TI := ⟨2, 48, true, none, [0, 1], .agg #[.slice none 0 0, .slice none 0 0], none⟩
theorem ty46 : TyOk Tryz.prog 46 ti46 := ⟨by kernel_rfl, fun w => by kernel_rfl, fun w => by kernel_rfl, fun w => by kernel_rfl, (fun e he => by cases he), (fun k hk => by cases hk), (fun f o hf w a => by
    match f, hf with
    | 0, hf => cases hf; (show _ = _); kernel_rfl
    | 1, hf => cases hf; (show _ = _); kernel_rfl
    | n + 2, hf => cases hf)⟩
def ti47 : TI := ⟨2, 48, true, none, [0, 1], .agg #[.slice none 0 0, .slice none 0 0], none⟩
theorem ty47 : TyOk Tryz.prog 47 ti47 := ⟨by kernel_rfl, fun w => by kernel_rfl, fun w => by kernel_rfl, fun w => by kernel_rfl, (fun e he => by cases he), (fun k hk => by cases hk), (fun f o hf w a => by
    match f, hf with
    | 0, hf => cases hf; (show _ = _); kernel_rfl
    | 1, hf => cases hf; (show _ = _); kernel_rfl
    | n + 2, hf => cases hf)⟩
def ti48 : TI := ⟨1, 8, false, none, [], .int .i64 0, some .i64⟩
theorem ty48 : TyOk Tryz.prog 48 ti48 := TyOk.mk2q
def ti50 : TI := ⟨1, 8, false, none, [], .nilFunc, none⟩
theorem ty50 : TyOk Tryz.prog 50 ti50 := TyOk.mk1q
def ti51 : TI := ⟨1, 8, false, none, [], .pointer none, none⟩
theorem ty51 : TyOk Tryz.prog 51 ti51 := TyOk.mk1q
def ti52 : TI := ⟨1, 8, false, none, [], .nilFunc, none⟩
theorem ty52 : TyOk Tryz.prog 52 ti52 := TyOk.mk1q
def ti53 : TI := ⟨1, 8, false, none, [], .nilFunc, none⟩
theorem ty53 : TyOk Tryz.prog 53 ti53 := TyOk.mk1q
def ti54 : TI := ⟨1, 8, false, none, [], .nilFunc, none⟩
theorem ty54 : TyOk Tryz.prog 54 ti54 := TyOk.mk1q
def ti55 : TI := ⟨1, 8, false, none, [], .nilFunc, none⟩
theorem ty55 : TyOk Tryz.prog 55 ti55 := TyOk.mk1q
def ti56 : TI := ⟨1, 8, false, none, [], .pointer none, none⟩
theorem ty56 : TyOk Tryz.prog 56 ti56 := TyOk.mk1q
def ti57 : TI := ⟨1, 8, false, none, [], .nilFunc, none⟩
theorem ty57 : TyOk Tryz.prog 57 ti57 := TyOk.mk1q
def ti58 : TI := ⟨1, 8, false, none, [], .pointer none, none⟩
theorem ty58 : TyOk Tryz.prog 58 ti58 := TyOk.mk1q
def ti59 : TI := ⟨1, 8, true, none, [0], .agg #[.pointer none], none⟩
theorem ty59 : TyOk Tryz.prog 59 ti59 := ⟨by kernel_rfl, fun w => by kernel_rfl, fun w => by kernel_rfl, fun w => by kernel_rfl, (fun e he => by cases he), (fun k hk => by cases hk), (fun f o hf w a => by
    match f, hf with
    | 0, hf => cases hf; (show _ = _); kernel_rfl
    | n + 1, hf => cases hf)⟩
def ti60 : TI := ⟨1, 8, true, none, [0], .agg #[.pointer none], none⟩
theorem ty60 : TyOk Tryz.prog 60 ti60 := ⟨by kernel_rfl, fun w => by kernel_rfl, fun w => by kernel_rfl, fun w => by kernel_rfl, (fun e he => by cases he), (fun k hk => by cases hk), (fun f o hf w a => by
    match f, hf with
    | 0, hf => cases hf; (show _ = _); kernel_rfl
    | n + 1, hf => cases hf)⟩
def ti61 : TI := ⟨1, 8, false, none, [], .nilFunc, none⟩
theorem ty61 : TyOk Tryz.prog 61 ti61 := TyOk.mk1q
def ti62 : TI := ⟨1, 8, false, none, [], .pointer none, none⟩
theorem ty62 : TyOk Tryz.prog 62 ti62 := TyOk.mk1q
def ti63 : TI := ⟨1, 24, false, some 130, [], .slice none 0 0, none⟩
theorem ty63 : TyOk Tryz.prog 63 ti63 := ⟨by kernel_rfl, fun w => by kernel_rfl, fun w => by kernel_rfl, fun w => by kernel_rfl, (fun e he => by cases he; kernel_rfl), (fun k hk => by cases hk), (fun f o hf => by cases f <;> cases hf)⟩
def ti64 : TI := ⟨5, 72, true, none, [0, 1, 2, 3, 4], .agg #[.pointer none, .slice none 0 0, .slice none 0 0, .bool false, .int .i64 0], none⟩
theorem ty64 : TyOk Tryz.prog 64 ti64 := ⟨by kernel_rfl, fun w => by kernel_rfl, fun w => by kernel_rfl, fun w => by kernel_rfl, (fun e he => by cases he), (fun k hk => by cases hk), (fun f o hf w a => by
    match f, hf with
    | 0, hf => cases hf; (show _ = _); kernel_rfl
    | 1, hf => cases hf; (show _ = _); kernel_rfl
    | 2, hf => cases hf; (show _ = _); kernel_rfl
    | 3, hf => cases hf; (show _ = _); kernel_rfl
    | 4, hf => cases hf; (show _ = _); kernel_rfl
    | n + 5, hf => cases hf)⟩
def ti65 : TI := ⟨5, 72, true, none, [0, 1, 2, 3, 4], .agg #[.pointer none, .slice none 0 0, .slice none 0 0, .bool false, .int .i64 0], none⟩
theorem ty65 : TyOk Tryz.prog 65 ti65 := ⟨by kernel_rfl, fun w => by kernel_rfl, fun w => by kernel_rfl, fun w => by kernel_rfl, (fun e he => by cases he), (fun k hk => by cases hk), (fun f o hf w a => by
    match f, hf with
    | 0, hf => cases hf; (show _ = _); kernel_rfl
    | 1, hf => cases hf; (show _ = _); kernel_rfl
    | 2, hf => cases hf; (show _ = _); kernel_rfl
    | 3, hf => cases hf; (show _ = _); kernel_rfl
    | 4, hf => cases hf; (show _ = _); kernel_rfl
    | n + 5, hf => cases hf)⟩
def ti66 : TI := ⟨1, 8, false, none, [], .nilFunc, none⟩
theorem ty66 : TyOk Tryz.prog 66 ti66 := TyOk.mk1q
def ti67 : TI := ⟨1, 8, false, none, [], .nilFunc, none⟩
theorem ty67 : TyOk Tryz.prog 67 ti67 := TyOk.mk1q
def ti68 : TI := ⟨1, 24, false, some 4, [], .slice none 0 0, none⟩
theorem ty68 : TyOk Tryz.prog 68 ti68 := ⟨by kernel_rfl, fun w => by kernel_rfl, fun w => by kernel_rfl, fun w => by kernel_rfl, (fun e he => by cases he; kernel_rfl), (fun k hk => by cases hk), (fun f o hf => by cases f <;> cases hf)⟩
def ti69 : TI := ⟨4, 80, true, none, [0, 1, 2, 3], .agg #[.slice none 0 0, .slice none 0 0, .slice none 0 0, .int .i64 0], none⟩
theorem ty69 : TyOk Tryz.prog 69 ti69 := ⟨by kernel_rfl, fun w => by kernel_rfl, fun w => by kernel_rfl, fun w => by kernel_rfl, (fun e he => by cases he), (fun k hk => by cases hk), (fun f o hf w a => by
    match f, hf with
    | 0, hf => cases hf; (show _ = _); kernel_rfl
    | 1, hf => cases hf; (show _ = _); kernel_rfl
    | 2, hf => cases hf; (show _ = _); kernel_rfl
    | 3, hf => cases hf; (show _ = _); kernel_rfl
    | n + 4, hf => cases hf)⟩
def ti70 : TI := ⟨4, 80, true, none, [0, 1, 2, 3], .agg #[.slice none 0 0, .slice none 0 0, .slice none 0 0, .int .i64 0], none⟩
theorem ty70 : TyOk Tryz.prog 70 ti70 := ⟨by kernel_rfl, fun w => by kernel_rfl, fun w => by kernel_rfl, fun w => by kernel_rfl, (fun e he => by cases he), (fun k hk => by cases hk), (fun f o hf w a => by
    match f, hf with
    | 0, hf => cases hf; (show _ = _); kernel_rfl
    | 1, hf => cases hf; (show _ = _); kernel_rfl
    | 2, hf => cases hf; (show _ = _); kernel_rfl
    | 3, hf => cases hf; (show _ = _); kernel_rfl
    | n + 4, hf => cases hf)⟩
def ti71 : TI := ⟨1, 24, false, some 132, [], .slice none 0 0, none⟩
theorem ty71 : TyOk Tryz.prog 71 ti71 := ⟨by kernel_rfl, fun w => by kernel_rfl, fun w => by kernel_rfl, fun w => by kernel_rfl, (fun e he => by cases he; kernel_rfl), (fun k hk => by cases hk), (fun f o hf => by cases f <;> cases hf)⟩
def ti72 : TI := ⟨7, 136, true, none, [0, 4, 5, 6], .agg #[.slice none 0 0, .slice none 0 0, .slice none 0 0, .int .i64 0, .slice none 0 0, .slice none 0 0, .int .i64 0], none⟩
theorem ty72 : TyOk Tryz.prog 72 ti72 := ⟨by kernel_rfl, fun w => by kernel_rfl, fun w => by kernel_rfl, fun w => by kernel_rfl, (fun e he => by cases he), (fun k hk => by cases hk), (fun f o hf w a => by
    match f, hf with
    | 0, hf => cases hf; (show _ = _); kernel_rfl
    | 1, hf => cases hf; (show _ = _); kernel_rfl
    | 2, hf => cases hf; (show _ = _); kernel_rfl
    | 3, hf => cases hf; (show _ = _); kernel_rfl
    | n + 4, hf => cases hf)⟩
def ti73 : TI := ⟨7, 136, true, none, [0, 4, 5, 6], .agg #[.slice none 0 0, .slice none 0 0, .slice none 0 0, .int .i64 0, .slice none 0 0, .slice none 0 0, .int .i64 0], none⟩
theorem ty73 : TyOk Tryz.prog 73 ti73 := ⟨by kernel_rfl, fun w => by kernel_rfl, fun w => by kernel_rfl, fun w => by kernel_rfl, (fun e he => by cases he), (fun k hk => by cases hk), (fun f o hf w a => by
    match f, hf with
    | 0, hf => cases hf; (show _ = _); kernel_rfl
    | 1, hf => cases hf; (show _ = _); kernel_rfl
    | 2, hf => cases hf; (show _ = _); kernel_rfl
    | 3, hf => cases hf; (show _ = _); kernel_rfl
    | n + 4, hf => cases hf)⟩
def ti74 : TI := ⟨1, 8, false, none, [], .nilFunc, none⟩
theorem ty74 : TyOk Tryz.prog 74 ti74 := TyOk.mk1q
def ti75 : TI := ⟨1, 8, false, none, [], .nilFunc, none⟩
theorem ty75 : TyOk Tryz.prog 75 ti75 := TyOk.mk1q
def ti77 : TI := ⟨1, 8, false, none, [], .nilFunc, none⟩
theorem ty77 : TyOk Tryz.prog 77 ti77 := TyOk.mk1q
def ti78 : TI := ⟨1, 8, false, none, [], .nilFunc, none⟩
theorem ty78 : TyOk Tryz.prog 78 ti78 := TyOk.mk1q
def ti79 : TI := ⟨1, 8, false, none, [], .nilFunc, none⟩
theorem ty79 : TyOk Tryz.prog 79 ti79 := TyOk.mk1q
def ti80 : TI := ⟨1, 8, false, none, [], .nilFunc, none⟩
theorem ty80 : TyOk Tryz.prog 80 ti80 := TyOk.mk1q
def ti81 : TI := ⟨1, 8, false, none, [], .nilFunc, none⟩
theorem ty81 : TyOk Tryz.prog 81 ti81 := TyOk.mk1q
def ti82 : TI := ⟨1, 8, false, none, [], .nilFunc, none⟩
theorem ty82 : TyOk Tryz.prog 82 ti82 := TyOk.mk1q
def ti83 : TI := ⟨1, 8, false, none, [], .nilFunc, none⟩
theorem ty83 : TyOk Tryz.prog 83 ti83 := TyOk.mk1q
def ti84 : TI := ⟨1, 8, false, none, [], .nilFunc, none⟩
theorem ty84 : TyOk Tryz.prog 84 ti84 := TyOk.mk1q
def ti85 : TI := ⟨1, 8, false, none, [], .nilFunc, none⟩
theorem ty85 : TyOk Tryz.prog 85 ti85 := TyOk.mk1q
def ti86 : TI := ⟨1, 8, false, none, [], .nilFunc, none⟩
theorem ty86 : TyOk Tryz.prog 86 ti86 := TyOk.mk1q
def ti87 : TI := ⟨1, 8, false, none, [], .nilFunc, none⟩
theorem ty87 : TyOk Tryz.prog 87 ti87 := TyOk.mk1q
def ti88 : TI := ⟨1, 8, false, none, [], .nilFunc, none⟩
theorem ty88 : TyOk Tryz.prog 88 ti88 := TyOk.mk1q
def ti89 : TI := ⟨1, 8, false, none, [], .nilFunc, none⟩
theorem ty89 : TyOk Tryz.prog 89 ti89 := TyOk.mk1q
def ti90 : TI := ⟨1, 8, false, none, [], .nilFunc, none⟩
theorem ty90 : TyOk Tryz.prog 90 ti90 := TyOk.mk1q
def ti91 : TI := ⟨1, 8, false, none, [], .nilFunc, none⟩
theorem ty91 : TyOk Tryz.prog 91 ti91 := TyOk.mk1q
def ti92 : TI := ⟨1, 8, false, none, [], .map none, none⟩
theorem ty92 : TyOk Tryz.prog 92 ti92 := TyOk.mk1q
def ti93 : TI := ⟨1, 8, false, none, [], .map none, none⟩
theorem ty93 : TyOk Tryz.prog 93 ti93 := TyOk.mk1q
def ti94 : TI := ⟨1, 24, false, some 104, [], .slice none 0 0, none⟩
theorem ty94 : TyOk Tryz.prog 94 ti94 := ⟨by kernel_rfl, fun w => by kernel_rfl, fun w => by kernel_rfl, fun w => by kernel_rfl, (fun e he => by cases he; kernel_rfl), (fun k hk => by cases hk), (fun f o hf => by cases f <;> cases hf)⟩
def ti95 : TI := ⟨9, 168, true, none, [0, 1, 2, 3, 4, 5, 6, 7, 8], .agg #[.slice none 0 0, .slice none 0 0, .slice none 0 0, .slice none 0 0, .slice none 0 0, .slice none 0 0, .int .i64 0, .map none, .map none], none⟩
theorem ty95 : TyOk Tryz.prog 95 ti95 := ⟨by kernel_rfl, fun w => by kernel_rfl, fun w => by kernel_rfl, fun w => by kernel_rfl, (fun e he => by cases he), (fun k hk => by cases hk), (fun f o hf w a => by
    match f, hf with
    | 0, hf => cases hf; (show _ = _); kernel_rfl
    | 1, hf => cases hf; (show _ = _); kernel_rfl
    | 2, hf => cases hf; (show _ = _); kernel_rfl
    | 3, hf => cases hf; (show _ = _); kernel_rfl
    | 4, hf => cases hf; (show _ = _); kernel_rfl
    | 5, hf => cases hf; (show _ = _); kernel_rfl
    | 6, hf => cases hf; (show _ = _); kernel_rfl
    | 7, hf => cases hf; (show _ = _); kernel_rfl
    | 8, hf => cases hf; (show _ = _); kernel_rfl
    | n + 9, hf => cases hf)⟩
def ti96 : TI := ⟨9, 168, true, none, [0, 1, 2, 3, 4, 5, 6, 7, 8], .agg #[.slice none 0 0, .slice none 0 0, .slice none 0 0, .slice none 0 0, .slice none 0 0, .slice none 0 0, .int .i64 0, .map none, .map none], none⟩
theorem ty96 : TyOk Tryz.prog 96 ti96 := ⟨by kernel_rfl, fun w => by kernel_rfl, fun w => by kernel_rfl, fun w => by kernel_rfl, (fun e he => by cases he), (fun k hk => by cases hk), (fun f o hf w a => by
    match f, hf with
    | 0, hf => cases hf; (show _ = _); kernel_rfl
    | 1, hf => cases hf; (show _ = _); kernel_rfl
    | 2, hf => cases hf; (show _ = _); kernel_rfl
    | 3, hf => cases hf; (show _ = _); kernel_rfl
    | 4, hf => cases hf; (show _ = _); kernel_rfl
    | 5, hf => cases hf; (show _ = _); kernel_rfl
    | 6, hf => cases hf; (show _ = _); kernel_rfl
    | 7, hf => cases hf; (show _ = _); kernel_rfl
    | 8, hf => cases hf; (show _ = _); kernel_rfl
    | n + 9, hf => cases hf)⟩
def ti97 : TI := ⟨1, 8, false, none, [], .nilFunc, none⟩
theorem ty97 : TyOk Tryz.prog 97 ti97 := TyOk.mk1q
def ti98 : TI := ⟨1, 8, false, none, [], .int .i64 0, some .i64⟩
theorem ty98 : TyOk Tryz.prog 98 ti98 := TyOk.mk2q
def ti99 : TI := ⟨3, 24, true, none, [0, 1, 2], .agg #[.int .i64 0, .int .i64 0, .bool false], none⟩
theorem ty99 : TyOk Tryz.prog 99 ti99 := ⟨by kernel_rfl, fun w => by kernel_rfl, fun w => by kernel_rfl, fun w => by kernel_rfl, (fun e he => by cases he), (fun k hk => by cases hk), (fun f o hf w a => by
    match f, hf with
    | 0, hf => cases hf; (show _ = _); kernel_rfl
    | 1, hf => cases hf; (show _ = _); kernel_rfl
    | 2, hf => cases hf; (show _ = _); kernel_rfl
    | n + 3, hf => cases hf)⟩
def ti100 : TI := ⟨3, 24, true, none, [0, 1, 2], .agg #[.int .i64 0, .int .i64 0, .bool false], none⟩
theorem ty100 : TyOk Tryz.prog 100 ti100 := ⟨by kernel_rfl, fun w => by kernel_rfl, fun w => by kernel_rfl, fun w => by kernel_rfl, (fun e he => by cases he), (fun k hk => by cases hk), (fun f o hf w a => by
    match f, hf with
    | 0, hf => cases hf; (show _ = _); kernel_rfl
    | 1, hf => cases hf; (show _ = _); kernel_rfl
    | 2, hf => cases hf; (show _ = _); kernel_rfl
    | n + 3, hf => cases hf)⟩
def ti101 : TI := ⟨4, 32, true, none, [0, 1], .agg #[.int .i64 0, .int .i64 0, .int .i64 0, .bool false], none⟩
theorem ty101 : TyOk Tryz.prog 101 ti101 := ⟨by kernel_rfl, fun w => by kernel_rfl, fun w => by kernel_rfl, fun w => by kernel_rfl, (fun e he => by cases he), (fun k hk => by cases hk), (fun f o hf w a => by
    match f, hf with
    | 0, hf => cases hf; (show _ = _); kernel_rfl
    | 1, hf => cases hf; (show _ = _); kernel_rfl
    | n + 2, hf => cases hf)⟩
def ti102 : TI := ⟨4, 32, true, none, [0, 1], .agg #[.int .i64 0, .int .i64 0, .int .i64 0, .bool false], none⟩
theorem ty102 : TyOk Tryz.prog 102 ti102 := ⟨by kernel_rfl, fun w => by kernel_rfl, fun w => by kernel_rfl, fun w => by kernel_rfl, (fun e he => by cases he), (fun k hk => by cases hk), (fun f o hf w a => by
    match f, hf with
    | 0, hf => cases hf; (show _ = _); kernel_rfl
    | 1, hf => cases hf; (show _ = _); kernel_rfl
    | n + 2, hf => cases hf)⟩
def ti103 : TI := ⟨2, 16, true, none, [0, 1], .agg #[.int .i64 0, .bool false], none⟩
theorem ty103 : TyOk Tryz.prog 103 ti103 := ⟨by kernel_rfl, fun w => by kernel_rfl, fun w => by kernel_rfl, fun w => by kernel_rfl, (fun e he => by cases he), (fun k hk => by cases hk), (fun f o hf w a => by
    match f, hf with
    | 0, hf => cases hf; (show _ = _); kernel_rfl
    | 1, hf => cases hf; (show _ = _); kernel_rfl
    | n + 2, hf => cases hf)⟩
def ti104 : TI := ⟨2, 16, true, none, [0, 1], .agg #[.int .i64 0, .bool false], none⟩
theorem ty104 : TyOk Tryz.prog 104 ti104 := ⟨by kernel_rfl, fun w => by kernel_rfl, fun w => by kernel_rfl, fun w => by kernel_rfl, (fun e he => by cases he), (fun k hk => by cases hk), (fun f o hf w a => by
    match f, hf with
    | 0, hf => cases hf; (show _ = _); kernel_rfl
    | 1, hf => cases hf; (show _ = _); kernel_rfl
    | n + 2, hf => cases hf)⟩
def ti105 : TI := ⟨13, 120, true, none, [0, 1, 2, 3, 4, 8, 11], .agg #[.string ByteArray.empty, .string ByteArray.empty, .int .i64 0, .int .i64 0, .int .i64 0, .int .i64 0, .int .i64 0, .bool false, .int .i64 0, .int .i64 0, .bool false, .int .i64 0, .bool false], none⟩
theorem ty105 : TyOk Tryz.prog 105 ti105 := ⟨by kernel_rfl, fun w => by kernel_rfl, fun w => by kernel_rfl, fun w => by kernel_rfl, (fun e he => by cases he), (fun k hk => by cases hk), (fun f o hf w a => by
    match f, hf with
    | 0, hf => cases hf; (show _ = _); kernel_rfl
    | 1, hf => cases hf; (show _ = _); kernel_rfl
    | 2, hf => cases hf; (show _ = _); kernel_rfl
    | 3, hf => cases hf; (show _ = _); kernel_rfl
    | 4, hf => cases hf; (show _ = _); kernel_rfl
    | 5, hf => cases hf; (show _ = _); kernel_rfl
    | 6, hf => cases hf; (show _ = _); kernel_rfl
    | n + 7, hf => cases hf)⟩
def ti106 : TI := ⟨13, 120, true, none, [0, 1, 2, 3, 4, 8, 11], .agg #[.string ByteArray.empty, .string ByteArray.empty, .int .i64 0, .int .i64 0, .int .i64 0, .int .i64 0, .int .i64 0, .bool false, .int .i64 0, .int .i64 0, .bool false, .int .i64 0, .bool false], none⟩
theorem ty106 : TyOk Tryz.prog 106 ti106 := ⟨by kernel_rfl, fun w => by kernel_rfl, fun w => by kernel_rfl, fun w => by kernel_rfl, (fun e he => by cases he), (fun k hk => by cases hk), (fun f o hf w a => by
    match f, hf with
    | 0, hf => cases hf; (show _ = _); kernel_rfl
    | 1, hf => cases hf; (show _ = _); kernel_rfl
    | 2, hf => cases hf; (show _ = _); kernel_rfl
    | 3, hf => cases hf; (show _ = _); kernel_rfl
    | 4, hf => cases hf; (show _ = _); kernel_rfl
    | 5, hf => cases hf; (show _ = _); kernel_rfl
    | 6, hf => cases hf; (show _ = _); kernel_rfl
    | n + 7, hf => cases hf)⟩
def ti107 : TI := ⟨1, 8, false, none, [], .nilFunc, none⟩
theorem ty107 : TyOk Tryz.prog 107 ti107 := TyOk.mk1q
def ti108 : TI := ⟨3, 56, true, none, [0, 1, 2], .agg #[.int .i64 0, .slice none 0 0, .slice none 0 0], none⟩
theorem ty108 : TyOk Tryz.prog 108 ti108 := ⟨by kernel_rfl, fun w => by kernel_rfl, fun w => by kernel_rfl, fun w => by kernel_rfl, (fun e he => by cases he), (fun k hk => by cases hk), (fun f o hf w a => by
    match f, hf with
    | 0, hf => cases hf; (show _ = _); kernel_rfl
    | 1, hf => cases hf; (show _ = _); kernel_rfl
    | 2, hf => cases hf; (show _ = _); kernel_rfl
    | n + 3, hf => cases hf)⟩
def ti109 : TI := ⟨3, 56, true, none, [0, 1, 2], .agg #[.int .i64 0, .slice none 0 0, .slice none 0 0], none⟩
theorem ty109 : TyOk Tryz.prog 109 ti109 := ⟨by kernel_rfl, fun w => by kernel_rfl, fun w => by kernel_rfl, fun w => by kernel_rfl, (fun e he => by cases he), (fun k hk => by cases hk), (fun f o hf w a => by
    match f, hf with
    | 0, hf => cases hf; (show _ = _); kernel_rfl
    | 1, hf => cases hf; (show _ = _); kernel_rfl
    | 2, hf => cases hf; (show _ = _); kernel_rfl
    | n + 3, hf => cases hf)⟩
def ti110 : TI := ⟨1, 8, false, none, [], .nilFunc, none⟩
theorem ty110 : TyOk Tryz.prog 110 ti110 := TyOk.mk1q
def ti111 : TI := ⟨3, 40, true, none, [0, 2], .agg #[.int .i64 0, .bool false, .slice none 0 0], none⟩
theorem ty111 : TyOk Tryz.prog 111 ti111 := ⟨by kernel_rfl, fun w => by kernel_rfl, fun w => by kernel_rfl, fun w => by kernel_rfl, (fun e he => by cases he), (fun k hk => by cases hk), (fun f o hf w a => by
    match f, hf with
    | 0, hf => cases hf; (show _ = _); kernel_rfl
    | 1, hf => cases hf; (show _ = _); kernel_rfl
    | n + 2, hf => cases hf)⟩
def ti112 : TI := ⟨3, 40, true, none, [0, 2], .agg #[.int .i64 0, .bool false, .slice none 0 0], none⟩
theorem ty112 : TyOk Tryz.prog 112 ti112 := ⟨by kernel_rfl, fun w => by kernel_rfl, fun w => by kernel_rfl, fun w => by kernel_rfl, (fun e he => by cases he), (fun k hk => by cases hk), (fun f o hf w a => by
    match f, hf with
    | 0, hf => cases hf; (show _ = _); kernel_rfl
    | 1, hf => cases hf; (show _ = _); kernel_rfl
    | n + 2, hf => cases hf)⟩
def ti113 : TI := ⟨1, 24, false, some 44, [], .slice none 0 0, none⟩
theorem ty113 : TyOk Tryz.prog 113 ti113 := ⟨by kernel_rfl, fun w => by kernel_rfl, fun w => by kernel_rfl, fun w => by kernel_rfl, (fun e he => by cases he; kernel_rfl), (fun k hk => by cases hk), (fun f o hf => by cases f <;> cases hf)⟩
def ti114 : TI := ⟨5, 72, true, none, [0, 1, 2, 3, 4], .agg #[.int .i64 0, .int .i64 0, .slice none 0 0, .int .i64 0, .slice none 0 0], none⟩
theorem ty114 : TyOk Tryz.prog 114 ti114 := ⟨by kernel_rfl, fun w => by kernel_rfl, fun w => by kernel_rfl, fun w => by kernel_rfl, (fun e he => by cases he), (fun k hk => by cases hk), (fun f o hf w a => by
    match f, hf with
    | 0, hf => cases hf; (show _ = _); kernel_rfl
    | 1, hf => cases hf; (show _ = _); kernel_rfl
    | 2, hf => cases hf; (show _ = _); kernel_rfl
    | 3, hf => cases hf; (show _ = _); kernel_rfl
    | 4, hf => cases hf; (show _ = _); kernel_rfl
    | n + 5, hf => cases hf)⟩
def ti115 : TI := ⟨5, 72, true, none, [0, 1, 2, 3, 4], .agg #[.int .i64 0, .int .i64 0, .slice none 0 0, .int .i64 0, .slice none 0 0], none⟩
theorem ty115 : TyOk Tryz.prog 115 ti115 := ⟨by kernel_rfl, fun w => by kernel_rfl, fun w => by kernel_rfl, fun w => by kernel_rfl, (fun e he => by cases he), (fun k hk => by cases hk), (fun f o hf w a => by
    match f, hf with
    | 0, hf => cases hf; (show _ = _); kernel_rfl
    | 1, hf => cases hf; (show _ = _); kernel_rfl
    | 2, hf => cases hf; (show _ = _); kernel_rfl
    | 3, hf => cases hf; (show _ = _); kernel_rfl
    | 4, hf => cases hf; (show _ = _); kernel_rfl
    | n + 5, hf => cases hf)⟩
def ti116 : TI := ⟨3, 32, true, none, [0, 1, 2], .agg #[.string ByteArray.empty, .int .i64 0, .int .i64 0], none⟩
theorem ty116 : TyOk Tryz.prog 116 ti116 := ⟨by kernel_rfl, fun w => by kernel_rfl, fun w => by kernel_rfl, fun w => by kernel_rfl, (fun e he => by cases he), (fun k hk => by cases hk), (fun f o hf w a => by
    match f, hf with
    | 0, hf => cases hf; (show _ = _); kernel_rfl
    | 1, hf => cases hf; (show _ = _); kernel_rfl
    | 2, hf => cases hf; (show _ = _); kernel_rfl
    | n + 3, hf => cases hf)⟩
def ti117 : TI := ⟨3, 32, true, none, [0, 1, 2], .agg #[.string ByteArray.empty, .int .i64 0, .int .i64 0], none⟩
theorem ty117 : TyOk Tryz.prog 117 ti117 := ⟨by kernel_rfl, fun w => by kernel_rfl, fun w => by kernel_rfl, fun w => by kernel_rfl, (fun e he => by cases he), (fun k hk => by cases hk), (fun f o hf w a => by
    match f, hf with
    | 0, hf => cases hf; (show _ = _); kernel_rfl
    | 1, hf => cases hf; (show _ = _); kernel_rfl
    | 2, hf => cases hf; (show _ = _); kernel_rfl
    | n + 3, hf => cases hf)⟩
def ti118 : TI := ⟨1, 8, false, none, [], .nilFunc, none⟩
theorem ty118 : TyOk Tryz.prog 118 ti118 := TyOk.mk1q
def ti119 : TI := ⟨3, 56, true, none, [0, 2], .agg #[.slice none 0 0, .slice none 0 0, .int .i64 0], none⟩
theorem ty119 : TyOk Tryz.prog 119 ti119 := ⟨by kernel_rfl, fun w => by kernel_rfl, fun w => by kernel_rfl, fun w => by kernel_rfl, (fun e he => by cases he), (fun k hk => by cases hk), (fun f o hf w a => by
    match f, hf with
    | 0, hf => cases hf; (show _ = _); kernel_rfl
    | 1, hf => cases hf; (show _ = _); kernel_rfl
    | n + 2, hf => cases hf)⟩
def ti120 : TI := ⟨3, 56, true, none, [0, 2], .agg #[.slice none 0 0, .slice none 0 0, .int .i64 0], none⟩
theorem ty120 : TyOk Tryz.prog 120 ti120 := ⟨by kernel_rfl, fun w => by kernel_rfl, fun w => by kernel_rfl, fun w => by kernel_rfl, (fun e he => by cases he), (fun k hk => by cases hk), (fun f o hf w a => by
    match f, hf with
    | 0, hf => cases hf; (show _ = _); kernel_rfl
    | 1, hf => cases hf; (show _ = _); kernel_rfl
    | n + 2, hf => cases hf)⟩
def ti121 : TI := ⟨1, 8, false, none, [], .nilFunc, none⟩
theorem ty121 : TyOk Tryz.prog 121 ti121 := TyOk.mk1q
def ti123 : TI := ⟨1, 8, false, none, [], .nilFunc, none⟩
theorem ty123 : TyOk Tryz.prog 123 ti123 := TyOk.mk1q
def ti124 : TI := ⟨1, 8, false, none, [], .nilFunc, none⟩
theorem ty124 : TyOk Tryz.prog 124 ti124 := TyOk.mk1q
def ti125 : TI := ⟨1, 8, false, none, [], .nilFunc, none⟩
theorem ty125 : TyOk Tryz.prog 125 ti125 := TyOk.mk1q
def ti126 : TI := ⟨1, 8, false, none, [], .nilFunc, none⟩
theorem ty126 : TyOk Tryz.prog 126 ti126 := TyOk.mk1q
def ti127 : TI := ⟨1, 8, false, none, [], .nilFunc, none⟩
theorem ty127 : TyOk Tryz.prog 127 ti127 := TyOk.mk1q
def ti128 : TI := ⟨1, 8, false, none, [], .nilFunc, none⟩
theorem ty128 : TyOk Tryz.prog 128 ti128 := TyOk.mk1q
def ti129 : TI := ⟨5, 64, true, none, [0, 1, 3, 4], .agg #[.int .i64 0, .slice none 0 0, .slice none 0 0, .bool false, .bool false], none⟩
theorem ty129 : TyOk Tryz.prog 129 ti129 := ⟨by kernel_rfl, fun w => by kernel_rfl, fun w => by kernel_rfl, fun w => by kernel_rfl, (fun e he => by cases he), (fun k hk => by cases hk), (fun f o hf w a => by
    match f, hf with
    | 0, hf => cases hf; (show _ = _); kernel_rfl
    | 1, hf => cases hf; (show _ = _); kernel_rfl
    | 2, hf => cases hf; (show _ = _); kernel_rfl
    | 3, hf => cases hf; (show _ = _); kernel_rfl
    | n + 4, hf => cases hf)⟩
def ti130 : TI := ⟨5, 64, true, none, [0, 1, 3, 4], .agg #[.int .i64 0, .slice none 0 0, .slice none 0 0, .bool false, .bool false], none⟩
theorem ty130 : TyOk Tryz.prog 130 ti130 := ⟨by kernel_rfl, fun w => by kernel_rfl, fun w => by kernel_rfl, fun w => by kernel_rfl, (fun e he => by cases he), (fun k hk => by cases hk), (fun f o hf w a => by
    match f, hf with
    | 0, hf => cases hf; (show _ = _); kernel_rfl
    | 1, hf => cases hf; (show _ = _); kernel_rfl
    | 2, hf => cases hf; (show _ = _); kernel_rfl
    | 3, hf => cases hf; (show _ = _); kernel_rfl
    | n + 4, hf => cases hf)⟩
def ti131 : TI := ⟨5, 64, true, none, [0, 1, 3, 4], .agg #[.int .i64 0, .slice none 0 0, .slice none 0 0, .bool false, .bool false], none⟩
theorem ty131 : TyOk Tryz.prog 131 ti131 := ⟨by kernel_rfl, fun w => by kernel_rfl, fun w => by kernel_rfl, fun w => by kernel_rfl, (fun e he => by cases he), (fun k hk => by cases hk), (fun f o hf w a => by
    match f, hf with
    | 0, hf => cases hf; (show _ = _); kernel_rfl
    | 1, hf => cases hf; (show _ = _); kernel_rfl
    | 2, hf => cases hf; (show _ = _); kernel_rfl
    | 3, hf => cases hf; (show _ = _); kernel_rfl
    | n + 4, hf => cases hf)⟩
def ti132 : TI := ⟨5, 64, true, none, [0, 1, 3, 4], .agg #[.int .i64 0, .slice none 0 0, .slice none 0 0, .bool false, .bool false], none⟩
theorem ty132 : TyOk Tryz.prog 132 ti132 := ⟨by kernel_rfl, fun w => by kernel_rfl, fun w => by kernel_rfl, fun w => by kernel_rfl, (fun e he => by cases he), (fun k hk => by cases hk), (fun f o hf w a => by
    match f, hf with
    | 0, hf => cases hf; (show _ = _); kernel_rfl
    | 1, hf => cases hf; (show _ = _); kernel_rfl
    | 2, hf => cases hf; (show _ = _); kernel_rfl
    | 3, hf => cases hf; (show _ = _); kernel_rfl
    | n + 4, hf => cases hf)⟩
def ti133 : TI := ⟨1, 8, false, none, [], .nilFunc, none⟩
theorem ty133 : TyOk Tryz.prog 133 ti133 := TyOk.mk1q
def ti134 : TI := ⟨1, 8, false, none, [], .nilFunc, none⟩
theorem ty134 : TyOk Tryz.prog 134 ti134 := TyOk.mk1q
def ti135 : TI := ⟨1, 8, false, none, [], .nilFunc, none⟩
theorem ty135 : TyOk Tryz.prog 135 ti135 := TyOk.mk1q
def ti136 : TI := ⟨1, 8, false, none, [], .nilFunc, none⟩
theorem ty136 : TyOk Tryz.prog 136 ti136 := TyOk.mk1q
def ti137 : TI := ⟨1, 8, false, none, [], .nilFunc, none⟩
theorem ty137 : TyOk Tryz.prog 137 ti137 := TyOk.mk1q
def ti139 : TI := ⟨1, 8, false, none, [], .nilFunc, none⟩
theorem ty139 : TyOk Tryz.prog 139 ti139 := TyOk.mk1q
def ti140 : TI := ⟨1, 8, false, none, [], .nilFunc, none⟩
theorem ty140 : TyOk Tryz.prog 140 ti140 := TyOk.mk1q
def ti141 : TI := ⟨1, 8, false, none, [], .nilFunc, none⟩
theorem ty141 : TyOk Tryz.prog 141 ti141 := TyOk.mk1q
def ti142 : TI := ⟨1, 8, false, none, [], .nilFunc, none⟩
theorem ty142 : TyOk Tryz.prog 142 ti142 := TyOk.mk1q
def ti143 : TI := ⟨1, 24, false, some 184, [], .slice none 0 0, none⟩
theorem ty143 : TyOk Tryz.prog 143 ti143 := ⟨by kernel_rfl, fun w => by kernel_rfl, fun w => by kernel_rfl, fun w => by kernel_rfl, (fun e he => by cases he; kernel_rfl), (fun k hk => by cases hk), (fun f o hf => by cases f <;> cases hf)⟩
def ti144 : TI := ⟨3, 56, true, none, [0, 1, 2], .agg #[.slice none 0 0, .slice none 0 0, .bool false], none⟩
theorem ty144 : TyOk Tryz.prog 144 ti144 := ⟨by kernel_rfl, fun w => by kernel_rfl, fun w => by kernel_rfl, fun w => by kernel_rfl, (fun e he => by cases he), (fun k hk => by cases hk), (fun f o hf w a => by
    match f, hf with
    | 0, hf => cases hf; (show _ = _); kernel_rfl
    | 1, hf => cases hf; (show _ = _); kernel_rfl
    | 2, hf => cases hf; (show _ = _); kernel_rfl
    | n + 3, hf => cases hf)⟩
def ti145 : TI := ⟨3, 56, true, none, [0, 1, 2], .agg #[.slice none 0 0, .slice none 0 0, .bool false], none⟩
theorem ty145 : TyOk Tryz.prog 145 ti145 := ⟨by kernel_rfl, fun w => by kernel_rfl, fun w => by kernel_rfl, fun w => by kernel_rfl, (fun e he => by cases he), (fun k hk => by cases hk), (fun f o hf w a => by
    match f, hf with
    | 0, hf => cases hf; (show _ = _); kernel_rfl
    | 1, hf => cases hf; (show _ = _); kernel_rfl
    | 2, hf => cases hf; (show _ = _); kernel_rfl
    | n + 3, hf => cases hf)⟩
def ti146 : TI := ⟨1, 8, false, none, [], .nilFunc, none⟩
theorem ty146 : TyOk Tryz.prog 146 ti146 := TyOk.mk1q
def ti147 : TI := ⟨1, 8, false, none, [], .nilFunc, none⟩
theorem ty147 : TyOk Tryz.prog 147 ti147 := TyOk.mk1q
def ti148 : TI := ⟨1, 8, false, none, [], .nilFunc, none⟩
theorem ty148 : TyOk Tryz.prog 148 ti148 := TyOk.mk1q
def ti149 : TI := ⟨1, 8, false, none, [], .nilFunc, none⟩
theorem ty149 : TyOk Tryz.prog 149 ti149 := TyOk.mk1q
def ti151 : TI := ⟨1, 8, false, none, [], .nilFunc, none⟩
theorem ty151 : TyOk Tryz.prog 151 ti151 := TyOk.mk1q
def ti152 : TI := ⟨1, 8, false, none, [], .nilFunc, none⟩
theorem ty152 : TyOk Tryz.prog 152 ti152 := TyOk.mk1q
def ti153 : TI := ⟨1, 8, false, none, [], .nilFunc, none⟩
theorem ty153 : TyOk Tryz.prog 153 ti153 := TyOk.mk1q
def ti154 : TI := ⟨1, 8, false, none, [], .nilFunc, none⟩
theorem ty154 : TyOk Tryz.prog 154 ti154 := TyOk.mk1q
def ti155 : TI := ⟨1, 8, false, none, [], .int .i64 0, some .i64⟩
theorem ty155 : TyOk Tryz.prog 155 ti155 := TyOk.mk2q
def ti156 : TI := ⟨1, 8, false, none, [], .nilFunc, none⟩
theorem ty156 : TyOk Tryz.prog 156 ti156 := TyOk.mk1q
def ti157 : TI := ⟨1, 8, false, none, [], .nilFunc, none⟩
theorem ty157 : TyOk Tryz.prog 157 ti157 := TyOk.mk1q
def ti158 : TI := ⟨1, 8, false, none, [], .nilFunc, none⟩
theorem ty158 : TyOk Tryz.prog 158 ti158 := TyOk.mk1q
def ti159 : TI := ⟨1, 8, false, none, [], .nilFunc, none⟩
theorem ty159 : TyOk Tryz.prog 159 ti159 := TyOk.mk1q
def ti160 : TI := ⟨1, 8, false, none, [], .nilFunc, none⟩
theorem ty160 : TyOk Tryz.prog 160 ti160 := TyOk.mk1q
def ti161 : TI := ⟨1, 8, false, none, [], .nilFunc, none⟩
theorem ty161 : TyOk Tryz.prog 161 ti161 := TyOk.mk1q
def ti162 : TI := ⟨1, 8, false, none, [], .nilFunc, none⟩
theorem ty162 : TyOk Tryz.prog 162 ti162 := TyOk.mk1q
def ti163 : TI := ⟨1, 8, false, none, [], .nilFunc, none⟩
theorem ty163 : TyOk Tryz.prog 163 ti163 := TyOk.mk1q
def ti164 : TI := ⟨1, 8, false, none, [], .nilFunc, none⟩
theorem ty164 : TyOk Tryz.prog 164 ti164 := TyOk.mk1q
def ti165 : TI := ⟨1, 8, false, none, [], .nilFunc, none⟩
theorem ty165 : TyOk Tryz.prog 165 ti165 := TyOk.mk1q
def ti166 : TI := ⟨1, 8, false, none, [], .nilFunc, none⟩
theorem ty166 : TyOk Tryz.prog 166 ti166 := TyOk.mk1q
def ti167 : TI := ⟨1, 8, false, none, [], .nilFunc, none⟩
theorem ty167 : TyOk Tryz.prog 167 ti167 := TyOk.mk1q
def ti168 : TI := ⟨1, 8, false, none, [], .nilFunc, none⟩
theorem ty168 : TyOk Tryz.prog 168 ti168 := TyOk.mk1q
def ti169 : TI := ⟨1, 8, false, none, [], .nilFunc, none⟩
theorem ty169 : TyOk Tryz.prog 169 ti169 := TyOk.mk1q
def ti170 : TI := ⟨1, 8, false, none, [], .nilFunc, none⟩
theorem ty170 : TyOk Tryz.prog 170 ti170 := TyOk.mk1q
def ti171 : TI := ⟨1, 8, false, none, [], .nilFunc, none⟩
theorem ty171 : TyOk Tryz.prog 171 ti171 := TyOk.mk1q
def ti172 : TI := ⟨1, 8, false, none, [], .nilFunc, none⟩
theorem ty172 : TyOk Tryz.prog 172 ti172 := TyOk.mk1q
def ti174 : TI := ⟨1, 8, false, none, [], .nilFunc, none⟩
theorem ty174 : TyOk Tryz.prog 174 ti174 := TyOk.mk1q
def ti175 : TI := ⟨1, 8, false, none, [], .nilFunc, none⟩
theorem ty175 : TyOk Tryz.prog 175 ti175 := TyOk.mk1q
def ti176 : TI := ⟨1, 8, false, none, [], .nilFunc, none⟩
theorem ty176 : TyOk Tryz.prog 176 ti176 := TyOk.mk1q
def ti177 : TI := ⟨1, 8, false, none, [], .nilFunc, none⟩
theorem ty177 : TyOk Tryz.prog 177 ti177 := TyOk.mk1q
def ti178 : TI := ⟨1, 8, false, none, [], .nilFunc, none⟩
theorem ty178 : TyOk Tryz.prog 178 ti178 := TyOk.mk1q
def ti179 : TI := ⟨1, 8, false, none, [], .nilFunc, none⟩
theorem ty179 : TyOk Tryz.prog 179 ti179 := TyOk.mk1q
def ti180 : TI := ⟨1, 8, false, none, [], .nilFunc, none⟩
theorem ty180 : TyOk Tryz.prog 180 ti180 := TyOk.mk1q
def ti182 : TI := ⟨1, 8, false, none, [], .nilFunc, none⟩
theorem ty182 : TyOk Tryz.prog 182 ti182 := TyOk.mk1q
def ti183 : TI := ⟨2, 16, true, none, [0, 1], .agg #[.int .i64 0, .bool false], none⟩
theorem ty183 : TyOk Tryz.prog 183 ti183 := ⟨by kernel_rfl, fun w => by kernel_rfl, fun w => by kernel_rfl, fun w => by kernel_rfl, (fun e he => by cases he), (fun k hk => by cases hk), (fun f o hf w a => by
    match f, hf with
    | 0, hf => cases hf; (show _ = _); kernel_rfl
    | 1, hf => cases hf; (show _ = _); kernel_rfl
    | n + 2, hf => cases hf)⟩
def ti184 : TI := ⟨2, 16, true, none, [0, 1], .agg #[.int .i64 0, .bool false], none⟩
theorem ty184 : TyOk Tryz.prog 184 ti184 := ⟨by kernel_rfl, fun w => by kernel_rfl, fun w => by kernel_rfl, fun w => by kernel_rfl, (fun e he => by cases he), (fun k hk => by cases hk), (fun f o hf w a => by
    match f, hf with
    | 0, hf => cases hf; (show _ = _); kernel_rfl
    | 1, hf => cases hf; (show _ = _); kernel_rfl
    | n + 2, hf => cases hf)⟩
def ti186 : TI := ⟨1, 8, false, none, [], .nilFunc, none⟩
theorem ty186 : TyOk Tryz.prog 186 ti186 := TyOk.mk1q
def ti188 : TI := ⟨1, 8, false, none, [], .nilFunc, none⟩
theorem ty188 : TyOk Tryz.prog 188 ti188 := TyOk.mk1q
def ti189 : TI := ⟨1, 8, false, none, [], .pointer none, none⟩
theorem ty189 : TyOk Tryz.prog 189 ti189 := TyOk.mk1q
def ti190 : TI := ⟨1, 8, false, none, [], .nilFunc, none⟩
theorem ty190 : TyOk Tryz.prog 190 ti190 := TyOk.mk1q
def ti191 : TI := ⟨1, 8, false, none, [], .nilFunc, none⟩
theorem ty191 : TyOk Tryz.prog 191 ti191 := TyOk.mk1q
def ti192 : TI := ⟨1, 8, false, none, [], .nilFunc, none⟩
theorem ty192 : TyOk Tryz.prog 192 ti192 := TyOk.mk1q
def ti193 : TI := ⟨1, 24, false, some 34, [], .slice none 0 0, none⟩
theorem ty193 : TyOk Tryz.prog 193 ti193 := ⟨by kernel_rfl, fun w => by kernel_rfl, fun w => by kernel_rfl, fun w => by kernel_rfl, (fun e he => by cases he; kernel_rfl), (fun k hk => by cases hk), (fun f o hf => by cases f <;> cases hf)⟩
def ti195 : TI := ⟨1, 8, false, none, [], .nilFunc, none⟩
theorem ty195 : TyOk Tryz.prog 195 ti195 := TyOk.mk1q
def ti197 : TI := ⟨1, 8, false, none, [], .nilFunc, none⟩
theorem ty197 : TyOk Tryz.prog 197 ti197 := TyOk.mk1q
def ti199 : TI := ⟨1, 8, false, none, [], .nilFunc, none⟩
theorem ty199 : TyOk Tryz.prog 199 ti199 := TyOk.mk1q
def ti201 : TI := ⟨1, 8, false, none, [], .nilFunc, none⟩
theorem ty201 : TyOk Tryz.prog 201 ti201 := TyOk.mk1q
def ti202 : TI := ⟨1, 8, false, none, [], .nilFunc, none⟩
theorem ty202 : TyOk Tryz.prog 202 ti202 := TyOk.mk1q
def ti203 : TI := ⟨1, 8, false, none, [], .nilFunc, none⟩
theorem ty203 : TyOk Tryz.prog 203 ti203 := TyOk.mk1q
def ti205 : TI := ⟨1, 8, false, none, [], .nilFunc, none⟩
theorem ty205 : TyOk Tryz.prog 205 ti205 := TyOk.mk1q
def ti206 : TI := ⟨1, 8, false, none, [], .nilFunc, none⟩
theorem ty206 : TyOk Tryz.prog 206 ti206 := TyOk.mk1q
def ti207 : TI := ⟨1, 8, false, none, [], .nilFunc, none⟩
theorem ty207 : TyOk Tryz.prog 207 ti207 := TyOk.mk1q
def ti208 : TI := ⟨1, 8, false, none, [], .nilFunc, none⟩
theorem ty208 : TyOk Tryz.prog 208 ti208 := TyOk.mk1q
def ti209 : TI := ⟨1, 8, false, none, [], .nilFunc, none⟩
theorem ty209 : TyOk Tryz.prog 209 ti209 := TyOk.mk1q
def ti210 : TI := ⟨1, 8, false, none, [], .nilFunc, none⟩
theorem ty210 : TyOk Tryz.prog 210 ti210 := TyOk.mk1q
def ti211 : TI := ⟨3, 32, true, none, [0, 1, 2], .agg #[.int .i64 0, .string ByteArray.empty, .int .i64 0], none⟩
theorem ty211 : TyOk Tryz.prog 211 ti211 := ⟨by kernel_rfl, fun w => by kernel_rfl, fun w => by kernel_rfl, fun w => by kernel_rfl, (fun e he => by cases he), (fun k hk => by cases hk), (fun f o hf w a => by
    match f, hf with
    | 0, hf => cases hf; (show _ = _); kernel_rfl
    | 1, hf => cases hf; (show _ = _); kernel_rfl
    | 2, hf => cases hf; (show _ = _); kernel_rfl
    | n + 3, hf => cases hf)⟩
def ti212 : TI := ⟨3, 32, true, none, [0, 1, 2], .agg #[.int .i64 0, .string ByteArray.empty, .int .i64 0], none⟩
theorem ty212 : TyOk Tryz.prog 212 ti212 := ⟨by kernel_rfl, fun w => by kernel_rfl, fun w => by kernel_rfl, fun w => by kernel_rfl, (fun e he => by cases he), (fun k hk => by cases hk), (fun f o hf w a => by
    match f, hf with
    | 0, hf => cases hf; (show _ = _); kernel_rfl
    | 1, hf => cases hf; (show _ = _); kernel_rfl
    | 2, hf => cases hf; (show _ = _); kernel_rfl
    | n + 3, hf => cases hf)⟩
def ti214 : TI := ⟨1, 8, false, none, [], .nilFunc, none⟩
theorem ty214 : TyOk Tryz.prog 214 ti214 := TyOk.mk1q
def ti215 : TI := ⟨1, 8, false, none, [], .nilFunc, none⟩
theorem ty215 : TyOk Tryz.prog 215 ti215 := TyOk.mk1q
def ti216 : TI := ⟨1, 8, false, none, [], .nilFunc, none⟩
theorem ty216 : TyOk Tryz.prog 216 ti216 := TyOk.mk1q
def ti217 : TI := ⟨1, 8, false, none, [], .nilFunc, none⟩
theorem ty217 : TyOk Tryz.prog 217 ti217 := TyOk.mk1q
def ti218 : TI := ⟨1, 8, false, none, [], .nilFunc, none⟩
theorem ty218 : TyOk Tryz.prog 218 ti218 := TyOk.mk1q
def ti219 : TI := ⟨1, 8, false, none, [], .nilFunc, none⟩
theorem ty219 : TyOk Tryz.prog 219 ti219 := TyOk.mk1q
def ti220 : TI := ⟨1, 8, false, none, [], .nilFunc, none⟩
theorem ty220 : TyOk Tryz.prog 220 ti220 := TyOk.mk1q
def ti221 : TI := ⟨1, 8, false, none, [], .nilFunc, none⟩
theorem ty221 : TyOk Tryz.prog 221 ti221 := TyOk.mk1q
def ti222 : TI := ⟨1, 8, false, none, [], .nilFunc, none⟩
theorem ty222 : TyOk Tryz.prog 222 ti222 := TyOk.mk1q
def ti223 : TI := ⟨1, 8, false, none, [], .nilFunc, none⟩
theorem ty223 : TyOk Tryz.prog 223 ti223 := TyOk.mk1q
def ti224 : TI := ⟨1, 24, false, some 9, [], .slice none 0 0, none⟩
theorem ty224 : TyOk Tryz.prog 224 ti224 := ⟨by kernel_rfl, fun w => by kernel_rfl, fun w => by kernel_rfl, fun w => by kernel_rfl, (fun e he => by cases he; kernel_rfl), (fun k hk => by cases hk), (fun f o hf => by cases f <;> cases hf)⟩
def ti226 : TI := ⟨1, 8, false, none, [], .nilFunc, none⟩
theorem ty226 : TyOk Tryz.prog 226 ti226 := TyOk.mk1q
def ti227 : TI := ⟨1, 8, false, none, [], .nilFunc, none⟩
theorem ty227 : TyOk Tryz.prog 227 ti227 := TyOk.mk1q
def ti228 : TI := ⟨1, 8, false, none, [], .nilFunc, none⟩
theorem ty228 : TyOk Tryz.prog 228 ti228 := TyOk.mk1q
def ti229 : TI := ⟨1, 8, false, none, [], .nilFunc, none⟩
theorem ty229 : TyOk Tryz.prog 229 ti229 := TyOk.mk1q
def ti230 : TI := ⟨1, 8, false, none, [], .nilFunc, none⟩
theorem ty230 : TyOk Tryz.prog 230 ti230 := TyOk.mk1q
def ti231 : TI := ⟨1, 8, false, none, [], .nilFunc, none⟩
theorem ty231 : TyOk Tryz.prog 231 ti231 := TyOk.mk1q
def ti232 : TI := ⟨1, 8, false, none, [], .nilFunc, none⟩
theorem ty232 : TyOk Tryz.prog 232 ti232 := TyOk.mk1q
def ti233 : TI := ⟨1, 8, false, none, [], .nilFunc, none⟩
theorem ty233 : TyOk Tryz.prog 233 ti233 := TyOk.mk1q
def ti234 : TI := ⟨1, 24, false, some 212, [], .slice none 0 0, none⟩
theorem ty234 : TyOk Tryz.prog 234 ti234 := ⟨by kernel_rfl, fun w => by kernel_rfl, fun w => by kernel_rfl, fun w => by kernel_rfl, (fun e he => by cases he; kernel_rfl), (fun k hk => by cases hk), (fun f o hf => by cases f <;> cases hf)⟩
def ti235 : TI := ⟨1, 8, false, none, [], .nilFunc, none⟩
theorem ty235 : TyOk Tryz.prog 235 ti235 := TyOk.mk1q
def ti237 : TI := ⟨1, 8, false, none, [], .nilFunc, none⟩
theorem ty237 : TyOk Tryz.prog 237 ti237 := TyOk.mk1q
def ti238 : TI := ⟨1, 8, false, none, [], .nilFunc, none⟩
theorem ty238 : TyOk Tryz.prog 238 ti238 := TyOk.mk1q
def ti239 : TI := ⟨1, 8, false, none, [], .nilFunc, none⟩
theorem ty239 : TyOk Tryz.prog 239 ti239 := TyOk.mk1q
def ti240 : TI := ⟨1, 8, false, none, [], .nilFunc, none⟩
theorem ty240 : TyOk Tryz.prog 240 ti240 := TyOk.mk1q
def ti241 : TI := ⟨1, 8, false, none, [], .nilFunc, none⟩
theorem ty241 : TyOk Tryz.prog 241 ti241 := TyOk.mk1q
def ti242 : TI := ⟨1, 8, false, none, [], .nilFunc, none⟩
theorem ty242 : TyOk Tryz.prog 242 ti242 := TyOk.mk1q
def ti243 : TI := ⟨1, 8, false, none, [], .nilFunc, none⟩
theorem ty243 : TyOk Tryz.prog 243 ti243 := TyOk.mk1q
def ti244 : TI := ⟨1, 24, false, some 247, [], .slice none 0 0, none⟩
theorem ty244 : TyOk Tryz.prog 244 ti244 := ⟨by kernel_rfl, fun w => by kernel_rfl, fun w => by kernel_rfl, fun w => by kernel_rfl, (fun e he => by cases he; kernel_rfl), (fun k hk => by cases hk), (fun f o hf => by cases f <;> cases hf)⟩
def ti245 : TI := ⟨1, 8, false, none, [], .nilFunc, none⟩
theorem ty245 : TyOk Tryz.prog 245 ti245 := TyOk.mk1q
def ti246 : TI := ⟨3, 40, true, none, [0, 1, 2], .agg #[.int .i64 0, .string ByteArray.empty, .string ByteArray.empty], none⟩
theorem ty246 : TyOk Tryz.prog 246 ti246 := ⟨by kernel_rfl, fun w => by kernel_rfl, fun w => by kernel_rfl, fun w => by kernel_rfl, (fun e he => by cases he), (fun k hk => by cases hk), (fun f o hf w a => by
    match f, hf with
    | 0, hf => cases hf; (show _ = _); kernel_rfl
    | 1, hf => cases hf; (show _ = _); kernel_rfl
    | 2, hf => cases hf; (show _ = _); kernel_rfl
    | n + 3, hf => cases hf)⟩
def ti247 : TI := ⟨3, 40, true, none, [0, 1, 2], .agg #[.int .i64 0, .string ByteArray.empty, .string ByteArray.empty], none⟩
theorem ty247 : TyOk Tryz.prog 247 ti247 := ⟨by kernel_rfl, fun w => by kernel_rfl, fun w => by kernel_rfl, fun w => by kernel_rfl, (fun e he => by cases he), (fun k hk => by cases hk), (fun f o hf w a => by
    match f, hf with
    | 0, hf => cases hf; (show _ = _); kernel_rfl
    | 1, hf => cases hf; (show _ = _); kernel_rfl
    | 2, hf => cases hf; (show _ = _); kernel_rfl
    | n + 3, hf => cases hf)⟩
def ti248 : TI := ⟨1, 8, false, none, [], .nilFunc, none⟩
theorem ty248 : TyOk Tryz.prog 248 ti248 := TyOk.mk1q
def ti249 : TI := ⟨1, 8, false, none, [], .nilFunc, none⟩
theorem ty249 : TyOk Tryz.prog 249 ti249 := TyOk.mk1q
def ti250 : TI := ⟨1, 8, false, none, [], .nilFunc, none⟩
theorem ty250 : TyOk Tryz.prog 250 ti250 := TyOk.mk1q
def ti251 : TI := ⟨1, 8, false, none, [], .nilFunc, none⟩
theorem ty251 : TyOk Tryz.prog 251 ti251 := TyOk.mk1q
def ti252 : TI := ⟨256, 256, true, none, [], .agg #[.int .u8 0, .int .u8 0, .int .u8 0, .int .u8 0, .int .u8 0, .int .u8 0, .int .u8 0, .int .u8 0, .int .u8 0, .int .u8 0, .int .u8 0, .int .u8 0, .int .u8 0, .int .u8 0, .int .u8 0, .int .u8 0, .int .u8 0, .int .u8 0, .int .u8 0, .int .u8 0, .int .u8 0, .int .u8 0, .int .u8 0, .int .u8 0, .int .u8 0, .int .u8 0, .int .u8 0, .int .u8 0, .int .u8 0, .int .u8 0, .int .u8 0, .int .u8 0, .int .u8 0, .int .u8 0, .int .u8 0, .int .u8 0, .int .u8 0, .int .u8 0, .int .u8 0, .int .u8 0, .int .u8 0, .int .u8 0, .int .u8 0, .int .u8 0, .int .u8 0, .int .u8 0, .int .u8 0, .int .u8 0, .int .u8 0, .int .u8 0, .int .u8 0, .int .u8 0, .int .u8 0, .int .u8 0, .int .u8 0, .int .u8 0, .int .u8 0, .int .u8 0, .int .u8 0, .int .u8 0, .int .u8 0, .int .u8 0, .int .u8 0, .int .u8 0, .int .u8 0, .int .u8 0, .int .u8 0, .int .u8 0, .int .u8 0, .int .u8 0, .int .u8 0, .int .u8 0, .int .u8 0, .int .u8 0, .int .u8 0, .int .u8 0, .int .u8 0, .int .u8 0, .int .u8 0, .int .u8 0, .int .u8 0, .int .u8 0, .int .u8 0, .int .u8 0, .int .u8 0, .int .u8 0, .int .u8 0, .int .u8 0, .int .u8 0, .int .u8 0, .int .u8 0, .int .u8 0, .int .u8 0, .int .u8 0, .int .u8 0, .int .u8 0, .int .u8 0, .int .u8 0, .int .u8 0, .int .u8 0, .int .u8 0, .int .u8 0, .int .u8 0, .int .u8 0, .int .u8 0, .int .u8 0, .int .u8 0, .int .u8 0, .int .u8 0, .int .u8 0, .int .u8 0, .int .u8 0, .int .u8 0, .int .u8 0, .int .u8 0, .int .u8 0, .int .u8 0, .int .u8 0, .int .u8 0, .int .u8 0, .int .u8 0, .int .u8 0, .int .u8 0, .int .u8 0, .int .u8 0, .int .u8 0, .int .u8 0, .int .u8 0, .int .u8 0, .int .u8 0, .int .u8 0, .int .u8 0, .int .u8 0, .int .u8 0, .int .u8 0, .int .u8 0, .int .u8 0, .int .u8 0, .int .u8 0, .int .u8 0, .int .u8 0, .int .u8 0, .int .u8 0, .int .u8 0, .int .u8 0, .int .u8 0, .int .u8 0, .int .u8 0, .int .u8 0, .int .u8 0, .int .u8 0, .int .u8 0, .int .u8 0, .int .u8 0, .int .u8 0, .int .u8 0, .int .u8 0, .int .u8 0, .int .u8 0, .int .u8 0, .int .u8 0, .int .u8 0, .int .u8 0, .int .u8 0, .int .u8 0, .int .u8 0, .int .u8 0, .int .u8 0, .int .u8 0, .int .u8 0, .int .u8 0, .int .u8 0, .int .u8 0, .int .u8 0, .int .u8 0, .int .u8 0, .int .u8 0, .int .u8 0, .int .u8 0, .int .u8 0, .int .u8 0, .int .u8 0, .int .u8 0, .int .u8 0, .int .u8 0, .int .u8 0, .int .u8 0, .int .u8 0, .int .u8 0, .int .u8 0, .int .u8 0, .int .u8 0, .int .u8 0, .int .u8 0, .int .u8 0, .int .u8 0, .int .u8 0, .int .u8 0, .int .u8 0, .int .u8 0, .int .u8 0, .int .u8 0, .int .u8 0, .int .u8 0, .int .u8 0, .int .u8 0, .int .u8 0, .int .u8 0, .int .u8 0, .int .u8 0, .int .u8 0, .int .u8 0, .int .u8 0, .int .u8 0, .int .u8 0, .int .u8 0, .int .u8 0, .int .u8 0, .int .u8 0, .int .u8 0, .int .u8 0, .int .u8 0, .int .u8 0, .int .u8 0, .int .u8 0, .int .u8 0, .int .u8 0, .int .u8 0, .int .u8 0, .int .u8 0, .int .u8 0, .int .u8 0, .int .u8 0, .int .u8 0, .int .u8 0, .int .u8 0, .int .u8 0, .int .u8 0, .int .u8 0, .int .u8 0, .int .u8 0, .int .u8 0, .int .u8 0, .int .u8 0, .int .u8 0, .int .u8 0, .int .u8 0, .int .u8 0, .int .u8 0, .int .u8 0, .int .u8 0, .int .u8 0, .int .u8 0, .int .u8 0, .int .u8 0, .int .u8 0], none⟩
theorem ty252 : TyOk Tryz.prog 252 ti252 := TyOk.mk1q
def ti253 : TI := ⟨1, 8, false, none, [], .nilFunc, none⟩
theorem ty253 : TyOk Tryz.prog 253 ti253 := TyOk.mk1q
def ti254 : TI := ⟨1, 8, false, none, [], .nilFunc, none⟩
theorem ty254 : TyOk Tryz.prog 254 ti254 := TyOk.mk1q
def ti255 : TI := ⟨1, 8, false, none, [], .nilFunc, none⟩
theorem ty255 : TyOk Tryz.prog 255 ti255 := TyOk.mk1q
def ti256 : TI := ⟨1, 8, false, none, [], .nilFunc, none⟩
theorem ty256 : TyOk Tryz.prog 256 ti256 := TyOk.mk1q
def ti257 : TI := ⟨1, 8, false, none, [], .int .u64 0, some .u64⟩
theorem ty257 : TyOk Tryz.prog 257 ti257 := TyOk.mk2q
def ti258 : TI := ⟨1, 24, false, some 260, [], .slice none 0 0, none⟩
theorem ty258 : TyOk Tryz.prog 258 ti258 := ⟨by kernel_rfl, fun w => by kernel_rfl, fun w => by kernel_rfl, fun w => by kernel_rfl, (fun e he => by cases he; kernel_rfl), (fun k hk => by cases hk), (fun f o hf => by cases f <;> cases hf)⟩
def ti259 : TI := ⟨2, 16, true, none, [0, 1], .agg #[.int .i64 0, .int .i64 0], none⟩
theorem ty259 : TyOk Tryz.prog 259 ti259 := ⟨by kernel_rfl, fun w => by kernel_rfl, fun w => by kernel_rfl, fun w => by kernel_rfl, (fun e he => by cases he), (fun k hk => by cases hk), (fun f o hf w a => by
    match f, hf with
    | 0, hf => cases hf; (show _ = _); kernel_rfl
    | 1, hf => cases hf; (show _ = _); kernel_rfl
    | n + 2, hf => cases hf)⟩
def ti260 : TI := ⟨2, 16, true, none, [0, 1], .agg #[.int .i64 0, .int .i64 0], none⟩
theorem ty260 : TyOk Tryz.prog 260 ti260 := ⟨by kernel_rfl, fun w => by kernel_rfl, fun w => by kernel_rfl, fun w => by kernel_rfl, (fun e he => by cases he), (fun k hk => by cases hk), (fun f o hf w a => by
    match f, hf with
    | 0, hf => cases hf; (show _ = _); kernel_rfl
    | 1, hf => cases hf; (show _ = _); kernel_rfl
    | n + 2, hf => cases hf)⟩
def ti261 : TI := ⟨1, 4, false, none, [], .int .u32 0, some .u32⟩
theorem ty261 : TyOk Tryz.prog 261 ti261 := TyOk.mk2q
def ti262 : TI := ⟨1, 8, false, none, [], .nilFunc, none⟩
theorem ty262 : TyOk Tryz.prog 262 ti262 := TyOk.mk1q
def ti263 : TI := ⟨1, 8, false, none, [], .pointer none, none⟩
theorem ty263 : TyOk Tryz.prog 263 ti263 := TyOk.mk1q
def ti265 : TI := ⟨1, 8, false, none, [], .nilFunc, none⟩
theorem ty265 : TyOk Tryz.prog 265 ti265 := TyOk.mk1q
def ti266 : TI := ⟨1, 24, false, some 272, [], .slice none 0 0, none⟩
theorem ty266 : TyOk Tryz.prog 266 ti266 := ⟨by kernel_rfl, fun w => by kernel_rfl, fun w => by kernel_rfl, fun w => by kernel_rfl, (fun e he => by cases he; kernel_rfl), (fun k hk => by cases hk), (fun f o hf => by cases f <;> cases hf)⟩
def ti267 : TI := ⟨1, 24, false, some 275, [], .slice none 0 0, none⟩
theorem ty267 : TyOk Tryz.prog 267 ti267 := ⟨by kernel_rfl, fun w => by kernel_rfl, fun w => by kernel_rfl, fun w => by kernel_rfl, (fun e he => by cases he; kernel_rfl), (fun k hk => by cases hk), (fun f o hf => by cases f <;> cases hf)⟩
def ti268 : TI := ⟨3, 56, true, none, [0, 1, 2], .agg #[.slice none 0 0, .slice none 0 0, .int .i64 0], none⟩
theorem ty268 : TyOk Tryz.prog 268 ti268 := ⟨by kernel_rfl, fun w => by kernel_rfl, fun w => by kernel_rfl, fun w => by kernel_rfl, (fun e he => by cases he), (fun k hk => by cases hk), (fun f o hf w a => by
    match f, hf with
    | 0, hf => cases hf; (show _ = _); kernel_rfl
    | 1, hf => cases hf; (show _ = _); kernel_rfl
    | 2, hf => cases hf; (show _ = _); kernel_rfl
    | n + 3, hf => cases hf)⟩
def ti269 : TI := ⟨3, 56, true, none, [0, 1, 2], .agg #[.slice none 0 0, .slice none 0 0, .int .i64 0], none⟩
theorem ty269 : TyOk Tryz.prog 269 ti269 := ⟨by kernel_rfl, fun w => by kernel_rfl, fun w => by kernel_rfl, fun w => by kernel_rfl, (fun e he => by cases he), (fun k hk => by cases hk), (fun f o hf w a => by
    match f, hf with
    | 0, hf => cases hf; (show _ = _); kernel_rfl
    | 1, hf => cases hf; (show _ = _); kernel_rfl
    | 2, hf => cases hf; (show _ = _); kernel_rfl
    | n + 3, hf => cases hf)⟩
def ti270 : TI := ⟨1, 2, false, none, [], .int .u16 0, some .u16⟩
theorem ty270 : TyOk Tryz.prog 270 ti270 := TyOk.mk2q
def ti271 : TI := ⟨3, 6, true, none, [0, 1, 2], .agg #[.int .u16 0, .int .u16 0, .int .u16 0], none⟩
theorem ty271 : TyOk Tryz.prog 271 ti271 := ⟨by kernel_rfl, fun w => by kernel_rfl, fun w => by kernel_rfl, fun w => by kernel_rfl, (fun e he => by cases he), (fun k hk => by cases hk), (fun f o hf w a => by
    match f, hf with
    | 0, hf => cases hf; (show _ = _); kernel_rfl
    | 1, hf => cases hf; (show _ = _); kernel_rfl
    | 2, hf => cases hf; (show _ = _); kernel_rfl
    | n + 3, hf => cases hf)⟩
def ti272 : TI := ⟨3, 6, true, none, [0, 1, 2], .agg #[.int .u16 0, .int .u16 0, .int .u16 0], none⟩
theorem ty272 : TyOk Tryz.prog 272 ti272 := ⟨by kernel_rfl, fun w => by kernel_rfl, fun w => by kernel_rfl, fun w => by kernel_rfl, (fun e he => by cases he), (fun k hk => by cases hk), (fun f o hf w a => by
    match f, hf with
    | 0, hf => cases hf; (show _ = _); kernel_rfl
    | 1, hf => cases hf; (show _ = _); kernel_rfl
    | 2, hf => cases hf; (show _ = _); kernel_rfl
    | n + 3, hf => cases hf)⟩
def ti273 : TI := ⟨1, 8, false, none, [], .nilFunc, none⟩
theorem ty273 : TyOk Tryz.prog 273 ti273 := TyOk.mk1q
def ti274 : TI := ⟨3, 12, true, none, [0, 1, 2], .agg #[.int .u32 0, .int .u32 0, .int .u32 0], none⟩
theorem ty274 : TyOk Tryz.prog 274 ti274 := ⟨by kernel_rfl, fun w => by kernel_rfl, fun w => by kernel_rfl, fun w => by kernel_rfl, (fun e he => by cases he), (fun k hk => by cases hk), (fun f o hf w a => by
    match f, hf with
    | 0, hf => cases hf; (show _ = _); kernel_rfl
    | 1, hf => cases hf; (show _ = _); kernel_rfl
    | 2, hf => cases hf; (show _ = _); kernel_rfl
    | n + 3, hf => cases hf)⟩
def ti275 : TI := ⟨3, 12, true, none, [0, 1, 2], .agg #[.int .u32 0, .int .u32 0, .int .u32 0], none⟩
theorem ty275 : TyOk Tryz.prog 275 ti275 := ⟨by kernel_rfl, fun w => by kernel_rfl, fun w => by kernel_rfl, fun w => by kernel_rfl, (fun e he => by cases he), (fun k hk => by cases hk), (fun f o hf w a => by
    match f, hf with
    | 0, hf => cases hf; (show _ = _); kernel_rfl
    | 1, hf => cases hf; (show _ = _); kernel_rfl
    | 2, hf => cases hf; (show _ = _); kernel_rfl
    | n + 3, hf => cases hf)⟩
def ti276 : TI := ⟨1, 8, false, none, [], .nilFunc, none⟩
theorem ty276 : TyOk Tryz.prog 276 ti276 := TyOk.mk1q
def ti277 : TI := ⟨1, 8, false, none, [], .pointer none, none⟩
theorem ty277 : TyOk Tryz.prog 277 ti277 := TyOk.mk1q
def ti278 : TI := ⟨1, 8, false, none, [], .pointer none, none⟩
theorem ty278 : TyOk Tryz.prog 278 ti278 := TyOk.mk1q
def ti279 : TI := ⟨1, 8, false, none, [], .nilFunc, none⟩
theorem ty279 : TyOk Tryz.prog 279 ti279 := TyOk.mk1q
def ti280 : TI := ⟨4, 40, true, none, [0, 1, 2, 3], .agg #[.pointer none, .pointer none, .pointer none, .string ByteArray.empty], none⟩
theorem ty280 : TyOk Tryz.prog 280 ti280 := ⟨by kernel_rfl, fun w => by kernel_rfl, fun w => by kernel_rfl, fun w => by kernel_rfl, (fun e he => by cases he), (fun k hk => by cases hk), (fun f o hf w a => by
    match f, hf with
    | 0, hf => cases hf; (show _ = _); kernel_rfl
    | 1, hf => cases hf; (show _ = _); kernel_rfl
    | 2, hf => cases hf; (show _ = _); kernel_rfl
    | 3, hf => cases hf; (show _ = _); kernel_rfl
    | n + 4, hf => cases hf)⟩
def ti281 : TI := ⟨4, 40, true, none, [0, 1, 2, 3], .agg #[.pointer none, .pointer none, .pointer none, .string ByteArray.empty], none⟩
theorem ty281 : TyOk Tryz.prog 281 ti281 := ⟨by kernel_rfl, fun w => by kernel_rfl, fun w => by kernel_rfl, fun w => by kernel_rfl, (fun e he => by cases he), (fun k hk => by cases hk), (fun f o hf w a => by
    match f, hf with
    | 0, hf => cases hf; (show _ = _); kernel_rfl
    | 1, hf => cases hf; (show _ = _); kernel_rfl
    | 2, hf => cases hf; (show _ = _); kernel_rfl
    | 3, hf => cases hf; (show _ = _); kernel_rfl
    | n + 4, hf => cases hf)⟩
def ti282 : TI := ⟨0, 0, true, none, [], .agg #[], none⟩
theorem ty282 : TyOk Tryz.prog 282 ti282 := TyOk.mk1q
def ti285 : TI := ⟨1, 1, false, none, [], .int .u8 0, some .u8⟩
theorem ty285 : TyOk Tryz.prog 285 ti285 := TyOk.mk2q
def ti286 : TI := ⟨1, 1, false, none, [], .int .u8 0, some .u8⟩
theorem ty286 : TyOk Tryz.prog 286 ti286 := TyOk.mk2q
def ti287 : TI := ⟨1, 8, false, none, [], .nilFunc, none⟩
theorem ty287 : TyOk Tryz.prog 287 ti287 := TyOk.mk1q
def ti288 : TI := ⟨1, 8, false, none, [], .pointer none, none⟩
theorem ty288 : TyOk Tryz.prog 288 ti288 := TyOk.mk1q
def ti289 : TI := ⟨1, 4, false, none, [], .int .i32 0, some .i32⟩
theorem ty289 : TyOk Tryz.prog 289 ti289 := TyOk.mk2q
def ti290 : TI := ⟨1, 4, false, none, [], .int .i32 0, some .i32⟩
theorem ty290 : TyOk Tryz.prog 290 ti290 := TyOk.mk2q
def ti291 : TI := ⟨11, 48, true, none, [0, 1, 2, 3, 4, 5, 6, 7, 8, 9, 10], .agg #[.int .u64 0, .int .u64 0, .int .u32 0, .int .u8 0, .int .u8 0, .int .u8 0, .int .u8 0, .nilFunc, .pointer none, .int .i32 0, .int .i32 0], none⟩
theorem ty291 : TyOk Tryz.prog 291 ti291 := ⟨by kernel_rfl, fun w => by kernel_rfl, fun w => by kernel_rfl, fun w => by kernel_rfl, (fun e he => by cases he), (fun k hk => by cases hk), (fun f o hf w a => by
    match f, hf with
    | 0, hf => cases hf; (show _ = _); kernel_rfl
    | 1, hf => cases hf; (show _ = _); kernel_rfl
    | 2, hf => cases hf; (show _ = _); kernel_rfl
    | 3, hf => cases hf; (show _ = _); kernel_rfl
    | 4, hf => cases hf; (show _ = _); kernel_rfl
    | 5, hf => cases hf; (show _ = _); kernel_rfl
    | 6, hf => cases hf; (show _ = _); kernel_rfl
    | 7, hf => cases hf; (show _ = _); kernel_rfl
    | 8, hf => cases hf; (show _ = _); kernel_rfl
    | 9, hf => cases hf; (show _ = _); kernel_rfl
    | 10, hf => cases hf; (show _ = _); kernel_rfl
    | n + 11, hf => cases hf)⟩
def ti292 : TI := ⟨11, 48, true, none, [0, 1, 2, 3, 4, 5, 6, 7, 8, 9, 10], .agg #[.int .u64 0, .int .u64 0, .int .u32 0, .int .u8 0, .int .u8 0, .int .u8 0, .int .u8 0, .nilFunc, .pointer none, .int .i32 0, .int .i32 0], none⟩
theorem ty292 : TyOk Tryz.prog 292 ti292 := ⟨by kernel_rfl, fun w => by kernel_rfl, fun w => by kernel_rfl, fun w => by kernel_rfl, (fun e he => by cases he), (fun k hk => by cases hk), (fun f o hf w a => by
    match f, hf with
    | 0, hf => cases hf; (show _ = _); kernel_rfl
    | 1, hf => cases hf; (show _ = _); kernel_rfl
    | 2, hf => cases hf; (show _ = _); kernel_rfl
    | 3, hf => cases hf; (show _ = _); kernel_rfl
    | 4, hf => cases hf; (show _ = _); kernel_rfl
    | 5, hf => cases hf; (show _ = _); kernel_rfl
    | 6, hf => cases hf; (show _ = _); kernel_rfl
    | 7, hf => cases hf; (show _ = _); kernel_rfl
    | 8, hf => cases hf; (show _ = _); kernel_rfl
    | 9, hf => cases hf; (show _ = _); kernel_rfl
    | 10, hf => cases hf; (show _ = _); kernel_rfl
    | n + 11, hf => cases hf)⟩
def ti293 : TI := ⟨1, 24, false, some 5, [], .slice none 0 0, none⟩
theorem ty293 : TyOk Tryz.prog 293 ti293 := ⟨by kernel_rfl, fun w => by kernel_rfl, fun w => by kernel_rfl, fun w => by kernel_rfl, (fun e he => by cases he; kernel_rfl), (fun k hk => by cases hk), (fun f o hf => by cases f <;> cases hf)⟩
def ti294 : TI := ⟨4, 64, true, none, [0, 1, 2, 3], .agg #[.int .i64 0, .int .i64 0, .slice none 0 0, .slice none 0 0], none⟩
theorem ty294 : TyOk Tryz.prog 294 ti294 := ⟨by kernel_rfl, fun w => by kernel_rfl, fun w => by kernel_rfl, fun w => by kernel_rfl, (fun e he => by cases he), (fun k hk => by cases hk), (fun f o hf w a => by
    match f, hf with
    | 0, hf => cases hf; (show _ = _); kernel_rfl
    | 1, hf => cases hf; (show _ = _); kernel_rfl
    | 2, hf => cases hf; (show _ = _); kernel_rfl
    | 3, hf => cases hf; (show _ = _); kernel_rfl
    | n + 4, hf => cases hf)⟩
def ti295 : TI := ⟨4, 64, true, none, [0, 1, 2, 3], .agg #[.int .i64 0, .int .i64 0, .slice none 0 0, .slice none 0 0], none⟩
theorem ty295 : TyOk Tryz.prog 295 ti295 := ⟨by kernel_rfl, fun w => by kernel_rfl, fun w => by kernel_rfl, fun w => by kernel_rfl, (fun e he => by cases he), (fun k hk => by cases hk), (fun f o hf w a => by
    match f, hf with
    | 0, hf => cases hf; (show _ = _); kernel_rfl
    | 1, hf => cases hf; (show _ = _); kernel_rfl
    | 2, hf => cases hf; (show _ = _); kernel_rfl
    | 3, hf => cases hf; (show _ = _); kernel_rfl
    | n + 4, hf => cases hf)⟩
def ti296 : TI := ⟨3, 48, true, none, [0, 1, 2], .agg #[.int .i64 0, .string ByteArray.empty, .slice none 0 0], none⟩
theorem ty296 : TyOk Tryz.prog 296 ti296 := ⟨by kernel_rfl, fun w => by kernel_rfl, fun w => by kernel_rfl, fun w => by kernel_rfl, (fun e he => by cases he), (fun k hk => by cases hk), (fun f o hf w a => by
    match f, hf with
    | 0, hf => cases hf; (show _ = _); kernel_rfl
    | 1, hf => cases hf; (show _ = _); kernel_rfl
    | 2, hf => cases hf; (show _ = _); kernel_rfl
    | n + 3, hf => cases hf)⟩
def ti297 : TI := ⟨3, 48, true, none, [0, 1, 2], .agg #[.int .i64 0, .string ByteArray.empty, .slice none 0 0], none⟩
theorem ty297 : TyOk Tryz.prog 297 ti297 := ⟨by kernel_rfl, fun w => by kernel_rfl, fun w => by kernel_rfl, fun w => by kernel_rfl, (fun e he => by cases he), (fun k hk => by cases hk), (fun f o hf w a => by
    match f, hf with
    | 0, hf => cases hf; (show _ = _); kernel_rfl
    | 1, hf => cases hf; (show _ = _); kernel_rfl
    | 2, hf => cases hf; (show _ = _); kernel_rfl
    | n + 3, hf => cases hf)⟩
def ti298 : TI := ⟨1, 8, false, none, [], .pointer none, none⟩
theorem ty298 : TyOk Tryz.prog 298 ti298 := TyOk.mk1q
def tbl : List (Option TI) := [none, some ti1, some ti2, some ti3, some ti4, some ti5, some ti6, some ti7, some ti8, some ti9, some ti10, some ti11, some ti12, some ti13, some ti14, some ti15, some ti16, some ti17, some ti18, some ti19, some ti20, some ti21, some ti22, some ti23, some ti24, some ti25, some ti26, some ti27, some ti28, some ti29, some ti30, some ti31, some ti32, some ti33, some ti34, some ti35, some ti36, some ti37, some ti38, some ti39, some ti40, some ti41, some ti42, some ti43, some ti44, some ti45, some ti46, some ti47, some ti48, none, some ti50, some ti51, some ti52, some ti53, some ti54, some ti55, some ti56, some ti57, some ti58, some ti59, some ti60, some ti61, some ti62, some ti63, some ti64, some ti65, some ti66, some ti67, some ti68, some ti69, some ti70, some ti71, some ti72, some ti73, some ti74, some ti75, none, some ti77, some ti78, some ti79, some ti80, some ti81, some ti82, some ti83, some ti84, some ti85, some ti86, some ti87, some ti88, some ti89, some ti90, some ti91, some ti92, some ti93, some ti94, some ti95, some ti96, some ti97, some ti98, some ti99, some ti100, some ti101, some ti102, some ti103, some ti104, some ti105, some ti106, some ti107, some ti108, some ti109, some ti110, some ti111, some ti112, some ti113, some ti114, some ti115, some ti116, some ti117, some ti118, some ti119, some ti120, some ti121, none, some ti123, some ti124, some ti125, some ti126, some ti127, some ti128, some ti129, some ti130, some ti131, some ti132, some ti133, some ti134, some ti135, some ti136, some ti137, none, some ti139, some ti140, some ti141, some ti142, some ti143, some ti144, some ti145, some ti146, some ti147, some ti148, some ti149, none, some ti151, some ti152, some ti153, some ti154, some ti155, some ti156, some ti157, some ti158, some ti159, some ti160, some ti161, some ti162, some ti163, some ti164, some ti165, some ti166, some ti167, some ti168, some ti169, some ti170, some ti171, some ti172, none, some ti174, some ti175, some ti176, some ti177, some ti178, some ti179, some ti180, none, some ti182, some ti183, some ti184, none, some ti186, none, some ti188, some ti189, some ti190, some ti191, some ti192, some ti193, none, some ti195, none, some ti197, none, some ti199, none, some ti201, some ti202, some ti203, none, some ti205, some ti206, some ti207, some ti208, some ti209, some ti210, some ti211, some ti212, none, some ti214, some ti215, some ti216, some ti217, some ti218, some ti219, some ti220, some ti221, some ti222, some ti223, some ti224, none, some ti226, some ti227, some ti228, some ti229, some ti230, some ti231, some ti232, some ti233, some ti234, some ti235, none, some ti237, some ti238, some ti239, some ti240, some ti241, some ti242, some ti243, some ti244, some ti245, some ti246, some ti247, some ti248, some ti249, some ti250, some ti251, some ti252, some ti253, some ti254, some ti255, some ti256, some ti257, some ti258, some ti259, some ti260, some ti261, some ti262, some ti263, none, some ti265, some ti266, some ti267, some ti268, some ti269, some ti270, some ti271, some ti272, some ti273, some ti274, some ti275, some ti276, some ti277, some ti278, some ti279, some ti280, some ti281, some ti282, none, none, some ti285, some ti286, some ti287, some ti288, some ti289, some ti290, some ti291, some ti292, some ti293, some ti294, some ti295, some ti296, some ti297, some ti298]
theorem tbl_ok : AllTy Tryz.prog tbl 0 := ⟨ty1, ty2, ty3, ty4, ty5, ty6, ty7, ty8, ty9, ty10, ty11, ty12, ty13, ty14, ty15, ty16, ty17, ty18, ty19, ty20, ty21, ty22, ty23, ty24, ty25, ty26, ty27, ty28, ty29, ty30, ty31, ty32, ty33, ty34, ty35, ty36, ty37, ty38, ty39, ty40, ty41, ty42, ty43, ty44, ty45, ty46, ty47, ty48, ty50, ty51, ty52, ty53, ty54, ty55, ty56, ty57, ty58, ty59, ty60, ty61, ty62, ty63, ty64, ty65, ty66, ty67, ty68, ty69, ty70, ty71, ty72, ty73, ty74, ty75, ty77, ty78, ty79, ty80, ty81, ty82, ty83, ty84, ty85, ty86, ty87, ty88, ty89, ty90, ty91, ty92, ty93, ty94, ty95, ty96, ty97, ty98, ty99, ty100, ty101, ty102, ty103, ty104, ty105, ty106, ty107, ty108, ty109, ty110, ty111, ty112, ty113, ty114, ty115, ty116, ty117, ty118, ty119, ty120, ty121, ty123, ty124, ty125, ty126, ty127, ty128, ty129, ty130, ty131, ty132, ty133, ty134, ty135, ty136, ty137, ty139, ty140, ty141, ty142, ty143, ty144, ty145, ty146, ty147, ty148, ty149, ty151, ty152, ty153, ty154, ty155, ty156, ty157, ty158, ty159, ty160, ty161, ty162, ty163, ty164, ty165, ty166, ty167, ty168, ty169, ty170, ty171, ty172, ty174, ty175, ty176, ty177, ty178, ty179, ty180, ty182, ty183, ty184, ty186, ty188, ty189, ty190, ty191, ty192, ty193, ty195, ty197, ty199, ty201, ty202, ty203, ty205, ty206, ty207, ty208, ty209, ty210, ty211, ty212, ty214, ty215, ty216, ty217, ty218, ty219, ty220, ty221, ty222, ty223, ty224, ty226, ty227, ty228, ty229, ty230, ty231, ty232, ty233, ty234, ty235, ty237, ty238, ty239, ty240, ty241, ty242, ty243, ty244, ty245, ty246, ty247, ty248, ty249, ty250, ty251, ty252, ty253, ty254, ty255, ty256, ty257, ty258, ty259, ty260, ty261, ty262, ty263, ty265, ty266, ty267, ty268, ty269, ty270, ty271, ty272, ty273, ty274, ty275, ty276, ty277, ty278, ty279, ty280, ty281, ty282, ty285, ty286, ty287, ty288, ty289, ty290, ty291, ty292, ty293, ty294, ty295, ty296, ty297, ty298, trivial⟩
def ftb : List Bool := [false, false, true, true, true, true, true, true, true, true, true, true, true, true, true, true, true, true, true, true, true, true, true, true, true, true, true, true, true, true, true, true, true, true, true, true, true, true, true, true, true, true, true, true, true, true, true, true, true, true, true, true, true, true, true, true, true, true, true, true, true, true, true, true, true, true, true, true, true, true, true, true, true, true, true, true, true, true, true, true, true, true, true, true, true, true, true, true, true, true, true, true, true, true, true, true, true, true, true, true, true, true, true, true, true, true, true, true, true, true, true, true, true, true, true, true, true, true, true, true, true, true, true, true, true, true, true, true, true, true, true, true, true, true, true, true, true, true, true, true, true, true, true, true, true, true, true, true, true, true, true, true, true, true, true, true, true, true, true, true, true, true, true, true, true, true, true, true, true, true, true, true, true, true, true, true, true, true, true, true, true, true, true, true, true, true, true, true, true, true, true, true, true, true, true, true, true, false, true, true, true, false, true, true, true, false, false, false, false, false, false, false, false, false, false, false, false, false, false, false, false, false, false, false, false, false, false, false, true]
theorem ftb_ok : fbs Tryz.prog ftb 0 = true := by kernel_rfl
noncomputable def G : Prg := ⟨Tryz.prog, tbl, ftb, fun t i h => by simpa using AllTy.get tbl 0 tbl_ok t i h, fun f h vs w => fchk_ok (by simpa using fbs_ok ftb 0 ftb_ok f h) vs w, by kernel_rfl⟩
end Go.Proofs.YtgbgnipidakdhaaGreatDoor
