/- The rows of the types and functions that the walk's own rules look up; printed by gen_g.py off the seat's translation. -/
import Derived.Test.YtmkgfccfnpmcjaaDoorJA
namespace Go.Proofs.YtmkgfccfnpmcjaaDoor
set_option maxRecDepth 100000

def ti1 : TI := ⟨1, 8, false, none, [], .nilFunc, none⟩
theorem ty1 : TyOk Tryd.prog 1 ti1 := ⟨by kernel_rfl, fun w => by kernel_rfl, fun w => by kernel_rfl, fun w => by kernel_rfl, (fun e he => by cases he), (fun k hk => by cases hk), (fun f o hf => by cases f <;> cases hf)⟩
def ti2 : TI := ⟨1, 8, false, none, [], .int .i64 0, some .i64⟩
theorem ty2 : TyOk Tryd.prog 2 ti2 := ⟨by kernel_rfl, fun w => by kernel_rfl, fun w => by kernel_rfl, fun w => by kernel_rfl, (fun e he => by cases he), (fun k hk => by cases hk; kernel_rfl), (fun f o hf => by cases f <;> cases hf)⟩
def ti3 : TI := ⟨1, 8, false, none, [], .int .i64 0, some .i64⟩
theorem ty3 : TyOk Tryd.prog 3 ti3 := ⟨by kernel_rfl, fun w => by kernel_rfl, fun w => by kernel_rfl, fun w => by kernel_rfl, (fun e he => by cases he), (fun k hk => by cases hk; kernel_rfl), (fun f o hf => by cases f <;> cases hf)⟩
def ti4 : TI := ⟨1, 1, false, none, [], .bool false, none⟩
theorem ty4 : TyOk Tryd.prog 4 ti4 := ⟨by kernel_rfl, fun w => by kernel_rfl, fun w => by kernel_rfl, fun w => by kernel_rfl, (fun e he => by cases he), (fun k hk => by cases hk), (fun f o hf => by cases f <;> cases hf)⟩
def ti5 : TI := ⟨1, 1, false, none, [], .int .u8 0, some .u8⟩
theorem ty5 : TyOk Tryd.prog 5 ti5 := ⟨by kernel_rfl, fun w => by kernel_rfl, fun w => by kernel_rfl, fun w => by kernel_rfl, (fun e he => by cases he), (fun k hk => by cases hk; kernel_rfl), (fun f o hf => by cases f <;> cases hf)⟩
def ti6 : TI := ⟨1, 1, false, none, [], .int .u8 0, some .u8⟩
theorem ty6 : TyOk Tryd.prog 6 ti6 := ⟨by kernel_rfl, fun w => by kernel_rfl, fun w => by kernel_rfl, fun w => by kernel_rfl, (fun e he => by cases he), (fun k hk => by cases hk; kernel_rfl), (fun f o hf => by cases f <;> cases hf)⟩
def ti7 : TI := ⟨4, 24, true, none, [0, 1, 2, 3], .agg #[.int .i64 0, .int .i64 0, .bool false, .int .u8 0], none⟩
theorem ty7 : TyOk Tryd.prog 7 ti7 := ⟨by kernel_rfl, fun w => by kernel_rfl, fun w => by kernel_rfl, fun w => by kernel_rfl, (fun e he => by cases he), (fun k hk => by cases hk), (fun f o hf w a => by
    match f, hf with
    | 0, hf => cases hf; (show _ = _); kernel_rfl
    | 1, hf => cases hf; (show _ = _); kernel_rfl
    | 2, hf => cases hf; (show _ = _); kernel_rfl
    | 3, hf => cases hf; (show _ = _); kernel_rfl
    | n + 4, hf => cases hf)⟩
def ti8 : TI := ⟨4, 24, true, none, [0, 1, 2, 3], .agg #[.int .i64 0, .int .i64 0, .bool false, .int .u8 0], none⟩
theorem ty8 : TyOk Tryd.prog 8 ti8 := ⟨by kernel_rfl, fun w => by kernel_rfl, fun w => by kernel_rfl, fun w => by kernel_rfl, (fun e he => by cases he), (fun k hk => by cases hk), (fun f o hf w a => by
    match f, hf with
    | 0, hf => cases hf; (show _ = _); kernel_rfl
    | 1, hf => cases hf; (show _ = _); kernel_rfl
    | 2, hf => cases hf; (show _ = _); kernel_rfl
    | 3, hf => cases hf; (show _ = _); kernel_rfl
    | n + 4, hf => cases hf)⟩
def ti9 : TI := ⟨1, 16, false, none, [], .string ByteArray.empty, none⟩
theorem ty9 : TyOk Tryd.prog 9 ti9 := ⟨by kernel_rfl, fun w => by kernel_rfl, fun w => by kernel_rfl, fun w => by kernel_rfl, (fun e he => by cases he), (fun k hk => by cases hk), (fun f o hf => by cases f <;> cases hf)⟩
def ti10 : TI := ⟨1, 16, false, none, [], .string ByteArray.empty, none⟩
theorem ty10 : TyOk Tryd.prog 10 ti10 := ⟨by kernel_rfl, fun w => by kernel_rfl, fun w => by kernel_rfl, fun w => by kernel_rfl, (fun e he => by cases he), (fun k hk => by cases hk), (fun f o hf => by cases f <;> cases hf)⟩
def ti11 : TI := ⟨1, 16, false, none, [], .string ByteArray.empty, none⟩
theorem ty11 : TyOk Tryd.prog 11 ti11 := ⟨by kernel_rfl, fun w => by kernel_rfl, fun w => by kernel_rfl, fun w => by kernel_rfl, (fun e he => by cases he), (fun k hk => by cases hk), (fun f o hf => by cases f <;> cases hf)⟩
def ti12 : TI := ⟨1, 8, false, none, [], .int .u64 0, some .u64⟩
theorem ty12 : TyOk Tryd.prog 12 ti12 := ⟨by kernel_rfl, fun w => by kernel_rfl, fun w => by kernel_rfl, fun w => by kernel_rfl, (fun e he => by cases he), (fun k hk => by cases hk; kernel_rfl), (fun f o hf => by cases f <;> cases hf)⟩
def ti13 : TI := ⟨2, 24, true, none, [0, 1], .agg #[.string ByteArray.empty, .int .u64 0], none⟩
theorem ty13 : TyOk Tryd.prog 13 ti13 := ⟨by kernel_rfl, fun w => by kernel_rfl, fun w => by kernel_rfl, fun w => by kernel_rfl, (fun e he => by cases he), (fun k hk => by cases hk), (fun f o hf w a => by
    match f, hf with
    | 0, hf => cases hf; (show _ = _); kernel_rfl
    | 1, hf => cases hf; (show _ = _); kernel_rfl
    | n + 2, hf => cases hf)⟩
def ti14 : TI := ⟨2, 24, true, none, [0, 1], .agg #[.string ByteArray.empty, .int .u64 0], none⟩
theorem ty14 : TyOk Tryd.prog 14 ti14 := ⟨by kernel_rfl, fun w => by kernel_rfl, fun w => by kernel_rfl, fun w => by kernel_rfl, (fun e he => by cases he), (fun k hk => by cases hk), (fun f o hf w a => by
    match f, hf with
    | 0, hf => cases hf; (show _ = _); kernel_rfl
    | 1, hf => cases hf; (show _ = _); kernel_rfl
    | n + 2, hf => cases hf)⟩
def ti15 : TI := ⟨1, 8, false, none, [], .pointer none, none⟩
theorem ty15 : TyOk Tryd.prog 15 ti15 := ⟨by kernel_rfl, fun w => by kernel_rfl, fun w => by kernel_rfl, fun w => by kernel_rfl, (fun e he => by cases he), (fun k hk => by cases hk), (fun f o hf => by cases f <;> cases hf)⟩
def ti16 : TI := ⟨1, 8, false, none, [], .pointer none, none⟩
theorem ty16 : TyOk Tryd.prog 16 ti16 := ⟨by kernel_rfl, fun w => by kernel_rfl, fun w => by kernel_rfl, fun w => by kernel_rfl, (fun e he => by cases he), (fun k hk => by cases hk), (fun f o hf => by cases f <;> cases hf)⟩
def ti17 : TI := ⟨1, 8, false, none, [], .pointer none, none⟩
theorem ty17 : TyOk Tryd.prog 17 ti17 := ⟨by kernel_rfl, fun w => by kernel_rfl, fun w => by kernel_rfl, fun w => by kernel_rfl, (fun e he => by cases he), (fun k hk => by cases hk), (fun f o hf => by cases f <;> cases hf)⟩
def ti18 : TI := ⟨1, 8, true, none, [0], .agg #[.pointer none], none⟩
theorem ty18 : TyOk Tryd.prog 18 ti18 := ⟨by kernel_rfl, fun w => by kernel_rfl, fun w => by kernel_rfl, fun w => by kernel_rfl, (fun e he => by cases he), (fun k hk => by cases hk), (fun f o hf w a => by
    match f, hf with
    | 0, hf => cases hf; (show _ = _); kernel_rfl
    | n + 1, hf => cases hf)⟩
def ti19 : TI := ⟨1, 8, true, none, [0], .agg #[.pointer none], none⟩
theorem ty19 : TyOk Tryd.prog 19 ti19 := ⟨by kernel_rfl, fun w => by kernel_rfl, fun w => by kernel_rfl, fun w => by kernel_rfl, (fun e he => by cases he), (fun k hk => by cases hk), (fun f o hf w a => by
    match f, hf with
    | 0, hf => cases hf; (show _ = _); kernel_rfl
    | n + 1, hf => cases hf)⟩
def ti20 : TI := ⟨1, 16, false, none, [], .nilIface, none⟩
theorem ty20 : TyOk Tryd.prog 20 ti20 := ⟨by kernel_rfl, fun w => by kernel_rfl, fun w => by kernel_rfl, fun w => by kernel_rfl, (fun e he => by cases he), (fun k hk => by cases hk), (fun f o hf => by cases f <;> cases hf)⟩
def ti21 : TI := ⟨1, 4, false, none, [], .int .i32 0, some .i32⟩
theorem ty21 : TyOk Tryd.prog 21 ti21 := ⟨by kernel_rfl, fun w => by kernel_rfl, fun w => by kernel_rfl, fun w => by kernel_rfl, (fun e he => by cases he), (fun k hk => by cases hk; kernel_rfl), (fun f o hf => by cases f <;> cases hf)⟩
def ti22 : TI := ⟨1, 24, false, some 57, [], .slice none 0 0, none⟩
theorem ty22 : TyOk Tryd.prog 22 ti22 := ⟨by kernel_rfl, fun w => by kernel_rfl, fun w => by kernel_rfl, fun w => by kernel_rfl, (fun e he => by cases he; kernel_rfl), (fun k hk => by cases hk), (fun f o hf => by cases f <;> cases hf)⟩
def ti23 : TI := ⟨1, 8, false, none, [], .nilFunc, none⟩
theorem ty23 : TyOk Tryd.prog 23 ti23 := ⟨by kernel_rfl, fun w => by kernel_rfl, fun w => by kernel_rfl, fun w => by kernel_rfl, (fun e he => by cases he), (fun k hk => by cases hk), (fun f o hf => by cases f <;> cases hf)⟩
def ti24 : TI := ⟨1, 24, false, some 97, [], .slice none 0 0, none⟩
theorem ty24 : TyOk Tryd.prog 24 ti24 := ⟨by kernel_rfl, fun w => by kernel_rfl, fun w => by kernel_rfl, fun w => by kernel_rfl, (fun e he => by cases he; kernel_rfl), (fun k hk => by cases hk), (fun f o hf => by cases f <;> cases hf)⟩
def ti25 : TI := ⟨1, 24, false, some 45, [], .slice none 0 0, none⟩
theorem ty25 : TyOk Tryd.prog 25 ti25 := ⟨by kernel_rfl, fun w => by kernel_rfl, fun w => by kernel_rfl, fun w => by kernel_rfl, (fun e he => by cases he; kernel_rfl), (fun k hk => by cases hk), (fun f o hf => by cases f <;> cases hf)⟩
def ti26 : TI := ⟨1, 24, false, some 56, [], .slice none 0 0, none⟩
theorem ty26 : TyOk Tryd.prog 26 ti26 := ⟨by kernel_rfl, fun w => by kernel_rfl, fun w => by kernel_rfl, fun w => by kernel_rfl, (fun e he => by cases he; kernel_rfl), (fun k hk => by cases hk), (fun f o hf => by cases f <;> cases hf)⟩
def ti27 : TI := ⟨1, 24, false, some 41, [], .slice none 0 0, none⟩
theorem ty27 : TyOk Tryd.prog 27 ti27 := ⟨by kernel_rfl, fun w => by kernel_rfl, fun w => by kernel_rfl, fun w => by kernel_rfl, (fun e he => by cases he; kernel_rfl), (fun k hk => by cases hk), (fun f o hf => by cases f <;> cases hf)⟩
def ti28 : TI := ⟨1, 24, false, some 39, [], .slice none 0 0, none⟩
theorem ty28 : TyOk Tryd.prog 28 ti28 := ⟨by kernel_rfl, fun w => by kernel_rfl, fun w => by kernel_rfl, fun w => by kernel_rfl, (fun e he => by cases he; kernel_rfl), (fun k hk => by cases hk), (fun f o hf => by cases f <;> cases hf)⟩
def ti29 : TI := ⟨1, 24, false, some 110, [], .slice none 0 0, none⟩
theorem ty29 : TyOk Tryd.prog 29 ti29 := ⟨by kernel_rfl, fun w => by kernel_rfl, fun w => by kernel_rfl, fun w => by kernel_rfl, (fun e he => by cases he; kernel_rfl), (fun k hk => by cases hk), (fun f o hf => by cases f <;> cases hf)⟩
def ti30 : TI := ⟨1, 24, false, some 115, [], .slice none 0 0, none⟩
theorem ty30 : TyOk Tryd.prog 30 ti30 := ⟨by kernel_rfl, fun w => by kernel_rfl, fun w => by kernel_rfl, fun w => by kernel_rfl, (fun e he => by cases he; kernel_rfl), (fun k hk => by cases hk), (fun f o hf => by cases f <;> cases hf)⟩
def ti31 : TI := ⟨1, 24, false, some 113, [], .slice none 0 0, none⟩
theorem ty31 : TyOk Tryd.prog 31 ti31 := ⟨by kernel_rfl, fun w => by kernel_rfl, fun w => by kernel_rfl, fun w => by kernel_rfl, (fun e he => by cases he; kernel_rfl), (fun k hk => by cases hk), (fun f o hf => by cases f <;> cases hf)⟩
def ti32 : TI := ⟨1, 24, false, some 213, [], .slice none 0 0, none⟩
theorem ty32 : TyOk Tryd.prog 32 ti32 := ⟨by kernel_rfl, fun w => by kernel_rfl, fun w => by kernel_rfl, fun w => by kernel_rfl, (fun e he => by cases he; kernel_rfl), (fun k hk => by cases hk), (fun f o hf => by cases f <;> cases hf)⟩
def ti33 : TI := ⟨1, 24, false, some 215, [], .slice none 0 0, none⟩
theorem ty33 : TyOk Tryd.prog 33 ti33 := ⟨by kernel_rfl, fun w => by kernel_rfl, fun w => by kernel_rfl, fun w => by kernel_rfl, (fun e he => by cases he; kernel_rfl), (fun k hk => by cases hk), (fun f o hf => by cases f <;> cases hf)⟩
def ti34 : TI := ⟨12, 256, true, none, [0, 1, 2, 3, 4, 5, 6, 7, 8, 9, 10, 11], .agg #[.slice none 0 0, .slice none 0 0, .slice none 0 0, .slice none 0 0, .slice none 0 0, .slice none 0 0, .slice none 0 0, .bool false, .int .i64 0, .slice none 0 0, .slice none 0 0, .slice none 0 0], none⟩
theorem ty34 : TyOk Tryd.prog 34 ti34 := ⟨by kernel_rfl, fun w => by kernel_rfl, fun w => by kernel_rfl, fun w => by kernel_rfl, (fun e he => by cases he), (fun k hk => by cases hk), (fun f o hf w a => by
    match f, hf with
    | 0, hf => cases hf; (show _ = _); kernel_rfl
    | 1, hf => cases hf; (show _ = _); kernel_rfl
    | 2, hf => cases hf; (show _ = _); kernel_rfl
    | 3, hf => cases hf; (show _ = _); kernel_rfl
    | 4, hf => cases hf; (show _ = _); kernel_rfl
    | 5, hf => cases hf; (show _ = _); kernel_rfl
    | 6, hf => cases hf; (show _ = _); kernel_rfl
    | 7, hf => cases hf; (show _ = _); kernel_rfl
    | 8, hf => cases hf; (show _ = _); kernel_rfl
    | 9, hf => cases hf; (show _ = _); kernel_rfl
    | 10, hf => cases hf; (show _ = _); kernel_rfl
    | 11, hf => cases hf; (show _ = _); kernel_rfl
    | n + 12, hf => cases hf)⟩
def ti35 : TI := ⟨12, 256, true, none, [0, 1, 2, 3, 4, 5, 6, 7, 8, 9, 10, 11], .agg #[.slice none 0 0, .slice none 0 0, .slice none 0 0, .slice none 0 0, .slice none 0 0, .slice none 0 0, .slice none 0 0, .bool false, .int .i64 0, .slice none 0 0, .slice none 0 0, .slice none 0 0], none⟩
theorem ty35 : TyOk Tryd.prog 35 ti35 := ⟨by kernel_rfl, fun w => by kernel_rfl, fun w => by kernel_rfl, fun w => by kernel_rfl, (fun e he => by cases he), (fun k hk => by cases hk), (fun f o hf w a => by
    match f, hf with
    | 0, hf => cases hf; (show _ = _); kernel_rfl
    | 1, hf => cases hf; (show _ = _); kernel_rfl
    | 2, hf => cases hf; (show _ = _); kernel_rfl
    | 3, hf => cases hf; (show _ = _); kernel_rfl
    | 4, hf => cases hf; (show _ = _); kernel_rfl
    | 5, hf => cases hf; (show _ = _); kernel_rfl
    | 6, hf => cases hf; (show _ = _); kernel_rfl
    | 7, hf => cases hf; (show _ = _); kernel_rfl
    | 8, hf => cases hf; (show _ = _); kernel_rfl
    | 9, hf => cases hf; (show _ = _); kernel_rfl
    | 10, hf => cases hf; (show _ = _); kernel_rfl
    | 11, hf => cases hf; (show _ = _); kernel_rfl
    | n + 12, hf => cases hf)⟩
def ti36 : TI := ⟨1, 8, false, none, [], .int .i64 0, some .i64⟩
theorem ty36 : TyOk Tryd.prog 36 ti36 := ⟨by kernel_rfl, fun w => by kernel_rfl, fun w => by kernel_rfl, fun w => by kernel_rfl, (fun e he => by cases he), (fun k hk => by cases hk; kernel_rfl), (fun f o hf => by cases f <;> cases hf)⟩
def ti37 : TI := ⟨1, 8, false, none, [], .int .i64 0, some .i64⟩
theorem ty37 : TyOk Tryd.prog 37 ti37 := ⟨by kernel_rfl, fun w => by kernel_rfl, fun w => by kernel_rfl, fun w => by kernel_rfl, (fun e he => by cases he), (fun k hk => by cases hk; kernel_rfl), (fun f o hf => by cases f <;> cases hf)⟩
def ti38 : TI := ⟨3, 24, true, none, [0, 1, 2], .agg #[.int .i64 0, .int .i64 0, .bool false], none⟩
theorem ty38 : TyOk Tryd.prog 38 ti38 := ⟨by kernel_rfl, fun w => by kernel_rfl, fun w => by kernel_rfl, fun w => by kernel_rfl, (fun e he => by cases he), (fun k hk => by cases hk), (fun f o hf w a => by
    match f, hf with
    | 0, hf => cases hf; (show _ = _); kernel_rfl
    | 1, hf => cases hf; (show _ = _); kernel_rfl
    | 2, hf => cases hf; (show _ = _); kernel_rfl
    | n + 3, hf => cases hf)⟩
def ti39 : TI := ⟨3, 24, true, none, [0, 1, 2], .agg #[.int .i64 0, .int .i64 0, .bool false], none⟩
theorem ty39 : TyOk Tryd.prog 39 ti39 := ⟨by kernel_rfl, fun w => by kernel_rfl, fun w => by kernel_rfl, fun w => by kernel_rfl, (fun e he => by cases he), (fun k hk => by cases hk), (fun f o hf w a => by
    match f, hf with
    | 0, hf => cases hf; (show _ = _); kernel_rfl
    | 1, hf => cases hf; (show _ = _); kernel_rfl
    | 2, hf => cases hf; (show _ = _); kernel_rfl
    | n + 3, hf => cases hf)⟩
def ti40 : TI := ⟨4, 32, true, none, [0, 1], .agg #[.int .i64 0, .int .i64 0, .int .i64 0, .bool false], none⟩
theorem ty40 : TyOk Tryd.prog 40 ti40 := ⟨by kernel_rfl, fun w => by kernel_rfl, fun w => by kernel_rfl, fun w => by kernel_rfl, (fun e he => by cases he), (fun k hk => by cases hk), (fun f o hf w a => by
    match f, hf with
    | 0, hf => cases hf; (show _ = _); kernel_rfl
    | 1, hf => cases hf; (show _ = _); kernel_rfl
    | n + 2, hf => cases hf)⟩
def ti41 : TI := ⟨4, 32, true, none, [0, 1], .agg #[.int .i64 0, .int .i64 0, .int .i64 0, .bool false], none⟩
theorem ty41 : TyOk Tryd.prog 41 ti41 := ⟨by kernel_rfl, fun w => by kernel_rfl, fun w => by kernel_rfl, fun w => by kernel_rfl, (fun e he => by cases he), (fun k hk => by cases hk), (fun f o hf w a => by
    match f, hf with
    | 0, hf => cases hf; (show _ = _); kernel_rfl
    | 1, hf => cases hf; (show _ = _); kernel_rfl
    | n + 2, hf => cases hf)⟩
def ti42 : TI := ⟨2, 16, true, none, [0, 1], .agg #[.int .i64 0, .bool false], none⟩
theorem ty42 : TyOk Tryd.prog 42 ti42 := ⟨by kernel_rfl, fun w => by kernel_rfl, fun w => by kernel_rfl, fun w => by kernel_rfl, (fun e he => by cases he), (fun k hk => by cases hk), (fun f o hf w a => by
    match f, hf with
    | 0, hf => cases hf; (show _ = _); kernel_rfl
    | 1, hf => cases hf; (show _ = _); kernel_rfl
    | n + 2, hf => cases hf)⟩
def ti43 : TI := ⟨2, 16, true, none, [0, 1], .agg #[.int .i64 0, .bool false], none⟩
theorem ty43 : TyOk Tryd.prog 43 ti43 := ⟨by kernel_rfl, fun w => by kernel_rfl, fun w => by kernel_rfl, fun w => by kernel_rfl, (fun e he => by cases he), (fun k hk => by cases hk), (fun f o hf w a => by
    match f, hf with
    | 0, hf => cases hf; (show _ = _); kernel_rfl
    | 1, hf => cases hf; (show _ = _); kernel_rfl
    | n + 2, hf => cases hf)⟩
def ti44 : TI := ⟨13, 120, true, none, [0, 1, 2, 3, 4, 8, 11], .agg #[.string ByteArray.empty, .string ByteArray.empty, .int .i64 0, .int .i64 0, .int .i64 0, .int .i64 0, .int .i64 0, .bool false, .int .i64 0, .int .i64 0, .bool false, .int .i64 0, .bool false], none⟩
theorem ty44 : TyOk Tryd.prog 44 ti44 := ⟨by kernel_rfl, fun w => by kernel_rfl, fun w => by kernel_rfl, fun w => by kernel_rfl, (fun e he => by cases he), (fun k hk => by cases hk), (fun f o hf w a => by
    match f, hf with
    | 0, hf => cases hf; (show _ = _); kernel_rfl
    | 1, hf => cases hf; (show _ = _); kernel_rfl
    | 2, hf => cases hf; (show _ = _); kernel_rfl
    | 3, hf => cases hf; (show _ = _); kernel_rfl
    | 4, hf => cases hf; (show _ = _); kernel_rfl
    | 5, hf => cases hf; (show _ = _); kernel_rfl
    | 6, hf => cases hf; (show _ = _); kernel_rfl
    | n + 7, hf => cases hf)⟩
def ti45 : TI := ⟨13, 120, true, none, [0, 1, 2, 3, 4, 8, 11], .agg #[.string ByteArray.empty, .string ByteArray.empty, .int .i64 0, .int .i64 0, .int .i64 0, .int .i64 0, .int .i64 0, .bool false, .int .i64 0, .int .i64 0, .bool false, .int .i64 0, .bool false], none⟩
theorem ty45 : TyOk Tryd.prog 45 ti45 := ⟨by kernel_rfl, fun w => by kernel_rfl, fun w => by kernel_rfl, fun w => by kernel_rfl, (fun e he => by cases he), (fun k hk => by cases hk), (fun f o hf w a => by
    match f, hf with
    | 0, hf => cases hf; (show _ = _); kernel_rfl
    | 1, hf => cases hf; (show _ = _); kernel_rfl
    | 2, hf => cases hf; (show _ = _); kernel_rfl
    | 3, hf => cases hf; (show _ = _); kernel_rfl
    | 4, hf => cases hf; (show _ = _); kernel_rfl
    | 5, hf => cases hf; (show _ = _); kernel_rfl
    | 6, hf => cases hf; (show _ = _); kernel_rfl
    | n + 7, hf => cases hf)⟩
def ti46 : TI := ⟨1, 8, false, none, [], .int .i64 0, some .i64⟩
theorem ty46 : TyOk Tryd.prog 46 ti46 := ⟨by kernel_rfl, fun w => by kernel_rfl, fun w => by kernel_rfl, fun w => by kernel_rfl, (fun e he => by cases he), (fun k hk => by cases hk; kernel_rfl), (fun f o hf => by cases f <;> cases hf)⟩
def ti47 : TI := ⟨1, 8, false, none, [], .int .u64 0, some .u64⟩
theorem ty47 : TyOk Tryd.prog 47 ti47 := ⟨by kernel_rfl, fun w => by kernel_rfl, fun w => by kernel_rfl, fun w => by kernel_rfl, (fun e he => by cases he), (fun k hk => by cases hk; kernel_rfl), (fun f o hf => by cases f <;> cases hf)⟩
def ti48 : TI := ⟨3, 24, true, none, [0, 1, 2], .agg #[.int .i64 0, .int .i64 0, .int .i64 0], none⟩
theorem ty48 : TyOk Tryd.prog 48 ti48 := ⟨by kernel_rfl, fun w => by kernel_rfl, fun w => by kernel_rfl, fun w => by kernel_rfl, (fun e he => by cases he), (fun k hk => by cases hk), (fun f o hf w a => by
    match f, hf with
    | 0, hf => cases hf; (show _ = _); kernel_rfl
    | 1, hf => cases hf; (show _ = _); kernel_rfl
    | 2, hf => cases hf; (show _ = _); kernel_rfl
    | n + 3, hf => cases hf)⟩
def ti49 : TI := ⟨3, 24, true, none, [0, 1, 2], .agg #[.int .i64 0, .int .i64 0, .int .i64 0], none⟩
theorem ty49 : TyOk Tryd.prog 49 ti49 := ⟨by kernel_rfl, fun w => by kernel_rfl, fun w => by kernel_rfl, fun w => by kernel_rfl, (fun e he => by cases he), (fun k hk => by cases hk), (fun f o hf w a => by
    match f, hf with
    | 0, hf => cases hf; (show _ = _); kernel_rfl
    | 1, hf => cases hf; (show _ = _); kernel_rfl
    | 2, hf => cases hf; (show _ = _); kernel_rfl
    | n + 3, hf => cases hf)⟩
def ti50 : TI := ⟨1, 24, false, some 37, [], .slice none 0 0, none⟩
theorem ty50 : TyOk Tryd.prog 50 ti50 := ⟨by kernel_rfl, fun w => by kernel_rfl, fun w => by kernel_rfl, fun w => by kernel_rfl, (fun e he => by cases he; kernel_rfl), (fun k hk => by cases hk), (fun f o hf => by cases f <;> cases hf)⟩
def ti51 : TI := ⟨1, 24, false, some 3, [], .slice none 0 0, none⟩
theorem ty51 : TyOk Tryd.prog 51 ti51 := ⟨by kernel_rfl, fun w => by kernel_rfl, fun w => by kernel_rfl, fun w => by kernel_rfl, (fun e he => by cases he; kernel_rfl), (fun k hk => by cases hk), (fun f o hf => by cases f <;> cases hf)⟩
def ti52 : TI := ⟨9, 104, true, none, [0, 1, 2, 3, 4, 7, 8], .agg #[.int .i64 0, .int .i64 0, .int .i64 0, .int .u64 0, .int .i64 0, .int .i64 0, .int .i64 0, .slice none 0 0, .slice none 0 0], none⟩
theorem ty52 : TyOk Tryd.prog 52 ti52 := ⟨by kernel_rfl, fun w => by kernel_rfl, fun w => by kernel_rfl, fun w => by kernel_rfl, (fun e he => by cases he), (fun k hk => by cases hk), (fun f o hf w a => by
    match f, hf with
    | 0, hf => cases hf; (show _ = _); kernel_rfl
    | 1, hf => cases hf; (show _ = _); kernel_rfl
    | 2, hf => cases hf; (show _ = _); kernel_rfl
    | 3, hf => cases hf; (show _ = _); kernel_rfl
    | 4, hf => cases hf; (show _ = _); kernel_rfl
    | 5, hf => cases hf; (show _ = _); kernel_rfl
    | 6, hf => cases hf; (show _ = _); kernel_rfl
    | n + 7, hf => cases hf)⟩
def ti53 : TI := ⟨9, 104, true, none, [0, 1, 2, 3, 4, 7, 8], .agg #[.int .i64 0, .int .i64 0, .int .i64 0, .int .u64 0, .int .i64 0, .int .i64 0, .int .i64 0, .slice none 0 0, .slice none 0 0], none⟩
theorem ty53 : TyOk Tryd.prog 53 ti53 := ⟨by kernel_rfl, fun w => by kernel_rfl, fun w => by kernel_rfl, fun w => by kernel_rfl, (fun e he => by cases he), (fun k hk => by cases hk), (fun f o hf w a => by
    match f, hf with
    | 0, hf => cases hf; (show _ = _); kernel_rfl
    | 1, hf => cases hf; (show _ = _); kernel_rfl
    | 2, hf => cases hf; (show _ = _); kernel_rfl
    | 3, hf => cases hf; (show _ = _); kernel_rfl
    | 4, hf => cases hf; (show _ = _); kernel_rfl
    | 5, hf => cases hf; (show _ = _); kernel_rfl
    | 6, hf => cases hf; (show _ = _); kernel_rfl
    | n + 7, hf => cases hf)⟩
def ti54 : TI := ⟨1, 24, false, some 53, [], .slice none 0 0, none⟩
theorem ty54 : TyOk Tryd.prog 54 ti54 := ⟨by kernel_rfl, fun w => by kernel_rfl, fun w => by kernel_rfl, fun w => by kernel_rfl, (fun e he => by cases he; kernel_rfl), (fun k hk => by cases hk), (fun f o hf => by cases f <;> cases hf)⟩
def ti55 : TI := ⟨3, 56, true, none, [0, 1, 2], .agg #[.int .i64 0, .slice none 0 0, .slice none 0 0], none⟩
theorem ty55 : TyOk Tryd.prog 55 ti55 := ⟨by kernel_rfl, fun w => by kernel_rfl, fun w => by kernel_rfl, fun w => by kernel_rfl, (fun e he => by cases he), (fun k hk => by cases hk), (fun f o hf w a => by
    match f, hf with
    | 0, hf => cases hf; (show _ = _); kernel_rfl
    | 1, hf => cases hf; (show _ = _); kernel_rfl
    | 2, hf => cases hf; (show _ = _); kernel_rfl
    | n + 3, hf => cases hf)⟩
def ti56 : TI := ⟨3, 56, true, none, [0, 1, 2], .agg #[.int .i64 0, .slice none 0 0, .slice none 0 0], none⟩
theorem ty56 : TyOk Tryd.prog 56 ti56 := ⟨by kernel_rfl, fun w => by kernel_rfl, fun w => by kernel_rfl, fun w => by kernel_rfl, (fun e he => by cases he), (fun k hk => by cases hk), (fun f o hf w a => by
    match f, hf with
    | 0, hf => cases hf; (show _ = _); kernel_rfl
    | 1, hf => cases hf; (show _ = _); kernel_rfl
    | 2, hf => cases hf; (show _ = _); kernel_rfl
    | n + 3, hf => cases hf)⟩
def ti57 : TI := ⟨1, 2, false, none, [], .int .u16 0, some .u16⟩
theorem ty57 : TyOk Tryd.prog 57 ti57 := ⟨by kernel_rfl, fun w => by kernel_rfl, fun w => by kernel_rfl, fun w => by kernel_rfl, (fun e he => by cases he), (fun k hk => by cases hk; kernel_rfl), (fun f o hf => by cases f <;> cases hf)⟩
def ti58 : TI := ⟨1, 8, false, none, [], .nilFunc, none⟩
theorem ty58 : TyOk Tryd.prog 58 ti58 := ⟨by kernel_rfl, fun w => by kernel_rfl, fun w => by kernel_rfl, fun w => by kernel_rfl, (fun e he => by cases he), (fun k hk => by cases hk), (fun f o hf => by cases f <;> cases hf)⟩
def ti59 : TI := ⟨1, 8, false, none, [], .nilFunc, none⟩
theorem ty59 : TyOk Tryd.prog 59 ti59 := ⟨by kernel_rfl, fun w => by kernel_rfl, fun w => by kernel_rfl, fun w => by kernel_rfl, (fun e he => by cases he), (fun k hk => by cases hk), (fun f o hf => by cases f <;> cases hf)⟩
def ti60 : TI := ⟨1, 8, false, none, [], .nilFunc, none⟩
theorem ty60 : TyOk Tryd.prog 60 ti60 := ⟨by kernel_rfl, fun w => by kernel_rfl, fun w => by kernel_rfl, fun w => by kernel_rfl, (fun e he => by cases he), (fun k hk => by cases hk), (fun f o hf => by cases f <;> cases hf)⟩
def ti61 : TI := ⟨8, 64, true, none, [0, 1, 2, 3, 4, 5, 6, 7], .agg #[.int .i64 0, .int .i64 0, .int .i64 0, .int .i64 0, .int .i64 0, .int .i64 0, .int .i64 0, .int .i64 0], none⟩
theorem ty61 : TyOk Tryd.prog 61 ti61 := ⟨by kernel_rfl, fun w => by kernel_rfl, fun w => by kernel_rfl, fun w => by kernel_rfl, (fun e he => by cases he), (fun k hk => by cases hk), (fun f o hf w a => by
    match f, hf with
    | 0, hf => cases hf; (show _ = _); kernel_rfl
    | 1, hf => cases hf; (show _ = _); kernel_rfl
    | 2, hf => cases hf; (show _ = _); kernel_rfl
    | 3, hf => cases hf; (show _ = _); kernel_rfl
    | 4, hf => cases hf; (show _ = _); kernel_rfl
    | 5, hf => cases hf; (show _ = _); kernel_rfl
    | 6, hf => cases hf; (show _ = _); kernel_rfl
    | 7, hf => cases hf; (show _ = _); kernel_rfl
    | n + 8, hf => cases hf)⟩
def ti62 : TI := ⟨8, 64, true, none, [0, 1, 2, 3, 4, 5, 6, 7], .agg #[.int .i64 0, .int .i64 0, .int .i64 0, .int .i64 0, .int .i64 0, .int .i64 0, .int .i64 0, .int .i64 0], none⟩
theorem ty62 : TyOk Tryd.prog 62 ti62 := ⟨by kernel_rfl, fun w => by kernel_rfl, fun w => by kernel_rfl, fun w => by kernel_rfl, (fun e he => by cases he), (fun k hk => by cases hk), (fun f o hf w a => by
    match f, hf with
    | 0, hf => cases hf; (show _ = _); kernel_rfl
    | 1, hf => cases hf; (show _ = _); kernel_rfl
    | 2, hf => cases hf; (show _ = _); kernel_rfl
    | 3, hf => cases hf; (show _ = _); kernel_rfl
    | 4, hf => cases hf; (show _ = _); kernel_rfl
    | 5, hf => cases hf; (show _ = _); kernel_rfl
    | 6, hf => cases hf; (show _ = _); kernel_rfl
    | 7, hf => cases hf; (show _ = _); kernel_rfl
    | n + 8, hf => cases hf)⟩
def ti63 : TI := ⟨1, 8, false, none, [], .nilFunc, none⟩
theorem ty63 : TyOk Tryd.prog 63 ti63 := ⟨by kernel_rfl, fun w => by kernel_rfl, fun w => by kernel_rfl, fun w => by kernel_rfl, (fun e he => by cases he), (fun k hk => by cases hk), (fun f o hf => by cases f <;> cases hf)⟩
def ti64 : TI := ⟨1, 24, false, some 51, [], .slice none 0 0, none⟩
theorem ty64 : TyOk Tryd.prog 64 ti64 := ⟨by kernel_rfl, fun w => by kernel_rfl, fun w => by kernel_rfl, fun w => by kernel_rfl, (fun e he => by cases he; kernel_rfl), (fun k hk => by cases hk), (fun f o hf => by cases f <;> cases hf)⟩
def ti65 : TI := ⟨1, 8, false, none, [], .nilFunc, none⟩
theorem ty65 : TyOk Tryd.prog 65 ti65 := ⟨by kernel_rfl, fun w => by kernel_rfl, fun w => by kernel_rfl, fun w => by kernel_rfl, (fun e he => by cases he), (fun k hk => by cases hk), (fun f o hf => by cases f <;> cases hf)⟩
def ti66 : TI := ⟨1, 8, false, none, [], .pointer none, none⟩
theorem ty66 : TyOk Tryd.prog 66 ti66 := ⟨by kernel_rfl, fun w => by kernel_rfl, fun w => by kernel_rfl, fun w => by kernel_rfl, (fun e he => by cases he), (fun k hk => by cases hk), (fun f o hf => by cases f <;> cases hf)⟩
def ti67 : TI := ⟨1, 24, false, some 4, [], .slice none 0 0, none⟩
theorem ty67 : TyOk Tryd.prog 67 ti67 := ⟨by kernel_rfl, fun w => by kernel_rfl, fun w => by kernel_rfl, fun w => by kernel_rfl, (fun e he => by cases he; kernel_rfl), (fun k hk => by cases hk), (fun f o hf => by cases f <;> cases hf)⟩
def ti68 : TI := ⟨4, 80, true, none, [0, 1, 2, 3], .agg #[.slice none 0 0, .slice none 0 0, .slice none 0 0, .bool false], none⟩
theorem ty68 : TyOk Tryd.prog 68 ti68 := ⟨by kernel_rfl, fun w => by kernel_rfl, fun w => by kernel_rfl, fun w => by kernel_rfl, (fun e he => by cases he), (fun k hk => by cases hk), (fun f o hf w a => by
    match f, hf with
    | 0, hf => cases hf; (show _ = _); kernel_rfl
    | 1, hf => cases hf; (show _ = _); kernel_rfl
    | 2, hf => cases hf; (show _ = _); kernel_rfl
    | 3, hf => cases hf; (show _ = _); kernel_rfl
    | n + 4, hf => cases hf)⟩
def ti69 : TI := ⟨4, 80, true, none, [0, 1, 2, 3], .agg #[.slice none 0 0, .slice none 0 0, .slice none 0 0, .bool false], none⟩
theorem ty69 : TyOk Tryd.prog 69 ti69 := ⟨by kernel_rfl, fun w => by kernel_rfl, fun w => by kernel_rfl, fun w => by kernel_rfl, (fun e he => by cases he), (fun k hk => by cases hk), (fun f o hf w a => by
    match f, hf with
    | 0, hf => cases hf; (show _ = _); kernel_rfl
    | 1, hf => cases hf; (show _ = _); kernel_rfl
    | 2, hf => cases hf; (show _ = _); kernel_rfl
    | 3, hf => cases hf; (show _ = _); kernel_rfl
    | n + 4, hf => cases hf)⟩
def ti70 : TI := ⟨1, 8, false, none, [], .nilFunc, none⟩
theorem ty70 : TyOk Tryd.prog 70 ti70 := ⟨by kernel_rfl, fun w => by kernel_rfl, fun w => by kernel_rfl, fun w => by kernel_rfl, (fun e he => by cases he), (fun k hk => by cases hk), (fun f o hf => by cases f <;> cases hf)⟩
def ti71 : TI := ⟨1, 24, false, some 90, [], .slice none 0 0, none⟩
theorem ty71 : TyOk Tryd.prog 71 ti71 := ⟨by kernel_rfl, fun w => by kernel_rfl, fun w => by kernel_rfl, fun w => by kernel_rfl, (fun e he => by cases he; kernel_rfl), (fun k hk => by cases hk), (fun f o hf => by cases f <;> cases hf)⟩
def ti73 : TI := ⟨1, 8, false, none, [], .nilFunc, none⟩
theorem ty73 : TyOk Tryd.prog 73 ti73 := ⟨by kernel_rfl, fun w => by kernel_rfl, fun w => by kernel_rfl, fun w => by kernel_rfl, (fun e he => by cases he), (fun k hk => by cases hk), (fun f o hf => by cases f <;> cases hf)⟩
def ti74 : TI := ⟨1, 8, false, none, [], .nilFunc, none⟩
theorem ty74 : TyOk Tryd.prog 74 ti74 := ⟨by kernel_rfl, fun w => by kernel_rfl, fun w => by kernel_rfl, fun w => by kernel_rfl, (fun e he => by cases he), (fun k hk => by cases hk), (fun f o hf => by cases f <;> cases hf)⟩
def ti75 : TI := ⟨1, 8, false, none, [], .nilFunc, none⟩
theorem ty75 : TyOk Tryd.prog 75 ti75 := ⟨by kernel_rfl, fun w => by kernel_rfl, fun w => by kernel_rfl, fun w => by kernel_rfl, (fun e he => by cases he), (fun k hk => by cases hk), (fun f o hf => by cases f <;> cases hf)⟩
def ti76 : TI := ⟨1, 8, false, none, [], .pointer none, none⟩
theorem ty76 : TyOk Tryd.prog 76 ti76 := ⟨by kernel_rfl, fun w => by kernel_rfl, fun w => by kernel_rfl, fun w => by kernel_rfl, (fun e he => by cases he), (fun k hk => by cases hk), (fun f o hf => by cases f <;> cases hf)⟩
def ti77 : TI := ⟨1, 8, false, none, [], .nilFunc, none⟩
theorem ty77 : TyOk Tryd.prog 77 ti77 := ⟨by kernel_rfl, fun w => by kernel_rfl, fun w => by kernel_rfl, fun w => by kernel_rfl, (fun e he => by cases he), (fun k hk => by cases hk), (fun f o hf => by cases f <;> cases hf)⟩
def ti78 : TI := ⟨1, 8, false, none, [], .nilFunc, none⟩
theorem ty78 : TyOk Tryd.prog 78 ti78 := ⟨by kernel_rfl, fun w => by kernel_rfl, fun w => by kernel_rfl, fun w => by kernel_rfl, (fun e he => by cases he), (fun k hk => by cases hk), (fun f o hf => by cases f <;> cases hf)⟩
def ti79 : TI := ⟨1, 8, false, none, [], .nilFunc, none⟩
theorem ty79 : TyOk Tryd.prog 79 ti79 := ⟨by kernel_rfl, fun w => by kernel_rfl, fun w => by kernel_rfl, fun w => by kernel_rfl, (fun e he => by cases he), (fun k hk => by cases hk), (fun f o hf => by cases f <;> cases hf)⟩
def ti80 : TI := ⟨1, 8, false, none, [], .nilFunc, none⟩
theorem ty80 : TyOk Tryd.prog 80 ti80 := ⟨by kernel_rfl, fun w => by kernel_rfl, fun w => by kernel_rfl, fun w => by kernel_rfl, (fun e he => by cases he), (fun k hk => by cases hk), (fun f o hf => by cases f <;> cases hf)⟩
def ti81 : TI := ⟨1, 8, false, none, [], .int .i64 0, some .i64⟩
theorem ty81 : TyOk Tryd.prog 81 ti81 := ⟨by kernel_rfl, fun w => by kernel_rfl, fun w => by kernel_rfl, fun w => by kernel_rfl, (fun e he => by cases he), (fun k hk => by cases hk; kernel_rfl), (fun f o hf => by cases f <;> cases hf)⟩
def ti83 : TI := ⟨1, 8, false, none, [], .nilFunc, none⟩
theorem ty83 : TyOk Tryd.prog 83 ti83 := ⟨by kernel_rfl, fun w => by kernel_rfl, fun w => by kernel_rfl, fun w => by kernel_rfl, (fun e he => by cases he), (fun k hk => by cases hk), (fun f o hf => by cases f <;> cases hf)⟩
def ti84 : TI := ⟨1, 8, false, none, [], .nilFunc, none⟩
theorem ty84 : TyOk Tryd.prog 84 ti84 := ⟨by kernel_rfl, fun w => by kernel_rfl, fun w => by kernel_rfl, fun w => by kernel_rfl, (fun e he => by cases he), (fun k hk => by cases hk), (fun f o hf => by cases f <;> cases hf)⟩
def ti85 : TI := ⟨4, 96, true, none, [0, 1, 2, 3], .agg #[.slice none 0 0, .slice none 0 0, .slice none 0 0, .slice none 0 0], none⟩
theorem ty85 : TyOk Tryd.prog 85 ti85 := ⟨by kernel_rfl, fun w => by kernel_rfl, fun w => by kernel_rfl, fun w => by kernel_rfl, (fun e he => by cases he), (fun k hk => by cases hk), (fun f o hf w a => by
    match f, hf with
    | 0, hf => cases hf; (show _ = _); kernel_rfl
    | 1, hf => cases hf; (show _ = _); kernel_rfl
    | 2, hf => cases hf; (show _ = _); kernel_rfl
    | 3, hf => cases hf; (show _ = _); kernel_rfl
    | n + 4, hf => cases hf)⟩
def ti86 : TI := ⟨4, 96, true, none, [0, 1, 2, 3], .agg #[.slice none 0 0, .slice none 0 0, .slice none 0 0, .slice none 0 0], none⟩
theorem ty86 : TyOk Tryd.prog 86 ti86 := ⟨by kernel_rfl, fun w => by kernel_rfl, fun w => by kernel_rfl, fun w => by kernel_rfl, (fun e he => by cases he), (fun k hk => by cases hk), (fun f o hf w a => by
    match f, hf with
    | 0, hf => cases hf; (show _ = _); kernel_rfl
    | 1, hf => cases hf; (show _ = _); kernel_rfl
    | 2, hf => cases hf; (show _ = _); kernel_rfl
    | 3, hf => cases hf; (show _ = _); kernel_rfl
    | n + 4, hf => cases hf)⟩
def ti88 : TI := ⟨1, 8, false, none, [], .nilFunc, none⟩
theorem ty88 : TyOk Tryd.prog 88 ti88 := ⟨by kernel_rfl, fun w => by kernel_rfl, fun w => by kernel_rfl, fun w => by kernel_rfl, (fun e he => by cases he), (fun k hk => by cases hk), (fun f o hf => by cases f <;> cases hf)⟩
def ti89 : TI := ⟨4, 48, true, none, [0, 1, 2, 3], .agg #[.int .i64 0, .int .i64 0, .slice none 0 0, .bool false], none⟩
theorem ty89 : TyOk Tryd.prog 89 ti89 := ⟨by kernel_rfl, fun w => by kernel_rfl, fun w => by kernel_rfl, fun w => by kernel_rfl, (fun e he => by cases he), (fun k hk => by cases hk), (fun f o hf w a => by
    match f, hf with
    | 0, hf => cases hf; (show _ = _); kernel_rfl
    | 1, hf => cases hf; (show _ = _); kernel_rfl
    | 2, hf => cases hf; (show _ = _); kernel_rfl
    | 3, hf => cases hf; (show _ = _); kernel_rfl
    | n + 4, hf => cases hf)⟩
def ti90 : TI := ⟨4, 48, true, none, [0, 1, 2, 3], .agg #[.int .i64 0, .int .i64 0, .slice none 0 0, .bool false], none⟩
theorem ty90 : TyOk Tryd.prog 90 ti90 := ⟨by kernel_rfl, fun w => by kernel_rfl, fun w => by kernel_rfl, fun w => by kernel_rfl, (fun e he => by cases he), (fun k hk => by cases hk), (fun f o hf w a => by
    match f, hf with
    | 0, hf => cases hf; (show _ = _); kernel_rfl
    | 1, hf => cases hf; (show _ = _); kernel_rfl
    | 2, hf => cases hf; (show _ = _); kernel_rfl
    | 3, hf => cases hf; (show _ = _); kernel_rfl
    | n + 4, hf => cases hf)⟩
def ti92 : TI := ⟨1, 8, false, none, [], .nilFunc, none⟩
theorem ty92 : TyOk Tryd.prog 92 ti92 := ⟨by kernel_rfl, fun w => by kernel_rfl, fun w => by kernel_rfl, fun w => by kernel_rfl, (fun e he => by cases he), (fun k hk => by cases hk), (fun f o hf => by cases f <;> cases hf)⟩
def ti93 : TI := ⟨1, 8, false, none, [], .nilFunc, none⟩
theorem ty93 : TyOk Tryd.prog 93 ti93 := ⟨by kernel_rfl, fun w => by kernel_rfl, fun w => by kernel_rfl, fun w => by kernel_rfl, (fun e he => by cases he), (fun k hk => by cases hk), (fun f o hf => by cases f <;> cases hf)⟩
def ti94 : TI := ⟨1, 8, false, none, [], .nilFunc, none⟩
theorem ty94 : TyOk Tryd.prog 94 ti94 := ⟨by kernel_rfl, fun w => by kernel_rfl, fun w => by kernel_rfl, fun w => by kernel_rfl, (fun e he => by cases he), (fun k hk => by cases hk), (fun f o hf => by cases f <;> cases hf)⟩
def ti95 : TI := ⟨1, 8, false, none, [], .nilFunc, none⟩
theorem ty95 : TyOk Tryd.prog 95 ti95 := ⟨by kernel_rfl, fun w => by kernel_rfl, fun w => by kernel_rfl, fun w => by kernel_rfl, (fun e he => by cases he), (fun k hk => by cases hk), (fun f o hf => by cases f <;> cases hf)⟩
def ti96 : TI := ⟨2, 48, true, none, [0, 1], .agg #[.slice none 0 0, .slice none 0 0], none⟩
theorem ty96 : TyOk Tryd.prog 96 ti96 := ⟨by kernel_rfl, fun w => by kernel_rfl, fun w => by kernel_rfl, fun w => by kernel_rfl, (fun e he => by cases he), (fun k hk => by cases hk), (fun f o hf w a => by
    match f, hf with
    | 0, hf => cases hf; (show _ = _); kernel_rfl
    | 1, hf => cases hf; (show _ = _); kernel_rfl
    | n + 2, hf => cases hf)⟩
def ti97 : TI := ⟨2, 48, true, none, [0, 1], .agg #[.slice none 0 0, .slice none 0 0], none⟩
theorem ty97 : TyOk Tryd.prog 97 ti97 := ⟨by kernel_rfl, fun w => by kernel_rfl, fun w => by kernel_rfl, fun w => by kernel_rfl, (fun e he => by cases he), (fun k hk => by cases hk), (fun f o hf w a => by
    match f, hf with
    | 0, hf => cases hf; (show _ = _); kernel_rfl
    | 1, hf => cases hf; (show _ = _); kernel_rfl
    | n + 2, hf => cases hf)⟩
def ti99 : TI := ⟨1, 8, false, none, [], .nilFunc, none⟩
theorem ty99 : TyOk Tryd.prog 99 ti99 := ⟨by kernel_rfl, fun w => by kernel_rfl, fun w => by kernel_rfl, fun w => by kernel_rfl, (fun e he => by cases he), (fun k hk => by cases hk), (fun f o hf => by cases f <;> cases hf)⟩
def ti100 : TI := ⟨1, 8, false, none, [], .pointer none, none⟩
theorem ty100 : TyOk Tryd.prog 100 ti100 := ⟨by kernel_rfl, fun w => by kernel_rfl, fun w => by kernel_rfl, fun w => by kernel_rfl, (fun e he => by cases he), (fun k hk => by cases hk), (fun f o hf => by cases f <;> cases hf)⟩
def ti101 : TI := ⟨1, 8, false, none, [], .map none, none⟩
theorem ty101 : TyOk Tryd.prog 101 ti101 := ⟨by kernel_rfl, fun w => by kernel_rfl, fun w => by kernel_rfl, fun w => by kernel_rfl, (fun e he => by cases he), (fun k hk => by cases hk), (fun f o hf => by cases f <;> cases hf)⟩
def ti102 : TI := ⟨1, 8, false, none, [], .map none, none⟩
theorem ty102 : TyOk Tryd.prog 102 ti102 := ⟨by kernel_rfl, fun w => by kernel_rfl, fun w => by kernel_rfl, fun w => by kernel_rfl, (fun e he => by cases he), (fun k hk => by cases hk), (fun f o hf => by cases f <;> cases hf)⟩
def ti103 : TI := ⟨1, 24, false, some 43, [], .slice none 0 0, none⟩
theorem ty103 : TyOk Tryd.prog 103 ti103 := ⟨by kernel_rfl, fun w => by kernel_rfl, fun w => by kernel_rfl, fun w => by kernel_rfl, (fun e he => by cases he; kernel_rfl), (fun k hk => by cases hk), (fun f o hf => by cases f <;> cases hf)⟩
def ti104 : TI := ⟨9, 168, true, none, [0, 1, 2, 3, 4, 5, 6, 7, 8], .agg #[.slice none 0 0, .slice none 0 0, .slice none 0 0, .slice none 0 0, .slice none 0 0, .slice none 0 0, .int .i64 0, .map none, .map none], none⟩
theorem ty104 : TyOk Tryd.prog 104 ti104 := ⟨by kernel_rfl, fun w => by kernel_rfl, fun w => by kernel_rfl, fun w => by kernel_rfl, (fun e he => by cases he), (fun k hk => by cases hk), (fun f o hf w a => by
    match f, hf with
    | 0, hf => cases hf; (show _ = _); kernel_rfl
    | 1, hf => cases hf; (show _ = _); kernel_rfl
    | 2, hf => cases hf; (show _ = _); kernel_rfl
    | 3, hf => cases hf; (show _ = _); kernel_rfl
    | 4, hf => cases hf; (show _ = _); kernel_rfl
    | 5, hf => cases hf; (show _ = _); kernel_rfl
    | 6, hf => cases hf; (show _ = _); kernel_rfl
    | 7, hf => cases hf; (show _ = _); kernel_rfl
    | 8, hf => cases hf; (show _ = _); kernel_rfl
    | n + 9, hf => cases hf)⟩
def ti105 : TI := ⟨9, 168, true, none, [0, 1, 2, 3, 4, 5, 6, 7, 8], .agg #[.slice none 0 0, .slice none 0 0, .slice none 0 0, .slice none 0 0, .slice none 0 0, .slice none 0 0, .int .i64 0, .map none, .map none], none⟩
theorem ty105 : TyOk Tryd.prog 105 ti105 := ⟨by kernel_rfl, fun w => by kernel_rfl, fun w => by kernel_rfl, fun w => by kernel_rfl, (fun e he => by cases he), (fun k hk => by cases hk), (fun f o hf w a => by
    match f, hf with
    | 0, hf => cases hf; (show _ = _); kernel_rfl
    | 1, hf => cases hf; (show _ = _); kernel_rfl
    | 2, hf => cases hf; (show _ = _); kernel_rfl
    | 3, hf => cases hf; (show _ = _); kernel_rfl
    | 4, hf => cases hf; (show _ = _); kernel_rfl
    | 5, hf => cases hf; (show _ = _); kernel_rfl
    | 6, hf => cases hf; (show _ = _); kernel_rfl
    | 7, hf => cases hf; (show _ = _); kernel_rfl
    | 8, hf => cases hf; (show _ = _); kernel_rfl
    | n + 9, hf => cases hf)⟩
def ti106 : TI := ⟨1, 8, false, none, [], .nilFunc, none⟩
theorem ty106 : TyOk Tryd.prog 106 ti106 := ⟨by kernel_rfl, fun w => by kernel_rfl, fun w => by kernel_rfl, fun w => by kernel_rfl, (fun e he => by cases he), (fun k hk => by cases hk), (fun f o hf => by cases f <;> cases hf)⟩
def ti107 : TI := ⟨1, 8, false, none, [], .nilFunc, none⟩
theorem ty107 : TyOk Tryd.prog 107 ti107 := ⟨by kernel_rfl, fun w => by kernel_rfl, fun w => by kernel_rfl, fun w => by kernel_rfl, (fun e he => by cases he), (fun k hk => by cases hk), (fun f o hf => by cases f <;> cases hf)⟩
def ti108 : TI := ⟨1, 8, false, none, [], .nilFunc, none⟩
theorem ty108 : TyOk Tryd.prog 108 ti108 := ⟨by kernel_rfl, fun w => by kernel_rfl, fun w => by kernel_rfl, fun w => by kernel_rfl, (fun e he => by cases he), (fun k hk => by cases hk), (fun f o hf => by cases f <;> cases hf)⟩
def ti109 : TI := ⟨3, 40, true, none, [0, 2], .agg #[.int .i64 0, .bool false, .slice none 0 0], none⟩
theorem ty109 : TyOk Tryd.prog 109 ti109 := ⟨by kernel_rfl, fun w => by kernel_rfl, fun w => by kernel_rfl, fun w => by kernel_rfl, (fun e he => by cases he), (fun k hk => by cases hk), (fun f o hf w a => by
    match f, hf with
    | 0, hf => cases hf; (show _ = _); kernel_rfl
    | 1, hf => cases hf; (show _ = _); kernel_rfl
    | n + 2, hf => cases hf)⟩
def ti110 : TI := ⟨3, 40, true, none, [0, 2], .agg #[.int .i64 0, .bool false, .slice none 0 0], none⟩
theorem ty110 : TyOk Tryd.prog 110 ti110 := ⟨by kernel_rfl, fun w => by kernel_rfl, fun w => by kernel_rfl, fun w => by kernel_rfl, (fun e he => by cases he), (fun k hk => by cases hk), (fun f o hf w a => by
    match f, hf with
    | 0, hf => cases hf; (show _ = _); kernel_rfl
    | 1, hf => cases hf; (show _ = _); kernel_rfl
    | n + 2, hf => cases hf)⟩
def ti111 : TI := ⟨1, 24, false, some 54, [], .slice none 0 0, none⟩
theorem ty111 : TyOk Tryd.prog 111 ti111 := ⟨by kernel_rfl, fun w => by kernel_rfl, fun w => by kernel_rfl, fun w => by kernel_rfl, (fun e he => by cases he; kernel_rfl), (fun k hk => by cases hk), (fun f o hf => by cases f <;> cases hf)⟩
def ti112 : TI := ⟨5, 72, true, none, [0, 1, 2, 3, 4], .agg #[.int .i64 0, .int .i64 0, .slice none 0 0, .int .i64 0, .slice none 0 0], none⟩
theorem ty112 : TyOk Tryd.prog 112 ti112 := ⟨by kernel_rfl, fun w => by kernel_rfl, fun w => by kernel_rfl, fun w => by kernel_rfl, (fun e he => by cases he), (fun k hk => by cases hk), (fun f o hf w a => by
    match f, hf with
    | 0, hf => cases hf; (show _ = _); kernel_rfl
    | 1, hf => cases hf; (show _ = _); kernel_rfl
    | 2, hf => cases hf; (show _ = _); kernel_rfl
    | 3, hf => cases hf; (show _ = _); kernel_rfl
    | 4, hf => cases hf; (show _ = _); kernel_rfl
    | n + 5, hf => cases hf)⟩
def ti113 : TI := ⟨5, 72, true, none, [0, 1, 2, 3, 4], .agg #[.int .i64 0, .int .i64 0, .slice none 0 0, .int .i64 0, .slice none 0 0], none⟩
theorem ty113 : TyOk Tryd.prog 113 ti113 := ⟨by kernel_rfl, fun w => by kernel_rfl, fun w => by kernel_rfl, fun w => by kernel_rfl, (fun e he => by cases he), (fun k hk => by cases hk), (fun f o hf w a => by
    match f, hf with
    | 0, hf => cases hf; (show _ = _); kernel_rfl
    | 1, hf => cases hf; (show _ = _); kernel_rfl
    | 2, hf => cases hf; (show _ = _); kernel_rfl
    | 3, hf => cases hf; (show _ = _); kernel_rfl
    | 4, hf => cases hf; (show _ = _); kernel_rfl
    | n + 5, hf => cases hf)⟩
def ti114 : TI := ⟨3, 32, true, none, [0, 1, 2], .agg #[.string ByteArray.empty, .int .i64 0, .int .i64 0], none⟩
theorem ty114 : TyOk Tryd.prog 114 ti114 := ⟨by kernel_rfl, fun w => by kernel_rfl, fun w => by kernel_rfl, fun w => by kernel_rfl, (fun e he => by cases he), (fun k hk => by cases hk), (fun f o hf w a => by
    match f, hf with
    | 0, hf => cases hf; (show _ = _); kernel_rfl
    | 1, hf => cases hf; (show _ = _); kernel_rfl
    | 2, hf => cases hf; (show _ = _); kernel_rfl
    | n + 3, hf => cases hf)⟩
def ti115 : TI := ⟨3, 32, true, none, [0, 1, 2], .agg #[.string ByteArray.empty, .int .i64 0, .int .i64 0], none⟩
theorem ty115 : TyOk Tryd.prog 115 ti115 := ⟨by kernel_rfl, fun w => by kernel_rfl, fun w => by kernel_rfl, fun w => by kernel_rfl, (fun e he => by cases he), (fun k hk => by cases hk), (fun f o hf w a => by
    match f, hf with
    | 0, hf => cases hf; (show _ = _); kernel_rfl
    | 1, hf => cases hf; (show _ = _); kernel_rfl
    | 2, hf => cases hf; (show _ = _); kernel_rfl
    | n + 3, hf => cases hf)⟩
def ti116 : TI := ⟨1, 8, true, none, [0], .agg #[.pointer none], none⟩
theorem ty116 : TyOk Tryd.prog 116 ti116 := ⟨by kernel_rfl, fun w => by kernel_rfl, fun w => by kernel_rfl, fun w => by kernel_rfl, (fun e he => by cases he), (fun k hk => by cases hk), (fun f o hf w a => by
    match f, hf with
    | 0, hf => cases hf; (show _ = _); kernel_rfl
    | n + 1, hf => cases hf)⟩
def ti117 : TI := ⟨1, 8, true, none, [0], .agg #[.pointer none], none⟩
theorem ty117 : TyOk Tryd.prog 117 ti117 := ⟨by kernel_rfl, fun w => by kernel_rfl, fun w => by kernel_rfl, fun w => by kernel_rfl, (fun e he => by cases he), (fun k hk => by cases hk), (fun f o hf w a => by
    match f, hf with
    | 0, hf => cases hf; (show _ = _); kernel_rfl
    | n + 1, hf => cases hf)⟩
def ti118 : TI := ⟨1, 8, false, none, [], .nilFunc, none⟩
theorem ty118 : TyOk Tryd.prog 118 ti118 := ⟨by kernel_rfl, fun w => by kernel_rfl, fun w => by kernel_rfl, fun w => by kernel_rfl, (fun e he => by cases he), (fun k hk => by cases hk), (fun f o hf => by cases f <;> cases hf)⟩
def ti119 : TI := ⟨1, 8, false, none, [], .nilFunc, none⟩
theorem ty119 : TyOk Tryd.prog 119 ti119 := ⟨by kernel_rfl, fun w => by kernel_rfl, fun w => by kernel_rfl, fun w => by kernel_rfl, (fun e he => by cases he), (fun k hk => by cases hk), (fun f o hf => by cases f <;> cases hf)⟩
def ti120 : TI := ⟨1, 8, false, none, [], .nilFunc, none⟩
theorem ty120 : TyOk Tryd.prog 120 ti120 := ⟨by kernel_rfl, fun w => by kernel_rfl, fun w => by kernel_rfl, fun w => by kernel_rfl, (fun e he => by cases he), (fun k hk => by cases hk), (fun f o hf => by cases f <;> cases hf)⟩
def ti121 : TI := ⟨1, 8, false, none, [], .int .u64 0, some .u64⟩
theorem ty121 : TyOk Tryd.prog 121 ti121 := ⟨by kernel_rfl, fun w => by kernel_rfl, fun w => by kernel_rfl, fun w => by kernel_rfl, (fun e he => by cases he), (fun k hk => by cases hk; kernel_rfl), (fun f o hf => by cases f <;> cases hf)⟩
def ti122 : TI := ⟨4, 96, true, none, [0, 1, 2, 3], .agg #[.slice none 0 0, .slice none 0 0, .slice none 0 0, .slice none 0 0], none⟩
theorem ty122 : TyOk Tryd.prog 122 ti122 := ⟨by kernel_rfl, fun w => by kernel_rfl, fun w => by kernel_rfl, fun w => by kernel_rfl, (fun e he => by cases he), (fun k hk => by cases hk), (fun f o hf w a => by
    match f, hf with
    | 0, hf => cases hf; (show _ = _); kernel_rfl
    | 1, hf => cases hf; (show _ = _); kernel_rfl
    | 2, hf => cases hf; (show _ = _); kernel_rfl
    | 3, hf => cases hf; (show _ = _); kernel_rfl
    | n + 4, hf => cases hf)⟩
def ti123 : TI := ⟨4, 96, true, none, [0, 1, 2, 3], .agg #[.slice none 0 0, .slice none 0 0, .slice none 0 0, .slice none 0 0], none⟩
theorem ty123 : TyOk Tryd.prog 123 ti123 := ⟨by kernel_rfl, fun w => by kernel_rfl, fun w => by kernel_rfl, fun w => by kernel_rfl, (fun e he => by cases he), (fun k hk => by cases hk), (fun f o hf w a => by
    match f, hf with
    | 0, hf => cases hf; (show _ = _); kernel_rfl
    | 1, hf => cases hf; (show _ = _); kernel_rfl
    | 2, hf => cases hf; (show _ = _); kernel_rfl
    | 3, hf => cases hf; (show _ = _); kernel_rfl
    | n + 4, hf => cases hf)⟩
def ti125 : TI := ⟨1, 8, false, none, [], .nilFunc, none⟩
theorem ty125 : TyOk Tryd.prog 125 ti125 := ⟨by kernel_rfl, fun w => by kernel_rfl, fun w => by kernel_rfl, fun w => by kernel_rfl, (fun e he => by cases he), (fun k hk => by cases hk), (fun f o hf => by cases f <;> cases hf)⟩
def ti126 : TI := ⟨1, 8, false, none, [], .map none, none⟩
theorem ty126 : TyOk Tryd.prog 126 ti126 := ⟨by kernel_rfl, fun w => by kernel_rfl, fun w => by kernel_rfl, fun w => by kernel_rfl, (fun e he => by cases he), (fun k hk => by cases hk), (fun f o hf => by cases f <;> cases hf)⟩
def ti127 : TI := ⟨1, 8, false, none, [], .nilFunc, none⟩
theorem ty127 : TyOk Tryd.prog 127 ti127 := ⟨by kernel_rfl, fun w => by kernel_rfl, fun w => by kernel_rfl, fun w => by kernel_rfl, (fun e he => by cases he), (fun k hk => by cases hk), (fun f o hf => by cases f <;> cases hf)⟩
def ti128 : TI := ⟨1, 8, false, none, [], .nilFunc, none⟩
theorem ty128 : TyOk Tryd.prog 128 ti128 := ⟨by kernel_rfl, fun w => by kernel_rfl, fun w => by kernel_rfl, fun w => by kernel_rfl, (fun e he => by cases he), (fun k hk => by cases hk), (fun f o hf => by cases f <;> cases hf)⟩
def ti129 : TI := ⟨1, 8, false, none, [], .nilFunc, none⟩
theorem ty129 : TyOk Tryd.prog 129 ti129 := ⟨by kernel_rfl, fun w => by kernel_rfl, fun w => by kernel_rfl, fun w => by kernel_rfl, (fun e he => by cases he), (fun k hk => by cases hk), (fun f o hf => by cases f <;> cases hf)⟩
def ti130 : TI := ⟨1, 8, false, none, [], .nilFunc, none⟩
theorem ty130 : TyOk Tryd.prog 130 ti130 := ⟨by kernel_rfl, fun w => by kernel_rfl, fun w => by kernel_rfl, fun w => by kernel_rfl, (fun e he => by cases he), (fun k hk => by cases hk), (fun f o hf => by cases f <;> cases hf)⟩
def ti131 : TI := ⟨1, 8, false, none, [], .nilFunc, none⟩
theorem ty131 : TyOk Tryd.prog 131 ti131 := ⟨by kernel_rfl, fun w => by kernel_rfl, fun w => by kernel_rfl, fun w => by kernel_rfl, (fun e he => by cases he), (fun k hk => by cases hk), (fun f o hf => by cases f <;> cases hf)⟩
def ti132 : TI := ⟨1, 8, false, none, [], .nilFunc, none⟩
theorem ty132 : TyOk Tryd.prog 132 ti132 := ⟨by kernel_rfl, fun w => by kernel_rfl, fun w => by kernel_rfl, fun w => by kernel_rfl, (fun e he => by cases he), (fun k hk => by cases hk), (fun f o hf => by cases f <;> cases hf)⟩
def ti133 : TI := ⟨1, 8, false, none, [], .nilFunc, none⟩
theorem ty133 : TyOk Tryd.prog 133 ti133 := ⟨by kernel_rfl, fun w => by kernel_rfl, fun w => by kernel_rfl, fun w => by kernel_rfl, (fun e he => by cases he), (fun k hk => by cases hk), (fun f o hf => by cases f <;> cases hf)⟩
def ti134 : TI := ⟨1, 24, false, some 9, [], .slice none 0 0, none⟩
theorem ty134 : TyOk Tryd.prog 134 ti134 := ⟨by kernel_rfl, fun w => by kernel_rfl, fun w => by kernel_rfl, fun w => by kernel_rfl, (fun e he => by cases he; kernel_rfl), (fun k hk => by cases hk), (fun f o hf => by cases f <;> cases hf)⟩
def ti135 : TI := ⟨1, 8, false, none, [], .nilFunc, none⟩
theorem ty135 : TyOk Tryd.prog 135 ti135 := ⟨by kernel_rfl, fun w => by kernel_rfl, fun w => by kernel_rfl, fun w => by kernel_rfl, (fun e he => by cases he), (fun k hk => by cases hk), (fun f o hf => by cases f <;> cases hf)⟩
def ti136 : TI := ⟨1, 8, false, none, [], .nilFunc, none⟩
theorem ty136 : TyOk Tryd.prog 136 ti136 := ⟨by kernel_rfl, fun w => by kernel_rfl, fun w => by kernel_rfl, fun w => by kernel_rfl, (fun e he => by cases he), (fun k hk => by cases hk), (fun f o hf => by cases f <;> cases hf)⟩
def ti137 : TI := ⟨1, 8, false, none, [], .nilFunc, none⟩
theorem ty137 : TyOk Tryd.prog 137 ti137 := ⟨by kernel_rfl, fun w => by kernel_rfl, fun w => by kernel_rfl, fun w => by kernel_rfl, (fun e he => by cases he), (fun k hk => by cases hk), (fun f o hf => by cases f <;> cases hf)⟩
def ti138 : TI := ⟨1, 8, false, none, [], .nilFunc, none⟩
theorem ty138 : TyOk Tryd.prog 138 ti138 := ⟨by kernel_rfl, fun w => by kernel_rfl, fun w => by kernel_rfl, fun w => by kernel_rfl, (fun e he => by cases he), (fun k hk => by cases hk), (fun f o hf => by cases f <;> cases hf)⟩
def ti139 : TI := ⟨1, 8, false, none, [], .int .i64 0, some .i64⟩
theorem ty139 : TyOk Tryd.prog 139 ti139 := ⟨by kernel_rfl, fun w => by kernel_rfl, fun w => by kernel_rfl, fun w => by kernel_rfl, (fun e he => by cases he), (fun k hk => by cases hk; kernel_rfl), (fun f o hf => by cases f <;> cases hf)⟩
def ti141 : TI := ⟨1, 8, false, none, [], .nilFunc, none⟩
theorem ty141 : TyOk Tryd.prog 141 ti141 := ⟨by kernel_rfl, fun w => by kernel_rfl, fun w => by kernel_rfl, fun w => by kernel_rfl, (fun e he => by cases he), (fun k hk => by cases hk), (fun f o hf => by cases f <;> cases hf)⟩
def ti142 : TI := ⟨1, 8, false, none, [], .nilFunc, none⟩
theorem ty142 : TyOk Tryd.prog 142 ti142 := ⟨by kernel_rfl, fun w => by kernel_rfl, fun w => by kernel_rfl, fun w => by kernel_rfl, (fun e he => by cases he), (fun k hk => by cases hk), (fun f o hf => by cases f <;> cases hf)⟩
def ti143 : TI := ⟨1, 8, false, none, [], .nilFunc, none⟩
theorem ty143 : TyOk Tryd.prog 143 ti143 := ⟨by kernel_rfl, fun w => by kernel_rfl, fun w => by kernel_rfl, fun w => by kernel_rfl, (fun e he => by cases he), (fun k hk => by cases hk), (fun f o hf => by cases f <;> cases hf)⟩
def ti144 : TI := ⟨1, 8, false, none, [], .nilFunc, none⟩
theorem ty144 : TyOk Tryd.prog 144 ti144 := ⟨by kernel_rfl, fun w => by kernel_rfl, fun w => by kernel_rfl, fun w => by kernel_rfl, (fun e he => by cases he), (fun k hk => by cases hk), (fun f o hf => by cases f <;> cases hf)⟩
def ti145 : TI := ⟨1, 8, false, none, [], .nilFunc, none⟩
theorem ty145 : TyOk Tryd.prog 145 ti145 := ⟨by kernel_rfl, fun w => by kernel_rfl, fun w => by kernel_rfl, fun w => by kernel_rfl, (fun e he => by cases he), (fun k hk => by cases hk), (fun f o hf => by cases f <;> cases hf)⟩
def ti146 : TI := ⟨1, 4, false, none, [], .int .u32 0, some .u32⟩
theorem ty146 : TyOk Tryd.prog 146 ti146 := ⟨by kernel_rfl, fun w => by kernel_rfl, fun w => by kernel_rfl, fun w => by kernel_rfl, (fun e he => by cases he), (fun k hk => by cases hk; kernel_rfl), (fun f o hf => by cases f <;> cases hf)⟩
def ti147 : TI := ⟨1, 8, false, none, [], .nilFunc, none⟩
theorem ty147 : TyOk Tryd.prog 147 ti147 := ⟨by kernel_rfl, fun w => by kernel_rfl, fun w => by kernel_rfl, fun w => by kernel_rfl, (fun e he => by cases he), (fun k hk => by cases hk), (fun f o hf => by cases f <;> cases hf)⟩
def ti148 : TI := ⟨1, 8, false, none, [], .nilFunc, none⟩
theorem ty148 : TyOk Tryd.prog 148 ti148 := ⟨by kernel_rfl, fun w => by kernel_rfl, fun w => by kernel_rfl, fun w => by kernel_rfl, (fun e he => by cases he), (fun k hk => by cases hk), (fun f o hf => by cases f <;> cases hf)⟩
def ti149 : TI := ⟨2, 16, true, none, [0, 1], .agg #[.int .i64 0, .bool false], none⟩
theorem ty149 : TyOk Tryd.prog 149 ti149 := ⟨by kernel_rfl, fun w => by kernel_rfl, fun w => by kernel_rfl, fun w => by kernel_rfl, (fun e he => by cases he), (fun k hk => by cases hk), (fun f o hf w a => by
    match f, hf with
    | 0, hf => cases hf; (show _ = _); kernel_rfl
    | 1, hf => cases hf; (show _ = _); kernel_rfl
    | n + 2, hf => cases hf)⟩
def ti150 : TI := ⟨2, 16, true, none, [0, 1], .agg #[.int .i64 0, .bool false], none⟩
theorem ty150 : TyOk Tryd.prog 150 ti150 := ⟨by kernel_rfl, fun w => by kernel_rfl, fun w => by kernel_rfl, fun w => by kernel_rfl, (fun e he => by cases he), (fun k hk => by cases hk), (fun f o hf w a => by
    match f, hf with
    | 0, hf => cases hf; (show _ = _); kernel_rfl
    | 1, hf => cases hf; (show _ = _); kernel_rfl
    | n + 2, hf => cases hf)⟩
def ti151 : TI := ⟨1, 24, false, some 150, [], .slice none 0 0, none⟩
theorem ty151 : TyOk Tryd.prog 151 ti151 := ⟨by kernel_rfl, fun w => by kernel_rfl, fun w => by kernel_rfl, fun w => by kernel_rfl, (fun e he => by cases he; kernel_rfl), (fun k hk => by cases hk), (fun f o hf => by cases f <;> cases hf)⟩
def ti152 : TI := ⟨1, 8, false, none, [], .pointer none, none⟩
theorem ty152 : TyOk Tryd.prog 152 ti152 := ⟨by kernel_rfl, fun w => by kernel_rfl, fun w => by kernel_rfl, fun w => by kernel_rfl, (fun e he => by cases he), (fun k hk => by cases hk), (fun f o hf => by cases f <;> cases hf)⟩
def ti153 : TI := ⟨1, 8, false, none, [], .nilFunc, none⟩
theorem ty153 : TyOk Tryd.prog 153 ti153 := ⟨by kernel_rfl, fun w => by kernel_rfl, fun w => by kernel_rfl, fun w => by kernel_rfl, (fun e he => by cases he), (fun k hk => by cases hk), (fun f o hf => by cases f <;> cases hf)⟩
def ti154 : TI := ⟨1, 8, false, none, [], .nilFunc, none⟩
theorem ty154 : TyOk Tryd.prog 154 ti154 := ⟨by kernel_rfl, fun w => by kernel_rfl, fun w => by kernel_rfl, fun w => by kernel_rfl, (fun e he => by cases he), (fun k hk => by cases hk), (fun f o hf => by cases f <;> cases hf)⟩
def ti155 : TI := ⟨1, 8, false, none, [], .nilFunc, none⟩
theorem ty155 : TyOk Tryd.prog 155 ti155 := ⟨by kernel_rfl, fun w => by kernel_rfl, fun w => by kernel_rfl, fun w => by kernel_rfl, (fun e he => by cases he), (fun k hk => by cases hk), (fun f o hf => by cases f <;> cases hf)⟩
def ti156 : TI := ⟨1, 8, false, none, [], .nilFunc, none⟩
theorem ty156 : TyOk Tryd.prog 156 ti156 := ⟨by kernel_rfl, fun w => by kernel_rfl, fun w => by kernel_rfl, fun w => by kernel_rfl, (fun e he => by cases he), (fun k hk => by cases hk), (fun f o hf => by cases f <;> cases hf)⟩
def ti157 : TI := ⟨1, 8, false, none, [], .nilFunc, none⟩
theorem ty157 : TyOk Tryd.prog 157 ti157 := ⟨by kernel_rfl, fun w => by kernel_rfl, fun w => by kernel_rfl, fun w => by kernel_rfl, (fun e he => by cases he), (fun k hk => by cases hk), (fun f o hf => by cases f <;> cases hf)⟩
def ti158 : TI := ⟨1, 8, false, none, [], .int .u64 0, some .u64⟩
theorem ty158 : TyOk Tryd.prog 158 ti158 := ⟨by kernel_rfl, fun w => by kernel_rfl, fun w => by kernel_rfl, fun w => by kernel_rfl, (fun e he => by cases he), (fun k hk => by cases hk; kernel_rfl), (fun f o hf => by cases f <;> cases hf)⟩
def ti159 : TI := ⟨1, 8, false, none, [], .nilFunc, none⟩
theorem ty159 : TyOk Tryd.prog 159 ti159 := ⟨by kernel_rfl, fun w => by kernel_rfl, fun w => by kernel_rfl, fun w => by kernel_rfl, (fun e he => by cases he), (fun k hk => by cases hk), (fun f o hf => by cases f <;> cases hf)⟩
def ti160 : TI := ⟨1, 8, false, none, [], .nilFunc, none⟩
theorem ty160 : TyOk Tryd.prog 160 ti160 := ⟨by kernel_rfl, fun w => by kernel_rfl, fun w => by kernel_rfl, fun w => by kernel_rfl, (fun e he => by cases he), (fun k hk => by cases hk), (fun f o hf => by cases f <;> cases hf)⟩
def ti161 : TI := ⟨1, 8, false, none, [], .nilFunc, none⟩
theorem ty161 : TyOk Tryd.prog 161 ti161 := ⟨by kernel_rfl, fun w => by kernel_rfl, fun w => by kernel_rfl, fun w => by kernel_rfl, (fun e he => by cases he), (fun k hk => by cases hk), (fun f o hf => by cases f <;> cases hf)⟩
def ti162 : TI := ⟨1, 8, false, none, [], .pointer none, none⟩
theorem ty162 : TyOk Tryd.prog 162 ti162 := ⟨by kernel_rfl, fun w => by kernel_rfl, fun w => by kernel_rfl, fun w => by kernel_rfl, (fun e he => by cases he), (fun k hk => by cases hk), (fun f o hf => by cases f <;> cases hf)⟩
def ti163 : TI := ⟨1, 8, false, none, [], .nilFunc, none⟩
theorem ty163 : TyOk Tryd.prog 163 ti163 := ⟨by kernel_rfl, fun w => by kernel_rfl, fun w => by kernel_rfl, fun w => by kernel_rfl, (fun e he => by cases he), (fun k hk => by cases hk), (fun f o hf => by cases f <;> cases hf)⟩
def ti164 : TI := ⟨1, 8, false, none, [], .nilFunc, none⟩
theorem ty164 : TyOk Tryd.prog 164 ti164 := ⟨by kernel_rfl, fun w => by kernel_rfl, fun w => by kernel_rfl, fun w => by kernel_rfl, (fun e he => by cases he), (fun k hk => by cases hk), (fun f o hf => by cases f <;> cases hf)⟩
def ti165 : TI := ⟨1, 24, false, some 168, [], .slice none 0 0, none⟩
theorem ty165 : TyOk Tryd.prog 165 ti165 := ⟨by kernel_rfl, fun w => by kernel_rfl, fun w => by kernel_rfl, fun w => by kernel_rfl, (fun e he => by cases he; kernel_rfl), (fun k hk => by cases hk), (fun f o hf => by cases f <;> cases hf)⟩
def ti166 : TI := ⟨1, 8, false, none, [], .nilFunc, none⟩
theorem ty166 : TyOk Tryd.prog 166 ti166 := ⟨by kernel_rfl, fun w => by kernel_rfl, fun w => by kernel_rfl, fun w => by kernel_rfl, (fun e he => by cases he), (fun k hk => by cases hk), (fun f o hf => by cases f <;> cases hf)⟩
def ti167 : TI := ⟨3, 40, true, none, [0, 1, 2], .agg #[.int .i64 0, .string ByteArray.empty, .string ByteArray.empty], none⟩
theorem ty167 : TyOk Tryd.prog 167 ti167 := ⟨by kernel_rfl, fun w => by kernel_rfl, fun w => by kernel_rfl, fun w => by kernel_rfl, (fun e he => by cases he), (fun k hk => by cases hk), (fun f o hf w a => by
    match f, hf with
    | 0, hf => cases hf; (show _ = _); kernel_rfl
    | 1, hf => cases hf; (show _ = _); kernel_rfl
    | 2, hf => cases hf; (show _ = _); kernel_rfl
    | n + 3, hf => cases hf)⟩
def ti168 : TI := ⟨3, 40, true, none, [0, 1, 2], .agg #[.int .i64 0, .string ByteArray.empty, .string ByteArray.empty], none⟩
theorem ty168 : TyOk Tryd.prog 168 ti168 := ⟨by kernel_rfl, fun w => by kernel_rfl, fun w => by kernel_rfl, fun w => by kernel_rfl, (fun e he => by cases he), (fun k hk => by cases hk), (fun f o hf w a => by
    match f, hf with
    | 0, hf => cases hf; (show _ = _); kernel_rfl
    | 1, hf => cases hf; (show _ = _); kernel_rfl
    | 2, hf => cases hf; (show _ = _); kernel_rfl
    | n + 3, hf => cases hf)⟩
def ti169 : TI := ⟨1, 8, false, none, [], .nilFunc, none⟩
theorem ty169 : TyOk Tryd.prog 169 ti169 := ⟨by kernel_rfl, fun w => by kernel_rfl, fun w => by kernel_rfl, fun w => by kernel_rfl, (fun e he => by cases he), (fun k hk => by cases hk), (fun f o hf => by cases f <;> cases hf)⟩
def ti170 : TI := ⟨1, 8, false, none, [], .pointer none, none⟩
theorem ty170 : TyOk Tryd.prog 170 ti170 := ⟨by kernel_rfl, fun w => by kernel_rfl, fun w => by kernel_rfl, fun w => by kernel_rfl, (fun e he => by cases he), (fun k hk => by cases hk), (fun f o hf => by cases f <;> cases hf)⟩
def ti172 : TI := ⟨1, 8, false, none, [], .nilFunc, none⟩
theorem ty172 : TyOk Tryd.prog 172 ti172 := ⟨by kernel_rfl, fun w => by kernel_rfl, fun w => by kernel_rfl, fun w => by kernel_rfl, (fun e he => by cases he), (fun k hk => by cases hk), (fun f o hf => by cases f <;> cases hf)⟩
def ti173 : TI := ⟨256, 256, true, none, [], .agg #[.int .u8 0, .int .u8 0, .int .u8 0, .int .u8 0, .int .u8 0, .int .u8 0, .int .u8 0, .int .u8 0, .int .u8 0, .int .u8 0, .int .u8 0, .int .u8 0, .int .u8 0, .int .u8 0, .int .u8 0, .int .u8 0, .int .u8 0, .int .u8 0, .int .u8 0, .int .u8 0, .int .u8 0, .int .u8 0, .int .u8 0, .int .u8 0, .int .u8 0, .int .u8 0, .int .u8 0, .int .u8 0, .int .u8 0, .int .u8 0, .int .u8 0, .int .u8 0, .int .u8 0, .int .u8 0, .int .u8 0, .int .u8 0, .int .u8 0, .int .u8 0, .int .u8 0, .int .u8 0, .int .u8 0, .int .u8 0, .int .u8 0, .int .u8 0, .int .u8 0, .int .u8 0, .int .u8 0, .int .u8 0, .int .u8 0, .int .u8 0, .int .u8 0, .int .u8 0, .int .u8 0, .int .u8 0, .int .u8 0, .int .u8 0, .int .u8 0, .int .u8 0, .int .u8 0, .int .u8 0, .int .u8 0, .int .u8 0, .int .u8 0, .int .u8 0, .int .u8 0, .int .u8 0, .int .u8 0, .int .u8 0, .int .u8 0, .int .u8 0, .int .u8 0, .int .u8 0, .int .u8 0, .int .u8 0, .int .u8 0, .int .u8 0, .int .u8 0, .int .u8 0, .int .u8 0, .int .u8 0, .int .u8 0, .int .u8 0, .int .u8 0, .int .u8 0, .int .u8 0, .int .u8 0, .int .u8 0, .int .u8 0, .int .u8 0, .int .u8 0, .int .u8 0, .int .u8 0, .int .u8 0, .int .u8 0, .int .u8 0, .int .u8 0, .int .u8 0, .int .u8 0, .int .u8 0, .int .u8 0, .int .u8 0, .int .u8 0, .int .u8 0, .int .u8 0, .int .u8 0, .int .u8 0, .int .u8 0, .int .u8 0, .int .u8 0, .int .u8 0, .int .u8 0, .int .u8 0, .int .u8 0, .int .u8 0, .int .u8 0, .int .u8 0, .int .u8 0, .int .u8 0, .int .u8 0, .int .u8 0, .int .u8 0, .int .u8 0, .int .u8 0, .int .u8 0, .int .u8 0, .int .u8 0, .int .u8 0, .int .u8 0, .int .u8 0, .int .u8 0, .int .u8 0, .int .u8 0, .int .u8 0, .int .u8 0, .int .u8 0, .int .u8 0, .int .u8 0, .int .u8 0, .int .u8 0, .int .u8 0, .int .u8 0, .int .u8 0, .int .u8 0, .int .u8 0, .int .u8 0, .int .u8 0, .int .u8 0, .int .u8 0, .int .u8 0, .int .u8 0, .int .u8 0, .int .u8 0, .int .u8 0, .int .u8 0, .int .u8 0, .int .u8 0, .int .u8 0, .int .u8 0, .int .u8 0, .int .u8 0, .int .u8 0, .int .u8 0, .int .u8 0, .int .u8 0, .int .u8 0, .int .u8 0, .int .u8 0, .int .u8 0, .int .u8 0, .int .u8 0, .int .u8 0, .int .u8 0, .int .u8 0, .int .u8 0, .int .u8 0, .int .u8 0, .int .u8 0, .int .u8 0, .int .u8 0, .int .u8 0, .int .u8 0, .int .u8 0, .int .u8 0, .int .u8 0, .int .u8 0, .int .u8 0, .int .u8 0, .int .u8 0, .int .u8 0, .int .u8 0, .int .u8 0, .int .u8 0, .int .u8 0, .int .u8 0, .int .u8 0, .int .u8 0, .int .u8 0, .int .u8 0, .int .u8 0, .int .u8 0, .int .u8 0, .int .u8 0, .int .u8 0, .int .u8 0, .int .u8 0, .int .u8 0, .int .u8 0, .int .u8 0, .int .u8 0, .int .u8 0, .int .u8 0, .int .u8 0, .int .u8 0, .int .u8 0, .int .u8 0, .int .u8 0, .int .u8 0, .int .u8 0, .int .u8 0, .int .u8 0, .int .u8 0, .int .u8 0, .int .u8 0, .int .u8 0, .int .u8 0, .int .u8 0, .int .u8 0, .int .u8 0, .int .u8 0, .int .u8 0, .int .u8 0, .int .u8 0, .int .u8 0, .int .u8 0, .int .u8 0, .int .u8 0, .int .u8 0, .int .u8 0, .int .u8 0, .int .u8 0, .int .u8 0, .int .u8 0, .int .u8 0, .int .u8 0, .int .u8 0, .int .u8 0, .int .u8 0, .int .u8 0, .int .u8 0, .int .u8 0, .int .u8 0, .int .u8 0, .int .u8 0, .int .u8 0, .int .u8 0, .int .u8 0], none⟩
theorem ty173 : TyOk Tryd.prog 173 ti173 := ⟨by kernel_rfl, fun w => by kernel_rfl, fun w => by kernel_rfl, fun w => by kernel_rfl, (fun e he => by cases he), (fun k hk => by cases hk), (fun f o hf => by cases f <;> cases hf)⟩
def ti174 : TI := ⟨1, 8, false, none, [], .nilFunc, none⟩
theorem ty174 : TyOk Tryd.prog 174 ti174 := ⟨by kernel_rfl, fun w => by kernel_rfl, fun w => by kernel_rfl, fun w => by kernel_rfl, (fun e he => by cases he), (fun k hk => by cases hk), (fun f o hf => by cases f <;> cases hf)⟩
def ti175 : TI := ⟨1, 8, false, none, [], .nilFunc, none⟩
theorem ty175 : TyOk Tryd.prog 175 ti175 := ⟨by kernel_rfl, fun w => by kernel_rfl, fun w => by kernel_rfl, fun w => by kernel_rfl, (fun e he => by cases he), (fun k hk => by cases hk), (fun f o hf => by cases f <;> cases hf)⟩
def ti176 : TI := ⟨1, 8, false, none, [], .nilFunc, none⟩
theorem ty176 : TyOk Tryd.prog 176 ti176 := ⟨by kernel_rfl, fun w => by kernel_rfl, fun w => by kernel_rfl, fun w => by kernel_rfl, (fun e he => by cases he), (fun k hk => by cases hk), (fun f o hf => by cases f <;> cases hf)⟩
def ti177 : TI := ⟨1, 24, false, some 179, [], .slice none 0 0, none⟩
theorem ty177 : TyOk Tryd.prog 177 ti177 := ⟨by kernel_rfl, fun w => by kernel_rfl, fun w => by kernel_rfl, fun w => by kernel_rfl, (fun e he => by cases he; kernel_rfl), (fun k hk => by cases hk), (fun f o hf => by cases f <;> cases hf)⟩
def ti178 : TI := ⟨2, 16, true, none, [0, 1], .agg #[.int .i64 0, .int .i64 0], none⟩
theorem ty178 : TyOk Tryd.prog 178 ti178 := ⟨by kernel_rfl, fun w => by kernel_rfl, fun w => by kernel_rfl, fun w => by kernel_rfl, (fun e he => by cases he), (fun k hk => by cases hk), (fun f o hf w a => by
    match f, hf with
    | 0, hf => cases hf; (show _ = _); kernel_rfl
    | 1, hf => cases hf; (show _ = _); kernel_rfl
    | n + 2, hf => cases hf)⟩
def ti179 : TI := ⟨2, 16, true, none, [0, 1], .agg #[.int .i64 0, .int .i64 0], none⟩
theorem ty179 : TyOk Tryd.prog 179 ti179 := ⟨by kernel_rfl, fun w => by kernel_rfl, fun w => by kernel_rfl, fun w => by kernel_rfl, (fun e he => by cases he), (fun k hk => by cases hk), (fun f o hf w a => by
    match f, hf with
    | 0, hf => cases hf; (show _ = _); kernel_rfl
    | 1, hf => cases hf; (show _ = _); kernel_rfl
    | n + 2, hf => cases hf)⟩
def ti180 : TI := ⟨1, 8, false, none, [], .nilFunc, none⟩
theorem ty180 : TyOk Tryd.prog 180 ti180 := ⟨by kernel_rfl, fun w => by kernel_rfl, fun w => by kernel_rfl, fun w => by kernel_rfl, (fun e he => by cases he), (fun k hk => by cases hk), (fun f o hf => by cases f <;> cases hf)⟩
def ti181 : TI := ⟨1, 8, false, none, [], .pointer none, none⟩
theorem ty181 : TyOk Tryd.prog 181 ti181 := ⟨by kernel_rfl, fun w => by kernel_rfl, fun w => by kernel_rfl, fun w => by kernel_rfl, (fun e he => by cases he), (fun k hk => by cases hk), (fun f o hf => by cases f <;> cases hf)⟩
def ti183 : TI := ⟨1, 8, false, none, [], .nilFunc, none⟩
theorem ty183 : TyOk Tryd.prog 183 ti183 := ⟨by kernel_rfl, fun w => by kernel_rfl, fun w => by kernel_rfl, fun w => by kernel_rfl, (fun e he => by cases he), (fun k hk => by cases hk), (fun f o hf => by cases f <;> cases hf)⟩
def ti184 : TI := ⟨1, 24, false, some 189, [], .slice none 0 0, none⟩
theorem ty184 : TyOk Tryd.prog 184 ti184 := ⟨by kernel_rfl, fun w => by kernel_rfl, fun w => by kernel_rfl, fun w => by kernel_rfl, (fun e he => by cases he; kernel_rfl), (fun k hk => by cases hk), (fun f o hf => by cases f <;> cases hf)⟩
def ti185 : TI := ⟨1, 24, false, some 192, [], .slice none 0 0, none⟩
theorem ty185 : TyOk Tryd.prog 185 ti185 := ⟨by kernel_rfl, fun w => by kernel_rfl, fun w => by kernel_rfl, fun w => by kernel_rfl, (fun e he => by cases he; kernel_rfl), (fun k hk => by cases hk), (fun f o hf => by cases f <;> cases hf)⟩
def ti186 : TI := ⟨3, 56, true, none, [0, 1, 2], .agg #[.slice none 0 0, .slice none 0 0, .int .i64 0], none⟩
theorem ty186 : TyOk Tryd.prog 186 ti186 := ⟨by kernel_rfl, fun w => by kernel_rfl, fun w => by kernel_rfl, fun w => by kernel_rfl, (fun e he => by cases he), (fun k hk => by cases hk), (fun f o hf w a => by
    match f, hf with
    | 0, hf => cases hf; (show _ = _); kernel_rfl
    | 1, hf => cases hf; (show _ = _); kernel_rfl
    | 2, hf => cases hf; (show _ = _); kernel_rfl
    | n + 3, hf => cases hf)⟩
def ti187 : TI := ⟨3, 56, true, none, [0, 1, 2], .agg #[.slice none 0 0, .slice none 0 0, .int .i64 0], none⟩
theorem ty187 : TyOk Tryd.prog 187 ti187 := ⟨by kernel_rfl, fun w => by kernel_rfl, fun w => by kernel_rfl, fun w => by kernel_rfl, (fun e he => by cases he), (fun k hk => by cases hk), (fun f o hf w a => by
    match f, hf with
    | 0, hf => cases hf; (show _ = _); kernel_rfl
    | 1, hf => cases hf; (show _ = _); kernel_rfl
    | 2, hf => cases hf; (show _ = _); kernel_rfl
    | n + 3, hf => cases hf)⟩
def ti188 : TI := ⟨3, 6, true, none, [0, 1, 2], .agg #[.int .u16 0, .int .u16 0, .int .u16 0], none⟩
theorem ty188 : TyOk Tryd.prog 188 ti188 := ⟨by kernel_rfl, fun w => by kernel_rfl, fun w => by kernel_rfl, fun w => by kernel_rfl, (fun e he => by cases he), (fun k hk => by cases hk), (fun f o hf w a => by
    match f, hf with
    | 0, hf => cases hf; (show _ = _); kernel_rfl
    | 1, hf => cases hf; (show _ = _); kernel_rfl
    | 2, hf => cases hf; (show _ = _); kernel_rfl
    | n + 3, hf => cases hf)⟩
def ti189 : TI := ⟨3, 6, true, none, [0, 1, 2], .agg #[.int .u16 0, .int .u16 0, .int .u16 0], none⟩
theorem ty189 : TyOk Tryd.prog 189 ti189 := ⟨by kernel_rfl, fun w => by kernel_rfl, fun w => by kernel_rfl, fun w => by kernel_rfl, (fun e he => by cases he), (fun k hk => by cases hk), (fun f o hf w a => by
    match f, hf with
    | 0, hf => cases hf; (show _ = _); kernel_rfl
    | 1, hf => cases hf; (show _ = _); kernel_rfl
    | 2, hf => cases hf; (show _ = _); kernel_rfl
    | n + 3, hf => cases hf)⟩
def ti190 : TI := ⟨1, 8, false, none, [], .nilFunc, none⟩
theorem ty190 : TyOk Tryd.prog 190 ti190 := ⟨by kernel_rfl, fun w => by kernel_rfl, fun w => by kernel_rfl, fun w => by kernel_rfl, (fun e he => by cases he), (fun k hk => by cases hk), (fun f o hf => by cases f <;> cases hf)⟩
def ti191 : TI := ⟨3, 12, true, none, [0, 1, 2], .agg #[.int .u32 0, .int .u32 0, .int .u32 0], none⟩
theorem ty191 : TyOk Tryd.prog 191 ti191 := ⟨by kernel_rfl, fun w => by kernel_rfl, fun w => by kernel_rfl, fun w => by kernel_rfl, (fun e he => by cases he), (fun k hk => by cases hk), (fun f o hf w a => by
    match f, hf with
    | 0, hf => cases hf; (show _ = _); kernel_rfl
    | 1, hf => cases hf; (show _ = _); kernel_rfl
    | 2, hf => cases hf; (show _ = _); kernel_rfl
    | n + 3, hf => cases hf)⟩
def ti192 : TI := ⟨3, 12, true, none, [0, 1, 2], .agg #[.int .u32 0, .int .u32 0, .int .u32 0], none⟩
theorem ty192 : TyOk Tryd.prog 192 ti192 := ⟨by kernel_rfl, fun w => by kernel_rfl, fun w => by kernel_rfl, fun w => by kernel_rfl, (fun e he => by cases he), (fun k hk => by cases hk), (fun f o hf w a => by
    match f, hf with
    | 0, hf => cases hf; (show _ = _); kernel_rfl
    | 1, hf => cases hf; (show _ = _); kernel_rfl
    | 2, hf => cases hf; (show _ = _); kernel_rfl
    | n + 3, hf => cases hf)⟩
def ti193 : TI := ⟨1, 8, false, none, [], .nilFunc, none⟩
theorem ty193 : TyOk Tryd.prog 193 ti193 := ⟨by kernel_rfl, fun w => by kernel_rfl, fun w => by kernel_rfl, fun w => by kernel_rfl, (fun e he => by cases he), (fun k hk => by cases hk), (fun f o hf => by cases f <;> cases hf)⟩
def ti194 : TI := ⟨1, 8, false, none, [], .pointer none, none⟩
theorem ty194 : TyOk Tryd.prog 194 ti194 := ⟨by kernel_rfl, fun w => by kernel_rfl, fun w => by kernel_rfl, fun w => by kernel_rfl, (fun e he => by cases he), (fun k hk => by cases hk), (fun f o hf => by cases f <;> cases hf)⟩
def ti195 : TI := ⟨1, 8, false, none, [], .pointer none, none⟩
theorem ty195 : TyOk Tryd.prog 195 ti195 := ⟨by kernel_rfl, fun w => by kernel_rfl, fun w => by kernel_rfl, fun w => by kernel_rfl, (fun e he => by cases he), (fun k hk => by cases hk), (fun f o hf => by cases f <;> cases hf)⟩
def ti196 : TI := ⟨1, 8, false, none, [], .nilFunc, none⟩
theorem ty196 : TyOk Tryd.prog 196 ti196 := ⟨by kernel_rfl, fun w => by kernel_rfl, fun w => by kernel_rfl, fun w => by kernel_rfl, (fun e he => by cases he), (fun k hk => by cases hk), (fun f o hf => by cases f <;> cases hf)⟩
def ti197 : TI := ⟨4, 40, true, none, [0, 1, 2, 3], .agg #[.pointer none, .pointer none, .pointer none, .string ByteArray.empty], none⟩
theorem ty197 : TyOk Tryd.prog 197 ti197 := ⟨by kernel_rfl, fun w => by kernel_rfl, fun w => by kernel_rfl, fun w => by kernel_rfl, (fun e he => by cases he), (fun k hk => by cases hk), (fun f o hf w a => by
    match f, hf with
    | 0, hf => cases hf; (show _ = _); kernel_rfl
    | 1, hf => cases hf; (show _ = _); kernel_rfl
    | 2, hf => cases hf; (show _ = _); kernel_rfl
    | 3, hf => cases hf; (show _ = _); kernel_rfl
    | n + 4, hf => cases hf)⟩
def ti198 : TI := ⟨4, 40, true, none, [0, 1, 2, 3], .agg #[.pointer none, .pointer none, .pointer none, .string ByteArray.empty], none⟩
theorem ty198 : TyOk Tryd.prog 198 ti198 := ⟨by kernel_rfl, fun w => by kernel_rfl, fun w => by kernel_rfl, fun w => by kernel_rfl, (fun e he => by cases he), (fun k hk => by cases hk), (fun f o hf w a => by
    match f, hf with
    | 0, hf => cases hf; (show _ = _); kernel_rfl
    | 1, hf => cases hf; (show _ = _); kernel_rfl
    | 2, hf => cases hf; (show _ = _); kernel_rfl
    | 3, hf => cases hf; (show _ = _); kernel_rfl
    | n + 4, hf => cases hf)⟩
def ti199 : TI := ⟨0, 0, true, none, [], .agg #[], none⟩
theorem ty199 : TyOk Tryd.prog 199 ti199 := ⟨by kernel_rfl, fun w => by kernel_rfl, fun w => by kernel_rfl, fun w => by kernel_rfl, (fun e he => by cases he), (fun k hk => by cases hk), (fun f o hf => by cases f <;> cases hf)⟩
def ti202 : TI := ⟨1, 8, false, none, [], .nilFunc, none⟩
theorem ty202 : TyOk Tryd.prog 202 ti202 := ⟨by kernel_rfl, fun w => by kernel_rfl, fun w => by kernel_rfl, fun w => by kernel_rfl, (fun e he => by cases he), (fun k hk => by cases hk), (fun f o hf => by cases f <;> cases hf)⟩
def ti203 : TI := ⟨1, 1, false, none, [], .int .u8 0, some .u8⟩
theorem ty203 : TyOk Tryd.prog 203 ti203 := ⟨by kernel_rfl, fun w => by kernel_rfl, fun w => by kernel_rfl, fun w => by kernel_rfl, (fun e he => by cases he), (fun k hk => by cases hk; kernel_rfl), (fun f o hf => by cases f <;> cases hf)⟩
def ti204 : TI := ⟨1, 1, false, none, [], .int .u8 0, some .u8⟩
theorem ty204 : TyOk Tryd.prog 204 ti204 := ⟨by kernel_rfl, fun w => by kernel_rfl, fun w => by kernel_rfl, fun w => by kernel_rfl, (fun e he => by cases he), (fun k hk => by cases hk; kernel_rfl), (fun f o hf => by cases f <;> cases hf)⟩
def ti205 : TI := ⟨1, 8, false, none, [], .nilFunc, none⟩
theorem ty205 : TyOk Tryd.prog 205 ti205 := ⟨by kernel_rfl, fun w => by kernel_rfl, fun w => by kernel_rfl, fun w => by kernel_rfl, (fun e he => by cases he), (fun k hk => by cases hk), (fun f o hf => by cases f <;> cases hf)⟩
def ti206 : TI := ⟨1, 8, false, none, [], .pointer none, none⟩
theorem ty206 : TyOk Tryd.prog 206 ti206 := ⟨by kernel_rfl, fun w => by kernel_rfl, fun w => by kernel_rfl, fun w => by kernel_rfl, (fun e he => by cases he), (fun k hk => by cases hk), (fun f o hf => by cases f <;> cases hf)⟩
def ti207 : TI := ⟨1, 4, false, none, [], .int .i32 0, some .i32⟩
theorem ty207 : TyOk Tryd.prog 207 ti207 := ⟨by kernel_rfl, fun w => by kernel_rfl, fun w => by kernel_rfl, fun w => by kernel_rfl, (fun e he => by cases he), (fun k hk => by cases hk; kernel_rfl), (fun f o hf => by cases f <;> cases hf)⟩
def ti208 : TI := ⟨1, 4, false, none, [], .int .i32 0, some .i32⟩
theorem ty208 : TyOk Tryd.prog 208 ti208 := ⟨by kernel_rfl, fun w => by kernel_rfl, fun w => by kernel_rfl, fun w => by kernel_rfl, (fun e he => by cases he), (fun k hk => by cases hk; kernel_rfl), (fun f o hf => by cases f <;> cases hf)⟩
def ti209 : TI := ⟨11, 48, true, none, [0, 1, 2, 3, 4, 5, 6, 7, 8, 9, 10], .agg #[.int .u64 0, .int .u64 0, .int .u32 0, .int .u8 0, .int .u8 0, .int .u8 0, .int .u8 0, .nilFunc, .pointer none, .int .i32 0, .int .i32 0], none⟩
theorem ty209 : TyOk Tryd.prog 209 ti209 := ⟨by kernel_rfl, fun w => by kernel_rfl, fun w => by kernel_rfl, fun w => by kernel_rfl, (fun e he => by cases he), (fun k hk => by cases hk), (fun f o hf w a => by
    match f, hf with
    | 0, hf => cases hf; (show _ = _); kernel_rfl
    | 1, hf => cases hf; (show _ = _); kernel_rfl
    | 2, hf => cases hf; (show _ = _); kernel_rfl
    | 3, hf => cases hf; (show _ = _); kernel_rfl
    | 4, hf => cases hf; (show _ = _); kernel_rfl
    | 5, hf => cases hf; (show _ = _); kernel_rfl
    | 6, hf => cases hf; (show _ = _); kernel_rfl
    | 7, hf => cases hf; (show _ = _); kernel_rfl
    | 8, hf => cases hf; (show _ = _); kernel_rfl
    | 9, hf => cases hf; (show _ = _); kernel_rfl
    | 10, hf => cases hf; (show _ = _); kernel_rfl
    | n + 11, hf => cases hf)⟩
def ti210 : TI := ⟨11, 48, true, none, [0, 1, 2, 3, 4, 5, 6, 7, 8, 9, 10], .agg #[.int .u64 0, .int .u64 0, .int .u32 0, .int .u8 0, .int .u8 0, .int .u8 0, .int .u8 0, .nilFunc, .pointer none, .int .i32 0, .int .i32 0], none⟩
theorem ty210 : TyOk Tryd.prog 210 ti210 := ⟨by kernel_rfl, fun w => by kernel_rfl, fun w => by kernel_rfl, fun w => by kernel_rfl, (fun e he => by cases he), (fun k hk => by cases hk), (fun f o hf w a => by
    match f, hf with
    | 0, hf => cases hf; (show _ = _); kernel_rfl
    | 1, hf => cases hf; (show _ = _); kernel_rfl
    | 2, hf => cases hf; (show _ = _); kernel_rfl
    | 3, hf => cases hf; (show _ = _); kernel_rfl
    | 4, hf => cases hf; (show _ = _); kernel_rfl
    | 5, hf => cases hf; (show _ = _); kernel_rfl
    | 6, hf => cases hf; (show _ = _); kernel_rfl
    | 7, hf => cases hf; (show _ = _); kernel_rfl
    | 8, hf => cases hf; (show _ = _); kernel_rfl
    | 9, hf => cases hf; (show _ = _); kernel_rfl
    | 10, hf => cases hf; (show _ = _); kernel_rfl
    | n + 11, hf => cases hf)⟩
def ti211 : TI := ⟨1, 24, false, some 5, [], .slice none 0 0, none⟩
theorem ty211 : TyOk Tryd.prog 211 ti211 := ⟨by kernel_rfl, fun w => by kernel_rfl, fun w => by kernel_rfl, fun w => by kernel_rfl, (fun e he => by cases he; kernel_rfl), (fun k hk => by cases hk), (fun f o hf => by cases f <;> cases hf)⟩
def ti212 : TI := ⟨4, 64, true, none, [0, 1, 2, 3], .agg #[.int .i64 0, .int .i64 0, .slice none 0 0, .slice none 0 0], none⟩
theorem ty212 : TyOk Tryd.prog 212 ti212 := ⟨by kernel_rfl, fun w => by kernel_rfl, fun w => by kernel_rfl, fun w => by kernel_rfl, (fun e he => by cases he), (fun k hk => by cases hk), (fun f o hf w a => by
    match f, hf with
    | 0, hf => cases hf; (show _ = _); kernel_rfl
    | 1, hf => cases hf; (show _ = _); kernel_rfl
    | 2, hf => cases hf; (show _ = _); kernel_rfl
    | 3, hf => cases hf; (show _ = _); kernel_rfl
    | n + 4, hf => cases hf)⟩
def ti213 : TI := ⟨4, 64, true, none, [0, 1, 2, 3], .agg #[.int .i64 0, .int .i64 0, .slice none 0 0, .slice none 0 0], none⟩
theorem ty213 : TyOk Tryd.prog 213 ti213 := ⟨by kernel_rfl, fun w => by kernel_rfl, fun w => by kernel_rfl, fun w => by kernel_rfl, (fun e he => by cases he), (fun k hk => by cases hk), (fun f o hf w a => by
    match f, hf with
    | 0, hf => cases hf; (show _ = _); kernel_rfl
    | 1, hf => cases hf; (show _ = _); kernel_rfl
    | 2, hf => cases hf; (show _ = _); kernel_rfl
    | 3, hf => cases hf; (show _ = _); kernel_rfl
    | n + 4, hf => cases hf)⟩
def ti214 : TI := ⟨3, 48, true, none, [0, 1, 2], .agg #[.int .i64 0, .string ByteArray.empty, .slice none 0 0], none⟩
theorem ty214 : TyOk Tryd.prog 214 ti214 := ⟨by kernel_rfl, fun w => by kernel_rfl, fun w => by kernel_rfl, fun w => by kernel_rfl, (fun e he => by cases he), (fun k hk => by cases hk), (fun f o hf w a => by
    match f, hf with
    | 0, hf => cases hf; (show _ = _); kernel_rfl
    | 1, hf => cases hf; (show _ = _); kernel_rfl
    | 2, hf => cases hf; (show _ = _); kernel_rfl
    | n + 3, hf => cases hf)⟩
def ti215 : TI := ⟨3, 48, true, none, [0, 1, 2], .agg #[.int .i64 0, .string ByteArray.empty, .slice none 0 0], none⟩
theorem ty215 : TyOk Tryd.prog 215 ti215 := ⟨by kernel_rfl, fun w => by kernel_rfl, fun w => by kernel_rfl, fun w => by kernel_rfl, (fun e he => by cases he), (fun k hk => by cases hk), (fun f o hf w a => by
    match f, hf with
    | 0, hf => cases hf; (show _ = _); kernel_rfl
    | 1, hf => cases hf; (show _ = _); kernel_rfl
    | 2, hf => cases hf; (show _ = _); kernel_rfl
    | n + 3, hf => cases hf)⟩
def ti216 : TI := ⟨1, 8, false, none, [], .pointer none, none⟩
theorem ty216 : TyOk Tryd.prog 216 ti216 := ⟨by kernel_rfl, fun w => by kernel_rfl, fun w => by kernel_rfl, fun w => by kernel_rfl, (fun e he => by cases he), (fun k hk => by cases hk), (fun f o hf => by cases f <;> cases hf)⟩
def tbl : List (Option TI) := [none, some ti1, some ti2, some ti3, some ti4, some ti5, some ti6, some ti7, some ti8, some ti9, some ti10, some ti11, some ti12, some ti13, some ti14, some ti15, some ti16, some ti17, some ti18, some ti19, some ti20, some ti21, some ti22, some ti23, some ti24, some ti25, some ti26, some ti27, some ti28, some ti29, some ti30, some ti31, some ti32, some ti33, some ti34, some ti35, some ti36, some ti37, some ti38, some ti39, some ti40, some ti41, some ti42, some ti43, some ti44, some ti45, some ti46, some ti47, some ti48, some ti49, some ti50, some ti51, some ti52, some ti53, some ti54, some ti55, some ti56, some ti57, some ti58, some ti59, some ti60, some ti61, some ti62, some ti63, some ti64, some ti65, some ti66, some ti67, some ti68, some ti69, some ti70, some ti71, none, some ti73, some ti74, some ti75, some ti76, some ti77, some ti78, some ti79, some ti80, some ti81, none, some ti83, some ti84, some ti85, some ti86, none, some ti88, some ti89, some ti90, none, some ti92, some ti93, some ti94, some ti95, some ti96, some ti97, none, some ti99, some ti100, some ti101, some ti102, some ti103, some ti104, some ti105, some ti106, some ti107, some ti108, some ti109, some ti110, some ti111, some ti112, some ti113, some ti114, some ti115, some ti116, some ti117, some ti118, some ti119, some ti120, some ti121, some ti122, some ti123, none, some ti125, some ti126, some ti127, some ti128, some ti129, some ti130, some ti131, some ti132, some ti133, some ti134, some ti135, some ti136, some ti137, some ti138, some ti139, none, some ti141, some ti142, some ti143, some ti144, some ti145, some ti146, some ti147, some ti148, some ti149, some ti150, some ti151, some ti152, some ti153, some ti154, some ti155, some ti156, some ti157, some ti158, some ti159, some ti160, some ti161, some ti162, some ti163, some ti164, some ti165, some ti166, some ti167, some ti168, some ti169, some ti170, none, some ti172, some ti173, some ti174, some ti175, some ti176, some ti177, some ti178, some ti179, some ti180, some ti181, none, some ti183, some ti184, some ti185, some ti186, some ti187, some ti188, some ti189, some ti190, some ti191, some ti192, some ti193, some ti194, some ti195, some ti196, some ti197, some ti198, some ti199, none, none, some ti202, some ti203, some ti204, some ti205, some ti206, some ti207, some ti208, some ti209, some ti210, some ti211, some ti212, some ti213, some ti214, some ti215, some ti216]
theorem tbl_ok : AllTy Tryd.prog tbl 0 := ⟨ty1, ty2, ty3, ty4, ty5, ty6, ty7, ty8, ty9, ty10, ty11, ty12, ty13, ty14, ty15, ty16, ty17, ty18, ty19, ty20, ty21, ty22, ty23, ty24, ty25, ty26, ty27, ty28, ty29, ty30, ty31, ty32, ty33, ty34, ty35, ty36, ty37, ty38, ty39, ty40, ty41, ty42, ty43, ty44, ty45, ty46, ty47, ty48, ty49, ty50, ty51, ty52, ty53, ty54, ty55, ty56, ty57, ty58, ty59, ty60, ty61, ty62, ty63, ty64, ty65, ty66, ty67, ty68, ty69, ty70, ty71, ty73, ty74, ty75, ty76, ty77, ty78, ty79, ty80, ty81, ty83, ty84, ty85, ty86, ty88, ty89, ty90, ty92, ty93, ty94, ty95, ty96, ty97, ty99, ty100, ty101, ty102, ty103, ty104, ty105, ty106, ty107, ty108, ty109, ty110, ty111, ty112, ty113, ty114, ty115, ty116, ty117, ty118, ty119, ty120, ty121, ty122, ty123, ty125, ty126, ty127, ty128, ty129, ty130, ty131, ty132, ty133, ty134, ty135, ty136, ty137, ty138, ty139, ty141, ty142, ty143, ty144, ty145, ty146, ty147, ty148, ty149, ty150, ty151, ty152, ty153, ty154, ty155, ty156, ty157, ty158, ty159, ty160, ty161, ty162, ty163, ty164, ty165, ty166, ty167, ty168, ty169, ty170, ty172, ty173, ty174, ty175, ty176, ty177, ty178, ty179, ty180, ty181, ty183, ty184, ty185, ty186, ty187, ty188, ty189, ty190, ty191, ty192, ty193, ty194, ty195, ty196, ty197, ty198, ty199, ty202, ty203, ty204, ty205, ty206, ty207, ty208, ty209, ty210, ty211, ty212, ty213, ty214, ty215, ty216, trivial⟩
def ftb : List Bool := [false, false, true, true, true, true, true, true, true, true, true, true, true, true, true, true, true, true, true, true, true, true, true, true, true, true, true, true, true, true, true, true, true, true, true, true, true, true, true, true, true, true, true, true, true, true, true, true, true, true, true, true, true, true, true, true, true, true, true, true, true, true, true, true, true, true, true, true, true, true, true, true, true, true, true, true, true, true, true, false, true, true, true, false, true, true, true, false, false, false, false, false, false, false, false, false, false, false, false, false, false, false, false, false, false, false, false, false, false, false, false, true]
theorem ftb_ok : fbs Tryd.prog ftb 0 = true := by kernel_rfl
/-- the program of this seat -/
noncomputable def G : Prg := ⟨Tryd.prog, tbl, ftb, fun t i h => by simpa using AllTy.get tbl 0 tbl_ok t i h, fun f h vs w => fchk_ok (by simpa using fbs_ok ftb 0 ftb_ok f h) vs w, by kernel_rfl⟩
end Go.Proofs.YtmkgfccfnpmcjaaDoor
