/- The rows of the types and functions that the walk's own rules look up; printed by gen_g.py off the seat's translation. -/
import Derived.Test.YtfeakkicihlplaaA
namespace Go.Proofs.Ytfeakkicihlplaa
set_option maxRecDepth 100000

def ti1 : TI := ⟨1, 8, false, none, [], .nilFunc, none⟩
theorem ty1 : TyOk Try.prog 1 ti1 := ⟨by kernel_rfl, fun w => by kernel_rfl, fun w => by kernel_rfl, fun w => by kernel_rfl, (fun e he => by cases he), (fun k hk => by cases hk), (fun f o hf => by cases f <;> cases hf)⟩
def ti2 : TI := ⟨1, 8, false, none, [], .int .i64 0, some .i64⟩
theorem ty2 : TyOk Try.prog 2 ti2 := ⟨by kernel_rfl, fun w => by kernel_rfl, fun w => by kernel_rfl, fun w => by kernel_rfl, (fun e he => by cases he), (fun k hk => by cases hk; kernel_rfl), (fun f o hf => by cases f <;> cases hf)⟩
def ti3 : TI := ⟨1, 8, false, none, [], .int .i64 0, some .i64⟩
theorem ty3 : TyOk Try.prog 3 ti3 := ⟨by kernel_rfl, fun w => by kernel_rfl, fun w => by kernel_rfl, fun w => by kernel_rfl, (fun e he => by cases he), (fun k hk => by cases hk; kernel_rfl), (fun f o hf => by cases f <;> cases hf)⟩
def ti4 : TI := ⟨1, 1, false, none, [], .bool false, none⟩
theorem ty4 : TyOk Try.prog 4 ti4 := ⟨by kernel_rfl, fun w => by kernel_rfl, fun w => by kernel_rfl, fun w => by kernel_rfl, (fun e he => by cases he), (fun k hk => by cases hk), (fun f o hf => by cases f <;> cases hf)⟩
def ti5 : TI := ⟨1, 1, false, none, [], .int .u8 0, some .u8⟩
theorem ty5 : TyOk Try.prog 5 ti5 := ⟨by kernel_rfl, fun w => by kernel_rfl, fun w => by kernel_rfl, fun w => by kernel_rfl, (fun e he => by cases he), (fun k hk => by cases hk; kernel_rfl), (fun f o hf => by cases f <;> cases hf)⟩
def ti6 : TI := ⟨1, 1, false, none, [], .int .u8 0, some .u8⟩
theorem ty6 : TyOk Try.prog 6 ti6 := ⟨by kernel_rfl, fun w => by kernel_rfl, fun w => by kernel_rfl, fun w => by kernel_rfl, (fun e he => by cases he), (fun k hk => by cases hk; kernel_rfl), (fun f o hf => by cases f <;> cases hf)⟩
def ti7 : TI := ⟨4, 24, true, none, [0, 1, 2, 3], .agg #[.int .i64 0, .int .i64 0, .bool false, .int .u8 0], none⟩
theorem ty7 : TyOk Try.prog 7 ti7 := ⟨by kernel_rfl, fun w => by kernel_rfl, fun w => by kernel_rfl, fun w => by kernel_rfl, (fun e he => by cases he), (fun k hk => by cases hk), (fun f o hf w a => by
    match f, hf with
    | 0, hf => cases hf; (show _ = _); kernel_rfl
    | 1, hf => cases hf; (show _ = _); kernel_rfl
    | 2, hf => cases hf; (show _ = _); kernel_rfl
    | 3, hf => cases hf; (show _ = _); kernel_rfl
    | n + 4, hf => cases hf)⟩
def ti8 : TI := ⟨4, 24, true, none, [0, 1, 2, 3], .agg #[.int .i64 0, .int .i64 0, .bool false, .int .u8 0], none⟩
theorem ty8 : TyOk Try.prog 8 ti8 := ⟨by kernel_rfl, fun w => by kernel_rfl, fun w => by kernel_rfl, fun w => by kernel_rfl, (fun e he => by cases he), (fun k hk => by cases hk), (fun f o hf w a => by
    match f, hf with
    | 0, hf => cases hf; (show _ = _); kernel_rfl
    | 1, hf => cases hf; (show _ = _); kernel_rfl
    | 2, hf => cases hf; (show _ = _); kernel_rfl
    | 3, hf => cases hf; (show _ = _); kernel_rfl
    | n + 4, hf => cases hf)⟩
def ti9 : TI := ⟨1, 16, false, none, [], .string ByteArray.empty, none⟩
theorem ty9 : TyOk Try.prog 9 ti9 := ⟨by kernel_rfl, fun w => by kernel_rfl, fun w => by kernel_rfl, fun w => by kernel_rfl, (fun e he => by cases he), (fun k hk => by cases hk), (fun f o hf => by cases f <;> cases hf)⟩
def ti10 : TI := ⟨1, 16, false, none, [], .string ByteArray.empty, none⟩
theorem ty10 : TyOk Try.prog 10 ti10 := ⟨by kernel_rfl, fun w => by kernel_rfl, fun w => by kernel_rfl, fun w => by kernel_rfl, (fun e he => by cases he), (fun k hk => by cases hk), (fun f o hf => by cases f <;> cases hf)⟩
def ti11 : TI := ⟨1, 16, false, none, [], .string ByteArray.empty, none⟩
theorem ty11 : TyOk Try.prog 11 ti11 := ⟨by kernel_rfl, fun w => by kernel_rfl, fun w => by kernel_rfl, fun w => by kernel_rfl, (fun e he => by cases he), (fun k hk => by cases hk), (fun f o hf => by cases f <;> cases hf)⟩
def ti12 : TI := ⟨1, 8, false, none, [], .int .u64 0, some .u64⟩
theorem ty12 : TyOk Try.prog 12 ti12 := ⟨by kernel_rfl, fun w => by kernel_rfl, fun w => by kernel_rfl, fun w => by kernel_rfl, (fun e he => by cases he), (fun k hk => by cases hk; kernel_rfl), (fun f o hf => by cases f <;> cases hf)⟩
def ti13 : TI := ⟨2, 24, true, none, [0, 1], .agg #[.string ByteArray.empty, .int .u64 0], none⟩
theorem ty13 : TyOk Try.prog 13 ti13 := ⟨by kernel_rfl, fun w => by kernel_rfl, fun w => by kernel_rfl, fun w => by kernel_rfl, (fun e he => by cases he), (fun k hk => by cases hk), (fun f o hf w a => by
    match f, hf with
    | 0, hf => cases hf; (show _ = _); kernel_rfl
    | 1, hf => cases hf; (show _ = _); kernel_rfl
    | n + 2, hf => cases hf)⟩
def ti14 : TI := ⟨2, 24, true, none, [0, 1], .agg #[.string ByteArray.empty, .int .u64 0], none⟩
theorem ty14 : TyOk Try.prog 14 ti14 := ⟨by kernel_rfl, fun w => by kernel_rfl, fun w => by kernel_rfl, fun w => by kernel_rfl, (fun e he => by cases he), (fun k hk => by cases hk), (fun f o hf w a => by
    match f, hf with
    | 0, hf => cases hf; (show _ = _); kernel_rfl
    | 1, hf => cases hf; (show _ = _); kernel_rfl
    | n + 2, hf => cases hf)⟩
def ti15 : TI := ⟨1, 8, false, none, [], .pointer none, none⟩
theorem ty15 : TyOk Try.prog 15 ti15 := ⟨by kernel_rfl, fun w => by kernel_rfl, fun w => by kernel_rfl, fun w => by kernel_rfl, (fun e he => by cases he), (fun k hk => by cases hk), (fun f o hf => by cases f <;> cases hf)⟩
def ti16 : TI := ⟨1, 8, false, none, [], .pointer none, none⟩
theorem ty16 : TyOk Try.prog 16 ti16 := ⟨by kernel_rfl, fun w => by kernel_rfl, fun w => by kernel_rfl, fun w => by kernel_rfl, (fun e he => by cases he), (fun k hk => by cases hk), (fun f o hf => by cases f <;> cases hf)⟩
def ti17 : TI := ⟨1, 8, false, none, [], .pointer none, none⟩
theorem ty17 : TyOk Try.prog 17 ti17 := ⟨by kernel_rfl, fun w => by kernel_rfl, fun w => by kernel_rfl, fun w => by kernel_rfl, (fun e he => by cases he), (fun k hk => by cases hk), (fun f o hf => by cases f <;> cases hf)⟩
def ti18 : TI := ⟨1, 8, true, none, [0], .agg #[.pointer none], none⟩
theorem ty18 : TyOk Try.prog 18 ti18 := ⟨by kernel_rfl, fun w => by kernel_rfl, fun w => by kernel_rfl, fun w => by kernel_rfl, (fun e he => by cases he), (fun k hk => by cases hk), (fun f o hf w a => by
    match f, hf with
    | 0, hf => cases hf; (show _ = _); kernel_rfl
    | n + 1, hf => cases hf)⟩
def ti19 : TI := ⟨1, 8, true, none, [0], .agg #[.pointer none], none⟩
theorem ty19 : TyOk Try.prog 19 ti19 := ⟨by kernel_rfl, fun w => by kernel_rfl, fun w => by kernel_rfl, fun w => by kernel_rfl, (fun e he => by cases he), (fun k hk => by cases hk), (fun f o hf w a => by
    match f, hf with
    | 0, hf => cases hf; (show _ = _); kernel_rfl
    | n + 1, hf => cases hf)⟩
def ti20 : TI := ⟨1, 16, false, none, [], .nilIface, none⟩
theorem ty20 : TyOk Try.prog 20 ti20 := ⟨by kernel_rfl, fun w => by kernel_rfl, fun w => by kernel_rfl, fun w => by kernel_rfl, (fun e he => by cases he), (fun k hk => by cases hk), (fun f o hf => by cases f <;> cases hf)⟩
def ti21 : TI := ⟨1, 4, false, none, [], .int .i32 0, some .i32⟩
theorem ty21 : TyOk Try.prog 21 ti21 := ⟨by kernel_rfl, fun w => by kernel_rfl, fun w => by kernel_rfl, fun w => by kernel_rfl, (fun e he => by cases he), (fun k hk => by cases hk; kernel_rfl), (fun f o hf => by cases f <;> cases hf)⟩
def ti22 : TI := ⟨1, 24, false, some 44, [], .slice none 0 0, none⟩
theorem ty22 : TyOk Try.prog 22 ti22 := ⟨by kernel_rfl, fun w => by kernel_rfl, fun w => by kernel_rfl, fun w => by kernel_rfl, (fun e he => by cases he; kernel_rfl), (fun k hk => by cases hk), (fun f o hf => by cases f <;> cases hf)⟩
def ti23 : TI := ⟨1, 8, false, none, [], .nilFunc, none⟩
theorem ty23 : TyOk Try.prog 23 ti23 := ⟨by kernel_rfl, fun w => by kernel_rfl, fun w => by kernel_rfl, fun w => by kernel_rfl, (fun e he => by cases he), (fun k hk => by cases hk), (fun f o hf => by cases f <;> cases hf)⟩
def ti24 : TI := ⟨1, 8, false, none, [], .nilFunc, none⟩
theorem ty24 : TyOk Try.prog 24 ti24 := ⟨by kernel_rfl, fun w => by kernel_rfl, fun w => by kernel_rfl, fun w => by kernel_rfl, (fun e he => by cases he), (fun k hk => by cases hk), (fun f o hf => by cases f <;> cases hf)⟩
def ti25 : TI := ⟨1, 24, false, some 35, [], .slice none 0 0, none⟩
theorem ty25 : TyOk Try.prog 25 ti25 := ⟨by kernel_rfl, fun w => by kernel_rfl, fun w => by kernel_rfl, fun w => by kernel_rfl, (fun e he => by cases he; kernel_rfl), (fun k hk => by cases hk), (fun f o hf => by cases f <;> cases hf)⟩
def ti27 : TI := ⟨1, 8, false, none, [], .nilFunc, none⟩
theorem ty27 : TyOk Try.prog 27 ti27 := ⟨by kernel_rfl, fun w => by kernel_rfl, fun w => by kernel_rfl, fun w => by kernel_rfl, (fun e he => by cases he), (fun k hk => by cases hk), (fun f o hf => by cases f <;> cases hf)⟩
def ti28 : TI := ⟨1, 24, false, some 57, [], .slice none 0 0, none⟩
theorem ty28 : TyOk Try.prog 28 ti28 := ⟨by kernel_rfl, fun w => by kernel_rfl, fun w => by kernel_rfl, fun w => by kernel_rfl, (fun e he => by cases he; kernel_rfl), (fun k hk => by cases hk), (fun f o hf => by cases f <;> cases hf)⟩
def ti30 : TI := ⟨1, 8, false, none, [], .nilFunc, none⟩
theorem ty30 : TyOk Try.prog 30 ti30 := ⟨by kernel_rfl, fun w => by kernel_rfl, fun w => by kernel_rfl, fun w => by kernel_rfl, (fun e he => by cases he), (fun k hk => by cases hk), (fun f o hf => by cases f <;> cases hf)⟩
def ti31 : TI := ⟨1, 8, false, none, [], .nilFunc, none⟩
theorem ty31 : TyOk Try.prog 31 ti31 := ⟨by kernel_rfl, fun w => by kernel_rfl, fun w => by kernel_rfl, fun w => by kernel_rfl, (fun e he => by cases he), (fun k hk => by cases hk), (fun f o hf => by cases f <;> cases hf)⟩
def ti32 : TI := ⟨1, 8, false, none, [], .nilFunc, none⟩
theorem ty32 : TyOk Try.prog 32 ti32 := ⟨by kernel_rfl, fun w => by kernel_rfl, fun w => by kernel_rfl, fun w => by kernel_rfl, (fun e he => by cases he), (fun k hk => by cases hk), (fun f o hf => by cases f <;> cases hf)⟩
def ti33 : TI := ⟨1, 24, false, some 3, [], .slice none 0 0, none⟩
theorem ty33 : TyOk Try.prog 33 ti33 := ⟨by kernel_rfl, fun w => by kernel_rfl, fun w => by kernel_rfl, fun w => by kernel_rfl, (fun e he => by cases he; kernel_rfl), (fun k hk => by cases hk), (fun f o hf => by cases f <;> cases hf)⟩
def ti34 : TI := ⟨4, 48, true, none, [0, 1, 2, 3], .agg #[.int .i64 0, .int .i64 0, .slice none 0 0, .bool false], none⟩
theorem ty34 : TyOk Try.prog 34 ti34 := ⟨by kernel_rfl, fun w => by kernel_rfl, fun w => by kernel_rfl, fun w => by kernel_rfl, (fun e he => by cases he), (fun k hk => by cases hk), (fun f o hf w a => by
    match f, hf with
    | 0, hf => cases hf; (show _ = _); kernel_rfl
    | 1, hf => cases hf; (show _ = _); kernel_rfl
    | 2, hf => cases hf; (show _ = _); kernel_rfl
    | 3, hf => cases hf; (show _ = _); kernel_rfl
    | n + 4, hf => cases hf)⟩
def ti35 : TI := ⟨4, 48, true, none, [0, 1, 2, 3], .agg #[.int .i64 0, .int .i64 0, .slice none 0 0, .bool false], none⟩
theorem ty35 : TyOk Try.prog 35 ti35 := ⟨by kernel_rfl, fun w => by kernel_rfl, fun w => by kernel_rfl, fun w => by kernel_rfl, (fun e he => by cases he), (fun k hk => by cases hk), (fun f o hf w a => by
    match f, hf with
    | 0, hf => cases hf; (show _ = _); kernel_rfl
    | 1, hf => cases hf; (show _ = _); kernel_rfl
    | 2, hf => cases hf; (show _ = _); kernel_rfl
    | 3, hf => cases hf; (show _ = _); kernel_rfl
    | n + 4, hf => cases hf)⟩
def ti36 : TI := ⟨1, 8, false, none, [], .nilFunc, none⟩
theorem ty36 : TyOk Try.prog 36 ti36 := ⟨by kernel_rfl, fun w => by kernel_rfl, fun w => by kernel_rfl, fun w => by kernel_rfl, (fun e he => by cases he), (fun k hk => by cases hk), (fun f o hf => by cases f <;> cases hf)⟩
def ti37 : TI := ⟨1, 8, false, none, [], .int .i64 0, some .i64⟩
theorem ty37 : TyOk Try.prog 37 ti37 := ⟨by kernel_rfl, fun w => by kernel_rfl, fun w => by kernel_rfl, fun w => by kernel_rfl, (fun e he => by cases he), (fun k hk => by cases hk; kernel_rfl), (fun f o hf => by cases f <;> cases hf)⟩
def ti38 : TI := ⟨1, 8, false, none, [], .int .u64 0, some .u64⟩
theorem ty38 : TyOk Try.prog 38 ti38 := ⟨by kernel_rfl, fun w => by kernel_rfl, fun w => by kernel_rfl, fun w => by kernel_rfl, (fun e he => by cases he), (fun k hk => by cases hk; kernel_rfl), (fun f o hf => by cases f <;> cases hf)⟩
def ti39 : TI := ⟨1, 8, false, none, [], .int .i64 0, some .i64⟩
theorem ty39 : TyOk Try.prog 39 ti39 := ⟨by kernel_rfl, fun w => by kernel_rfl, fun w => by kernel_rfl, fun w => by kernel_rfl, (fun e he => by cases he), (fun k hk => by cases hk; kernel_rfl), (fun f o hf => by cases f <;> cases hf)⟩
def ti40 : TI := ⟨3, 24, true, none, [0, 1, 2], .agg #[.int .i64 0, .int .i64 0, .int .i64 0], none⟩
theorem ty40 : TyOk Try.prog 40 ti40 := ⟨by kernel_rfl, fun w => by kernel_rfl, fun w => by kernel_rfl, fun w => by kernel_rfl, (fun e he => by cases he), (fun k hk => by cases hk), (fun f o hf w a => by
    match f, hf with
    | 0, hf => cases hf; (show _ = _); kernel_rfl
    | 1, hf => cases hf; (show _ = _); kernel_rfl
    | 2, hf => cases hf; (show _ = _); kernel_rfl
    | n + 3, hf => cases hf)⟩
def ti41 : TI := ⟨3, 24, true, none, [0, 1, 2], .agg #[.int .i64 0, .int .i64 0, .int .i64 0], none⟩
theorem ty41 : TyOk Try.prog 41 ti41 := ⟨by kernel_rfl, fun w => by kernel_rfl, fun w => by kernel_rfl, fun w => by kernel_rfl, (fun e he => by cases he), (fun k hk => by cases hk), (fun f o hf w a => by
    match f, hf with
    | 0, hf => cases hf; (show _ = _); kernel_rfl
    | 1, hf => cases hf; (show _ = _); kernel_rfl
    | 2, hf => cases hf; (show _ = _); kernel_rfl
    | n + 3, hf => cases hf)⟩
def ti42 : TI := ⟨1, 24, false, some 39, [], .slice none 0 0, none⟩
theorem ty42 : TyOk Try.prog 42 ti42 := ⟨by kernel_rfl, fun w => by kernel_rfl, fun w => by kernel_rfl, fun w => by kernel_rfl, (fun e he => by cases he; kernel_rfl), (fun k hk => by cases hk), (fun f o hf => by cases f <;> cases hf)⟩
def ti43 : TI := ⟨9, 104, true, none, [0, 1, 2, 3, 4, 7, 8], .agg #[.int .i64 0, .int .i64 0, .int .i64 0, .int .u64 0, .int .i64 0, .int .i64 0, .int .i64 0, .slice none 0 0, .slice none 0 0], none⟩
theorem ty43 : TyOk Try.prog 43 ti43 := ⟨by kernel_rfl, fun w => by kernel_rfl, fun w => by kernel_rfl, fun w => by kernel_rfl, (fun e he => by cases he), (fun k hk => by cases hk), (fun f o hf w a => by
    match f, hf with
    | 0, hf => cases hf; (show _ = _); kernel_rfl
    | 1, hf => cases hf; (show _ = _); kernel_rfl
    | 2, hf => cases hf; (show _ = _); kernel_rfl
    | 3, hf => cases hf; (show _ = _); kernel_rfl
    | 4, hf => cases hf; (show _ = _); kernel_rfl
    | 5, hf => cases hf; (show _ = _); kernel_rfl
    | 6, hf => cases hf; (show _ = _); kernel_rfl
    | n + 7, hf => cases hf)⟩
def ti44 : TI := ⟨9, 104, true, none, [0, 1, 2, 3, 4, 7, 8], .agg #[.int .i64 0, .int .i64 0, .int .i64 0, .int .u64 0, .int .i64 0, .int .i64 0, .int .i64 0, .slice none 0 0, .slice none 0 0], none⟩
theorem ty44 : TyOk Try.prog 44 ti44 := ⟨by kernel_rfl, fun w => by kernel_rfl, fun w => by kernel_rfl, fun w => by kernel_rfl, (fun e he => by cases he), (fun k hk => by cases hk), (fun f o hf w a => by
    match f, hf with
    | 0, hf => cases hf; (show _ = _); kernel_rfl
    | 1, hf => cases hf; (show _ = _); kernel_rfl
    | 2, hf => cases hf; (show _ = _); kernel_rfl
    | 3, hf => cases hf; (show _ = _); kernel_rfl
    | 4, hf => cases hf; (show _ = _); kernel_rfl
    | 5, hf => cases hf; (show _ = _); kernel_rfl
    | 6, hf => cases hf; (show _ = _); kernel_rfl
    | n + 7, hf => cases hf)⟩
def ti45 : TI := ⟨1, 8, false, none, [], .nilFunc, none⟩
theorem ty45 : TyOk Try.prog 45 ti45 := ⟨by kernel_rfl, fun w => by kernel_rfl, fun w => by kernel_rfl, fun w => by kernel_rfl, (fun e he => by cases he), (fun k hk => by cases hk), (fun f o hf => by cases f <;> cases hf)⟩
def ti46 : TI := ⟨1, 8, false, none, [], .nilFunc, none⟩
theorem ty46 : TyOk Try.prog 46 ti46 := ⟨by kernel_rfl, fun w => by kernel_rfl, fun w => by kernel_rfl, fun w => by kernel_rfl, (fun e he => by cases he), (fun k hk => by cases hk), (fun f o hf => by cases f <;> cases hf)⟩
def ti47 : TI := ⟨1, 8, false, none, [], .nilFunc, none⟩
theorem ty47 : TyOk Try.prog 47 ti47 := ⟨by kernel_rfl, fun w => by kernel_rfl, fun w => by kernel_rfl, fun w => by kernel_rfl, (fun e he => by cases he), (fun k hk => by cases hk), (fun f o hf => by cases f <;> cases hf)⟩
def ti48 : TI := ⟨1, 8, false, none, [], .nilFunc, none⟩
theorem ty48 : TyOk Try.prog 48 ti48 := ⟨by kernel_rfl, fun w => by kernel_rfl, fun w => by kernel_rfl, fun w => by kernel_rfl, (fun e he => by cases he), (fun k hk => by cases hk), (fun f o hf => by cases f <;> cases hf)⟩
def ti49 : TI := ⟨1, 8, false, none, [], .nilFunc, none⟩
theorem ty49 : TyOk Try.prog 49 ti49 := ⟨by kernel_rfl, fun w => by kernel_rfl, fun w => by kernel_rfl, fun w => by kernel_rfl, (fun e he => by cases he), (fun k hk => by cases hk), (fun f o hf => by cases f <;> cases hf)⟩
def ti50 : TI := ⟨1, 8, false, none, [], .nilFunc, none⟩
theorem ty50 : TyOk Try.prog 50 ti50 := ⟨by kernel_rfl, fun w => by kernel_rfl, fun w => by kernel_rfl, fun w => by kernel_rfl, (fun e he => by cases he), (fun k hk => by cases hk), (fun f o hf => by cases f <;> cases hf)⟩
def ti51 : TI := ⟨1, 24, false, some 33, [], .slice none 0 0, none⟩
theorem ty51 : TyOk Try.prog 51 ti51 := ⟨by kernel_rfl, fun w => by kernel_rfl, fun w => by kernel_rfl, fun w => by kernel_rfl, (fun e he => by cases he; kernel_rfl), (fun k hk => by cases hk), (fun f o hf => by cases f <;> cases hf)⟩
def ti52 : TI := ⟨1, 8, false, none, [], .nilFunc, none⟩
theorem ty52 : TyOk Try.prog 52 ti52 := ⟨by kernel_rfl, fun w => by kernel_rfl, fun w => by kernel_rfl, fun w => by kernel_rfl, (fun e he => by cases he), (fun k hk => by cases hk), (fun f o hf => by cases f <;> cases hf)⟩
def ti53 : TI := ⟨1, 8, false, none, [], .nilFunc, none⟩
theorem ty53 : TyOk Try.prog 53 ti53 := ⟨by kernel_rfl, fun w => by kernel_rfl, fun w => by kernel_rfl, fun w => by kernel_rfl, (fun e he => by cases he), (fun k hk => by cases hk), (fun f o hf => by cases f <;> cases hf)⟩
def ti54 : TI := ⟨1, 8, false, none, [], .nilFunc, none⟩
theorem ty54 : TyOk Try.prog 54 ti54 := ⟨by kernel_rfl, fun w => by kernel_rfl, fun w => by kernel_rfl, fun w => by kernel_rfl, (fun e he => by cases he), (fun k hk => by cases hk), (fun f o hf => by cases f <;> cases hf)⟩
def ti55 : TI := ⟨1, 8, false, none, [], .nilFunc, none⟩
theorem ty55 : TyOk Try.prog 55 ti55 := ⟨by kernel_rfl, fun w => by kernel_rfl, fun w => by kernel_rfl, fun w => by kernel_rfl, (fun e he => by cases he), (fun k hk => by cases hk), (fun f o hf => by cases f <;> cases hf)⟩
def ti56 : TI := ⟨1, 8, false, none, [], .nilFunc, none⟩
theorem ty56 : TyOk Try.prog 56 ti56 := ⟨by kernel_rfl, fun w => by kernel_rfl, fun w => by kernel_rfl, fun w => by kernel_rfl, (fun e he => by cases he), (fun k hk => by cases hk), (fun f o hf => by cases f <;> cases hf)⟩
def ti57 : TI := ⟨4, 48, true, none, [0, 1, 2, 3], .agg #[.int .i64 0, .int .i64 0, .slice none 0 0, .bool false], none⟩
theorem ty57 : TyOk Try.prog 57 ti57 := ⟨by kernel_rfl, fun w => by kernel_rfl, fun w => by kernel_rfl, fun w => by kernel_rfl, (fun e he => by cases he), (fun k hk => by cases hk), (fun f o hf w a => by
    match f, hf with
    | 0, hf => cases hf; (show _ = _); kernel_rfl
    | 1, hf => cases hf; (show _ = _); kernel_rfl
    | 2, hf => cases hf; (show _ = _); kernel_rfl
    | 3, hf => cases hf; (show _ = _); kernel_rfl
    | n + 4, hf => cases hf)⟩
def ti58 : TI := ⟨1, 8, false, none, [], .int .i64 0, some .i64⟩
theorem ty58 : TyOk Try.prog 58 ti58 := ⟨by kernel_rfl, fun w => by kernel_rfl, fun w => by kernel_rfl, fun w => by kernel_rfl, (fun e he => by cases he), (fun k hk => by cases hk; kernel_rfl), (fun f o hf => by cases f <;> cases hf)⟩
def ti60 : TI := ⟨1, 8, false, none, [], .nilFunc, none⟩
theorem ty60 : TyOk Try.prog 60 ti60 := ⟨by kernel_rfl, fun w => by kernel_rfl, fun w => by kernel_rfl, fun w => by kernel_rfl, (fun e he => by cases he), (fun k hk => by cases hk), (fun f o hf => by cases f <;> cases hf)⟩
def ti61 : TI := ⟨1, 8, false, none, [], .nilFunc, none⟩
theorem ty61 : TyOk Try.prog 61 ti61 := ⟨by kernel_rfl, fun w => by kernel_rfl, fun w => by kernel_rfl, fun w => by kernel_rfl, (fun e he => by cases he), (fun k hk => by cases hk), (fun f o hf => by cases f <;> cases hf)⟩
def ti62 : TI := ⟨4, 96, true, none, [0, 1, 2, 3], .agg #[.slice none 0 0, .slice none 0 0, .slice none 0 0, .slice none 0 0], none⟩
theorem ty62 : TyOk Try.prog 62 ti62 := ⟨by kernel_rfl, fun w => by kernel_rfl, fun w => by kernel_rfl, fun w => by kernel_rfl, (fun e he => by cases he), (fun k hk => by cases hk), (fun f o hf w a => by
    match f, hf with
    | 0, hf => cases hf; (show _ = _); kernel_rfl
    | 1, hf => cases hf; (show _ = _); kernel_rfl
    | 2, hf => cases hf; (show _ = _); kernel_rfl
    | 3, hf => cases hf; (show _ = _); kernel_rfl
    | n + 4, hf => cases hf)⟩
def ti63 : TI := ⟨4, 96, true, none, [0, 1, 2, 3], .agg #[.slice none 0 0, .slice none 0 0, .slice none 0 0, .slice none 0 0], none⟩
theorem ty63 : TyOk Try.prog 63 ti63 := ⟨by kernel_rfl, fun w => by kernel_rfl, fun w => by kernel_rfl, fun w => by kernel_rfl, (fun e he => by cases he), (fun k hk => by cases hk), (fun f o hf w a => by
    match f, hf with
    | 0, hf => cases hf; (show _ = _); kernel_rfl
    | 1, hf => cases hf; (show _ = _); kernel_rfl
    | 2, hf => cases hf; (show _ = _); kernel_rfl
    | 3, hf => cases hf; (show _ = _); kernel_rfl
    | n + 4, hf => cases hf)⟩
def ti65 : TI := ⟨1, 8, false, none, [], .nilFunc, none⟩
theorem ty65 : TyOk Try.prog 65 ti65 := ⟨by kernel_rfl, fun w => by kernel_rfl, fun w => by kernel_rfl, fun w => by kernel_rfl, (fun e he => by cases he), (fun k hk => by cases hk), (fun f o hf => by cases f <;> cases hf)⟩
def ti67 : TI := ⟨1, 8, false, none, [], .nilFunc, none⟩
theorem ty67 : TyOk Try.prog 67 ti67 := ⟨by kernel_rfl, fun w => by kernel_rfl, fun w => by kernel_rfl, fun w => by kernel_rfl, (fun e he => by cases he), (fun k hk => by cases hk), (fun f o hf => by cases f <;> cases hf)⟩
def ti68 : TI := ⟨1, 8, false, none, [], .nilFunc, none⟩
theorem ty68 : TyOk Try.prog 68 ti68 := ⟨by kernel_rfl, fun w => by kernel_rfl, fun w => by kernel_rfl, fun w => by kernel_rfl, (fun e he => by cases he), (fun k hk => by cases hk), (fun f o hf => by cases f <;> cases hf)⟩
def ti69 : TI := ⟨1, 8, false, none, [], .nilFunc, none⟩
theorem ty69 : TyOk Try.prog 69 ti69 := ⟨by kernel_rfl, fun w => by kernel_rfl, fun w => by kernel_rfl, fun w => by kernel_rfl, (fun e he => by cases he), (fun k hk => by cases hk), (fun f o hf => by cases f <;> cases hf)⟩
def ti70 : TI := ⟨1, 8, false, none, [], .nilFunc, none⟩
theorem ty70 : TyOk Try.prog 70 ti70 := ⟨by kernel_rfl, fun w => by kernel_rfl, fun w => by kernel_rfl, fun w => by kernel_rfl, (fun e he => by cases he), (fun k hk => by cases hk), (fun f o hf => by cases f <;> cases hf)⟩
def ti71 : TI := ⟨1, 8, false, none, [], .nilFunc, none⟩
theorem ty71 : TyOk Try.prog 71 ti71 := ⟨by kernel_rfl, fun w => by kernel_rfl, fun w => by kernel_rfl, fun w => by kernel_rfl, (fun e he => by cases he), (fun k hk => by cases hk), (fun f o hf => by cases f <;> cases hf)⟩
def ti72 : TI := ⟨1, 24, false, some 4, [], .slice none 0 0, none⟩
theorem ty72 : TyOk Try.prog 72 ti72 := ⟨by kernel_rfl, fun w => by kernel_rfl, fun w => by kernel_rfl, fun w => by kernel_rfl, (fun e he => by cases he; kernel_rfl), (fun k hk => by cases hk), (fun f o hf => by cases f <;> cases hf)⟩
def ti73 : TI := ⟨1, 8, false, none, [], .nilFunc, none⟩
theorem ty73 : TyOk Try.prog 73 ti73 := ⟨by kernel_rfl, fun w => by kernel_rfl, fun w => by kernel_rfl, fun w => by kernel_rfl, (fun e he => by cases he), (fun k hk => by cases hk), (fun f o hf => by cases f <;> cases hf)⟩
def ti74 : TI := ⟨1, 8, false, none, [], .nilFunc, none⟩
theorem ty74 : TyOk Try.prog 74 ti74 := ⟨by kernel_rfl, fun w => by kernel_rfl, fun w => by kernel_rfl, fun w => by kernel_rfl, (fun e he => by cases he), (fun k hk => by cases hk), (fun f o hf => by cases f <;> cases hf)⟩
def ti75 : TI := ⟨1, 8, false, none, [], .nilFunc, none⟩
theorem ty75 : TyOk Try.prog 75 ti75 := ⟨by kernel_rfl, fun w => by kernel_rfl, fun w => by kernel_rfl, fun w => by kernel_rfl, (fun e he => by cases he), (fun k hk => by cases hk), (fun f o hf => by cases f <;> cases hf)⟩
def ti76 : TI := ⟨4, 96, true, none, [0, 1, 2, 3], .agg #[.slice none 0 0, .slice none 0 0, .slice none 0 0, .slice none 0 0], none⟩
theorem ty76 : TyOk Try.prog 76 ti76 := ⟨by kernel_rfl, fun w => by kernel_rfl, fun w => by kernel_rfl, fun w => by kernel_rfl, (fun e he => by cases he), (fun k hk => by cases hk), (fun f o hf w a => by
    match f, hf with
    | 0, hf => cases hf; (show _ = _); kernel_rfl
    | 1, hf => cases hf; (show _ = _); kernel_rfl
    | 2, hf => cases hf; (show _ = _); kernel_rfl
    | 3, hf => cases hf; (show _ = _); kernel_rfl
    | n + 4, hf => cases hf)⟩
def ti77 : TI := ⟨4, 96, true, none, [0, 1, 2, 3], .agg #[.slice none 0 0, .slice none 0 0, .slice none 0 0, .slice none 0 0], none⟩
theorem ty77 : TyOk Try.prog 77 ti77 := ⟨by kernel_rfl, fun w => by kernel_rfl, fun w => by kernel_rfl, fun w => by kernel_rfl, (fun e he => by cases he), (fun k hk => by cases hk), (fun f o hf w a => by
    match f, hf with
    | 0, hf => cases hf; (show _ = _); kernel_rfl
    | 1, hf => cases hf; (show _ = _); kernel_rfl
    | 2, hf => cases hf; (show _ = _); kernel_rfl
    | 3, hf => cases hf; (show _ = _); kernel_rfl
    | n + 4, hf => cases hf)⟩
def ti79 : TI := ⟨1, 8, false, none, [], .nilFunc, none⟩
theorem ty79 : TyOk Try.prog 79 ti79 := ⟨by kernel_rfl, fun w => by kernel_rfl, fun w => by kernel_rfl, fun w => by kernel_rfl, (fun e he => by cases he), (fun k hk => by cases hk), (fun f o hf => by cases f <;> cases hf)⟩
def ti80 : TI := ⟨1, 8, false, none, [], .map none, none⟩
theorem ty80 : TyOk Try.prog 80 ti80 := ⟨by kernel_rfl, fun w => by kernel_rfl, fun w => by kernel_rfl, fun w => by kernel_rfl, (fun e he => by cases he), (fun k hk => by cases hk), (fun f o hf => by cases f <;> cases hf)⟩
def ti81 : TI := ⟨1, 8, false, none, [], .nilFunc, none⟩
theorem ty81 : TyOk Try.prog 81 ti81 := ⟨by kernel_rfl, fun w => by kernel_rfl, fun w => by kernel_rfl, fun w => by kernel_rfl, (fun e he => by cases he), (fun k hk => by cases hk), (fun f o hf => by cases f <;> cases hf)⟩
def ti82 : TI := ⟨1, 8, false, none, [], .nilFunc, none⟩
theorem ty82 : TyOk Try.prog 82 ti82 := ⟨by kernel_rfl, fun w => by kernel_rfl, fun w => by kernel_rfl, fun w => by kernel_rfl, (fun e he => by cases he), (fun k hk => by cases hk), (fun f o hf => by cases f <;> cases hf)⟩
def ti83 : TI := ⟨1, 8, false, none, [], .nilFunc, none⟩
theorem ty83 : TyOk Try.prog 83 ti83 := ⟨by kernel_rfl, fun w => by kernel_rfl, fun w => by kernel_rfl, fun w => by kernel_rfl, (fun e he => by cases he), (fun k hk => by cases hk), (fun f o hf => by cases f <;> cases hf)⟩
def ti84 : TI := ⟨1, 8, false, none, [], .int .u64 0, some .u64⟩
theorem ty84 : TyOk Try.prog 84 ti84 := ⟨by kernel_rfl, fun w => by kernel_rfl, fun w => by kernel_rfl, fun w => by kernel_rfl, (fun e he => by cases he), (fun k hk => by cases hk; kernel_rfl), (fun f o hf => by cases f <;> cases hf)⟩
def ti85 : TI := ⟨1, 8, false, none, [], .nilFunc, none⟩
theorem ty85 : TyOk Try.prog 85 ti85 := ⟨by kernel_rfl, fun w => by kernel_rfl, fun w => by kernel_rfl, fun w => by kernel_rfl, (fun e he => by cases he), (fun k hk => by cases hk), (fun f o hf => by cases f <;> cases hf)⟩
def ti86 : TI := ⟨1, 8, false, none, [], .nilFunc, none⟩
theorem ty86 : TyOk Try.prog 86 ti86 := ⟨by kernel_rfl, fun w => by kernel_rfl, fun w => by kernel_rfl, fun w => by kernel_rfl, (fun e he => by cases he), (fun k hk => by cases hk), (fun f o hf => by cases f <;> cases hf)⟩
def ti87 : TI := ⟨1, 8, false, none, [], .nilFunc, none⟩
theorem ty87 : TyOk Try.prog 87 ti87 := ⟨by kernel_rfl, fun w => by kernel_rfl, fun w => by kernel_rfl, fun w => by kernel_rfl, (fun e he => by cases he), (fun k hk => by cases hk), (fun f o hf => by cases f <;> cases hf)⟩
def ti88 : TI := ⟨1, 8, false, none, [], .nilFunc, none⟩
theorem ty88 : TyOk Try.prog 88 ti88 := ⟨by kernel_rfl, fun w => by kernel_rfl, fun w => by kernel_rfl, fun w => by kernel_rfl, (fun e he => by cases he), (fun k hk => by cases hk), (fun f o hf => by cases f <;> cases hf)⟩
def ti89 : TI := ⟨1, 8, false, none, [], .nilFunc, none⟩
theorem ty89 : TyOk Try.prog 89 ti89 := ⟨by kernel_rfl, fun w => by kernel_rfl, fun w => by kernel_rfl, fun w => by kernel_rfl, (fun e he => by cases he), (fun k hk => by cases hk), (fun f o hf => by cases f <;> cases hf)⟩
def ti90 : TI := ⟨1, 8, false, none, [], .nilFunc, none⟩
theorem ty90 : TyOk Try.prog 90 ti90 := ⟨by kernel_rfl, fun w => by kernel_rfl, fun w => by kernel_rfl, fun w => by kernel_rfl, (fun e he => by cases he), (fun k hk => by cases hk), (fun f o hf => by cases f <;> cases hf)⟩
def ti91 : TI := ⟨1, 8, false, none, [], .nilFunc, none⟩
theorem ty91 : TyOk Try.prog 91 ti91 := ⟨by kernel_rfl, fun w => by kernel_rfl, fun w => by kernel_rfl, fun w => by kernel_rfl, (fun e he => by cases he), (fun k hk => by cases hk), (fun f o hf => by cases f <;> cases hf)⟩
def ti92 : TI := ⟨2, 16, true, none, [0, 1], .agg #[.int .i64 0, .bool false], none⟩
theorem ty92 : TyOk Try.prog 92 ti92 := ⟨by kernel_rfl, fun w => by kernel_rfl, fun w => by kernel_rfl, fun w => by kernel_rfl, (fun e he => by cases he), (fun k hk => by cases hk), (fun f o hf w a => by
    match f, hf with
    | 0, hf => cases hf; (show _ = _); kernel_rfl
    | 1, hf => cases hf; (show _ = _); kernel_rfl
    | n + 2, hf => cases hf)⟩
def ti93 : TI := ⟨2, 16, true, none, [0, 1], .agg #[.int .i64 0, .bool false], none⟩
theorem ty93 : TyOk Try.prog 93 ti93 := ⟨by kernel_rfl, fun w => by kernel_rfl, fun w => by kernel_rfl, fun w => by kernel_rfl, (fun e he => by cases he), (fun k hk => by cases hk), (fun f o hf w a => by
    match f, hf with
    | 0, hf => cases hf; (show _ = _); kernel_rfl
    | 1, hf => cases hf; (show _ = _); kernel_rfl
    | n + 2, hf => cases hf)⟩
def ti94 : TI := ⟨1, 24, false, some 93, [], .slice none 0 0, none⟩
theorem ty94 : TyOk Try.prog 94 ti94 := ⟨by kernel_rfl, fun w => by kernel_rfl, fun w => by kernel_rfl, fun w => by kernel_rfl, (fun e he => by cases he; kernel_rfl), (fun k hk => by cases hk), (fun f o hf => by cases f <;> cases hf)⟩
def ti95 : TI := ⟨1, 8, false, none, [], .pointer none, none⟩
theorem ty95 : TyOk Try.prog 95 ti95 := ⟨by kernel_rfl, fun w => by kernel_rfl, fun w => by kernel_rfl, fun w => by kernel_rfl, (fun e he => by cases he), (fun k hk => by cases hk), (fun f o hf => by cases f <;> cases hf)⟩
def ti96 : TI := ⟨1, 8, false, none, [], .nilFunc, none⟩
theorem ty96 : TyOk Try.prog 96 ti96 := ⟨by kernel_rfl, fun w => by kernel_rfl, fun w => by kernel_rfl, fun w => by kernel_rfl, (fun e he => by cases he), (fun k hk => by cases hk), (fun f o hf => by cases f <;> cases hf)⟩
def ti97 : TI := ⟨1, 8, false, none, [], .nilFunc, none⟩
theorem ty97 : TyOk Try.prog 97 ti97 := ⟨by kernel_rfl, fun w => by kernel_rfl, fun w => by kernel_rfl, fun w => by kernel_rfl, (fun e he => by cases he), (fun k hk => by cases hk), (fun f o hf => by cases f <;> cases hf)⟩
def ti98 : TI := ⟨1, 8, false, none, [], .nilFunc, none⟩
theorem ty98 : TyOk Try.prog 98 ti98 := ⟨by kernel_rfl, fun w => by kernel_rfl, fun w => by kernel_rfl, fun w => by kernel_rfl, (fun e he => by cases he), (fun k hk => by cases hk), (fun f o hf => by cases f <;> cases hf)⟩
def ti99 : TI := ⟨1, 8, false, none, [], .nilFunc, none⟩
theorem ty99 : TyOk Try.prog 99 ti99 := ⟨by kernel_rfl, fun w => by kernel_rfl, fun w => by kernel_rfl, fun w => by kernel_rfl, (fun e he => by cases he), (fun k hk => by cases hk), (fun f o hf => by cases f <;> cases hf)⟩
def ti100 : TI := ⟨1, 8, false, none, [], .int .i64 0, some .i64⟩
theorem ty100 : TyOk Try.prog 100 ti100 := ⟨by kernel_rfl, fun w => by kernel_rfl, fun w => by kernel_rfl, fun w => by kernel_rfl, (fun e he => by cases he), (fun k hk => by cases hk; kernel_rfl), (fun f o hf => by cases f <;> cases hf)⟩
def ti102 : TI := ⟨1, 8, false, none, [], .nilFunc, none⟩
theorem ty102 : TyOk Try.prog 102 ti102 := ⟨by kernel_rfl, fun w => by kernel_rfl, fun w => by kernel_rfl, fun w => by kernel_rfl, (fun e he => by cases he), (fun k hk => by cases hk), (fun f o hf => by cases f <;> cases hf)⟩
def ti103 : TI := ⟨1, 8, false, none, [], .nilFunc, none⟩
theorem ty103 : TyOk Try.prog 103 ti103 := ⟨by kernel_rfl, fun w => by kernel_rfl, fun w => by kernel_rfl, fun w => by kernel_rfl, (fun e he => by cases he), (fun k hk => by cases hk), (fun f o hf => by cases f <;> cases hf)⟩
def ti104 : TI := ⟨1, 8, false, none, [], .nilFunc, none⟩
theorem ty104 : TyOk Try.prog 104 ti104 := ⟨by kernel_rfl, fun w => by kernel_rfl, fun w => by kernel_rfl, fun w => by kernel_rfl, (fun e he => by cases he), (fun k hk => by cases hk), (fun f o hf => by cases f <;> cases hf)⟩
def ti105 : TI := ⟨1, 8, false, none, [], .nilFunc, none⟩
theorem ty105 : TyOk Try.prog 105 ti105 := ⟨by kernel_rfl, fun w => by kernel_rfl, fun w => by kernel_rfl, fun w => by kernel_rfl, (fun e he => by cases he), (fun k hk => by cases hk), (fun f o hf => by cases f <;> cases hf)⟩
def ti106 : TI := ⟨1, 8, false, none, [], .nilFunc, none⟩
theorem ty106 : TyOk Try.prog 106 ti106 := ⟨by kernel_rfl, fun w => by kernel_rfl, fun w => by kernel_rfl, fun w => by kernel_rfl, (fun e he => by cases he), (fun k hk => by cases hk), (fun f o hf => by cases f <;> cases hf)⟩
def ti107 : TI := ⟨1, 4, false, none, [], .int .u32 0, some .u32⟩
theorem ty107 : TyOk Try.prog 107 ti107 := ⟨by kernel_rfl, fun w => by kernel_rfl, fun w => by kernel_rfl, fun w => by kernel_rfl, (fun e he => by cases he), (fun k hk => by cases hk; kernel_rfl), (fun f o hf => by cases f <;> cases hf)⟩
def ti108 : TI := ⟨1, 8, false, none, [], .nilFunc, none⟩
theorem ty108 : TyOk Try.prog 108 ti108 := ⟨by kernel_rfl, fun w => by kernel_rfl, fun w => by kernel_rfl, fun w => by kernel_rfl, (fun e he => by cases he), (fun k hk => by cases hk), (fun f o hf => by cases f <;> cases hf)⟩
def ti109 : TI := ⟨1, 8, false, none, [], .int .u64 0, some .u64⟩
theorem ty109 : TyOk Try.prog 109 ti109 := ⟨by kernel_rfl, fun w => by kernel_rfl, fun w => by kernel_rfl, fun w => by kernel_rfl, (fun e he => by cases he), (fun k hk => by cases hk; kernel_rfl), (fun f o hf => by cases f <;> cases hf)⟩
def ti110 : TI := ⟨1, 8, false, none, [], .nilFunc, none⟩
theorem ty110 : TyOk Try.prog 110 ti110 := ⟨by kernel_rfl, fun w => by kernel_rfl, fun w => by kernel_rfl, fun w => by kernel_rfl, (fun e he => by cases he), (fun k hk => by cases hk), (fun f o hf => by cases f <;> cases hf)⟩
def ti111 : TI := ⟨1, 8, false, none, [], .nilFunc, none⟩
theorem ty111 : TyOk Try.prog 111 ti111 := ⟨by kernel_rfl, fun w => by kernel_rfl, fun w => by kernel_rfl, fun w => by kernel_rfl, (fun e he => by cases he), (fun k hk => by cases hk), (fun f o hf => by cases f <;> cases hf)⟩
def ti112 : TI := ⟨1, 8, false, none, [], .nilFunc, none⟩
theorem ty112 : TyOk Try.prog 112 ti112 := ⟨by kernel_rfl, fun w => by kernel_rfl, fun w => by kernel_rfl, fun w => by kernel_rfl, (fun e he => by cases he), (fun k hk => by cases hk), (fun f o hf => by cases f <;> cases hf)⟩
def ti113 : TI := ⟨1, 8, false, none, [], .pointer none, none⟩
theorem ty113 : TyOk Try.prog 113 ti113 := ⟨by kernel_rfl, fun w => by kernel_rfl, fun w => by kernel_rfl, fun w => by kernel_rfl, (fun e he => by cases he), (fun k hk => by cases hk), (fun f o hf => by cases f <;> cases hf)⟩
def ti114 : TI := ⟨1, 8, false, none, [], .nilFunc, none⟩
theorem ty114 : TyOk Try.prog 114 ti114 := ⟨by kernel_rfl, fun w => by kernel_rfl, fun w => by kernel_rfl, fun w => by kernel_rfl, (fun e he => by cases he), (fun k hk => by cases hk), (fun f o hf => by cases f <;> cases hf)⟩
def ti115 : TI := ⟨1, 8, false, none, [], .pointer none, none⟩
theorem ty115 : TyOk Try.prog 115 ti115 := ⟨by kernel_rfl, fun w => by kernel_rfl, fun w => by kernel_rfl, fun w => by kernel_rfl, (fun e he => by cases he), (fun k hk => by cases hk), (fun f o hf => by cases f <;> cases hf)⟩
def ti117 : TI := ⟨1, 8, false, none, [], .nilFunc, none⟩
theorem ty117 : TyOk Try.prog 117 ti117 := ⟨by kernel_rfl, fun w => by kernel_rfl, fun w => by kernel_rfl, fun w => by kernel_rfl, (fun e he => by cases he), (fun k hk => by cases hk), (fun f o hf => by cases f <;> cases hf)⟩
def ti118 : TI := ⟨1, 8, false, none, [], .nilFunc, none⟩
theorem ty118 : TyOk Try.prog 118 ti118 := ⟨by kernel_rfl, fun w => by kernel_rfl, fun w => by kernel_rfl, fun w => by kernel_rfl, (fun e he => by cases he), (fun k hk => by cases hk), (fun f o hf => by cases f <;> cases hf)⟩
def ti119 : TI := ⟨4, 40, true, none, [0, 1, 2, 3], .agg #[.pointer none, .pointer none, .pointer none, .string ByteArray.empty], none⟩
theorem ty119 : TyOk Try.prog 119 ti119 := ⟨by kernel_rfl, fun w => by kernel_rfl, fun w => by kernel_rfl, fun w => by kernel_rfl, (fun e he => by cases he), (fun k hk => by cases hk), (fun f o hf w a => by
    match f, hf with
    | 0, hf => cases hf; (show _ = _); kernel_rfl
    | 1, hf => cases hf; (show _ = _); kernel_rfl
    | 2, hf => cases hf; (show _ = _); kernel_rfl
    | 3, hf => cases hf; (show _ = _); kernel_rfl
    | n + 4, hf => cases hf)⟩
def ti120 : TI := ⟨4, 40, true, none, [0, 1, 2, 3], .agg #[.pointer none, .pointer none, .pointer none, .string ByteArray.empty], none⟩
theorem ty120 : TyOk Try.prog 120 ti120 := ⟨by kernel_rfl, fun w => by kernel_rfl, fun w => by kernel_rfl, fun w => by kernel_rfl, (fun e he => by cases he), (fun k hk => by cases hk), (fun f o hf w a => by
    match f, hf with
    | 0, hf => cases hf; (show _ = _); kernel_rfl
    | 1, hf => cases hf; (show _ = _); kernel_rfl
    | 2, hf => cases hf; (show _ = _); kernel_rfl
    | 3, hf => cases hf; (show _ = _); kernel_rfl
    | n + 4, hf => cases hf)⟩
def ti121 : TI := ⟨0, 0, true, none, [], .agg #[], none⟩
theorem ty121 : TyOk Try.prog 121 ti121 := ⟨by kernel_rfl, fun w => by kernel_rfl, fun w => by kernel_rfl, fun w => by kernel_rfl, (fun e he => by cases he), (fun k hk => by cases hk), (fun f o hf => by cases f <;> cases hf)⟩
def ti124 : TI := ⟨1, 8, false, none, [], .nilFunc, none⟩
theorem ty124 : TyOk Try.prog 124 ti124 := ⟨by kernel_rfl, fun w => by kernel_rfl, fun w => by kernel_rfl, fun w => by kernel_rfl, (fun e he => by cases he), (fun k hk => by cases hk), (fun f o hf => by cases f <;> cases hf)⟩
def ti125 : TI := ⟨1, 1, false, none, [], .int .u8 0, some .u8⟩
theorem ty125 : TyOk Try.prog 125 ti125 := ⟨by kernel_rfl, fun w => by kernel_rfl, fun w => by kernel_rfl, fun w => by kernel_rfl, (fun e he => by cases he), (fun k hk => by cases hk; kernel_rfl), (fun f o hf => by cases f <;> cases hf)⟩
def ti126 : TI := ⟨1, 1, false, none, [], .int .u8 0, some .u8⟩
theorem ty126 : TyOk Try.prog 126 ti126 := ⟨by kernel_rfl, fun w => by kernel_rfl, fun w => by kernel_rfl, fun w => by kernel_rfl, (fun e he => by cases he), (fun k hk => by cases hk; kernel_rfl), (fun f o hf => by cases f <;> cases hf)⟩
def ti127 : TI := ⟨1, 8, false, none, [], .nilFunc, none⟩
theorem ty127 : TyOk Try.prog 127 ti127 := ⟨by kernel_rfl, fun w => by kernel_rfl, fun w => by kernel_rfl, fun w => by kernel_rfl, (fun e he => by cases he), (fun k hk => by cases hk), (fun f o hf => by cases f <;> cases hf)⟩
def ti128 : TI := ⟨1, 8, false, none, [], .pointer none, none⟩
theorem ty128 : TyOk Try.prog 128 ti128 := ⟨by kernel_rfl, fun w => by kernel_rfl, fun w => by kernel_rfl, fun w => by kernel_rfl, (fun e he => by cases he), (fun k hk => by cases hk), (fun f o hf => by cases f <;> cases hf)⟩
def ti129 : TI := ⟨1, 4, false, none, [], .int .i32 0, some .i32⟩
theorem ty129 : TyOk Try.prog 129 ti129 := ⟨by kernel_rfl, fun w => by kernel_rfl, fun w => by kernel_rfl, fun w => by kernel_rfl, (fun e he => by cases he), (fun k hk => by cases hk; kernel_rfl), (fun f o hf => by cases f <;> cases hf)⟩
def ti130 : TI := ⟨1, 4, false, none, [], .int .i32 0, some .i32⟩
theorem ty130 : TyOk Try.prog 130 ti130 := ⟨by kernel_rfl, fun w => by kernel_rfl, fun w => by kernel_rfl, fun w => by kernel_rfl, (fun e he => by cases he), (fun k hk => by cases hk; kernel_rfl), (fun f o hf => by cases f <;> cases hf)⟩
def ti131 : TI := ⟨11, 48, true, none, [0, 1, 2, 3, 4, 5, 6, 7, 8, 9, 10], .agg #[.int .u64 0, .int .u64 0, .int .u32 0, .int .u8 0, .int .u8 0, .int .u8 0, .int .u8 0, .nilFunc, .pointer none, .int .i32 0, .int .i32 0], none⟩
theorem ty131 : TyOk Try.prog 131 ti131 := ⟨by kernel_rfl, fun w => by kernel_rfl, fun w => by kernel_rfl, fun w => by kernel_rfl, (fun e he => by cases he), (fun k hk => by cases hk), (fun f o hf w a => by
    match f, hf with
    | 0, hf => cases hf; (show _ = _); kernel_rfl
    | 1, hf => cases hf; (show _ = _); kernel_rfl
    | 2, hf => cases hf; (show _ = _); kernel_rfl
    | 3, hf => cases hf; (show _ = _); kernel_rfl
    | 4, hf => cases hf; (show _ = _); kernel_rfl
    | 5, hf => cases hf; (show _ = _); kernel_rfl
    | 6, hf => cases hf; (show _ = _); kernel_rfl
    | 7, hf => cases hf; (show _ = _); kernel_rfl
    | 8, hf => cases hf; (show _ = _); kernel_rfl
    | 9, hf => cases hf; (show _ = _); kernel_rfl
    | 10, hf => cases hf; (show _ = _); kernel_rfl
    | n + 11, hf => cases hf)⟩
def ti132 : TI := ⟨11, 48, true, none, [0, 1, 2, 3, 4, 5, 6, 7, 8, 9, 10], .agg #[.int .u64 0, .int .u64 0, .int .u32 0, .int .u8 0, .int .u8 0, .int .u8 0, .int .u8 0, .nilFunc, .pointer none, .int .i32 0, .int .i32 0], none⟩
theorem ty132 : TyOk Try.prog 132 ti132 := ⟨by kernel_rfl, fun w => by kernel_rfl, fun w => by kernel_rfl, fun w => by kernel_rfl, (fun e he => by cases he), (fun k hk => by cases hk), (fun f o hf w a => by
    match f, hf with
    | 0, hf => cases hf; (show _ = _); kernel_rfl
    | 1, hf => cases hf; (show _ = _); kernel_rfl
    | 2, hf => cases hf; (show _ = _); kernel_rfl
    | 3, hf => cases hf; (show _ = _); kernel_rfl
    | 4, hf => cases hf; (show _ = _); kernel_rfl
    | 5, hf => cases hf; (show _ = _); kernel_rfl
    | 6, hf => cases hf; (show _ = _); kernel_rfl
    | 7, hf => cases hf; (show _ = _); kernel_rfl
    | 8, hf => cases hf; (show _ = _); kernel_rfl
    | 9, hf => cases hf; (show _ = _); kernel_rfl
    | 10, hf => cases hf; (show _ = _); kernel_rfl
    | n + 11, hf => cases hf)⟩
def ti133 : TI := ⟨1, 8, false, none, [], .pointer none, none⟩
theorem ty133 : TyOk Try.prog 133 ti133 := ⟨by kernel_rfl, fun w => by kernel_rfl, fun w => by kernel_rfl, fun w => by kernel_rfl, (fun e he => by cases he), (fun k hk => by cases hk), (fun f o hf => by cases f <;> cases hf)⟩
def tbl : List (Option TI) := [none, some ti1, some ti2, some ti3, some ti4, some ti5, some ti6, some ti7, some ti8, some ti9, some ti10, some ti11, some ti12, some ti13, some ti14, some ti15, some ti16, some ti17, some ti18, some ti19, some ti20, some ti21, some ti22, some ti23, some ti24, some ti25, none, some ti27, some ti28, none, some ti30, some ti31, some ti32, some ti33, some ti34, some ti35, some ti36, some ti37, some ti38, some ti39, some ti40, some ti41, some ti42, some ti43, some ti44, some ti45, some ti46, some ti47, some ti48, some ti49, some ti50, some ti51, some ti52, some ti53, some ti54, some ti55, some ti56, some ti57, some ti58, none, some ti60, some ti61, some ti62, some ti63, none, some ti65, none, some ti67, some ti68, some ti69, some ti70, some ti71, some ti72, some ti73, some ti74, some ti75, some ti76, some ti77, none, some ti79, some ti80, some ti81, some ti82, some ti83, some ti84, some ti85, some ti86, some ti87, some ti88, some ti89, some ti90, some ti91, some ti92, some ti93, some ti94, some ti95, some ti96, some ti97, some ti98, some ti99, some ti100, none, some ti102, some ti103, some ti104, some ti105, some ti106, some ti107, some ti108, some ti109, some ti110, some ti111, some ti112, some ti113, some ti114, some ti115, none, some ti117, some ti118, some ti119, some ti120, some ti121, none, none, some ti124, some ti125, some ti126, some ti127, some ti128, some ti129, some ti130, some ti131, some ti132, some ti133]
theorem tbl_ok : AllTy Try.prog tbl 0 := ⟨ty1, ty2, ty3, ty4, ty5, ty6, ty7, ty8, ty9, ty10, ty11, ty12, ty13, ty14, ty15, ty16, ty17, ty18, ty19, ty20, ty21, ty22, ty23, ty24, ty25, ty27, ty28, ty30, ty31, ty32, ty33, ty34, ty35, ty36, ty37, ty38, ty39, ty40, ty41, ty42, ty43, ty44, ty45, ty46, ty47, ty48, ty49, ty50, ty51, ty52, ty53, ty54, ty55, ty56, ty57, ty58, ty60, ty61, ty62, ty63, ty65, ty67, ty68, ty69, ty70, ty71, ty72, ty73, ty74, ty75, ty76, ty77, ty79, ty80, ty81, ty82, ty83, ty84, ty85, ty86, ty87, ty88, ty89, ty90, ty91, ty92, ty93, ty94, ty95, ty96, ty97, ty98, ty99, ty100, ty102, ty103, ty104, ty105, ty106, ty107, ty108, ty109, ty110, ty111, ty112, ty113, ty114, ty115, ty117, ty118, ty119, ty120, ty121, ty124, ty125, ty126, ty127, ty128, ty129, ty130, ty131, ty132, ty133, trivial⟩
def ftb : List Bool := [false, false, true, true, true, true, true, true, true, true, true, true, true, true, true, true, true, true, true, true, true, true, true, true, true, true, true, true, true, true, true, true, true, true, true, true, true, true, true, true, true, true, true, true, true, true, true, true, true, true, true, true, true, true, true, true, true, true, true, true, true, true, true, true, true, true, true, true, true, true, true, true, true, true, true, true, true, true, true, true, false, false, false, false, false, false, false, false, false, false, false, false, false, false, false, false]
theorem ftb_ok : fbs Try.prog ftb 0 = true := by kernel_rfl
/-- the program of this seat -/
noncomputable def G : Prg := ⟨Try.prog, tbl, ftb, fun t i h => by simpa using AllTy.get tbl 0 tbl_ok t i h, fun f h vs w => fchk_ok (by simpa using fbs_ok ftb 0 ftb_ok f h) vs w, by kernel_rfl⟩
end Go.Proofs.Ytfeakkicihlplaa
