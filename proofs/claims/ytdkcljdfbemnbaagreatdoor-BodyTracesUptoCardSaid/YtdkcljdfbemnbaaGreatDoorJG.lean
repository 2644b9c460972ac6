import Derived.Test.YtdkcljdfbemnbaaGreatDoorJM2
namespace Go.Proofs.YtdkcljdfbemnbaaGreatDoor
set_option maxRecDepth 100000
def zl (P:Program) (t:Nat):List Nat→Nat→Prop
 |[],_=>True
 |o::r,k=>(∀w a,(Instr.fieldAt t (.pointer (some a)) k).run P w=.ok (.pointer (some (a.add o))) w)∧zl P t r (k+1)
theorem zl.get {P:Program} {t:Nat}:∀{l:List Nat} {k:Nat},zl P t l k→∀f o,l[f]?=some o→∀w a,(Instr.fieldAt t (.pointer (some a)) (k+f)).run P w=.ok (.pointer (some (a.add o))) w
 |[],_,_,f,o,hf=>by simp at hf
 |x::r,k,h,0,o,hf=>by
  have e:x=o:=by simpa using hf
  subst e
  exact h.1
 |x::r,k,h,f+1,o,hf=>by have:=zl.get h.2 f o (by simpa using hf);rwa[show k+1+f=k+(f+1)by omega]at this
theorem C9.Li {P:Program} {t:Nat} {i:TI} (a:(P.info? t).map (fun j=>(j.zero,j.size,j.bytes))=some (some i.zero,i.size,i.bytes):=by kernel_rfl) (b:∀w,(sizeOf t).run P w=.ok i.size w:=by(intro w;kernel_rfl)) (c:∀w,(zeroValue t).run P w=.ok i.zero w:=by(intro w;kernel_rfl)) (d:∀w,(isAgg t).run P w=.ok i.agg w:=by(intro w;kernel_rfl)) (e:∀e,i.elem=some e→P.underlying t=some (.slice e):=by(intro e he;cases he<;>kernel_rfl)) (k:∀k,i.ik=some k→P.underlying t=some (.int k):=by(intro k hk;cases hk<;>kernel_rfl)) (f:zl P t i.pg 0:=by(repeat(first|exact trivial|refine⟨fun w a=>by kernel_rfl,?_⟩))):C9 P t i:=⟨a,b,c,d,e,k,fun f' o hf w a=>by have:=f.get f' o hf w a;rwa[Nat.zero_add]at this⟩
theorem nJ.skip {P:Program} {r:List (Option TI)} {k:Nat} (h:nJ P r (k+1)):nJ P (none::r) k:=h
def u0:TI:=⟨1,8,false,none,[],.nilFunc,none⟩
def u1:TI:=⟨1,8,false,none,[],.int .i64 0,some .i64⟩
def u2:TI:=⟨1,1,false,none,[],.bool false,none⟩
def u3:TI:=⟨1,1,false,none,[],.int .u8 0,some .u8⟩
def u4:TI:=⟨4,24,true,none,[0,1,2,3],.agg #[.int .i64 0,.int .i64 0,.bool false,.int .u8 0],none⟩
def u5:TI:=⟨1,16,false,none,[],.string ByteArray.empty,none⟩
def u6:TI:=⟨1,8,false,none,[],.int .u64 0,some .u64⟩
def u7:TI:=⟨2,24,true,none,[0,1],.agg #[.string ByteArray.empty,.int .u64 0],none⟩
def u8:TI:=⟨1,8,false,none,[],.pointer none,none⟩
def u9:TI:=⟨1,8,true,none,[0],.agg #[.pointer none],none⟩
def KI:TI:=⟨1,16,false,none,[],.nilIface,none⟩
def JK:TI:=⟨1,4,false,none,[],.int .i32 0,some .i32⟩
def Lr:TI:=⟨1,24,false,some 61,[],.slice none 0 0,none⟩
def Ls:TI:=⟨1,24,false,some 91,[],.slice none 0 0,none⟩
def Lt:TI:=⟨1,24,false,some 58,[],.slice none 0 0,none⟩
def Lu:TI:=⟨1,24,false,some 87,[],.slice none 0 0,none⟩
def u16:TI:=⟨1,24,false,some 85,[],.slice none 0 0,none⟩
def Lv:TI:=⟨1,24,false,some 95,[],.slice none 0 0,none⟩
def Lw:TI:=⟨1,24,false,some 100,[],.slice none 0 0,none⟩
def Lx:TI:=⟨1,24,false,some 98,[],.slice none 0 0,none⟩
def Ly:TI:=⟨1,24,false,some 321,[],.slice none 0 0,none⟩
def Lz:TI:=⟨1,24,false,some 323,[],.slice none 0 0,none⟩
def KJ:TI:=⟨12,256,true,none,[0,1,2,3,4,5,6,7,8,9,10,11],.agg #[.slice none 0 0,.slice none 0 0,.slice none 0 0,.slice none 0 0,.slice none 0 0,.slice none 0 0,.slice none 0 0,.bool false,.int .i64 0,.slice none 0 0,.slice none 0 0,.slice none 0 0],none⟩
def LA:TI:=⟨1,24,false,some 72,[],.slice none 0 0,none⟩
def LB:TI:=⟨1,24,false,some 71,[],.slice none 0 0,none⟩
def LD:TI:=⟨1,24,false,some 59,[],.slice none 0 0,none⟩
def LF:TI:=⟨1,24,false,some 69,[],.slice none 0 0,none⟩
def KK:TI:=⟨3,56,true,none,[0,1,2],.agg #[.int .i64 0,.slice none 0 0,.slice none 0 0],none⟩
def Km:TI:=⟨2,48,true,none,[0,1],.agg #[.slice none 0 0,.slice none 0 0],none⟩
def KL:TI:=⟨3,24,true,none,[0,1,2],.agg #[.int .i64 0,.int .i64 0,.int .i64 0],none⟩
def KM:TI:=⟨1,24,false,some 3,[],.slice none 0 0,none⟩
def KN:TI:=⟨9,104,true,none,[0,1,2,3,4,7,8],.agg #[.int .i64 0,.int .i64 0,.int .i64 0,.int .u64 0,.int .i64 0,.int .i64 0,.int .i64 0,.slice none 0 0,.slice none 0 0],none⟩
def u32:TI:=⟨2,32,true,none,[0,1],.agg #[.bool false,.slice none 0 0],none⟩
def KO:TI:=⟨1,8,false,none,[],.map none,none⟩
def LG:TI:=⟨1,24,false,some 89,[],.slice none 0 0,none⟩
def KP:TI:=⟨9,168,true,none,[0,1,2,3,4,5,6,7,8],.agg #[.slice none 0 0,.slice none 0 0,.slice none 0 0,.slice none 0 0,.slice none 0 0,.slice none 0 0,.int .i64 0,.map none,.map none],none⟩
def KQ:TI:=⟨3,24,true,none,[0,1,2],.agg #[.int .i64 0,.int .i64 0,.bool false],none⟩
def KR:TI:=⟨4,32,true,none,[0,1],.agg #[.int .i64 0,.int .i64 0,.int .i64 0,.bool false],none⟩
def II:TI:=⟨2,16,true,none,[0,1],.agg #[.int .i64 0,.bool false],none⟩
def KS:TI:=⟨13,120,true,none,[0,1,2,3,4,8,11],.agg #[.string ByteArray.empty,.string ByteArray.empty,.int .i64 0,.int .i64 0,.int .i64 0,.int .i64 0,.int .i64 0,.bool false,.int .i64 0,.int .i64 0,.bool false,.int .i64 0,.bool false],none⟩
def KT:TI:=⟨3,40,true,none,[0,2],.agg #[.int .i64 0,.bool false,.slice none 0 0],none⟩
def LH:TI:=⟨1,24,false,some 56,[],.slice none 0 0,none⟩
def KU:TI:=⟨5,72,true,none,[0,1,2,3,4],.agg #[.int .i64 0,.int .i64 0,.slice none 0 0,.int .i64 0,.slice none 0 0],none⟩
def KV:TI:=⟨3,32,true,none,[0,1,2],.agg #[.string ByteArray.empty,.int .i64 0,.int .i64 0],none⟩
def LI:TI:=⟨1,24,false,some 4,[],.slice none 0 0,none⟩
def KW:TI:=⟨4,80,true,none,[0,1,2,3],.agg #[.slice none 0 0,.slice none 0 0,.slice none 0 0,.int .i64 0],none⟩
def LJ:TI:=⟨1,24,false,some 152,[],.slice none 0 0,none⟩
def KX:TI:=⟨7,136,true,none,[0,4,5,6],.agg #[.slice none 0 0,.slice none 0 0,.slice none 0 0,.int .i64 0,.slice none 0 0,.slice none 0 0,.int .i64 0],none⟩
def LK:TI:=⟨1,24,false,some 139,[],.slice none 0 0,none⟩
def KY:TI:=⟨5,72,true,none,[0,1,2,3,4],.agg #[.pointer none,.slice none 0 0,.slice none 0 0,.bool false,.int .i64 0],none⟩
def LL:TI:=⟨1,24,false,some 177,[],.slice none 0 0,none⟩
def KZ:TI:=⟨3,56,true,none,[0,1,2],.agg #[.slice none 0 0,.slice none 0 0,.bool false],none⟩
def K0:TI:=⟨4,96,true,none,[0,1,2,3],.agg #[.slice none 0 0,.slice none 0 0,.slice none 0 0,.slice none 0 0],none⟩
def JL:TI:=⟨5,64,true,none,[0,1,3,4],.agg #[.int .i64 0,.slice none 0 0,.slice none 0 0,.bool false,.bool false],none⟩
def LM:TI:=⟨1,24,false,some 173,[],.slice none 0 0,none⟩
def LN:TI:=⟨1,24,false,some 49,[],.slice none 0 0,none⟩
def K1:TI:=⟨3,56,true,none,[0,2],.agg #[.slice none 0 0,.slice none 0 0,.int .i64 0],none⟩
def K2:TI:=⟨3,32,true,none,[0,1,2],.agg #[.int .i64 0,.string ByteArray.empty,.int .i64 0],none⟩
def LO:TI:=⟨1,24,false,some 9,[],.slice none 0 0,none⟩
def LP:TI:=⟨1,24,false,some 234,[],.slice none 0 0,none⟩
def LQ:TI:=⟨1,24,false,some 268,[],.slice none 0 0,none⟩
def Kn:TI:=⟨3,40,true,none,[0,1,2],.agg #[.int .i64 0,.string ByteArray.empty,.string ByteArray.empty],none⟩
def LR:TI:=⟨256,256,true,none,[],.agg (Array.replicate 256 (.int .u8 0)),none⟩
def LU:TI:=⟨1,24,false,some 286,[],.slice none 0 0,none⟩
def u64:TI:=⟨2,16,true,none,[0,1],.agg #[.int .i64 0,.int .i64 0],none⟩
def LV:TI:=⟨1,4,false,none,[],.int .u32 0,some .u32⟩
def LW:TI:=⟨1,24,false,some 298,[],.slice none 0 0,none⟩
def LX:TI:=⟨1,24,false,some 301,[],.slice none 0 0,none⟩
def K3:TI:=⟨3,56,true,none,[0,1,2],.agg #[.slice none 0 0,.slice none 0 0,.int .i64 0],none⟩
def LY:TI:=⟨1,2,false,none,[],.int .u16 0,some .u16⟩
def K4:TI:=⟨3,6,true,none,[0,1,2],.agg #[.int .u16 0,.int .u16 0,.int .u16 0],none⟩
def K5:TI:=⟨3,12,true,none,[0,1,2],.agg #[.int .u32 0,.int .u32 0,.int .u32 0],none⟩
def K6:TI:=⟨4,40,true,none,[0,1,2,3],.agg #[.pointer none,.pointer none,.pointer none,.string ByteArray.empty],none⟩
def LZ:TI:=⟨0,0,true,none,[],.agg #[],none⟩
def K7:TI:=⟨11,48,true,none,[0,1,2,3,4,5,6,7,8,9,10],.agg #[.int .u64 0,.int .u64 0,.int .u32 0,.int .u8 0,.int .u8 0,.int .u8 0,.int .u8 0,.nilFunc,.pointer none,.int .i32 0,.int .i32 0],none⟩
def L9:TI:=⟨1,24,false,some 5,[],.slice none 0 0,none⟩
def K8:TI:=⟨4,64,true,none,[0,1,2,3],.agg #[.int .i64 0,.int .i64 0,.slice none 0 0,.slice none 0 0],none⟩
def K9:TI:=⟨3,48,true,none,[0,1,2],.agg #[.int .i64 0,.string ByteArray.empty,.slice none 0 0],none⟩
abbrev Ju:TI:=Kn
abbrev Lp:TI:=u1
abbrev iK:TI:=Km
abbrev Kl:TI:=KM
abbrev KG:TI:=u5
def Js:List (Option TI):=[none,some u0,some u1,some u1,some u2,some u3,some u3,some u4,some u4,some u5,some u5,some u5,some u6,some u7,some u7,some u8,some u8,some u8,some u9,some u9,some KI,some JK,some Lr,some Ls,some Lt,some Lu,some u16,some Lv,some Lw,some Lx,some Ly,some Lz,some KJ,some KJ,some u0,some u0,some u1,none,some u0,some u8,some u0,some u0,some u0,some LA,none,some u0,some LB,none,some u0,some LD,none,some u0,some u0,some u0,some u0,some u0,some LF,some KK,some KK,some u1,some Km,some Km,some u0,some u1,some u6,some KL,some KL,some KM,some KN,some KN,some u32,some u32,some u32,some u0,some u8,some u0,some u8,some KO,some KO,some LG,some KP,some KP,some u0,some u1,some KQ,some KQ,some KR,some KR,some II,some II,some KS,some KS,some u0,some u0,some KT,some KT,some LH,some KU,some KU,some KV,some KV,some u9,some u9,none,some u0,some u8,some u0,some u0,none,some u0,some u0,some u0,some u0,some u0,some LI,some KW,some KW,some LJ,some KX,some KX,some u0,some u0,none,some u0,some u0,some u0,some LK,some KY,some KY,some u0,some LL,some KZ,some KZ,some u0,some K0,some K0,none,some u0,some JL,some JL,some u0,some u0,some u0,some u0,some u0,none,some u0,some u0,some u0,some u0,some u0,some JL,some JL,some u0,some u0,some u0,some u0,some u0,some u0,some u0,some u0,some u0,some u0,none,some u0,some u0,some u0,some u0,some u0,some u0,some u0,some u0,some II,some II,some LM,some u8,some II,some II,some u0,some u0,some u0,some u0,some u0,some u0,some u0,some u0,none,some u0,some u1,some u0,some u0,some u0,some u0,some u0,some u0,some u0,some u0,some u0,some u0,none,some u0,some u0,some u0,some u0,some LN,some u0,none,some u0,none,some u0,some K1,some K1,some u0,none,some u0,some u0,some u8,some u0,none,some u0,none,some u0,some u0,none,some u0,some u0,none,some u0,some u0,some u0,some u0,some u0,some u0,some K2,some K2,none,some u0,some u0,some u0,some u0,some u0,some u0,some u0,some u0,some u0,some u0,some u0,some u0,some LO,none,some u0,some u0,some u0,some u0,some u0,some u0,some u0,some u0,some LP,some u0,some u0,some u0,some u0,some u0,some u0,some LQ,some u0,some Kn,some Kn,some u0,some u0,some u0,none,some u0,some u0,some u0,some u0,some LR,some u0,some u0,some u0,some u0,some u0,some u6,some LU,some u64,some u64,some LV,some u0,some u8,none,some u0,some LW,some LX,some K3,some K3,some LY,some K4,some K4,some u0,some K5,some K5,some u0,some u8,some u8,some u0,some K6,some K6,some LZ,none,none,some u3,some u3,some u0,some u8,some JK,some JK,some K7,some K7,some L9,some K8,some K8,some K9,some K9,some u8]
theorem Iz:nJ Tryz.prog Js 0:=by
 repeat(first|exact trivial|refine⟨C9.Li,?_⟩|refine nJ.skip ?_)
def JZ:List Bool:=[false,false,true,true,true,true,true,true,true,true,true,true,true,true,true,true,true,true,true,true,true,true,true,true,true,true,true,true,true,true,true,true,true,true,true,true,true,true,true,true,true,true,true,true,true,true,true,true,true,true,true,true,true,true,true,true,true,true,true,true,true,true,true,true,true,true,true,true,true,true,true,true,true,true,true,true,true,true,true,true,true,true,true,true,true,true,true,true,true,true,true,true,true,true,true,true,true,true,true,true,true,true,true,true,true,true,true,true,true,true,true,true,true,true,true,true,true,true,true,true,true,true,true,true,true,true,true,true,true,true,true,true,true,true,true,true,true,true,true,true,true,true,true,true,true,true,true,true,true,true,true,true,true,true,true,true,true,true,true,true,true,true,true,true,true,true,true,true,true,true,true,true,true,true,true,true,true,true,true,true,true,true,true,true,true,true,true,true,true,true,true,true,true,true,true,true,true,true,true,true,true,true,true,true,true,true,true,true,true,true,false,true,true,true,false,true,true,true,false,false,false,false,false,false,false,false,false,false,false,false,false,false,false,false,false,false,false,false,false,false,false,true]
theorem Ic:JE Tryz.prog JZ 0=true:=by kernel_rfl
noncomputable def G:zc:=⟨Tryz.prog,Js,JZ,fun t i h=>by simpa using nJ.get Js 0 Iz t i h,fun f h vs w=>GM (by simpa using Fg JZ 0 Ic f h) vs w,by kernel_rfl⟩
end Go.Proofs.YtdkcljdfbemnbaaGreatDoor
