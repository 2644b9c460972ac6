/- The rows of the types and functions that the walk's own rules look up; printed by gen_g2.py off the seat's translation. -/
import Derived.Test.YtdkcljdfbemnbaaGreatDoorJA
namespace Go.Proofs.YtdkcljdfbemnbaaGreatDoor
set_option maxRecDepth 100000
def zg (P:Program) (t:Nat):List Nat→Nat→Prop
 |[],_=>True
 |o::r,k=>(∀w a,(Instr.fieldAt t (.pointer (some a)) k).run P w=.ok (.pointer (some (a.add o))) w)∧zg P t r (k+1)
theorem zg.get {P:Program} {t:Nat}:∀{l:List Nat} {k:Nat},zg P t l k→∀f o,l[f]?=some o→∀w a,(Instr.fieldAt t (.pointer (some a)) (k+f)).run P w=.ok (.pointer (some (a.add o))) w
 |[],_,_,f,o,hf=>by simp at hf
 |x::r,k,h,0,o,hf=>by
  have e:x=o:=by simpa using hf
  subst e
  exact h.1
 |x::r,k,h,f+1,o,hf=>by have:=zg.get h.2 f o (by simpa using hf);rwa[show k+1+f=k+(f+1)by omega]at this
theorem C6.La {P:Program} {t:Nat} {i:TI} (a:(P.info? t).map (fun j=>(j.zero,j.size,j.bytes))=some (some i.zero,i.size,i.bytes):=by kernel_rfl) (b:∀w,(sizeOf t).run P w=.ok i.size w:=by(intro w;kernel_rfl)) (c:∀w,(zeroValue t).run P w=.ok i.zero w:=by(intro w;kernel_rfl)) (d:∀w,(isAgg t).run P w=.ok i.agg w:=by(intro w;kernel_rfl)) (e:∀e,i.elem=some e→P.underlying t=some (.slice e):=by(intro e he;cases he<;>kernel_rfl)) (k:∀k,i.ik=some k→P.underlying t=some (.int k):=by(intro k hk;cases hk<;>kernel_rfl)) (f:zg P t i.oW 0:=by(repeat(first|exact trivial|refine⟨fun w a=>by kernel_rfl,?_⟩))):C6 P t i:=⟨a,b,c,d,e,k,fun f' o hf w a=>by have:=f.get f' o hf w a;rwa[Nat.zero_add]at this⟩
theorem nE.skip {P:Program} {r:List (Option TI)} {k:Nat} (h:nE P r (k+1)):nE P (none::r) k:=h
def u0:TI:=⟨1,8,false,none,[],.nilFunc,none⟩
def u1:TI:=⟨1,8,false,none,[],.int .i64 0,some .i64⟩
def u2:TI:=⟨1,1,false,none,[],.bool false,none⟩
def u3:TI:=⟨1,1,false,none,[],.int .u8 0,some .u8⟩
def u4:TI:=⟨4,24,true,none,[0,1,2,3],.agg #[.int .i64 0,.int .i64 0,.bool false,.int .u8 0],none⟩
def u5:TI:=⟨1,16,false,none,[],.string ByteArray.empty,none⟩
def u6:TI:=⟨1,8,false,none,[],.int .u64 0,some .u64⟩
def u7:TI:=⟨2,24,true,none,[0,1],.agg #[.string ByteArray.empty,.int .u64 0],none⟩
def u8:TI:=⟨1,8,false,none,[],.pointer none,none⟩
def u9:TI:=⟨1,8,true,none,[0],.agg #[.pointer none],none⟩
def Kz:TI:=⟨1,16,false,none,[],.nilIface,none⟩
def JE:TI:=⟨1,4,false,none,[],.int .i32 0,some .i32⟩
def Lk:TI:=⟨1,24,false,some 61,[],.slice none 0 0,none⟩
def Ll:TI:=⟨1,24,false,some 91,[],.slice none 0 0,none⟩
def Lm:TI:=⟨1,24,false,some 58,[],.slice none 0 0,none⟩
def Ln:TI:=⟨1,24,false,some 87,[],.slice none 0 0,none⟩
def u16:TI:=⟨1,24,false,some 85,[],.slice none 0 0,none⟩
def Lo:TI:=⟨1,24,false,some 95,[],.slice none 0 0,none⟩
def Lp:TI:=⟨1,24,false,some 100,[],.slice none 0 0,none⟩
def Lq:TI:=⟨1,24,false,some 98,[],.slice none 0 0,none⟩
def Lr:TI:=⟨1,24,false,some 321,[],.slice none 0 0,none⟩
def Ls:TI:=⟨1,24,false,some 323,[],.slice none 0 0,none⟩
def KA:TI:=⟨12,256,true,none,[0,1,2,3,4,5,6,7,8,9,10,11],.agg #[.slice none 0 0,.slice none 0 0,.slice none 0 0,.slice none 0 0,.slice none 0 0,.slice none 0 0,.slice none 0 0,.bool false,.int .i64 0,.slice none 0 0,.slice none 0 0,.slice none 0 0],none⟩
def Lt:TI:=⟨1,24,false,some 72,[],.slice none 0 0,none⟩
def Lu:TI:=⟨1,24,false,some 71,[],.slice none 0 0,none⟩
def Lv:TI:=⟨1,24,false,some 59,[],.slice none 0 0,none⟩
def Lw:TI:=⟨1,24,false,some 69,[],.slice none 0 0,none⟩
def KC:TI:=⟨3,56,true,none,[0,1,2],.agg #[.int .i64 0,.slice none 0 0,.slice none 0 0],none⟩
def Kf:TI:=⟨2,48,true,none,[0,1],.agg #[.slice none 0 0,.slice none 0 0],none⟩
def KE:TI:=⟨3,24,true,none,[0,1,2],.agg #[.int .i64 0,.int .i64 0,.int .i64 0],none⟩
def KF:TI:=⟨1,24,false,some 3,[],.slice none 0 0,none⟩
def KG:TI:=⟨9,104,true,none,[0,1,2,3,4,7,8],.agg #[.int .i64 0,.int .i64 0,.int .i64 0,.int .u64 0,.int .i64 0,.int .i64 0,.int .i64 0,.slice none 0 0,.slice none 0 0],none⟩
def u32:TI:=⟨2,32,true,none,[0,1],.agg #[.bool false,.slice none 0 0],none⟩
def KH:TI:=⟨1,8,false,none,[],.map none,none⟩
def Lx:TI:=⟨1,24,false,some 89,[],.slice none 0 0,none⟩
def KI:TI:=⟨9,168,true,none,[0,1,2,3,4,5,6,7,8],.agg #[.slice none 0 0,.slice none 0 0,.slice none 0 0,.slice none 0 0,.slice none 0 0,.slice none 0 0,.int .i64 0,.map none,.map none],none⟩
def KJ:TI:=⟨3,24,true,none,[0,1,2],.agg #[.int .i64 0,.int .i64 0,.bool false],none⟩
def KK:TI:=⟨4,32,true,none,[0,1],.agg #[.int .i64 0,.int .i64 0,.int .i64 0,.bool false],none⟩
def Iz:TI:=⟨2,16,true,none,[0,1],.agg #[.int .i64 0,.bool false],none⟩
def KL:TI:=⟨13,120,true,none,[0,1,2,3,4,8,11],.agg #[.string ByteArray.empty,.string ByteArray.empty,.int .i64 0,.int .i64 0,.int .i64 0,.int .i64 0,.int .i64 0,.bool false,.int .i64 0,.int .i64 0,.bool false,.int .i64 0,.bool false],none⟩
def KM:TI:=⟨3,40,true,none,[0,2],.agg #[.int .i64 0,.bool false,.slice none 0 0],none⟩
def Ly:TI:=⟨1,24,false,some 56,[],.slice none 0 0,none⟩
def KN:TI:=⟨5,72,true,none,[0,1,2,3,4],.agg #[.int .i64 0,.int .i64 0,.slice none 0 0,.int .i64 0,.slice none 0 0],none⟩
def KO:TI:=⟨3,32,true,none,[0,1,2],.agg #[.string ByteArray.empty,.int .i64 0,.int .i64 0],none⟩
def Lz:TI:=⟨1,24,false,some 4,[],.slice none 0 0,none⟩
def KP:TI:=⟨4,80,true,none,[0,1,2,3],.agg #[.slice none 0 0,.slice none 0 0,.slice none 0 0,.int .i64 0],none⟩
def LA:TI:=⟨1,24,false,some 152,[],.slice none 0 0,none⟩
def KQ:TI:=⟨7,136,true,none,[0,4,5,6],.agg #[.slice none 0 0,.slice none 0 0,.slice none 0 0,.int .i64 0,.slice none 0 0,.slice none 0 0,.int .i64 0],none⟩
def LB:TI:=⟨1,24,false,some 139,[],.slice none 0 0,none⟩
def KR:TI:=⟨5,72,true,none,[0,1,2,3,4],.agg #[.pointer none,.slice none 0 0,.slice none 0 0,.bool false,.int .i64 0],none⟩
def LD:TI:=⟨1,24,false,some 177,[],.slice none 0 0,none⟩
def KS:TI:=⟨3,56,true,none,[0,1,2],.agg #[.slice none 0 0,.slice none 0 0,.bool false],none⟩
def KT:TI:=⟨4,96,true,none,[0,1,2,3],.agg #[.slice none 0 0,.slice none 0 0,.slice none 0 0,.slice none 0 0],none⟩
def JF:TI:=⟨5,64,true,none,[0,1,3,4],.agg #[.int .i64 0,.slice none 0 0,.slice none 0 0,.bool false,.bool false],none⟩
def LF:TI:=⟨1,24,false,some 173,[],.slice none 0 0,none⟩
def LG:TI:=⟨1,24,false,some 49,[],.slice none 0 0,none⟩
def KU:TI:=⟨3,56,true,none,[0,2],.agg #[.slice none 0 0,.slice none 0 0,.int .i64 0],none⟩
def KV:TI:=⟨3,32,true,none,[0,1,2],.agg #[.int .i64 0,.string ByteArray.empty,.int .i64 0],none⟩
def LH:TI:=⟨1,24,false,some 9,[],.slice none 0 0,none⟩
def LI:TI:=⟨1,24,false,some 234,[],.slice none 0 0,none⟩
def LJ:TI:=⟨1,24,false,some 268,[],.slice none 0 0,none⟩
def Kg:TI:=⟨3,40,true,none,[0,1,2],.agg #[.int .i64 0,.string ByteArray.empty,.string ByteArray.empty],none⟩
def LK:TI:=⟨256,256,true,none,[],.agg (Array.replicate 256 (.int .u8 0)),none⟩
def LL:TI:=⟨1,24,false,some 286,[],.slice none 0 0,none⟩
def u64:TI:=⟨2,16,true,none,[0,1],.agg #[.int .i64 0,.int .i64 0],none⟩
def LM:TI:=⟨1,4,false,none,[],.int .u32 0,some .u32⟩
def LN:TI:=⟨1,24,false,some 298,[],.slice none 0 0,none⟩
def LO:TI:=⟨1,24,false,some 301,[],.slice none 0 0,none⟩
def KW:TI:=⟨3,56,true,none,[0,1,2],.agg #[.slice none 0 0,.slice none 0 0,.int .i64 0],none⟩
def LP:TI:=⟨1,2,false,none,[],.int .u16 0,some .u16⟩
def KX:TI:=⟨3,6,true,none,[0,1,2],.agg #[.int .u16 0,.int .u16 0,.int .u16 0],none⟩
def KY:TI:=⟨3,12,true,none,[0,1,2],.agg #[.int .u32 0,.int .u32 0,.int .u32 0],none⟩
def KZ:TI:=⟨4,40,true,none,[0,1,2,3],.agg #[.pointer none,.pointer none,.pointer none,.string ByteArray.empty],none⟩
def LQ:TI:=⟨0,0,true,none,[],.agg #[],none⟩
def K0:TI:=⟨11,48,true,none,[0,1,2,3,4,5,6,7,8,9,10],.agg #[.int .u64 0,.int .u64 0,.int .u32 0,.int .u8 0,.int .u8 0,.int .u8 0,.int .u8 0,.nilFunc,.pointer none,.int .i32 0,.int .i32 0],none⟩
def LR:TI:=⟨1,24,false,some 5,[],.slice none 0 0,none⟩
def K1:TI:=⟨4,64,true,none,[0,1,2,3],.agg #[.int .i64 0,.int .i64 0,.slice none 0 0,.slice none 0 0],none⟩
def K2:TI:=⟨3,48,true,none,[0,1,2],.agg #[.int .i64 0,.string ByteArray.empty,.slice none 0 0],none⟩
abbrev Jo:TI:=Kg
abbrev Li:TI:=u1
abbrev iI:TI:=Kf
abbrev Ke:TI:=KF
abbrev Kx:TI:=u5
def Jm:List (Option TI):=[none,some u0,some u1,some u1,some u2,some u3,some u3,some u4,some u4,some u5,some u5,some u5,some u6,some u7,some u7,some u8,some u8,some u8,some u9,some u9,some Kz,some JE,some Lk,some Ll,some Lm,some Ln,some u16,some Lo,some Lp,some Lq,some Lr,some Ls,some KA,some KA,some u0,some u0,some u1,none,some u0,some u8,some u0,some u0,some u0,some Lt,none,some u0,some Lu,none,some u0,some Lv,none,some u0,some u0,some u0,some u0,some u0,some Lw,some KC,some KC,some u1,some Kf,some Kf,some u0,some u1,some u6,some KE,some KE,some KF,some KG,some KG,some u32,some u32,some u32,some u0,some u8,some u0,some u8,some KH,some KH,some Lx,some KI,some KI,some u0,some u1,some KJ,some KJ,some KK,some KK,some Iz,some Iz,some KL,some KL,some u0,some u0,some KM,some KM,some Ly,some KN,some KN,some KO,some KO,some u9,some u9,none,some u0,some u8,some u0,some u0,none,some u0,some u0,some u0,some u0,some u0,some Lz,some KP,some KP,some LA,some KQ,some KQ,some u0,some u0,none,some u0,some u0,some u0,some LB,some KR,some KR,some u0,some LD,some KS,some KS,some u0,some KT,some KT,none,some u0,some JF,some JF,some u0,some u0,some u0,some u0,some u0,none,some u0,some u0,some u0,some u0,some u0,some JF,some JF,some u0,some u0,some u0,some u0,some u0,some u0,some u0,some u0,some u0,some u0,none,some u0,some u0,some u0,some u0,some u0,some u0,some u0,some u0,some Iz,some Iz,some LF,some u8,some Iz,some Iz,some u0,some u0,some u0,some u0,some u0,some u0,some u0,some u0,none,some u0,some u1,some u0,some u0,some u0,some u0,some u0,some u0,some u0,some u0,some u0,some u0,none,some u0,some u0,some u0,some u0,some LG,some u0,none,some u0,none,some u0,some KU,some KU,some u0,none,some u0,some u0,some u8,some u0,none,some u0,none,some u0,some u0,none,some u0,some u0,none,some u0,some u0,some u0,some u0,some u0,some u0,some KV,some KV,none,some u0,some u0,some u0,some u0,some u0,some u0,some u0,some u0,some u0,some u0,some u0,some u0,some LH,none,some u0,some u0,some u0,some u0,some u0,some u0,some u0,some u0,some LI,some u0,some u0,some u0,some u0,some u0,some u0,some LJ,some u0,some Kg,some Kg,some u0,some u0,some u0,none,some u0,some u0,some u0,some u0,some LK,some u0,some u0,some u0,some u0,some u0,some u6,some LL,some u64,some u64,some LM,some u0,some u8,none,some u0,some LN,some LO,some KW,some KW,some LP,some KX,some KX,some u0,some KY,some KY,some u0,some u8,some u8,some u0,some KZ,some KZ,some LQ,none,none,some u3,some u3,some u0,some u8,some JE,some JE,some K0,some K0,some LR,some K1,some K1,some K2,some K2,some u8]
theorem Io:nE Tryz.prog Jm 0:=by
 repeat(first|exact trivial|refine⟨C6.La,?_⟩|refine nE.skip ?_)
def JS:List Bool:=[false,false,true,true,true,true,true,true,true,true,true,true,true,true,true,true,true,true,true,true,true,true,true,true,true,true,true,true,true,true,true,true,true,true,true,true,true,true,true,true,true,true,true,true,true,true,true,true,true,true,true,true,true,true,true,true,true,true,true,true,true,true,true,true,true,true,true,true,true,true,true,true,true,true,true,true,true,true,true,true,true,true,true,true,true,true,true,true,true,true,true,true,true,true,true,true,true,true,true,true,true,true,true,true,true,true,true,true,true,true,true,true,true,true,true,true,true,true,true,true,true,true,true,true,true,true,true,true,true,true,true,true,true,true,true,true,true,true,true,true,true,true,true,true,true,true,true,true,true,true,true,true,true,true,true,true,true,true,true,true,true,true,true,true,true,true,true,true,true,true,true,true,true,true,true,true,true,true,true,true,true,true,true,true,true,true,true,true,true,true,true,true,true,true,true,true,true,true,true,true,true,true,true,true,true,true,true,true,true,true,false,true,true,true,false,true,true,true,false,false,false,false,false,false,false,false,false,false,false,false,false,false,false,false,false,false,false,false,false,false,false,true]
theorem H0:Jy Tryz.prog JS 0=true:=by kernel_rfl
/-- the program of this seat -/
noncomputable def G:zh:=⟨Tryz.prog,Jm,JS,fun t i h=>by simpa using nE.get Jm 0 Io t i h,fun f h vs w=>GH (by simpa using Fc JS 0 H0 f h) vs w,by kernel_rfl⟩
end Go.Proofs.YtdkcljdfbemnbaaGreatDoor
