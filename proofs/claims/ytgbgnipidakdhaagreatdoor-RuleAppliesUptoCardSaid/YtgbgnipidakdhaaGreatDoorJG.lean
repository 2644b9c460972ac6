/- The rows of the types and functions that the walk's own rules look up; printed by gen_g2.py off the seat's translation. -/
import Derived.Test.YtgbgnipidakdhaaGreatDoorJA
namespace Go.Proofs.YtgbgnipidakdhaaGreatDoor
set_option maxRecDepth 100000
def Fm (P:Program) (t:Nat):List Nat→Nat→Prop
 |[],_=>True
 |o::r,k=>(∀w a,(Instr.fieldAt t (.pointer (some a)) k).run P w=.ok (.pointer (some (a.add o))) w)∧Fm P t r (k+1)
theorem Fm.get {P:Program} {t:Nat}:∀{l:List Nat} {k:Nat},Fm P t l k→∀f o,l[f]?=some o→∀w a,(Instr.fieldAt t (.pointer (some a)) (k+f)).run P w=.ok (.pointer (some (a.add o))) w
 |[],_,_,f,o,hf=>by simp at hf
 |x::r,k,h,0,o,hf=>by
  have e:x=o:=by simpa using hf
  subst e
  exact h.1
 |x::r,k,h,f+1,o,hf=>by have:=Fm.get h.2 f o (by simpa using hf);rwa[show k+1+f=k+(f+1)by omega]at this
theorem Bd.I1 {P:Program} {t:Nat} {i:TI} (a:(P.info? t).map (fun j=>(j.zero,j.size,j.bytes))=some (some i.zero,i.size,i.bytes):=by kernel_rfl) (b:∀w,(sizeOf t).run P w=.ok i.size w:=by(intro w;kernel_rfl)) (c:∀w,(zeroValue t).run P w=.ok i.zero w:=by(intro w;kernel_rfl)) (d:∀w,(isAgg t).run P w=.ok i.agg w:=by(intro w;kernel_rfl)) (e:∀e,i.elem=some e→P.underlying t=some (.slice e):=by(intro e he;cases he<;>kernel_rfl)) (k:∀k,i.ik=some k→P.underlying t=some (.int k):=by(intro k hk;cases hk<;>kernel_rfl)) (f:Fm P t i.nA 0:=by(repeat(first|exact trivial|refine⟨fun w a=>by kernel_rfl,?_⟩))):Bd P t i:=⟨a,b,c,d,e,k,fun f' o hf w a=>by have:=f.get f' o hf w a;rwa[Nat.zero_add]at this⟩
theorem mD.skip {P:Program} {r:List (Option TI)} {k:Nat} (h:mD P r (k+1)):mD P (none::r) k:=h
def u0:TI:=⟨1,8,false,none,[],.nilFunc,none⟩
def u1:TI:=⟨1,8,false,none,[],.int .i64 0,some .i64⟩
def u2:TI:=⟨1,1,false,none,[],.bool false,none⟩
def u3:TI:=⟨1,1,false,none,[],.int .u8 0,some .u8⟩
def u4:TI:=⟨4,24,true,none,[0,1,2,3],.agg #[.int .i64 0,.int .i64 0,.bool false,.int .u8 0],none⟩
def u5:TI:=⟨1,16,false,none,[],.string ByteArray.empty,none⟩
def u6:TI:=⟨1,8,false,none,[],.int .u64 0,some .u64⟩
def u7:TI:=⟨2,24,true,none,[0,1],.agg #[.string ByteArray.empty,.int .u64 0],none⟩
def u8:TI:=⟨1,8,false,none,[],.pointer none,none⟩
def u9:TI:=⟨1,8,true,none,[0],.agg #[.pointer none],none⟩
def Io:TI:=⟨1,16,false,none,[],.nilIface,none⟩
def H8:TI:=⟨1,4,false,none,[],.int .i32 0,some .i32⟩
def I2:TI:=⟨1,24,false,some 47,[],.slice none 0 0,none⟩
def I3:TI:=⟨1,24,false,some 106,[],.slice none 0 0,none⟩
def I4:TI:=⟨1,24,false,some 109,[],.slice none 0 0,none⟩
def I5:TI:=⟨1,24,false,some 102,[],.slice none 0 0,none⟩
def u16:TI:=⟨1,24,false,some 100,[],.slice none 0 0,none⟩
def I6:TI:=⟨1,24,false,some 112,[],.slice none 0 0,none⟩
def I7:TI:=⟨1,24,false,some 117,[],.slice none 0 0,none⟩
def I8:TI:=⟨1,24,false,some 115,[],.slice none 0 0,none⟩
def I9:TI:=⟨1,24,false,some 295,[],.slice none 0 0,none⟩
def Ja:TI:=⟨1,24,false,some 297,[],.slice none 0 0,none⟩
def Ip:TI:=⟨12,256,true,none,[0,1,2,3,4,5,6,7,8,9,10,11],.agg #[.slice none 0 0,.slice none 0 0,.slice none 0 0,.slice none 0 0,.slice none 0 0,.slice none 0 0,.slice none 0 0,.bool false,.int .i64 0,.slice none 0 0,.slice none 0 0,.slice none 0 0],none⟩
def Jb:TI:=⟨1,24,false,some 37,[],.slice none 0 0,none⟩
def Iq:TI:=⟨3,24,true,none,[0,1,2],.agg #[.int .i64 0,.int .i64 0,.int .i64 0],none⟩
def Jc:TI:=⟨1,24,false,some 3,[],.slice none 0 0,none⟩
def Is:TI:=⟨9,104,true,none,[0,1,2,3,4,7,8],.agg #[.int .i64 0,.int .i64 0,.int .i64 0,.int .u64 0,.int .i64 0,.int .i64 0,.int .i64 0,.slice none 0 0,.slice none 0 0],none⟩
def Jd:TI:=⟨1,24,false,some 42,[],.slice none 0 0,none⟩
def Ij:TI:=⟨2,48,true,none,[0,1],.agg #[.slice none 0 0,.slice none 0 0],none⟩
def Je:TI:=⟨1,24,false,some 130,[],.slice none 0 0,none⟩
def It:TI:=⟨5,72,true,none,[0,1,2,3,4],.agg #[.pointer none,.slice none 0 0,.slice none 0 0,.bool false,.int .i64 0],none⟩
def Jf:TI:=⟨1,24,false,some 4,[],.slice none 0 0,none⟩
def u32:TI:=⟨4,80,true,none,[0,1,2,3],.agg #[.slice none 0 0,.slice none 0 0,.slice none 0 0,.int .i64 0],none⟩
def Jg:TI:=⟨1,24,false,some 132,[],.slice none 0 0,none⟩
def Iu:TI:=⟨7,136,true,none,[0,4,5,6],.agg #[.slice none 0 0,.slice none 0 0,.slice none 0 0,.int .i64 0,.slice none 0 0,.slice none 0 0,.int .i64 0],none⟩
def Iw:TI:=⟨1,8,false,none,[],.map none,none⟩
def Jh:TI:=⟨1,24,false,some 104,[],.slice none 0 0,none⟩
def Iy:TI:=⟨9,168,true,none,[0,1,2,3,4,5,6,7,8],.agg #[.slice none 0 0,.slice none 0 0,.slice none 0 0,.slice none 0 0,.slice none 0 0,.slice none 0 0,.int .i64 0,.map none,.map none],none⟩
def Iz:TI:=⟨3,24,true,none,[0,1,2],.agg #[.int .i64 0,.int .i64 0,.bool false],none⟩
def IA:TI:=⟨4,32,true,none,[0,1],.agg #[.int .i64 0,.int .i64 0,.int .i64 0,.bool false],none⟩
def H9:TI:=⟨2,16,true,none,[0,1],.agg #[.int .i64 0,.bool false],none⟩
def IF:TI:=⟨13,120,true,none,[0,1,2,3,4,8,11],.agg #[.string ByteArray.empty,.string ByteArray.empty,.int .i64 0,.int .i64 0,.int .i64 0,.int .i64 0,.int .i64 0,.bool false,.int .i64 0,.int .i64 0,.bool false,.int .i64 0,.bool false],none⟩
def IG:TI:=⟨3,56,true,none,[0,1,2],.agg #[.int .i64 0,.slice none 0 0,.slice none 0 0],none⟩
def IH:TI:=⟨3,40,true,none,[0,2],.agg #[.int .i64 0,.bool false,.slice none 0 0],none⟩
def Ji:TI:=⟨1,24,false,some 44,[],.slice none 0 0,none⟩
def II:TI:=⟨5,72,true,none,[0,1,2,3,4],.agg #[.int .i64 0,.int .i64 0,.slice none 0 0,.int .i64 0,.slice none 0 0],none⟩
def IJ:TI:=⟨3,32,true,none,[0,1,2],.agg #[.string ByteArray.empty,.int .i64 0,.int .i64 0],none⟩
def IL:TI:=⟨3,56,true,none,[0,2],.agg #[.slice none 0 0,.slice none 0 0,.int .i64 0],none⟩
def Ic:TI:=⟨5,64,true,none,[0,1,3,4],.agg #[.int .i64 0,.slice none 0 0,.slice none 0 0,.bool false,.bool false],none⟩
def Jj:TI:=⟨1,24,false,some 184,[],.slice none 0 0,none⟩
def IM:TI:=⟨3,56,true,none,[0,1,2],.agg #[.slice none 0 0,.slice none 0 0,.bool false],none⟩
def Jk:TI:=⟨1,24,false,some 34,[],.slice none 0 0,none⟩
def IN:TI:=⟨3,32,true,none,[0,1,2],.agg #[.int .i64 0,.string ByteArray.empty,.int .i64 0],none⟩
def Jl:TI:=⟨1,24,false,some 9,[],.slice none 0 0,none⟩
def Jm:TI:=⟨1,24,false,some 212,[],.slice none 0 0,none⟩
def Jn:TI:=⟨1,24,false,some 247,[],.slice none 0 0,none⟩
def Il:TI:=⟨3,40,true,none,[0,1,2],.agg #[.int .i64 0,.string ByteArray.empty,.string ByteArray.empty],none⟩
def Jo:TI:=⟨256,256,true,none,[],.agg (Array.replicate 256 (.int .u8 0)),none⟩
def Jp:TI:=⟨1,24,false,some 260,[],.slice none 0 0,none⟩
def IS:TI:=⟨2,16,true,none,[0,1],.agg #[.int .i64 0,.int .i64 0],none⟩
def Jq:TI:=⟨1,4,false,none,[],.int .u32 0,some .u32⟩
def Jr:TI:=⟨1,24,false,some 272,[],.slice none 0 0,none⟩
def Js:TI:=⟨1,24,false,some 275,[],.slice none 0 0,none⟩
def IT:TI:=⟨3,56,true,none,[0,1,2],.agg #[.slice none 0 0,.slice none 0 0,.int .i64 0],none⟩
def u64:TI:=⟨1,2,false,none,[],.int .u16 0,some .u16⟩
def IU:TI:=⟨3,6,true,none,[0,1,2],.agg #[.int .u16 0,.int .u16 0,.int .u16 0],none⟩
def IW:TI:=⟨3,12,true,none,[0,1,2],.agg #[.int .u32 0,.int .u32 0,.int .u32 0],none⟩
def IX:TI:=⟨4,40,true,none,[0,1,2,3],.agg #[.pointer none,.pointer none,.pointer none,.string ByteArray.empty],none⟩
def Jt:TI:=⟨0,0,true,none,[],.agg #[],none⟩
def IY:TI:=⟨11,48,true,none,[0,1,2,3,4,5,6,7,8,9,10],.agg #[.int .u64 0,.int .u64 0,.int .u32 0,.int .u8 0,.int .u8 0,.int .u8 0,.int .u8 0,.nilFunc,.pointer none,.int .i32 0,.int .i32 0],none⟩
def Ju:TI:=⟨1,24,false,some 5,[],.slice none 0 0,none⟩
def IZ:TI:=⟨4,64,true,none,[0,1,2,3],.agg #[.int .i64 0,.int .i64 0,.slice none 0 0,.slice none 0 0],none⟩
def I0:TI:=⟨3,48,true,none,[0,1,2],.agg #[.int .i64 0,.string ByteArray.empty,.slice none 0 0],none⟩
abbrev H5:TI:=Il
abbrev gW:TI:=Ij
abbrev Im:TI:=u5
def H4:List (Option TI):=[none,some u0,some u1,some u1,some u2,some u3,some u3,some u4,some u4,some u5,some u5,some u5,some u6,some u7,some u7,some u8,some u8,some u8,some u9,some u9,some Io,some H8,some I2,some I3,some I4,some I5,some u16,some I6,some I7,some I8,some I9,some Ja,some Ip,some Ip,some Jb,some u1,some u6,some u1,some Iq,some Iq,some Jc,some Is,some Is,some u0,some Jd,some u0,some Ij,some Ij,some u1,none,some u0,some u8,some u0,some u0,some u0,some u0,some u8,some u0,some u8,some u9,some u9,some u0,some u8,some Je,some It,some It,some u0,some u0,some Jf,some u32,some u32,some Jg,some Iu,some Iu,some u0,some u0,none,some u0,some u0,some u0,some u0,some u0,some u0,some u0,some u0,some u0,some u0,some u0,some u0,some u0,some u0,some u0,some Iw,some Iw,some Jh,some Iy,some Iy,some u0,some u1,some Iz,some Iz,some IA,some IA,some H9,some H9,some IF,some IF,some u0,some IG,some IG,some u0,some IH,some IH,some Ji,some II,some II,some IJ,some IJ,some u0,some IL,some IL,some u0,none,some u0,some u0,some u0,some u0,some u0,some u0,some Ic,some Ic,some Ic,some Ic,some u0,some u0,some u0,some u0,some u0,none,some u0,some u0,some u0,some u0,some Jj,some IM,some IM,some u0,some u0,some u0,some u0,none,some u0,some u0,some u0,some u0,some u1,some u0,some u0,some u0,some u0,some u0,some u0,some u0,some u0,some u0,some u0,some u0,some u0,some u0,some u0,some u0,some u0,some u0,none,some u0,some u0,some u0,some u0,some u0,some u0,some u0,none,some u0,some H9,some H9,none,some u0,none,some u0,some u8,some u0,some u0,some u0,some Jk,none,some u0,none,some u0,none,some u0,none,some u0,some u0,some u0,none,some u0,some u0,some u0,some u0,some u0,some u0,some IN,some IN,none,some u0,some u0,some u0,some u0,some u0,some u0,some u0,some u0,some u0,some u0,some Jl,none,some u0,some u0,some u0,some u0,some u0,some u0,some u0,some u0,some Jm,some u0,none,some u0,some u0,some u0,some u0,some u0,some u0,some u0,some Jn,some u0,some Il,some Il,some u0,some u0,some u0,some u0,some Jo,some u0,some u0,some u0,some u0,some u6,some Jp,some IS,some IS,some Jq,some u0,some u8,none,some u0,some Jr,some Js,some IT,some IT,some u64,some IU,some IU,some u0,some IW,some IW,some u0,some u8,some u8,some u0,some IX,some IX,some Jt,none,none,some u3,some u3,some u0,some u8,some H8,some H8,some IY,some IY,some Ju,some IZ,some IZ,some I0,some I0,some u8]
theorem HQ:mD Tryz.prog H4 0:=by
 repeat(first|exact trivial|refine⟨Bd.I1,?_⟩|refine mD.skip ?_)
def Ig:List Bool:=[false,false,true,true,true,true,true,true,true,true,true,true,true,true,true,true,true,true,true,true,true,true,true,true,true,true,true,true,true,true,true,true,true,true,true,true,true,true,true,true,true,true,true,true,true,true,true,true,true,true,true,true,true,true,true,true,true,true,true,true,true,true,true,true,true,true,true,true,true,true,true,true,true,true,true,true,true,true,true,true,true,true,true,true,true,true,true,true,true,true,true,true,true,true,true,true,true,true,true,true,true,true,true,true,true,true,true,true,true,true,true,true,true,true,true,true,true,true,true,true,true,true,true,true,true,true,true,true,true,true,true,true,true,true,true,true,true,true,true,true,true,true,true,true,true,true,true,true,true,true,true,true,true,true,true,true,true,true,true,true,true,true,true,true,true,true,true,true,true,true,true,true,true,true,true,true,true,true,true,true,true,true,true,true,true,true,true,true,true,true,true,true,true,true,true,true,true,false,true,true,true,false,true,true,true,false,false,false,false,false,false,false,false,false,false,false,false,false,false,false,false,false,false,false,false,false,false,false,true]
theorem HG:GL Tryz.prog Ig 0=true:=by kernel_rfl
/-- the program of this seat -/
noncomputable def G:yP:=⟨Tryz.prog,H4,Ig,fun t i h=>by simpa using mD.get H4 0 HQ t i h,fun f h vs w=>DA (by simpa using BU Ig 0 HG f h) vs w,by kernel_rfl⟩
end Go.Proofs.YtgbgnipidakdhaaGreatDoor
