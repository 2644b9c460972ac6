/- The rows of the types and functions that the walk's own rules look up; printed by gen_g2.py off the seat's translation. -/
import Derived.Test.YtceedealggognaaGreatDoorJA
namespace Go.Proofs.YtceedealggognaaGreatDoor
set_option maxRecDepth 100000
def rQ (P:Program) (t:Nat):List Nat→Nat→Prop
 |[],_=>True
 |o::r,k=>(∀w a,(Instr.fieldAt t (.pointer (some a)) k).run P w=.ok (.pointer (some (a.add o))) w)∧rQ P t r (k+1)
theorem rQ.get {P:Program} {t:Nat}:∀{l:List Nat} {k:Nat},rQ P t l k→∀f o,l[f]?=some o→∀w a,(Instr.fieldAt t (.pointer (some a)) (k+f)).run P w=.ok (.pointer (some (a.add o))) w
 |[],_,_,f,o,hf=>by simp at hf
 |x::r,k,h,0,o,hf=>by
  have e:x=o:=by simpa using hf
  subst e
  exact h.1
 |x::r,k,h,f+1,o,hf=>by have:=rQ.get h.2 f o (by simpa using hf);rwa[show k+1+f=k+(f+1)by omega]at this
theorem vr.DJ {P:Program} {t:Nat} {i:TI} (a:(P.info? t).map (fun j=>(j.zero,j.size,j.bytes))=some (some i.zero,i.size,i.bytes):=by kernel_rfl) (b:∀w,(sizeOf t).run P w=.ok i.size w:=by(intro w;kernel_rfl)) (c:∀w,(zeroValue t).run P w=.ok i.zero w:=by(intro w;kernel_rfl)) (d:∀w,(isAgg t).run P w=.ok i.agg w:=by(intro w;kernel_rfl)) (e:∀e,i.elem=some e→P.underlying t=some (.slice e):=by(intro e he;cases he<;>kernel_rfl)) (k:∀k,i.ik=some k→P.underlying t=some (.int k):=by(intro k hk;cases hk<;>kernel_rfl)) (f:rQ P t i.kL 0:=by(repeat(first|exact trivial|refine⟨fun w a=>by kernel_rfl,?_⟩))):vr P t i:=⟨a,b,c,d,e,k,fun f' o hf w a=>by have:=f.get f' o hf w a;rwa[Nat.zero_add]at this⟩
theorem jX.skip {P:Program} {r:List (Option TI)} {k:Nat} (h:jX P r (k+1)):jX P (none::r) k:=h
def u0:TI:=⟨1,8,false,none,[],.nilFunc,none⟩
def u1:TI:=⟨1,8,false,none,[],.int .i64 0,some .i64⟩
def u2:TI:=⟨1,1,false,none,[],.bool false,none⟩
def u3:TI:=⟨1,1,false,none,[],.int .u8 0,some .u8⟩
def u4:TI:=⟨4,24,true,none,[0,1,2,3],.agg #[.int .i64 0,.int .i64 0,.bool false,.int .u8 0],none⟩
def u5:TI:=⟨1,16,false,none,[],.string ByteArray.empty,none⟩
def u6:TI:=⟨1,8,false,none,[],.int .u64 0,some .u64⟩
def u7:TI:=⟨2,24,true,none,[0,1],.agg #[.string ByteArray.empty,.int .u64 0],none⟩
def u8:TI:=⟨1,8,false,none,[],.pointer none,none⟩
def u9:TI:=⟨1,8,true,none,[0],.agg #[.pointer none],none⟩
def C1:TI:=⟨1,16,false,none,[],.nilIface,none⟩
def BV:TI:=⟨1,4,false,none,[],.int .i32 0,some .i32⟩
def DR:TI:=⟨1,24,false,some 74,[],.slice none 0 0,none⟩
def DS:TI:=⟨1,24,false,some 95,[],.slice none 0 0,none⟩
def DT:TI:=⟨1,24,false,some 68,[],.slice none 0 0,none⟩
def DU:TI:=⟨1,24,false,some 91,[],.slice none 0 0,none⟩
def u16:TI:=⟨1,24,false,some 89,[],.slice none 0 0,none⟩
def DV:TI:=⟨1,24,false,some 99,[],.slice none 0 0,none⟩
def DW:TI:=⟨1,24,false,some 104,[],.slice none 0 0,none⟩
def DX:TI:=⟨1,24,false,some 102,[],.slice none 0 0,none⟩
def DY:TI:=⟨1,24,false,some 324,[],.slice none 0 0,none⟩
def DZ:TI:=⟨1,24,false,some 326,[],.slice none 0 0,none⟩
def C2:TI:=⟨12,256,true,none,[0,1,2,3,4,5,6,7,8,9,10,11],.agg #[.slice none 0 0,.slice none 0 0,.slice none 0 0,.slice none 0 0,.slice none 0 0,.slice none 0 0,.slice none 0 0,.bool false,.int .i64 0,.slice none 0 0,.slice none 0 0,.slice none 0 0],none⟩
def D4:TI:=⟨1,24,false,some 70,[],.slice none 0 0,none⟩
def D5:TI:=⟨1,24,false,some 76,[],.slice none 0 0,none⟩
def D7:TI:=⟨1,24,false,some 58,[],.slice none 0 0,none⟩
def C3:TI:=⟨3,24,true,none,[0,1,2],.agg #[.int .i64 0,.int .i64 0,.int .i64 0],none⟩
def D8:TI:=⟨1,24,false,some 3,[],.slice none 0 0,none⟩
def C4:TI:=⟨9,104,true,none,[0,1,2,3,4,7,8],.agg #[.int .i64 0,.int .i64 0,.int .i64 0,.int .u64 0,.int .i64 0,.int .i64 0,.int .i64 0,.slice none 0 0,.slice none 0 0],none⟩
def C5:TI:=⟨10,112,true,none,[0,1],.agg #[.int .u8 0,.int .i64 0,.int .i64 0,.int .i64 0,.int .u64 0,.int .i64 0,.int .i64 0,.int .i64 0,.slice none 0 0,.slice none 0 0],none⟩
def D9:TI:=⟨1,24,false,some 63,[],.slice none 0 0,none⟩
def C6:TI:=⟨3,56,true,none,[0,1,2],.agg #[.int .i64 0,.slice none 0 0,.slice none 0 0],none⟩
def u32:TI:=⟨2,32,true,none,[0,1],.agg #[.bool false,.slice none 0 0],none⟩
def CG:TI:=⟨2,48,true,none,[0,1],.agg #[.slice none 0 0,.slice none 0 0],none⟩
def C7:TI:=⟨1,8,false,none,[],.map none,none⟩
def Ea:TI:=⟨1,24,false,some 93,[],.slice none 0 0,none⟩
def C8:TI:=⟨9,168,true,none,[0,1,2,3,4,5,6,7,8],.agg #[.slice none 0 0,.slice none 0 0,.slice none 0 0,.slice none 0 0,.slice none 0 0,.slice none 0 0,.int .i64 0,.map none,.map none],none⟩
def C9:TI:=⟨3,24,true,none,[0,1,2],.agg #[.int .i64 0,.int .i64 0,.bool false],none⟩
def Db:TI:=⟨4,32,true,none,[0,1],.agg #[.int .i64 0,.int .i64 0,.int .i64 0,.bool false],none⟩
def A5:TI:=⟨2,16,true,none,[0,1],.agg #[.int .i64 0,.bool false],none⟩
def Dd:TI:=⟨13,120,true,none,[0,1,2,3,4,8,11],.agg #[.string ByteArray.empty,.string ByteArray.empty,.int .i64 0,.int .i64 0,.int .i64 0,.int .i64 0,.int .i64 0,.bool false,.int .i64 0,.int .i64 0,.bool false,.int .i64 0,.bool false],none⟩
def De:TI:=⟨3,40,true,none,[0,2],.agg #[.int .i64 0,.bool false,.slice none 0 0],none⟩
def Eb:TI:=⟨1,24,false,some 66,[],.slice none 0 0,none⟩
def Df:TI:=⟨5,72,true,none,[0,1,2,3,4],.agg #[.int .i64 0,.int .i64 0,.slice none 0 0,.int .i64 0,.slice none 0 0],none⟩
def Dg:TI:=⟨3,32,true,none,[0,1,2],.agg #[.string ByteArray.empty,.int .i64 0,.int .i64 0],none⟩
def Ec:TI:=⟨1,24,false,some 4,[],.slice none 0 0,none⟩
def Dh:TI:=⟨4,80,true,none,[0,1,2,3],.agg #[.slice none 0 0,.slice none 0 0,.slice none 0 0,.int .i64 0],none⟩
def Ed:TI:=⟨1,24,false,some 155,[],.slice none 0 0,none⟩
def Di:TI:=⟨7,136,true,none,[0,4,5,6],.agg #[.slice none 0 0,.slice none 0 0,.slice none 0 0,.int .i64 0,.slice none 0 0,.slice none 0 0,.int .i64 0],none⟩
def Ee:TI:=⟨1,24,false,some 143,[],.slice none 0 0,none⟩
def Dj:TI:=⟨5,72,true,none,[0,1,2,3,4],.agg #[.pointer none,.slice none 0 0,.slice none 0 0,.bool false,.int .i64 0],none⟩
def Ef:TI:=⟨1,24,false,some 180,[],.slice none 0 0,none⟩
def Dk:TI:=⟨3,56,true,none,[0,1,2],.agg #[.slice none 0 0,.slice none 0 0,.bool false],none⟩
def Dl:TI:=⟨4,96,true,none,[0,1,2,3],.agg #[.slice none 0 0,.slice none 0 0,.slice none 0 0,.slice none 0 0],none⟩
def BW:TI:=⟨5,64,true,none,[0,1,3,4],.agg #[.int .i64 0,.slice none 0 0,.slice none 0 0,.bool false,.bool false],none⟩
def Eg:TI:=⟨1,24,false,some 176,[],.slice none 0 0,none⟩
def Eh:TI:=⟨1,24,false,some 49,[],.slice none 0 0,none⟩
def Dm:TI:=⟨3,56,true,none,[0,2],.agg #[.slice none 0 0,.slice none 0 0,.int .i64 0],none⟩
def Dp:TI:=⟨3,32,true,none,[0,1,2],.agg #[.int .i64 0,.string ByteArray.empty,.int .i64 0],none⟩
def Ej:TI:=⟨1,24,false,some 9,[],.slice none 0 0,none⟩
def Ek:TI:=⟨1,24,false,some 237,[],.slice none 0 0,none⟩
def El:TI:=⟨1,24,false,some 271,[],.slice none 0 0,none⟩
def CH:TI:=⟨3,40,true,none,[0,1,2],.agg #[.int .i64 0,.string ByteArray.empty,.string ByteArray.empty],none⟩
def Em:TI:=⟨256,256,true,none,[],.agg (Array.replicate 256 (.int .u8 0)),none⟩
def u64:TI:=⟨1,24,false,some 289,[],.slice none 0 0,none⟩
def Dq:TI:=⟨2,16,true,none,[0,1],.agg #[.int .i64 0,.int .i64 0],none⟩
def En:TI:=⟨1,4,false,none,[],.int .u32 0,some .u32⟩
def Eo:TI:=⟨1,24,false,some 301,[],.slice none 0 0,none⟩
def Ep:TI:=⟨1,24,false,some 304,[],.slice none 0 0,none⟩
def Dr:TI:=⟨3,56,true,none,[0,1,2],.agg #[.slice none 0 0,.slice none 0 0,.int .i64 0],none⟩
def Er:TI:=⟨1,2,false,none,[],.int .u16 0,some .u16⟩
def Ds:TI:=⟨3,6,true,none,[0,1,2],.agg #[.int .u16 0,.int .u16 0,.int .u16 0],none⟩
def Du:TI:=⟨3,12,true,none,[0,1,2],.agg #[.int .u32 0,.int .u32 0,.int .u32 0],none⟩
def Dv:TI:=⟨4,40,true,none,[0,1,2,3],.agg #[.pointer none,.pointer none,.pointer none,.string ByteArray.empty],none⟩
def Es:TI:=⟨0,0,true,none,[],.agg #[],none⟩
def Dw:TI:=⟨11,48,true,none,[0,1,2,3,4,5,6,7,8,9,10],.agg #[.int .u64 0,.int .u64 0,.int .u32 0,.int .u8 0,.int .u8 0,.int .u8 0,.int .u8 0,.nilFunc,.pointer none,.int .i32 0,.int .i32 0],none⟩
def Et:TI:=⟨1,24,false,some 5,[],.slice none 0 0,none⟩
def Dx:TI:=⟨4,64,true,none,[0,1,2,3],.agg #[.int .i64 0,.int .i64 0,.slice none 0 0,.slice none 0 0],none⟩
def Dy:TI:=⟨3,48,true,none,[0,1,2],.agg #[.int .i64 0,.string ByteArray.empty,.slice none 0 0],none⟩
abbrev BK:TI:=CH
abbrev eN:TI:=CG
abbrev C0:TI:=u5
def BI:List (Option TI):=[none,some u0,some u1,some u1,some u2,some u3,some u3,some u4,some u4,some u5,some u5,some u5,some u6,some u7,some u7,some u8,some u8,some u8,some u9,some u9,some C1,some BV,some DR,some DS,some DT,some DU,some u16,some DV,some DW,some DX,some DY,some DZ,some C2,some C2,some u0,some u0,some u1,none,some u0,some u8,some u0,some u0,some u0,some D4,none,some u0,some D5,none,some u0,some D7,none,some u0,some u0,some u0,some u0,some u0,some u1,some u6,some u1,some C3,some C3,some D8,some C4,some C4,some C5,some C5,some D9,some C6,some C6,some u32,some u32,some u0,some u0,some CG,some CG,some u0,some u32,some u0,some u8,some u0,some u8,some C7,some C7,some Ea,some C8,some C8,some u0,some u1,some C9,some C9,some Db,some Db,some A5,some A5,some Dd,some Dd,some u0,some u0,some De,some De,some Eb,some Df,some Df,some Dg,some Dg,some u9,some u9,none,some u0,some u8,some u0,some u0,none,some u0,some u0,some u0,some u0,some u0,some Ec,some Dh,some Dh,some Ed,some Di,some Di,some u0,some u0,none,some u0,some u0,some u0,some Ee,some Dj,some Dj,some u0,some Ef,some Dk,some Dk,some u0,some Dl,some Dl,none,some u0,some BW,some BW,some u0,some u0,some u0,some u0,some u0,none,some u0,some u0,some u0,some u0,some BW,some BW,some u0,some u0,some u0,some u0,some u0,some u0,some u0,some u0,some u0,some u0,none,some u0,some u0,some u0,some u0,some u0,some u0,some u0,some u0,some A5,some A5,some Eg,some u8,some A5,some A5,some u0,some u0,some u0,some u0,some u0,some u0,some u0,some u0,none,some u0,some u1,some u0,some u0,some u0,some u0,some u0,some u0,some u0,some u0,some u0,some u0,none,some u0,some u0,some u0,some u0,some Eh,some u0,none,some u0,none,some u0,some Dm,some Dm,some u0,none,some u0,some u0,some u8,some u0,none,some u0,none,some u0,some u0,none,some u0,some u0,none,some u0,some u0,some u0,some u0,some u0,some u0,some Dp,some Dp,none,some u0,some u0,some u0,some u0,some u0,some u0,some u0,some u0,some u0,some u0,some u0,some u0,some Ej,none,some u0,some u0,some u0,some u0,some u0,some u0,some u0,some u0,some Ek,some u0,some u0,some u0,some u0,some u0,some u0,some El,some u0,some CH,some CH,some u0,some u0,some u0,none,some u0,some u0,some u0,some u0,some Em,some u0,some u0,some u0,some u0,some u0,some u6,some u64,some Dq,some Dq,some En,some u0,some u8,none,some u0,some Eo,some Ep,some Dr,some Dr,some Er,some Ds,some Ds,some u0,some Du,some Du,some u0,some u8,some u8,some u0,some Dv,some Dv,some Es,none,none,some u3,some u3,some u0,some u8,some BV,some BV,some Dw,some Dw,some Et,some Dx,some Dx,some Dy,some Dy,some u8]
theorem AZ:jX Tryz.prog BI 0:=by
 repeat(first|exact trivial|refine⟨vr.DJ,?_⟩|refine jX.skip ?_)
def Ch:List Bool:=[false,false,true,true,true,true,true,true,true,true,true,true,true,true,true,true,true,true,true,true,true,true,true,true,true,true,true,true,true,true,true,true,true,true,true,true,true,true,true,true,true,true,true,true,true,true,true,true,true,true,true,true,true,true,true,true,true,true,true,true,true,true,true,true,true,true,true,true,true,true,true,true,true,true,true,true,true,true,true,true,true,true,true,true,true,true,true,true,true,true,true,true,true,true,true,true,true,true,true,true,true,true,true,true,true,true,true,true,true,true,true,true,true,true,true,true,true,true,true,true,true,true,true,true,true,true,true,true,true,true,true,true,true,true,true,true,true,true,true,true,true,true,true,true,true,true,true,true,true,true,true,true,true,true,true,true,true,true,true,true,true,true,true,true,true,true,true,true,true,true,true,true,true,true,true,true,true,true,true,true,true,true,true,true,true,true,true,true,true,true,true,true,true,true,true,true,true,true,true,true,true,true,true,true,true,true,true,true,true,true,true,true,true,false,true,true,true,false,true,true,true,false,false,false,false,false,false,false,false,false,false,false,false,false,false,false,false,false,false,false,false,false,false,false,true]
theorem AD:BR Tryz.prog Ch 0=true:=by kernel_rfl
/-- the program of this seat -/
noncomputable def G:rS:=⟨Tryz.prog,BI,Ch,fun t i h=>by simpa using jX.get BI 0 AZ t i h,fun f h vs w=>yQ (by simpa using xA Ch 0 AD f h) vs w,by kernel_rfl⟩
end Go.Proofs.YtceedealggognaaGreatDoor
