/- The rows of the types and functions that the walk's own rules look up; printed by gen_g2.py off the seat's translation. -/
import Derived.Test.YtceedealggognaaGreatDoorJK2
namespace Go.Proofs.YtceedealggognaaGreatDoor
set_option maxRecDepth 100000
def sQ (P:Program) (t:Nat):List Nat→Nat→Prop
 |[],_=>True
 |o::r,k=>(∀w a,(Instr.fieldAt t (.pointer (some a)) k).run P w=.ok (.pointer (some (a.add o))) w)∧sQ P t r (k+1)
theorem sQ.get {P:Program} {t:Nat}:∀{l:List Nat} {k:Nat},sQ P t l k→∀f o,l[f]?=some o→∀w a,(Instr.fieldAt t (.pointer (some a)) (k+f)).run P w=.ok (.pointer (some (a.add o))) w
 |[],_,_,f,o,hf=>by simp at hf
 |x::r,k,h,0,o,hf=>by
  have e:x=o:=by simpa using hf
  subst e
  exact h.1
 |x::r,k,h,f+1,o,hf=>by have:=sQ.get h.2 f o (by simpa using hf);rwa[show k+1+f=k+(f+1)by omega]at this
theorem wv.EU {P:Program} {t:Nat} {i:TI} (a:(P.info? t).map (fun j=>(j.zero,j.size,j.bytes))=some (some i.zero,i.size,i.bytes):=by kernel_rfl) (b:∀w,(sizeOf t).run P w=.ok i.size w:=by(intro w;kernel_rfl)) (c:∀w,(zeroValue t).run P w=.ok i.zero w:=by(intro w;kernel_rfl)) (d:∀w,(isAgg t).run P w=.ok i.agg w:=by(intro w;kernel_rfl)) (e:∀e,i.elem=some e→P.underlying t=some (.slice e):=by(intro e he;cases he<;>kernel_rfl)) (k:∀k,i.ik=some k→P.underlying t=some (.int k):=by(intro k hk;cases hk<;>kernel_rfl)) (f:sQ P t i.ly 0:=by(repeat(first|exact trivial|refine⟨fun w a=>by kernel_rfl,?_⟩))):wv P t i:=⟨a,b,c,d,e,k,fun f' o hf w a=>by have:=f.get f' o hf w a;rwa[Nat.zero_add]at this⟩
theorem km.skip {P:Program} {r:List (Option TI)} {k:Nat} (h:km P r (k+1)):km P (none::r) k:=h
def u0:TI:=⟨1,8,false,none,[],.nilFunc,none⟩
def u1:TI:=⟨1,8,false,none,[],.int .i64 0,some .i64⟩
def u2:TI:=⟨1,1,false,none,[],.bool false,none⟩
def u3:TI:=⟨1,1,false,none,[],.int .u8 0,some .u8⟩
def u4:TI:=⟨4,24,true,none,[0,1,2,3],.agg #[.int .i64 0,.int .i64 0,.bool false,.int .u8 0],none⟩
def u5:TI:=⟨1,16,false,none,[],.string ByteArray.empty,none⟩
def u6:TI:=⟨1,8,false,none,[],.int .u64 0,some .u64⟩
def u7:TI:=⟨2,24,true,none,[0,1],.agg #[.string ByteArray.empty,.int .u64 0],none⟩
def u8:TI:=⟨1,8,false,none,[],.pointer none,none⟩
def u9:TI:=⟨1,8,true,none,[0],.agg #[.pointer none],none⟩
def Eh:TI:=⟨1,16,false,none,[],.nilIface,none⟩
def C6:TI:=⟨1,4,false,none,[],.int .i32 0,some .i32⟩
def E7:TI:=⟨1,24,false,some 74,[],.slice none 0 0,none⟩
def E8:TI:=⟨1,24,false,some 95,[],.slice none 0 0,none⟩
def E9:TI:=⟨1,24,false,some 68,[],.slice none 0 0,none⟩
def Fa:TI:=⟨1,24,false,some 91,[],.slice none 0 0,none⟩
def u16:TI:=⟨1,24,false,some 89,[],.slice none 0 0,none⟩
def Fb:TI:=⟨1,24,false,some 99,[],.slice none 0 0,none⟩
def Fc:TI:=⟨1,24,false,some 104,[],.slice none 0 0,none⟩
def Fe:TI:=⟨1,24,false,some 102,[],.slice none 0 0,none⟩
def Ff:TI:=⟨1,24,false,some 324,[],.slice none 0 0,none⟩
def Fg:TI:=⟨1,24,false,some 326,[],.slice none 0 0,none⟩
def Ej:TI:=⟨12,256,true,none,[0,1,2,3,4,5,6,7,8,9,10,11],.agg #[.slice none 0 0,.slice none 0 0,.slice none 0 0,.slice none 0 0,.slice none 0 0,.slice none 0 0,.slice none 0 0,.bool false,.int .i64 0,.slice none 0 0,.slice none 0 0,.slice none 0 0],none⟩
def Fh:TI:=⟨1,24,false,some 70,[],.slice none 0 0,none⟩
def Fi:TI:=⟨1,24,false,some 76,[],.slice none 0 0,none⟩
def Fj:TI:=⟨1,24,false,some 58,[],.slice none 0 0,none⟩
def Ek:TI:=⟨3,24,true,none,[0,1,2],.agg #[.int .i64 0,.int .i64 0,.int .i64 0],none⟩
def Fk:TI:=⟨1,24,false,some 3,[],.slice none 0 0,none⟩
def El:TI:=⟨9,104,true,none,[0,1,2,3,4,7,8],.agg #[.int .i64 0,.int .i64 0,.int .i64 0,.int .u64 0,.int .i64 0,.int .i64 0,.int .i64 0,.slice none 0 0,.slice none 0 0],none⟩
def Em:TI:=⟨10,112,true,none,[0,1],.agg #[.int .u8 0,.int .i64 0,.int .i64 0,.int .i64 0,.int .u64 0,.int .i64 0,.int .i64 0,.int .i64 0,.slice none 0 0,.slice none 0 0],none⟩
def Fl:TI:=⟨1,24,false,some 63,[],.slice none 0 0,none⟩
def En:TI:=⟨3,56,true,none,[0,1,2],.agg #[.int .i64 0,.slice none 0 0,.slice none 0 0],none⟩
def u32:TI:=⟨2,32,true,none,[0,1],.agg #[.bool false,.slice none 0 0],none⟩
def DS:TI:=⟨2,48,true,none,[0,1],.agg #[.slice none 0 0,.slice none 0 0],none⟩
def Eo:TI:=⟨1,8,false,none,[],.map none,none⟩
def Fm:TI:=⟨1,24,false,some 93,[],.slice none 0 0,none⟩
def Ep:TI:=⟨9,168,true,none,[0,1,2,3,4,5,6,7,8],.agg #[.slice none 0 0,.slice none 0 0,.slice none 0 0,.slice none 0 0,.slice none 0 0,.slice none 0 0,.int .i64 0,.map none,.map none],none⟩
def Er:TI:=⟨3,24,true,none,[0,1,2],.agg #[.int .i64 0,.int .i64 0,.bool false],none⟩
def Es:TI:=⟨4,32,true,none,[0,1],.agg #[.int .i64 0,.int .i64 0,.int .i64 0,.bool false],none⟩
def Cm:TI:=⟨2,16,true,none,[0,1],.agg #[.int .i64 0,.bool false],none⟩
def Et:TI:=⟨13,120,true,none,[0,1,2,3,4,8,11],.agg #[.string ByteArray.empty,.string ByteArray.empty,.int .i64 0,.int .i64 0,.int .i64 0,.int .i64 0,.int .i64 0,.bool false,.int .i64 0,.int .i64 0,.bool false,.int .i64 0,.bool false],none⟩
def Eu:TI:=⟨3,40,true,none,[0,2],.agg #[.int .i64 0,.bool false,.slice none 0 0],none⟩
def Fo:TI:=⟨1,24,false,some 66,[],.slice none 0 0,none⟩
def Ev:TI:=⟨5,72,true,none,[0,1,2,3,4],.agg #[.int .i64 0,.int .i64 0,.slice none 0 0,.int .i64 0,.slice none 0 0],none⟩
def Ew:TI:=⟨3,32,true,none,[0,1,2],.agg #[.string ByteArray.empty,.int .i64 0,.int .i64 0],none⟩
def Fp:TI:=⟨1,24,false,some 4,[],.slice none 0 0,none⟩
def Ex:TI:=⟨4,80,true,none,[0,1,2,3],.agg #[.slice none 0 0,.slice none 0 0,.slice none 0 0,.int .i64 0],none⟩
def Fq:TI:=⟨1,24,false,some 155,[],.slice none 0 0,none⟩
def Ey:TI:=⟨7,136,true,none,[0,4,5,6],.agg #[.slice none 0 0,.slice none 0 0,.slice none 0 0,.int .i64 0,.slice none 0 0,.slice none 0 0,.int .i64 0],none⟩
def Fs:TI:=⟨1,24,false,some 143,[],.slice none 0 0,none⟩
def Ez:TI:=⟨5,72,true,none,[0,1,2,3,4],.agg #[.pointer none,.slice none 0 0,.slice none 0 0,.bool false,.int .i64 0],none⟩
def Ft:TI:=⟨1,24,false,some 180,[],.slice none 0 0,none⟩
def EA:TI:=⟨3,56,true,none,[0,1,2],.agg #[.slice none 0 0,.slice none 0 0,.bool false],none⟩
def EB:TI:=⟨4,96,true,none,[0,1,2,3],.agg #[.slice none 0 0,.slice none 0 0,.slice none 0 0,.slice none 0 0],none⟩
def C7:TI:=⟨5,64,true,none,[0,1,3,4],.agg #[.int .i64 0,.slice none 0 0,.slice none 0 0,.bool false,.bool false],none⟩
def Fu:TI:=⟨1,24,false,some 176,[],.slice none 0 0,none⟩
def Fv:TI:=⟨1,24,false,some 49,[],.slice none 0 0,none⟩
def EC:TI:=⟨3,56,true,none,[0,2],.agg #[.slice none 0 0,.slice none 0 0,.int .i64 0],none⟩
def ED:TI:=⟨3,32,true,none,[0,1,2],.agg #[.int .i64 0,.string ByteArray.empty,.int .i64 0],none⟩
def Fw:TI:=⟨1,24,false,some 9,[],.slice none 0 0,none⟩
def Fx:TI:=⟨1,24,false,some 237,[],.slice none 0 0,none⟩
def Fy:TI:=⟨1,24,false,some 271,[],.slice none 0 0,none⟩
def DT:TI:=⟨3,40,true,none,[0,1,2],.agg #[.int .i64 0,.string ByteArray.empty,.string ByteArray.empty],none⟩
def Fz:TI:=⟨256,256,true,none,[],.agg (Array.replicate 256 (.int .u8 0)),none⟩
def u64:TI:=⟨1,24,false,some 289,[],.slice none 0 0,none⟩
def EE:TI:=⟨2,16,true,none,[0,1],.agg #[.int .i64 0,.int .i64 0],none⟩
def FA:TI:=⟨1,4,false,none,[],.int .u32 0,some .u32⟩
def FB:TI:=⟨1,24,false,some 301,[],.slice none 0 0,none⟩
def FC:TI:=⟨1,24,false,some 304,[],.slice none 0 0,none⟩
def EF:TI:=⟨3,56,true,none,[0,1,2],.agg #[.slice none 0 0,.slice none 0 0,.int .i64 0],none⟩
def FD:TI:=⟨1,2,false,none,[],.int .u16 0,some .u16⟩
def EG:TI:=⟨3,6,true,none,[0,1,2],.agg #[.int .u16 0,.int .u16 0,.int .u16 0],none⟩
def EH:TI:=⟨3,12,true,none,[0,1,2],.agg #[.int .u32 0,.int .u32 0,.int .u32 0],none⟩
def EI:TI:=⟨4,40,true,none,[0,1,2,3],.agg #[.pointer none,.pointer none,.pointer none,.string ByteArray.empty],none⟩
def FE:TI:=⟨0,0,true,none,[],.agg #[],none⟩
def EJ:TI:=⟨11,48,true,none,[0,1,2,3,4,5,6,7,8,9,10],.agg #[.int .u64 0,.int .u64 0,.int .u32 0,.int .u8 0,.int .u8 0,.int .u8 0,.int .u8 0,.nilFunc,.pointer none,.int .i32 0,.int .i32 0],none⟩
def FF:TI:=⟨1,24,false,some 5,[],.slice none 0 0,none⟩
def EK:TI:=⟨4,64,true,none,[0,1,2,3],.agg #[.int .i64 0,.int .i64 0,.slice none 0 0,.slice none 0 0],none⟩
def EL:TI:=⟨3,48,true,none,[0,1,2],.agg #[.int .i64 0,.string ByteArray.empty,.slice none 0 0],none⟩
abbrev CW:TI:=DT
abbrev eY:TI:=DS
abbrev Eg:TI:=u5
def CU:List (Option TI):=[none,some u0,some u1,some u1,some u2,some u3,some u3,some u4,some u4,some u5,some u5,some u5,some u6,some u7,some u7,some u8,some u8,some u8,some u9,some u9,some Eh,some C6,some E7,some E8,some E9,some Fa,some u16,some Fb,some Fc,some Fe,some Ff,some Fg,some Ej,some Ej,some u0,some u0,some u1,none,some u0,some u8,some u0,some u0,some u0,some Fh,none,some u0,some Fi,none,some u0,some Fj,none,some u0,some u0,some u0,some u0,some u0,some u1,some u6,some u1,some Ek,some Ek,some Fk,some El,some El,some Em,some Em,some Fl,some En,some En,some u32,some u32,some u0,some u0,some DS,some DS,some u0,some u32,some u0,some u8,some u0,some u8,some Eo,some Eo,some Fm,some Ep,some Ep,some u0,some u1,some Er,some Er,some Es,some Es,some Cm,some Cm,some Et,some Et,some u0,some u0,some Eu,some Eu,some Fo,some Ev,some Ev,some Ew,some Ew,some u9,some u9,none,some u0,some u8,some u0,some u0,none,some u0,some u0,some u0,some u0,some u0,some Fp,some Ex,some Ex,some Fq,some Ey,some Ey,some u0,some u0,none,some u0,some u0,some u0,some Fs,some Ez,some Ez,some u0,some Ft,some EA,some EA,some u0,some EB,some EB,none,some u0,some C7,some C7,some u0,some u0,some u0,some u0,some u0,none,some u0,some u0,some u0,some u0,some C7,some C7,some u0,some u0,some u0,some u0,some u0,some u0,some u0,some u0,some u0,some u0,none,some u0,some u0,some u0,some u0,some u0,some u0,some u0,some u0,some Cm,some Cm,some Fu,some u8,some Cm,some Cm,some u0,some u0,some u0,some u0,some u0,some u0,some u0,some u0,none,some u0,some u1,some u0,some u0,some u0,some u0,some u0,some u0,some u0,some u0,some u0,some u0,none,some u0,some u0,some u0,some u0,some Fv,some u0,none,some u0,none,some u0,some EC,some EC,some u0,none,some u0,some u0,some u8,some u0,none,some u0,none,some u0,some u0,none,some u0,some u0,none,some u0,some u0,some u0,some u0,some u0,some u0,some ED,some ED,none,some u0,some u0,some u0,some u0,some u0,some u0,some u0,some u0,some u0,some u0,some u0,some u0,some Fw,none,some u0,some u0,some u0,some u0,some u0,some u0,some u0,some u0,some Fx,some u0,some u0,some u0,some u0,some u0,some u0,some Fy,some u0,some DT,some DT,some u0,some u0,some u0,none,some u0,some u0,some u0,some u0,some Fz,some u0,some u0,some u0,some u0,some u0,some u6,some u64,some EE,some EE,some FA,some u0,some u8,none,some u0,some FB,some FC,some EF,some EF,some FD,some EG,some EG,some u0,some EH,some EH,some u0,some u8,some u8,some u0,some EI,some EI,some FE,none,none,some u3,some u3,some u0,some u8,some C6,some C6,some EJ,some EJ,some FF,some EK,some EK,some EL,some EL,some u8]
theorem Cc:km Tryz.prog CU 0:=by
 repeat(first|exact trivial|refine⟨wv.EU,?_⟩|refine km.skip ?_)
def Dp:List Bool:=[false,false,true,true,true,true,true,true,true,true,true,true,true,true,true,true,true,true,true,true,true,true,true,true,true,true,true,true,true,true,true,true,true,true,true,true,true,true,true,true,true,true,true,true,true,true,true,true,true,true,true,true,true,true,true,true,true,true,true,true,true,true,true,true,true,true,true,true,true,true,true,true,true,true,true,true,true,true,true,true,true,true,true,true,true,true,true,true,true,true,true,true,true,true,true,true,true,true,true,true,true,true,true,true,true,true,true,true,true,true,true,true,true,true,true,true,true,true,true,true,true,true,true,true,true,true,true,true,true,true,true,true,true,true,true,true,true,true,true,true,true,true,true,true,true,true,true,true,true,true,true,true,true,true,true,true,true,true,true,true,true,true,true,true,true,true,true,true,true,true,true,true,true,true,true,true,true,true,true,true,true,true,true,true,true,true,true,true,true,true,true,true,true,true,true,true,true,true,true,true,true,true,true,true,true,true,true,true,true,true,true,true,true,false,true,true,true,false,true,true,true,false,false,false,false,false,false,false,false,false,false,false,false,false,false,false,false,false,false,false,false,false,false,false,true]
theorem BH:C2 Tryz.prog Dp 0=true:=by kernel_rfl
/-- the program of this seat -/
noncomputable def G:sR:=⟨Tryz.prog,CU,Dp,fun t i h=>by simpa using km.get CU 0 Cc t i h,fun f h vs w=>Ad (by simpa using yB Dp 0 BH f h) vs w,by kernel_rfl⟩
end Go.Proofs.YtceedealggognaaGreatDoor
