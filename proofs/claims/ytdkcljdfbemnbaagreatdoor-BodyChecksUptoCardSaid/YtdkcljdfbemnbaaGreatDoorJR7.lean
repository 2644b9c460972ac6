/- Walks of the reference of layer 36: deep, Order, Preds. -/
import Derived.Test.YtdkcljdfbemnbaaGreatDoorJF2
namespace Go.Proofs.YtdkcljdfbemnbaaGreatDoor
open Go.RowKit
def Jw (seen:List Bool):Nat:=seen.countP (fun b=>!b)
def Hp (bs:List Bk):Nat→Int→List Bool×List Int→List Bool×List Int
 |0,_,s=>s
 |f+1,a,s=>
  if a<0∨(bs.length:Int)≤a∨ix s.1 a.toNat=true then s
  else
   let t:=(ix bs a.toNat).next.foldl (fun s b=>Hp bs f b s) (s.1.set a.toNat true,s.2)
   (t.1,t.2++[a])
def Ie (bs:List Bk):List Int:=(Hp bs (bs.length+1) 0 (List.replicate bs.length false,[])).2.reverse
theorem tI {α:Type} [Inhabited α] {l m:List α} {i:Nat} (h:i<l.length):ix (l++m) i=ix l i:=by
 rw[cz h,cz (by rw[List.length_append];omega),List.getElem_append_left h]
theorem tH {α:Type} [Inhabited α] {l:List α} {a:α} {i:Nat} (h:i=l.length):ix (l++[a]) i=a:=by
 subst h;rw[cz Pd];simp
end Go.Proofs.YtdkcljdfbemnbaaGreatDoor
