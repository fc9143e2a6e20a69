/-
  The shapes of few blocks, as leaves; the machine's table for trees of few blocks.
-/
import Derived.Test.YtjboelhcieepkaaGreatDoorZ10
namespace Go.Proofs.YtjboelhcieepkaaGreatDoor
set_option maxRecDepth 16384
open Go.RowKit
noncomputable def natsA:List SV→Option (List Nat)
 |[]=>some []
 | .v (.int .i64 (.ofNat n))::l=>(match natsA l with
  |some ns=>some (n::ns)
  |none=>none)
 |_=>none
theorem natsA_ok{r:List Loc}:∀{args:List SV} {l:List Nat} {vals:List Value},natsA args=some l→DenL r args vals→vals=l.map fun n:Nat=>Value.int .i64 (n:Int)
 |[],_,_,h,d=>by cases h;cases d;rfl
 | .v (.int .i64 (.ofNat n))::args,l,vals,h,d=>by
  unfold natsA at h
  split at h
  ·rename_i ns hn
   cases h
   cases d with
   |cons d1 d2=>cases d1;rw [natsA_ok hn d2];rfl
  ·cases h
theorem den_i64:∀(l:List Nat),DenL [] (l.map i64v) (l.map fun n:Nat=>Value.int .i64 (n:Int))
 |[]=>.nil
 |_::l=>.cons (.v _) (den_i64 l)
def domL(dom:Nat→List (List Nat)):List (List Nat):=(List.range 20).flatMap fun m=>(dom (m+1)).map fun l=>(m+1)::l
noncomputable def fSh(dom:Nat→List (List Nat))(val:List Nat→SV)(args:List SV):Option SV:=match natsA args with
 |some (n::l)=>bif Nat.ble 1 n&&(Nat.ble n 20&&(dom n).contains l) then some (val (n::l)) else none
 |_=>none
theorem sh_leaf{g:FuncId}{dom:Nat→List (List Nat)}{val:List Nat→SV}{u:List Nat→Value}(he:Enters Xt.P g)(hu:∀l (r:List Loc),Den r (val l) (u l))
 (hc:(domL dom).map (fun l=>callR H3 Xt 12 g (l.map i64v) .e 0)=(domL dom).map (fun l=>some (u l))):LeafOk Xt g (leafV (fSh dom val)):=leafV_ok he fun args y hf r vals w hd hg=>by
 unfold fSh at hf
 split at hf
 ·rename_i n l hn
  cases hq:Nat.ble 1 n&&(Nat.ble n 20&&(dom n).contains l) with
  |false=>rw [hq] at hf;cases hf
  |true =>
   rw [hq] at hf;cases hf
   simp only [Bool.and_eq_true,ble_iff,decide_eq_true_eq] at hq
   obtain ⟨h1,h2,h3⟩:=hq
   have hm:(n::l)∈domL dom:=by
    simp only [domL,List.mem_flatMap,List.mem_range,List.mem_map]
    exact ⟨n-1,by omega,l,by rw [show n-1+1=n by omega];simpa using h3,by rw [show n-1+1=n by omega]⟩
   rw [natsA_ok hn hd]
   exact (callR_val hmx H3_ok (all_of hc hm) (den_i64 _) hg).mono fun e w' ⟨e1,e2⟩=>⟨_,e1,hu _ r,e2⟩
 ·cases hf
def hgt(n:Nat):Nat:=if cnt n 0=1 then 0 else if cnt n 1=1 then 1 else 2
def tot(n:Nat):Nat:=cnt n 0+(cnt n 1+cnt n 2)
def bas(n lv:Nat):Nat:=2*n+(if lv=0 then 0 else if lv=1 then 2*cnt n 0 else 2*cnt n 0+2*cnt n 1)
def plcs(n:Nat):List (Nat×Nat):=lt2 3 (cnt n)
def val2(f:List Nat→Nat)(l:List Nat):SV:=.t [i64v (f l),ok0]
def u2(f:List Nat→Nat)(l:List Nat):Value:=.tuple #[.int .i64 (f l:Int),.int .i64 0]
theorem den2(f:List Nat→Nat)(l:List Nat)(r:List Loc):Den r (val2 f l) (u2 f l):=.t (.cons (.v _) (.cons (.v _) .nil))
def at0(l:List Nat):Nat:=l.getD 0 0
def at1(l:List Nat):Nat:=l.getD 1 0
def at2(l:List Nat):Nat:=l.getD 2 0
def at3(l:List Nat):Nat:=l.getD 3 0
def dHeight(_:Nat):List (List Nat):=[[]]
def dCount(n:Nat):List (List Nat):=(List.range (hgt n+1)).map fun l=>[l]
def dParts(n:Nat):List (List Nat):=(plcs n).map fun p=>[p.1,p.2]
def dNode(n:Nat):List (List Nat):=(plcs n).flatMap fun p=>[[p.1,p.2,0],[p.1,p.2,1]]
def dData(n:Nat):List (List Nat):=(List.range n).flatMap fun i=>[[i,0],[i,1]]
noncomputable def lHeight:Leaf:=leafV (fSh dHeight (val2 fun l=>hgt (at0 l)))
noncomputable def lTotal:Leaf:=leafV (fSh dHeight (val2 fun l=>tot (at0 l)))
noncomputable def lSectors:Leaf:=leafV (fSh dHeight (val2 fun l=>2*(at0 l)+2*tot (at0 l)))
noncomputable def lCount:Leaf:=leafV (fSh dCount (val2 fun l=>cnt (at0 l) (at1 l)))
noncomputable def lParts:Leaf:=leafV (fSh dParts (val2 fun l=>prts (at0 l) (at1 l) (at2 l)))
noncomputable def lNode:Leaf:=leafV (fSh dNode (val2 fun l=>bas (at0 l) (at1 l)+(2*at2 l+at3 l)))
noncomputable def lData:Leaf:=leafV (fSh dData (val2 fun l=>2*at1 l+at2 l))
theorem height_leaf:LeafOk Xt 180 lHeight:=sh_leaf (enters (by kernel_rfl)) (den2 _) (by kernel_rfl)
theorem total_leaf:LeafOk Xt 45 lTotal:=sh_leaf (enters (by kernel_rfl)) (den2 _) (by kernel_rfl)
theorem sectors_leaf:LeafOk Xt 171 lSectors:=sh_leaf (enters (by kernel_rfl)) (den2 _) (by kernel_rfl)
theorem count_leaf:LeafOk Xt 47 lCount:=sh_leaf (enters (by kernel_rfl)) (den2 _) (by kernel_rfl)
theorem parts_leaf:LeafOk Xt 183 lParts:=sh_leaf (enters (by kernel_rfl)) (den2 _) (by kernel_rfl)
theorem node_leaf:LeafOk Xt 191 lNode:=sh_leaf (enters (by kernel_rfl)) (den2 _) (by kernel_rfl)
theorem data_leaf:LeafOk Xt 24 lData:=sh_leaf (enters (by kernel_rfl)) (den2 _) (by kernel_rfl)
noncomputable def tab4:List (FuncId×Leaf):=[(180,lHeight),(45,lTotal),(171,lSectors),(47,lCount),(183,lParts),(191,lNode),(24,lData),
 (111,leafV fFits),(9,leafV (fRow pNode fun x=>.t [.a (.q (.sha x.bytes)),ok0])),(238,leafR fGet)]++tab3
theorem tab4_ok:∀p∈tab4,LeafOk Xt p.1 p.2:=by
 intro p hp
 rcases List.mem_append.1 hp with hp|hp
 ·simp only [List.mem_cons,List.not_mem_nil,or_false] at hp
  rcases hp with rfl|rfl|rfl|rfl|rfl|rfl|rfl|rfl|rfl|rfl
  ·exact height_leaf
  ·exact total_leaf
  ·exact sectors_leaf
  ·exact count_leaf
  ·exact parts_leaf
  ·exact node_leaf
  ·exact data_leaf
  ·exact fits_leaf
  ·exact dig_leaf
  ·exact get_leaf
 ·exact tab3_ok p hp
end Go.Proofs.YtjboelhcieepkaaGreatDoor
