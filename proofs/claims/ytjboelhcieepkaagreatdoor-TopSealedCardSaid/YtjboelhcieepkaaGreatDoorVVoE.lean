/- A part of the proof of TopSealed. -/
import Derived.Test.YtjboelhcieepkaaGreatDoorW19
noncomputable section
set_option maxRecDepth 16384
namespace Go.Proofs.YtjboelhcieepkaaGreatDoor
open Go.RowKit
theorem a0v:RT 1 0 0:=by intro _ _ _ _ _ _ _ _ _ ;kernel_rfl
theorem a6d:RT 1 0 1:=by intro _ _ _ _ _ _ _ _ _ ;kernel_rfl
theorem a4u:RE 1:=by intro _ _ _ _ _ _ _ _ _ ;kernel_rfl
theorem aSb:RT 2 0 0:=by intro _ _ _ _ _ _ _ _ _ ;kernel_rfl
theorem bEv:RT 2 0 1:=by intro _ _ _ _ _ _ _ _ _ ;kernel_rfl
theorem bDw:RE 2:=by intro _ _ _ _ _ _ _ _ _ ;kernel_rfl
theorem bA8:RT 3 0 0:=by intro _ _ _ _ _ _ _ _ _ ;kernel_rfl
theorem aWK:RT 3 0 1:=by intro _ _ _ _ _ _ _ _ _ ;kernel_rfl
theorem bCq:RE 3:=by intro _ _ _ _ _ _ _ _ _ ;kernel_rfl
theorem aXH:RT 4 0 0:=by intro _ _ _ _ _ _ _ _ _ ;kernel_rfl
theorem a0O:RT 4 0 1:=by intro _ _ _ _ _ _ _ _ _ ;kernel_rfl
theorem aYX:RE 4:=by intro _ _ _ _ _ _ _ _ _ ;kernel_rfl
theorem bA4:RT 5 0 0:=by intro _ _ _ _ _ _ _ _ _ ;kernel_rfl
theorem aTQ:RT 5 0 1:=by intro _ _ _ _ _ _ _ _ _ ;kernel_rfl
theorem aVP:RF 5 0:=by intro _ _ _ _ _ _ _ _ _ ;kernel_rfl
theorem a32:RN 5 0:=by intro _ _ _ _ _ _ _ _ _ ;kernel_rfl
theorem aPW:RT 5 1 0:=by intro _ _ _ _ _ _ _ _ _ ;kernel_rfl
theorem a8Y:RT 5 1 1:=by intro _ _ _ _ _ _ _ _ _ ;kernel_rfl
theorem bCH:RE 5:=by intro _ _ _ _ _ _ _ _ _ ;kernel_rfl
theorem a2p:RT 6 0 0:=by intro _ _ _ _ _ _ _ _ _ ;kernel_rfl
theorem a94:RT 6 0 1:=by intro _ _ _ _ _ _ _ _ _ ;kernel_rfl
theorem aP3:RF 6 0:=by intro _ _ _ _ _ _ _ _ _ ;kernel_rfl
theorem bEd:RN 6 0:=by intro _ _ _ _ _ _ _ _ _ ;kernel_rfl
theorem a8V:RT 6 1 0:=by intro _ _ _ _ _ _ _ _ _ ;kernel_rfl
theorem a9W:RT 6 1 1:=by intro _ _ _ _ _ _ _ _ _ ;kernel_rfl
theorem aXd:RE 6:=by intro _ _ _ _ _ _ _ _ _ ;kernel_rfl
theorem aRn:RT 7 0 0:=by intro _ _ _ _ _ _ _ _ _ ;kernel_rfl
theorem aTW:RT 7 0 1:=by intro _ _ _ _ _ _ _ _ _ ;kernel_rfl
theorem a2f:RF 7 0:=by intro _ _ _ _ _ _ _ _ _ ;kernel_rfl
theorem a2P:RN 7 0:=by intro _ _ _ _ _ _ _ _ _ ;kernel_rfl
theorem a7q:RT 7 1 0:=by intro _ _ _ _ _ _ _ _ _ ;kernel_rfl
theorem a1s:RT 7 1 1:=by intro _ _ _ _ _ _ _ _ _ ;kernel_rfl
theorem a7F:RE 7:=by intro _ _ _ _ _ _ _ _ _ ;kernel_rfl
theorem aVf:RT 8 0 0:=by intro _ _ _ _ _ _ _ _ _ ;kernel_rfl
theorem aTs:RT 8 0 1:=by intro _ _ _ _ _ _ _ _ _ ;kernel_rfl
theorem a6K:RF 8 0:=by intro _ _ _ _ _ _ _ _ _ ;kernel_rfl
theorem aVr:RN 8 0:=by intro _ _ _ _ _ _ _ _ _ ;kernel_rfl
theorem bBO:RT 8 1 0:=by intro _ _ _ _ _ _ _ _ _ ;kernel_rfl
theorem aZu:RT 8 1 1:=by intro _ _ _ _ _ _ _ _ _ ;kernel_rfl
theorem aRX:RE 8:=by intro _ _ _ _ _ _ _ _ _ ;kernel_rfl
theorem aZE:RT 9 0 0:=by intro _ _ _ _ _ _ _ _ _ ;kernel_rfl
theorem a2X:RT 9 0 1:=by intro _ _ _ _ _ _ _ _ _ ;kernel_rfl
theorem a9n:RF 9 0:=by intro _ _ _ _ _ _ _ _ _ ;kernel_rfl
theorem aXl:RN 9 0:=by intro _ _ _ _ _ _ _ _ _ ;kernel_rfl
theorem aQt:RT 9 1 0:=by intro _ _ _ _ _ _ _ _ _ ;kernel_rfl
theorem a7p:RT 9 1 1:=by intro _ _ _ _ _ _ _ _ _ ;kernel_rfl
theorem bCJ:RE 9:=by intro _ _ _ _ _ _ _ _ _ ;kernel_rfl
theorem bD9:RT 10 0 0:=by intro _ _ _ _ _ _ _ _ _ ;kernel_rfl
theorem a9O:RT 10 0 1:=by intro _ _ _ _ _ _ _ _ _ ;kernel_rfl
theorem a93:RF 10 0:=by intro _ _ _ _ _ _ _ _ _ ;kernel_rfl
theorem a2g:RN 10 0:=by intro _ _ _ _ _ _ _ _ _ ;kernel_rfl
theorem a0n:RT 10 1 0:=by intro _ _ _ _ _ _ _ _ _ ;kernel_rfl
theorem a4O:RT 10 1 1:=by intro _ _ _ _ _ _ _ _ _ ;kernel_rfl
theorem aXv:RE 10:=by intro _ _ _ _ _ _ _ _ _ ;kernel_rfl
theorem a0l:RT 11 0 0:=by intro _ _ _ _ _ _ _ _ _ ;kernel_rfl
theorem a5M:RT 11 0 1:=by intro _ _ _ _ _ _ _ _ _ ;kernel_rfl
theorem a0Y:RF 11 0:=by intro _ _ _ _ _ _ _ _ _ ;kernel_rfl
theorem bAD:RN 11 0:=by intro _ _ _ _ _ _ _ _ _ ;kernel_rfl
theorem bEc:RT 11 1 0:=by intro _ _ _ _ _ _ _ _ _ ;kernel_rfl
theorem bB5:RT 11 1 1:=by intro _ _ _ _ _ _ _ _ _ ;kernel_rfl
theorem bEq:RE 11:=by intro _ _ _ _ _ _ _ _ _ ;kernel_rfl
theorem bA0:RT 12 0 0:=by intro _ _ _ _ _ _ _ _ _ ;kernel_rfl
theorem a2q:RT 12 0 1:=by intro _ _ _ _ _ _ _ _ _ ;kernel_rfl
theorem aZq:RF 12 0:=by intro _ _ _ _ _ _ _ _ _ ;kernel_rfl
theorem a2t:RN 12 0:=by intro _ _ _ _ _ _ _ _ _ ;kernel_rfl
theorem aTX:RT 12 1 0:=by intro _ _ _ _ _ _ _ _ _ ;kernel_rfl
theorem aYx:RT 12 1 1:=by intro _ _ _ _ _ _ _ _ _ ;kernel_rfl
theorem bC7:RE 12:=by intro _ _ _ _ _ _ _ _ _ ;kernel_rfl
theorem bA7:RT 13 0 0:=by intro _ _ _ _ _ _ _ _ _ ;kernel_rfl
theorem aXN:RT 13 0 1:=by intro _ _ _ _ _ _ _ _ _ ;kernel_rfl
theorem bCY:RF 13 0:=by intro _ _ _ _ _ _ _ _ _ ;kernel_rfl
theorem aSd:RN 13 0:=by intro _ _ _ _ _ _ _ _ _ ;kernel_rfl
theorem aPS:RT 13 1 0:=by intro _ _ _ _ _ _ _ _ _ ;kernel_rfl
theorem aX5:RT 13 1 1:=by intro _ _ _ _ _ _ _ _ _ ;kernel_rfl
theorem aXD:RE 13:=by intro _ _ _ _ _ _ _ _ _ ;kernel_rfl
theorem aZv:RT 14 0 0:=by intro _ _ _ _ _ _ _ _ _ ;kernel_rfl
theorem bB9:RT 14 0 1:=by intro _ _ _ _ _ _ _ _ _ ;kernel_rfl
theorem aQZ:RF 14 0:=by intro _ _ _ _ _ _ _ _ _ ;kernel_rfl
theorem aRG:RN 14 0:=by intro _ _ _ _ _ _ _ _ _ ;kernel_rfl
theorem bBL:RT 14 1 0:=by intro _ _ _ _ _ _ _ _ _ ;kernel_rfl
theorem aPi:RT 14 1 1:=by intro _ _ _ _ _ _ _ _ _ ;kernel_rfl
theorem bDS:RE 14:=by intro _ _ _ _ _ _ _ _ _ ;kernel_rfl
theorem a6B:RT 15 0 0:=by intro _ _ _ _ _ _ _ _ _ ;kernel_rfl
theorem aWc:RT 15 0 1:=by intro _ _ _ _ _ _ _ _ _ ;kernel_rfl
theorem bD2:RF 15 0:=by intro _ _ _ _ _ _ _ _ _ ;kernel_rfl
theorem aUu:RN 15 0:=by intro _ _ _ _ _ _ _ _ _ ;kernel_rfl
theorem bAF:RT 15 1 0:=by intro _ _ _ _ _ _ _ _ _ ;kernel_rfl
theorem bDj:RT 15 1 1:=by intro _ _ _ _ _ _ _ _ _ ;kernel_rfl
theorem bEf:RE 15:=by intro _ _ _ _ _ _ _ _ _ ;kernel_rfl
theorem a9F:RT 16 0 0:=by intro _ _ _ _ _ _ _ _ _ ;kernel_rfl
theorem aR7:RT 16 0 1:=by intro _ _ _ _ _ _ _ _ _ ;kernel_rfl
theorem aPs:RF 16 0:=by intro _ _ _ _ _ _ _ _ _ ;kernel_rfl
theorem a25:RN 16 0:=by intro _ _ _ _ _ _ _ _ _ ;kernel_rfl
theorem aQw:RT 16 1 0:=by intro _ _ _ _ _ _ _ _ _ ;kernel_rfl
theorem a0u:RT 16 1 1:=by intro _ _ _ _ _ _ _ _ _ ;kernel_rfl
theorem aVj:RE 16:=by intro _ _ _ _ _ _ _ _ _ ;kernel_rfl
theorem a7y:RT 17 0 0:=by intro _ _ _ _ _ _ _ _ _ ;kernel_rfl
theorem aVZ:RT 17 0 1:=by intro _ _ _ _ _ _ _ _ _ ;kernel_rfl
theorem aVQ:RF 17 0:=by intro _ _ _ _ _ _ _ _ _ ;kernel_rfl
theorem a47:RN 17 0:=by intro _ _ _ _ _ _ _ _ _ ;kernel_rfl
theorem bDM:RT 17 1 0:=by intro _ _ _ _ _ _ _ _ _ ;kernel_rfl
theorem a5e:RT 17 1 1:=by intro _ _ _ _ _ _ _ _ _ ;kernel_rfl
theorem a0P:RF 17 1:=by intro _ _ _ _ _ _ _ _ _ ;kernel_rfl
theorem aR8:RN 17 1:=by intro _ _ _ _ _ _ _ _ _ ;kernel_rfl
theorem bDa:RT 17 2 0:=by intro _ _ _ _ _ _ _ _ _ ;kernel_rfl
theorem a1u:RT 17 2 1:=by intro _ _ _ _ _ _ _ _ _ ;kernel_rfl
theorem aUX:RE 17:=by intro _ _ _ _ _ _ _ _ _ ;kernel_rfl
theorem a2D:RT 18 0 0:=by intro _ _ _ _ _ _ _ _ _ ;kernel_rfl
theorem aSm:RT 18 0 1:=by intro _ _ _ _ _ _ _ _ _ ;kernel_rfl
theorem a8t:RF 18 0:=by intro _ _ _ _ _ _ _ _ _ ;kernel_rfl
theorem a1J:RN 18 0:=by intro _ _ _ _ _ _ _ _ _ ;kernel_rfl
theorem aTY:RT 18 1 0:=by intro _ _ _ _ _ _ _ _ _ ;kernel_rfl
theorem a4o:RT 18 1 1:=by intro _ _ _ _ _ _ _ _ _ ;kernel_rfl
theorem a0L:RF 18 1:=by intro _ _ _ _ _ _ _ _ _ ;kernel_rfl
theorem bDF:RN 18 1:=by intro _ _ _ _ _ _ _ _ _ ;kernel_rfl
theorem aPc:RT 18 2 0:=by intro _ _ _ _ _ _ _ _ _ ;kernel_rfl
theorem bCX:RT 18 2 1:=by intro _ _ _ _ _ _ _ _ _ ;kernel_rfl
theorem a1v:RE 18:=by intro _ _ _ _ _ _ _ _ _ ;kernel_rfl
theorem a1y:RT 19 0 0:=by intro _ _ _ _ _ _ _ _ _ ;kernel_rfl
theorem a06:RT 19 0 1:=by intro _ _ _ _ _ _ _ _ _ ;kernel_rfl
theorem a19:RF 19 0:=by intro _ _ _ _ _ _ _ _ _ ;kernel_rfl
theorem aSK:RN 19 0:=by intro _ _ _ _ _ _ _ _ _ ;kernel_rfl
theorem bAk:RT 19 1 0:=by intro _ _ _ _ _ _ _ _ _ ;kernel_rfl
theorem a8p:RT 19 1 1:=by intro _ _ _ _ _ _ _ _ _ ;kernel_rfl
theorem bAH:RF 19 1:=by intro _ _ _ _ _ _ _ _ _ ;kernel_rfl
theorem bDx:RN 19 1:=by intro _ _ _ _ _ _ _ _ _ ;kernel_rfl
theorem bBi:RT 19 2 0:=by intro _ _ _ _ _ _ _ _ _ ;kernel_rfl
theorem a8v:RT 19 2 1:=by intro _ _ _ _ _ _ _ _ _ ;kernel_rfl
theorem aTL:RE 19:=by intro _ _ _ _ _ _ _ _ _ ;kernel_rfl
theorem a7H:RT 20 0 0:=by intro _ _ _ _ _ _ _ _ _ ;kernel_rfl
theorem aOX:RT 20 0 1:=by intro _ _ _ _ _ _ _ _ _ ;kernel_rfl
theorem aUb:RF 20 0:=by intro _ _ _ _ _ _ _ _ _ ;kernel_rfl
theorem a5w:RN 20 0:=by intro _ _ _ _ _ _ _ _ _ ;kernel_rfl
theorem aS1:RT 20 1 0:=by intro _ _ _ _ _ _ _ _ _ ;kernel_rfl
theorem aUH:RT 20 1 1:=by intro _ _ _ _ _ _ _ _ _ ;kernel_rfl
theorem a5a:RF 20 1:=by intro _ _ _ _ _ _ _ _ _ ;kernel_rfl
theorem bBx:RN 20 1:=by intro _ _ _ _ _ _ _ _ _ ;kernel_rfl
theorem aQ7:RT 20 2 0:=by intro _ _ _ _ _ _ _ _ _ ;kernel_rfl
theorem aXc:RT 20 2 1:=by intro _ _ _ _ _ _ _ _ _ ;kernel_rfl
theorem a8Z:RE 20:=by intro _ _ _ _ _ _ _ _ _ ;kernel_rfl
theorem aQu:∀n l v,1≤n->n≤20->l≤aO n->v<2->RT n l v
 |1,0,0,_,_,_,_=>a0v
 |1,0,1,_,_,_,_=>a6d
 |2,0,0,_,_,_,_=>aSb
 |2,0,1,_,_,_,_=>bEv
 |3,0,0,_,_,_,_=>bA8
 |3,0,1,_,_,_,_=>aWK
 |4,0,0,_,_,_,_=>aXH
 |4,0,1,_,_,_,_=>a0O
 |5,0,0,_,_,_,_=>bA4
 |5,0,1,_,_,_,_=>aTQ
 |5,1,0,_,_,_,_=>aPW
 |5,1,1,_,_,_,_=>a8Y
 |6,0,0,_,_,_,_=>a2p
 |6,0,1,_,_,_,_=>a94
 |6,1,0,_,_,_,_=>a8V
 |6,1,1,_,_,_,_=>a9W
 |7,0,0,_,_,_,_=>aRn
 |7,0,1,_,_,_,_=>aTW
 |7,1,0,_,_,_,_=>a7q
 |7,1,1,_,_,_,_=>a1s
 |8,0,0,_,_,_,_=>aVf
 |8,0,1,_,_,_,_=>aTs
 |8,1,0,_,_,_,_=>bBO
 |8,1,1,_,_,_,_=>aZu
 |9,0,0,_,_,_,_=>aZE
 |9,0,1,_,_,_,_=>a2X
 |9,1,0,_,_,_,_=>aQt
 |9,1,1,_,_,_,_=>a7p
 |10,0,0,_,_,_,_=>bD9
 |10,0,1,_,_,_,_=>a9O
 |10,1,0,_,_,_,_=>a0n
 |10,1,1,_,_,_,_=>a4O
 |11,0,0,_,_,_,_=>a0l
 |11,0,1,_,_,_,_=>a5M
 |11,1,0,_,_,_,_=>bEc
 |11,1,1,_,_,_,_=>bB5
 |12,0,0,_,_,_,_=>bA0
 |12,0,1,_,_,_,_=>a2q
 |12,1,0,_,_,_,_=>aTX
 |12,1,1,_,_,_,_=>aYx
 |13,0,0,_,_,_,_=>bA7
 |13,0,1,_,_,_,_=>aXN
 |13,1,0,_,_,_,_=>aPS
 |13,1,1,_,_,_,_=>aX5
 |14,0,0,_,_,_,_=>aZv
 |14,0,1,_,_,_,_=>bB9
 |14,1,0,_,_,_,_=>bBL
 |14,1,1,_,_,_,_=>aPi
 |15,0,0,_,_,_,_=>a6B
 |15,0,1,_,_,_,_=>aWc
 |15,1,0,_,_,_,_=>bAF
 |15,1,1,_,_,_,_=>bDj
 |16,0,0,_,_,_,_=>a9F
 |16,0,1,_,_,_,_=>aR7
 |16,1,0,_,_,_,_=>aQw
 |16,1,1,_,_,_,_=>a0u
 |17,0,0,_,_,_,_=>a7y
 |17,0,1,_,_,_,_=>aVZ
 |17,1,0,_,_,_,_=>bDM
 |17,1,1,_,_,_,_=>a5e
 |17,2,0,_,_,_,_=>bDa
 |17,2,1,_,_,_,_=>a1u
 |18,0,0,_,_,_,_=>a2D
 |18,0,1,_,_,_,_=>aSm
 |18,1,0,_,_,_,_=>aTY
 |18,1,1,_,_,_,_=>a4o
 |18,2,0,_,_,_,_=>aPc
 |18,2,1,_,_,_,_=>bCX
 |19,0,0,_,_,_,_=>a1y
 |19,0,1,_,_,_,_=>a06
 |19,1,0,_,_,_,_=>bAk
 |19,1,1,_,_,_,_=>a8p
 |19,2,0,_,_,_,_=>bBi
 |19,2,1,_,_,_,_=>a8v
 |20,0,0,_,_,_,_=>a7H
 |20,0,1,_,_,_,_=>aOX
 |20,1,0,_,_,_,_=>aS1
 |20,1,1,_,_,_,_=>aUH
 |20,2,0,_,_,_,_=>aQ7
 |20,2,1,_,_,_,_=>aXc
 |1,l+1,_,_,_,h,_=>absurd h (by have:aO 1=0:=rfl;omega)
 |2,l+1,_,_,_,h,_=>absurd h (by have:aO 2=0:=rfl;omega)
 |3,l+1,_,_,_,h,_=>absurd h (by have:aO 3=0:=rfl;omega)
 |4,l+1,_,_,_,h,_=>absurd h (by have:aO 4=0:=rfl;omega)
 |5,l+2,_,_,_,h,_=>absurd h (by have:aO 5=1:=rfl;omega)
 |6,l+2,_,_,_,h,_=>absurd h (by have:aO 6=1:=rfl;omega)
 |7,l+2,_,_,_,h,_=>absurd h (by have:aO 7=1:=rfl;omega)
 |8,l+2,_,_,_,h,_=>absurd h (by have:aO 8=1:=rfl;omega)
 |9,l+2,_,_,_,h,_=>absurd h (by have:aO 9=1:=rfl;omega)
 |10,l+2,_,_,_,h,_=>absurd h (by have:aO 10=1:=rfl;omega)
 |11,l+2,_,_,_,h,_=>absurd h (by have:aO 11=1:=rfl;omega)
 |12,l+2,_,_,_,h,_=>absurd h (by have:aO 12=1:=rfl;omega)
 |13,l+2,_,_,_,h,_=>absurd h (by have:aO 13=1:=rfl;omega)
 |14,l+2,_,_,_,h,_=>absurd h (by have:aO 14=1:=rfl;omega)
 |15,l+2,_,_,_,h,_=>absurd h (by have:aO 15=1:=rfl;omega)
 |16,l+2,_,_,_,h,_=>absurd h (by have:aO 16=1:=rfl;omega)
 |17,l+3,_,_,_,h,_=>absurd h (by have:aO 17=2:=rfl;omega)
 |18,l+3,_,_,_,h,_=>absurd h (by have:aO 18=2:=rfl;omega)
 |19,l+3,_,_,_,h,_=>absurd h (by have:aO 19=2:=rfl;omega)
 |20,l+3,_,_,_,h,_=>absurd h (by have:aO 20=2:=rfl;omega)
 |_,_,v+2,_,_,_,h=>absurd h (by omega)
 |n+21,_,_,_,h,_,_=>absurd h (by omega)
 |0,_,_,h,_,_,_=>absurd h (by omega)
theorem aWY:∀n l,1≤n->n≤20->l<aO n->RF n l
 |1,l+0,_,_,h=>absurd h (by have:aO 1=0:=rfl;omega)
 |2,l+0,_,_,h=>absurd h (by have:aO 2=0:=rfl;omega)
 |3,l+0,_,_,h=>absurd h (by have:aO 3=0:=rfl;omega)
 |4,l+0,_,_,h=>absurd h (by have:aO 4=0:=rfl;omega)
 |5,0,_,_,_=>aVP
 |5,l+1,_,_,h=>absurd h (by have:aO 5=1:=rfl;omega)
 |6,0,_,_,_=>aP3
 |6,l+1,_,_,h=>absurd h (by have:aO 6=1:=rfl;omega)
 |7,0,_,_,_=>a2f
 |7,l+1,_,_,h=>absurd h (by have:aO 7=1:=rfl;omega)
 |8,0,_,_,_=>a6K
 |8,l+1,_,_,h=>absurd h (by have:aO 8=1:=rfl;omega)
 |9,0,_,_,_=>a9n
 |9,l+1,_,_,h=>absurd h (by have:aO 9=1:=rfl;omega)
 |10,0,_,_,_=>a93
 |10,l+1,_,_,h=>absurd h (by have:aO 10=1:=rfl;omega)
 |11,0,_,_,_=>a0Y
 |11,l+1,_,_,h=>absurd h (by have:aO 11=1:=rfl;omega)
 |12,0,_,_,_=>aZq
 |12,l+1,_,_,h=>absurd h (by have:aO 12=1:=rfl;omega)
 |13,0,_,_,_=>bCY
 |13,l+1,_,_,h=>absurd h (by have:aO 13=1:=rfl;omega)
 |14,0,_,_,_=>aQZ
 |14,l+1,_,_,h=>absurd h (by have:aO 14=1:=rfl;omega)
 |15,0,_,_,_=>bD2
 |15,l+1,_,_,h=>absurd h (by have:aO 15=1:=rfl;omega)
 |16,0,_,_,_=>aPs
 |16,l+1,_,_,h=>absurd h (by have:aO 16=1:=rfl;omega)
 |17,0,_,_,_=>aVQ
 |17,1,_,_,_=>a0P
 |17,l+2,_,_,h=>absurd h (by have:aO 17=2:=rfl;omega)
 |18,0,_,_,_=>a8t
 |18,1,_,_,_=>a0L
 |18,l+2,_,_,h=>absurd h (by have:aO 18=2:=rfl;omega)
 |19,0,_,_,_=>a19
 |19,1,_,_,_=>bAH
 |19,l+2,_,_,h=>absurd h (by have:aO 19=2:=rfl;omega)
 |20,0,_,_,_=>aUb
 |20,1,_,_,_=>a5a
 |20,l+2,_,_,h=>absurd h (by have:aO 20=2:=rfl;omega)
 |n+21,_,_,h,_=>absurd h (by omega)
 |0,_,h,_,_=>absurd h (by omega)
theorem aRz:∀n l,1≤n->n≤20->l<aO n->RN n l
 |1,l+0,_,_,h=>absurd h (by have:aO 1=0:=rfl;omega)
 |2,l+0,_,_,h=>absurd h (by have:aO 2=0:=rfl;omega)
 |3,l+0,_,_,h=>absurd h (by have:aO 3=0:=rfl;omega)
 |4,l+0,_,_,h=>absurd h (by have:aO 4=0:=rfl;omega)
 |5,0,_,_,_=>a32
 |5,l+1,_,_,h=>absurd h (by have:aO 5=1:=rfl;omega)
 |6,0,_,_,_=>bEd
 |6,l+1,_,_,h=>absurd h (by have:aO 6=1:=rfl;omega)
 |7,0,_,_,_=>a2P
 |7,l+1,_,_,h=>absurd h (by have:aO 7=1:=rfl;omega)
 |8,0,_,_,_=>aVr
 |8,l+1,_,_,h=>absurd h (by have:aO 8=1:=rfl;omega)
 |9,0,_,_,_=>aXl
 |9,l+1,_,_,h=>absurd h (by have:aO 9=1:=rfl;omega)
 |10,0,_,_,_=>a2g
 |10,l+1,_,_,h=>absurd h (by have:aO 10=1:=rfl;omega)
 |11,0,_,_,_=>bAD
 |11,l+1,_,_,h=>absurd h (by have:aO 11=1:=rfl;omega)
 |12,0,_,_,_=>a2t
 |12,l+1,_,_,h=>absurd h (by have:aO 12=1:=rfl;omega)
 |13,0,_,_,_=>aSd
 |13,l+1,_,_,h=>absurd h (by have:aO 13=1:=rfl;omega)
 |14,0,_,_,_=>aRG
 |14,l+1,_,_,h=>absurd h (by have:aO 14=1:=rfl;omega)
 |15,0,_,_,_=>aUu
 |15,l+1,_,_,h=>absurd h (by have:aO 15=1:=rfl;omega)
 |16,0,_,_,_=>a25
 |16,l+1,_,_,h=>absurd h (by have:aO 16=1:=rfl;omega)
 |17,0,_,_,_=>a47
 |17,1,_,_,_=>aR8
 |17,l+2,_,_,h=>absurd h (by have:aO 17=2:=rfl;omega)
 |18,0,_,_,_=>a1J
 |18,1,_,_,_=>bDF
 |18,l+2,_,_,h=>absurd h (by have:aO 18=2:=rfl;omega)
 |19,0,_,_,_=>aSK
 |19,1,_,_,_=>bDx
 |19,l+2,_,_,h=>absurd h (by have:aO 19=2:=rfl;omega)
 |20,0,_,_,_=>a5w
 |20,1,_,_,_=>bBx
 |20,l+2,_,_,h=>absurd h (by have:aO 20=2:=rfl;omega)
 |n+21,_,_,h,_=>absurd h (by omega)
 |0,_,h,_,_=>absurd h (by omega)
theorem aUp:∀n,1≤n->n≤20->RE n
 |1,_,_=>a4u
 |2,_,_=>bDw
 |3,_,_=>bCq
 |4,_,_=>aYX
 |5,_,_=>bCH
 |6,_,_=>aXd
 |7,_,_=>a7F
 |8,_,_=>aRX
 |9,_,_=>bCJ
 |10,_,_=>aXv
 |11,_,_=>bEq
 |12,_,_=>bC7
 |13,_,_=>aXD
 |14,_,_=>bDS
 |15,_,_=>bEf
 |16,_,_=>aVj
 |17,_,_=>aUX
 |18,_,_=>a1v
 |19,_,_=>aTL
 |20,_,_=>a8Z
 |n+21,_,h=>absurd h (by omega)
 |0,h,_=>absurd h (by omega)
