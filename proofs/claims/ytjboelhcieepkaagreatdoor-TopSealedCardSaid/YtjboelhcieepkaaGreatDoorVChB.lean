/- A part of the proof of TopSealed. -/
import Derived.Test.YtjboelhcieepkaaGreatDoorW18
noncomputable section
set_option maxRecDepth 16384
namespace Go.Proofs.YtjboelhcieepkaaGreatDoor
open Go.RowKit
theorem aRd:iW 1:=by intro c R Ee V;kernel_rfl
theorem bAP:iW 2:=by intro c R Ee V;kernel_rfl
theorem a0y:iW 3:=by intro c R Ee V;kernel_rfl
theorem a5W:iW 4:=by intro c R Ee V;kernel_rfl
theorem a5p:iW 5:=by intro c R Ee V;kernel_rfl
theorem aQS:iW 6:=by intro c R Ee V;kernel_rfl
theorem a3h:iW 7:=by intro c R Ee V;kernel_rfl
theorem a84:iW 8:=by intro c R Ee V;kernel_rfl
theorem aZ9:iW 9:=by intro c R Ee V;kernel_rfl
theorem aSE:iW 10:=by intro c R Ee V;kernel_rfl
theorem aSU:iW 11:=by intro c R Ee V;kernel_rfl
theorem aT2:iW 12:=by intro c R Ee V;kernel_rfl
theorem aTr:iW 13:=by intro c R Ee V;kernel_rfl
theorem bDR:iW 14:=by intro c R Ee V;kernel_rfl
theorem aUf:iW 15:=by intro c R Ee V;kernel_rfl
theorem aVG:iW 16:=by intro c R Ee V;kernel_rfl
theorem aYm:iW 17:=by intro c R Ee V;kernel_rfl
theorem a5C:iW 18:=by intro c R Ee V;kernel_rfl
theorem bAL:iW 19:=by intro c R Ee V;kernel_rfl
theorem aVu:iW 20:=by intro c R Ee V;kernel_rfl
theorem aQD:∀n,1≤n->n≤20->iW n
 |1,_,_=>aRd
 |2,_,_=>bAP
 |3,_,_=>a0y
 |4,_,_=>a5W
 |5,_,_=>a5p
 |6,_,_=>aQS
 |7,_,_=>a3h
 |8,_,_=>a84
 |9,_,_=>aZ9
 |10,_,_=>aSE
 |11,_,_=>aSU
 |12,_,_=>aT2
 |13,_,_=>aTr
 |14,_,_=>bDR
 |15,_,_=>aUf
 |16,_,_=>aVG
 |17,_,_=>aYm
 |18,_,_=>a5C
 |19,_,_=>bAL
 |20,_,_=>aVu
 |n+21,_,h=>absurd h (by omega)
 |0,h,_=>absurd h (by omega)
theorem aP5:iT 1:=by intro c R Ee;kernel_rfl
theorem aTn:iT 2:=by intro c R Ee;kernel_rfl
theorem aXG:iT 3:=by intro c R Ee;kernel_rfl
theorem a7P:iT 4:=by intro c R Ee;kernel_rfl
theorem bDP:iT 5:=by intro c R Ee;kernel_rfl
theorem a7x:iT 6:=by intro c R Ee;kernel_rfl
theorem bAQ:iT 7:=by intro c R Ee;kernel_rfl
theorem a3e:iT 8:=by intro c R Ee;kernel_rfl
theorem a9c:iT 9:=by intro c R Ee;kernel_rfl
theorem a0D:iT 10:=by intro c R Ee;kernel_rfl
theorem a0r:iT 11:=by intro c R Ee;kernel_rfl
theorem a6W:iT 12:=by intro c R Ee;kernel_rfl
theorem bCs:iT 13:=by intro c R Ee;kernel_rfl
theorem a02:iT 14:=by intro c R Ee;kernel_rfl
theorem bDE:iT 15:=by intro c R Ee;kernel_rfl
theorem aUm:iT 16:=by intro c R Ee;kernel_rfl
theorem a1V:iT 17:=by intro c R Ee;kernel_rfl
theorem aRe:iT 18:=by intro c R Ee;kernel_rfl
theorem aUB:iT 19:=by intro c R Ee;kernel_rfl
theorem a4q:iT 20:=by intro c R Ee;kernel_rfl
theorem aW3:∀n,1≤n->n≤20->iT n
 |1,_,_=>aP5
 |2,_,_=>aTn
 |3,_,_=>aXG
 |4,_,_=>a7P
 |5,_,_=>bDP
 |6,_,_=>a7x
 |7,_,_=>bAQ
 |8,_,_=>a3e
 |9,_,_=>a9c
 |10,_,_=>a0D
 |11,_,_=>a0r
 |12,_,_=>a6W
 |13,_,_=>bCs
 |14,_,_=>a02
 |15,_,_=>bDE
 |16,_,_=>aUm
 |17,_,_=>a1V
 |18,_,_=>aRe
 |19,_,_=>aUB
 |20,_,_=>a4q
 |n+21,_,h=>absurd h (by omega)
 |0,h,_=>absurd h (by omega)
theorem a6D:gZ 1:=by intro c R Ee;kernel_rfl
theorem a6Y:gZ 2:=by intro c R Ee;kernel_rfl
theorem a4s:gZ 3:=by intro c R Ee;kernel_rfl
theorem aS6:gZ 4:=by intro c R Ee;kernel_rfl
theorem aOQ:gZ 5:=by intro c R Ee;kernel_rfl
theorem a5g:gZ 6:=by intro c R Ee;kernel_rfl
theorem a61:gZ 7:=by intro c R Ee;kernel_rfl
theorem aWW:gZ 8:=by intro c R Ee;kernel_rfl
theorem aPp:gZ 9:=by intro c R Ee;kernel_rfl
theorem bA6:gZ 10:=by intro c R Ee;kernel_rfl
theorem aRI:gZ 11:=by intro c R Ee;kernel_rfl
theorem bD5:gZ 12:=by intro c R Ee;kernel_rfl
theorem bCQ:gZ 13:=by intro c R Ee;kernel_rfl
theorem bCd:gZ 14:=by intro c R Ee;kernel_rfl
theorem aWz:gZ 15:=by intro c R Ee;kernel_rfl
theorem a7l:gZ 16:=by intro c R Ee;kernel_rfl
theorem aU2:gZ 17:=by intro c R Ee;kernel_rfl
theorem aSy:gZ 18:=by intro c R Ee;kernel_rfl
theorem bCR:gZ 19:=by intro c R Ee;kernel_rfl
theorem aTM:gZ 20:=by intro c R Ee;kernel_rfl
theorem a4a:∀n,1≤n->n≤20->gZ n
 |1,_,_=>a6D
 |2,_,_=>a6Y
 |3,_,_=>a4s
 |4,_,_=>aS6
 |5,_,_=>aOQ
 |6,_,_=>a5g
 |7,_,_=>a61
 |8,_,_=>aWW
 |9,_,_=>aPp
 |10,_,_=>bA6
 |11,_,_=>aRI
 |12,_,_=>bD5
 |13,_,_=>bCQ
 |14,_,_=>bCd
 |15,_,_=>aWz
 |16,_,_=>a7l
 |17,_,_=>aU2
 |18,_,_=>aSy
 |19,_,_=>bCR
 |20,_,_=>aTM
 |n+21,_,h=>absurd h (by omega)
 |0,h,_=>absurd h (by omega)
theorem aTH:iL 1:=λc R Ee=>⟨by kernel_rfl,by kernel_rfl,by kernel_rfl,by kernel_rfl⟩
theorem bBa:iL 2:=λc R Ee=>⟨by kernel_rfl,by kernel_rfl,by kernel_rfl,by kernel_rfl⟩
theorem bDd:iL 3:=λc R Ee=>⟨by kernel_rfl,by kernel_rfl,by kernel_rfl,by kernel_rfl⟩
theorem aTx:iL 4:=λc R Ee=>⟨by kernel_rfl,by kernel_rfl,by kernel_rfl,by kernel_rfl⟩
theorem a2z:iL 5:=λc R Ee=>⟨by kernel_rfl,by kernel_rfl,by kernel_rfl,by kernel_rfl⟩
theorem a0S:iL 6:=λc R Ee=>⟨by kernel_rfl,by kernel_rfl,by kernel_rfl,by kernel_rfl⟩
theorem aTR:iL 7:=λc R Ee=>⟨by kernel_rfl,by kernel_rfl,by kernel_rfl,by kernel_rfl⟩
theorem bEj:iL 8:=λc R Ee=>⟨by kernel_rfl,by kernel_rfl,by kernel_rfl,by kernel_rfl⟩
theorem aXO:iL 9:=λc R Ee=>⟨by kernel_rfl,by kernel_rfl,by kernel_rfl,by kernel_rfl⟩
theorem aZ6:iL 10:=λc R Ee=>⟨by kernel_rfl,by kernel_rfl,by kernel_rfl,by kernel_rfl⟩
theorem aYR:iL 11:=λc R Ee=>⟨by kernel_rfl,by kernel_rfl,by kernel_rfl,by kernel_rfl⟩
theorem aOM:iL 12:=λc R Ee=>⟨by kernel_rfl,by kernel_rfl,by kernel_rfl,by kernel_rfl⟩
theorem a31:iL 13:=λc R Ee=>⟨by kernel_rfl,by kernel_rfl,by kernel_rfl,by kernel_rfl⟩
theorem bDn:iL 14:=λc R Ee=>⟨by kernel_rfl,by kernel_rfl,by kernel_rfl,by kernel_rfl⟩
theorem bD3:iL 15:=λc R Ee=>⟨by kernel_rfl,by kernel_rfl,by kernel_rfl,by kernel_rfl⟩
theorem bB3:iL 16:=λc R Ee=>⟨by kernel_rfl,by kernel_rfl,by kernel_rfl,by kernel_rfl⟩
theorem a5J:iL 17:=λc R Ee=>⟨by kernel_rfl,by kernel_rfl,by kernel_rfl,by kernel_rfl⟩
theorem aQW:iL 18:=λc R Ee=>⟨by kernel_rfl,by kernel_rfl,by kernel_rfl,by kernel_rfl⟩
theorem aQL:iL 19:=λc R Ee=>⟨by kernel_rfl,by kernel_rfl,by kernel_rfl,by kernel_rfl⟩
theorem aWr:iL 20:=λc R Ee=>⟨by kernel_rfl,by kernel_rfl,by kernel_rfl,by kernel_rfl⟩
theorem aCm:∀n,1≤n->n≤20->iL n
 |1,_,_=>aTH
 |2,_,_=>bBa
 |3,_,_=>bDd
 |4,_,_=>aTx
 |5,_,_=>a2z
 |6,_,_=>a0S
 |7,_,_=>aTR
 |8,_,_=>bEj
 |9,_,_=>aXO
 |10,_,_=>aZ6
 |11,_,_=>aYR
 |12,_,_=>aOM
 |13,_,_=>a31
 |14,_,_=>bDn
 |15,_,_=>bD3
 |16,_,_=>bB3
 |17,_,_=>a5J
 |18,_,_=>aQW
 |19,_,_=>aQL
 |20,_,_=>aWr
 |n+21,_,h=>absurd h (by omega)
 |0,h,_=>absurd h (by omega)
theorem aQf:L8 1:=by intro c R Ee;kernel_rfl
theorem aZH:L8 2:=by intro c R Ee;kernel_rfl
theorem a7s:L8 3:=by intro c R Ee;kernel_rfl
theorem a6x:L8 4:=by intro c R Ee;kernel_rfl
theorem aZ5:k9 5:=λc R Ee=>⟨by kernel_rfl,by kernel_rfl,by kernel_rfl⟩
theorem a0z:k9 6:=λc R Ee=>⟨by kernel_rfl,by kernel_rfl,by kernel_rfl⟩
theorem a3r:k9 7:=λc R Ee=>⟨by kernel_rfl,by kernel_rfl,by kernel_rfl⟩
theorem a4h:k9 8:=λc R Ee=>⟨by kernel_rfl,by kernel_rfl,by kernel_rfl⟩
theorem a1m:k9 9:=λc R Ee=>⟨by kernel_rfl,by kernel_rfl,by kernel_rfl⟩
theorem aW5:k9 10:=λc R Ee=>⟨by kernel_rfl,by kernel_rfl,by kernel_rfl⟩
theorem a0c:k9 11:=λc R Ee=>⟨by kernel_rfl,by kernel_rfl,by kernel_rfl⟩
theorem a86:k9 12:=λc R Ee=>⟨by kernel_rfl,by kernel_rfl,by kernel_rfl⟩
theorem a2i:k9 13:=λc R Ee=>⟨by kernel_rfl,by kernel_rfl,by kernel_rfl⟩
theorem a0V:k9 14:=λc R Ee=>⟨by kernel_rfl,by kernel_rfl,by kernel_rfl⟩
theorem aZX:k9 15:=λc R Ee=>⟨by kernel_rfl,by kernel_rfl,by kernel_rfl⟩
theorem a3l:k9 16:=λc R Ee=>⟨by kernel_rfl,by kernel_rfl,by kernel_rfl⟩
theorem bCy:k9 17:=λc R Ee=>⟨by kernel_rfl,by kernel_rfl,by kernel_rfl⟩
theorem a5o:k9 18:=λc R Ee=>⟨by kernel_rfl,by kernel_rfl,by kernel_rfl⟩
theorem aRC:k9 19:=λc R Ee=>⟨by kernel_rfl,by kernel_rfl,by kernel_rfl⟩
theorem a4P:k9 20:=λc R Ee=>⟨by kernel_rfl,by kernel_rfl,by kernel_rfl⟩
theorem a5X:∀n,1≤n->n≤4->L8 n
 |1,_,_=>aQf
 |2,_,_=>aZH
 |3,_,_=>a7s
 |4,_,_=>a6x
 |n+5,_,h=>absurd h (by omega)
 |0,h,_=>absurd h (by omega)
theorem aLO:∀n,5≤n->n≤20->k9 n
 |5,_,_=>aZ5
 |6,_,_=>a0z
 |7,_,_=>a3r
 |8,_,_=>a4h
 |9,_,_=>a1m
 |10,_,_=>aW5
 |11,_,_=>a0c
 |12,_,_=>a86
 |13,_,_=>a2i
 |14,_,_=>a0V
 |15,_,_=>aZX
 |16,_,_=>a3l
 |17,_,_=>bCy
 |18,_,_=>a5o
 |19,_,_=>aRC
 |20,_,_=>a4P
 |n+21,_,h=>absurd h (by omega)
 |0,h,_=>absurd h (by omega)
 |1,h,_=>absurd h (by omega)
 |2,h,_=>absurd h (by omega)
 |3,h,_=>absurd h (by omega)
 |4,h,_=>absurd h (by omega)
