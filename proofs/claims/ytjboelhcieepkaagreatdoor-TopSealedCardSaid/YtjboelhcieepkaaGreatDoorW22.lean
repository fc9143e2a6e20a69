/- A part of the proof of TopSealed. -/
import Derived.Test.YtjboelhcieepkaaGreatDoorVUpF1
import Derived.Test.YtjboelhcieepkaaGreatDoorVUpF2
import Derived.Test.YtjboelhcieepkaaGreatDoorVUpF3
import Derived.Test.YtjboelhcieepkaaGreatDoorVUpF4
noncomputable section
set_option maxRecDepth 16384
namespace Go.Proofs.YtjboelhcieepkaaGreatDoor
open Go.RowKit
theorem aZS:∀n g,1≤n->n≤20->g<(n+3) / 4->cR n g
 |1,0,_,_,_=>a2W
 |2,0,_,_,_=>a8f
 |3,0,_,_,_=>a7o
 |4,0,_,_,_=>a5l
 |5,0,_,_,_=>a4i
 |5,1,_,_,_=>aWi
 |6,0,_,_,_=>aRD
 |6,1,_,_,_=>aPy
 |7,0,_,_,_=>aTI
 |7,1,_,_,_=>a4l
 |8,0,_,_,_=>a7A
 |8,1,_,_,_=>aU3
 |9,0,_,_,_=>a8T
 |9,1,_,_,_=>a95
 |9,2,_,_,_=>aT8
 |10,0,_,_,_=>a2L
 |10,1,_,_,_=>a64
 |10,2,_,_,_=>bBe
 |11,0,_,_,_=>aZm
 |11,1,_,_,_=>a51
 |11,2,_,_,_=>aWC
 |12,0,_,_,_=>aRJ
 |12,1,_,_,_=>a9y
 |12,2,_,_,_=>a7D
 |13,0,_,_,_=>a9i
 |13,1,_,_,_=>bBQ
 |13,2,_,_,_=>a9E
 |13,3,_,_,_=>aVI
 |14,0,_,_,_=>bBW
 |14,1,_,_,_=>a9X
 |14,2,_,_,_=>aQi
 |14,3,_,_,_=>aPm
 |15,0,_,_,_=>aT9
 |15,1,_,_,_=>aZP
 |15,2,_,_,_=>a65
 |15,3,_,_,_=>a2b
 |16,0,_,_,_=>bAm
 |16,1,_,_,_=>aON
 |16,2,_,_,_=>aZi
 |16,3,_,_,_=>bDG
 |17,0,_,_,_=>aPE
 |17,1,_,_,_=>a5D
 |17,2,_,_,_=>a3L
 |17,3,_,_,_=>a9B
 |17,4,_,_,_=>aRl
 |18,0,_,_,_=>bDu
 |18,1,_,_,_=>bAX
 |18,2,_,_,_=>bAJ
 |18,3,_,_,_=>aUa
 |18,4,_,_,_=>bAV
 |19,0,_,_,_=>aRw
 |19,1,_,_,_=>aWF
 |19,2,_,_,_=>a5Q
 |19,3,_,_,_=>aZy
 |19,4,_,_,_=>aWG
 |20,0,_,_,_=>a6F
 |20,1,_,_,_=>aWL
 |20,2,_,_,_=>aUW
 |20,3,_,_,_=>a1G
 |20,4,_,_,_=>bAE
 |1,g+1,_,_,h=>absurd h (by omega)
 |2,g+1,_,_,h=>absurd h (by omega)
 |3,g+1,_,_,h=>absurd h (by omega)
 |4,g+1,_,_,h=>absurd h (by omega)
 |5,g+2,_,_,h=>absurd h (by omega)
 |6,g+2,_,_,h=>absurd h (by omega)
 |7,g+2,_,_,h=>absurd h (by omega)
 |8,g+2,_,_,h=>absurd h (by omega)
 |9,g+3,_,_,h=>absurd h (by omega)
 |10,g+3,_,_,h=>absurd h (by omega)
 |11,g+3,_,_,h=>absurd h (by omega)
 |12,g+3,_,_,h=>absurd h (by omega)
 |13,g+4,_,_,h=>absurd h (by omega)
 |14,g+4,_,_,h=>absurd h (by omega)
 |15,g+4,_,_,h=>absurd h (by omega)
 |16,g+4,_,_,h=>absurd h (by omega)
 |17,g+5,_,_,h=>absurd h (by omega)
 |18,g+5,_,_,h=>absurd h (by omega)
 |19,g+5,_,_,h=>absurd h (by omega)
 |20,g+5,_,_,h=>absurd h (by omega)
 |n+21,_,_,h,_=>absurd h (by omega)
 |0,_,h,_,_=>absurd h (by omega)
