/-
  merkles.Check: the runs. (Printed by mkch.py.)
-/
import Derived.Test.YtjboelhcieepkaaGreatDoorZ20
namespace Go.Proofs.YtjboelhcieepkaaGreatDoor
set_option maxRecDepth 16384
open Go.RowKit
theorem j0_1:J0P 1:=by intro c R Ee V;kernel_rfl
theorem j0_2:J0P 2:=by intro c R Ee V;kernel_rfl
theorem j0_3:J0P 3:=by intro c R Ee V;kernel_rfl
theorem j0_4:J0P 4:=by intro c R Ee V;kernel_rfl
theorem j0_5:J0P 5:=by intro c R Ee V;kernel_rfl
theorem j0_6:J0P 6:=by intro c R Ee V;kernel_rfl
theorem j0_7:J0P 7:=by intro c R Ee V;kernel_rfl
theorem j0_8:J0P 8:=by intro c R Ee V;kernel_rfl
theorem j0_9:J0P 9:=by intro c R Ee V;kernel_rfl
theorem j0_10:J0P 10:=by intro c R Ee V;kernel_rfl
theorem j0_11:J0P 11:=by intro c R Ee V;kernel_rfl
theorem j0_12:J0P 12:=by intro c R Ee V;kernel_rfl
theorem j0_13:J0P 13:=by intro c R Ee V;kernel_rfl
theorem j0_14:J0P 14:=by intro c R Ee V;kernel_rfl
theorem j0_15:J0P 15:=by intro c R Ee V;kernel_rfl
theorem j0_16:J0P 16:=by intro c R Ee V;kernel_rfl
theorem j0_17:J0P 17:=by intro c R Ee V;kernel_rfl
theorem j0_18:J0P 18:=by intro c R Ee V;kernel_rfl
theorem j0_19:J0P 19:=by intro c R Ee V;kernel_rfl
theorem j0_20:J0P 20:=by intro c R Ee V;kernel_rfl
theorem j0_any:∀n,1≤n→n≤20→J0P n
 |1,_,_=>j0_1
 |2,_,_=>j0_2
 |3,_,_=>j0_3
 |4,_,_=>j0_4
 |5,_,_=>j0_5
 |6,_,_=>j0_6
 |7,_,_=>j0_7
 |8,_,_=>j0_8
 |9,_,_=>j0_9
 |10,_,_=>j0_10
 |11,_,_=>j0_11
 |12,_,_=>j0_12
 |13,_,_=>j0_13
 |14,_,_=>j0_14
 |15,_,_=>j0_15
 |16,_,_=>j0_16
 |17,_,_=>j0_17
 |18,_,_=>j0_18
 |19,_,_=>j0_19
 |20,_,_=>j0_20
 |n+21,_,h=>absurd h (by omega)
 |0,h,_=>absurd h (by omega)
theorem j1_1:J1P 1:=by intro c R Ee;kernel_rfl
theorem j1_2:J1P 2:=by intro c R Ee;kernel_rfl
theorem j1_3:J1P 3:=by intro c R Ee;kernel_rfl
theorem j1_4:J1P 4:=by intro c R Ee;kernel_rfl
theorem j1_5:J1P 5:=by intro c R Ee;kernel_rfl
theorem j1_6:J1P 6:=by intro c R Ee;kernel_rfl
theorem j1_7:J1P 7:=by intro c R Ee;kernel_rfl
theorem j1_8:J1P 8:=by intro c R Ee;kernel_rfl
theorem j1_9:J1P 9:=by intro c R Ee;kernel_rfl
theorem j1_10:J1P 10:=by intro c R Ee;kernel_rfl
theorem j1_11:J1P 11:=by intro c R Ee;kernel_rfl
theorem j1_12:J1P 12:=by intro c R Ee;kernel_rfl
theorem j1_13:J1P 13:=by intro c R Ee;kernel_rfl
theorem j1_14:J1P 14:=by intro c R Ee;kernel_rfl
theorem j1_15:J1P 15:=by intro c R Ee;kernel_rfl
theorem j1_16:J1P 16:=by intro c R Ee;kernel_rfl
theorem j1_17:J1P 17:=by intro c R Ee;kernel_rfl
theorem j1_18:J1P 18:=by intro c R Ee;kernel_rfl
theorem j1_19:J1P 19:=by intro c R Ee;kernel_rfl
theorem j1_20:J1P 20:=by intro c R Ee;kernel_rfl
theorem j1_any:∀n,1≤n→n≤20→J1P n
 |1,_,_=>j1_1
 |2,_,_=>j1_2
 |3,_,_=>j1_3
 |4,_,_=>j1_4
 |5,_,_=>j1_5
 |6,_,_=>j1_6
 |7,_,_=>j1_7
 |8,_,_=>j1_8
 |9,_,_=>j1_9
 |10,_,_=>j1_10
 |11,_,_=>j1_11
 |12,_,_=>j1_12
 |13,_,_=>j1_13
 |14,_,_=>j1_14
 |15,_,_=>j1_15
 |16,_,_=>j1_16
 |17,_,_=>j1_17
 |18,_,_=>j1_18
 |19,_,_=>j1_19
 |20,_,_=>j1_20
 |n+21,_,h=>absurd h (by omega)
 |0,h,_=>absurd h (by omega)
theorem va_1:VaP 1:=by intro c R Ee;kernel_rfl
theorem va_2:VaP 2:=by intro c R Ee;kernel_rfl
theorem va_3:VaP 3:=by intro c R Ee;kernel_rfl
theorem va_4:VaP 4:=by intro c R Ee;kernel_rfl
theorem va_5:VaP 5:=by intro c R Ee;kernel_rfl
theorem va_6:VaP 6:=by intro c R Ee;kernel_rfl
theorem va_7:VaP 7:=by intro c R Ee;kernel_rfl
theorem va_8:VaP 8:=by intro c R Ee;kernel_rfl
theorem va_9:VaP 9:=by intro c R Ee;kernel_rfl
theorem va_10:VaP 10:=by intro c R Ee;kernel_rfl
theorem va_11:VaP 11:=by intro c R Ee;kernel_rfl
theorem va_12:VaP 12:=by intro c R Ee;kernel_rfl
theorem va_13:VaP 13:=by intro c R Ee;kernel_rfl
theorem va_14:VaP 14:=by intro c R Ee;kernel_rfl
theorem va_15:VaP 15:=by intro c R Ee;kernel_rfl
theorem va_16:VaP 16:=by intro c R Ee;kernel_rfl
theorem va_17:VaP 17:=by intro c R Ee;kernel_rfl
theorem va_18:VaP 18:=by intro c R Ee;kernel_rfl
theorem va_19:VaP 19:=by intro c R Ee;kernel_rfl
theorem va_20:VaP 20:=by intro c R Ee;kernel_rfl
theorem va_any:∀n,1≤n→n≤20→VaP n
 |1,_,_=>va_1
 |2,_,_=>va_2
 |3,_,_=>va_3
 |4,_,_=>va_4
 |5,_,_=>va_5
 |6,_,_=>va_6
 |7,_,_=>va_7
 |8,_,_=>va_8
 |9,_,_=>va_9
 |10,_,_=>va_10
 |11,_,_=>va_11
 |12,_,_=>va_12
 |13,_,_=>va_13
 |14,_,_=>va_14
 |15,_,_=>va_15
 |16,_,_=>va_16
 |17,_,_=>va_17
 |18,_,_=>va_18
 |19,_,_=>va_19
 |20,_,_=>va_20
 |n+21,_,h=>absurd h (by omega)
 |0,h,_=>absurd h (by omega)
theorem fr_1:FrP 1:=fun c R Ee=>⟨by kernel_rfl,by kernel_rfl,by kernel_rfl,by kernel_rfl⟩
theorem fr_2:FrP 2:=fun c R Ee=>⟨by kernel_rfl,by kernel_rfl,by kernel_rfl,by kernel_rfl⟩
theorem fr_3:FrP 3:=fun c R Ee=>⟨by kernel_rfl,by kernel_rfl,by kernel_rfl,by kernel_rfl⟩
theorem fr_4:FrP 4:=fun c R Ee=>⟨by kernel_rfl,by kernel_rfl,by kernel_rfl,by kernel_rfl⟩
theorem fr_5:FrP 5:=fun c R Ee=>⟨by kernel_rfl,by kernel_rfl,by kernel_rfl,by kernel_rfl⟩
theorem fr_6:FrP 6:=fun c R Ee=>⟨by kernel_rfl,by kernel_rfl,by kernel_rfl,by kernel_rfl⟩
theorem fr_7:FrP 7:=fun c R Ee=>⟨by kernel_rfl,by kernel_rfl,by kernel_rfl,by kernel_rfl⟩
theorem fr_8:FrP 8:=fun c R Ee=>⟨by kernel_rfl,by kernel_rfl,by kernel_rfl,by kernel_rfl⟩
theorem fr_9:FrP 9:=fun c R Ee=>⟨by kernel_rfl,by kernel_rfl,by kernel_rfl,by kernel_rfl⟩
theorem fr_10:FrP 10:=fun c R Ee=>⟨by kernel_rfl,by kernel_rfl,by kernel_rfl,by kernel_rfl⟩
theorem fr_11:FrP 11:=fun c R Ee=>⟨by kernel_rfl,by kernel_rfl,by kernel_rfl,by kernel_rfl⟩
theorem fr_12:FrP 12:=fun c R Ee=>⟨by kernel_rfl,by kernel_rfl,by kernel_rfl,by kernel_rfl⟩
theorem fr_13:FrP 13:=fun c R Ee=>⟨by kernel_rfl,by kernel_rfl,by kernel_rfl,by kernel_rfl⟩
theorem fr_14:FrP 14:=fun c R Ee=>⟨by kernel_rfl,by kernel_rfl,by kernel_rfl,by kernel_rfl⟩
theorem fr_15:FrP 15:=fun c R Ee=>⟨by kernel_rfl,by kernel_rfl,by kernel_rfl,by kernel_rfl⟩
theorem fr_16:FrP 16:=fun c R Ee=>⟨by kernel_rfl,by kernel_rfl,by kernel_rfl,by kernel_rfl⟩
theorem fr_17:FrP 17:=fun c R Ee=>⟨by kernel_rfl,by kernel_rfl,by kernel_rfl,by kernel_rfl⟩
theorem fr_18:FrP 18:=fun c R Ee=>⟨by kernel_rfl,by kernel_rfl,by kernel_rfl,by kernel_rfl⟩
theorem fr_19:FrP 19:=fun c R Ee=>⟨by kernel_rfl,by kernel_rfl,by kernel_rfl,by kernel_rfl⟩
theorem fr_20:FrP 20:=fun c R Ee=>⟨by kernel_rfl,by kernel_rfl,by kernel_rfl,by kernel_rfl⟩
theorem fr_any:∀n,1≤n→n≤20→FrP n
 |1,_,_=>fr_1
 |2,_,_=>fr_2
 |3,_,_=>fr_3
 |4,_,_=>fr_4
 |5,_,_=>fr_5
 |6,_,_=>fr_6
 |7,_,_=>fr_7
 |8,_,_=>fr_8
 |9,_,_=>fr_9
 |10,_,_=>fr_10
 |11,_,_=>fr_11
 |12,_,_=>fr_12
 |13,_,_=>fr_13
 |14,_,_=>fr_14
 |15,_,_=>fr_15
 |16,_,_=>fr_16
 |17,_,_=>fr_17
 |18,_,_=>fr_18
 |19,_,_=>fr_19
 |20,_,_=>fr_20
 |n+21,_,h=>absurd h (by omega)
 |0,h,_=>absurd h (by omega)
theorem ck_1:Ck0 1:=by intro c R Ee;kernel_rfl
theorem ck_2:Ck0 2:=by intro c R Ee;kernel_rfl
theorem ck_3:Ck0 3:=by intro c R Ee;kernel_rfl
theorem ck_4:Ck0 4:=by intro c R Ee;kernel_rfl
theorem ck_5:CkP 5:=fun c R Ee=>⟨by kernel_rfl,by kernel_rfl,by kernel_rfl⟩
theorem ck_6:CkP 6:=fun c R Ee=>⟨by kernel_rfl,by kernel_rfl,by kernel_rfl⟩
theorem ck_7:CkP 7:=fun c R Ee=>⟨by kernel_rfl,by kernel_rfl,by kernel_rfl⟩
theorem ck_8:CkP 8:=fun c R Ee=>⟨by kernel_rfl,by kernel_rfl,by kernel_rfl⟩
theorem ck_9:CkP 9:=fun c R Ee=>⟨by kernel_rfl,by kernel_rfl,by kernel_rfl⟩
theorem ck_10:CkP 10:=fun c R Ee=>⟨by kernel_rfl,by kernel_rfl,by kernel_rfl⟩
theorem ck_11:CkP 11:=fun c R Ee=>⟨by kernel_rfl,by kernel_rfl,by kernel_rfl⟩
theorem ck_12:CkP 12:=fun c R Ee=>⟨by kernel_rfl,by kernel_rfl,by kernel_rfl⟩
theorem ck_13:CkP 13:=fun c R Ee=>⟨by kernel_rfl,by kernel_rfl,by kernel_rfl⟩
theorem ck_14:CkP 14:=fun c R Ee=>⟨by kernel_rfl,by kernel_rfl,by kernel_rfl⟩
theorem ck_15:CkP 15:=fun c R Ee=>⟨by kernel_rfl,by kernel_rfl,by kernel_rfl⟩
theorem ck_16:CkP 16:=fun c R Ee=>⟨by kernel_rfl,by kernel_rfl,by kernel_rfl⟩
theorem ck_17:CkP 17:=fun c R Ee=>⟨by kernel_rfl,by kernel_rfl,by kernel_rfl⟩
theorem ck_18:CkP 18:=fun c R Ee=>⟨by kernel_rfl,by kernel_rfl,by kernel_rfl⟩
theorem ck_19:CkP 19:=fun c R Ee=>⟨by kernel_rfl,by kernel_rfl,by kernel_rfl⟩
theorem ck_20:CkP 20:=fun c R Ee=>⟨by kernel_rfl,by kernel_rfl,by kernel_rfl⟩
theorem ck0_any:∀n,1≤n→n≤4→Ck0 n
 |1,_,_=>ck_1
 |2,_,_=>ck_2
 |3,_,_=>ck_3
 |4,_,_=>ck_4
 |n+5,_,h=>absurd h (by omega)
 |0,h,_=>absurd h (by omega)
theorem ck_any:∀n,5≤n→n≤20→CkP n
 |5,_,_=>ck_5
 |6,_,_=>ck_6
 |7,_,_=>ck_7
 |8,_,_=>ck_8
 |9,_,_=>ck_9
 |10,_,_=>ck_10
 |11,_,_=>ck_11
 |12,_,_=>ck_12
 |13,_,_=>ck_13
 |14,_,_=>ck_14
 |15,_,_=>ck_15
 |16,_,_=>ck_16
 |17,_,_=>ck_17
 |18,_,_=>ck_18
 |19,_,_=>ck_19
 |20,_,_=>ck_20
 |n+21,_,h=>absurd h (by omega)
 |0,h,_=>absurd h (by omega)
 |1,h,_=>absurd h (by omega)
 |2,h,_=>absurd h (by omega)
 |3,h,_=>absurd h (by omega)
 |4,h,_=>absurd h (by omega)
end Go.Proofs.YtjboelhcieepkaaGreatDoor
