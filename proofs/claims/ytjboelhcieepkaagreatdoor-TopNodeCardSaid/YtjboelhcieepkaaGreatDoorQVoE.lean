/-
  A volume from plain data: the runs of its third loop. (Printed by mkvo.py.)
-/
import Derived.Test.YtjboelhcieepkaaGreatDoorZ18
namespace Go.Proofs.YtjboelhcieepkaaGreatDoor
set_option maxRecDepth 16384
open Go.RowKit
theorem rt_1_0_0:RT 1 0 0:=by intro _ _ _ _ _ _ _ _ _ ;kernel_rfl
theorem rt_1_0_1:RT 1 0 1:=by intro _ _ _ _ _ _ _ _ _ ;kernel_rfl
theorem re_1:RE 1:=by intro _ _ _ _ _ _ _ _ _ ;kernel_rfl
theorem rt_2_0_0:RT 2 0 0:=by intro _ _ _ _ _ _ _ _ _ ;kernel_rfl
theorem rt_2_0_1:RT 2 0 1:=by intro _ _ _ _ _ _ _ _ _ ;kernel_rfl
theorem re_2:RE 2:=by intro _ _ _ _ _ _ _ _ _ ;kernel_rfl
theorem rt_3_0_0:RT 3 0 0:=by intro _ _ _ _ _ _ _ _ _ ;kernel_rfl
theorem rt_3_0_1:RT 3 0 1:=by intro _ _ _ _ _ _ _ _ _ ;kernel_rfl
theorem re_3:RE 3:=by intro _ _ _ _ _ _ _ _ _ ;kernel_rfl
theorem rt_4_0_0:RT 4 0 0:=by intro _ _ _ _ _ _ _ _ _ ;kernel_rfl
theorem rt_4_0_1:RT 4 0 1:=by intro _ _ _ _ _ _ _ _ _ ;kernel_rfl
theorem re_4:RE 4:=by intro _ _ _ _ _ _ _ _ _ ;kernel_rfl
theorem rt_5_0_0:RT 5 0 0:=by intro _ _ _ _ _ _ _ _ _ ;kernel_rfl
theorem rt_5_0_1:RT 5 0 1:=by intro _ _ _ _ _ _ _ _ _ ;kernel_rfl
theorem rf_5_0:RF 5 0:=by intro _ _ _ _ _ _ _ _ _ ;kernel_rfl
theorem rn_5_0:RN 5 0:=by intro _ _ _ _ _ _ _ _ _ ;kernel_rfl
theorem rt_5_1_0:RT 5 1 0:=by intro _ _ _ _ _ _ _ _ _ ;kernel_rfl
theorem rt_5_1_1:RT 5 1 1:=by intro _ _ _ _ _ _ _ _ _ ;kernel_rfl
theorem re_5:RE 5:=by intro _ _ _ _ _ _ _ _ _ ;kernel_rfl
theorem rt_6_0_0:RT 6 0 0:=by intro _ _ _ _ _ _ _ _ _ ;kernel_rfl
theorem rt_6_0_1:RT 6 0 1:=by intro _ _ _ _ _ _ _ _ _ ;kernel_rfl
theorem rf_6_0:RF 6 0:=by intro _ _ _ _ _ _ _ _ _ ;kernel_rfl
theorem rn_6_0:RN 6 0:=by intro _ _ _ _ _ _ _ _ _ ;kernel_rfl
theorem rt_6_1_0:RT 6 1 0:=by intro _ _ _ _ _ _ _ _ _ ;kernel_rfl
theorem rt_6_1_1:RT 6 1 1:=by intro _ _ _ _ _ _ _ _ _ ;kernel_rfl
theorem re_6:RE 6:=by intro _ _ _ _ _ _ _ _ _ ;kernel_rfl
theorem rt_7_0_0:RT 7 0 0:=by intro _ _ _ _ _ _ _ _ _ ;kernel_rfl
theorem rt_7_0_1:RT 7 0 1:=by intro _ _ _ _ _ _ _ _ _ ;kernel_rfl
theorem rf_7_0:RF 7 0:=by intro _ _ _ _ _ _ _ _ _ ;kernel_rfl
theorem rn_7_0:RN 7 0:=by intro _ _ _ _ _ _ _ _ _ ;kernel_rfl
theorem rt_7_1_0:RT 7 1 0:=by intro _ _ _ _ _ _ _ _ _ ;kernel_rfl
theorem rt_7_1_1:RT 7 1 1:=by intro _ _ _ _ _ _ _ _ _ ;kernel_rfl
theorem re_7:RE 7:=by intro _ _ _ _ _ _ _ _ _ ;kernel_rfl
theorem rt_8_0_0:RT 8 0 0:=by intro _ _ _ _ _ _ _ _ _ ;kernel_rfl
theorem rt_8_0_1:RT 8 0 1:=by intro _ _ _ _ _ _ _ _ _ ;kernel_rfl
theorem rf_8_0:RF 8 0:=by intro _ _ _ _ _ _ _ _ _ ;kernel_rfl
theorem rn_8_0:RN 8 0:=by intro _ _ _ _ _ _ _ _ _ ;kernel_rfl
theorem rt_8_1_0:RT 8 1 0:=by intro _ _ _ _ _ _ _ _ _ ;kernel_rfl
theorem rt_8_1_1:RT 8 1 1:=by intro _ _ _ _ _ _ _ _ _ ;kernel_rfl
theorem re_8:RE 8:=by intro _ _ _ _ _ _ _ _ _ ;kernel_rfl
theorem rt_9_0_0:RT 9 0 0:=by intro _ _ _ _ _ _ _ _ _ ;kernel_rfl
theorem rt_9_0_1:RT 9 0 1:=by intro _ _ _ _ _ _ _ _ _ ;kernel_rfl
theorem rf_9_0:RF 9 0:=by intro _ _ _ _ _ _ _ _ _ ;kernel_rfl
theorem rn_9_0:RN 9 0:=by intro _ _ _ _ _ _ _ _ _ ;kernel_rfl
theorem rt_9_1_0:RT 9 1 0:=by intro _ _ _ _ _ _ _ _ _ ;kernel_rfl
theorem rt_9_1_1:RT 9 1 1:=by intro _ _ _ _ _ _ _ _ _ ;kernel_rfl
theorem re_9:RE 9:=by intro _ _ _ _ _ _ _ _ _ ;kernel_rfl
theorem rt_10_0_0:RT 10 0 0:=by intro _ _ _ _ _ _ _ _ _ ;kernel_rfl
theorem rt_10_0_1:RT 10 0 1:=by intro _ _ _ _ _ _ _ _ _ ;kernel_rfl
theorem rf_10_0:RF 10 0:=by intro _ _ _ _ _ _ _ _ _ ;kernel_rfl
theorem rn_10_0:RN 10 0:=by intro _ _ _ _ _ _ _ _ _ ;kernel_rfl
theorem rt_10_1_0:RT 10 1 0:=by intro _ _ _ _ _ _ _ _ _ ;kernel_rfl
theorem rt_10_1_1:RT 10 1 1:=by intro _ _ _ _ _ _ _ _ _ ;kernel_rfl
theorem re_10:RE 10:=by intro _ _ _ _ _ _ _ _ _ ;kernel_rfl
theorem rt_11_0_0:RT 11 0 0:=by intro _ _ _ _ _ _ _ _ _ ;kernel_rfl
theorem rt_11_0_1:RT 11 0 1:=by intro _ _ _ _ _ _ _ _ _ ;kernel_rfl
theorem rf_11_0:RF 11 0:=by intro _ _ _ _ _ _ _ _ _ ;kernel_rfl
theorem rn_11_0:RN 11 0:=by intro _ _ _ _ _ _ _ _ _ ;kernel_rfl
theorem rt_11_1_0:RT 11 1 0:=by intro _ _ _ _ _ _ _ _ _ ;kernel_rfl
theorem rt_11_1_1:RT 11 1 1:=by intro _ _ _ _ _ _ _ _ _ ;kernel_rfl
theorem re_11:RE 11:=by intro _ _ _ _ _ _ _ _ _ ;kernel_rfl
theorem rt_12_0_0:RT 12 0 0:=by intro _ _ _ _ _ _ _ _ _ ;kernel_rfl
theorem rt_12_0_1:RT 12 0 1:=by intro _ _ _ _ _ _ _ _ _ ;kernel_rfl
theorem rf_12_0:RF 12 0:=by intro _ _ _ _ _ _ _ _ _ ;kernel_rfl
theorem rn_12_0:RN 12 0:=by intro _ _ _ _ _ _ _ _ _ ;kernel_rfl
theorem rt_12_1_0:RT 12 1 0:=by intro _ _ _ _ _ _ _ _ _ ;kernel_rfl
theorem rt_12_1_1:RT 12 1 1:=by intro _ _ _ _ _ _ _ _ _ ;kernel_rfl
theorem re_12:RE 12:=by intro _ _ _ _ _ _ _ _ _ ;kernel_rfl
theorem rt_13_0_0:RT 13 0 0:=by intro _ _ _ _ _ _ _ _ _ ;kernel_rfl
theorem rt_13_0_1:RT 13 0 1:=by intro _ _ _ _ _ _ _ _ _ ;kernel_rfl
theorem rf_13_0:RF 13 0:=by intro _ _ _ _ _ _ _ _ _ ;kernel_rfl
theorem rn_13_0:RN 13 0:=by intro _ _ _ _ _ _ _ _ _ ;kernel_rfl
theorem rt_13_1_0:RT 13 1 0:=by intro _ _ _ _ _ _ _ _ _ ;kernel_rfl
theorem rt_13_1_1:RT 13 1 1:=by intro _ _ _ _ _ _ _ _ _ ;kernel_rfl
theorem re_13:RE 13:=by intro _ _ _ _ _ _ _ _ _ ;kernel_rfl
theorem rt_14_0_0:RT 14 0 0:=by intro _ _ _ _ _ _ _ _ _ ;kernel_rfl
theorem rt_14_0_1:RT 14 0 1:=by intro _ _ _ _ _ _ _ _ _ ;kernel_rfl
theorem rf_14_0:RF 14 0:=by intro _ _ _ _ _ _ _ _ _ ;kernel_rfl
theorem rn_14_0:RN 14 0:=by intro _ _ _ _ _ _ _ _ _ ;kernel_rfl
theorem rt_14_1_0:RT 14 1 0:=by intro _ _ _ _ _ _ _ _ _ ;kernel_rfl
theorem rt_14_1_1:RT 14 1 1:=by intro _ _ _ _ _ _ _ _ _ ;kernel_rfl
theorem re_14:RE 14:=by intro _ _ _ _ _ _ _ _ _ ;kernel_rfl
theorem rt_15_0_0:RT 15 0 0:=by intro _ _ _ _ _ _ _ _ _ ;kernel_rfl
theorem rt_15_0_1:RT 15 0 1:=by intro _ _ _ _ _ _ _ _ _ ;kernel_rfl
theorem rf_15_0:RF 15 0:=by intro _ _ _ _ _ _ _ _ _ ;kernel_rfl
theorem rn_15_0:RN 15 0:=by intro _ _ _ _ _ _ _ _ _ ;kernel_rfl
theorem rt_15_1_0:RT 15 1 0:=by intro _ _ _ _ _ _ _ _ _ ;kernel_rfl
theorem rt_15_1_1:RT 15 1 1:=by intro _ _ _ _ _ _ _ _ _ ;kernel_rfl
theorem re_15:RE 15:=by intro _ _ _ _ _ _ _ _ _ ;kernel_rfl
theorem rt_16_0_0:RT 16 0 0:=by intro _ _ _ _ _ _ _ _ _ ;kernel_rfl
theorem rt_16_0_1:RT 16 0 1:=by intro _ _ _ _ _ _ _ _ _ ;kernel_rfl
theorem rf_16_0:RF 16 0:=by intro _ _ _ _ _ _ _ _ _ ;kernel_rfl
theorem rn_16_0:RN 16 0:=by intro _ _ _ _ _ _ _ _ _ ;kernel_rfl
theorem rt_16_1_0:RT 16 1 0:=by intro _ _ _ _ _ _ _ _ _ ;kernel_rfl
theorem rt_16_1_1:RT 16 1 1:=by intro _ _ _ _ _ _ _ _ _ ;kernel_rfl
theorem re_16:RE 16:=by intro _ _ _ _ _ _ _ _ _ ;kernel_rfl
theorem rt_17_0_0:RT 17 0 0:=by intro _ _ _ _ _ _ _ _ _ ;kernel_rfl
theorem rt_17_0_1:RT 17 0 1:=by intro _ _ _ _ _ _ _ _ _ ;kernel_rfl
theorem rf_17_0:RF 17 0:=by intro _ _ _ _ _ _ _ _ _ ;kernel_rfl
theorem rn_17_0:RN 17 0:=by intro _ _ _ _ _ _ _ _ _ ;kernel_rfl
theorem rt_17_1_0:RT 17 1 0:=by intro _ _ _ _ _ _ _ _ _ ;kernel_rfl
theorem rt_17_1_1:RT 17 1 1:=by intro _ _ _ _ _ _ _ _ _ ;kernel_rfl
theorem rf_17_1:RF 17 1:=by intro _ _ _ _ _ _ _ _ _ ;kernel_rfl
theorem rn_17_1:RN 17 1:=by intro _ _ _ _ _ _ _ _ _ ;kernel_rfl
theorem rt_17_2_0:RT 17 2 0:=by intro _ _ _ _ _ _ _ _ _ ;kernel_rfl
theorem rt_17_2_1:RT 17 2 1:=by intro _ _ _ _ _ _ _ _ _ ;kernel_rfl
theorem re_17:RE 17:=by intro _ _ _ _ _ _ _ _ _ ;kernel_rfl
theorem rt_18_0_0:RT 18 0 0:=by intro _ _ _ _ _ _ _ _ _ ;kernel_rfl
theorem rt_18_0_1:RT 18 0 1:=by intro _ _ _ _ _ _ _ _ _ ;kernel_rfl
theorem rf_18_0:RF 18 0:=by intro _ _ _ _ _ _ _ _ _ ;kernel_rfl
theorem rn_18_0:RN 18 0:=by intro _ _ _ _ _ _ _ _ _ ;kernel_rfl
theorem rt_18_1_0:RT 18 1 0:=by intro _ _ _ _ _ _ _ _ _ ;kernel_rfl
theorem rt_18_1_1:RT 18 1 1:=by intro _ _ _ _ _ _ _ _ _ ;kernel_rfl
theorem rf_18_1:RF 18 1:=by intro _ _ _ _ _ _ _ _ _ ;kernel_rfl
theorem rn_18_1:RN 18 1:=by intro _ _ _ _ _ _ _ _ _ ;kernel_rfl
theorem rt_18_2_0:RT 18 2 0:=by intro _ _ _ _ _ _ _ _ _ ;kernel_rfl
theorem rt_18_2_1:RT 18 2 1:=by intro _ _ _ _ _ _ _ _ _ ;kernel_rfl
theorem re_18:RE 18:=by intro _ _ _ _ _ _ _ _ _ ;kernel_rfl
theorem rt_19_0_0:RT 19 0 0:=by intro _ _ _ _ _ _ _ _ _ ;kernel_rfl
theorem rt_19_0_1:RT 19 0 1:=by intro _ _ _ _ _ _ _ _ _ ;kernel_rfl
theorem rf_19_0:RF 19 0:=by intro _ _ _ _ _ _ _ _ _ ;kernel_rfl
theorem rn_19_0:RN 19 0:=by intro _ _ _ _ _ _ _ _ _ ;kernel_rfl
theorem rt_19_1_0:RT 19 1 0:=by intro _ _ _ _ _ _ _ _ _ ;kernel_rfl
theorem rt_19_1_1:RT 19 1 1:=by intro _ _ _ _ _ _ _ _ _ ;kernel_rfl
theorem rf_19_1:RF 19 1:=by intro _ _ _ _ _ _ _ _ _ ;kernel_rfl
theorem rn_19_1:RN 19 1:=by intro _ _ _ _ _ _ _ _ _ ;kernel_rfl
theorem rt_19_2_0:RT 19 2 0:=by intro _ _ _ _ _ _ _ _ _ ;kernel_rfl
theorem rt_19_2_1:RT 19 2 1:=by intro _ _ _ _ _ _ _ _ _ ;kernel_rfl
theorem re_19:RE 19:=by intro _ _ _ _ _ _ _ _ _ ;kernel_rfl
theorem rt_20_0_0:RT 20 0 0:=by intro _ _ _ _ _ _ _ _ _ ;kernel_rfl
theorem rt_20_0_1:RT 20 0 1:=by intro _ _ _ _ _ _ _ _ _ ;kernel_rfl
theorem rf_20_0:RF 20 0:=by intro _ _ _ _ _ _ _ _ _ ;kernel_rfl
theorem rn_20_0:RN 20 0:=by intro _ _ _ _ _ _ _ _ _ ;kernel_rfl
theorem rt_20_1_0:RT 20 1 0:=by intro _ _ _ _ _ _ _ _ _ ;kernel_rfl
theorem rt_20_1_1:RT 20 1 1:=by intro _ _ _ _ _ _ _ _ _ ;kernel_rfl
theorem rf_20_1:RF 20 1:=by intro _ _ _ _ _ _ _ _ _ ;kernel_rfl
theorem rn_20_1:RN 20 1:=by intro _ _ _ _ _ _ _ _ _ ;kernel_rfl
theorem rt_20_2_0:RT 20 2 0:=by intro _ _ _ _ _ _ _ _ _ ;kernel_rfl
theorem rt_20_2_1:RT 20 2 1:=by intro _ _ _ _ _ _ _ _ _ ;kernel_rfl
theorem re_20:RE 20:=by intro _ _ _ _ _ _ _ _ _ ;kernel_rfl
theorem rt_any:∀n l v,1≤n→n≤20→l≤hgt n→v<2→RT n l v
 |1,0,0,_,_,_,_=>rt_1_0_0
 |1,0,1,_,_,_,_=>rt_1_0_1
 |2,0,0,_,_,_,_=>rt_2_0_0
 |2,0,1,_,_,_,_=>rt_2_0_1
 |3,0,0,_,_,_,_=>rt_3_0_0
 |3,0,1,_,_,_,_=>rt_3_0_1
 |4,0,0,_,_,_,_=>rt_4_0_0
 |4,0,1,_,_,_,_=>rt_4_0_1
 |5,0,0,_,_,_,_=>rt_5_0_0
 |5,0,1,_,_,_,_=>rt_5_0_1
 |5,1,0,_,_,_,_=>rt_5_1_0
 |5,1,1,_,_,_,_=>rt_5_1_1
 |6,0,0,_,_,_,_=>rt_6_0_0
 |6,0,1,_,_,_,_=>rt_6_0_1
 |6,1,0,_,_,_,_=>rt_6_1_0
 |6,1,1,_,_,_,_=>rt_6_1_1
 |7,0,0,_,_,_,_=>rt_7_0_0
 |7,0,1,_,_,_,_=>rt_7_0_1
 |7,1,0,_,_,_,_=>rt_7_1_0
 |7,1,1,_,_,_,_=>rt_7_1_1
 |8,0,0,_,_,_,_=>rt_8_0_0
 |8,0,1,_,_,_,_=>rt_8_0_1
 |8,1,0,_,_,_,_=>rt_8_1_0
 |8,1,1,_,_,_,_=>rt_8_1_1
 |9,0,0,_,_,_,_=>rt_9_0_0
 |9,0,1,_,_,_,_=>rt_9_0_1
 |9,1,0,_,_,_,_=>rt_9_1_0
 |9,1,1,_,_,_,_=>rt_9_1_1
 |10,0,0,_,_,_,_=>rt_10_0_0
 |10,0,1,_,_,_,_=>rt_10_0_1
 |10,1,0,_,_,_,_=>rt_10_1_0
 |10,1,1,_,_,_,_=>rt_10_1_1
 |11,0,0,_,_,_,_=>rt_11_0_0
 |11,0,1,_,_,_,_=>rt_11_0_1
 |11,1,0,_,_,_,_=>rt_11_1_0
 |11,1,1,_,_,_,_=>rt_11_1_1
 |12,0,0,_,_,_,_=>rt_12_0_0
 |12,0,1,_,_,_,_=>rt_12_0_1
 |12,1,0,_,_,_,_=>rt_12_1_0
 |12,1,1,_,_,_,_=>rt_12_1_1
 |13,0,0,_,_,_,_=>rt_13_0_0
 |13,0,1,_,_,_,_=>rt_13_0_1
 |13,1,0,_,_,_,_=>rt_13_1_0
 |13,1,1,_,_,_,_=>rt_13_1_1
 |14,0,0,_,_,_,_=>rt_14_0_0
 |14,0,1,_,_,_,_=>rt_14_0_1
 |14,1,0,_,_,_,_=>rt_14_1_0
 |14,1,1,_,_,_,_=>rt_14_1_1
 |15,0,0,_,_,_,_=>rt_15_0_0
 |15,0,1,_,_,_,_=>rt_15_0_1
 |15,1,0,_,_,_,_=>rt_15_1_0
 |15,1,1,_,_,_,_=>rt_15_1_1
 |16,0,0,_,_,_,_=>rt_16_0_0
 |16,0,1,_,_,_,_=>rt_16_0_1
 |16,1,0,_,_,_,_=>rt_16_1_0
 |16,1,1,_,_,_,_=>rt_16_1_1
 |17,0,0,_,_,_,_=>rt_17_0_0
 |17,0,1,_,_,_,_=>rt_17_0_1
 |17,1,0,_,_,_,_=>rt_17_1_0
 |17,1,1,_,_,_,_=>rt_17_1_1
 |17,2,0,_,_,_,_=>rt_17_2_0
 |17,2,1,_,_,_,_=>rt_17_2_1
 |18,0,0,_,_,_,_=>rt_18_0_0
 |18,0,1,_,_,_,_=>rt_18_0_1
 |18,1,0,_,_,_,_=>rt_18_1_0
 |18,1,1,_,_,_,_=>rt_18_1_1
 |18,2,0,_,_,_,_=>rt_18_2_0
 |18,2,1,_,_,_,_=>rt_18_2_1
 |19,0,0,_,_,_,_=>rt_19_0_0
 |19,0,1,_,_,_,_=>rt_19_0_1
 |19,1,0,_,_,_,_=>rt_19_1_0
 |19,1,1,_,_,_,_=>rt_19_1_1
 |19,2,0,_,_,_,_=>rt_19_2_0
 |19,2,1,_,_,_,_=>rt_19_2_1
 |20,0,0,_,_,_,_=>rt_20_0_0
 |20,0,1,_,_,_,_=>rt_20_0_1
 |20,1,0,_,_,_,_=>rt_20_1_0
 |20,1,1,_,_,_,_=>rt_20_1_1
 |20,2,0,_,_,_,_=>rt_20_2_0
 |20,2,1,_,_,_,_=>rt_20_2_1
 |1,l+1,_,_,_,h,_=>absurd h (by have:hgt 1=0:=rfl;omega)
 |2,l+1,_,_,_,h,_=>absurd h (by have:hgt 2=0:=rfl;omega)
 |3,l+1,_,_,_,h,_=>absurd h (by have:hgt 3=0:=rfl;omega)
 |4,l+1,_,_,_,h,_=>absurd h (by have:hgt 4=0:=rfl;omega)
 |5,l+2,_,_,_,h,_=>absurd h (by have:hgt 5=1:=rfl;omega)
 |6,l+2,_,_,_,h,_=>absurd h (by have:hgt 6=1:=rfl;omega)
 |7,l+2,_,_,_,h,_=>absurd h (by have:hgt 7=1:=rfl;omega)
 |8,l+2,_,_,_,h,_=>absurd h (by have:hgt 8=1:=rfl;omega)
 |9,l+2,_,_,_,h,_=>absurd h (by have:hgt 9=1:=rfl;omega)
 |10,l+2,_,_,_,h,_=>absurd h (by have:hgt 10=1:=rfl;omega)
 |11,l+2,_,_,_,h,_=>absurd h (by have:hgt 11=1:=rfl;omega)
 |12,l+2,_,_,_,h,_=>absurd h (by have:hgt 12=1:=rfl;omega)
 |13,l+2,_,_,_,h,_=>absurd h (by have:hgt 13=1:=rfl;omega)
 |14,l+2,_,_,_,h,_=>absurd h (by have:hgt 14=1:=rfl;omega)
 |15,l+2,_,_,_,h,_=>absurd h (by have:hgt 15=1:=rfl;omega)
 |16,l+2,_,_,_,h,_=>absurd h (by have:hgt 16=1:=rfl;omega)
 |17,l+3,_,_,_,h,_=>absurd h (by have:hgt 17=2:=rfl;omega)
 |18,l+3,_,_,_,h,_=>absurd h (by have:hgt 18=2:=rfl;omega)
 |19,l+3,_,_,_,h,_=>absurd h (by have:hgt 19=2:=rfl;omega)
 |20,l+3,_,_,_,h,_=>absurd h (by have:hgt 20=2:=rfl;omega)
 |_,_,v+2,_,_,_,h=>absurd h (by omega)
 |n+21,_,_,_,h,_,_=>absurd h (by omega)
 |0,_,_,h,_,_,_=>absurd h (by omega)
theorem rf_any:∀n l,1≤n→n≤20→l<hgt n→RF n l
 |1,l+0,_,_,h=>absurd h (by have:hgt 1=0:=rfl;omega)
 |2,l+0,_,_,h=>absurd h (by have:hgt 2=0:=rfl;omega)
 |3,l+0,_,_,h=>absurd h (by have:hgt 3=0:=rfl;omega)
 |4,l+0,_,_,h=>absurd h (by have:hgt 4=0:=rfl;omega)
 |5,0,_,_,_=>rf_5_0
 |5,l+1,_,_,h=>absurd h (by have:hgt 5=1:=rfl;omega)
 |6,0,_,_,_=>rf_6_0
 |6,l+1,_,_,h=>absurd h (by have:hgt 6=1:=rfl;omega)
 |7,0,_,_,_=>rf_7_0
 |7,l+1,_,_,h=>absurd h (by have:hgt 7=1:=rfl;omega)
 |8,0,_,_,_=>rf_8_0
 |8,l+1,_,_,h=>absurd h (by have:hgt 8=1:=rfl;omega)
 |9,0,_,_,_=>rf_9_0
 |9,l+1,_,_,h=>absurd h (by have:hgt 9=1:=rfl;omega)
 |10,0,_,_,_=>rf_10_0
 |10,l+1,_,_,h=>absurd h (by have:hgt 10=1:=rfl;omega)
 |11,0,_,_,_=>rf_11_0
 |11,l+1,_,_,h=>absurd h (by have:hgt 11=1:=rfl;omega)
 |12,0,_,_,_=>rf_12_0
 |12,l+1,_,_,h=>absurd h (by have:hgt 12=1:=rfl;omega)
 |13,0,_,_,_=>rf_13_0
 |13,l+1,_,_,h=>absurd h (by have:hgt 13=1:=rfl;omega)
 |14,0,_,_,_=>rf_14_0
 |14,l+1,_,_,h=>absurd h (by have:hgt 14=1:=rfl;omega)
 |15,0,_,_,_=>rf_15_0
 |15,l+1,_,_,h=>absurd h (by have:hgt 15=1:=rfl;omega)
 |16,0,_,_,_=>rf_16_0
 |16,l+1,_,_,h=>absurd h (by have:hgt 16=1:=rfl;omega)
 |17,0,_,_,_=>rf_17_0
 |17,1,_,_,_=>rf_17_1
 |17,l+2,_,_,h=>absurd h (by have:hgt 17=2:=rfl;omega)
 |18,0,_,_,_=>rf_18_0
 |18,1,_,_,_=>rf_18_1
 |18,l+2,_,_,h=>absurd h (by have:hgt 18=2:=rfl;omega)
 |19,0,_,_,_=>rf_19_0
 |19,1,_,_,_=>rf_19_1
 |19,l+2,_,_,h=>absurd h (by have:hgt 19=2:=rfl;omega)
 |20,0,_,_,_=>rf_20_0
 |20,1,_,_,_=>rf_20_1
 |20,l+2,_,_,h=>absurd h (by have:hgt 20=2:=rfl;omega)
 |n+21,_,_,h,_=>absurd h (by omega)
 |0,_,h,_,_=>absurd h (by omega)
theorem rn_any:∀n l,1≤n→n≤20→l<hgt n→RN n l
 |1,l+0,_,_,h=>absurd h (by have:hgt 1=0:=rfl;omega)
 |2,l+0,_,_,h=>absurd h (by have:hgt 2=0:=rfl;omega)
 |3,l+0,_,_,h=>absurd h (by have:hgt 3=0:=rfl;omega)
 |4,l+0,_,_,h=>absurd h (by have:hgt 4=0:=rfl;omega)
 |5,0,_,_,_=>rn_5_0
 |5,l+1,_,_,h=>absurd h (by have:hgt 5=1:=rfl;omega)
 |6,0,_,_,_=>rn_6_0
 |6,l+1,_,_,h=>absurd h (by have:hgt 6=1:=rfl;omega)
 |7,0,_,_,_=>rn_7_0
 |7,l+1,_,_,h=>absurd h (by have:hgt 7=1:=rfl;omega)
 |8,0,_,_,_=>rn_8_0
 |8,l+1,_,_,h=>absurd h (by have:hgt 8=1:=rfl;omega)
 |9,0,_,_,_=>rn_9_0
 |9,l+1,_,_,h=>absurd h (by have:hgt 9=1:=rfl;omega)
 |10,0,_,_,_=>rn_10_0
 |10,l+1,_,_,h=>absurd h (by have:hgt 10=1:=rfl;omega)
 |11,0,_,_,_=>rn_11_0
 |11,l+1,_,_,h=>absurd h (by have:hgt 11=1:=rfl;omega)
 |12,0,_,_,_=>rn_12_0
 |12,l+1,_,_,h=>absurd h (by have:hgt 12=1:=rfl;omega)
 |13,0,_,_,_=>rn_13_0
 |13,l+1,_,_,h=>absurd h (by have:hgt 13=1:=rfl;omega)
 |14,0,_,_,_=>rn_14_0
 |14,l+1,_,_,h=>absurd h (by have:hgt 14=1:=rfl;omega)
 |15,0,_,_,_=>rn_15_0
 |15,l+1,_,_,h=>absurd h (by have:hgt 15=1:=rfl;omega)
 |16,0,_,_,_=>rn_16_0
 |16,l+1,_,_,h=>absurd h (by have:hgt 16=1:=rfl;omega)
 |17,0,_,_,_=>rn_17_0
 |17,1,_,_,_=>rn_17_1
 |17,l+2,_,_,h=>absurd h (by have:hgt 17=2:=rfl;omega)
 |18,0,_,_,_=>rn_18_0
 |18,1,_,_,_=>rn_18_1
 |18,l+2,_,_,h=>absurd h (by have:hgt 18=2:=rfl;omega)
 |19,0,_,_,_=>rn_19_0
 |19,1,_,_,_=>rn_19_1
 |19,l+2,_,_,h=>absurd h (by have:hgt 19=2:=rfl;omega)
 |20,0,_,_,_=>rn_20_0
 |20,1,_,_,_=>rn_20_1
 |20,l+2,_,_,h=>absurd h (by have:hgt 20=2:=rfl;omega)
 |n+21,_,_,h,_=>absurd h (by omega)
 |0,_,h,_,_=>absurd h (by omega)
theorem re_any:∀n,1≤n→n≤20→RE n
 |1,_,_=>re_1
 |2,_,_=>re_2
 |3,_,_=>re_3
 |4,_,_=>re_4
 |5,_,_=>re_5
 |6,_,_=>re_6
 |7,_,_=>re_7
 |8,_,_=>re_8
 |9,_,_=>re_9
 |10,_,_=>re_10
 |11,_,_=>re_11
 |12,_,_=>re_12
 |13,_,_=>re_13
 |14,_,_=>re_14
 |15,_,_=>re_15
 |16,_,_=>re_16
 |17,_,_=>re_17
 |18,_,_=>re_18
 |19,_,_=>re_19
 |20,_,_=>re_20
 |n+21,_,h=>absurd h (by omega)
 |0,h,_=>absurd h (by omega)
end Go.Proofs.YtjboelhcieepkaaGreatDoor
