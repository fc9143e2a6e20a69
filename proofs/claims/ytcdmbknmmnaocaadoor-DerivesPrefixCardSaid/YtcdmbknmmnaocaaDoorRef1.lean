/-
  The walks of caissonref01: Put, Put32, Put64, Get.
-/
import Derived.Test.YtcdmbknmmnaocaaDoorWords
namespace Go.Proofs.YtcdmbknmmnaocaaDoor
open Go.RowKit Sh

theorem pow256 (k : Nat) : 2 ^ (8 * k) = 256 ^ k := by rw [Nat.pow_mul]
theorem div_step (v k : Nat) : v / 2 ^ (8 * k) / 256 = v / 2 ^ (8 * (k + 1)) := by
  rw [Nat.div_div_eq_div_mul, show 8 * (k + 1) = 8 * k + 8 from by omega, Nat.pow_add]

set_option maxHeartbeats 400000 in
theorem rput_any (v n : Nat) (hv : v < 18446744073709551616) (h1 : 1 ≤ n) (hn : n ≤ 8) (w : World) :
    Calls Tryd.prog 37 #[.int .u64 (v : Int), .int .i64 (n : Int)] w fun e w' => ∃ r, e = .returned r ∧ NewBytes w r (beB v n) w' := by
  have hmk := make_bytes n (by omega)
  have hm : Blk (w.alloc (.cells (va .u8 (List.replicate n 0)) 5)) w.heap.size 5 (va .u8 (putl v n 0)) := by rw [putl_zero]; exact Blk.new _ _ _
  have hm' := Lib.hid hm
  clear hm
  have hn' : (n : Int) ≤ 8 := by omega
  have h1' : 1 ≤ (n : Int) := by omega
  go_enter Tryd.func37, Tryd.ntmps37
  go_wp2
  have hm := hm'.out
  have hb0 : Below w.heap.size w (w.alloc (.cells (va .u8 (List.replicate n 0)) 5)) := (Below.refl _ _).alloc (Nat.le_refl _) _
  generalize w.alloc (.cells (va .u8 (List.replicate n 0)) 5) = w1 at *
  clear hm' hmk
  go_loopw [0, 6] (fun x s wr => ∃ k : Nat, k ≤ n ∧ x = .int .u64 ((v / 2 ^ (8 * k) : Nat) : Int) ∧ s = .int .i64 ((n : Int) - 1 - (k : Int)) ∧ Blk wr w.heap.size 5 (va .u8 (putl v n k)) ∧ Below w.heap.size w wr) (fun _ s _ => (intOf s + 1).toNat)
  case atStart => exact ⟨0, by omega, by simp, by simp, hm, hb0⟩
  case round =>
    obtain ⟨k, hk, rfl, rfl, hblk, hb⟩ := hrel
    clear hm hb0
    by_cases hlt : k < n
    · have hge : 0 ≤ (n : Int) - 1 - (k : Int) := by omega
      have hc := hblk.num (i := n - 1 - k) (by rw [putl_len]; omega)
      have hf := hblk.frozen (n - 1 - k)
      have hidx : ((n : Int) - 1 - (k : Int)).toNat = n - 1 - k := by omega
      have hset := hblk.setNum (n - 1 - k) (v / 2 ^ (8 * k) % 256)
      rw [putl_step v n k hlt] at hset
      have hset' := Lib.hid hset
      have hst := Lib.hid (div_step v k)
      have hvk : v / 2 ^ (8 * k) < 18446744073709551616 := Nat.lt_of_le_of_lt (Nat.div_le_self _ _) hv
      have hltn : (n : Int) - 1 - (k : Int) < (n : Int) := by omega
      clear hset
      generalize (putl v n k).getD (n - 1 - k) 0 = u at *
      generalize hx : v / 2 ^ (8 * k) = x at *
      go_wp2
      go_roundw
      case rel =>
        have e : (x : Int) % 256 = ((x % 256 : Nat) : Int) := by omega
        refine ⟨k + 1, by omega, ?_, by go_num, by rw [e]; exact hset'.out, hb.setCell (Nat.le_refl _) _⟩
        rw [← hst.out]; simp
      case measure => simp [intOf]; omega
    · obtain rfl : n = k := by omega
      go_wp2
      go_ret
      refine ⟨.slice (some ⟨w.heap.size, 0, none⟩) n n, rfl, w.heap.size, ?_, ?_, Nat.le_refl _, hb⟩
      · rw [beB_len]
      · rw [← putl_all]; exact hblk

set_option maxHeartbeats 400000 in
theorem rput32_any (v : Nat) (hv : v < 4294967296) (w : World) :
    Calls Tryd.prog 30 #[.int .u32 (v : Int)] w fun e w' => ∃ r, e = .returned r ∧ NewBytes w r (beB v 4) w' := by
  go_enter Tryd.func30, Tryd.ntmps30
  go_wp2_with fail
  refine (rput_any v 4 (by omega) (by omega) (by omega) _).mono ?_
  rintro e w1 ⟨r, rfl, hr⟩
  go_wp2
  go_ret
  exact ⟨r, rfl, hr⟩

set_option maxHeartbeats 400000 in
theorem rput64_any (v : Nat) (hv : v < 18446744073709551616) (w : World) :
    Calls Tryd.prog 27 #[.int .u64 (v : Int)] w fun e w' => ∃ r, e = .returned r ∧ NewBytes w r (beB v 8) w' := by
  go_enter Tryd.func27, Tryd.ntmps27
  go_wp2_with fail
  refine (rput_any v 8 hv (by omega) (by omega) _).mono ?_
  rintro e w1 ⟨r, rfl, hr⟩
  go_wp2
  go_ret
  exact ⟨r, rfl, hr⟩

set_option maxHeartbeats 400000 in
theorem rget_any (A : Option Addr) (n c B : Nat) (l : List Nat) (z : Int) (hz : z = (n : Int)) (hn : n ≤ 8) (hl : Byt l) (w : World) (hr : Reads w B 1 A n (nv .u8 l)) :
    Calls Tryd.prog 38 #[.slice A n c, .int .i64 (z : Int)] w fun e w' => e = .returned (.tuple #[.int .u64 (beV l : Nat), .int .i64 0]) ∧ w = w' := by
  subst hz
  have hlen := hr.len
  go_enter Tryd.func38, Tryd.ntmps38
  go_wp2
  go_loop [6, 7] (fun v s => ∃ k : Nat, k ≤ n ∧ s = .int .i64 (k : Int) ∧ v = .int .u64 (beV (l.take k) : Nat)) (fun _ s => n - (intOf s).toNat)
  case atStart => exact ⟨0, by omega, rfl, rfl⟩
  case round =>
    obtain ⟨k, hk, rfl, rfl⟩ := hrel
    have hb := beV_lt (l.take k) (hl.take k)
    by_cases hlt : k < n
    · have hlt' : (k : Int) < (n : Int) := by omega
      obtain ⟨ad, rfl, hbl, hc⟩ := hr.num hlt
      have hx := hl.get k
      have hstep := take_succ_getD l k (by omega)
      generalize hxk : l.getD k 0 = x at *
      have hval : beV (l.take (k + 1)) = beV (l.take k) * 256 + x := by rw [hstep, beV_snoc]
      have hval' := Lib.hid hval
      have hb2 : beV (l.take k) < 72057594037927936 := by
        refine Nat.lt_of_lt_of_le hb (Nat.pow_le_pow_right (n := 2) (j := 56) (by omega) ?_)
        have := List.length_take_le k l; omega
      clear hval hstep hxk hb
      go_wp2
      go_round
      case rel => exact ⟨k + 1, by omega, by go_num, by rw [hval'.out]; go_num⟩
      case measure => simp [intOf]; omega
    · obtain rfl : n = k := by omega
      go_wp2
      go_ret2
      exact ⟨by rw [List.take_of_length_le (by omega)]; rfl, rfl⟩
end Go.Proofs.YtcdmbknmmnaocaaDoor
