/-
  Walks through package words: put, get, Put32, Put64, Get32, Get64, Rot, and math/bits.RotateLeft32.
-/
import Derived.Test.YtcdmbknmmnaocaaDoorMemB
import Derived.Test.YtcdmbknmmnaocaaDoorShPlain
namespace Go.Proofs.YtcdmbknmmnaocaaDoor
open Go.RowKit Sh

/-- a slice value whose n bytes are a new block's -/
def NewBytes (w : World) (v : Value) (l : List Nat) (w' : World) : Prop :=
  ∃ g, v = .slice (some ⟨g, 0, none⟩) l.length l.length ∧ Blk w' g 5 (va .u8 l) ∧ w.heap.size ≤ g ∧ Below w.heap.size w w'

theorem shr_nat (v k : Nat) : (v : Int) / 2 ^ k = ((v / 2 ^ k : Nat) : Int) := by rw [Int.natCast_ediv, Int.natCast_pow]; rfl

set_option maxHeartbeats 400000 in
theorem put_any (v n : Nat) (hn : n ≤ 8) (w : World) :
    Calls Tryd.prog 42 #[.int .u64 (v : Int), .int .i64 (n : Int)] w fun e w' => ∃ r, e = .returned r ∧ NewBytes w r (beB v n) w' := by
  have hmk := make_bytes n (by omega)
  have hm : Blk (w.alloc (.cells (va .u8 (List.replicate n 0)) 5)) w.heap.size 5 (va .u8 (putl v n 0)) := by rw [putl_zero]; exact Blk.new _ _ _
  have hm' := Lib.hid hm
  clear hm
  have hn' : (n : Int) ≤ 8 := by omega
  go_enter Tryd.func42, Tryd.ntmps42
  go_wp2
  have hm := hm'.out
  have hb0 : Below w.heap.size w (w.alloc (.cells (va .u8 (List.replicate n 0)) 5)) := (Below.refl _ _).alloc (Nat.le_refl _) _
  generalize w.alloc (.cells (va .u8 (List.replicate n 0)) 5) = w1 at *
  clear hm' hmk
  go_loopw [10] (fun s wr => ∃ i : Nat, i ≤ n ∧ s = .int .i64 (i : Int) ∧ Blk wr w.heap.size 5 (va .u8 (putl v n i)) ∧ Below w.heap.size w wr) (fun s _ => n - (intOf s).toNat)
  case atStart => exact ⟨0, by omega, rfl, hm, hb0⟩
  case round =>
    obtain ⟨i, hi, rfl, hblk, hb⟩ := hrel
    clear hm hb0
    by_cases hlt : i < n
    · have hlt' : (i : Int) < (n : Int) := by omega
      have hc := hblk.num (i := n - 1 - i) (by rw [putl_len]; omega)
      have hf := hblk.frozen (n - 1 - i)
      have hidx : ((n : Int) - 1 - (i : Int)).toNat = n - 1 - i := by omega
      have h8 : (8 * (i : Int)).toNat = 8 * i := by omega
      have hset := hblk.setNum (n - 1 - i) (v / 2 ^ (8 * i) % 256)
      rw [putl_step v n i hlt] at hset
      have hset' := Lib.hid hset
      clear hset
      generalize (putl v n i).getD (n - 1 - i) 0 = u at *
      go_wp2
      go_roundw
      have e : (v : Int) / 2 ^ (8 * i) % 256 = ((v / 2 ^ (8 * i) % 256 : Nat) : Int) := by rw [shr_nat]; omega
      case rel => exact ⟨i + 1, by omega, by go_num, by rw [e]; exact hset'.out, hb.setCell (Nat.le_refl _) _⟩
      case measure => simp [intOf]; omega
    · obtain rfl : n = i := by omega
      go_wp2
      go_ret
      refine ⟨.slice (some ⟨w.heap.size, 0, none⟩) n n, rfl, w.heap.size, ?_, ?_, Nat.le_refl _, hb⟩
      · rw [beB_len]
      · rw [← putl_all]; exact hblk

set_option maxHeartbeats 400000 in
theorem put32_any (v : Nat) (hv : v < 4294967296) (w : World) :
    Calls Tryd.prog 36 #[.int .u32 (v : Int)] w fun e w' => ∃ r, e = .returned r ∧ NewBytes w r (beB v 4) w' := by
  go_enter Tryd.func36, Tryd.ntmps36
  go_wp2_with fail
  refine (put_any v 4 (by omega) _).mono ?_
  rintro e w1 ⟨r, rfl, hr⟩
  go_wp2
  go_ret
  exact ⟨_, rfl, hr⟩

set_option maxHeartbeats 400000 in
theorem put64_any (v : Nat) (w : World) :
    Calls Tryd.prog 35 #[.int .u64 (v : Int)] w fun e w' => ∃ r, e = .returned r ∧ NewBytes w r (beB v 8) w' := by
  go_enter Tryd.func35, Tryd.ntmps35
  go_wp2_with fail
  refine (put_any v 8 (by omega) _).mono ?_
  rintro e w1 ⟨r, rfl, hr⟩
  go_wp2
  go_ret
  exact ⟨_, rfl, hr⟩

theorem or_step (b x : Nat) (hb : b < 72057594037927936) (hx : x < 256) : bits .or .u64 (IntKind.u64.wrap ((b : Int) * 256)) (IntKind.u64.wrap (x : Int)) = ((b * 256 + x : Nat) : Int) := by
  rw [IntWalk.u64_in _ (by omega), IntWalk.u64_in _ (by omega), show (b : Int) * 256 = ((b * 256 : Nat) : Int) from by omega, u64_or_nat _ _ (by omega) (by omega), or_byte b x hx]

set_option maxHeartbeats 400000 in
theorem get_any (A : Option Addr) (n c z B : Nat) (l : List Nat) (hz : n = z) (hz8 : z ≤ 8) (hl : Byt l) (w : World) (hr : Reads w B 1 A n (nv .u8 l)) :
    Calls Tryd.prog 45 #[.slice A n c, .int .i64 (z : Int)] w fun e w' => e = .returned (.tuple #[.int .u64 (beV l : Nat), .int .i64 0]) ∧ w = w' := by
  subst hz
  have hlen := hr.len
  go_enter Tryd.func45, Tryd.ntmps45
  go_wp2
  go_loop [6, 21] (fun v s => ∃ k : Nat, k ≤ n ∧ s = .int .i64 (k : Int) ∧ v = .int .u64 (beV (l.take k) : Nat)) (fun _ s => n - (intOf s).toNat)
  case atStart => exact ⟨0, by omega, rfl, rfl⟩
  case round =>
    obtain ⟨k, hk, rfl, rfl⟩ := hrel
    have hb := beV_lt (l.take k) (hl.take k)
    by_cases hlt : k < n
    · have hlt' : (k : Int) < (n : Int) := by omega
      obtain ⟨ad, rfl, hbl, hc⟩ := hr.num hlt
      have hx := hl.get k
      have hstep := take_succ_getD l k (by omega)
      generalize hxk : l.getD k 0 = x at *
      have hval : beV (l.take (k + 1)) = beV (l.take k) * 256 + x := by rw [hstep, beV_snoc]
      have hval' := Lib.hid hval
      have hb2 : beV (l.take k) < 72057594037927936 := by
        refine Nat.lt_of_lt_of_le hb (Nat.pow_le_pow_right (n := 2) (j := 56) (by omega) ?_)
        have := List.length_take_le k l; omega
      have hb3 := Lib.hid hb2
      have hb4 := Lib.hid hx
      clear hval hstep hxk hb hb2 hx
      go_wp2
      go_round
      case rel => exact ⟨k + 1, by omega, by go_num, by rw [hval'.out, or_step _ _ hb3.out hb4.out]⟩
      case measure => simp [intOf]; omega
    · obtain rfl : n = k := by omega
      go_wp2
      go_ret2
      exact ⟨by rw [List.take_of_length_le (by omega)]; rfl, rfl⟩

theorem neg_and31 (m : Nat) (h1 : 1 ≤ m) (hm : m ≤ 31) : bits .and .u64 (IntKind.u64.wrap (-((32 - m : Nat) : Int))) 31 = (m : Int) := by
  have e : IntKind.u64.wrap (-((32 - m : Nat) : Int)) = ((18446744073709551616 - (32 - m) : Nat) : Int) := by
    simp [IntKind.wrap, IntKind.bits, IntKind.signed]; omega
  rw [e, show (31 : Int) = ((31 : Nat) : Int) from rfl, u64_and_nat _ _ (by omega) (by omega), nat_mask5]
  congr 1
  omega
theorem rotl32_val (x m : Nat) (hx : x < 4294967296) (hm : m ≤ 32) :
    bits BinOp.or IntKind.u32 ((x : Int) * 2 ^ m % 4294967296) ((x : Int) / 2 ^ (32 - m)) = ((rotr x (32 - m) : Nat) : Int) := by
  have e1 : ((x : Int) * 2 ^ m % 4294967296) = ((x * 2 ^ m % 4294967296 : Nat) : Int) := by
    rw [Int.natCast_emod, Int.natCast_mul, Int.natCast_pow]; rfl
  have e2 := shr_nat x (32 - m)
  rw [e1, e2, u32_or_nat _ _ (Nat.mod_lt _ (by omega)) (Nat.lt_of_le_of_lt (Nat.div_le_self _ _) hx)]
  unfold rotr
  rw [Nat.shiftLeft_eq, Nat.shiftRight_eq_div_pow, Nat.or_comm, show 32 - (32 - m) = m from by omega]

set_option maxHeartbeats 400000 in
theorem rotl32_any (x m : Nat) (hx : x < 4294967296) (h1 : 1 ≤ m) (hm : m ≤ 31) (w : World) :
    Calls Tryd.prog 46 #[.int .u32 (x : Int), .int .i64 (-((32 - m : Nat) : Int))] w fun e w' => e = .returned (.int .u32 (rotr x (32 - m) : Nat)) ∧ w = w' := by
  have hand := neg_and31 m h1 hm
  generalize -((32 - m : Nat) : Int) = q at *
  go_enter Tryd.func46, Tryd.ntmps46
  go_wp2
  go_ret
  exact ⟨ret_int (rotl32_val x m hx (by omega)), rfl⟩

set_option maxHeartbeats 400000 in
theorem rot_any (x n : Nat) (hx : x < 4294967296) (h1 : 1 ≤ n) (hn : n ≤ 31) (w : World) :
    Calls Tryd.prog 44 #[.int .u32 (x : Int), .int .i64 (-(n : Int))] w fun e w' => e = .returned (.int .u32 (rotr x n : Nat)) ∧ w = w' := by
  have ht : (-(n : Int)).tmod 32 = -((32 - (32 - n) : Nat) : Int) := by
    rw [Int.neg_tmod, Int.tmod_eq_emod_of_nonneg (by omega)]; omega
  have hr : rotr x (32 - (32 - n)) = rotr x n := by rw [show 32 - (32 - n) = n from by omega]
  have hr' := Lib.hid hr
  clear hr
  go_enter Tryd.func44, Tryd.ntmps44
  go_wp2_with fail
  refine (rotl32_any x (32 - n) hx (by omega) (by omega) _).mono ?_
  rintro e w1 ⟨rfl, rfl⟩
  go_wp2
  go_ret
  exact ⟨ret_int (by rw [hr'.out]), rfl⟩

set_option maxHeartbeats 400000 in
theorem get32_any (A : Option Addr) (c B : Nat) (l : List Nat) (hl : Byt l) (w : World) (hr : Reads w B 1 A 4 (nv .u8 l)) :
    Calls Tryd.prog 43 #[.slice A 4 c] w fun e w' => e = .returned (.tuple #[.int .u32 (beV l : Nat), .int .i64 0]) ∧ w = w' := by
  have hv := beV_lt l hl
  rw [hr.len] at hv
  have hv1 : (beV l : Int) < 4294967296 := by omega
  have hv2 : (beV l : Int) % 4294967296 = (beV l : Int) := by omega
  go_enter Tryd.func43, Tryd.ntmps43
  go_wp2_with fail
  refine (get_any A 4 c 4 B l rfl (by omega) hl _ hr).mono ?_
  rintro e w1 ⟨rfl, rfl⟩
  go_wp2
  go_ret2
  exact ⟨rfl, rfl⟩

end Go.Proofs.YtcdmbknmmnaocaaDoor
