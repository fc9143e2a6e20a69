/-
  The walk of words.Join.
-/
import Derived.Test.YtcdmbknmmnaocaaDoorParts
import Derived.Test.YtcdmbknmmnaocaaDoorCopy
namespace Go.Proofs.YtcdmbknmmnaocaaDoor
open Go.RowKit Sh

/-- the bytes that are joined after some parts -/
def joinl (ms : List (List Nat)) (k : Nat) : List Nat := (ms.take k).flatten ++ List.replicate (ms.flatten.length - (ms.take k).flatten.length) 0
theorem joinl_zero (ms : List (List Nat)) : joinl ms 0 = List.replicate ms.flatten.length 0 := by simp [joinl]
theorem joinl_all (ms : List (List Nat)) (k : Nat) (hk : k = ms.length) : joinl ms k = ms.flatten := by
  subst hk; simp [joinl]
theorem joinl_len (ms : List (List Nat)) (k : Nat) : (joinl ms k).length = ms.flatten.length := by
  have := flat_take_len ms k
  simp only [joinl, List.length_append, List.length_replicate]; omega
theorem flat_step_len (ms : List (List Nat)) (k : Nat) (hk : k < ms.length) : (ms.take k).flatten.length + (ms.getD k []).length ≤ ms.flatten.length := by
  have h := flat_take_len ms (k + 1)
  rw [flat_take_succ ms k hk, List.length_append] at h; exact h
theorem joinl_step (ms : List (List Nat)) (k : Nat) (hk : k < ms.length) :
    (joinl ms k).take (ms.take k).flatten.length ++ (ms.getD k [] ++ (joinl ms k).drop ((ms.take k).flatten.length + (ms.getD k []).length)) = joinl ms (k + 1) := by
  have h1 := flat_step_len ms k hk
  have e : (ms.take (k + 1)).flatten = (ms.take k).flatten ++ ms.getD k [] := flat_take_succ ms k hk
  unfold joinl
  rw [e]
  generalize ms.getD k [] = p at *
  generalize (ms.take k).flatten = a at *
  generalize ms.flatten.length = N at *
  rw [List.take_left, List.drop_append, List.drop_eq_nil_of_le (by omega)]
  simp only [List.nil_append, List.drop_replicate, List.length_append, List.append_assoc]
  congr 3
  omega

set_option maxHeartbeats 1000000 in
theorem join_any (ms : List (List Nat)) (n c B N : Nat) (A : Option Addr) (w : World) (hp : Parts w B A n ms) (hn : n < 4611686018427387904) (hB : B ≤ w.heap.size) (hN : ms.flatten.length = N) (hlen : N < 281474976710656) :
    Calls Tryd.prog 21 #[.slice A n c] w fun e w' => ∃ r, e = .returned r ∧ NewBytes w r ms.flatten w' := by
  have hpn := hp.1
  have hp' := Lib.hid hp
  have hN' := Lib.hid hN
  have hmk := make_bytes N (by omega)
  clear hp hN
  go_enter Tryd.func21, Tryd.ntmps21
  go_wp2
  go_loop [3, 12] (fun s i => ∃ k : Nat, k ≤ n ∧ i = .int .i64 (k : Int) ∧ s = .int .i64 ((ms.take k).flatten.length : Int)) (fun _ i => n - (intOf i).toNat)
  case atStart => exact ⟨0, by omega, rfl, by simp⟩
  case round =>
    obtain ⟨k, hk, rfl, rfl⟩ := hrel
    by_cases hlt : k < n
    · have hlt' : (k : Int) < (n : Int) := by omega
      obtain ⟨ad, Ai, ni, ci, rfl, hadB, hc0, hnc, hr0, hby⟩ := hp'.out.2 k hlt
      have hst := flat_take_succ ms k (by omega)
      have hle := flat_step_len ms k (by omega)
      have hl0 := hr0.len
      have hst' := Lib.hid hst
      have hN1 := hN'.out
      rw [hl0, hN1] at hle
      have hl0' := Lib.hid hl0
      clear hr0 hby hst hl0 hN1
      generalize hS : (ms.take k).flatten.length = S at *
      go_wp2
      go_round
      case rel => exact ⟨k + 1, by omega, by go_num, by rw [hst'.out, List.length_append, hS, hl0'.out]; go_num⟩
      case measure => simp [intOf]; omega
    · obtain rfl : n = k := by omega
      have hall : (ms.take n).flatten.length = N := by rw [List.take_of_length_le (by omega)]; exact hN'.out
      rw [hall]
      have hblk0 : Blk (w.alloc (.cells (va .u8 (List.replicate N 0)) 5)) w.heap.size 5 (va .u8 (joinl ms 0)) := by rw [joinl_zero, hN'.out]; exact Blk.new _ _ _
      have hb0 := Lib.hid hblk0
      clear hall hblk0
      go_wp2
      have hblk := hb0.out
      have hbel : Below w.heap.size w (w.alloc (.cells (va .u8 (List.replicate N 0)) 5)) := (Below.refl _ _).alloc (Nat.le_refl _) _
      generalize w.alloc (.cells (va .u8 (List.replicate N 0)) 5) = w1 at *
      clear hb0 hmk
      go_loopw [7, 25] (fun s i wr => ∃ k : Nat, k ≤ n ∧ i = .int .i64 (k : Int) ∧ s = .int .i64 ((ms.take k).flatten.length : Int) ∧ Blk wr w.heap.size 5 (va .u8 (joinl ms k)) ∧ Below w.heap.size w wr) (fun _ i _ => n - (intOf i).toNat)
      case atStart => exact ⟨0, by omega, rfl, by simp, hblk, hbel⟩
      case round =>
        clear hblk hbel
        obtain ⟨k, hk, rfl, rfl, hblk, hbel⟩ := hrel
        by_cases hlt : k < n
        · have hlt' : (k : Int) < (n : Int) := by omega
          obtain ⟨ad, Ai, ni, ci, rfl, hadB, hc0, hnc, hr0, hby⟩ := hp'.out.2 k hlt
          have hst := flat_take_succ ms k (by omega)
          have hle := flat_step_len ms k (by omega)
          have hl0 := hr0.len
          have hst' := Lib.hid hst
          have hN1 := hN'.out
          have hjs := joinl_step ms k (by omega)
          have hjl := joinl_len ms k
          rw [hl0] at hjs
          rw [hl0, hN1] at hle
          rw [hN1] at hjl
          have hl0' := Lib.hid hl0
          have hrw := hr0.below (hbel.mono hB)
          have hcw := (hbel.cell (p := ad.add k) (by rw [block_of_add]; omega)).trans hc0
          have hrw' := Lib.hid hrw
          have hjs' := Lib.hid hjs
          have hjl' := Lib.hid hjl
          have hb' := Lib.hid hblk
          have hbl' := Lib.hid hbel
          clear hr0 hby hst hl0 hN1 hrw hjs hjl hblk hbel hc0
          generalize hS : (ms.take k).flatten.length = S at *
          by_cases hSN : S < N
          · have hSN' : (S : Int) < (N : Int) := by omega
            go_wp2
            obtain ⟨w', hrun, hb1, hbel1⟩ := copy_reads 22 22 3 Tryd.underlying22 w.heap.size S (N - S) (N - S) 5 (joinl ms k) hb'.out Ai ni ci B _ hrw'.out (by omega) (by rw [hjl'.out]; omega)
            rw [hrun]
            rw [hjs'.out] at hb1
            have hb2 := Lib.hid hb1
            have hbl2 := Lib.hid (hbl'.out.trans hbel1)
            clear hrun hb1 hbel1 hjs'
            go_wp2
            go_roundw
            case rel => exact ⟨k + 1, by omega, by go_num, by rw [hst'.out, List.length_append, hS, hl0'.out]; go_num, hb2.out, hbl2.out⟩
            case measure => simp [intOf]; omega
          · obtain rfl : S = N := by omega
            obtain rfl : ni = 0 := by omega
            go_wp2
            obtain ⟨w', hrun, hb1, hbel1⟩ := copy_reads 22 22 3 Tryd.underlying22 w.heap.size 0 0 0 5 (joinl ms k) hb'.out Ai 0 ci B _ hrw'.out (by omega) (by omega)
            rw [hrun]
            have hm0 : ms.getD k [] = [] := List.eq_nil_of_length_eq_zero hl0'.out
            have e1 := hjs'.out
            rw [hm0, List.take_of_length_le (by rw [hjl'.out]; exact Nat.le_refl _), List.drop_eq_nil_of_le (by rw [hjl'.out]; omega)] at e1
            simp only [List.append_nil] at e1
            rw [hm0] at hb1
            simp only [List.take_zero, List.nil_append, List.drop_zero, Nat.add_zero] at hb1
            rw [e1] at hb1
            have hb2 := Lib.hid hb1
            have hbl2 := Lib.hid (hbl'.out.trans hbel1)
            clear hrun hb1 hbel1 hjs' e1 hm0
            go_wp2
            go_roundw
            case rel => exact ⟨k + 1, by omega, by go_num, by rw [hst'.out, List.length_append, hS, hl0'.out]; go_num, hb2.out, hbl2.out⟩
            case measure => simp [intOf]; omega
        · obtain rfl : n = k := by omega
          go_wp2
          go_ret
          rw [joinl_all ms n hpn.symm] at hblk
          exact ⟨.slice (some ⟨w.heap.size, 0, none⟩) N N, rfl, w.heap.size, by rw [hN'.out], hblk, Nat.le_refl _, hbel⟩

/-- the same, the joined bytes by a name -/
theorem join_to (ms : List (List Nat)) (l : List Nat) (n c B N : Nat) (A : Option Addr) (w : World) (hp : Parts w B A n ms) (hl : ms.flatten = l) (hn : n < 4611686018427387904) (hB : B ≤ w.heap.size) (hN : l.length = N) (hlen : N < 281474976710656) :
    Calls Tryd.prog 21 #[.slice A n c] w fun e w' => ∃ g, e = .returned (.slice (some ⟨g, 0, none⟩) N N) ∧ Blk w' g 5 (va .u8 l) ∧ w.heap.size ≤ g ∧ Below w.heap.size w w' := by
  subst hl hN
  refine (join_any ms n c B _ A w hp hn hB rfl hlen).mono ?_
  rintro e w' ⟨r, rfl, g, rfl, h1, h2, h3⟩
  exact ⟨g, rfl, h1, h2, h3⟩
theorem put32_to (v : Nat) (l : List Nat) (hl : beB v 4 = l) (hv : v < 4294967296) (w : World) :
    Calls Tryd.prog 36 #[.int .u32 (v : Int)] w fun e w' => ∃ g, e = .returned (.slice (some ⟨g, 0, none⟩) 4 4) ∧ Blk w' g 5 (va .u8 l) ∧ w.heap.size ≤ g ∧ Below w.heap.size w w' := by
  subst hl
  refine (put32_any v hv w).mono ?_
  rintro e w' ⟨r, rfl, g, rfl, h1, h2, h3⟩
  exact ⟨g, by rw [beB_len], h1, h2, h3⟩
theorem put64_to (v : Nat) (l : List Nat) (hl : beB v 8 = l) (w : World) :
    Calls Tryd.prog 35 #[.int .u64 (v : Int)] w fun e w' => ∃ g, e = .returned (.slice (some ⟨g, 0, none⟩) 8 8) ∧ Blk w' g 5 (va .u8 l) ∧ w.heap.size ≤ g ∧ Below w.heap.size w w' := by
  subst hl
  refine (put64_any v w).mono ?_
  rintro e w' ⟨r, rfl, g, rfl, h1, h2, h3⟩
  exact ⟨g, by rw [beB_len], h1, h2, h3⟩
end Go.Proofs.YtcdmbknmmnaocaaDoor
