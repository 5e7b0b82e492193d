/- slices.Chunk(row, 32): its iterator gives the pieces of 32 bytes, in order. -/
import Derived.Test.YtadcoeinnomjlaaCol
import Derived.Sort.QuietIn
import Derived.RegionIn
import Derived.Sort.QuietTacIn
namespace Go.Proofs.Ytadcoeinnomjlaa.PG
open Go.RowKit Go.Maps Go.Shelf Go.Proofs.YtadcoeinnomjlaaW.PrintWords Go.Proofs.YtadcoeinnomjlaaW.PrintLast
theorem grown_drew (W : World) : W.grownBy W.drew none := ⟨rfl, rfl, rfl, Nat.le_refl _, fun _ _ _ => rfl⟩
theorem grown_drewN (W : World) (n : Nat) : W.grownBy (W.drewN n) none := ⟨rfl, rfl, rfl, Nat.le_refl _, fun _ _ _ => rfl⟩
theorem elem1 : Try.prog.elem 23 = 5 := by kernel_rfl
theorem size1 (w : World) : (sizeOf 5).run Try.prog w = .ok 1 w := by kernel_rfl
theorem piece_from (q : Addr) (m cap i : Nat) (h1 : i < m) (h2 : m ≤ cap) (w : World) : (Instr.slice 23 (.slice (some q) m cap) (some (.int .i64 (i : Int))) none none).run Try.prog w = .ok (.slice (some (q.add i)) (m - i) (cap - i)) w := by
  rw [run_slice_l w 23 (some q) m cap (by rw [elem1]; exact Try.underlying23) .i64 (i : Int) (by omega) (by omega), elem1, size1]
  simp [Result.andThen, sliced, show ¬ cap = i by omega]
theorem piece_at (q : Addr) (m cap i : Nat) (h1 : i + 32 ≤ m) (h2 : m ≤ cap) (w : World) : (Instr.slice 23 (.slice (some q) m cap) (some (.int .i64 (i : Int))) (some (.int .i64 ((i : Int) + 32))) (some (.int .i64 ((i : Int) + 32)))).run Try.prog w = .ok (.slice (some (q.add i)) 32 32) w := by
  rw [run_slice_lhm w 23 (some q) m cap (by rw [elem1]; exact Try.underlying23) .i64 .i64 .i64 (i : Int) ((i : Int) + 32) ((i : Int) + 32) (by omega) (by omega) (by omega) (by omega), elem1, size1]
  simp [Result.andThen, sliced, show ((i : Int) + 32).toNat = i + 32 by omega]
set_option maxRecDepth 100000 in
set_option maxHeartbeats 4000000 in
theorem chunk1_in (q : Addr) (F : Fence) (n : Nat) (hf : F.fn 21) (hro : F.round = none) (hn : 1 ≤ n) (l Bs Bn N cap : Nat) (A : Option Addr) (hA : N = 0 ∨ A = some q) (hcap : 32 * N ≤ cap) (hN : N ≤ 1000) (w : World)
    (hs : w.heap[Bs]? = some (.cells #[.slice A (32 * N) cap] 23 (0, 0))) (hb : w.heap[Bn]? = some (.cells #[.int .i64 32] 3 (0, 0)))
    (J : List Nat → World → Prop) (hJB : ∀ ss W1, J ss W1 → Below w.heap.size w W1)
    (hY : ∀ pre x W1, J pre W1 → pre.length < N → YieldAt F (n - 1) Try.prog l #[encC q x] W1 fun e W' => e = .returned (.bool true) ∧ J (pre ++ [x]) W' ∧ KeepsWalks W1 W')
    (W : World) (hJ : AbidesFrom W.heap.size J) (h0 : J [] W) :
    CallsIn F n Try.prog 21 #[.func (.yield l) #[] #[], .pointer (some ⟨Bs, 0, none⟩), .pointer (some ⟨Bn, 0, none⟩)] W fun e W' => (∃ v, e = .returned v) ∧ ∃ ss : List Nat, ss = List.range N ∧ J ss W' := by
  have hBs : Bs < w.heap.size := (Array.getElem?_eq_some_iff.1 hs).1
  have hBn : Bn < w.heap.size := (Array.getElem?_eq_some_iff.1 hb).1
  have HS := Aside0.mk hs
  have HN := Aside0.mk hb
  clear hs hb
  refine callsIn_of_wp Try.func21 rfl hf ?_ hro
  simp only [Try.ntmps21, List.size_toArray, List.length_cons, List.length_nil, Nat.reduceAdd, Nat.reduceSub, Array.replicate_succ, Array.replicate_zero, List.push_toArray, List.append_toArray, List.nil_append, List.cons_append]
  gi_wp2
  gi_loopw [4] (fun i wr => ∃ j : Nat, j ≤ N ∧ i = .int .i64 ((32 * j : Nat) : Int) ∧ Aside0 (J (List.range j) wr)) (fun i _ => 32 * N - (intOf i).toNat)
  case atStart => exact ⟨0, Nat.zero_le _, rfl, ⟨h0⟩⟩
  case round =>
    obtain ⟨j, hj, rfl, HJ⟩ := hrel
    have hbw := hJB _ _ HJ.out
    have hc1 : wr.cell? ⟨Bs, 0, none⟩ = some (.slice A (32 * N) cap) := (blk_cell ((hbw.block Bs hBs).trans HS.out) 0).trans rfl
    have hc2 : wr.cell? ⟨Bn, 0, none⟩ = some (.int .i64 32) := (blk_cell ((hbw.block Bn hBn).trans HN.out) 0).trans rfl
    clear hbw
    by_cases hlt : j < N
    · have hA' : A = some q := by
        rcases hA with h | h
        · omega
        · exact h
      subst hA'
      obtain ⟨m, hm⟩ : ∃ m, 32 * N = m := ⟨_, rfl⟩
      obtain ⟨i, hi⟩ : ∃ i, 32 * j = i := ⟨_, rfl⟩
      rw [hm] at hc1
      rw [hi]
      have hd1 : decide ((i : Int) < (m : Int)) = true := decide_eq_true (by omega)
      have hsl1 := piece_from q m cap i (by omega) (by omega)
      have hsl2 := piece_at q m cap i (by omega) (by omega)
      have hw : IntKind.i64.wrap ((i : Int) + 32) = (i : Int) + 32 := by rw [i64_w]; unfold wrap64; omega
      gi_wp2
      refine wpIn_region_quiet_lit hro (by kernel_rfl) (by kernel_rfl) ?_
      repeat (quiet_step_in (fail))
      rw [if_neg (show ¬ ((m - i : Nat) : Int) < 32 by omega)]
      refine wpQuietIn_nil ?_
      rintro _ ⟨nq, rfl⟩
      have hJ2 : J (List.range j) (wr.drewN nq) := hJ (List.range j) wr (wr.drewN nq) none HJ.out (grown_drewN wr nq) (fun r e => by cases e)
      have hc1' : (wr.drewN nq).cell? ⟨Bs, 0, none⟩ = some (.slice (some q) m cap) := hc1
      obtain ⟨fn, tmps, assign, body, hy, hR⟩ := hY (List.range j) j (wr.drewN nq) hJ2 (by simp; exact hlt)
      unfold encC at hy
      rw [hi] at hy
      clear hc1 hc2 hsl1
      gi_wp2
      refine hR.mono ?_
      rintro e W3 ⟨rfl, hJ3, hk3⟩
      rw [← List.range_succ] at hJ3
      have hbw := hJB _ _ hJ3
      have hc3 : W3.cell? ⟨Bn, 0, none⟩ = some (.int .i64 32) := (blk_cell ((hbw.block Bn hBn).trans HN.out) 0).trans rfl
      clear hbw hy
      have HJ3 := Aside0.mk hJ3
      clear hJ3
      gi_wp2
      go_roundw
      case rel => exact ⟨j + 1, hlt, by go_num, HJ3⟩
      case measure => simp [intOf]; omega
    · obtain rfl : j = N := by omega
      have hd1 : decide (((32 * j : Nat) : Int) < ((32 * j : Nat) : Int)) = false := decide_eq_false (by omega)
      gi_wp2
      go_end0
      exact ⟨⟨_, rfl⟩, _, rfl, HJ.out⟩
/-- The iterator's value gives the pieces. -/
theorem chunk_gives (q : Addr) (F : Fence) (n : Nat) (hf : F.fn 21) (hro : F.round = none) (hn : 1 ≤ n) (Bs Bn N cap : Nat) (A : Option Addr) (hA : N = 0 ∨ A = some q) (hcap : 32 * N ≤ cap) (hN : N ≤ 1000) (w : World)
    (hs : w.heap[Bs]? = some (.cells #[.slice A (32 * N) cap] 23 (0, 0))) (hb : w.heap[Bn]? = some (.cells #[.int .i64 32] 3 (0, 0))) :
    SeqB F n Try.prog 21 #[.pointer (some ⟨Bs, 0, none⟩), .pointer (some ⟨Bn, 0, none⟩)] (encC q) (fun ss => ss = List.range N) N w :=
  fun l J W _ hJB hJ hY h0 => chunk1_in q F n hf hro hn l Bs Bn N cap A hA hcap hN w hs hb J hJB hY W hJ h0
set_option maxRecDepth 100000 in
set_option maxHeartbeats 4000000 in
theorem chunk.calls (A : Option Addr) (m cap : Nat) (w : World) : Calls Try.prog 13 #[.slice A m cap, .int .i64 32] w fun e w' =>
    e = .returned (.func (.func 21) #[] #[.pointer (some ⟨w.heap.size, 0, none⟩), .pointer (some ⟨w.heap.size + 1, 0, none⟩)]) ∧ w' = (w.alloc (.cells #[.slice A m cap] 23 (0, 0))).alloc (.cells #[.int .i64 32] 3 (0, 0)) := by
  go_enter Try.func13, Try.ntmps13
  go_wp2_with fail
  go_ret
  exact ⟨rfl, rfl⟩
theorem collect32.calls (q : Addr) (Bs Bn N cap : Nat) (A : Option Addr) (hA : N = 0 ∨ A = some q) (hcap : 32 * N ≤ cap) (hN : N ≤ 1000) (w : World)
    (hs : w.heap[Bs]? = some (.cells #[.slice A (32 * N) cap] 23 (0, 0))) (hb : w.heap[Bn]? = some (.cells #[.int .i64 32] 3 (0, 0))) :
    Calls Try.prog 12 #[.func (.func 21) #[] #[.pointer (some ⟨Bs, 0, none⟩), .pointer (some ⟨Bn, 0, none⟩)]] w fun e w' => ∃ v : Value, e = .returned v ∧ w'.ownsRow w.heap.size 23 1 v N ((List.range N).map (encC q)) ∧ Below w.heap.size w w' := by
  have h := (Col.collect_in q (Fence.list [12, 20, 21] none) 3 (by simp [Fence.list]) (by simp [Fence.list]) rfl (by omega) 21 _ (by simp [Fence.list])
    (enters_of Try.func21 (by kernel_rfl) rfl) _ N (by unfold maxLen; omega) (by omega) w (chunk_gives q _ 1 (by simp [Fence.list]) rfl (by omega) Bs Bn N cap A hA hcap hN w hs hb)).calls (fun k => by simp [Fence.room, Fence.list])
  refine h.mono ?_
  rintro e w' ⟨v, ss, rfl, rfl, hrow, _, hB⟩
  rw [List.length_range] at hrow
  exact ⟨v, rfl, hrow, hB⟩
/-- The pieces of 32 bytes of a list. -/
def pieces (l : List Int) (N : Nat) : List (List Int) := (List.range N).map fun i => (l.take (32 * i + 32)).drop (32 * i)
theorem pieces_length (l : List Int) (N : Nat) : (pieces l N).length = N := by simp [pieces]
theorem pieces_C {w : World} {base N : Nat} {v : Value} {q : Addr} {A : Option Addr} {l : List Int} (ho : w.ownsRow base 23 1 v N ((List.range N).map (encC q))) (hA : N = 0 ∨ A = some q) (hl : l.length = 32 * N) (hc : Kd.C (Kd.int .u8) w A l.length l) :
    ∃ Ad c, v = .slice Ad N c ∧ N ≤ c ∧ Kd.C (Kd.slice 5 (Kd.int .u8)) w Ad N (pieces l N) := by
  have hrow : OwnRow ((Kd.slice 5 (Kd.int .u8)).K w) 23 1 w base v (pieces l N) := by
    refine ⟨(List.range N).map (encC q), by rw [pieces_length]; exact ho, by simp [pieces_length], fun j p hj => ?_⟩
    rw [pieces, List.getElem?_map] at hj
    have hjN : j < N := by
      rcases Nat.lt_or_ge j N with h | h
      · exact h
      · rw [List.getElem?_eq_none (by simpa using h)] at hj
        simp at hj
    rw [List.getElem?_range hjN] at hj
    have hp : (l.take (32 * j + 32)).drop (32 * j) = p := by simpa using hj
    subst hp
    have hA' : A = some q := by
      rcases hA with h | h
      · omega
      · exact h
    subst hA'
    have hlen : ((l.take (32 * j + 32)).drop (32 * j)).length = 32 := by
      rw [List.length_drop, List.length_take]
      omega
    have hm := Kd.C_mid (c := l.length + 1) (lo := 32 * j) (hi := 32 * j + 32) hc (by omega) (by omega) (by omega)
    rw [if_neg (by omega)] at hm
    have hm2 : Kd.C (Kd.int .u8) w (some (q.add (32 * j))) ((l.take (32 * j + 32)).drop (32 * j)).length ((l.take (32 * j + 32)).drop (32 * j)) := by
      have e : (32 * j) * (Kd.int .u8).sz = 32 * j := Nat.mul_one _
      rw [e] at hm
      exact hm
    refine ⟨some (q.add (32 * j)), 32, ?_, by omega, hm2⟩
    rw [Nat.mul_one, List.drop_eq_getElem_cons (by simpa using hjN), hlen]
    simp
  obtain ⟨Ad, c, hv, hle, hr⟩ := OwnRow.reads hrow
  rw [pieces_length] at hv hle hr
  exact ⟨Ad, c, hv, hle, hr⟩
end Go.Proofs.Ytadcoeinnomjlaa.PG
