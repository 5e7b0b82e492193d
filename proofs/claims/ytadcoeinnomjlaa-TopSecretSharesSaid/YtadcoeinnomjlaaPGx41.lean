-- Written by a program of this session (a patched copy of the kit's print.py, over given contracts proved by hand). Lean checks it.
import Derived.Test.YtadcoeinnomjlaaPGx0
import Derived.Test.YtadcoeinnomjlaaFl
import Derived.Test.YtadcoeinnomjlaaMap
namespace Go.Proofs.Ytadcoeinnomjlaa.PG
open Go.RowKit Go.Proofs.YtadcoeinnomjlaaW.PrintWords Go.Proofs.YtadcoeinnomjlaaW.PrintLast Go.Proofs.YtadcoeinnomjlaaW.PrintMore
attribute [local go_sem] max2_int min2_int max_two min_two max_three min_three max_four min_four   -- for this text's walks alone
set_option linter.unusedVariables false
set_option linter.unusedSimpArgs false

-- IMPORT Fl
/-! ### shamir_level: function 22 -/
set_option maxHeartbeats 8000000 in
set_option maxRecDepth 100000 in
theorem level1.calls (A : Option Addr) (m c g : Nat) (w : World) (HN : Aside0 (w.heap[g]? = some (.cells #[.int .i64 (m : Int)] 3 (0, 0)))) : Calls Try.prog 36 #[.slice A m c, .pointer (some ⟨g, 0, none⟩)] w fun e w' => e = .returned (.bool false) ∧ w = w' := by
  have hc : w.cell? ⟨g, 0, none⟩ = some (.int .i64 (m : Int)) := (blk_cell HN.out 0).trans rfl
  go_enter Try.func36, Try.ntmps36
  go_wp2_with fail
  go_ret
  exact ⟨by simp, rfl⟩
set_option maxHeartbeats 8000000 in
set_option maxRecDepth 100000 in
theorem levelIndex.calls (A0 : Option Addr) (c0 : Nat) (l0 : List (List Int)) (m g : Nat) (w : World) (hr0 : Kd.C (Kd.slice 5 (Kd.int .u8)) w A0 l0.length l0) (hall : ∀ c ∈ l0, c.length = m) (hlen : l0.length < 1000) (HN : Aside0 (w.heap[g]? = some (.cells #[.int .i64 (m : Int)] 3 (0, 0)))) :
    Calls Try.prog 44 #[.slice A0 l0.length c0, .func (.func 36) #[] #[.pointer (some ⟨g, 0, none⟩)]] w fun e w' => e = .returned (.int .i64 (-1)) ∧ w = w' := by
  have HR0 := Aside0.mk hr0
  have HAll := Aside0.mk hall
  clear hr0 hall
  go_enter Try.func44, Try.ntmps44
  go_wp2_with fail
  go_loopw [8] (fun i wr => ∃ j : Nat, j ≤ l0.length ∧ i = .int .i64 j ∧ Aside0 (w = wr)) (fun i _ => l0.length - (intOf i).toNat)
  case atStart => exact ⟨0, Nat.zero_le _, rfl, ⟨rfl⟩⟩
  case round =>
    obtain ⟨j, hj, rfl, HW⟩ := hrel
    obtain rfl := HW.out
    by_cases hlt : j < l0.length
    · obtain ⟨ad, A1, c1, e1, hx, _, _⟩ := at_L2 HR0.out (j : Int) (by omega) (by omega)
      subst e1
      have hm : (rd_L2 l0 (j : Int)).length = m := HAll.out _ (by
        simp only [rd_L2, Int.toNat_natCast, List.getD_eq_getElem?_getD, List.getElem?_eq_getElem hlt, Option.getD_some]
        exact List.getElem_mem hlt)
      rw [hm, Int.toNat_natCast] at hx
      clear hm
      go_wp2_with (go_at_call 36; refine (level1.calls _ m _ g _ HN).mono ?_; rintro e w' ⟨rfl, rfl⟩)
      go_roundw
      case rel => exact ⟨j + 1, hlt, by go_num, ⟨trivial⟩⟩
      case measure => simp [intOf]; omega
    · obtain rfl : j = l0.length := by omega
      go_wp2_with fail
      go_ret
      exact ⟨rfl, rfl⟩
set_option maxHeartbeats 8000000 in
set_option maxRecDepth 100000 in
theorem levelContains.calls (A0 : Option Addr) (c0 : Nat) (l0 : List (List Int)) (m g : Nat) (w : World) (hr0 : Kd.C (Kd.slice 5 (Kd.int .u8)) w A0 l0.length l0) (hall : ∀ c ∈ l0, c.length = m) (hlen : l0.length < 1000) (HN : Aside0 (w.heap[g]? = some (.cells #[.int .i64 (m : Int)] 3 (0, 0)))) :
    Calls Try.prog 35 #[.slice A0 l0.length c0, .func (.func 36) #[] #[.pointer (some ⟨g, 0, none⟩)]] w fun e w' => e = .returned (.bool false) ∧ w = w' := by
  have HC := Aside0.mk (levelIndex.calls A0 c0 l0 m g w hr0 hall hlen HN)
  go_enter Try.func35, Try.ntmps35
  go_wp2_with (go_at_call 44; refine HC.out.mono ?_; rintro e w' ⟨rfl, rfl⟩)
  go_ret
  exact ⟨rfl, rfl⟩
def shamir_level.f (l0 : List (List Int)) (a1 : Int) : Option (Bool) := if l0.length < 16 ∧ 0 ≤ a1 ∧ ∀ c ∈ l0, (c.length : Int) = a1 then some true else none
set_option maxHeartbeats 8000000 in
set_option maxRecDepth 100000 in
theorem shamir_level.calls (A0 : Option Addr) (c0 : Nat) (l0 : List (List Int)) (a1 : Int) (r : Bool) (w : World) (hr0 : Kd.C (Kd.slice 5 (Kd.int .u8)) w A0 l0.length l0) (hc0 : l0.length ≤ c0) (h : shamir_level.f l0 a1 = some r) :
    Calls Try.prog 22 #[.slice A0 l0.length c0, .int .i64 a1] w fun e w' => e = .returned (.bool r) ∧ Below w.heap.size w w' := by
  have HR0 := Aside0.mk hr0
  clear hr0
  unfold shamir_level.f at h
  by_cases hc : l0.length < 16 ∧ 0 ≤ a1 ∧ ∀ c ∈ l0, (c.length : Int) = a1
  · rw [if_pos hc] at h
    obtain rfl := Option.some.inj h
    clear h
    obtain ⟨hlen, h0, hall⟩ := hc
    obtain ⟨m, rfl⟩ : ∃ m : Nat, a1 = (m : Int) := ⟨a1.toNat, by omega⟩
    have HAll := Aside0.mk (show ∀ c ∈ l0, c.length = m from fun c hc => by have := hall c hc; omega)
    clear hall
    have hd : decide ((l0.length : Int) < 16) = true := decide_eq_true (by omega)
    have HB := Aside0.mk ((Below.refl w.heap.size w).alloc (Nat.le_refl _) (.cells #[.int .i64 (m : Int)] 3 (0, 0)))
    have HC := Aside0.mk (levelContains.calls A0 c0 l0 m w.heap.size (w.alloc (.cells #[.int .i64 (m : Int)] 3 (0, 0))) (Kd.C_below HR0.out HB.out) HAll.out (by omega) ⟨blk_new _ _⟩)
    go_enter Try.func22, Try.ntmps22
    go_wp2_with (go_at_call 35; refine HC.out.mono ?_; rintro e w' ⟨rfl, rfl⟩)
    go_ret
    exact ⟨rfl, HB.out⟩
  · rw [if_neg hc] at h
    exact absurd h (by simp)

-- IMPORT Map
/-! ### shamir_elements: function 23 -/
def shamir_elements.f (l0 : List Int) : Option (Bool) := if (∀ x ∈ l0, 1 ≤ x ∧ x ≤ 255) ∧ l0.Nodup ∧ l0.length ≤ 64 then some true else none
set_option maxHeartbeats 8000000 in
set_option maxRecDepth 100000 in
theorem shamir_elements.calls (A0 : Option Addr) (c0 : Nat) (l0 : List Int) (r : Bool) (w : World) (hr0 : Kd.C (Kd.int .i64) w A0 l0.length l0) (hc0 : l0.length ≤ c0) (h : shamir_elements.f l0 = some r) :
    Calls Try.prog 23 #[.slice A0 l0.length c0] w fun e w' => e = .returned (.bool r) ∧ Below w.heap.size w w' := by
  have HR0 := Aside0.mk hr0
  clear hr0
  unfold shamir_elements.f at h
  by_cases hc : (∀ x ∈ l0, 1 ≤ x ∧ x ≤ 255) ∧ l0.Nodup ∧ l0.length ≤ 64
  · rw [if_pos hc] at h
    obtain rfl := Option.some.inj h
    clear h
    obtain ⟨hall, hnd, hlen⟩ := hc
    have HAll := Aside0.mk hall
    have HNd := Aside0.mk hnd
    clear hall hnd
    have HT := Aside0.mk (show Try.prog.underlying 25 = some (.map 3 4) from by kernel_rfl)
    have HK := Aside0.mk (show Try.prog.underlying 3 = some (.int .i64) from by kernel_rfl)
    have HE := Aside0.mk (show Try.prog.underlying 4 = some .bool from by kernel_rfl)
    have HZ := Aside0.mk (show ∀ w : World, (zeroValue 4).run Try.prog w = .ok (.bool false) w from fun _ => by kernel_rfl)
    have hmm := @run_makeMap Try.prog
    go_enter Try.func23, Try.ntmps23
    go_wp2_with fail
    go_loopw [9] (fun i wr => ∃ j : Nat, j ≤ l0.length ∧ i = .int .i64 j ∧ Aside0 (MapB Try.prog 3 4 wr w.heap.size j (l0.take j)) ∧ Aside0 (Below w.heap.size w wr)) (fun i _ => l0.length - (intOf i).toNat)
    case atStart => exact ⟨0, Nat.zero_le _, rfl, ⟨by rw [List.take_zero]; exact MapB.made _ _ _ _⟩, ⟨(Below.refl _ _).alloc (Nat.le_refl _) _⟩⟩
    case round =>
      obtain ⟨j, hj, rfl, HM, HB⟩ := hrel
      by_cases hlt : j < l0.length
      · obtain ⟨ad, e1, hx⟩ := Kd.at_int (Kd.C_below HR0.out HB.out) (j : Int) (by omega) (by omega)
        subst e1
        rw [Int.toNat_natCast] at hx
        have hrd : rd l0 (j : Int) = l0[j] := by simp [rd, List.getD_eq_getElem?_getD, hlt]
        have hmem := HAll.out (l0[j]) (List.getElem_mem hlt)
        have hnin : l0[j] ∉ l0.take j := by
          have h2 : (l0.take (j + 1)).Nodup := HNd.out.sublist (List.take_sublist _ _)
          rw [List.take_succ_eq_append_getElem hlt, List.nodup_append] at h2
          exact fun h3 => h2.2.2 _ h3 _ (by simp) rfl
        have htk := List.take_succ_eq_append_getElem hlt
        rw [hrd] at hx
        generalize hy : l0[j] = y at *
        have hwf : (Lit.int .i64 y).wf = true := by
          have e0 : IntKind.i64.min = -9223372036854775808 := rfl
          have e1 : IntKind.i64.max = 9223372036854775807 := rfl
          simp [Lit.wf, e0, e1]
          omega
        have hlk := HM.out.lookup HT.out HK.out HE.out (HZ.out wr) hwf
        rw [decide_eq_false hnin] at hlk
        obtain ⟨w1, hup, hM1, hg⟩ := HM.out.update HT.out HK.out HE.out (by unfold maxLen; omega) hwf
        have HM1 := Aside0.mk hM1
        have HB1 := Aside0.mk (HB.out.grown hg HB.out.size (fun k hk => by injection hk with hk; omega))
        have HTk := Aside0.mk htk
        have hd1 : decide (y < 1) = false := decide_eq_false (by omega)
        have hd2 : decide (255 < y) = false := decide_eq_false (by omega)
        clear hM1 hg hnin hwf hmem htk hy hrd
        go_wp2_with fail
        go_roundw
        case rel => exact ⟨j + 1, hlt, by go_num, ⟨by rw [HTk.out]; exact HM1.out⟩, HB1⟩
        case measure => simp [intOf]; omega
      · obtain rfl : j = l0.length := by omega
        have hd3 : decide (((l0.length : Nat) : Int) ≤ 64) = true := decide_eq_true (by omega)
        go_wp2_with fail
        go_ret
        exact ⟨rfl, HB.out⟩
  · rw [if_neg hc] at h
    exact absurd h (by simp)

end Go.Proofs.Ytadcoeinnomjlaa.PG
