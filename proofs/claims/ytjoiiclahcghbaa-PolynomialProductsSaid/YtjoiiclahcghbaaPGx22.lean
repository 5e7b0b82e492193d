-- Written by a program of this session (a patched copy of the kit's print.py, over given contracts proved by hand). Lean checks it.
import Derived.Test.YtjoiiclahcghbaaPGx0
import Derived.Test.YtjoiiclahcghbaaPGx16
import Derived.Test.YtjoiiclahcghbaaFl
namespace Go.Proofs.Ytjoiiclahcghbaa.PG
open Go.RowKit Go.Proofs.YtjoiiclahcghbaaW.PrintWords Go.Proofs.YtjoiiclahcghbaaW.PrintLast Go.Proofs.YtjoiiclahcghbaaW.PrintMore
attribute [local go_sem] max2_int min2_int max_two min_two max_three min_three max_four min_four   -- for this text's walks alone
set_option linter.unusedVariables false
set_option linter.unusedSimpArgs false

-- IMPORT Fl
/-! ### polynomial_FromRoots: function 39 -/
theorem timesRoot.calls (x : Int) (w : World) : Calls Try.prog 51 #[.int .u8 x] w fun e w' => e = .returned (.func (.func 60) #[] #[.pointer (some ⟨w.heap.size, 0, none⟩)]) ∧ w.alloc (.cells #[.int .u8 x] 5) = w' := by
  go_enter Try.func51, Try.ntmps51
  go_wp2_with fail
  go_ret
  exact ⟨rfl, rfl⟩
set_option maxHeartbeats 8000000 in
set_option maxRecDepth 100000 in
theorem tr1.calls (k : Nat) (x : Int) (A0 : Option Addr) (c0 : Nat) (l0 : List Int) (r : List Int) (g : Nat) (w : World) (hb : w.heap[g]? = some (.cells #[.int .u8 x] 5 (0, 0))) (hr0 : Kd.C (Kd.int .u8) w A0 l0.length l0) (hc0 : l0.length ≤ c0) (h : polynomial_product.f k [x, 1] l0 = some r) :
    Calls Try.prog 60 #[.slice A0 l0.length c0, .pointer (some ⟨g, 0, none⟩)] w fun e w' => ∃ v0_ : Value, e = .returned v0_ ∧ Kd.R (Kd.int .u8) 5 w' w.heap.size (fun _ => True) v0_ r ∧ Below w.heap.size w w' := by
  have HR0 := Aside0.mk hr0
  have HC0 := Aside0.mk hc0
  have HA := Aside0.mk h
  have hcell := (blk_cell hb 0).trans (show (#[Value.int .u8 x] : Array Value)[0]? = some (.int .u8 x) from rfl)
  clear hr0 hc0 h hb
  go_enter Try.func60, Try.ntmps60
  go_wp2_with (first
    | ((with_reducible refine gate_dst (N := 5) rfl ?_); refine Kd.R_lit (Kd.int .u8) _ 5 ?hg (N := 5) ?hd (xs := ([x, 1] : List Int)) (inner := [.int .u8 x, .int .u8 1]) (ok := fun _ => True) (okp := fun _ => True) ?hr ?hp (fun _ hk => hk) trivial (Below.refl _ _) (Nat.le_refl _) (by simp) ?_; (case hd => rfl); (case hg => rfl); (case hr => first | (go_simp; done) | (go_simp; rfl)); (case hp => exact (Reps.one (show Kd.M (Kd.int .u8) _ _ _ x [.int .u8 x] from rfl) (Reps.one (show Kd.M (Kd.int .u8) _ _ _ 1 [.int .u8 1] from rfl) (Reps.none _ _)))); intro v1 w1 ho hb hg_ hnew_; clear hg_ hnew_; have HO := Aside0.mk ho; have HB := Aside0.mk hb; clear hb ho; obtain ⟨Ao, co, eo⟩ := Kd.R_slice HO.out; subst eo)
    | (go_at_call 47; (refine (polynomial_product.calls k Ao co [x, 1] A0 c0 l0 r _ ?s1 ?s2 ?s3 ?s4 HA.out).mono ?_); (case s1 => exact (Kd.R_reads' HO.out).2.2); (case s2 => exact (Kd.R_reads' HO.out).2.1); (case s3 => exact Kd.C_below HR0.out HB.out); (case s4 => exact HC0.out); rintro e w2 ⟨v2, rfl, ho, hb⟩; have HO2 := Aside0.mk ho; have HB2 := Aside0.mk hb; clear ho hb))
  go_ret
  exact ⟨_, rfl, Kd.R_lower HO2.out HB.out.size, below_then HB.out HB.out.size HB2.out⟩
def frLoop (k : Nat) : List Int → List Int → Option (List Int)
  | [], acc => some acc
  | x :: l, acc => (polynomial_product.f k [x, 1] acc).bind fun t => frLoop k l t
theorem frLoop_mono (l : List Int) (k : Nat) : ∀ acc, LeO (frLoop k l acc) (frLoop (k + 1) l acc) := by
  induction l with
  | nil => intro acc; exact LeO.refl _
  | cons x l ih => intro acc; exact LeO.bind (polynomial_product.mono _ _ _) (fun t => ih t)
theorem drop_rd {l : List Int} {j : Nat} (h : j < l.length) : l.drop j = rd l (j : Int) :: l.drop (j + 1) := by
  rw [List.drop_eq_getElem_cons h]
  simp [rd, h]
def polynomial_FromRoots.f (k : Nat) (l0 : List Int) : Option (List Int × Int) := if 1023 < l0.length then some ([], 2) else (frLoop k l0 [1]).bind fun t => some (t, 0)
theorem polynomial_FromRoots.mono : ∀ a0 k, LeO (polynomial_FromRoots.f k a0) (polynomial_FromRoots.f (k + 1) a0) := by
  intro a0 k
  unfold polynomial_FromRoots.f
  exact LeO.ite (LeO.refl _) (LeO.bind (frLoop_mono _ _ _) (fun _ => LeO.refl _))
set_option maxHeartbeats 8000000 in
set_option maxRecDepth 100000 in
theorem polynomial_FromRoots.calls (k : Nat) (A0 : Option Addr) (c0 : Nat) (l0 : List Int) (r1 : List Int) (r2 : Int) (w : World) (hr0 : Kd.C (Kd.int .u8) w A0 l0.length l0) (hc0 : l0.length ≤ c0) (h : polynomial_FromRoots.f k l0 = some (r1, r2)) :
    Calls Try.prog 39 #[.slice A0 l0.length c0] w fun e w' => ∃ v0_ : Value, e = .returned (.tuple #[v0_, .int .i64 r2]) ∧ Kd.R (Kd.int .u8) 5 w' w.heap.size (fun _ => True) v0_ r1 ∧ Below w.heap.size w w' := by
  have HR0 := Aside0.mk hr0
  clear hr0 hc0
  unfold polynomial_FromRoots.f at h
  by_cases hlen : 1023 < l0.length
  · rw [if_pos hlen] at h
    have e := Option.some.inj h
    rw [Prod.mk.injEq] at e
    obtain ⟨rfl, rfl⟩ := e
    clear h
    have hd1 : decide (1023 < l0.length) = true := decide_eq_true hlen
    have hd2 : decide ((1023 : Int) < (l0.length : Int)) = true := decide_eq_true (by omega)
    go_enter Try.func39, Try.ntmps39
    go_wp2_with fail
    go_ret2
    exact ⟨_, rfl, Kd.R_nil _ _ _ _ _, Below.refl _ _⟩
  · rw [if_neg hlen] at h
    obtain ⟨t, A10, H⟩ := Option.bind_eq_some_iff.mp h
    have e := Option.some.inj H
    rw [Prod.mk.injEq] at e
    obtain ⟨rfl, rfl⟩ := e
    have HA := Aside0.mk A10
    clear h H A10
    have hd1 : decide (1023 < l0.length) = false := decide_eq_false hlen
    have hd2 : decide ((1023 : Int) < (l0.length : Int)) = false := decide_eq_false (by omega)
    go_enter Try.func39, Try.ntmps39
    go_wp2_with ((with_reducible refine gate_dst (N := 10) rfl ?_); refine Kd.R_lit (Kd.int .u8) _ 5 ?hg (N := 10) ?hd (xs := ([1] : List Int)) (inner := [.int .u8 1]) (ok := fun _ => True) (okp := fun _ => True) ?hr ?hp (fun _ hk => hk) trivial (Below.refl _ _) (Nat.le_refl _) (by simp) ?_; (case hd => rfl); (case hg => rfl); (case hr => first | (go_simp; done) | (go_simp; rfl)); (case hp => exact (Reps.one (show Kd.M (Kd.int .u8) _ _ _ 1 [.int .u8 1] from rfl) (Reps.none _ _))); intro v1 w1 ho hb hg_ hnew_; clear hg_ hnew_; have HO := Aside0.mk ho; have HB := Aside0.mk hb; clear hb ho)
    go_loopw [4, 13] (fun v i wr => ∃ (j : Nat) (acc : List Int), j ≤ l0.length ∧ i = .int .i64 j ∧ Aside0 (frLoop k (l0.drop j) acc = some t) ∧ Aside0 (Kd.R (Kd.int .u8) 5 wr w.heap.size (fun _ => True) v acc) ∧ Aside0 (Below w.heap.size w wr)) (fun _ i _ => l0.length - (intOf i).toNat)
    case atStart => exact ⟨0, [1], Nat.zero_le _, rfl, HA, HO, HB⟩
    case round =>
      clear HA HO HB
      obtain ⟨j, acc, hj, rfl, HA, HO, HB⟩ := hrel
      by_cases hlt : j < l0.length
      · obtain ⟨ad, e1, hx⟩ := Kd.at_int (Kd.C_below HR0.out HB.out) (j : Int) (by omega) (by omega)
        subst e1
        rw [Int.toNat_natCast] at hx
        have ha := HA.out
        rw [drop_rd hlt, frLoop] at ha
        obtain ⟨u, A20, H⟩ := Option.bind_eq_some_iff.mp ha
        have HU := Aside0.mk A20
        have HA2 := Aside0.mk H
        clear ha A20 H HA
        obtain ⟨Ao, co, eo⟩ := Kd.R_slice HO.out
        subst eo
        go_wp2_with (first
          | (go_at_call 51; refine (timesRoot.calls _ _).mono ?_; rintro e w1 ⟨rfl, rfl⟩)
          | (go_at_call 60; (with_reducible refine (tr1.calls k (rd l0 (j : Int)) _ _ acc u _ _ ?s1 ?s2 ?s3 HU.out).mono ?_); (case s1 => exact blk_new _ _); (case s2 => exact Kd.C_alloc (Kd.R_reads' HO.out).2.2 _); (case s3 => exact (Kd.R_reads' HO.out).2.1); rintro e w2 ⟨v2, rfl, ho, hb⟩; have HO2 := Aside0.mk (Kd.R_lower ho (Nat.le_trans HB.out.size (by simp))); have HB2 := Aside0.mk (below_then (below_alloc HB.out _) (Nat.le_trans HB.out.size (by simp)) hb); clear ho hb))
        go_roundw
        case rel => exact ⟨j + 1, u, hlt, by go_num, HA2, HO2, HB2⟩
        case measure => simp [intOf]; omega
      · obtain rfl : j = l0.length := by omega
        have ha := HA.out
        rw [List.drop_length, frLoop] at ha
        obtain rfl := Option.some.inj ha
        clear ha HA
        go_wp2_with fail
        go_ret2
        exact ⟨_, rfl, HO.out, HB.out⟩

end Go.Proofs.Ytjoiiclahcghbaa.PG
