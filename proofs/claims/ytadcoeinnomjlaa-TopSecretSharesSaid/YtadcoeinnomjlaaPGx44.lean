-- Written by a program of this session (a patched copy of the kit's print.py, over given contracts proved by hand). Lean checks it.
import Derived.Test.YtadcoeinnomjlaaPGx0
import Derived.Test.YtadcoeinnomjlaaPGx42
import Derived.Test.YtadcoeinnomjlaaPGx43
import Derived.Test.YtadcoeinnomjlaaShp
namespace Go.Proofs.Ytadcoeinnomjlaa.PG
open Go.RowKit Go.Proofs.YtadcoeinnomjlaaW.PrintWords Go.Proofs.YtadcoeinnomjlaaW.PrintLast Go.Proofs.YtadcoeinnomjlaaW.PrintMore
attribute [local go_sem] max2_int min2_int max_two min_two max_three min_three max_four min_four   -- for this text's walks alone
set_option linter.unusedVariables false
set_option linter.unusedSimpArgs false

-- IMPORT Shp
/-! ### keyring_Shares: function 5 -/
mutual
def keyring_Shares.j0 : Nat → ByteArray → List Int → List Int → Bool → Option ((List (S39)) × Int)
  | 0, _, _, _, _ => none
  | k + 1, x0, x2, x3, x40 => if x40 = true then (some (([] : List (S39)), 1)) else ((chunks32.f x3).bind fun t109 => (keyring_Shares.l0 k x0 t109 ([] : List Int) x2 (x2.length : Int) 0))
def keyring_Shares.l0 : Nat → ByteArray → List (List Int) → List Int → List Int → Int → Int → Option ((List (S39)) × Int)
  | 0, _, _, _, _, _, _ => none
  | k + 1, x0, x10, x11, x44, x45, x46 => if x46 < x45 then (if 0 ≤ x46 then (if x46 < (x44.length : Int) then (if x11.length < 17592186044416 then (keyring_Shares.l0 k x0 x10 (x11 ++ [wrap64 ((rd x44 x46) + 1)]) x44 x45 (wrap64 (x46 + 1))) else (none)) else (none)) else (none)) else ((str_bytes.f x0).bind fun t116 => ((shamir_Split.f k t116 x10 x11).bind fun bt119 => (some (bt119.1, bt119.2))))
end
def keyring_Shares.f (k : Nat) (a0 : ByteArray) (a1 : Int) (l2 : List Int) (l3 : List Int) : Option ((List (S39)) × Int) := if (a0.size : Int) = 32 then ((keyring_within.f a1 1 12).bind fun t107 => (if t107 = true then ((keyring_different.f k l2 0 11).bind fun t108 => (if t108 = true then (if (l2.length : Int) < a1 then (keyring_Shares.j0 k a0 l2 l3 true) else (keyring_Shares.j0 k a0 l2 l3 ((l3.length : Int) != (wrap64 (32 * (wrap64 (a1 - 1))))))) else (keyring_Shares.j0 k a0 l2 l3 true))) else (keyring_Shares.j0 k a0 l2 l3 true))) else (keyring_Shares.j0 k a0 l2 l3 true)
theorem keyring_Shares.mono_l : ∀ k, (∀ y0 y1 y2 y3, LeO (keyring_Shares.j0 k y0 y1 y2 y3) (keyring_Shares.j0 (k + 1) y0 y1 y2 y3)) ∧ (∀ y0 y1 y2 y3 y4 y5, LeO (keyring_Shares.l0 k y0 y1 y2 y3 y4 y5) (keyring_Shares.l0 (k + 1) y0 y1 y2 y3 y4 y5))
  | 0 => ⟨fun _ _ _ _ r h => by simp [keyring_Shares.j0] at h, fun _ _ _ _ _ _ r h => by simp [keyring_Shares.l0] at h⟩
  | k + 1 => by
    obtain ⟨ih0, ih1⟩ := keyring_Shares.mono_l k
    refine ⟨?_, ?_⟩
    · intro y0 y1 y2 y3
      unfold keyring_Shares.j0
      repeat' first
      | (with_reducible exact ih0 _ _ _ _)
      | (with_reducible exact ih1 _ _ _ _ _ _)
      | (with_reducible exact keyring_different.mono _ _ _ _)
      | (with_reducible exact shamir_Split.mono _ _ _ _)
      | (with_reducible exact LeO.refl _)
      | (with_reducible exact LeO.none _)
      | (with_reducible refine LeO.ite ?_ ?_)
      | (with_reducible refine LeO.bind ?_ (fun _ => ?_))
      | exact ih0 _ _ _ _
      | exact ih1 _ _ _ _ _ _
      | exact keyring_different.mono _ _ _ _
      | exact shamir_Split.mono _ _ _ _
      | exact LeO.none _
      | refine LeO.ite ?_ ?_
      | refine LeO.bind ?_ (fun _ => ?_)
    · intro y0 y1 y2 y3 y4 y5
      unfold keyring_Shares.l0
      repeat' first
      | (with_reducible exact ih0 _ _ _ _)
      | (with_reducible exact ih1 _ _ _ _ _ _)
      | (with_reducible exact keyring_different.mono _ _ _ _)
      | (with_reducible exact shamir_Split.mono _ _ _ _)
      | (with_reducible exact LeO.refl _)
      | (with_reducible exact LeO.none _)
      | (with_reducible refine LeO.ite ?_ ?_)
      | (with_reducible refine LeO.bind ?_ (fun _ => ?_))
      | exact ih0 _ _ _ _
      | exact ih1 _ _ _ _ _ _
      | exact keyring_different.mono _ _ _ _
      | exact shamir_Split.mono _ _ _ _
      | exact LeO.none _
      | refine LeO.ite ?_ ?_
      | refine LeO.bind ?_ (fun _ => ?_)
theorem keyring_Shares.mono : ∀ a0 a1 a2 a3 k, LeO (keyring_Shares.f k a0 a1 a2 a3) (keyring_Shares.f (k + 1) a0 a1 a2 a3) := by
  intro a0 a1 a2 a3 k
  obtain ⟨ih0, ih1⟩ := keyring_Shares.mono_l k
  unfold keyring_Shares.f
  repeat' first
      | (with_reducible exact ih0 _ _ _ _)
      | (with_reducible exact ih1 _ _ _ _ _ _)
      | (with_reducible exact keyring_different.mono _ _ _ _)
      | (with_reducible exact shamir_Split.mono _ _ _ _)
      | (with_reducible exact LeO.refl _)
      | (with_reducible exact LeO.none _)
      | (with_reducible refine LeO.ite ?_ ?_)
      | (with_reducible refine LeO.bind ?_ (fun _ => ?_))
      | exact ih0 _ _ _ _
      | exact ih1 _ _ _ _ _ _
      | exact keyring_different.mono _ _ _ _
      | exact shamir_Split.mono _ _ _ _
      | exact LeO.none _
      | refine LeO.ite ?_ ?_
      | refine LeO.bind ?_ (fun _ => ?_)
set_option maxHeartbeats 8000000 in
set_option maxRecDepth 100000 in
theorem keyring_Shares.calls (k : Nat) (a0 : ByteArray) (a1 : Int) (A2 : Option Addr) (c2 : Nat) (l2 : List Int) (A3 : Option Addr) (c3 : Nat) (l3 : List Int) (r1 : List (S39)) (r2 : Int) (w : World) (hr2 : Kd.C (Kd.int .i64) w A2 l2.length l2) (hc2 : l2.length ≤ c2) (hr3 : Kd.C (Kd.int .u8) w A3 l3.length l3) (hc3 : l3.length ≤ c3) (h : keyring_Shares.f k a0 a1 l2 l3 = some (r1, r2)) :
    Calls Try.prog 5 #[.string a0, .int .i64 a1, .slice A2 l2.length c2, .slice A3 l3.length c3] w fun e w' => ∃ v0_ : Value, e = .returned (.tuple #[v0_, .int .i64 r2]) ∧ Kd.S k39 39 w' w.heap.size (fun _ => True) v0_ r1 ∧ Below w.heap.size w w' := by
  have HR2 := Aside0.mk hr2
  have HC2 := Aside0.mk hc2
  clear hr2 hc2
  have HR3 := Aside0.mk hr3
  have HC3 := Aside0.mk hc3
  clear hr3 hc3
  have HB := Aside0.mk (Below.refl w.heap.size w)
  have H : (if (a0.size : Int) = 32 then ((keyring_within.f a1 1 12).bind fun t107 => (if t107 = true then ((keyring_different.f k l2 0 11).bind fun t108 => (if t108 = true then (if (l2.length : Int) < a1 then (keyring_Shares.j0 k a0 l2 l3 true) else (keyring_Shares.j0 k a0 l2 l3 ((l3.length : Int) != (wrap64 (32 * (wrap64 (a1 - 1))))))) else (keyring_Shares.j0 k a0 l2 l3 true))) else (keyring_Shares.j0 k a0 l2 l3 true))) else (keyring_Shares.j0 k a0 l2 l3 true)) = some (r1, r2) := h
  clear h
  have HC5 := Aside0.mk H
  clear H
  go_enter Try.func5, Try.ntmps5
  go_upto_region 1 with (fail)
  go_cut [40] (fun v40 wc => ∃ (kq : Nat) (x40_4 : Bool), v40 = .bool x40_4 ∧ Aside0 (keyring_Shares.j0 kq a0 l2 l3 x40_4 = some (r1, r2)) ∧ Aside0 (kq ≤ k) ∧ Aside0 (Below w.heap.size w wc))
  case first =>
    have H := HC5.out
    clear HC5
    by_cases c6 : (a0.size : Int) = 32
    · rw [if_pos c6] at H
      have c6b0 : ((a0.size : Int) == 32) = true := beq_iff_eq.mpr c6
      have c6b1 : ((a0.size : Int) != 32) = false := bne_eq_false_iff_eq.mpr c6
      clear c6
      (first | rw [c6b0] | (simp only [i64_w, i32_w]; rw [c6b0]) | skip)
      replace H := Option.bind_eq_some_iff.mp H
      obtain ⟨t107, A70, H⟩ := H
      replace H : (if t107 = true then ((keyring_different.f k l2 0 11).bind fun t108 => (if t108 = true then (if (l2.length : Int) < a1 then (keyring_Shares.j0 k a0 l2 l3 true) else (keyring_Shares.j0 k a0 l2 l3 ((l3.length : Int) != (wrap64 (32 * (wrap64 (a1 - 1))))))) else (keyring_Shares.j0 k a0 l2 l3 true))) else (keyring_Shares.j0 k a0 l2 l3 true)) = some (r1, r2) := H
      have A7 := Aside0.mk A70
      clear A70
      by_cases c8 : t107 = true
      · subst c8
        have H1 : ((keyring_different.f k l2 0 11).bind fun t108 => (if t108 = true then (if (l2.length : Int) < a1 then (keyring_Shares.j0 k a0 l2 l3 true) else (keyring_Shares.j0 k a0 l2 l3 ((l3.length : Int) != (wrap64 (32 * (wrap64 (a1 - 1))))))) else (keyring_Shares.j0 k a0 l2 l3 true))) = some (r1, r2) := by rw [if_pos rfl] at H; exact H
        clear H
        have H := H1
        clear H1
        replace H := Option.bind_eq_some_iff.mp H
        obtain ⟨t108, A90, H⟩ := H
        replace H : (if t108 = true then (if (l2.length : Int) < a1 then (keyring_Shares.j0 k a0 l2 l3 true) else (keyring_Shares.j0 k a0 l2 l3 ((l3.length : Int) != (wrap64 (32 * (wrap64 (a1 - 1))))))) else (keyring_Shares.j0 k a0 l2 l3 true)) = some (r1, r2) := H
        have A9 := Aside0.mk A90
        clear A90
        by_cases c10 : t108 = true
        · subst c10
          have H1 : (if (l2.length : Int) < a1 then (keyring_Shares.j0 k a0 l2 l3 true) else (keyring_Shares.j0 k a0 l2 l3 ((l3.length : Int) != (wrap64 (32 * (wrap64 (a1 - 1))))))) = some (r1, r2) := by rw [if_pos rfl] at H; exact H
          clear H
          have H := H1
          clear H1
          by_cases c11 : (l2.length : Int) < a1
          · rw [if_pos c11] at H
            have c11b0 : decide ((l2.length : Int) < a1) = true := decide_eq_true c11
            clear c11
            have H' := Aside0.mk H
            clear H
            go_wp2_with (first | (go_at_call 10; (with_reducible refine (keyring_within.calls a1 1 12 true _ A7.out).mono ?_); rintro e w' ⟨rfl, ⟨nd, rfl⟩⟩) | (go_at_call 11; (with_reducible refine (keyring_different.calls k _ _ l2 0 11 true _ ?side1 ?side2 A9.out).mono ?_); (case side1 => repeat (first | exact (Kd.C_below HR2.out (by repeat (first | (with_reducible first | exact HB.out | apply below_alloc | apply pw_below_drewN | apply below_drew1) | exact HB.out))) | (with_reducible refine Kd.C_alloc ?_ _) | (with_reducible refine Kd.C_drewN ?_ _) | (with_reducible refine Kd.C_drew ?_))); (case side2 => exact HC2.out); rintro e w' ⟨rfl, ⟨nd, rfl⟩⟩))
            go_meet
            case rel => exact ⟨_, (true), (by first | rfl | (simp; done) | (simp [*]; done)), H', ⟨by first | omega | exact Nat.le_refl _⟩, ⟨by repeat (first | (with_reducible first | exact HB.out | apply below_alloc | apply pw_below_drewN | apply below_drew1) | exact HB.out)⟩⟩
          · rw [if_neg c11] at H
            have c11b0 : decide ((l2.length : Int) < a1) = false := decide_eq_false c11
            clear c11
            have H' := Aside0.mk H
            clear H
            go_wp2_with (first | (go_at_call 10; (with_reducible refine (keyring_within.calls a1 1 12 true _ A7.out).mono ?_); rintro e w' ⟨rfl, ⟨nd, rfl⟩⟩) | (go_at_call 11; (with_reducible refine (keyring_different.calls k _ _ l2 0 11 true _ ?side1 ?side2 A9.out).mono ?_); (case side1 => repeat (first | exact (Kd.C_below HR2.out (by repeat (first | (with_reducible first | exact HB.out | apply below_alloc | apply pw_below_drewN | apply below_drew1) | exact HB.out))) | (with_reducible refine Kd.C_alloc ?_ _) | (with_reducible refine Kd.C_drewN ?_ _) | (with_reducible refine Kd.C_drew ?_))); (case side2 => exact HC2.out); rintro e w' ⟨rfl, ⟨nd, rfl⟩⟩))
            go_meet
            case rel => exact ⟨_, (((l3.length : Int) != (wrap64 (32 * (wrap64 (a1 - 1)))))), (by first | rfl | (simp; done) | (simp [*]; done)), H', ⟨by first | omega | exact Nat.le_refl _⟩, ⟨by repeat (first | (with_reducible first | exact HB.out | apply below_alloc | apply pw_below_drewN | apply below_drew1) | exact HB.out)⟩⟩
        · replace c10 := Bool.eq_false_iff.mpr c10
          subst c10
          have H1 : (keyring_Shares.j0 k a0 l2 l3 true) = some (r1, r2) := by rw [if_neg (show ¬ (false = true) by decide)] at H; exact H
          clear H
          have H := H1
          clear H1
          have H' := Aside0.mk H
          clear H
          go_wp2_with (first | (go_at_call 10; (with_reducible refine (keyring_within.calls a1 1 12 true _ A7.out).mono ?_); rintro e w' ⟨rfl, ⟨nd, rfl⟩⟩) | (go_at_call 11; (with_reducible refine (keyring_different.calls k _ _ l2 0 11 false _ ?side1 ?side2 A9.out).mono ?_); (case side1 => repeat (first | exact (Kd.C_below HR2.out (by repeat (first | (with_reducible first | exact HB.out | apply below_alloc | apply pw_below_drewN | apply below_drew1) | exact HB.out))) | (with_reducible refine Kd.C_alloc ?_ _) | (with_reducible refine Kd.C_drewN ?_ _) | (with_reducible refine Kd.C_drew ?_))); (case side2 => exact HC2.out); rintro e w' ⟨rfl, ⟨nd, rfl⟩⟩))
          go_meet
          case rel => exact ⟨_, (true), (by first | rfl | (simp; done) | (simp [*]; done)), H', ⟨by first | omega | exact Nat.le_refl _⟩, ⟨by repeat (first | (with_reducible first | exact HB.out | apply below_alloc | apply pw_below_drewN | apply below_drew1) | exact HB.out)⟩⟩
      · replace c8 := Bool.eq_false_iff.mpr c8
        subst c8
        have H1 : (keyring_Shares.j0 k a0 l2 l3 true) = some (r1, r2) := by rw [if_neg (show ¬ (false = true) by decide)] at H; exact H
        clear H
        have H := H1
        clear H1
        have H' := Aside0.mk H
        clear H
        go_wp2_with (first | (go_at_call 10; (with_reducible refine (keyring_within.calls a1 1 12 false _ A7.out).mono ?_); rintro e w' ⟨rfl, ⟨nd, rfl⟩⟩))
        go_meet
        case rel => exact ⟨_, (true), (by first | rfl | (simp; done) | (simp [*]; done)), H', ⟨by first | omega | exact Nat.le_refl _⟩, ⟨by repeat (first | (with_reducible first | exact HB.out | apply below_alloc | apply pw_below_drewN | apply below_drew1) | exact HB.out)⟩⟩
    · rw [if_neg c6] at H
      have c6b0 : ((a0.size : Int) == 32) = false := beq_eq_false_iff_ne.mpr c6
      have c6b1 : ((a0.size : Int) != 32) = true := bne_iff_ne.mpr c6
      (first | rw [c6b0] | (simp only [i64_w, i32_w]; rw [c6b0]) | skip)
      have H' := Aside0.mk H
      clear H
      go_wp2
      go_meet
      case rel => exact ⟨_, (true), (by first | rfl | (simp; done) | (simp [*]; done)), H', ⟨by first | omega | exact Nat.le_refl _⟩, ⟨by repeat (first | (with_reducible first | exact HB.out | apply below_alloc | apply pw_below_drewN | apply below_drew1) | exact HB.out)⟩⟩
  case rest =>
    clear HC5
    try clear c1
    try clear c2
    try clear p2
    try clear c3
    try clear c5
    try clear c6
    try clear c6b0
    try clear c6b1
    try clear p6
    try clear c8
    try clear c10
    try clear c11
    try clear c11b0
    obtain ⟨kq, x40_4, rfl, HA, HJ4, HB⟩ := hcut
    cases kq with
    | zero => exact absurd HA.out (by simp [keyring_Shares.j0])
    | succ kj4 =>
      have H := HA.out
      clear HA
      simp only [keyring_Shares.j0] at H
      by_cases c12 : x40_4 = true
      · subst c12
        have H1 : (some (([] : List (S39)), 1)) = some (r1, r2) := by rw [if_pos rfl] at H; exact H
        clear H
        have H := H1
        clear H1
        simp only [Option.some.injEq, Prod.mk.injEq] at H
        obtain ⟨rfl, rfl⟩ := H
        go_wp2
        go_ret2
        exact ⟨_, by first | rfl | (simp [errW_none, errW_some] <;> rfl) | (simp [*, errW_none, errW_some] <;> rfl), by first | exact Kd.S_nil _ _ _ _ _ | exact Kd.N_nil _ _ _ _ _ | exact Kd.V_nil _ _ _ _ _ | exact Kd.Q_nil _ _ _ _ _ | exact Kd.R_nil _ _ _ _ _, by repeat (first | (with_reducible first | exact HB.out | apply below_alloc | apply pw_below_drewN | apply below_drew1) | exact HB.out)⟩
      · replace c12 := Bool.eq_false_iff.mpr c12
        subst c12
        have H1 : ((chunks32.f l3).bind fun t109 => (keyring_Shares.l0 kj4 a0 t109 ([] : List Int) l2 (l2.length : Int) 0)) = some (r1, r2) := by rw [if_neg (show ¬ (false = true) by decide)] at H; exact H
        clear H
        have H := H1
        clear H1
        replace H := Option.bind_eq_some_iff.mp H
        obtain ⟨t109, A130, H⟩ := H
        replace H : (keyring_Shares.l0 kj4 a0 t109 ([] : List Int) l2 (l2.length : Int) 0) = some (r1, r2) := H
        have A13 := Aside0.mk A130
        clear A130
        have H' := Aside0.mk H
        clear H
        obtain ⟨N, hlN, hN_, ht_⟩ := chunks32_open A13.out
        have HLN := Aside0.mk hlN
        have HN := Aside0.mk hN_
        have HT := Aside0.mk ht_
        have HA3 := Aside0.mk (start_or_none HR3.out hlN)
        have HC3N := Aside0.mk (show 32 * N ≤ c3 from hlN ▸ HC3.out)
        clear hlN hN_ ht_
        go_wp2_with (first | (go_at_call 13; refine (chunk.calls _ _ _ _).mono ?_; rintro e wx ⟨rfl, rfl⟩) | (go_at_call 12; refine (collect32.calls (A3.getD ⟨0, 0, none⟩) _ _ N c3 A3 HA3.out HC3N.out HN.out _ ?hs ?hb).mono ?_; (case hs => rw [← HLN.out]; exact two_boxes0 _ _ _); (case hb => exact two_boxes1 _ _ _); rintro e w14 ⟨v110, rfl, hrow, hb⟩; have ho0 := R_pieces hrow; have n0_ := Aside0.mk (Kd.R_lower ho0 (below_size (by repeat (first | (with_reducible first | exact HB.out | apply below_alloc | apply pw_below_drewN | apply below_drew1) | exact HB.out)))); have n1_ := Aside0.mk (below_step (by repeat (first | (with_reducible first | exact HB.out | apply below_alloc | apply pw_below_drewN | apply below_drew1) | exact HB.out)) hb); clear HB; have HO111 := n0_; have HB := n1_; clear n0_ n1_; (try clear hb); (try clear hb2); (try clear hk); (try clear hi); (try clear ho0)))
        go_loopg [11, 46] kj4 (fun kq v11 v46 w' => ∃ (x11_2 : List Int) (x46_2 : Int), v46 = .int .i64 x46_2 ∧ Aside0 (keyring_Shares.l0 kq a0 t109 x11_2 l2 (l2.length : Int) x46_2 = some (r1, r2)) ∧ Aside0 (kq ≤ kj4) ∧ Aside0 (Kd.R (kP (A3.getD ⟨0, 0, none⟩)) 23 w' w.heap.size (fun _ => True) v110 (List.range N)) ∧ Aside0 (Kd.R (Kd.int .i64) 3 w' w.heap.size (fun _ => True) v11 x11_2) ∧ Aside0 (Below w.heap.size w w'))
        case atStart => exact ⟨(([] : List Int)), (0), (by first | rfl | (simp; done) | (simp [*]; done)), H', ⟨Nat.le_refl _⟩, ⟨by (with_reducible repeat (first | apply Kd.R_alloc | apply Kd.R_drewN | apply Kd.R_drew)); exact HO111.out⟩, ⟨by first | exact Kd.R_nil _ _ _ _ _ | exact Kd.N_nil _ _ _ _ _ | exact Kd.V_nil _ _ _ _ _ | exact Kd.Q_nil _ _ _ _ _ | exact Kd.R_nil _ _ _ _ _⟩, ⟨by repeat (first | (with_reducible first | exact HB.out | apply below_alloc | apply pw_below_drewN | apply below_drew1) | exact HB.out)⟩⟩
        case round =>
          clear H'
          try clear c1
          try clear c2
          try clear p2
          try clear c3
          try clear c5
          try clear c6
          try clear c6b0
          try clear c6b1
          try clear p6
          try clear c8
          try clear c10
          try clear c11
          try clear c11b0
          try clear c12
          try clear p2
          try clear p6
          obtain ⟨x11_2, x46_2, rfl, HA, HK2, HO_10, HO_11, HB⟩ := hrel
          cases gk with
          | zero => exact absurd HA.out (by simp [keyring_Shares.l0])
          | succ k2 =>
            have H := HA.out
            clear HA
            simp only [keyring_Shares.l0] at H
            by_cases c15 : x46_2 < (l2.length : Int)
            · rw [if_pos c15] at H
              have c15b0 : decide (x46_2 < (l2.length : Int)) = true := decide_eq_true c15
              clear c15
              by_cases c16 : 0 ≤ x46_2
              · rw [if_pos c16] at H
                have c16b0 : decide (0 ≤ x46_2) = true := decide_eq_true c16
                clear c16
                by_cases c17 : x46_2 < (l2.length : Int)
                · rw [if_pos c17] at H
                  have c17b0 : decide (x46_2 < (l2.length : Int)) = true := decide_eq_true c17
                  clear c17
                  by_cases c18 : x11_2.length < 17592186044416
                  · rw [if_pos c18] at H
                    have LMc18 := Aside0.mk c18
                    clear c18
                    obtain ⟨y113, hy113⟩ : ∃ y_ : List Int, y_ = (x11_2 ++ [wrap64 ((rd l2 x46_2) + 1)]) := ⟨_, rfl⟩
                    replace H : (keyring_Shares.l0 k2 a0 t109 y113 l2 (l2.length : Int) (wrap64 (x46_2 + 1))) = some (r1, r2) := by first | (rw [hy113]; with_reducible exact H) | (have H2_ := (Option.bind_some _ _).symm.trans H; rw [hy113]; with_reducible exact H2_) | (have H2_ := (Option.bind_some _ _).symm.trans H; with_reducible exact H2_) | with_reducible exact H | (rw [hy113]; exact H) | exact H
                    have Ny113 := Aside0.mk hy113
                    clear hy113
                    have H' := Aside0.mk H
                    clear H
                    have p112 : 0 ≤ (x46_2 : Int) := of_decide_eq_true (by first | (with_reducible assumption) | assumption)
                    have q112 : x46_2 < (l2.length : Int) := of_decide_eq_true (by first | (with_reducible assumption) | assumption)
                    obtain ⟨ad112, e112, hx112_0⟩ := Kd.at_int HR2.out x46_2 p112 q112
                    cases e112
                    replace hx112_0 := (HB.out.cell (World.block_lt_of_cell? w _ hx112_0)).trans hx112_0
                    replace p112 := eq_true p112
                    replace q112 := eq_true q112
                    go_wp2_with (first | ((with_reducible refine gate_builtin (b := .append) (xs := #[.tmp 50, .tmp 53]) rfl ?_); (try (refine gate_guard (by rfl) ?_; dsimp only)); at_builtin; refine Kd.R_append (Kd.int .i64) (w0 := w) w.heap.size rfl (.tmp 50) (.tmp 53) 22 3 (.int .i64 0) 8 rfl Try.underlying22 info3 rfl (by decide) (by omega) u11 x11_2 (wrap64 ((rd l2 x46_2) + 1)) [.int .i64 (wrap64 ((rd l2 x46_2) + 1))] (fun _ => True) (fun _ => False) rfl rfl ?aP (fun _ hk => hk.elim) ?aF ?aO ?aB ?aS ?aL ?_; (case aP => exact rfl); (case aB => exact (by repeat (first | (with_reducible first | exact HB.out | apply below_alloc | apply pw_below_drewN | apply below_drew1) | exact HB.out))); (case aF => exact (fun _ _ => trivial)); (case aO => exact (by (with_reducible repeat (first | apply Kd.R_alloc | apply Kd.R_drewN | apply Kd.R_drew)); exact HO_11.out)); (case aS => exact (below_size (by repeat (first | (with_reducible first | exact HB.out | apply below_alloc | apply pw_below_drewN | apply below_drew1) | exact HB.out)))); (case aL => have := LMc18.out; omega); intro v114 w19 ho hb hg hat; rw [← Ny113.out] at ho; have n0_ := Aside0.mk (Kd.R_over' (by (with_reducible repeat (first | apply Kd.R_alloc | apply Kd.R_drewN | apply Kd.R_drew)); exact HO_10.out) (Kd.R_typed (by (with_reducible repeat (first | apply Kd.R_alloc | apply Kd.R_drewN | apply Kd.R_drew)); exact HO_11.out)) (kP_int _) hg); have n1_ := Aside0.mk (hb); have n2_ := Aside0.mk (ho); clear HO_10; clear HB; clear HO_11; have HO_10 := n0_; have HB := n1_; have HO115 := n2_; clear n0_ n1_ n2_; clear ho hb hg hat))
                    go_roundg k2
                    case measure => have := HJ4.out; have := HK2.out; omega
                    case rel => exact ⟨(y113), (wrap64 (x46_2 + 1)), (by first | rfl | (simp; done) | (simp [*]; done)), H', ⟨by have := HJ4.out; have := HK2.out; omega⟩, ⟨by (with_reducible repeat (first | apply Kd.R_alloc | apply Kd.R_drewN | apply Kd.R_drew)); exact HO_10.out⟩, ⟨by (with_reducible repeat (first | apply Kd.R_alloc | apply Kd.R_drewN | apply Kd.R_drew)); exact HO115.out⟩, ⟨by repeat (first | (with_reducible first | exact HB.out | apply below_alloc | apply pw_below_drewN | apply below_drew1) | exact HB.out)⟩⟩
                  · rw [if_neg c18] at H
                    exact absurd H (by simp)
                · rw [if_neg c17] at H
                  exact absurd H (by simp)
              · rw [if_neg c16] at H
                exact absurd H (by simp)
            · rw [if_neg c15] at H
              have c15b0 : decide (x46_2 < (l2.length : Int)) = false := decide_eq_false c15
              clear c15
              replace H := Option.bind_eq_some_iff.mp H
              obtain ⟨t116, A200, H⟩ := H
              replace H : ((shamir_Split.f k2 t116 t109 x11_2).bind fun bt119 => (some (bt119.1, bt119.2))) = some (r1, r2) := H
              have A20 := Aside0.mk A200
              clear A200
              replace H := Option.bind_eq_some_iff.mp H
              obtain ⟨⟨t119, t120⟩, A210, H⟩ := H
              replace H : (some (t119, t120)) = some (r1, r2) := H
              have A21 := Aside0.mk A210
              clear A210
              simp only [Option.some.injEq, Prod.mk.injEq] at H
              obtain ⟨rfl, rfl⟩ := H
              have kb := fun W => print_bytes (P := Try.prog) 9 23 5 Try.underlying9 Try.underlying23 Try.underlying5 a0 W
              obtain ⟨hsz, ht116⟩ := str_bytes_open A20.out
              have hln : t116.length = a0.size := by rw [← ht116, bytesOf_length]
              obtain ⟨Ao24, co24, eo24, hle24, hC24⟩ := pieces_read HO_10.out HA3.out HLN.out (Kd.C_below HR3.out HB.out)
              rw [← HT.out] at eo24 hle24 hC24
              subst eo24
              obtain ⟨Ao25, co25, eo25⟩ := Kd.R_slice HO_11.out
              subst eo25
              have HBb := Aside0.mk (bytes_below (Below.refl wr.heap.size wr) (Nat.le_refl _) 5 a0)
              have hCb := Kd.C_of_reads (d := (0 : Int)) (h1 := fun _ => rfl) (bytes_reads wr 5 a0 (by omega))
              rw [ht116, ← hln] at hCb
              have HCb := Aside0.mk hCb
              have HC24 := Aside0.mk hC24
              have HLE24 := Aside0.mk hle24
              have HLN116 := Aside0.mk hln
              clear hCb hC24 hle24 hln ht116
              go_wp2_with (go_at_call 14; refine calls_of_args (args' := #[.slice (some ⟨wr.heap.size, 0, none⟩) t116.length (grownCap wr a0.size 0 5), .slice Ao24 t109.length co24, .slice Ao25 x11_2.length co25]) (by rw [HLN116.out]) ?_; refine (shamir_Split.calls k2 _ _ t116 _ _ t109 _ _ x11_2 t119 t120 _ HCb.out (by rw [HLN116.out]; exact grownCap_ge _ _ _ _) (Kd.C_below HC24.out HBb.out) HLE24.out (Kd.C_below (Kd.R_reads' HO_11.out).2.2 HBb.out) (Kd.R_reads' HO_11.out).2.1 A21.out).mono ?_; rintro e w26 ⟨v121, rfl, ho0, hb⟩; have HB2 := Aside0.mk (below_step (below_step HB.out HBb.out) hb); have HO122 := Aside0.mk (Kd.S_lower ho0 (below_size (below_step HB.out HBb.out))); clear HB; have HB := HB2; clear HB2 ho0 hb)
              go_ret2
              exact ⟨_, by first | rfl | (simp [errW_none, errW_some] <;> rfl) | (simp [*, errW_none, errW_some] <;> rfl), by (with_reducible repeat (first | apply Kd.S_alloc | apply Kd.S_drewN | apply Kd.S_drew)); exact Kd.S_mono HO122.out (fun _ hk => trivial), by repeat (first | (with_reducible first | exact HB.out | apply below_alloc | apply pw_below_drewN | apply below_drew1) | exact HB.out)⟩

end Go.Proofs.Ytadcoeinnomjlaa.PG
