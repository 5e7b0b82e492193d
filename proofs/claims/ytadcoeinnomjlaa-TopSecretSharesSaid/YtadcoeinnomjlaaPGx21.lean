-- Written by a program of this session (a patched copy of the kit's print.py, over given contracts proved by hand). Lean checks it.
import Derived.Test.YtadcoeinnomjlaaPGx0
import Derived.Test.YtadcoeinnomjlaaPGx1
import Derived.Test.YtadcoeinnomjlaaPGx3
import Derived.Test.YtadcoeinnomjlaaPGx16
import Derived.Test.YtadcoeinnomjlaaPGx17
import Derived.Test.YtadcoeinnomjlaaFl
import Derived.Test.YtadcoeinnomjlaaTr
namespace Go.Proofs.Ytadcoeinnomjlaa.PG
open Go.RowKit Go.Proofs.YtadcoeinnomjlaaW.PrintWords Go.Proofs.YtadcoeinnomjlaaW.PrintLast Go.Proofs.YtadcoeinnomjlaaW.PrintMore
attribute [local go_sem] max2_int min2_int max_two min_two max_three min_three max_four min_four   -- for this text's walks alone
set_option linter.unusedVariables false
set_option linter.unusedSimpArgs false

-- IMPORT Fl Tr
/-! ### polynomial_Interpolate: function 17 -/
def itLoop (k : Nat) : List Int → List Int → List Int → List Int → Option (List Int)
  | x :: xs, y :: ys, out, base => (polynomial_Eval.f k out x).bind fun e1 => (polynomial_Eval.f k base x).bind fun e2 => (gf256_Div.f k (Go.bits .xor .u8 y e1) e2).bind fun c => (gf256_Scale.f base c.1).bind fun sc => (polynomial_Add.f k out sc).bind fun out1 => (polynomial_product.f k [x, 1] base).bind fun base1 => itLoop k xs ys out1 base1
  | _, _, out, _ => some out
theorem itLoop_mono (k : Nat) : ∀ xs ys out base, LeO (itLoop k xs ys out base) (itLoop (k + 1) xs ys out base) := by
  intro xs
  induction xs with
  | nil => intro ys out base; exact LeO.refl _
  | cons x xs ih =>
    intro ys out base
    cases ys with
    | nil => exact LeO.refl _
    | cons y ys => exact LeO.bind (polynomial_Eval.mono _ _ _) fun _ => LeO.bind (polynomial_Eval.mono _ _ _) fun _ => LeO.bind (gf256_Div.mono _ _ _) fun _ => LeO.bind (LeO.refl _) fun _ => LeO.bind (polynomial_Add.mono _ _ _) fun _ => LeO.bind (polynomial_product.mono _ _ _) fun _ => ih _ _ _
def polynomial_Interpolate.f (k : Nat) (l0 : List Int) (l1 : List Int) : Option (List Int × Int) := if l0.length = l1.length then (if (∀ x ∈ l0, 0 ≤ x ∧ x < 256) ∧ l0.length ≤ 140737488355328 then (if distD l0 l0.length 0 = true then (itLoop k l0 l1 [] [1]).bind fun t => some (t, 0) else some ([], 1)) else none) else some ([], 1)
theorem polynomial_Interpolate.mono : ∀ a0 a1 k, LeO (polynomial_Interpolate.f k a0 a1) (polynomial_Interpolate.f (k + 1) a0 a1) := by
  intro a0 a1 k
  unfold polynomial_Interpolate.f
  exact LeO.ite (LeO.ite (LeO.ite (LeO.bind (itLoop_mono _ _ _ _ _) (fun _ => LeO.refl _)) (LeO.refl _)) (LeO.refl _)) (LeO.refl _)
theorem it_drop_rd {l : List Int} {j : Nat} (h : j < l.length) : l.drop j = rd l (j : Int) :: l.drop (j + 1) := by
  rw [List.drop_eq_getElem_cons h]
  simp [rd, h]
set_option maxHeartbeats 8000000 in
set_option maxRecDepth 100000 in
theorem polynomial_Interpolate.calls (k : Nat) (A0 : Option Addr) (c0 : Nat) (l0 : List Int) (A1 : Option Addr) (c1 : Nat) (l1 : List Int) (r1 : List Int) (r2 : Int) (w : World) (hr0 : Kd.C (Kd.int .u8) w A0 l0.length l0) (hc0 : l0.length ≤ c0) (hr1 : Kd.C (Kd.int .u8) w A1 l1.length l1) (hc1 : l1.length ≤ c1) (h : polynomial_Interpolate.f k l0 l1 = some (r1, r2)) :
    Calls Try.prog 17 #[.slice A0 l0.length c0, .slice A1 l1.length c1] w fun e w' => ∃ v0_ : Value, e = .returned (.tuple #[v0_, .int .i64 r2]) ∧ Kd.R (Kd.int .u8) 5 w' w.heap.size (fun _ => True) v0_ r1 ∧ Below w.heap.size w w' := by
  have HR0 := Aside0.mk hr0
  have HR1 := Aside0.mk hr1
  clear hr0 hr1 hc0 hc1
  unfold polynomial_Interpolate.f at h
  by_cases hl : l0.length = l1.length
  · rw [if_pos hl] at h
    by_cases hc : (∀ x ∈ l0, 0 ≤ x ∧ x < 256) ∧ l0.length ≤ 140737488355328
    · rw [if_pos hc] at h
      obtain ⟨hall, hlen⟩ := hc
      have HAll := Aside0.mk hall
      clear hall
      have HH := Aside0.mk (show (if distD l0 (l0.length - 0) 0 = true then (itLoop k l0 l1 [] [1]).bind fun t => some (t, (0 : Int)) else some ([], 1)) = some (r1, r2) from h)
      clear h
      have hb1 : (l0.length == l1.length) = true := by rw [hl]; exact beq_self_eq_true _
      have hb2 : (((l0.length : Nat) : Int) == ((l1.length : Nat) : Int)) = true := by rw [hl]; exact beq_self_eq_true _
      have hb3 : (l0.length != l1.length) = false := by rw [hl]; exact bne_self_eq_false _
      have hb4 : (((l0.length : Nat) : Int) != ((l1.length : Nat) : Int)) = false := by rw [hl]; exact bne_self_eq_false _
      have HL := Aside0.mk hl
      clear hl
      have HZV := Aside0.mk (show ∀ w : World, (zeroValue 61).run Try.prog w = .ok (.agg (zArr (.bool false) 256)) w from fun _ => by kernel_rfl)
      go_enter Try.func17, Try.ntmps17
      go_wp2_with ((with_reducible refine alloc_arr rfl 61 rfl (zArr (.bool false) 256) HZV.out ?_))
      clear hb1 hb2 hb3 hb4
      go_loopw [22] (fun i wr => ∃ j : Nat, j ≤ l0.length ∧ i = .int .i64 j ∧ Aside0 ((if distD l0 (l0.length - j) j = true then (itLoop k l0 l1 [] [1]).bind fun t => some (t, (0 : Int)) else some ([], 1)) = some (r1, r2)) ∧ Aside0 (wr.heap[w.heap.size]? = some (.cells (seenT l0 j (zArr (.bool false) 256)) 61 (0, 0))) ∧ Aside0 (Below w.heap.size w wr)) (fun i _ => l0.length - (intOf i).toNat)
      case atStart => exact ⟨0, Nat.zero_le _, rfl, HH, ⟨blk_new _ _⟩, ⟨(Below.refl _ _).alloc (Nat.le_refl _) _⟩⟩
      case round =>
        clear HH
        obtain ⟨j, hj, rfl, HH, HT, HB⟩ := hrel
        by_cases hlt : j < l0.length
        · obtain ⟨ad, e1, hx⟩ := Kd.at_int (Kd.C_below HR0.out HB.out) (j : Int) (by omega) (by omega)
          subst e1
          rw [Int.toNat_natCast] at hx
          have hmem : rd l0 (j : Int) ∈ l0 := by
            simp only [rd, Int.toNat_natCast, List.getD_eq_getElem?_getD, List.getElem?_eq_getElem hlt, Option.getD_some]
            exact List.getElem_mem hlt
          have hb0 := HAll.out _ hmem
          clear hmem
          obtain ⟨n, hn⟩ : ∃ n : Nat, rd l0 (j : Int) = (n : Int) := ⟨(rd l0 (j : Int)).toNat, by omega⟩
          have hnlt : n < 256 := by omega
          clear hb0
          have hsn : (seenT l0 j (zArr (.bool false) 256))[n]? = some (.bool (among l0 (n : Int) j)) := by
            have := seenT_at l0 j (n : Int) (by rw [Int.toNat_natCast]; exact hnlt)
            rwa [Int.toNat_natCast] at this
          have hcell := (blk_cell HT.out n).trans hsn
          clear hsn
          have hfr := blk_frozen HT.out n
          have hd : distD l0 (l0.length - j) j = (!(among l0 (n : Int) j) && distD l0 (l0.length - (j + 1)) (j + 1)) := by
            rw [show l0.length - j = (l0.length - (j + 1)) + 1 by omega, distD, hn]
          have HN := Aside0.mk hn
          rw [hn] at hx
          have hh := HH.out
          rw [hd] at hh
          clear hn hd HH
          by_cases ha : among l0 (n : Int) j = true
          · rw [ha] at hcell hh
            rw [Bool.not_true, Bool.false_and, if_neg (by decide)] at hh
            have e := Option.some.inj hh
            rw [Prod.mk.injEq] at e
            obtain ⟨rfl, rfl⟩ := e
            clear ha hh
            go_wp2_with fail
            go_ret2
            exact ⟨_, rfl, Kd.R_nil _ _ _ _ _, HB.out⟩
          · have ha' : among l0 (n : Int) j = false := by simpa using ha
            rw [ha'] at hcell hh
            rw [Bool.not_false, Bool.true_and] at hh
            have HH2 := Aside0.mk hh
            clear ha ha' hh
            go_wp2_with fail
            go_roundw
            case rel => exact ⟨j + 1, hlt, by go_num, HH2, ⟨by have hs := blk_set HT.out n (.bool true); rw [seenT, HN.out, Int.toNat_natCast]; exact hs⟩, ⟨HB.out.setCell (Nat.le_refl _) _⟩⟩
            case measure => simp [intOf]; omega
        · obtain rfl : j = l0.length := by omega
          have hh := HH.out
          rw [Nat.sub_self, distD, if_pos rfl] at hh
          obtain ⟨t, A10, H⟩ := Option.bind_eq_some_iff.mp hh
          have e := Option.some.inj H
          rw [Prod.mk.injEq] at e
          obtain ⟨rfl, rfl⟩ := e
          have HA := Aside0.mk (show itLoop k (l0.drop 0) (l1.drop 0) [] [1] = some t from A10)
          clear hh A10 H HH HT
          go_wp2_with ((with_reducible refine gate_dst (N := 32) rfl ?_); refine Kd.R_lit (Kd.int .u8) (w0 := w) w.heap.size 5 ?hg (N := 32) ?hd (xs := ([1] : List Int)) (inner := [.int .u8 1]) (ok := fun _ => True) (okp := fun _ => True) ?hr ?hp (fun _ hk => hk) trivial HB.out HB.out.size (by simp) ?_; (case hd => rfl); (case hg => rfl); (case hr => first | (go_simp; done) | (go_simp; rfl)); (case hp => exact (Reps.one (show Kd.M (Kd.int .u8) _ _ _ 1 [.int .u8 1] from rfl) (Reps.none _ _))); intro v1 w1 ho hb hg_ hnew_; clear hg_ hnew_ HB; have HO := Aside0.mk ho; have HB := Aside0.mk hb; clear hb ho)
          go_loopw [9, 10, 35] (fun vo vb i wr => ∃ (j : Nat) (out base : List Int), j ≤ l0.length ∧ i = .int .i64 j ∧ Aside0 (itLoop k (l0.drop j) (l1.drop j) out base = some t) ∧ Aside0 (Kd.R (Kd.int .u8) 5 wr w.heap.size (fun _ => True) vo out) ∧ Aside0 (Kd.R (Kd.int .u8) 5 wr w.heap.size (fun _ => True) vb base) ∧ Aside0 (Below w.heap.size w wr)) (fun _ _ i _ => l0.length - (intOf i).toNat)
          case atStart => exact ⟨0, [], [1], Nat.zero_le _, rfl, HA, ⟨Kd.R_nil _ _ _ _ _⟩, HO, HB⟩
          case round =>
            clear HA HO HB
            obtain ⟨j, out, base, hj, rfl, HA, HO, HV, HB⟩ := hrel
            by_cases hlt : j < l0.length
            · obtain ⟨ad, e1, hx⟩ := Kd.at_int (Kd.C_below HR0.out HB.out) (j : Int) (by omega) (by omega)
              subst e1
              have hl1 : j < l1.length := by rw [← HL.out]; exact hlt
              obtain ⟨ad1, e2, hy⟩ := Kd.at_int (Kd.C_below HR1.out HB.out) (j : Int) (by omega) (by omega)
              subst e2
              rw [Int.toNat_natCast] at hx hy
              have ha := HA.out
              rw [it_drop_rd hlt, it_drop_rd hl1, itLoop] at ha
              obtain ⟨e1, B1, ha⟩ := Option.bind_eq_some_iff.mp ha
              obtain ⟨e2, B2, ha⟩ := Option.bind_eq_some_iff.mp ha
              obtain ⟨⟨c, ce⟩, B3, ha⟩ := Option.bind_eq_some_iff.mp ha
              obtain ⟨sc, B4, ha⟩ := Option.bind_eq_some_iff.mp ha
              obtain ⟨out1, B5, ha⟩ := Option.bind_eq_some_iff.mp ha
              obtain ⟨base1, B6, ha⟩ := Option.bind_eq_some_iff.mp ha
              have E1 := Aside0.mk B1
              have E2 := Aside0.mk B2
              have E3 := Aside0.mk B3
              have E4 := Aside0.mk (show gf256_Scale.f base c = some sc from B4)
              have E5 := Aside0.mk B5
              have E6 := Aside0.mk B6
              have HA2 := Aside0.mk ha
              clear B1 B2 B3 B4 B5 B6 ha HA
              obtain ⟨Ao, co, eo⟩ := Kd.R_slice HO.out
              subst eo
              obtain ⟨Ab, cb, eb⟩ := Kd.R_slice HV.out
              subst eb
              go_wp2_with fail
              go_quiet (first
                | (go_at_call 28; (with_reducible refine (polynomial_Eval.calls k _ _ out (rd l0 (j : Int)) e1 _ ?s1 ?s2 E1.out).mono ?_); (case s1 => repeat (first | exact (Kd.R_reads' HO.out).2.2 | (with_reducible refine Kd.C_drewN ?_ _) | (with_reducible refine Kd.C_drew ?_))); (case s2 => exact (Kd.R_reads' HO.out).2.1); rintro e w' ⟨rfl, ⟨nd, rfl⟩⟩; (try first | exact ⟨rfl, _, World.drewN_drewN _ _ _⟩ | exact ⟨rfl, _, Eq.trans (World.drewN_drewN _ _ _) (congrArg (World.drewN _) (Nat.add_assoc _ _ _))⟩))
                | (go_at_call 28; (with_reducible refine (polynomial_Eval.calls k _ _ base (rd l0 (j : Int)) e2 _ ?s3 ?s4 E2.out).mono ?_); (case s3 => repeat (first | exact (Kd.R_reads' HV.out).2.2 | (with_reducible refine Kd.C_drewN ?_ _) | (with_reducible refine Kd.C_drew ?_))); (case s4 => exact (Kd.R_reads' HV.out).2.1); rintro e w' ⟨rfl, ⟨nd, rfl⟩⟩; (try first | exact ⟨rfl, _, World.drewN_drewN _ _ _⟩ | exact ⟨rfl, _, Eq.trans (World.drewN_drewN _ _ _) (congrArg (World.drewN _) (Nat.add_assoc _ _ _))⟩))
                | (go_at_call 27; (with_reducible refine (gf256_Add.calls (rd l1 (j : Int)) e1 _ _ rfl).mono ?_); rintro e w' ⟨rfl, ⟨nd, rfl⟩⟩; (try first | exact ⟨rfl, _, World.drewN_drewN _ _ _⟩ | exact ⟨rfl, _, Eq.trans (World.drewN_drewN _ _ _) (congrArg (World.drewN _) (Nat.add_assoc _ _ _))⟩))
                | (go_at_call 26; (with_reducible refine (gf256_Div.calls k _ _ c ce _ E3.out).mono ?_); rintro e w' ⟨rfl, ⟨nd, rfl⟩⟩; (try first | exact ⟨rfl, _, World.drewN_drewN _ _ _⟩ | exact ⟨rfl, _, Eq.trans (World.drewN_drewN _ _ _) (congrArg (World.drewN _) (Nat.add_assoc _ _ _))⟩)))
              go_wp2_with (first
                | (go_at_call 30; (with_reducible refine (gf256_Scale.calls _ _ base c sc _ ?t1 ?t2 E4.out).mono ?_); (case t1 => repeat (first | exact (Kd.R_reads' HV.out).2.2 | (with_reducible refine Kd.C_drewN ?_ _) | (with_reducible refine Kd.C_drew ?_))); (case t2 => exact (Kd.R_reads' HV.out).2.1); rintro e w2 ⟨v2, rfl, ho, hb⟩; have HW := Aside0.mk (show Below wr.heap.size wr w2 from below_then (pw_below_drewN (Below.refl _ _) _) (Nat.le_refl _) hb); have HS := Aside0.mk (Kd.R_lower ho HB.out.size); have HO2 := Aside0.mk (Kd.R_below HO.out HW.out); have HV2 := Aside0.mk (Kd.R_below HV.out HW.out); have HB2 := Aside0.mk (below_then HB.out HB.out.size HW.out); clear ho hb; obtain ⟨As, cs, es⟩ := Kd.R_slice HS.out; subst es)
                | (go_at_call 29; (with_reducible refine (polynomial_Add.calls k _ _ out _ _ sc out1 _ ?t3 ?t4 ?t5 ?t6 E5.out).mono ?_); (case t3 => exact (Kd.R_reads' HO2.out).2.2); (case t4 => exact (Kd.R_reads' HO2.out).2.1); (case t5 => exact (Kd.R_reads' HS.out).2.2); (case t6 => exact (Kd.R_reads' HS.out).2.1); rintro e w3 ⟨v3, rfl, ho, hb⟩; have HO3 := Aside0.mk (Kd.R_lower ho HB2.out.size); have HV3 := Aside0.mk (Kd.R_below HV2.out hb); have HB3 := Aside0.mk (below_then HB2.out HB2.out.size hb); clear ho hb)
                | (go_at_call 31; refine (timesRoot.calls _ _).mono ?_; rintro e w4 ⟨rfl, rfl⟩)
                | (go_at_call 42; (with_reducible refine (tr1.calls k (rd l0 (j : Int)) _ _ base base1 _ _ ?t7 ?t8 ?t9 E6.out).mono ?_); (case t7 => exact blk_new _ _); (case t8 => exact Kd.C_alloc (Kd.R_reads' HV3.out).2.2 _); (case t9 => exact (Kd.R_reads' HV3.out).2.1); rintro e w5 ⟨v5, rfl, ho, hb⟩; have HV5 := Aside0.mk (Kd.R_lower ho (Nat.le_trans HB3.out.size (by simp))); have HO5 := Aside0.mk (Kd.R_below (Kd.R_alloc HO3.out _) hb); have HB5 := Aside0.mk (below_then (below_alloc HB3.out _) (Nat.le_trans HB3.out.size (by simp)) hb); clear ho hb))
              go_roundw
              case rel => exact ⟨j + 1, out1, base1, hlt, by go_num, HA2, HO5, HV5, HB5⟩
              case measure => simp [intOf]; omega
            · obtain rfl : j = l0.length := by omega
              have ha := HA.out
              rw [List.drop_length, itLoop] at ha
              · obtain rfl := Option.some.inj ha
                clear ha HA
                go_wp2_with fail
                go_ret2
                exact ⟨_, rfl, HO.out, HB.out⟩
              · intro x xs y ys h; cases h
    · rw [if_neg hc] at h
      exact absurd h (by simp)
  · rw [if_neg hl] at h
    have e := Option.some.inj h
    rw [Prod.mk.injEq] at e
    obtain ⟨rfl, rfl⟩ := e
    clear h
    have hb1 : (l0.length == l1.length) = false := beq_eq_false_iff_ne.2 hl
    have hb2 : (((l0.length : Nat) : Int) == ((l1.length : Nat) : Int)) = false := beq_eq_false_iff_ne.2 (by omega)
    have hb3 : (l0.length != l1.length) = true := bne_iff_ne.2 hl
    have hb4 : (((l0.length : Nat) : Int) != ((l1.length : Nat) : Int)) = true := bne_iff_ne.2 (by omega)
    go_enter Try.func17, Try.ntmps17
    go_wp2_with fail
    go_ret2
    exact ⟨_, rfl, Kd.R_nil _ _ _ _ _, Below.refl _ _⟩

end Go.Proofs.Ytadcoeinnomjlaa.PG
