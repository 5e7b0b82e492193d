/- TopSecretShares: the walk, where the answers of all calls are known. -/
import Derived.Test.YtadcoeinnomjlaaPGx44
import Derived.Test.YtadcoeinnomjlaaPGx46
import Derived.Test.YtadcoeinnomjlaaPGx47
import Derived.Test.YtadcoeinnomjlaaPGx48
import Derived.Test.YtadcoeinnomjlaaMap
import Derived.Outline
namespace Go.Proofs.Ytadcoeinnomjlaa.PG
open Go.RowKit Go.Maps Go.Proofs.YtadcoeinnomjlaaW.PrintWords Go.Proofs.YtadcoeinnomjlaaW.PrintLast Go.Proofs.YtadcoeinnomjlaaW.PrintMore
set_option linter.unusedVariables false
set_option linter.unusedSimpArgs false
/-- The device that a seat names. -/
def dayOf (x : Int) : Int := (wrap64 (x.tmod 12 + 12)).tmod 12
theorem tmod12 (x : Int) : -12 < x.tmod 12 ∧ x.tmod 12 < 12 := by
  rcases Int.le_total 0 x with h | h
  · rw [Int.tmod_eq_emod_of_nonneg h]
    omega
  · have e : x.tmod 12 = -((-x).tmod 12) := by rw [Int.neg_tmod, Int.neg_neg]
    rw [e, Int.tmod_eq_emod_of_nonneg (by omega : 0 ≤ -x)]
    omega
theorem dayOf_range (x : Int) : 0 ≤ dayOf x ∧ dayOf x < 12 := by
  have h := tmod12 x
  have e : wrap64 (x.tmod 12 + 12) = x.tmod 12 + 12 := by unfold wrap64; omega
  unfold dayOf
  rw [e, Int.tmod_eq_emod_of_nonneg (by omega)]
  omega
/-- The members that the seats give. -/
def memGo (t : Int) : List Int → List Int → List Int
  | acc, [] => acc
  | acc, x :: l => memGo t (if dayOf x ∉ acc ∧ (acc.length : Int) < t then acc ++ [dayOf x] else acc) l
theorem MapB.apart {P : Program} {K E : TypeId} {w : World} {b n : Nat} {ks : List Int} (h : MapB P K E w b n ks) {v : Value} {e : TypeId} (ht : ∀ k, v.ownBlock = some k → ∃ cells, w.heap[k]? = some (.cells cells e (0, 0))) : some b ≠ v.ownBlock := fun he => by
  obtain ⟨D, ⟨es, clock, hb, _⟩, _⟩ := h
  obtain ⟨cells, hc⟩ := ht b he.symm
  rw [hb] at hc
  cases hc
theorem R_over_map {α : Type} {d : Kd α} {P : Program} {K E : TypeId} {e : Nat} {W w1 : World} {base : Nat} {ok : Nat → Prop} {u : Value} {xs : List α} {b n : Nat} {ks : List Int} (h : d.R e W base ok u xs) (hm : MapB P K E W b n ks) (hg : W.grownBy w1 (some b)) : d.R e w1 base ok u xs := by
  refine Kd.R_mono (Kd.R_move (Kd.R_bound h) (fun k hk => hg.block k hk.2.2.1 (fun he => ?_))) (fun _ hk => hk.1)
  obtain ⟨_, _, _, q, hq, cells, hc⟩ := hk
  obtain ⟨D, ⟨es, clock, hb, _⟩, _⟩ := hm
  injection he with he
  subst he
  rw [hb] at hc
  cases hc
theorem few_cut (A : Option Addr) (n c T : Nat) (h : T ≤ c) (w : World) : (Instr.slice 26 (.slice A n c) none (some (.int .i64 (T : Int))) none).run Try.prog w = .ok (.slice A T c) w := by
  have e : Try.prog.elem 26 = 39 := by kernel_rfl
  have es : (sizeOf 39).run Try.prog w = .ok 2 w := by kernel_rfl
  rw [run_slice_h w 26 A n c (by rw [e]; exact Try.underlying26) .i64 (T : Int) (by omega) (by omega), e, es]
  simp [Result.andThen, sliced, Addr.add]
theorem bytes_C (W : World) (s : ByteArray) (h : s.size = 32) : Kd.C (Kd.int .u8) (Lib.bytesWorld W 5 s) (some ⟨W.heap.size, 0, none⟩) (bytesOf s).length (bytesOf s) := by
  rw [bytesOf_length]
  exact Kd.C_of_reads (d := (0 : Int)) (h1 := fun _ => rfl) (bytes_reads W 5 s (by omega))
theorem flat_step {l : List (List Int)} {j : Nat} (h : j < l.length) : (l.take (j + 1)).flatten = (l.take j).flatten ++ rd_L2 l (j : Int) := by
  rw [List.take_succ_eq_append_getElem h, List.flatten_append]
  simp [rd_L2, h]
theorem flat_le {l : List (List Int)} {j : Nat} (h : j < l.length) : (l.take j).flatten.length + (rd_L2 l (j : Int)).length ≤ l.flatten.length := by
  have e : l.flatten = (l.take (j + 1)).flatten ++ (l.drop (j + 1)).flatten := by rw [← List.flatten_append, List.take_append_drop]
  rw [e, flat_step h, List.length_append, List.length_append]
  omega
def TopGuard (a0 a1 : ByteArray) (a2 : Int) (l3 l4 l5 : List Int) : Prop :=
  a0.size = 32 ∧ a1.size = 32 ∧ 1 ≤ a2 ∧ a2 ≤ 5 ∧ (l4.length : Int) = 32 * (a2 - 1) ∧ l5.length = l4.length ∧ l3.length ≤ 30
/-- What the calls answer. -/
def TopFacts (k : Nat) (a0 a1 : ByteArray) (a2 : Int) (M l4 l5 : List Int) : Prop :=
  ∃ (T : Nat) (all again guessed : List S39) (lists : List (List Int)) (b : Bool), a2 = (T : Int) + 1 ∧ M.length ≤ 5 ∧
    keyring_Shares.f k a0 a2 M l4 = some (all, 0) ∧ all.length = T + 1 ∧
    shamir_Fits.f k (bytesOf a1) (all.take T) a2 = some (lists, 0) ∧ lists.length = T ∧ lists.flatten.length ≤ 1000 ∧
    keyring_Shares.f k a1 a2 M lists.flatten = some (again, 0) ∧ again.length = T + 1 ∧ kinkeeptop_a16Same.f k (again.take T) (all.take T) = some true ∧
    keyring_Shares.f k a1 a2 M l5 = some (guessed, 0) ∧ guessed.length = T + 1 ∧ kinkeeptop_a16Same.f k (guessed.take T) (all.take T) = some b ∧
    ((strOfNums l5).toList == (strOfNums lists.flatten).toList) = b
theorem seats_rd {l : List Int} {j : Nat} (h : j < l.length) : l.drop j = rd l (j : Int) :: l.drop (j + 1) := by
  rw [List.drop_eq_getElem_cons h]
  simp [rd, h]
set_option maxHeartbeats 16000000 in
set_option maxRecDepth 100000 in
theorem top.calls (k : Nat) (a0 a1 : ByteArray) (a2 : Int) (A3 : Option Addr) (c3 : Nat) (l3 : List Int) (A4 : Option Addr) (c4 : Nat) (l4 : List Int) (A5 : Option Addr) (c5 : Nat) (l5 : List Int) (w : World) (hr3 : Kd.C (Kd.int .i64) w A3 l3.length l3) (hc3 : l3.length ≤ c3) (hr4 : Kd.C (Kd.int .u8) w A4 l4.length l4) (hc4 : l4.length ≤ c4) (hr5 : Kd.C (Kd.int .u8) w A5 l5.length l5) (hc5 : l5.length ≤ c5)
    (hAw : kinkeeptop_a16Awake.f k = some true) (hP : TopGuard a0 a1 a2 l3 l4 l5 → ¬ ((memGo a2 [] l3).length : Int) < a2 → TopFacts k a0 a1 a2 (memGo a2 [] l3) l4 l5) :
    Calls Try.prog 3 #[.string a0, .string a1, .int .i64 a2, .slice A3 l3.length c3, .slice A4 l4.length c4, .slice A5 l5.length c5] w fun e w' => e = .returned (.bool true) ∧ Below w.heap.size w w' := by
  have HR3 := Aside0.mk hr3
  have HR4 := Aside0.mk hr4
  have HR5 := Aside0.mk hr5
  have HC3 := Aside0.mk hc3
  have HC4 := Aside0.mk hc4
  have HC5 := Aside0.mk hc5
  have HAw := Aside0.mk hAw
  have HP := Aside0.mk hP
  clear hr3 hr4 hr5 hc3 hc4 hc5 hAw hP
  by_cases g0 : a0.size = 32
  rotate_left
  · have d0 : ((a0.size : Int) != 32) = true := bne_iff_ne.mpr (by omega)
    clear g0
    go_enter Try.func3, Try.ntmps3
    go_wp2_with (go_at_call 4; refine (kinkeeptop_a16Awake.calls k true _ HAw.out).mono ?_; rintro e w1 ⟨rfl, hb⟩; (first | (have HB2 := Aside0.mk (below_then HB.out HB.out.size hb); clear HB; have HB := HB2; clear HB2) | have HB := Aside0.mk hb); clear hb)
    go_ret
    exact ⟨rfl, HB.out⟩
  have d0 : ((a0.size : Int) != 32) = false := bne_eq_false_iff_eq.mpr (by omega)
  by_cases g1 : a1.size = 32
  rotate_left
  · have d1 : ((a1.size : Int) != 32) = true := bne_iff_ne.mpr (by omega)
    clear g0 g1
    go_enter Try.func3, Try.ntmps3
    go_wp2_with (go_at_call 4; refine (kinkeeptop_a16Awake.calls k true _ HAw.out).mono ?_; rintro e w1 ⟨rfl, hb⟩; (first | (have HB2 := Aside0.mk (below_then HB.out HB.out.size hb); clear HB; have HB := HB2; clear HB2) | have HB := Aside0.mk hb); clear hb)
    go_ret
    exact ⟨rfl, HB.out⟩
  have d1 : ((a1.size : Int) != 32) = false := bne_eq_false_iff_eq.mpr (by omega)
  by_cases g2 : 1 ≤ a2
  rotate_left
  · have d2 : decide (a2 < 1) = true := decide_eq_true (by omega)
    clear g0 g1 g2
    go_enter Try.func3, Try.ntmps3
    go_wp2_with (go_at_call 4; refine (kinkeeptop_a16Awake.calls k true _ HAw.out).mono ?_; rintro e w1 ⟨rfl, hb⟩; (first | (have HB2 := Aside0.mk (below_then HB.out HB.out.size hb); clear HB; have HB := HB2; clear HB2) | have HB := Aside0.mk hb); clear hb)
    go_ret
    exact ⟨rfl, HB.out⟩
  have d2 : decide (a2 < 1) = false := decide_eq_false (by omega)
  by_cases g3 : a2 ≤ 5
  rotate_left
  · have d3 : decide (5 < a2) = true := decide_eq_true (by omega)
    clear g0 g1 g2 g3
    go_enter Try.func3, Try.ntmps3
    go_wp2_with (go_at_call 4; refine (kinkeeptop_a16Awake.calls k true _ HAw.out).mono ?_; rintro e w1 ⟨rfl, hb⟩; (first | (have HB2 := Aside0.mk (below_then HB.out HB.out.size hb); clear HB; have HB := HB2; clear HB2) | have HB := Aside0.mk hb); clear hb)
    go_ret
    exact ⟨rfl, HB.out⟩
  have d3 : decide (5 < a2) = false := decide_eq_false (by omega)
  have hw1 : wrap64 (a2 - 1) = a2 - 1 := by unfold wrap64; omega
  have hw1' : IntKind.i64.wrap (a2 - 1) = a2 - 1 := by rw [i64_w]; exact hw1
  have hw2 : wrap64 (32 * (a2 - 1)) = 32 * (a2 - 1) := by unfold wrap64; omega
  have hw2' : IntKind.i64.wrap (32 * (a2 - 1)) = 32 * (a2 - 1) := by rw [i64_w]; exact hw2
  by_cases g4 : (l4.length : Int) = 32 * (a2 - 1)
  rotate_left
  · have d4 : ((l4.length : Int) != 32 * (a2 - 1)) = true := bne_iff_ne.mpr (by omega)
    clear g0 g1 g2 g3 g4
    go_enter Try.func3, Try.ntmps3
    go_wp2_with (go_at_call 4; refine (kinkeeptop_a16Awake.calls k true _ HAw.out).mono ?_; rintro e w1 ⟨rfl, hb⟩; (first | (have HB2 := Aside0.mk (below_then HB.out HB.out.size hb); clear HB; have HB := HB2; clear HB2) | have HB := Aside0.mk hb); clear hb)
    go_ret
    exact ⟨rfl, HB.out⟩
  have d4 : ((l4.length : Int) != 32 * (a2 - 1)) = false := bne_eq_false_iff_eq.mpr (by omega)
  by_cases g5 : l5.length = l4.length
  rotate_left
  · have d5 : ((l5.length : Int) != (l4.length : Int)) = true := bne_iff_ne.mpr (by omega)
    clear g0 g1 g2 g3 g4 g5
    go_enter Try.func3, Try.ntmps3
    go_wp2_with (go_at_call 4; refine (kinkeeptop_a16Awake.calls k true _ HAw.out).mono ?_; rintro e w1 ⟨rfl, hb⟩; (first | (have HB2 := Aside0.mk (below_then HB.out HB.out.size hb); clear HB; have HB := HB2; clear HB2) | have HB := Aside0.mk hb); clear hb)
    go_ret
    exact ⟨rfl, HB.out⟩
  have d5 : ((l5.length : Int) != (l4.length : Int)) = false := bne_eq_false_iff_eq.mpr (by omega)
  by_cases g6 : l3.length ≤ 30
  rotate_left
  · have d6 : decide (30 < (l3.length : Int)) = true := decide_eq_true (by omega)
    clear g0 g1 g2 g3 g4 g5 g6
    go_enter Try.func3, Try.ntmps3
    go_wp2_with (go_at_call 4; refine (kinkeeptop_a16Awake.calls k true _ HAw.out).mono ?_; rintro e w1 ⟨rfl, hb⟩; (first | (have HB2 := Aside0.mk (below_then HB.out HB.out.size hb); clear HB; have HB := HB2; clear HB2) | have HB := Aside0.mk hb); clear hb)
    go_ret
    exact ⟨rfl, HB.out⟩
  have d6 : decide (30 < (l3.length : Int)) = false := decide_eq_false (by omega)
  have HG := Aside0.mk (show TopGuard a0 a1 a2 l3 l4 l5 from ⟨g0, g1, g2, g3, g4, g5, g6⟩)
  clear g0 g1 g4 g5
  have HLen := Aside0.mk g6
  have hz := @run_makeMap Try.prog
  have HT := Aside0.mk (show Try.prog.underlying 25 = some (.map 3 4) from by kernel_rfl)
  have HK := Aside0.mk (show Try.prog.underlying 3 = some (.int .i64) from by kernel_rfl)
  have HE := Aside0.mk (show Try.prog.underlying 4 = some .bool from by kernel_rfl)
  have HZ := Aside0.mk (show ∀ w : World, (zeroValue 4).run Try.prog w = .ok (.bool false) w from fun _ => by kernel_rfl)
  obtain ⟨M, hM⟩ : ∃ M, M = memGo a2 [] l3 := ⟨_, rfl⟩
  rw [← hM] at HP
  have HM := Aside0.mk hM.symm
  clear hM
  go_enter Try.func3, Try.ntmps3
  go_wp2_with (first | (go_at_call 4; refine (kinkeeptop_a16Awake.calls k true _ HAw.out).mono ?_; rintro e w1 ⟨rfl, hb⟩; (first | (have HB2 := Aside0.mk (below_then HB.out HB.out.size hb); clear HB; have HB := HB2; clear HB2) | have HB := Aside0.mk hb); clear hb) | ((with_reducible refine gate_dst (N := 70) rfl ?_); refine Kd.R_lit (Kd.int .i64) w.heap.size 3 ?hg (N := 70) ?hd (xs := ([] : List Int)) (inner := []) (ok := fun _ => True) (okp := fun _ => True) ?hr ?hp (fun _ hk => hk) trivial HB.out HB.out.size (by simp) ?_; (case hd => rfl); (case hg => rfl); (case hr => first | (go_simp; done) | (go_simp; rfl)); (case hp => exact (Reps.none _ _)); intro v13 w2 ho hb hg_ hnew_; clear hg_ hnew_; clear HB; have HO := Aside0.mk ho; have HB := Aside0.mk hb; clear ho hb))
  have HMp := Aside0.mk (MapB.made Try.prog 3 4 w2)
  obtain ⟨mb, hmb⟩ : ∃ mb, mb = w2.heap.size := ⟨_, rfl⟩
  rw [← hmb] at HMp ⊢
  have HMb := Aside0.mk (show w.heap.size ≤ mb from hmb ▸ HB.out.size)
  clear hmb hz
  go_loopw [13, 74] (fun v13 i wr => ∃ (j : Nat) (acc : List Int), j ≤ l3.length ∧ i = .int .i64 j ∧ acc.length ≤ j ∧ Aside0 (memGo a2 acc (l3.drop j) = M) ∧ Aside0 (Kd.R (Kd.int .i64) 3 wr w.heap.size (fun _ => True) v13 acc) ∧ Aside0 (MapB Try.prog 3 4 wr mb j acc) ∧ Aside0 (Below w.heap.size w wr)) (fun _ i _ => l3.length - (intOf i).toNat)
  case atStart => exact ⟨0, [], Nat.zero_le _, rfl, Nat.le_refl _, HM, ⟨Kd.R_alloc HO.out _⟩, HMp, ⟨below_alloc HB.out _⟩⟩
  case round =>
    clear HO HMp HB HM
    obtain ⟨j, acc, hj, rfl, haj, HM, HO, HMp, HB⟩ := hrel
    by_cases hlt : j < l3.length
    · obtain ⟨ad, e1, hx⟩ := Kd.at_int (Kd.C_below HR3.out HB.out) (j : Int) (by omega) (by omega)
      subst e1
      rw [Int.toNat_natCast] at hx
      have hM := HM.out
      rw [seats_rd hlt, memGo] at hM
      obtain ⟨x, hxe⟩ : ∃ x, rd l3 (j : Int) = x := ⟨_, rfl⟩
      rw [hxe] at hM hx
      have hdr := dayOf_range x
      obtain ⟨d, hd⟩ : ∃ d, dayOf x = d := ⟨_, rfl⟩
      rw [hd] at hM hdr
      have hday : (wrap64 (x.tmod 12 + 12)).tmod 12 = d := hd
      have hday' : (IntKind.i64.wrap (x.tmod 12 + 12)).tmod 12 = d := by rw [i64_w]; exact hd
      have hwf : (Lit.int .i64 d).wf = true := by
        have e0 : IntKind.i64.min = -9223372036854775808 := rfl
        have e1 : IntKind.i64.max = 9223372036854775807 := rfl
        simp [Lit.wf, e0, e1]
        omega
      have hlk := HMp.out.lookup HT.out HK.out HE.out (HZ.out wr) hwf
      obtain ⟨Ao, co, eo⟩ := Kd.R_slice HO.out
      subst eo
      clear hxe hd hdr HM
      by_cases hm : d ∈ acc
      · rw [decide_eq_true hm] at hlk
        rw [if_neg (fun h => h.1 hm)] at hM
        have HM := Aside0.mk hM
        clear hM hm hwf
        go_wp2_with fail
        go_roundw
        case rel => exact ⟨j + 1, acc, hlt, by go_num, by omega, HM, HO, ⟨HMp.out.mono (Nat.le_succ _)⟩, HB⟩
        case measure => simp [intOf]; omega
      · rw [decide_eq_false hm] at hlk
        by_cases hl : (acc.length : Int) < a2
        · rw [if_pos ⟨hm, hl⟩] at hM
          have hdl : decide ((acc.length : Int) < a2) = true := decide_eq_true hl
          have HM := Aside0.mk hM
          obtain ⟨w3, hup, hM1, hg⟩ := HMp.out.update HT.out HK.out HE.out (by unfold maxLen; omega) hwf
          have HM1 := Aside0.mk hM1
          have HO1 := Aside0.mk (R_over_map HO.out HMp.out hg)
          have HB1 := Aside0.mk (HB.out.grown hg HB.out.size (fun k hk => by injection hk with hk; subst hk; exact HMb.out))
          clear hM hm hwf hM1 hg HO HMp HB hl
          go_wp2_with (first | ((with_reducible refine gate_builtin (b := .append) (xs := #[.tmp 94, .tmp 96]) rfl ?_); (try (refine gate_guard (by rfl) ?_; dsimp only)); at_builtin; refine Kd.R_append (Kd.int .i64) (w0 := w) w.heap.size rfl (.tmp 94) (.tmp 96) 22 3 (.int .i64 0) 8 rfl Try.underlying22 info3 rfl (by decide) (by omega) _ acc d [.int .i64 d] (fun _ => True) (fun _ => False) rfl rfl ?aP (fun _ hk => hk.elim) ?aF ?aO ?aB ?aS ?aL ?_; (case aP => exact rfl); (case aB => exact HB1.out); (case aF => exact (fun _ _ => trivial)); (case aO => exact HO1.out); (case aS => exact HB1.out.size); (case aL => omega); intro v1 w4 ho hb hg hat; have HO2 := Aside0.mk ho; have HB2 := Aside0.mk hb; have HM2 := Aside0.mk (HM1.out.kept hg (HM1.out.apart (Kd.R_typed HO1.out))); clear ho hb hg hat))
          go_roundw
          case rel => exact ⟨j + 1, acc ++ [d], hlt, by go_num, by (simp; omega), HM, HO2, HM2, HB2⟩
          case measure => simp [intOf]; omega
        · rw [if_neg (fun h => hl h.2)] at hM
          have hdl : decide ((acc.length : Int) < a2) = false := decide_eq_false hl
          have HM := Aside0.mk hM
          clear hM hm hwf
          go_wp2_with fail
          go_roundw
          case rel => exact ⟨j + 1, acc, hlt, by go_num, by omega, HM, HO, ⟨HMp.out.mono (Nat.le_succ _)⟩, HB⟩
          case measure => simp [intOf]; omega
    · obtain rfl : j = l3.length := by omega
      have hM := HM.out
      rw [List.drop_length, memGo] at hM
      subst hM
      clear HM HMp
      by_cases hfew : (acc.length : Int) < a2
      · have hdf : decide ((acc.length : Int) < a2) = true := decide_eq_true hfew
        obtain ⟨Ao, co, eo⟩ := Kd.R_slice HO.out
        subst eo
        clear hfew
        go_wp2_with fail
        go_ret
        exact ⟨rfl, HB.out⟩
      · have hdf : decide ((acc.length : Int) < a2) = false := decide_eq_false hfew
        obtain ⟨T, all, again, guessed, lists, b, hT, hM5, hs1, hall, hf, hlists, hflat, hs2, hagain, hsame, hs3, hguess, hsame2, hstr⟩ := HP.out HG.out (by omega)
        have hz1 : a1.size = 32 := HG.out.2.1
        have hT4 : T ≤ 4 := by omega
        have hT1 : wrap64 (a2 - 1) = (T : Int) := by rw [hw1]; omega
        have hT1' : IntKind.i64.wrap (a2 - 1) = (T : Int) := by rw [hw1']; omega
        have hd1 : ((all.length : Int) != a2) = false := bne_eq_false_iff_eq.mpr (by omega)
        have hd2 : ((lists.length : Int) != (T : Int)) = false := bne_eq_false_iff_eq.mpr (by omega)
        have hd3 : ((again.length : Int) != a2) = false := bne_eq_false_iff_eq.mpr (by omega)
        have hd4 : ((guessed.length : Int) != a2) = false := bne_eq_false_iff_eq.mpr (by omega)
        have hl1 : (all.take T).length = T := by rw [List.length_take]; omega
        have hl2 : (again.take T).length = T := by rw [List.length_take]; omega
        have hl3 : (guessed.take T).length = T := by rw [List.length_take]; omega
        have Hhs1 := Aside0.mk hs1
        have Hhs2 := Aside0.mk hs2
        have Hhs3 := Aside0.mk hs3
        have Hhf := Aside0.mk hf
        have Hhsame := Aside0.mk hsame
        have Hhsame2 := Aside0.mk hsame2
        have Hhall := Aside0.mk hall
        have Hhagain := Aside0.mk hagain
        have Hhguess := Aside0.mk hguess
        have Hhlists := Aside0.mk hlists
        have Hhflat := Aside0.mk hflat
        have Hhl1 := Aside0.mk hl1
        have Hhl2 := Aside0.mk hl2
        have Hhl3 := Aside0.mk hl3
        have Hhstr := Aside0.mk hstr
        have Hhz1 := Aside0.mk hz1
        have HhT4 := Aside0.mk hT4
        have kb := fun W => print_bytes (P := Try.prog) 9 23 5 Try.underlying9 Try.underlying23 Try.underlying5 a1 W
        obtain ⟨Ao, co, eo⟩ := Kd.R_slice HO.out
        subst eo
        have HCm := Aside0.mk (Kd.R_reads' HO.out).2.2
        have HCmc := Aside0.mk (Kd.R_reads' HO.out).2.1
        clear hs1 hs2 hs3 hf hsame hsame2 hall hagain hguess hlists hflat hl1 hl2 hl3 hstr hz1 hT4 hT hM5 hfew hw1 hw1' hw2 hw2' HO d0 d1 d2 d3 d4 d5 d6 g2 g3 g6
        go_wp2_with (first | (go_at_call 5; refine (keyring_Shares.calls k a0 a2 _ _ acc _ _ l4 all 0 _ HCm.out HCmc.out (Kd.C_below HR4.out HB.out) HC4.out Hhs1.out).mono ?_; rintro e wN ⟨vN, rfl, hs, hb⟩; obtain ⟨Aa, ca, ea⟩ := Kd.S_slice hs; subst ea; have hrd := Kd.S_reads' hs; clear Hhs1; have HCall := Aside0.mk hrd.2.2; have HCallc := Aside0.mk hrd.2.1; have HcutA := Aside0.mk (fun W => few_cut Aa all.length ca T (by have := hrd.2.1; have := Hhall.out; omega) W); have hcutA := HcutA.out; have XHCm := Aside0.mk (Kd.C_below HCm.out hb); clear HCm; have HCm := XHCm; clear XHCm; have XB := Aside0.mk (below_then HB.out HB.out.size hb); clear HB; have HB := XB; clear XB; clear hs hb hrd) | (go_at_call 6; refine calls_of_args (args' := #[.slice (some ⟨wN.heap.size, 0, none⟩) (bytesOf a1).length (grownCap wN a1.size 0 5), .slice Aa (all.take T).length ca, .int .i64 a2]) (by rw [bytesOf_length, Hhl1.out]) ?_; have hbb := bytes_below (Below.refl wN.heap.size wN) (Nat.le_refl _) 5 a1; refine (shamir_Fits.calls k _ _ (bytesOf a1) _ _ (all.take T) a2 lists 0 _ (bytes_C wN a1 Hhz1.out) (by rw [bytesOf_length]; exact grownCap_ge _ _ _ _) (Kd.C_below (Kd.C_take HCall.out (by have := Hhall.out; omega)) hbb) (by have := HCallc.out; have := Hhl1.out; have := Hhall.out; omega) Hhf.out).mono ?_; rintro e w3 ⟨v20, rfl, hs, hb⟩; obtain ⟨Al, cl, el⟩ := Kd.S_slice hs; subst el; have hrd := Kd.S_reads' hs; have HCl := Aside0.mk hrd.2.2; have hb2 := below_then hbb hbb.size hb; have XHCm := Aside0.mk (Kd.C_below HCm.out hb2); clear HCm; have HCm := XHCm; clear XHCm; have XHCall := Aside0.mk (Kd.C_below HCall.out hb2); clear HCall; have HCall := XHCall; clear XHCall; have XB := Aside0.mk (below_then HB.out HB.out.size hb2); clear HB; have HB := XB; clear XB; clear hs hb hrd hbb hb2) | ((with_reducible refine gate_dst (N := 140) rfl ?_); refine Kd.R_lit (Kd.int .u8) w3.heap.size 5 ?hg (N := 140) ?hd (xs := ([] : List Int)) (inner := []) (ok := fun _ => True) (okp := fun _ => True) ?hr ?hp (fun _ hk => hk) trivial (Below.refl w3.heap.size w3) (Nat.le_refl _) (by simp) ?_; (case hd => rfl); (case hg => rfl); (case hr => first | (go_simp; done) | (go_simp; rfl)); (case hp => exact (Reps.none _ _)); intro v22 w4 ho hb hg_ hnew_; clear hg_ hnew_; have HOf := Aside0.mk ho; have HB3 := Aside0.mk hb; clear ho hb))
        go_loopw [22, 143] (fun v22 i wr => ∃ j : Nat, j ≤ lists.length ∧ i = .int .i64 j ∧ Aside0 (Kd.R (Kd.int .u8) 5 wr w3.heap.size (fun _ => True) v22 (lists.take j).flatten) ∧ Aside0 (Below w3.heap.size w3 wr)) (fun _ i _ => lists.length - (intOf i).toNat)
        case atStart => exact ⟨0, Nat.zero_le _, rfl, HOf, HB3⟩
        case round =>
          clear HOf HB3
          obtain ⟨j, hj, rfl, HOf, HB3⟩ := hrel
          by_cases hlt : j < lists.length
          · obtain ⟨ad, A0, c0, e1, hx, hc0, hC0⟩ := at_L2 (Kd.C_below HCl.out HB3.out) (j : Int) (by omega) (by omega)
            have hT4 : lists.length ≤ 4 := by have := Hhlists.out; have := HhT4.out; omega
            subst e1
            rw [Int.toNat_natCast] at hx
            have HC0 := Aside0.mk hC0
            clear hC0 hc0
            obtain ⟨Af, cf, ef⟩ := Kd.R_slice HOf.out
            subst ef
            go_wp2_with (first | ((with_reducible refine gate_builtin (b := .append) (xs := #[.tmp 147, .tmp 148]) rfl ?_); (try (refine gate_guard (by rfl) ?_; dsimp only)); at_builtin; refine Kd.R_append_row (Value.int .u8) (0 : Int) (h1 := fun _ => rfl) (w0 := w3) w3.heap.size rfl (.tmp 147) (.tmp 148) 23 5 (.int .u8 0) 1 rfl Try.underlying23 info5 rfl (by decide) _ (lists.take j).flatten (rd_L2 lists (j : Int)) A0 (rd_L2 lists (j : Int)).length c0 (fun _ => True) rfl rfl (fun _ _ => trivial) HOf.out HC0.out HB3.out HB3.out.size (by have := Hhflat.out; have := flat_le hlt; omega) ?_; intro v1 w5 ho hb hg hat; have HO2 := Aside0.mk ho; have HB2 := Aside0.mk hb; clear ho hb hg hat))
            go_roundw
            case rel => exact ⟨j + 1, hlt, by go_num, ⟨by rw [flat_step hlt]; exact HO2.out⟩, HB2⟩
            case measure => simp [intOf]; omega
          · obtain rfl : j = lists.length := by omega
            rw [List.take_length] at HOf
            generalize lists.flatten = fl at HOf Hhs2 Hhstr Hhflat
            obtain ⟨Af, cf, ef⟩ := Kd.R_slice HOf.out
            subst ef
            have HCf := Aside0.mk (Kd.R_reads' HOf.out).2.2
            have HCfc := Aside0.mk (Kd.R_reads' HOf.out).2.1
            have XHCm := Aside0.mk (Kd.C_below HCm.out HB3.out)
            clear HCm
            have HCm := XHCm
            clear XHCm
            have XHCall := Aside0.mk (Kd.C_below HCall.out HB3.out)
            clear HCall
            have HCall := XHCall
            clear XHCall
            have XB := Aside0.mk (below_then HB.out HB.out.size HB3.out)
            clear HB
            have HB := XB
            clear XB
            clear HB3 HOf HCl kb hj hlt
            go_wp2_with (first | (go_at_call 5; refine (keyring_Shares.calls k a1 a2 _ _ acc _ _ fl again 0 _ HCm.out HCmc.out HCf.out HCfc.out Hhs2.out).mono ?_; rintro e w6 ⟨vN, rfl, hs, hb⟩; obtain ⟨Ab, cb, ea⟩ := Kd.S_slice hs; subst ea; have hrd := Kd.S_reads' hs; clear Hhs2; have HCag := Aside0.mk hrd.2.2; have HCagc := Aside0.mk hrd.2.1; have HcutB := Aside0.mk (fun W => few_cut Ab again.length cb T (by have := hrd.2.1; have := Hhagain.out; omega) W); have hcutB := HcutB.out; have XHCm := Aside0.mk (Kd.C_below HCm.out hb); clear HCm; have HCm := XHCm; clear XHCm; have XHCall := Aside0.mk (Kd.C_below HCall.out hb); clear HCall; have HCall := XHCall; clear XHCall; have XHCf := Aside0.mk (Kd.C_below HCf.out hb); clear HCf; have HCf := XHCf; clear XHCf; have XB := Aside0.mk (below_then HB.out HB.out.size hb); clear HB; have HB := XB; clear XB; clear hs hb hrd) | (go_at_call 7; refine calls_of_args (args' := #[.slice Ab (again.take T).length cb, .slice Aa (all.take T).length ca]) (by rw [Hhl2.out, Hhl1.out]) ?_; refine (kinkeeptop_a16Same.calls k _ _ (again.take T) _ _ (all.take T) true _ (Kd.C_take HCag.out (by have := Hhagain.out; omega)) (by have := HCagc.out; have := Hhl2.out; have := Hhagain.out; omega) (Kd.C_take HCall.out (by have := Hhall.out; omega)) (by have := HCallc.out; have := Hhl1.out; have := Hhall.out; omega) Hhsame.out).mono ?_; rintro e w' ⟨rfl, ⟨nd, rfl⟩⟩; have hb := pw_below_drewN (Below.refl w6.heap.size w6) nd; have XHCm := Aside0.mk (Kd.C_below HCm.out hb); clear HCm; have HCm := XHCm; clear XHCm; have XHCall := Aside0.mk (Kd.C_below HCall.out hb); clear HCall; have HCall := XHCall; clear XHCall; have XHCf := Aside0.mk (Kd.C_below HCf.out hb); clear HCf; have HCf := XHCf; clear XHCf; have XB := Aside0.mk (below_then HB.out HB.out.size hb); clear HB; have HB := XB; clear XB; clear hb Hhsame) | (go_at_call 5; refine (keyring_Shares.calls k a1 a2 _ _ acc _ _ l5 guessed 0 _ HCm.out HCmc.out (Kd.C_below HR5.out HB.out) HC5.out Hhs3.out).mono ?_; rintro e w8 ⟨vN, rfl, hs, hb⟩; obtain ⟨Ac, cc, ea⟩ := Kd.S_slice hs; subst ea; have hrd := Kd.S_reads' hs; clear Hhs3; have HCgu := Aside0.mk hrd.2.2; have HCguc := Aside0.mk hrd.2.1; have HcutC := Aside0.mk (fun W => few_cut Ac guessed.length cc T (by have := hrd.2.1; have := Hhguess.out; omega) W); have hcutC := HcutC.out; have XHCall := Aside0.mk (Kd.C_below HCall.out hb); clear HCall; have HCall := XHCall; clear XHCall; have XHCf := Aside0.mk (Kd.C_below HCf.out hb); clear HCf; have HCf := XHCf; clear XHCf; have XB := Aside0.mk (below_then HB.out HB.out.size hb); clear HB; have HB := XB; clear XB; clear hs hb hrd))
            have hcv5 := fun n => Kd.C_string (P := Try.prog) (w := w8.drewN n) (A := A5) (c := c5) Try.underlying23 Try.underlying5 Try.underlying9 (Kd.C_drewN (Kd.C_below HR5.out HB.out) n)
            have hcvf := fun n => Kd.C_string (P := Try.prog) (w := w8.drewN n) (A := Af) (c := cf) Try.underlying23 Try.underlying5 Try.underlying9 (Kd.C_drewN HCf.out n)
            have hstr := Hhstr.out
            go_quiet (first | (go_at_call 7; refine calls_of_args (args' := #[.slice Ac (guessed.take T).length cc, .slice Aa (all.take T).length ca]) (by rw [Hhl3.out, Hhl1.out]) ?_; refine (kinkeeptop_a16Same.calls k _ _ (guessed.take T) _ _ (all.take T) b _ (Kd.C_drewN (Kd.C_take HCgu.out (by have := Hhguess.out; omega)) _) (by have := HCguc.out; have := Hhl3.out; have := Hhguess.out; omega) (Kd.C_drewN (Kd.C_take HCall.out (by have := Hhall.out; omega)) _) (by have := HCallc.out; have := Hhl1.out; have := Hhall.out; omega) Hhsame2.out).mono ?_; rintro e w' ⟨rfl, ⟨nd, rfl⟩⟩; exact ⟨rfl, _, World.drewN_drewN _ _ _⟩))
            go_wp2
            go_ret
            exact ⟨rfl, pw_below_drewN HB.out nq⟩
def kinkeeptop_TopSecretShares.Pure : Prop := ∀ (a0 a1 : ByteArray) (a2 : Int) (l3 l4 l5 : List Int), (∀ x ∈ l4, (Lit.int .u8 x).wf = true) → (∀ x ∈ l5, (Lit.int .u8 x).wf = true) → ∃ k, kinkeeptop_a16Awake.f k = some true ∧ (TopGuard a0 a1 a2 l3 l4 l5 → ¬ ((memGo a2 [] l3).length : Int) < a2 → TopFacts k a0 a1 a2 (memGo a2 [] l3) l4 l5)
theorem kinkeeptop_TopSecretShares.walk (P : kinkeeptop_TopSecretShares.Pure) (a0 : ByteArray) (a1 : ByteArray) (a2 : Int) (a3 : Option Addr) (len3 cap3 : Nat) (z3 : List Int) (a4 : Option Addr) (len4 cap4 : Nat) (z4 : List Int) (a5 : Option Addr) (len5 cap5 : Nat) (z5 : List Int) (w : World) (w0 : a0.size ≤ 140737488351232) (w1 : a1.size ≤ 140737488351232) (w2 : (Lit.int .i64 a2).wf = true) (w3 : (a3 = none ∧ len3 = 0 ∧ cap3 = 0 ∧ z3 = []) ∨ ∃ x, a3 = some x ∧ len3 ≤ cap3 ∧ cap3 ≤ maxLen ∧ z3.length = cap3 ∧ (∀ i, i < z3.length → w.cell? (x.add i) = some (.int .i64 (z3.getD i 0))) ∧ ∀ n ∈ z3, (Lit.int .i64 n).wf = true) (y3 : len3 * 8 ≤ 140737488351232) (w4 : (a4 = none ∧ len4 = 0 ∧ cap4 = 0 ∧ z4 = []) ∨ ∃ x, a4 = some x ∧ len4 ≤ cap4 ∧ cap4 ≤ maxLen ∧ z4.length = cap4 ∧ (∀ i, i < z4.length → w.cell? (x.add i) = some (.int .u8 (z4.getD i 0))) ∧ ∀ n ∈ z4, (Lit.int .u8 n).wf = true) (y4 : len4 * 1 ≤ 140737488351232) (w5 : (a5 = none ∧ len5 = 0 ∧ cap5 = 0 ∧ z5 = []) ∨ ∃ x, a5 = some x ∧ len5 ≤ cap5 ∧ cap5 ≤ maxLen ∧ z5.length = cap5 ∧ (∀ i, i < z5.length → w.cell? (x.add i) = some (.int .u8 (z5.getD i 0))) ∧ ∀ n ∈ z5, (Lit.int .u8 n).wf = true) (y5 : len5 * 1 ≤ 140737488351232) :
    Calls Try.prog 3 #[.string a0, .string a1, .int .i64 a2, .slice a3 len3 cap3, .slice a4 len4 cap4, .slice a5 len5 cap5] w fun e w' => e = .returned (.bool true) ∧ Below w.heap.size w w' := by
  obtain ⟨l3, rfl, hr3, hm3, hw3, hc3⟩ := ReadsInt.ofRowC w3
  obtain ⟨l4, rfl, hr4, hm4, hw4, hc4⟩ := ReadsInt.ofRowC w4
  obtain ⟨l5, rfl, hr5, hm5, hw5, hc5⟩ := ReadsInt.ofRowC w5
  obtain ⟨k, hk, h⟩ := P a0 a1 a2 l3 l4 l5 hw4 hw5
  exact top.calls k a0 a1 a2 _ _ l3 _ _ l4 _ _ l5 w (Kd.C_of_reads (d := (0 : Int)) (h1 := fun _ => rfl) hr3) hc3 (Kd.C_of_reads (d := (0 : Int)) (h1 := fun _ => rfl) hr4) hc4 (Kd.C_of_reads (d := (0 : Int)) (h1 := fun _ => rfl) hr5) hc5 hk h
end Go.Proofs.Ytadcoeinnomjlaa.PG
