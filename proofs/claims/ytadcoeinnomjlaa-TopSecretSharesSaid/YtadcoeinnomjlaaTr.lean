/- What polynomial.timesRoot hands back multiplies by a linear factor. No condition. -/
import Derived.Test.YtadcoeinnomjlaaPGx0
import Derived.Test.YtadcoeinnomjlaaPGx16
import Derived.Test.YtadcoeinnomjlaaFl
import Derived.Outline
namespace Go.Proofs.Ytadcoeinnomjlaa.PG
open Go.RowKit Go.Proofs.YtadcoeinnomjlaaW.PrintWords Go.Proofs.YtadcoeinnomjlaaW.PrintLast Go.Proofs.YtadcoeinnomjlaaW.PrintMore
set_option linter.unusedVariables false
set_option linter.unusedSimpArgs false
theorem timesRoot.calls (x : Int) (w : World) : Calls Try.prog 31 #[.int .u8 x] w fun e w' => e = .returned (.func (.func 42) #[] #[.pointer (some ⟨w.heap.size, 0, none⟩)]) ∧ w.alloc (.cells #[.int .u8 x] 5) = w' := by
  go_enter Try.func31, Try.ntmps31
  go_wp2_with fail
  go_ret
  exact ⟨rfl, rfl⟩
set_option maxHeartbeats 8000000 in
set_option maxRecDepth 100000 in
theorem tr1.calls (k : Nat) (x : Int) (A0 : Option Addr) (c0 : Nat) (l0 : List Int) (r : List Int) (g : Nat) (w : World) (hb : w.heap[g]? = some (.cells #[.int .u8 x] 5 (0, 0))) (hr0 : Kd.C (Kd.int .u8) w A0 l0.length l0) (hc0 : l0.length ≤ c0) (h : polynomial_product.f k [x, 1] l0 = some r) :
    Calls Try.prog 42 #[.slice A0 l0.length c0, .pointer (some ⟨g, 0, none⟩)] w fun e w' => ∃ v0_ : Value, e = .returned v0_ ∧ Kd.R (Kd.int .u8) 5 w' w.heap.size (fun _ => True) v0_ r ∧ Below w.heap.size w w' := by
  have HR0 := Aside0.mk hr0
  have HC0 := Aside0.mk hc0
  have HA := Aside0.mk h
  have hcell := (blk_cell hb 0).trans (show (#[Value.int .u8 x] : Array Value)[0]? = some (.int .u8 x) from rfl)
  clear hr0 hc0 h hb
  go_enter Try.func42, Try.ntmps42
  go_wp2_with (first
    | ((with_reducible refine gate_dst (N := 5) rfl ?_); refine Kd.R_lit (Kd.int .u8) _ 5 ?hg (N := 5) ?hd (xs := ([x, 1] : List Int)) (inner := [.int .u8 x, .int .u8 1]) (ok := fun _ => True) (okp := fun _ => True) ?hr ?hp (fun _ hk => hk) trivial (Below.refl _ _) (Nat.le_refl _) (by simp) ?_; (case hd => rfl); (case hg => rfl); (case hr => first | (go_simp; done) | (go_simp; rfl)); (case hp => exact (Reps.one (show Kd.M (Kd.int .u8) _ _ _ x [.int .u8 x] from rfl) (Reps.one (show Kd.M (Kd.int .u8) _ _ _ 1 [.int .u8 1] from rfl) (Reps.none _ _)))); intro v1 w1 ho hb hg_ hnew_; clear hg_ hnew_; have HO := Aside0.mk ho; have HB := Aside0.mk hb; clear hb ho; obtain ⟨Ao, co, eo⟩ := Kd.R_slice HO.out; subst eo)
    | (go_at_call 43; (refine (polynomial_product.calls k Ao co [x, 1] A0 c0 l0 r _ ?s1 ?s2 ?s3 ?s4 HA.out).mono ?_); (case s1 => exact (Kd.R_reads' HO.out).2.2); (case s2 => exact (Kd.R_reads' HO.out).2.1); (case s3 => exact Kd.C_below HR0.out HB.out); (case s4 => exact HC0.out); rintro e w2 ⟨v2, rfl, ho, hb⟩; have HO2 := Aside0.mk ho; have HB2 := Aside0.mk hb; clear ho hb))
  go_ret
  exact ⟨_, rfl, Kd.R_lower HO2.out HB.out.size, below_then HB.out HB.out.size HB2.out⟩
end Go.Proofs.Ytadcoeinnomjlaa.PG
