/- What the printed walks of laws ask of a slice that came in and is laid into a row of rows: it is read in every world that keeps its blocks. -/
import Derived.Test.YtjoiiclahcghbaaWWords
import Derived.Test.YtjoiiclahcghbaaWFoot
import Derived.Test.YtjoiiclahcghbaaWShare
import Derived.Test.YtjoiiclahcghbaaWMore
namespace Go.Proofs.Ytjoiiclahcghbaa.PG
open Go.RowKit Go.Proofs.YtjoiiclahcghbaaW.PrintWords
theorem V_of_read {e : Nat} {w : World} {A : Option Addr} {c : Nat} {l : List Int} {base : Nat} (h : Kd.C (Kd.int .u8) w A l.length l) (hc : l.length ≤ c) : Kd.V (Kd.int .u8) e w base (fun _ => True) (.slice A l.length c) l := by
  refine Kd.V_mk hc (fun W' hW => ?_)
  have hr := Kd.reads_of_C (enc := Value.int .u8) (d := (0 : Int)) (h1 := fun _ => rfl) h
  refine Kd.C_of_reads (enc := Value.int .u8) (d := (0 : Int)) (h1 := fun _ => rfl) ⟨hr.1, hr.2.1, fun hn => ?_⟩
  obtain ⟨ad, ha, hx⟩ := hr.2.2 hn
  exact ⟨ad, ha, fun j hj => Kd.cell_heap (fun k hk => hW k trivial hk) (hx j hj)⟩
theorem rows_len {α : Type} {R : α → List Value → Prop} {sz : Nat} {W : World} {A : Option Addr} {m m' : Nat} {ys : List α} (h : m = m') (hr : ReadsRow R sz W A m ys) : ReadsRow R sz W A m' ys := h ▸ hr
end Go.Proofs.Ytjoiiclahcghbaa.PG
