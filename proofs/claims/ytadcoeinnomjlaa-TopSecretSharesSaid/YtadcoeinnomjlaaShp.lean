/- What keyring.Shares' walk uses: the collected pieces as a row of the call's own, and as rows that are read. -/
import Derived.Test.YtadcoeinnomjlaaChk
namespace Go.Proofs.Ytadcoeinnomjlaa.PG
open Go.RowKit Go.Maps Go.Shelf Go.Proofs.YtadcoeinnomjlaaW.PrintWords Go.Proofs.YtadcoeinnomjlaaW.PrintLast
def kP (q : Addr) : Kd Nat := Kd.scalar (encC q) (fun _ => rfl)
theorem kP_int (q : Addr) : ∀ t, t ∈ 23 :: (kP q).E → t ≠ 3 := fun t ht => by
  have e : t = 23 := by simpa [kP, Kd.scalar] using ht
  subst e
  decide
theorem R_pieces {w : World} {base N : Nat} {v : Value} {q : Addr} (h : w.ownsRow base 23 1 v N ((List.range N).map (encC q))) : Kd.R (kP q) 23 w base (fun _ => True) v (List.range N) :=
  Kd.R_of_own (by rw [List.length_range]; exact h) (fun _ _ => trivial)
theorem pieces_read {w : World} {base N : Nat} {ok : Nat → Prop} {v : Value} {q : Addr} {A : Option Addr} {l : List Int} (h : Kd.R (kP q) 23 w base ok v (List.range N)) (hA : N = 0 ∨ A = some q) (hl : l.length = 32 * N) (hc : Kd.C (Kd.int .u8) w A l.length l) :
    ∃ Ad c, v = .slice Ad (pieces l N).length c ∧ (pieces l N).length ≤ c ∧ Kd.C (Kd.slice 5 (Kd.int .u8)) w Ad (pieces l N).length (pieces l N) := by
  have ho := Kd.own_of_R h
  rw [List.length_range] at ho
  rw [pieces_length]
  exact pieces_C ho hA hl hc
def chunks32.f (l : List Int) : Option (List (List Int)) := if l.length % 32 = 0 ∧ l.length ≤ 32000 then some (pieces l (l.length / 32)) else none
theorem chunks32_open {l : List Int} {t : List (List Int)} (h : chunks32.f l = some t) : ∃ N, l.length = 32 * N ∧ N ≤ 1000 ∧ t = pieces l N := by
  unfold chunks32.f at h
  by_cases hc : l.length % 32 = 0 ∧ l.length ≤ 32000
  · rw [if_pos hc] at h
    exact ⟨l.length / 32, by omega, by omega, (Option.some.inj h).symm⟩
  · rw [if_neg hc] at h
    exact absurd h (by simp)
def str_bytes.f (s : ByteArray) : Option (List Int) := if s.size ≤ 1000 then some (bytesOf s) else none
theorem str_bytes_open {s : ByteArray} {t : List Int} (h : str_bytes.f s = some t) : s.size ≤ 1000 ∧ bytesOf s = t := by
  unfold str_bytes.f at h
  by_cases hc : s.size ≤ 1000
  · rw [if_pos hc] at h
    exact ⟨hc, Option.some.inj h⟩
  · rw [if_neg hc] at h
    exact absurd h (by simp)
theorem start_or_none {w : World} {A : Option Addr} {l : List Int} {N : Nat} (h : Kd.C (Kd.int .u8) w A l.length l) (hl : l.length = 32 * N) : N = 0 ∨ A = some (A.getD ⟨0, 0, none⟩) := by
  by_cases h0 : N = 0
  · exact .inl h0
  · obtain ⟨ad, e, _⟩ := Kd.at_int h 0 (by omega) (by omega)
    subst e
    exact .inr rfl
theorem two_boxes0 (w : World) (a b : Obj) : ((w.alloc a).alloc b).heap[w.heap.size]? = some a :=
  (Below.heap_alloc _ _ _ (by simp)).trans (World.alloc_heap_new w a)
theorem two_boxes1 (w : World) (a b : Obj) : ((w.alloc a).alloc b).heap[w.heap.size + 1]? = some b := by
  have := World.alloc_heap_new (w.alloc a) b
  rwa [World.size_alloc] at this
end Go.Proofs.Ytadcoeinnomjlaa.PG
