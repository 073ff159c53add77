/- What is handed in: acts. -/
import Derived.Test.YtlgbhceifnjdnaaBZ
import Derived.Test.YtlgbhceifnjdnaaTX
import Derived.Test.YtlgbhceifnjdnaaRows
import Derived.HandedShaped
import Derived.KernelRfl
namespace Go.Proofs.Ytlgbhceifnjdnaa
open Go.ChangeShapes Go.WideShapes Go.ChangeAt Go.RowKit Go.KX
theorem ownR : ownKnob Try.prog.godebug = none := by kernel_rfl
theorem notAggR {P : Program} {W : World} {r : Reach} {base : Nat} {t e : TypeId} {v : Value} (u : P.underlying t = some (.slice e)) (h : Value.okWide P W r base t v) : ∀ cs, v ≠ .agg cs := by
  intro cs hv
  subst hv
  simp [Value.okWide, Cell.okWide, u, Cell.ok] at h
def AcQ (a : Ac) : Prop := a.key.length ≤ 140737488351232 ∧ a.value.length ≤ 140737488351232
set_option maxRecDepth 100000 in
/-- An act that is handed in. -/
theorem rd_act {H : Type} {enc : TypeId × Value → H} {W : World} : Rd enc Try.prog W 38 elAc.enc AcQ := by
  intro fuel cs x h hl
  cases fuel with
  | zero => cases h
  | succ fuel =>
    unfold DataW.trod at h
    rw [Try.underlying38] at h
    dsimp only at h
    split at h
    · rename_i hc
      have h3 : cs.length = 3 := by
        have : Try.prog.cellsOf 38 = 3 := by kernel_rfl
        rw [this] at hc; exact hc
      simp only [Option.map_eq_some_iff] at h
      obtain ⟨xs, h1, rfl⟩ := h
      obtain ⟨c0, c1, c2, rfl⟩ : ∃ c0 c1 c2, cs = [c0, c1, c2] := by
        match cs, h3 with
        | [a, b, c], _ => exact ⟨a, b, c, rfl⟩
      have hc3 : Try.prog.cellsOf 3 = 1 := by kernel_rfl
      have hc9 : Try.prog.cellsOf 9 = 1 := by kernel_rfl
      have hlen := mapM_len _ _ h1
      obtain ⟨y0, i0, g0⟩ := mapM_at _ _ h1 0 _ rfl
      obtain ⟨y1, i1, g1⟩ := mapM_at _ _ h1 1 _ rfl
      obtain ⟨y2, i2, g2⟩ := mapM_at _ _ h1 2 _ rfl
      have hxs : xs = [y0, y1, y2] := by
        have hl3 : xs.length = 3 := hlen
        match xs, hl3 with
        | [a, b, c], _ => simp at i0 i1 i2; rw [i0, i1, i2]
      subst hxs
      simp only [Light, DataW.weights, Try.underlying38] at hl
      have hl' : (DataW.weightsEach Try.prog [3, 9, 9] [y0.1, y1.1, y2.1]).all (· ≤ reachBytes) = true := hl
      simp only [DataW.weightsEach, List.all_append, Bool.and_eq_true] at hl'
      obtain ⟨w0, w1, w2, _⟩ := hl'
      obtain ⟨z0, hz, _⟩ := rd_int Try.underlying3 fuel [c0] y0 (by simpa [hc3] using g0) w0
      obtain ⟨z1, hz1, q1⟩ := rd_str Try.underlying9 fuel [c1] y1 (by simpa [hc9] using g1) w1
      obtain ⟨z2, hz2, q2⟩ := rd_str Try.underlying9 fuel [c2] y2 (by simpa [hc9] using g2) w2
      simp only [List.cons.injEq, and_true] at hz hz1 hz2
      subst hz; subst hz1; subst hz2
      exact ⟨⟨z0, z1, z2⟩, rfl, q1, q2⟩
    · cases h
set_option maxRecDepth 100000 in
/-- Acts that are handed in: a slice of them. -/
theorem rd_acts {H : Type} {enc : TypeId × Value → H} {W : World} {v : Value} {d : DataW H} {ps : List MemPlace} (hv : ∀ cs, v ≠ .agg cs) (h : DataW.Trod enc Try.prog W 0 (fun _ => true) true 22 v d ps) (hl : Light Try.prog 22 d) :
    ∃ (ad : Option Addr) (c : Nat) (l : List Ac), v = .slice ad l.length c ∧ (SlM elAc ad c l).p (gAll W) ∧ l.length ≤ 140737488355328 ∧ ∀ a ∈ l, a.key.length ≤ 140737488355328 ∧ a.value.length ≤ 140737488355328 := by
  obtain ⟨y, hy1, hy2, hy3, hy4⟩ := rd_arg (rd_slice (E := elAc) Try.underlying22 (by kernel_rfl) rd_act) h hl
  have hb : Try.prog.bytesOf 38 = 40 := by kernel_rfl
  rw [hb] at hy4
  refine ⟨y.1, y.2.1, y.2.2, Go.KX.one_cell hy1 hv, hy2, by omega, fun a ha => ?_⟩
  obtain ⟨h1, h2⟩ := hy3 a ha
  exact ⟨by omega, by omega⟩
end Go.Proofs.Ytlgbhceifnjdnaa
