/- Plain: a tree's keys are right ones; putting and deleting. No program in sight. -/
import Derived.Test.YtlgbhceifnjdnaaTX
namespace Go.KX
/-- An interface value is made in whatever world. -/
theorem Y_mkIW {X : Cx} {o : Oper} {L : LL} {fs : List MF} {own : List Res} {T : Nat} {x : Operand} {v : Value} {d} (ho : o.op = .makeInterface T x) (hx : evo L x = some v) (u : X.P.underlying T = some d) (hd : ∀ ms, d ≠ .interface ms) : YldW X o L fs own (.iface T v) := by
  intro g a s w'
  simp only [execOp, ho, s.kn.eval hx]
  cases d <;> first | (simp [Instr.makeInterface, run_underlying u]; done) | exact (hd _ rfl).elim
theorem Cat.keysOK {R : Cell → List KV → List Nat → Prop} (hR : ∀ c L q, R c L q → ∀ p ∈ L, p.key ≠ [] ∧ p.key.length ≤ 64) : ∀ {l : List Cell} {L : List KV} {q : List Nat}, Cat R l L q → ∀ p ∈ L, p.key ≠ [] ∧ p.key.length ≤ 64
  | [], _, _, ⟨rfl, _⟩, p, hp => by cases hp
  | c :: r, _, _, ⟨L1, L2, q1, q2, rfl, _, h3, h4⟩, p, hp => by
    rcases List.mem_append.1 hp with hp | hp
    · exact hR _ _ _ h3 p hp
    · exact h4.keysOK hR p hp
theorem Item.keysOK {m : Mem} : ∀ {d : Nat} (c : Cell) (L : List KV) (q : List Nat), Item m d c L q → ∀ p ∈ L, p.key ≠ [] ∧ p.key.length ≤ 64
  | 0, c, L, q, ⟨hf, v, h, _, _⟩, p, hp => by
    subst h
    rcases List.mem_singleton.1 hp with rfl
    exact ⟨hf.k0, hf.k1⟩
  | d + 1, c, L, q, ⟨_, _, _, cs, qs, _, _, h3, _, _⟩, p, hp => h3.keysOK (fun c L q h => Item.keysOK c L q h) p hp
theorem At.right {room most : Int} {i : Nat} {m : Mem} {t : Tree} {w : List KV} (h : At room most i m t w) : ∀ p ∈ w, rightA ⟨1, p.key, []⟩ = true := by
  obtain ⟨q, hst, hnd⟩ := h.st
  intro p hp
  have key : p.key ≠ [] ∧ p.key.length ≤ 64 := by
    cases hst with
    | none ht hL hq => subst hL; cases hp
    | some d n hr hd hk hn h0 hd64 hrep =>
      obtain ⟨cs, qs, _, _, h3, _, _⟩ := hrep
      exact h3.keysOK (fun c L q h => Item.keysOK c L q h) p hp
  have := List.length_pos_iff.2 key.1
  unfold rightA rightKV
  rw [if_neg (show ¬ ((1 : Int) = 0) by decide)]
  exact decide_eq_true ⟨this, key.2, Nat.zero_le _⟩
theorem rightA_put {key value : Bytes} (h : rightKV key value = true) : rightA ⟨0, key, value⟩ = true := by unfold rightA; rw [if_pos rfl]; exact h
theorem rightA_del {key value : Bytes} (h : rightKV key value = true) : rightA ⟨1, key, []⟩ = true := by
  obtain ⟨h1, h2, h3⟩ := rightKV_of h
  have := List.length_pos_iff.2 h1
  unfold rightA rightKV
  rw [if_neg (show ¬ ((1 : Int) = 0) by decide)]
  exact decide_eq_true ⟨this, h2, Nat.zero_le _⟩
/-- A key is put. -/
theorem At.put {room : Int} {i : Nat} {m : Mem} {t : Tree} {w : List KV} (h : At room 1048576 i m t w) (hr : 480 ≤ room) (hi : i ≤ 1000) (hp : m.pages.length ≤ 1000000) {key value : Bytes} (hk : rightKV key value = true) :
    (putN m t key value).e = 0 ∧ At room 1048576 (i + 1) (putN m t key value).m (putN m t key value).t (putK w key value) ∧ (putN m t key value).m.pages.length ≤ m.pages.length + 300 ∧ Gr m (putN m t key value).m := by
  have := h.step hr (Int.le_refl _) hi (rightA_put hk)
  have e : doesN m t ⟨0, key, value⟩ = putN m t key value := if_pos rfl
  have e2 : modelK w ⟨0, key, value⟩ = putK w key value := if_pos rfl
  rw [e, e2] at this
  rcases this with ⟨a, b, c, d, _⟩ | ⟨_, _, _, _, a⟩
  · exact ⟨a, b, c, d⟩
  · omega
theorem At.del {room : Int} {i : Nat} {m : Mem} {t : Tree} {w : List KV} (h : At room 1048576 i m t w) (hr : 480 ≤ room) (hi : i ≤ 1000) (hp : m.pages.length ≤ 1000000) {key : Bytes} (hk : rightA ⟨1, key, []⟩ = true) :
    (delN m t key).e = 0 ∧ At room 1048576 (i + 1) (delN m t key).m (delN m t key).t (delK w key) ∧ (delN m t key).m.pages.length ≤ m.pages.length + 300 ∧ Gr m (delN m t key).m ∧ (delK w key = w → (delN m t key).t = t) := by
  have := h.step hr (Int.le_refl _) hi hk
  have e : doesN m t ⟨1, key, []⟩ = delN m t key := if_neg (show ¬ ((1 : Int) = 0) by decide)
  have e2 : modelK w ⟨1, key, []⟩ = delK w key := if_neg (show ¬ ((1 : Int) = 0) by decide)
  rw [e, e2] at this
  rcases this with ⟨a, b, c, d, f⟩ | ⟨_, _, _, _, a⟩
  · exact ⟨a, b, c, d, f (show (1 : Int) ≠ 0 by decide)⟩
  · omega
end Go.KX
