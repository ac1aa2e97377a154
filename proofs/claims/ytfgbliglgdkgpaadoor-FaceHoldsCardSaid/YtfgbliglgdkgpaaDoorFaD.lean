/- FaceHolds: the plain law. -/
import Derived.Test.YtfgbliglgdkgpaaDoorFaC
namespace Go.Proofs.YtfgbliglgdkgpaaDoor
set_option linter.unusedVariables false
set_option linter.unusedSimpArgs false
set_option maxRecDepth 100000
theorem has_ok {p : Nat × Int} {a : Nat} (h : hasF p a = true) : okP p = true ∧ a / 2 ^ (32 - p.2.toNat) = p.1 / 2 ^ (32 - p.2.toNat) := by
  unfold hasF at h
  simpa using h
theorem hld_of {p q : Nat × Int} {a : Nat} (hp : hasF p a = true) (hq : hasF q a = true) (h : p.2 ≤ q.2) : hldF p q = true := by
  obtain ⟨pa, pn⟩ := p
  obtain ⟨qa, qn⟩ := q
  obtain ⟨op, e1⟩ := has_ok hp
  obtain ⟨oq, e2⟩ := has_ok hq
  obtain ⟨k, rfl, hk, _⟩ := okP_bounds op
  obtain ⟨m, rfl, hm, _⟩ := okP_bounds oq
  have hkm : k ≤ m := by simpa using h
  simp only [Int.toNat_natCast] at e1 e2
  have key : ∀ x : Nat, x / 2 ^ (32 - k) = x / 2 ^ (32 - m) / 2 ^ (m - k) := fun x => by
    rw [Nat.div_div_eq_div_mul, ← Nat.pow_add]
    congr 2
    omega
  have e3 : qa / 2 ^ (32 - k) = pa / 2 ^ (32 - k) := by rw [key qa, ← e2, ← key a, e1]
  unfold hldF hasF
  simp only [Int.toNat_natCast, op, Bool.true_and]
  rw [decide_eq_true e3, decide_eq_true (show (k : Int) ≤ (m : Int) by omega)]
  rfl
theorem one_net' {l : List Fc} (h : okL l = true) {a i j : Nat} {x y : Fc} (hi : l[i]? = some x) (hj : l[j]? = some y) (hx : hasF x.net a = true) (hy : hasF y.net a = true) (hij : i < j) : False := by
  have hjl : j < l.length := by
    rcases Nat.lt_or_ge j l.length with h' | h'
    · exact h'
    · rw [List.getElem?_eq_none h'] at hj; cases hj
  have h1 : okI l j = true := List.all_eq_true.1 h j (List.mem_range.2 hjl)
  rw [okI_at hj] at h1
  simp only [Bool.and_eq_true, Bool.not_eq_true'] at h1
  have h2 : apB x y = true := by
    have := List.any_eq_false.1 h1.2 x (by
      rw [List.mem_take_iff_getElem]
      rw [List.getElem?_eq_getElem (show i < l.length by omega)] at hi
      exact ⟨i, by omega, Option.some.inj hi⟩)
    simpa using this
  unfold apB at h2
  have h3 := (stands4 _ _).1 (of_decide_eq_true h2)
  rcases Int.le_total x.net.2 y.net.2 with hle | hle
  · rw [hld_of hx hy hle] at h3; exact absurd h3.1 (by simp)
  · rw [hld_of hy hx hle] at h3; exact absurd h3.2 (by simp)
theorem one_net {l : List Fc} (h : okL l = true) {a i j : Nat} {x y : Fc} (hi : l[i]? = some x) (hj : l[j]? = some y) (hx : hasF x.net a = true) (hy : hasF y.net a = true) : i = j := by
  rcases Nat.lt_trichotomy i j with h' | h' | h'
  · exact (one_net' h hi hj hx hy h').elim
  · exact h'
  · exact (one_net' h hj hi hy hx h').elim
/-- is an address in one of the nets? -/
def netB (l : List Fc) (a : Nat) : Bool := l.any fun f => hasF f.net a
theorem net_none {l : List Fc} (h : okL l = true) {a j : Nat} {x : Fc} (hj : l[j]? = some x) (hx : hasF x.net a = true) : netB (l.take j) a = false := by
  unfold netB
  rw [List.any_eq_false]
  intro y hy
  obtain ⟨i, hi, he⟩ := List.mem_take_iff_getElem.1 hy
  simp only [Bool.not_eq_true]
  cases hh : hasF y.net a
  · rfl
  · have := one_net h (i := i) (j := j) (by rw [← he]; exact List.getElem?_eq_getElem (by omega)) hj hh hx
    omega
theorem net_step {l : List Fc} {a j : Nat} {x : Fc} (hj : l[j]? = some x) : netB (l.take (j + 1)) a = (netB (l.take j) a || hasF x.net a) := by
  unfold netB
  rw [List.take_add_one, hj]
  simp
theorem from_zero {l : List Fc} {a j : Nat} {x : Fc} (hj : l[j]? = some x) (h : fromE l j a = 0) : x.up = true ∧ hasF x.net a = true := by
  have hjl : j < l.length := by
    rcases Nat.lt_or_ge j l.length with h' | h'
    · exact h'
    · rw [List.getElem?_eq_none h'] at hj; cases hj
  have hg : getF l (j : Int) = x := by
    unfold getF
    rw [if_pos (by omega), Int.toNat_natCast, List.getD, hj]
    rfl
  unfold fromE at h
  rw [hg] at h
  split at h
  · omega
  split at h
  · omega
  split at h
  · omega
  split at h
  · rename_i h1 h2 h3 h4
    simp only [Bool.and_eq_true] at h4
    exact ⟨by simpa using h2, h4.1⟩
  · omega
/-- what is taken so far -/
def TkB (l : List Fc) (a j : Nat) (t : Int) : Prop := (t = -1 ∧ ∀ i : Nat, i < j → fromE l i a ≠ 0) ∨ (∃ k : Nat, k < j ∧ t = k ∧ fromE l k a = 0)
theorem tk_no {l : List Fc} {a j : Nat} {t : Int} (h : TkB l a j t) (hf : fromE l j a ≠ 0) : TkB l a (j + 1) t := by
  rcases h with ⟨rfl, h⟩ | ⟨k, hk, rfl, h⟩
  · exact .inl ⟨rfl, fun i hi => by
      rcases Nat.lt_or_ge i j with h' | h'
      · exact h i h'
      · obtain rfl : i = j := by omega
        exact hf⟩
  · exact .inr ⟨k, by omega, rfl, h⟩
theorem tk_yes {l : List Fc} (ho : okL l = true) {a j : Nat} {t : Int} (hjl : j < l.length) (h : TkB l a j t) (hf : fromE l j a = 0) : t = -1 ∧ TkB l a (j + 1) j := by
  refine ⟨?_, .inr ⟨j, by omega, rfl, hf⟩⟩
  rcases h with ⟨rfl, _⟩ | ⟨k, hk, rfl, h⟩
  · rfl
  · have h1 := List.getElem?_eq_getElem (show k < l.length by omega)
    have h2 := List.getElem?_eq_getElem hjl
    have := one_net ho h1 h2 (from_zero h1 h).2 (from_zero h2 hf).2
    omega
theorem first_spec {p : Fc → Bool} {l : List Fc} (h : l.any p = true) : ∃ x, l[firstF p l]? = some x ∧ p x = true := by
  unfold firstF
  rw [if_pos h]
  have h1 : ∃ x, x ∈ l ∧ p x = true := by simpa using h
  have h2 := List.findIdx_lt_length_of_exists h1
  exact ⟨l[l.findIdx p], List.getElem?_eq_getElem h2, List.findIdx_getElem⟩
/-- the end: what is taken by a face goes there -/
theorem tk_end {l : List Fc} (ho : okL l = true) {a : Nat} {t : Int} (h : TkB l a l.length t) :
    (t = -1 ∧ l.any (toP a) = false) ∨ (t = -1 ∧ l.any (toP a) = true ∧ netB l a = true) ∨ (t = (firstF (toP a) l : Nat) ∧ l.any (toP a) = true ∧ netB l a = true) := by
  have hnet : l.any (toP a) = true → netB l a = true := fun h => by
    obtain ⟨x, hx, hp⟩ := List.any_eq_true.1 h
    unfold toP at hp
    simp only [Bool.and_eq_true] at hp
    exact List.any_eq_true.2 ⟨x, hx, hp.2⟩
  rcases h with ⟨rfl, _⟩ | ⟨k, hk, rfl, h⟩
  · cases hany : l.any (toP a)
    · exact .inl ⟨rfl, rfl⟩
    · exact .inr (.inl ⟨rfl, rfl, hnet hany⟩)
  · have h1 := List.getElem?_eq_getElem hk
    have h2 := from_zero h1 h
    have hany : l.any (toP a) = true := List.any_eq_true.2 ⟨_, List.getElem_mem hk, by unfold toP; rw [h2.1, h2.2]; rfl⟩
    obtain ⟨x, hx, hp⟩ := first_spec hany
    unfold toP at hp
    simp only [Bool.and_eq_true] at hp
    have := one_net ho h1 hx h2.2 hp.2
    exact .inr (.inr ⟨by rw [← this], hany, hnet hany⟩)
end Go.Proofs.YtfgbliglgdkgpaaDoor
