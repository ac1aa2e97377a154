/- RouteHolds: the plain law: what becomes of a route, and what then holds. -/
import Derived.Test.YtgjeejdebneoaaaDoorRoE
namespace Go.Proofs.YtgjeejdebneoaaaDoor
set_option linter.unusedVariables false
set_option linter.unusedSimpArgs false
open Go.RowKit
set_option maxRecDepth 100000

theorem ok2 (a : Nat) (m me lo fa : Int) (nx : Nat) (du : Int) (ch : Bool) : okR a m 2 me lo fa nx du ch = true ↔ 2 ≤ me ∧ me ≤ 15 ∧ lo = 0 ∧ mayF fa nx = true ∧ 0 ≤ du ∧ du ≤ 4611686018427387904 ∧ okOf a m 1 = true := by
  show (s2F me lo fa nx du && okOf a m 1) = true ↔ _
  simp only [s2F, somF, inF, Bool.and_eq_true, decide_eq_true_eq, beq_iff_eq]
  constructor
  · rintro ⟨⟨⟨⟨h1, h2⟩, _, h3⟩, h4, h5, h6⟩, h7⟩
    exact ⟨h1, h2, h3, h4, h5, h6, h7⟩
  · rintro ⟨h1, h2, h3, h4, h5, h6, h7⟩
    exact ⟨⟨⟨⟨h1, h2⟩, trivial, h3⟩, h4, h5, h6⟩, h7⟩
theorem ok3 (a : Nat) (m me lo fa : Int) (nx : Nat) (du : Int) (ch : Bool) : okR a m 3 me lo fa nx du ch = true ↔ 2 ≤ lo ∧ lo ≤ 15 ∧ me = 16 ∧ mayF fa nx = true ∧ 0 ≤ du ∧ du ≤ 4611686018427387904 ∧ okOf a m 1 = true := by
  show (s3F me lo fa nx du && okOf a m 1) = true ↔ _
  simp only [s3F, somF, inF, Bool.and_eq_true, decide_eq_true_eq, beq_iff_eq]
  constructor
  · rintro ⟨⟨⟨⟨h1, h2⟩, h3, _⟩, h4, h5, h6⟩, h7⟩
    exact ⟨h1, h2, h3, h4, h5, h6, h7⟩
  · rintro ⟨h1, h2, h3, h4, h5, h6, h7⟩
    exact ⟨⟨⟨⟨h1, h2⟩, h3, trivial⟩, h4, h5, h6⟩, h7⟩
theorem ok4 (a : Nat) (m me lo fa : Int) (nx : Nat) (du : Int) (ch : Bool) : okR a m 4 me lo fa nx du ch = true ↔ me = 16 ∧ lo = 0 ∧ mayF fa nx = true ∧ 0 ≤ du ∧ du ≤ 4611686018427387904 ∧ okOf a m 1 = true := by
  show (s4F me lo fa nx du && okOf a m 1) = true ↔ _
  simp only [s4F, somF, inF, Bool.and_eq_true, decide_eq_true_eq, beq_iff_eq]
  constructor
  · rintro ⟨⟨⟨h1, h2⟩, h4, h5, h6⟩, h7⟩
    exact ⟨h1, h2, h4, h5, h6, h7⟩
  · rintro ⟨h1, h2, h4, h5, h6, h7⟩
    exact ⟨⟨⟨h1, h2⟩, h4, h5, h6⟩, h7⟩
theorem ok0 (a : Nat) (m : Int) (e : okOf a m 1 = true) : okR a m 0 0 0 0 0 0 false = true := by
  show (s0F 0 0 0 0 0 false && okOf a m 1) = true
  rw [e]; rfl
theorem okOf_of (r : Rt) (e : okRt r = true) : okOf r.a r.m 1 = true := (Bool.and_eq_true_iff.1 e).2
theorem ok_st (r : Rt) (e : okRt r = true) : 0 ≤ r.st ∧ r.st ≤ 4 := Classical.byContradiction fun hc => by
  have : okRt r = false := okR_st r.a r.m r.st r.me r.lo r.fa r.nx r.du r.ch hc
  rw [this] at e; cases e

/-- what a step leaves: a route that may be, of the same prefix, due in time -/
def Fine (r r' : Rt) (now : Int) : Prop := okRt r' = true ∧ r'.a = r.a ∧ r'.m = r.m ∧ r'.nx < 4294967296 ∧ (r'.st = 2 → r'.du ≤ now + 1000000 ∨ (r.st = 2 ∧ r'.du = r.du))
/-- what is asked of a step by which something is heard, or not -/
def Kept (he : Bool) (hf : Int) (hx : Nat) (hm : Int) (r r' : Rt) : Prop :=
  (r'.st = 2 → (r'.me ≠ r.me ∨ r'.fa ≠ r.fa ∨ r'.nx ≠ r.nx ∨ r.st ≠ 2) → he = true ∧ r'.fa = hf ∧ r'.nx = hx ∧ r'.me = hm + 1) ∧
  (r.st = 2 → r'.st = 2 → he = true → r'.fa = hf → r'.nx = hx → r'.me = hm + 1) ∧ (r.st = 3 → r'.st = 2 → r'.me < r.lo)

theorem kept_no2 {he : Bool} {hf : Int} {hx : Nat} {hm : Int} {r r' : Rt} (q : r'.st ≠ 2) : Kept he hf hx hm r r' := ⟨fun k => absurd k q, fun _ k => absurd k q, fun _ k => absurd k q⟩
theorem kept_self {he : Bool} {hf : Int} {hx : Nat} {hm : Int} {r : Rt} (q : r.st = 2 → he = true → r.fa = hf → r.nx = hx → r.me = hm + 1) : Kept he hf hx hm r r :=
  ⟨fun k k2 => by rcases k2 with k2 | k2 | k2 | k2 <;> exact absurd (by first | rfl | exact k) k2, fun k _ => q k, fun k k2 => by rw [k] at k2; cases k2⟩
theorem fine_self (r : Rt) (now : Int) (e : okRt r = true) (hx : r.nx < 4294967296) : Fine r r now := ⟨e, rfl, rfl, hx, fun h => Or.inr ⟨h, rfl⟩⟩
theorem fine_lost (h : Int) (r : Rt) (now : Int) (e : okRt r = true) (hx : r.nx < 4294967296) (h2 : r.st = 2) (hh : 0 ≤ h ∧ h ≤ 1000000) (hn : 0 ≤ now ∧ now ≤ 4611686018426387904) : Fine r (lostR h r now) now := by
  obtain ⟨a, m, st, me, lo, fa, nx, du, ch⟩ := r
  simp only at h2 hx
  subst h2
  obtain ⟨k1, k2, k3, k4, k5, k6, k7⟩ := (ok2 a m me lo fa nx du ch).1 e
  exact ⟨(ok3 a m 16 me fa nx (now + h) true).2 ⟨k1, k2, rfl, k4, by omega, by omega, k7⟩, rfl, rfl, hx, fun q => absurd q (show ¬ (3 : Int) = 2 by decide)⟩
theorem fine_bec (t : Int) (r : Rt) (hf : Int) (hx : Nat) (n now : Int) (e : okRt r = true) (hx2 : hx < 4294967296) (hm : mayF hf hx = true) (h2 : 2 ≤ n ∧ n ≤ 15) (ht : 0 ≤ t ∧ t ≤ 1000000) (hn : 0 ≤ now ∧ now ≤ 4611686018426387904) : Fine r (becR t r hf hx n now) now :=
  ⟨(ok2 r.a r.m n 0 hf hx (now + t) true).2 ⟨h2.1, h2.2, rfl, hm, by omega, by omega, okOf_of r e⟩, rfl, rfl, hx2, fun _ => Or.inl (by show now + t ≤ _; omega)⟩

section
variable (t h g : Int) (r : Rt) (now : Int) (e : okRt r = true) (hnx : r.nx < 4294967296) (hh : 0 ≤ h ∧ h ≤ 1000000) (ht : 0 ≤ t ∧ t ≤ 1000000) (hg : 0 ≤ g ∧ g ≤ 1000000) (hn : 0 ≤ now ∧ now ≤ 4611686018426387904)
include e hnx hh hn
theorem lose_step (hf : Int) (hx : Nat) (hm : Int) : Fine r (loseR h r now) now ∧ Kept false hf hx hm r (loseR h r now) := by
  unfold loseR
  split
  · rename_i h2
    exact ⟨fine_lost h r now e hnx h2 hh hn, kept_no2 (show (3 : Int) ≠ 2 by decide)⟩
  · rename_i h2
    exact ⟨fine_self r now e hnx, kept_no2 h2⟩
include hg
theorem exp_step (hf : Int) (hx : Nat) (hm : Int) : Fine r (expR h g r now) now ∧ Kept false hf hx hm r (expR h g r now) := by
  have hself : Fine r r now ∧ Kept false hf hx hm r r := ⟨fine_self r now e hnx, kept_self (fun _ q => by cases q)⟩
  unfold expR
  split
  · exact hself
  rename_i hno
  split
  · rename_i h2
    exact ⟨fine_lost h r now e hnx h2 hh hn, kept_no2 (show (3 : Int) ≠ 2 by decide)⟩
  rename_i h2
  split
  · rename_i h3
    refine ⟨?_, kept_no2 (show (4 : Int) ≠ 2 by decide)⟩
    obtain ⟨a, m, st, me, lo, fa, nx, du, ch⟩ := r
    simp only at h3 hnx
    subst h3
    obtain ⟨k1, k2, k3, k4, k5, k6, k7⟩ := (ok3 a m me lo fa nx du ch).1 e
    exact ⟨(ok4 a m me 0 fa nx (now + g) ch).2 ⟨k3, rfl, k4, by omega, by omega, k7⟩, rfl, rfl, hnx, fun q => absurd q (show ¬ (4 : Int) = 2 by decide)⟩
  · exact ⟨⟨ok0 r.a r.m (okOf_of r e), rfl, rfl, by show (0 : Nat) < 4294967296; decide, fun q => absurd q (show ¬ (0 : Int) = 2 by decide)⟩, kept_no2 (show (0 : Int) ≠ 2 by decide)⟩
end
theorem hear_step (t h : Int) (r : Rt) (now : Int) (hf : Int) (hx : Nat) (hm : Int) (e : okRt r = true) (hnx : r.nx < 4294967296) (hh : 0 ≤ h ∧ h ≤ 1000000) (ht : 0 ≤ t ∧ t ≤ 1000000) (hn : 0 ≤ now ∧ now ≤ 4611686018426387904) (hx2 : hx < 4294967296) (ho : okH hf hx hm = true) :
    Fine r (hearR t h r hf hx hm now) now ∧ Kept true hf hx hm r (hearR t h r hf hx hm now) := by
  have hmay : mayF hf hx = true := (Bool.and_eq_true_iff.1 ho).1
  have hmm : 1 ≤ hm ∧ hm ≤ 16 := of_decide_eq_true (Bool.and_eq_true_iff.1 ho).2
  have hst := ok_st r e
  have hself : (r.st = 2 → r.fa = hf → r.nx = hx → r.me = hm + 1) → Fine r r now ∧ Kept true hf hx hm r r := fun q0 => ⟨fine_self r now e hnx, kept_self (fun q _ => q0 q)⟩
  have hbec : ∀ n, n = min (hm + 1) 16 → n < 16 → (r.st = 3 → n < r.lo) → Fine r (becR t r hf hx n now) now ∧ Kept true hf hx hm r (becR t r hf hx n now) := fun n hn1 hn2 hlo =>
    ⟨fine_bec t r hf hx n now e hx2 hmay ⟨by omega, by omega⟩ ht hn, ⟨fun _ _ => ⟨rfl, rfl, rfl, by show n = _; omega⟩, fun _ _ _ _ _ => by show n = _; omega, fun q _ => hlo q⟩⟩
  have hme : r.st = 2 → 2 ≤ r.me ∧ r.me ≤ 15 := fun q => by
    have e' : okR r.a r.m r.st r.me r.lo r.fa r.nx r.du r.ch = true := e
    rw [q] at e'
    have := (ok2 r.a r.m r.me r.lo r.fa r.nx r.du r.ch).1 e'
    omega
  have hlo : r.st = 3 → r.lo ≤ 15 := fun q => by
    have e' : okR r.a r.m r.st r.me r.lo r.fa r.nx r.du r.ch = true := e
    rw [q] at e'
    have := (ok3 r.a r.m r.me r.lo r.fa r.nx r.du r.ch).1 e'
    omega
  obtain ⟨n, hn0⟩ : ∃ n, n = min (hm + 1) 16 := ⟨_, rfl⟩
  unfold hearR
  simp only
  rw [← hn0]
  split
  · rename_i h1; exact hself (fun q => by omega)
  split
  · rename_i h1 h2
    have hm2 := hme h2
    split
    · rename_i h3
      split
      · rename_i h4
        refine ⟨⟨?_, rfl, rfl, hnx, fun _ => Or.inl (by show now + t ≤ _; omega)⟩, ⟨fun _ _ => ⟨rfl, h3.1.symm, h3.2.symm, by show r.me = _; omega⟩, fun _ _ _ _ _ => by show r.me = _; omega, fun q _ => by omega⟩⟩
        obtain ⟨a, m, st, me, lo, fa, nx, du, ch⟩ := r
        simp only at h2
        subst h2
        obtain ⟨k1, k2, k3, k4, k5, k6, k7⟩ := (ok2 a m me lo fa nx du ch).1 e
        exact (ok2 a m me lo fa nx (now + t) ch).2 ⟨k1, k2, k3, k4, by omega, by omega, k7⟩
      · split
        · exact ⟨fine_lost h r now e hnx h2 hh hn, kept_no2 (show (3 : Int) ≠ 2 by decide)⟩
        · rename_i h4 h5; exact hbec n hn0 (by omega) (fun q => by omega)
    · rename_i h3
      split
      · rename_i h4; exact hbec n hn0 (by omega) (fun q => by omega)
      · exact hself (fun _ q1 q2 => absurd ⟨q1.symm, q2.symm⟩ h3)
  split
  · rename_i h1 h2 h3
    have := hlo h3
    split
    · rename_i h4; exact hbec n hn0 (by omega) (fun _ => h4)
    · exact hself (fun q => absurd q h2)
  · rename_i h1 h2 h3
    split
    · rename_i h4; exact hbec n hn0 h4 (fun q => absurd q h3)
    · exact hself (fun q => absurd q h2)
end Go.Proofs.YtgjeejdebneoaaaDoor
