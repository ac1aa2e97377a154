/- Plain words of packet: its bytes and its entries, there and back. -/
import Derived.Test.YtpadlillbofpnaaDoorPkA
import Derived.Test.YtpadlillbofpnaaDoorEBy3
namespace Go.Proofs.YtpadlillbofpnaaDoor
set_option linter.unusedVariables false
set_option linter.unusedSimpArgs false
open Go.RowKit
theorem er_ofB (e : Er) (l : List UInt8) (hf : fitR e) (ho : okE e = true) : erOf (enB e ++ l) 0 = e := by
  obtain ⟨h1, h2, h3, h4⟩ := okE_parts ho
  obtain ⟨f, t, a, m, x, k⟩ := e
  simp only at h1 h2 h3 h4
  have h := read_entB f.toNat t.toNat a m x k l h2 h4 hf.1 hf.2.1 hf.2.2.1 hf.2.2.2
  unfold readE at h
  injection h with h
  injection h with h
  injection h with g0 h
  injection h with g1 h
  injection h with g2 h
  injection h with g3 h
  injection h with g4 h
  injection h with g5 h
  injection g0 with _ g0
  injection g1 with _ g1
  injection g2 with _ g2
  injection g3 with _ g3
  injection g4 with _ g4
  injection g5 with _ g5
  unfold erOf enB
  simp only [Nat.zero_mul, List.drop_zero]
  rw [Er.mk.injEq]
  exact ⟨by omega, by omega, by omega, by omega, by omega, by omega⟩
theorem er_next (b l : List UInt8) (hb : b.length = 20) (i : Nat) : erOf (b ++ l) (i + 1) = erOf l i := by
  unfold erOf
  rw [show (b ++ l).drop ((i + 1) * 20) = l.drop (i * 20) by rw [Nat.succ_mul, Nat.add_comm, ← List.drop_drop, ← hb, List.drop_left]]
theorem ers_cons (b l : List UInt8) (hb : b.length = 20) : ersOf (b ++ l) = erOf (b ++ l) 0 :: ersOf l := by
  unfold ersOf
  rw [List.length_append, hb, show (20 + l.length) / 20 = l.length / 20 + 1 by omega, List.range_succ_eq_map, List.map_cons, List.map_map]
  congr 1
  exact List.map_congr_left fun i _ => er_next b l hb i
theorem ers_esB : ∀ (l : List Er), (∀ e ∈ l, fitR e) → l.all okE = true → ersOf (esB l) = l
  | [], _, _ => rfl
  | e :: l, hf, ho => by
    rw [List.all_cons, Bool.and_eq_true] at ho
    show ersOf (enB e ++ esB l) = e :: l
    rw [ers_cons _ _ (enB_len e), er_ofB e _ (hf e (by simp)) ho.1, ers_esB l (fun x hx => hf x (by simp [hx])) ho.2]
theorem esB_ers : ∀ (n : Nat) (b : List UInt8), b.length = n * 20 → esB (ersOf b) = b
  | 0, b, h => by
    obtain rfl : b = [] := List.eq_nil_of_length_eq_zero (by omega)
    rfl
  | n + 1, b, h => by
    have h20 : (b.take 20).length = 20 := by simp; omega
    have e : b = b.take 20 ++ b.drop 20 := (List.take_append_drop 20 b).symm
    have ih := esB_ers n (b.drop 20) (by simp; omega)
    have h1 : ersOf b = erOf b 0 :: ersOf (b.drop 20) := by
      have := ers_cons (b.take 20) (b.drop 20) h20
      rwa [← e] at this
    rw [h1]
    show enB (erOf b 0) ++ esB (ersOf (b.drop 20)) = b
    rw [ih]
    have h2 : enB (erOf b 0) = b.take 20 := by
      have := entB_read b (by omega)
      unfold enB erOf
      simpa using this
    rw [h2, List.take_append_drop]
theorem encE_zero {cm : Int} {l : List Er} (h : encE cm l = 0) : (cm = 1 ∨ cm = 2) ∧ l.length ≤ 25 ∧ l.all okE = true := by
  unfold encE at h
  split at h
  · omega
  split at h
  · omega
  split at h
  · rename_i h1 h2 h3
    have : cmdB cm = true := by simpa using h1
    exact ⟨of_decide_eq_true this, by omega, h3⟩
  · omega
theorem at8_0 (a b c d : UInt8) (l : List UInt8) : at8 (a :: b :: c :: d :: l) 0 = a.toNat := rfl
theorem at8_1 (a b c d : UInt8) (l : List UInt8) : at8 (a :: b :: c :: d :: l) 1 = b.toNat := rfl
theorem at8_2 (a b c d : UInt8) (l : List UInt8) : at8 (a :: b :: c :: d :: l) 2 = c.toNat := rfl
theorem at8_3 (a b c d : UInt8) (l : List UInt8) : at8 (a :: b :: c :: d :: l) 3 = d.toNat := rfl
/-- what bytes are worth whose body is entries' bytes -/
theorem decE_head (a b c d : UInt8) (l : List Er) (hl : l.length ≤ 25) : decE (a :: b :: c :: d :: esB l) = if b.toNat ≠ 2 then 152 else if cmdB a.toNat = false then 153 else if c.toNat * 256 + d.toNat ≠ 0 then 154 else 0 := by
  unfold decE
  have hL : (a :: b :: c :: d :: esB l).length = l.length * 20 + 4 := by simp [esB_len]
  rw [hL, if_neg (by omega), if_neg (by omega), at8_0, at8_1, at8_2, at8_3]
theorem pkB_1 (l : List Er) : pkB 1 l = 1 :: 2 :: 0 :: 0 :: esB l := rfl
theorem pkB_2 (l : List Er) : pkB 2 l = 2 :: 2 :: 0 :: 0 :: esB l := rfl
theorem pkB_len (cm : Int) (l : List Er) : (pkB cm l).length = l.length * 20 + 4 := by simp [pkB, headB, esB_len]
theorem dec_enc {cm : Int} {l : List Er} (h : encE cm l = 0) (hf : ∀ e ∈ l, fitR e) : decE (pkB cm l) = 0 ∧ dcmd (pkB cm l) = cm ∧ desL (pkB cm l) = l := by
  obtain ⟨hc, hl, ho⟩ := encE_zero h
  have hd : decE (pkB cm l) = 0 := by
    rcases hc with rfl | rfl
    · rw [pkB_1, decE_head _ _ _ _ _ hl]; decide
    · rw [pkB_2, decE_head _ _ _ _ _ hl]; decide
  refine ⟨hd, ?_, ?_⟩
  · unfold dcmd
    rw [if_pos hd]
    rcases hc with rfl | rfl <;> rfl
  · unfold desL
    rw [if_pos hd]
    rcases hc with rfl | rfl
    · exact ers_esB l hf ho
    · exact ers_esB l hf ho
theorem enc_dec {l : List UInt8} (h : decE l = 0) : encE (dcmd l) (desL l) = 0 ∧ pkB (dcmd l) (desL l) = l := by
  obtain ⟨h1, h2, h3, h4, h5, h6, h7⟩ := decE_zero h
  have hc : dcmd l = at8 l 0 := by unfold dcmd; rw [if_pos h]
  have hd : desL l = ersOf (l.drop 4) := by unfold desL; rw [if_pos h]
  rw [hc, hd]
  constructor
  · unfold encE
    rw [h5, if_neg (by simp), ersOf_len, if_neg (by simp; omega), ersOf_ok, if_pos rfl]
  · match l, h1 with
    | a :: b :: c :: d :: r, _ =>
      rw [at8_1] at h4
      rw [at8_2] at h6
      rw [at8_3] at h7
      have kb : b = 2 := UInt8.toNat_inj.1 h4
      have kc : c = 0 := UInt8.toNat_inj.1 h6
      have kd : d = 0 := UInt8.toNat_inj.1 h7
      subst kb kc kd
      rw [at8_0]
      unfold pkB headB
      rw [show (List.drop 4 (a :: 2 :: 0 :: 0 :: r)) = r from rfl, esB_ers (r.length / 20) r (by simp at h2; omega)]
      simp
theorem pkB_inj {cm cm' : Int} {l l' : List Er} (h : encE cm l = 0) (h' : encE cm' l' = 0) (hf : ∀ e ∈ l, fitR e) (hf' : ∀ e ∈ l', fitR e) (e : pkB cm l = pkB cm' l') : cm = cm' ∧ l = l' := by
  obtain ⟨_, a1, a2⟩ := dec_enc h hf
  obtain ⟨_, b1, b2⟩ := dec_enc h' hf'
  rw [e] at a1 a2
  exact ⟨a1.symm.trans b1, a2.symm.trans b2⟩
theorem xor_ne {a x : UInt8} (hx : x ≠ 0) : a ^^^ x ≠ a := fun h => hx (by
  have h2 : a ^^^ (a ^^^ x) = a ^^^ a := by rw [h]
  rw [← UInt8.xor_assoc, UInt8.xor_self, UInt8.zero_xor] at h2
  exact h2)
/-- bytes of which one is laid over with another one -/
def layB (l : List UInt8) (i : Nat) (x : UInt8) : List UInt8 := l.set i (l.getD i 0 ^^^ x)
theorem lay_bad {cm : Int} {l : List Er} (h : encE cm l = 0) {i : Nat} (hi : i < 4) {x : UInt8} (hx : x ≠ 0) (hb : 0 < i ∨ decE (layB (pkB cm l) i x) ≠ 0) : 152 ≤ decE (layB (pkB cm l) i x) ∧ decE (layB (pkB cm l) i x) ≤ 154 := by
  obtain ⟨hc, hl, ho⟩ := encE_zero h
  have e : ∃ a : UInt8, pkB cm l = a :: 2 :: 0 :: 0 :: esB l ∧ cmdB a.toNat = true := by
    rcases hc with rfl | rfl
    · exact ⟨1, rfl, by decide⟩
    · exact ⟨2, rfl, by decide⟩
  obtain ⟨a, e, ha⟩ := e
  rw [e] at hb ⊢
  obtain rfl | rfl | rfl | rfl : i = 0 ∨ i = 1 ∨ i = 2 ∨ i = 3 := by omega
  · rw [show layB (a :: 2 :: 0 :: 0 :: esB l) 0 x = (a ^^^ x) :: 2 :: 0 :: 0 :: esB l from rfl, decE_head _ _ _ _ _ hl] at hb ⊢
    rw [if_neg (by decide)] at hb ⊢
    split
    · omega
    · rename_i h2
      rw [if_neg h2, if_neg (by decide)] at hb
      omega
  · rw [show layB (a :: 2 :: 0 :: 0 :: esB l) 1 x = a :: (2 ^^^ x) :: 0 :: 0 :: esB l from rfl, decE_head _ _ _ _ _ hl, if_pos (show (2 ^^^ x).toNat ≠ 2 from fun h => xor_ne (a := 2) hx (UInt8.toNat_inj.1 h))]
    omega
  · rw [show layB (a :: 2 :: 0 :: 0 :: esB l) 2 x = a :: 2 :: (0 ^^^ x) :: 0 :: esB l from rfl, decE_head _ _ _ _ _ hl, if_neg (by decide), ha, if_neg (by simp), if_pos]
    · omega
    · intro h
      have h0 : ((0 : UInt8) ^^^ x).toNat = 0 := by omega
      exact xor_ne hx (UInt8.toNat_inj.1 h0)
  · rw [show layB (a :: 2 :: 0 :: 0 :: esB l) 3 x = a :: 2 :: 0 :: (0 ^^^ x) :: esB l from rfl, decE_head _ _ _ _ _ hl, if_neg (by decide), ha, if_neg (by simp), if_pos]
    · omega
    · intro h
      have h0 : ((0 : UInt8) ^^^ x).toNat = 0 := by omega
      exact xor_ne hx (UInt8.toNat_inj.1 h0)
theorem lay_good {cm : Int} {l : List Er} (h : encE cm l = 0) (hf : ∀ e ∈ l, fitR e) {x : UInt8} (hx : x ≠ 0) (hb : decE (layB (pkB cm l) 0 x) = 0) : dcmd (layB (pkB cm l) 0 x) ≠ cm ∧ desL (layB (pkB cm l) 0 x) = l := by
  obtain ⟨hc, hl, ho⟩ := encE_zero h
  have e : ∃ a : UInt8, pkB cm l = a :: 2 :: 0 :: 0 :: esB l ∧ (a.toNat : Int) = cm := by
    rcases hc with rfl | rfl
    · exact ⟨1, rfl, by decide⟩
    · exact ⟨2, rfl, by decide⟩
  obtain ⟨a, e, ha⟩ := e
  rw [e] at hb ⊢
  constructor
  · unfold dcmd
    rw [if_pos hb]
    intro h2
    rw [show layB (a :: 2 :: 0 :: 0 :: esB l) 0 x = (a ^^^ x) :: 2 :: 0 :: 0 :: esB l from rfl, at8_0, ← ha] at h2
    exact xor_ne hx (UInt8.toNat_inj.1 (Int.ofNat.inj h2))
  · unfold desL
    rw [if_pos hb]
    exact ers_esB l hf ho
end Go.Proofs.YtpadlillbofpnaaDoor
