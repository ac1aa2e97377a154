/- FlightHolds: the plain law; marks of deferred calls, taken one by one. -/
import Derived.Test.YtgdkobknjgbdbaaFlA
import Derived.Test.YtgdkobknjgbdbaaFlV
namespace Go.Proofs.Ytgdkobknjgbdbaa
set_option linter.unusedVariables false
set_option linter.unusedSimpArgs false
open Go.RowKit Go.Shelf
set_option maxRecDepth 100000
/-- what is on its way: its links rise, none is above what was put, none was sent later than now -/
structure Sat (L : List Mm) (put now : Int) : Prop where
  up : L.Pairwise fun a b => a.link < b.link
  le : ∀ m ∈ L, 1 ≤ m.link ∧ m.link ≤ put
  st : ∀ m ∈ L, 0 ≤ m.sent ∧ m.sent ≤ now
theorem Sat.nil (put now : Int) : Sat [] put now := ⟨List.Pairwise.nil, fun m h => absurd h (by simp), fun m h => absurd h (by simp)⟩
theorem Sat.sub {L L' : List Mm} {put now : Int} (h : Sat L put now) (hs : L'.Sublist L) : Sat L' put now := ⟨h.up.sublist hs, fun m hm => h.le m (hs.subset hm), fun m hm => h.st m (hs.subset hm)⟩
theorem Sat.later {L : List Mm} {put now now' : Int} (h : Sat L put now) (hn : now ≤ now') : Sat L put now' := ⟨h.up, h.le, fun m hm => ⟨(h.st m hm).1, Int.le_trans (h.st m hm).2 hn⟩⟩
/-- nothing is on its way for longer than the delay -/
def Near (L : List Mm) (now delay : Int) : Prop := ∀ m ∈ L, now - m.sent ≤ delay
theorem Near.sub {L L' : List Mm} {now delay : Int} (h : Near L now delay) (hs : L'.Sublist L) : Near L' now delay := fun m hm => h m (hs.subset hm)
theorem late_cases (now delay : Int) (L : List Mm) (h0 : 0 ≤ delay) : (lateP now delay L).2 = 0 ∨ (lateP now delay L).2 = 5 := by
  have : ¬ delay < 0 := by omega
  unfold lateP
  rw [if_neg this]
  cases L[fstL now delay L]? <;> simp
theorem late_yes {now delay : Int} {L : List Mm} (h0 : 0 ≤ delay) (h : (lateP now delay L).2 = 0) : (lateL now delay L).length + 1 = L.length ∧ (lateL now delay L).Sublist L ∧ (lateP now delay L).1 ∈ L ∧ delay ≤ now - (lateP now delay L).1.sent := by
  have hd : ¬ delay < 0 := by omega
  unfold lateP at h ⊢
  unfold lateL
  rw [if_neg hd] at h ⊢
  cases hm : L[fstL now delay L]? with
  | none => rw [hm] at h; simp at h
  | some m =>
    have hlt : fstL now delay L < L.length := by
      rcases Nat.lt_or_ge (fstL now delay L) L.length with h | h
      · exact h
      · rw [List.getElem?_eq_none h] at hm; cases hm
    have hp := List.findIdx_getElem (xs := L) (p := lateM now delay) (w := hlt)
    rw [List.getElem?_eq_getElem hlt] at hm
    have hm' := Option.some.inj hm
    unfold fstL at hm'
    rw [hm'] at hp
    simp [lateM, lateB] at hp
    rw [if_neg hd]
    refine ⟨?_, List.eraseIdx_sublist _ _, List.mem_of_getElem hm', hp.2⟩
    rw [List.length_eraseIdx]
    rw [if_pos hlt]
    omega
theorem late_no {now delay : Int} {L : List Mm} {put : Int} (h0 : 0 ≤ delay) (hs : Sat L put now) (h : (lateP now delay L).2 = 5) : lateL now delay L = L ∧ Near L now delay := by
  have hd : ¬ delay < 0 := by omega
  unfold lateP at h
  unfold lateL
  rw [if_neg hd] at h ⊢
  cases hm : L[fstL now delay L]? with
  | some m => rw [hm] at h; simp at h
  | none =>
    have hge : L.length ≤ fstL now delay L := by
      rcases Nat.lt_or_ge (fstL now delay L) L.length with h | h
      · rw [List.getElem?_eq_getElem h] at hm; cases hm
      · exact h
    refine ⟨List.eraseIdx_of_length_le hge, fun m hm => ?_⟩
    have hall := List.findIdx_eq_length.1 (Nat.le_antisymm List.findIdx_le_length (show L.length ≤ List.findIdx (lateM now delay) L from hge)) m hm
    have := (hs.st m hm).2
    simp [lateM, lateB] at hall
    omega
theorem pick_some {pick : Int} {L : List Mm} (h : 0 < L.length) : (pickM pick L).2 = 0 ∧ (pickL pick L).length + 1 = L.length := by
  have hlt := pickF_lt pick _ h
  unfold pickM pickL
  rw [List.getElem?_eq_getElem hlt, List.length_eraseIdx, if_pos hlt]
  exact ⟨rfl, by omega⟩
theorem pick_none {pick : Int} {L : List Mm} (h : L.length = 0) : (pickM pick L).2 = 5 ∧ (pickL pick L).length = 0 := by
  have : L = [] := List.eq_nil_of_length_eq_zero h
  subst this
  exact ⟨rfl, rfl⟩
theorem pick_sub (pick : Int) (L : List Mm) : (pickL pick L).Sublist L := List.eraseIdx_sublist _ _
/-- the mail that is put -/
def mP (put now : Int) : Mm := ⟨put, 0, 0, 0, [], now⟩
theorem mP_ok {put now : Int} (h1 : 0 ≤ put) (h2 : 0 ≤ now) (h3 : now ≤ 100) : okM (mP put now) = true := by
  rw [okM_not]
  exact ⟨h1, Int.le_refl 0, Int.le_refl 0, h2, show now ≤ 4611686018427387904 by omega⟩
theorem Sat.put {L : List Mm} {put now delay : Int} {room : Nat} (h : Sat L put now) (hn : Near L now delay) (h1 : 0 ≤ put) (h2 : 0 ≤ now) (h3 : now ≤ 100) (hd : 0 ≤ delay) : Sat (putL (mP (put + 1) now) room L) (put + 1) now ∧ Near (putL (mP (put + 1) now) room L) now delay := by
  unfold putL
  split
  · refine ⟨⟨?_, ?_, ?_⟩, ?_⟩
    · rw [List.pairwise_append]
      refine ⟨h.up, by simp, ?_⟩
      intro a ha b hb
      have : b = mP (put + 1) now := by simpa using hb
      subst this
      have := (h.le a ha).2
      simp [mP]; omega
    · intro m hm
      rcases List.mem_append.1 hm with hm | hm
      · have := h.le m hm; omega
      · have : m = mP (put + 1) now := by simpa using hm
        subst this
        simp [mP]; omega
    · intro m hm
      rcases List.mem_append.1 hm with hm | hm
      · exact h.st m hm
      · have : m = mP (put + 1) now := by simpa using hm
        subst this
        simp [mP]; omega
    · intro m hm
      rcases List.mem_append.1 hm with hm | hm
      · exact hn m hm
      · have : m = mP (put + 1) now := by simpa using hm
        subst this
        simp [mP]; omega
  · exact ⟨⟨h.up, fun m hm => by have := h.le m hm; omega, h.st⟩, hn⟩
theorem put_err {put now : Int} {room : Nat} {L : List Mm} (h1 : 0 ≤ put) (h2 : 0 ≤ now) (h3 : now ≤ 100) : errPut (mP put now) room L.length = (if room ≤ L.length then 3 else 0) := by
  unfold errPut; rw [mP_ok h1 h2 h3]; simp
theorem put_sum {put now : Int} {room lost : Nat} {L : List Mm} (h1 : 0 ≤ put) (h2 : 0 ≤ now) (h3 : now ≤ 100) (hl : lost ≤ 1000) : (putL (mP put now) room L).length + putLost (mP put now) room L.length lost = L.length + lost + 1 ∧ (putLost (mP put now) room L.length lost = if room ≤ L.length then lost + 1 else lost) := by
  unfold putL putLost
  rw [mP_ok h1 h2 h3]
  by_cases h : room ≤ L.length
  · rw [if_neg (by omega), if_pos (by simp [h]), if_pos h]
    unfold lostN
    omega
  · rw [if_pos (by simp; omega), if_neg (by simp [h]), if_neg h]
    simp; omega

/-- the link of the last that came -/
def lastK (L : List Mm) : Nat → Int
  | 0 => 0
  | k + 1 => (L[k]?.map (·.link)).getD 0
theorem last_succ {L : List Mm} {k : Nat} {m : Mm} (h : L[k]? = some m) : lastK L (k + 1) = m.link := by simp [lastK, h]
theorem last_lt {L : List Mm} {put now : Int} {k : Nat} {m : Mm} (hs : Sat L put now) (h : L[k]? = some m) : lastK L k < m.link := by
  have hk : k < L.length := by
    rcases Nat.lt_or_ge k L.length with h' | h'
    · exact h'
    · rw [List.getElem?_eq_none h'] at h; cases h
  cases k with
  | zero => have := (hs.le m (List.mem_of_getElem? h)).1; simp [lastK]; omega
  | succ k =>
    have hp := List.pairwise_iff_getElem.1 hs.up k (k + 1) (by omega) hk (by omega)
    rw [List.getElem?_eq_getElem hk] at h
    have hm := Option.some.inj h
    simp only [lastK, List.getElem?_eq_getElem (show k < L.length by omega), Option.map_some, Option.getD_some]
    rw [← hm]
    exact hp
/-- between two rounds of the loop over what is on its way -/
def RL (W1 : World) (Bn : Nat) (L : List Mm) (pre : List (Nat × Ml)) (W : World) : Prop := Boxed W Bn 3 (.int .i64 (lastK L pre.length)) ∧ Below Bn W1 W
theorem RL.stable {W1 : World} {Bn B : Nat} {L : List Mm} (h1 : Bn < B) : Stable B (RL W1 Bn L) := fun s W W' hs hb => ⟨boxed_below hs.1 hb h1, hs.2.trans (hb.mono (by omega))⟩

/-- the marks of loops that are over -/
def mkD (D : Nat) : Deferred := { target := .collected D, args := #[] }
/-- between two rounds of the loop over the times: the flight, what lay when it began, and the marks -/
structure HS (w1 wr : World) (n0 g room lost : Nat) (v : Value) (rs : List Ml) (Ds : List Nat) : Prop where
  fl : Fl wr n0 g v rs room lost
  base : Below n0 w1 wr
  nd : Ds.Nodup
  defs : ∀ D ∈ Ds, n0 ≤ D ∧ wr.heap[D]? = some (.deferred (some []))
theorem kp_def {w : World} {n0 g room lost D : Nat} {v : Value} {rs : List Ml} {x : Option (List Deferred)} (h : Fl w n0 g v rs room lost) (hD : w.heap[D]? = some (.deferred x)) : Kp g v D := by
  refine ⟨fun e => ?_, fun e => ?_⟩
  · have hb : w.heap[g]? = some _ := h.blk
    rw [← e, hD] at hb
    cases hb
  · rcases h.own.2 with ⟨rfl, h0⟩ | ⟨g2, cap, cur, rfl, hg, hh, _⟩
    · simp [Value.ownBlock] at e
    · simp [Value.ownBlock] at e
      subst e
      rw [hD] at hh
      cases hh
theorem HS.goes {w1 wr w2 : World} {n0 g room lost lost' : Nat} {v v' : Value} {rs rs' : List Ml} {Ds : List Nat} (h : HS w1 wr n0 g room lost v rs Ds) (hg : Goes wr w2 n0 g v v' rs' room lost') (hn : n0 ≤ wr.heap.size) : HS w1 w2 n0 g room lost' v' rs' Ds :=
  ⟨hg.1, h.base.trans (hg.2.1.below hn (fun b hb => ⟨by have := h.fl.ge; omega, fun e => by have := own_base' h.fl.own b e; omega⟩)), h.nd, fun D hD => by
    have := h.defs D hD
    exact ⟨this.1, (hg.2.1.2.2.2.2 D (kp_def h.fl this.2) (Array.getElem?_eq_some_iff.1 this.2).1).trans this.2⟩⟩
theorem HS.below {w1 wr w2 : World} {n0 g room lost : Nat} {v : Value} {rs : List Ml} {Ds : List Nat} (h : HS w1 wr n0 g room lost v rs Ds) (hb : Below wr.heap.size wr w2) (hn : n0 ≤ wr.heap.size) : HS w1 w2 n0 g room lost v rs Ds :=
  ⟨h.fl.below hb, h.base.trans (hb.mono hn), h.nd, fun D hD => by
    have := h.defs D hD
    exact ⟨this.1, (hb.block D (Array.getElem?_eq_some_iff.1 this.2).1).trans this.2⟩⟩
theorem HS.mark {w1 wr w2 : World} {n0 g room lost D : Nat} {v : Value} {rs : List Ml} {Ds : List Nat} (h : HS w1 wr n0 g room lost v rs Ds) (hb : Below wr.heap.size wr w2) (hn : n0 ≤ wr.heap.size) (hD : wr.heap.size ≤ D) (hk : w2.heap[D]? = some (.deferred (some []))) : HS w1 w2 n0 g room lost v rs (D :: Ds) := by
  have h' := h.below hb hn
  refine ⟨h'.fl, h'.base, List.nodup_cons.2 ⟨fun hm => ?_, h.nd⟩, fun E hE => ?_⟩
  · have := (Array.getElem?_eq_some_iff.1 (h.defs D hm).2).1
    omega
  · rcases List.mem_cons.1 hE with rfl | hE
    · exact ⟨Nat.le_trans hn hD, hk⟩
    · exact h'.defs E hE
/-- every mark is taken; what lay is left -/
theorem leaves_marks {F : Fence} {n : Nat} {P : Program} {fn : Func} {tmps : Array Value} {R : Ending → World → Prop} (B : Nat) : ∀ (Ds : List Nat) (w : World), Ds.Nodup → (∀ D ∈ Ds, B ≤ D ∧ w.heap[D]? = some (.deferred (some []))) →
    (∀ w', Below B w w' → w.heap.size = w'.heap.size → LeavesInM F n P fn tmps R [] .returning w') → LeavesInM F n P fn tmps R (Ds.map mkD) .returning w
  | [], w, _, _, h => h w (Below.refl _ _) rfl
  | D :: Ds, w, hn, hd, h => by
    obtain ⟨hD, hk⟩ := hd D (by simp)
    refine ⟨by simp, .inl ⟨D, _, rfl, run_takeDeferred hk, ?_⟩⟩
    have hbw : Below B w (w.putObj D (.deferred none)) := below_putObj _ _ _ hD
    refine leaves_marks B Ds _ (List.nodup_cons.1 hn).2 (fun E hE => ⟨(hd E (by simp [hE])).1, ?_⟩) (fun w' hb' hs' => h w' (hbw.trans hb') (by rw [← hs']; simp [World.putObj]))
    have hne : E ≠ D := fun e => (List.nodup_cons.1 hn).1 (e ▸ hE)
    rw [World.putObj_heap_other hne]
    exact (hd E (by simp [hE])).2
end Go.Proofs.Ytgdkobknjgbdbaa
