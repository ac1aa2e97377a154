/- packet: the document's Cut. -/
import Derived.Test.YtpadlillbofpnaaDoorPkE
import Derived.Deep.AppendLies
import Derived.Deep.RegionHeldLaw
import Derived.Deep.RegionLaw
namespace Go.Proofs.YtpadlillbofpnaaDoor
set_option linter.unusedVariables false
set_option linter.unusedSimpArgs false
open Go.RowKit
set_option maxRecDepth 100000
/-- a row that is owned, one cell of it laid anew -/
theorem own_put {w : World} {base : Nat} {e : TypeId} {g n cap size : Nat} {xs : List Value} (h : w.ownsRow base e size (.slice (some ⟨g, 0, none⟩) n cap) n xs) {i : Nat} (hi : i < n * size) (u : Value) :
    (w.setCell ⟨g, i, none⟩ u).ownsRow base e size (.slice (some ⟨g, 0, none⟩) n cap) n (xs.set i u) := by
  obtain ⟨hl, ⟨h1, _⟩ | ⟨g', cap', cur, h1, hg, hb, hnc, hm, hcs, ht⟩⟩ := h
  · cases h1
  · injection h1 with h1 h2 h3
    injection h1 with h1
    injection h1 with h1
    subst h1
    subst h3
    have hB : Blk w g e cur := hb
    refine ⟨by rw [List.length_set]; exact hl, .inr ⟨g, cap, cur.setIfInBounds i u, rfl, hg, hB.set i u, hnc, hm, by simpa using hcs, ?_⟩⟩
    rw [Array.toList_setIfInBounds, ← ht, List.take_set]
/-- and the cell itself -/
theorem own_cell {w : World} {base : Nat} {e : TypeId} {g n cap size : Nat} {xs : List Value} (h : w.ownsRow base e size (.slice (some ⟨g, 0, none⟩) n cap) n xs) {i : Nat} {u : Value} (hx : xs[i]? = some u) : w.frozen? ⟨g, i, none⟩ = false ∧ w.cell? ⟨g, i, none⟩ = some u := by
  obtain ⟨hl, ⟨h1, _⟩ | ⟨g', cap', cur, h1, hg, hb, hnc, hm, hcs, ht⟩⟩ := h
  · cases h1
  · injection h1 with h1 h2 h3
    injection h1 with h1
    injection h1 with h1
    subst h1
    have hB : Blk w g e cur := hb
    refine ⟨hB.frozen i, ?_⟩
    rw [hB.cell i]
    rw [← ht, List.getElem?_take] at hx
    split at hx
    · rwa [Array.getElem?_toList] at hx
    · cases hx

/-- pieces that are whole -/
def Full (W : World) (base : Nat) (cm : Int) (l : List Er) (ds : List Dg) (out : Value) : Prop :=
  W.ownsRow base 27 2 out ds.length (dgC cm ds) ∧ Pcs W (fun b => base ≤ b ∧ out.ownBlock ≠ some b) l ds
/-- pieces that are whole, and one more, of which m entries are there -/
def In1 (W : World) (base : Nat) (cm : Int) (l : List Er) (ds : List Dg) (out v : Value) (m : Nat) : Prop :=
  W.ownsRow base 27 2 out (ds.length + 1) (dgC cm ds ++ [.int .i64 cm, v]) ∧ W.ownsRow base 55 6 v m (erC ((l.drop (25 * ds.length)).take m)) ∧
  Pcs W (fun b => base ≤ b ∧ out.ownBlock ≠ some b ∧ v.ownBlock ≠ some b) l ds ∧ (∀ b, v.ownBlock = some b → out.ownBlock ≠ some b)
theorem Full.below {W W' : World} {base : Nat} {cm : Int} {l : List Er} {ds : List Dg} {out : Value} (h : Full W base cm l ds out) (hb : Below W.heap.size W W') : Full W' base cm l ds out :=
  ⟨own_below h.1 hb, h.2.fr (Fr.of_below (p := fun _ => True) hb) (fun _ _ _ => trivial) (fun _ h _ => h)⟩
theorem In1.below {W W' : World} {base : Nat} {cm : Int} {l : List Er} {ds : List Dg} {out v : Value} {m : Nat} (h : In1 W base cm l ds out v m) (hb : Below W.heap.size W W') : In1 W' base cm l ds out v m :=
  ⟨own_below h.1 hb, own_below h.2.1 hb, h.2.2.1.fr (Fr.of_below (p := fun _ => True) hb) (fun _ _ _ => trivial) (fun _ h _ => h), h.2.2.2⟩
theorem In1.full {W : World} {base : Nat} {cm : Int} {l : List Er} {ds : List Dg} {out v : Value} {m : Nat} (h : In1 W base cm l ds out v m) (hm : (l.drop (25 * ds.length)).take m = pcL l ds.length) (hl : (pcL l ds.length).length = m) : ∃ d, Full W base cm l (ds ++ [d]) out := by
  obtain ⟨h1, h2, h3, h4⟩ := h
  obtain ⟨A, c, rfl, k1, k2, k3, k4⟩ := own_row h2
  rw [hm] at k3
  refine ⟨⟨A, m, c⟩, ?_, ?_⟩
  · rw [List.length_append, List.length_singleton, dgC_app]; exact h1
  · exact (h3.fr (Fr.of_below (p := fun _ => True) (Below.refl _ _)) (fun _ _ _ => trivial) (fun b hb _ => ⟨hb.1, hb.2.1⟩)).snoc ⟨hl.symm, k1, by unfold maxLen at k2; omega, k3.to (fun a ha _ => ⟨k4 a ha, h4 a.block (by rw [ha]; rfl)⟩)⟩
theorem Full.push {W W1 W2 : World} {base cap : Nat} {cm : Int} {l : List Er} {ds : List Dg} {out out' : Value} (h : Full W base cm l ds out) (hb : Below W.heap.size W W1) (ho : W2.ownsRow base 27 2 out' (ds.length + 1) (dgC cm ds ++ [.int .i64 cm, .slice none 0 0])) (hg : W1.grownBy W2 out.ownBlock) (ha : out'.ownBlock = out.ownBlock ∨ out'.ownBlock = some W1.heap.size) (hcap : cap = 0) :
    In1 W2 base cm l ds out' (.slice none 0 cap) 0 := by
  subst hcap
  refine ⟨ho, by rw [List.take_zero]; exact World.ownsRow_nil _ _ _ _, ?_, fun b hb => by simp [Value.ownBlock] at hb⟩
  refine h.2.fr ((Fr.of_below hb).trans (Fr.grown (p := fun b => out.ownBlock ≠ some b) hg (fun b hb => hb))) (fun b hb _ => hb.2) (fun b hb hl => ⟨hb.1, fun e => ?_, by simp [Value.ownBlock]⟩)
  have hs := hb
  rcases ha with ha | ha
  · exact hb.2 (ha ▸ e)
  · rw [ha] at e
    injection e with e
    have := (‹Below W.heap.size W W1›).size
    omega
theorem In1.grow {W W1 W2 : World} {base go oc : Nat} {cm : Int} {l : List Er} {ds : List Dg} {v v' : Value} {m : Nat} {x : Er} (h : In1 W base cm l ds (.slice (some ⟨go, 0, none⟩) (ds.length + 1) oc) v m) (hx : l[25 * ds.length + m]? = some x) (hb : Below W.heap.size W W1) (hbase : base ≤ W.heap.size)
    (ho : W2.ownsRow base 55 6 v' (m + 1) (erC ((l.drop (25 * ds.length)).take m) ++ erL x)) (hg : W1.grownBy W2 v.ownBlock) (ha : v'.ownBlock = v.ownBlock ∨ v'.ownBlock = some W1.heap.size) :
    In1 (W2.setCell ⟨go, ds.length * 2 + 1, none⟩ v') base cm l ds (.slice (some ⟨go, 0, none⟩) (ds.length + 1) oc) v' (m + 1) := by
  obtain ⟨h1, h2, h3, h4⟩ := h
  have hgo := own_lt h1 go rfl
  have hs := hb.size
  have hvo : ∀ b, v'.ownBlock = some b → go ≠ b := fun b e e2 => by
    subst e2
    rcases ha with ha | ha
    · exact h4 go (ha ▸ e) rfl
    · rw [ha] at e; injection e with e; omega
  have h5 : W2.ownsRow base 27 2 (.slice (some ⟨go, 0, none⟩) (ds.length + 1) oc) (ds.length + 1) (dgC cm ds ++ [.int .i64 cm, v]) :=
    (own_below h1 hb).kept hg (.inr (fun e => h4 go e.symm rfl))
  have h6 := own_put h5 (i := ds.length * 2 + 1) (by omega) v'
  have hset : (dgC cm ds ++ [.int .i64 cm, v]).set (ds.length * 2 + 1) v' = dgC cm ds ++ [.int .i64 cm, v'] := by
    rw [List.set_append_right _ _ (by rw [dgC_len]; omega), dgC_len, show ds.length * 2 + 1 - ds.length * 2 = 1 by omega]
    rfl
  rw [hset] at h6
  have hgs : W2.grownBy (W2.setCell ⟨go, ds.length * 2 + 1, none⟩ v') (some go) := ⟨rfl, rfl, rfl, by simp [World.setCell], fun k hk hne => Below.heap_setCell W2 ⟨go, _, none⟩ v' k (fun e => hne (by rw [e]))⟩
  refine ⟨h6, ?_, ?_, fun b e e2 => hvo b e (by injection e2)⟩
  · have h7 := ho.kept hgs (.inr (fun e => hvo go e rfl))
    have htk : (l.drop (25 * ds.length)).take (m + 1) = (l.drop (25 * ds.length)).take m ++ [x] := by
      rw [List.take_add_one, List.getElem?_drop, hx]; rfl
    rw [htk, erC_app]
    have he : erC [x] = erL x := by simp [erC]
    rw [he]
    exact h7
  · have f1 : Fr (fun b => v.ownBlock ≠ some b ∧ b ≠ go) W (W2.setCell ⟨go, ds.length * 2 + 1, none⟩ v') :=
      ((Fr.of_below hb).trans (Fr.grown hg (fun b hb => hb.1))).trans (Fr.set (a := ⟨go, _, none⟩) (fun b hb => hb.2) v')
    refine h3.fr f1 (fun b hb _ => ⟨hb.2.2, fun e => hb.2.1 (by rw [e]; rfl)⟩) (fun b hb hl => ⟨hb.1, hb.2.1, fun e => ?_⟩)
    rcases ha with ha | ha
    · exact hb.2.2 (ha ▸ e)
    · rw [ha] at e; injection e with e; omega
theorem In1.ob {W : World} {base : Nat} {cm : Int} {l : List Er} {ds : List Dg} {out v : Value} {m : Nat} (h : In1 W base cm l ds out v m) : ∃ go oc, out = .slice (some ⟨go, 0, none⟩) (ds.length + 1) oc ∧ base ≤ go := own_form5 h.1 (by omega)
/-- where the loop stands -/
def Cs (W : World) (base : Nat) (cm : Int) (l : List Er) (out : Value) (j : Nat) : Prop :=
  (j = 0 ∧ out = .slice none 0 0) ∨ ∃ ds v m, j = 25 * ds.length + m ∧ 1 ≤ m ∧ m ≤ 25 ∧ In1 W base cm l ds out v m
theorem Cs.below {W W' : World} {base : Nat} {cm : Int} {l : List Er} {out : Value} {j : Nat} (h : Cs W base cm l out j) (hb : Below W.heap.size W W') : Cs W' base cm l out j := by
  rcases h with h | ⟨ds, v, m, h1, h2, h3, h4⟩
  · exact .inl h
  · exact .inr ⟨ds, v, m, h1, h2, h3, h4.below hb⟩
theorem Cs.whole {W : World} {base : Nat} {cm : Int} {l : List Er} {out : Value} {j : Nat} (h : Cs W base cm l out j) (hj : j % 25 = 0 ∧ j ≤ l.length ∨ j = l.length) : ∃ ds : List Dg, Full W base cm l ds out ∧ ds.length = (j + 24) / 25 := by
  rcases h with ⟨rfl, rfl⟩ | ⟨ds, v, m, h1, h2, h3, h4⟩
  · exact ⟨[], ⟨World.ownsRow_nil _ _ _ _, fun i d hd => by simp at hd⟩, rfl⟩
  · have hlen : (pcL l ds.length).length = m := by unfold pcL; rw [List.length_take, List.length_drop]; omega
    have hm : (l.drop (25 * ds.length)).take m = pcL l ds.length := by
      unfold pcL
      rcases hj with hj | hj
      · rw [show m = 25 by omega]
      · rw [List.take_of_length_le (by rw [List.length_drop]; omega), List.take_of_length_le (by rw [List.length_drop]; omega)]
    obtain ⟨d, hd⟩ := h4.full hm hlen
    exact ⟨ds ++ [d], hd, by rw [List.length_append, List.length_singleton]; omega⟩
end Go.Proofs.YtpadlillbofpnaaDoor
