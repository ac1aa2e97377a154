/- A region that draws its order inside the round of a range over a function, whose callees may make memory but answer one value each. -/
import Derived.Test.YtpadlillbofpnaaDoorRngQ
import Derived.Test.YtpadlillbofpnaaDoorRngE
import Derived.Test.YtpadlillbofpnaaDoorRowX
namespace Go.Proofs.YtpadlillbofpnaaDoor
set_option linter.unusedVariables false
set_option linter.unusedSimpArgs false
open Go.RowKit
section
variable {F : Fence} {n l : Nat} {P : Program} {Q : Exit → Act → World → Prop}
theorem region_round_sub {id : Nat} {a : Act} {w : World} {lst : List Oper} (hro : F.round = none) (hm : P.follows .mixedOrders = true) (hnd : noDefer lst.toArray = true) (hB : Region.lexB .any lst.toArray = true)
    (h : wpQuietIn F n P lst.toArray (fun w' => ∃ v : Sub w, w' = v.1) (fun a' => ∀ w', (∃ v : Sub w, w' = v.1) → Q .normal a' w') lst a) : (Code.region id lst.toArray true).wpIn (F.inRound l) n P Q a w := by
  simp only [Region.lexB, Bool.and_eq_true] at hB
  refine wpIn_region_any hm (any_round (noDefer_at hnd) _ _ _ _ (wpAnyIn_of_quiet (Q := fun a' => ∀ w', (∃ v : Sub w, w' = v.1) → Q .normal a' w') hro (fun _ w' hw' h => h w' hw') _ _ _ _ ⟨⟨{ w with drawn := w.drawn + 1 }, ⟨rfl, rfl, rfl, Nat.le_refl _, fun _ _ => rfl⟩⟩, rfl⟩ ?_))
  have := wpAnyQIn_lex (F := F) (n := n) (C := fun w' => ∃ v : Sub w, w' = v.1) (md := .any) hB.1 lst.toArray.toList 0 (Array.replicate lst.toArray.size false) a (by simp) (by simpa using hB.2) (by simpa using h)
  simpa using this
end
theorem blk_put {w w' : World} {L g : Nat} {t : TypeId} {cs : Array Value} (h : Blk w g t cs) (hl : ∃ r, w.heap[L]? = some (.loop r)) (hk : ∀ k, k ≠ L → w'.heap[k]? = w.heap[k]?) : Blk w' g t cs := by
  obtain ⟨r, hr⟩ := hl
  refine (hk g (fun e => ?_)).trans h
  subst e
  have := h.symm.trans hr
  cases this
theorem rdp_put {w w' : World} {L : Nat} {p : Nat → Prop} {A : Option Addr} {xs : List Value} (h : RdP w p A xs) (hl : ∃ r, w.heap[L]? = some (.loop r)) (hk : ∀ k, k ≠ L → w'.heap[k]? = w.heap[k]?) : RdP w' p A xs := fun h0 => by
  obtain ⟨r, hr⟩ := hl
  obtain ⟨b, off, e, hp, hc⟩ := h h0
  refine ⟨b, off, e, hp, fun i u hu => (World.cell?_of_block (hk b (fun e => ?_))).trans (hc i u hu)⟩
  subst e
  have := hc i u hu
  simp [World.cell?, hr] at this
end Go.Proofs.YtpadlillbofpnaaDoor
