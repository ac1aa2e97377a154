/- A range over a function that writes memory of its own between two rounds: the caller's invariant is kept by whatever leaves the blocks alone that lay when the loop began. -/
import Derived.Test.YtcinggnhfgkahaaDoorRng
import Derived.RangeFuncWrites
namespace Go.Proofs.YtcinggnhfgkahaaDoor
set_option linter.unusedVariables false
set_option linter.unusedSimpArgs false
open Go.RowKit Go.Shelf
/-- what holds is kept by changes from a block on -/
def Stable {β : Type} (B : Nat) (J : β → World → Prop) : Prop := ∀ s W W', J s W → Below B W W' → J s W'
/-- an iterator's contract, where it may write blocks that it made itself -/
def SeqStopsW {α : Type} (F : Fence) (n : Nat) (P : Program) (g : Nat) (lb : Array Value) (encs : α → Array Value) (Kp : World → World → Prop) (S Sp : List α → Prop) (N : Nat) (w : World) (hi : Nat) : Prop :=
  ∀ (l : Nat) (J Jx : List α → World → Prop) (W : World), Below w.heap.size w W → hi ≤ W.heap.size → Stable W.heap.size J → Stable W.heap.size Jx →
    (∀ pre x W1, J pre W1 → pre.length < N → YieldAt F (n - 1) P l (encs x) W1 fun e W' =>
      (e = .returned (.bool true) ∧ J (pre ++ [x]) W' ∧ Kp W1 W') ∨ (e = .returned (.bool false) ∧ Jx (pre ++ [x]) W')) →
    J [] W →
    CallsIn F n P g (#[.func (.yield l) #[] #[]] ++ lb) W fun e W' => (∃ v, e = .returned v) ∧ ((∃ xs, S xs ∧ J xs W') ∨ (∃ pre, Sp pre ∧ Jx pre W'))
theorem below_putObj (W : World) (l : Nat) (o : Obj) {B : Nat} (h : B ≤ l) : Below B W (W.putObj l o) := by
  have hg := grownBy_putObj' W l o
  exact ⟨hg.os, hg.tape, hg.output, hg.size, fun k hk => by
    rcases Nat.lt_or_ge k W.heap.size with h' | h'
    · exact hg.block k h' (fun e => by injection e with e; omega)
    · exact World.putObj_heap_other (by omega)⟩
section
variable {α : Type} {F : Fence} {n : Nat} {P : Program}
theorem range_own {g : Operand} {ps : Array Tmp} {assign body : Code} {Q : Exit → Act → World → Prop} {a : Act} {w : World}
    (hro : F.round = none) (h1 : 1 ≤ n) {gf : Nat} {lb : Array Value} (hg : a.eval g = .func (.func gf) #[] lb) (hFg : F.fn gf) (eg : ∀ args w, (callFunc gf args).run P w = .ok (.enter gf args) w)
    {encs : α → Array Value} {Kp : World → World → Prop} {S Sp : List α → Prop} {N : Nat} {w0 : World} (hseq : SeqStopsW F (n - 1) P gf lb encs Kp S Sp N w0 (w.heap.size + 2))
    (hKt : ∀ {A B C : World}, Kp A B → Kp B C → Kp A C) (hKb : ∀ (W : World) (o : Obj), w.heap.size + 1 < W.heap.size → Kp W (W.putObj (w.heap.size + 1) o)) (hb0 : Below w0.heap.size w0 w) (hps : ∀ x, (encs x).size = ps.size)
    (I : List α → World → Prop) (Ix : Code → List α → World → Prop) (hI : Stable w.heap.size I) (hIx : ∀ c, Stable w.heap.size (Ix c)) (h0 : I [] w) (a₁ : α → Act)
    (hassign : ∀ (l : Nat) (x : α) (W : World) (K : Act → World → Prop), K (a₁ x) W →
      assign.wpIn (F.inRound l) (n - 1 - 1) P (Exit.then K (fun _ _ _ => False)) { tmps := (ps.zip (encs x)).foldl (fun t (p, v) => t.setIfInBounds p v) a.tmps, defers := [] } W)
    (hbody : ∀ (l : Nat) (pre : List α) (x : α) (W : World), I pre W → pre.length < N → body.wpIn (F.inRound l) (n - 1 - 1) P (ownPostG w.heap.size Kp I Ix (pre ++ [x]) W) (a₁ x) W)
    (hdone : ∀ (D : Nat) (xs : List α) (W : World), w.heap.size ≤ D → S xs → I xs W → W.heap[D]? = some (.deferred (some [])) → Q .normal { a with defers := { target := .collected D, args := #[] } :: a.defers } W)
    (hstop : ∀ (D : Nat) (c : Code) (pre : List α) (W : World), w.heap.size ≤ D → Sp pre → Ix c pre W → W.heap[D]? = some (.deferred (some [])) → c.wpIn F n P Q { a with defers := { target := .collected D, args := #[] } :: a.defers } W) :
    (Code.rangeFunc g ps assign body).wpIn F n P Q a w := by
  refine wpIn_rangeFunc fun fn hfn => ?_
  rw [hro]
  -- the loop's own object, and the one that collects what is deferred
  let lp : LoopState → Option Code → Obj := fun st pe => .loop { state := st, pending := pe, fn, tmps := a.tmps, params := ps, assign, body, defers := w.heap.size }
  let L := w.heap.size + 1
  obtain ⟨V, hV⟩ : ∃ V, (w.alloc (.deferred (some []))).alloc (lp .ready none) = V := ⟨_, rfl⟩
  have bV : Below w.heap.size w V := by rw [← hV]; exact balloc (balloc (Below.refl _ _) _) _
  have sV : V.heap.size = w.heap.size + 2 := by rw [← hV]; simp
  have cL : V.heap[L]? = some (lp .ready none) := by
    rw [← hV]; have := World.alloc_heap_new (w.alloc (.deferred (some []))) (lp .ready none); rwa [World.size_alloc] at this
  have cD : V.heap[w.heap.size]? = some (.deferred (some [])) := by
    rw [← hV]; exact (Below.heap_alloc _ _ _ (by simp)).trans (World.alloc_heap_new w _)
  -- what goes along with the caller's invariant
  let J : List α → World → Prop := fun pre W => I pre W ∧ W.heap[L]? = some (lp .ready none) ∧ W.heap[w.heap.size]? = some (.deferred (some []))
  let Jx : List α → World → Prop := fun pre W => ∃ c, Ix c pre W ∧ W.heap[L]? = some (lp .done (some c)) ∧ W.heap[w.heap.size]? = some (.deferred (some []))
  have stJ : Stable V.heap.size J := fun s X Y hs hb => ⟨hI s X Y hs.1 (hb.mono (by omega)), (hb.block _ (by show w.heap.size + 1 < _; omega)).trans hs.2.1, (hb.block _ (by omega)).trans hs.2.2⟩
  have stX : Stable V.heap.size Jx := fun s X Y hs hb => by
    obtain ⟨c, q1, q2, q3⟩ := hs
    exact ⟨c, hIx c s X Y q1 (hb.mono (by omega)), (hb.block _ (by show w.heap.size + 1 < _; omega)).trans q2, (hb.block _ (by omega)).trans q3⟩
  refine ⟨L, [{ target := .collected w.heap.size, args := #[] }], V, { target := .fn (.func gf) lb, args := #[.func (.yield L) #[] #[]] }, V, gf, #[.func (.yield L) #[] #[]] ++ lb, V, ?_, ?_, ?_, ?_, fun _ => h1, ?_⟩
  · rw [← hV]; exact run_enterLoop_outer _ _ _ _ _
  · simp only [resolve, hg]
    simp [go_sem, L]
  · intro f' hf'; simp [Target.leads] at hf'; subst hf'; exact hFg
  · simp [invoke, go_sem, eg]
  refine (hseq L J Jx V (hb0.trans (bV.mono hb0.size)) (by omega) stJ stX ?_ ⟨hI _ _ _ h0 bV, cL, cD⟩).mono ?_
  · rintro pre x W ⟨hi, hl, hk⟩ hlen
    have hlt : L < W.heap.size := (Array.getElem?_eq_some_iff.1 hl).1
    refine ⟨fn, _, assign, body, run_yield (P := P) (args := encs x) hl (hps x), roundIn_of_wpIn hfn (hassign _ x W _ ⟨_, run_beginRound hl rfl, ?_⟩)⟩
    obtain ⟨X, hX⟩ : ∃ X, W.putObj L (lp .busy none) = X := ⟨_, rfl⟩
    have bX : Below w.heap.size W X := by rw [← hX]; exact below_putObj _ _ _ (by show w.heap.size ≤ w.heap.size + 1; omega)
    have lX : X.heap[L]? = some (lp .busy none) := by rw [← hX]; exact World.putObj_heap_same hlt
    have kX : X.heap[w.heap.size]? = some (.deferred (some [])) := by rw [← hX]; exact (World.putObj_heap_other (by show w.heap.size ≠ w.heap.size + 1; omega)).trans hk
    have pX : Kp W X := by rw [← hX]; exact hKb _ _ hlt
    have iX : I pre X := hI _ _ _ hi bX
    show body.wpIn _ _ _ _ _ (W.putObj L (lp .busy none))
    rw [hX]
    refine wpIn_mono (hbody L pre x X iX hlen) ?_
    have fin : ∀ (jump : Option Code) (Y : World), KeepsFrom w.heap.size X Y → L < Y.heap.size ∧ (Instr.endRound L jump).run P Y = .ok (.bool jump.isNone) (Y.putObj L (lp (if jump.isNone then .ready else .done) jump)) ∧
        (Y.putObj L (lp (if jump.isNone then .ready else .done) jump)).heap[L]? = some (lp (if jump.isNone then .ready else .done) jump) ∧ (Y.putObj L (lp (if jump.isNone then .ready else .done) jump)).heap[w.heap.size]? = some (.deferred (some [])) := fun jump Y hY => by
      have l3 := hY.same L _ (by show w.heap.size ≤ w.heap.size + 1; omega) lX rfl
      have k3 := hY.same w.heap.size _ (Nat.le_refl _) kX rfl
      have s3 : L < Y.heap.size := (Array.getElem?_eq_some_iff.1 l3).1
      exact ⟨s3, run_endRound (P := P) jump l3, World.putObj_heap_same s3, (World.putObj_heap_other (by show w.heap.size ≠ w.heap.size + 1; omega)).trans k3⟩
    have bY : ∀ (Y : World) (o : Obj), Below w.heap.size Y (Y.putObj L o) := fun Y o => below_putObj _ _ _ (by show w.heap.size ≤ w.heap.size + 1; omega)
    rintro e a3 Y hp
    cases e with
    | normal =>
      obtain ⟨q1, q2, q3⟩ := hp
      obtain ⟨f0, f1, f2, f3⟩ := fin none Y q1
      exact ⟨_, _, f1, .inl ⟨rfl, ⟨hI _ _ _ q3 (bY _ _), f2, f3⟩, hKt (hKt pX q2) (hKb _ _ f0)⟩⟩
    | ret =>
      obtain ⟨q1, q2⟩ := hp
      obtain ⟨f0, f1, f2, f3⟩ := fin (some .ret) Y q1
      exact ⟨_, _, f1, .inr ⟨rfl, .ret, hIx _ _ _ _ q2 (bY _ _), f2, f3⟩⟩
    | exit id =>
      obtain ⟨q1, q2⟩ := hp
      obtain ⟨f0, f1, f2, f3⟩ := fin (some (.exit id)) Y q1
      exact ⟨_, _, f1, .inr ⟨rfl, .exit id, hIx _ _ _ _ q2 (bY _ _), f2, f3⟩⟩
    | goto t =>
      obtain ⟨q1, q2⟩ := hp
      obtain ⟨f0, f1, f2, f3⟩ := fin (some (.goto t)) Y q1
      exact ⟨_, _, f1, .inr ⟨rfl, .goto t, hIx _ _ _ _ q2 (bY _ _), f2, f3⟩⟩
    | panic ch => exact hp.elim
    | outgrown => exact hp.elim
  · rintro e Y ⟨⟨v, rfl⟩, (⟨xs, hS, q1, q2, q3⟩ | ⟨pre, hSp, c, q1, q2, q3⟩)⟩
    · exact ⟨none, _, run_endLoop (P := P) q2 (by simp), hdone _ xs _ (Nat.le_refl _) hS (hI _ _ _ q1 (below_putObj _ _ _ (by show w.heap.size ≤ w.heap.size + 1; omega))) ((World.putObj_heap_other (by show w.heap.size ≠ w.heap.size + 1; omega)).trans q3)⟩
    · exact ⟨some c, _, run_endLoop (P := P) q2 (by simp), hstop _ c pre _ (Nat.le_refl _) hSp (hIx c _ _ _ q1 (below_putObj _ _ _ (by show w.heap.size ≤ w.heap.size + 1; omega))) ((World.putObj_heap_other (by show w.heap.size ≠ w.heap.size + 1; omega)).trans q3)⟩
end
end Go.Proofs.YtcinggnhfgkahaaDoor
