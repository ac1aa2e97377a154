/- A function that defers a call and then goes over a function: how it leaves, with the loop's mark ahead of the call. -/
import Derived.Test.YtpadlillbofpnaaDoorBase
import Derived.RangeFuncLeaves
import Derived.Defers
namespace Go.Proofs.YtpadlillbofpnaaDoor
set_option linter.unusedVariables false
set_option linter.unusedSimpArgs false
variable {P : Program}
/-- on its way out: marks whose blocks hand nothing over, then what the kit's law speaks of -/
def LvM (P : Program) (fn : Func) (tmps : Array Value) (R : Ending → World → Prop) : List Deferred → FrameMode → World → Prop
  | [], u, w => Leaves P fn tmps R [] u w
  | d :: ds, u, w => Leaves P fn tmps R (d :: ds) u w ∨ (u ≠ .run ∧ ∃ r w', d.target = .collected r ∧ (Instr.takeDeferred r).run P w = .ok [] w' ∧ LvM P fn tmps R ds u w')
theorem lvm_steps {fn : Func} {tmps : Array Value} {R : Ending → World → Prop} (ds : List Deferred) : ∀ (u : FrameMode) (w : World) (fr : Frame) (cs : List Frame), fr.mode = u → fr.defers = ds → fr.tmps = tmps → P.funcs[fr.fn]? = some fn → fr.kind = .normal → LvM P fn tmps R ds u w →
    ∃ e w' fr', R e w' ∧ Comes P (lone fr cs w) (lone fr' cs w') e ∧ fr'.fn = fr.fn ∧ fr'.leaving P w' e := by
  induction ds with
  | nil => intro u w fr cs hu hd ht hf hk h; exact leaves_steps [] u w fr cs hu hd ht hf hk h
  | cons d ds ih =>
    intro u w fr cs hu hd ht hf hk h
    rcases h with h | ⟨hrun, r, w', htar, htake, hrest⟩
    · exact leaves_steps (d :: ds) u w fr cs hu hd ht hf hk h
    · have h1 := step_collected (cs := cs) (hu ▸ hrun) hd htar htake
      obtain ⟨e, w2, fr', q1, q2, q3, q4⟩ := ih u w' { fr with defers := [] ++ ds } cs hu rfl ht hf hk hrest
      exact ⟨e, w2, fr', q1, Comes.of_steps (.one h1) q2, q3, q4⟩
/-- what the body must achieve -/
def bodyL (P : Program) (fn : Func) (R : Ending → World → Prop) : Exit → Act → World → Prop
  | .normal, a, w => LvM P fn a.tmps R a.defers .returning w
  | .ret, a, w => LvM P fn a.tmps R a.defers .returning w
  | .panic ch, a, w => LvM P fn a.tmps R a.defers (.panicking ch) w
  | .outgrown, _, w => R .outgrown w
  | _, _, _ => False
theorem calls_of_lvm {f : FuncId} {fn : Func} {c : Code} {args : Array Value} {w : World} {R : Ending → World → Prop} (hf : P.funcs[f]? = some fn) (hb : fn.body = some c)
    (h : c.wp P (bodyL P fn R) { tmps := args ++ Array.replicate (fn.ntmps - args.size) undef, defers := [] } w) : Calls P f args w R := by
  intro cs
  have hen : Frame.enter P f args .normal = ({ (default : Frame) with fn := f, kind := .normal } : Frame).at { tmps := args ++ Array.replicate (fn.ntmps - args.size) undef, defers := [] } [.code c] := by
    simp [Frame.enter, Frame.at, hf, hb]
  obtain ⟨e, a', w', hq, harr⟩ := h { (default : Frame) with fn := f, kind := .normal } [] cs
  rw [← hen] at harr
  cases e with
  | normal =>
    obtain ⟨e', w2, fr', q1, q2, q3, q4⟩ := lvm_steps a'.defers .returning w' { ({ (default : Frame) with fn := f, kind := .normal } : Frame).at a' [] with mode := .returning } cs rfl rfl rfl hf rfl hq
    exact ⟨e', w2, fr', q1, Comes.of_steps (Steps.trans harr (.one step_end)) q2, q3, q4⟩
  | ret =>
    obtain ⟨todo, h0⟩ := harr
    obtain ⟨e', w2, fr', q1, q2, q3, q4⟩ := lvm_steps a'.defers .returning w' { ({ (default : Frame) with fn := f, kind := .normal } : Frame).at a' todo with mode := .returning } cs rfl rfl rfl hf rfl hq
    exact ⟨e', w2, fr', q1, Comes.of_steps h0 q2, q3, q4⟩
  | panic ch =>
    obtain ⟨todo, h0⟩ := harr
    obtain ⟨e', w2, fr', q1, q2, q3, q4⟩ := lvm_steps a'.defers (.panicking ch) w' { ({ (default : Frame) with fn := f, kind := .normal } : Frame).at a' todo with mode := .panicking ch } cs rfl rfl rfl hf rfl hq
    exact ⟨e', w2, fr', q1, Comes.of_steps h0 q2, q3, q4⟩
  | exit id => exact hq.elim
  | goto l => exact hq.elim
  | outgrown => exact ⟨.outgrown, w', { (default : Frame) with fn := f, kind := .normal }, hq, harr.resolve_left (by simp), rfl, trivial⟩
end Go.Proofs.YtpadlillbofpnaaDoor
