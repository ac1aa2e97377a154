/- act: the end of a call by both. -/
import Derived.Test.YtgdkobknjgbdbaaFlX
import Derived.StillTailTactics
namespace Go.Proofs.Ytgdkobknjgbdbaa
set_option linter.unusedVariables false
set_option linter.unusedSimpArgs false
open Go.RowKit
set_option maxRecDepth 100000

theorem Want.mono {w : World} {p q : Nat → Prop} {A : Option Addr} {n c : Nat} {ws : List Ml} (h : Want w p A n c ws) (h2 : ∀ b, p b → b < w.heap.size → q b) : Want w q A n c ws :=
  h.fr (s := fun _ => True) Fr.refl (fun _ _ _ => trivial) h2
/-- what is read in blocks that meet a condition, and lies from some block on -/
theorem RdP.from {w : World} {p : Nat → Prop} {A : Option Addr} {xs : List Value} {B : Nat} (h : RdP w p A xs) (hA : ∀ a, A = some a → B ≤ a.block) : RdP w (fun b => p b ∧ B ≤ b) A xs := fun h0 => by
  obtain ⟨b, off, e, hp, hc⟩ := h h0
  exact ⟨b, off, e, ⟨hp, hA _ e⟩, hc⟩
/-- the end of a call by both -/
theorem act_fin {w W2 w3 w4 w5 w6 : World} {n0 g room lost lost' : Nat} {v v' : Value} {rs rs' ws' : List Ml} {p : Nat → Prop} {A' : Option Addr} {n' c' : Nat} (hF : Fl w n0 g v rs room lost) (b2 : Below w.heap.size w W2) (b3 : Below W2.heap.size W2 w3) (b4 : Below w3.heap.size w3 w4)
    (hG : Goes w4 w5 n0 g v v' rs' room lost') (hpr : ∀ x ∈ rs', x ∈ rs ∨ ∀ a, x.A = some a → w4.heap.size ≤ a.block) (f6 : Fr (fun q => q < w.heap.size ∨ (W2.heap.size ≤ q ∧ q < w5.heap.size)) w5 w6)
    (hW3 : Want w3 (Or' (fun b => p b ∧ b < w.heap.size) W2) A' n' c' ws') (hp : ∀ b, p b → Kp g v b) (hms : msL rs' = msL ws') :
    ActOk w n0 g v rs room p (.returned (.tuple #[.pointer (some ⟨g, 0, none⟩), .agg #[.slice A' n' c', .int .i64 (room : Nat), .int .i64 (lost' : Nat)], .bool true])) w6 := by
  have s2 := b2.size
  have s3 := b3.size
  have s4 := b4.size
  obtain ⟨F5, f5, hv⟩ := hG
  have s5 := f5.2.2.2.1
  have gl := hF.blk.lt
  have hrow := hF.row_lt
  have b04 : Below w.heap.size w w4 := bnext (bnext b2 b3) b4
  have f05 : Fr (Kp g v) w w5 := (Fr.of_below b04).trans f5
  have f06 : Fr (Kp g v) w w6 := ⟨f6.1.trans f05.1, f6.2.1.trans f05.2.1, f6.2.2.1.trans f05.2.2.1, Nat.le_trans f05.2.2.2.1 f6.2.2.2.1, fun b hb hl => (f6.2.2.2.2 b (.inl hl) (by omega)).trans (f05.2.2.2.2 b hb hl)⟩
  have hKp : ∀ b, b < w.heap.size → Kp g v b → Kp g v' b := fun b hl hb => ⟨hb.1, fun e => by
    rcases hv b e with h | h
    · omega
    · exact hb.2 h⟩
  have hKn : ∀ b, W2.heap.size ≤ b → b < w4.heap.size → Kp g v' b := fun b h1 h2 => ⟨by omega, fun e => by
    rcases hv b e with h | h
    · omega
    · have := hrow b h; omega⟩
  refine ⟨g, v', rs', lost', A', n', c', ws', rfl, ⟨f6.blk F5.blk (.inl gl), F5.ge, own_keep F5.own (Nat.le_refl _) (fun q hq hl => f6.2.2.2.2 q ?_ hl), F5.apart, F5.room0, F5.len, F5.lost0, fun r hr => ?_, F5.ok⟩, hms, ?_, f06, hKp, fun r hr => ?_⟩
  · rcases hv q hq with h | h
    · exact .inr ⟨by omega, hl⟩
    · exact .inl (hrow q h)
  · rcases hpr r hr with h | h
    · obtain ⟨m1, m2⟩ := hF.mails r h
      exact ⟨m1.fr f06 (fun b hb _ => hb) (fun b hb hl => hKp b hl hb), m2⟩
    · obtain ⟨m1, m2⟩ := F5.mails r hr
      exact ⟨(m1.from h).fr f6 (fun b hb hl => .inr ⟨by omega, hl⟩) (fun b hb _ => hb.1), m2⟩
  · have h4 : Want w4 (fun b => Or' (fun b => p b ∧ b < w.heap.size) W2 b ∧ b < w3.heap.size) A' n' c' ws' := hW3.fr (s := fun _ => True) (Fr.of_below b4) (fun _ _ _ => trivial) (fun b hb hl => ⟨hb, hl⟩)
    have h5 := h4.fr f5 (fun b hb _ => hb.1.elim (fun h => hp b h.1.1) (fun h => ⟨by omega, fun e => by have := hrow b e; omega⟩)) (q := fun b => Or' (fun b => p b ∧ b < w.heap.size) W2 b ∧ b < w3.heap.size) (fun b hb _ => hb)
    refine h5.fr f6 (fun b hb hl => hb.1.elim (fun h => .inl h.1.2) (fun h => .inr ⟨h, hl⟩)) (fun b hb hl => hb.1.elim (fun h => .inl h.1) (fun h => .inr ⟨by omega, hKn b h (by omega)⟩))
  · exact (hpr r hr).imp id (fun h a e => by have := h a e; omega)
theorem Want.p1 {w W : World} {p : Nat → Prop} {A : Option Addr} {n c : Nat} {ws : List Ml} (h : Want w p A n c ws) (hb : Below w.heap.size w W) : Want W (fun b => p b ∧ b < w.heap.size) A n c ws :=
  h.fr (s := fun _ => True) (Fr.of_below hb) (fun _ _ _ => trivial) (fun b hp hl => ⟨hp, hl⟩)
/-- what the document hands back, cell by cell -/
def GivesRC (p : Nat → Prop) (m : Mm) (er : Int) (L' : List Mm) (room lost : Nat) (w : World) (e : Ending) (w' : World) : Prop :=
  ∃ A' n' c' ws' rA rc, e = .returned (.tuple #[.agg #[.slice A' n' c', .int .i64 room, .int .i64 lost], .agg #[.int .i64 m.link, .int .i64 m.frm, .int .i64 m.dst, .int .u32 m.src, .slice rA m.bs.length rc, .int .i64 m.sent], .int .i64 er]) ∧ RdP w' (Or' p w) rA (m.bs.map b8) ∧ Want w' (Or' p w) A' n' c' ws' ∧ msL ws' = L' ∧ Below w.heap.size w w'
theorem GivesR.cells {p : Nat → Prop} {m : Mm} {er : Int} {L' : List Mm} {room lost : Nat} {w w' : World} {e : Ending} (h : GivesR p m er L' room lost w e w') : GivesRC p m er L' room lost w e w' := by
  obtain ⟨A', n', c', ws', ⟨rm, rA, rc⟩, he, rfl, h1⟩ := h
  exact ⟨A', n', c', ws', rA, rc, he, h1⟩
/-- what the flight hands back, cell by cell -/
def GivesMC (m : Mm) (er : Int) (w0 : World) (e : Ending) (w' : World) : Prop :=
  ∃ rA rc, e = .returned (.tuple #[.agg #[.int .i64 m.link, .int .i64 m.frm, .int .i64 m.dst, .int .u32 m.src, .slice rA m.bs.length rc, .int .i64 m.sent], .int .i64 er]) ∧ m.bs.length ≤ rc ∧ rc ≤ maxLen ∧ Rd w' w'.heap.size rA (m.bs.map b8) ∧ (∀ a, rA = some a → w0.heap.size ≤ a.block)
theorem GivesM.cells {m : Mm} {er : Int} {w0 w' : World} {e : Ending} (h : GivesM m er w0 e w') : GivesMC m er w0 e w' := h
theorem Fr.putG {P : Nat → Prop} {w w1 : World} {g : Nat} (h : Fr P w w1) (hg : ∀ b, P b → b ≠ g) (i : Nat) (u : Value) : Fr P w (w1.setCell ⟨g, i, none⟩ u) := h.trans (Fr.set (a := ⟨g, i, none⟩) hg u)
/-- the cells of a document's flight and of two mails -/
abbrev C15 (b0 b1 b2 : Nat) (a0 a1 a2 m0 m1 m2 m3 m4 m5 n0 n1 n2 n3 n4 n5 : Value) (W : World) : Prop := (W.cell? ⟨b0, 0, none⟩ = some a0 ∧ W.cell? ⟨b0, 1, none⟩ = some a1 ∧ W.cell? ⟨b0, 2, none⟩ = some a2) ∧ (W.cell? ⟨b1, 0, none⟩ = some m0 ∧ W.cell? ⟨b1, 1, none⟩ = some m1 ∧ W.cell? ⟨b1, 2, none⟩ = some m2 ∧ W.cell? ⟨b1, 3, none⟩ = some m3 ∧ W.cell? ⟨b1, 4, none⟩ = some m4 ∧ W.cell? ⟨b1, 5, none⟩ = some m5) ∧ (W.cell? ⟨b2, 0, none⟩ = some n0 ∧ W.cell? ⟨b2, 1, none⟩ = some n1 ∧ W.cell? ⟨b2, 2, none⟩ = some n2 ∧ W.cell? ⟨b2, 3, none⟩ = some n3 ∧ W.cell? ⟨b2, 4, none⟩ = some n4 ∧ W.cell? ⟨b2, 5, none⟩ = some n5)
theorem far3 {W : World} {b G i : Nat} {x : Value} (u0 u1 u2 : Value) (h : G ≠ b) (hx : W.cell? ⟨b, i, none⟩ = some x) : (((W.setCell ⟨G, 0, none⟩ u0).setCell ⟨G, 1, none⟩ u1).setCell ⟨G, 2, none⟩ u2).cell? ⟨b, i, none⟩ = some x := by
  rw [World.cell?_setCell_far _ ⟨G, 2, none⟩ ⟨b, i, none⟩ _ h, World.cell?_setCell_far _ ⟨G, 1, none⟩ ⟨b, i, none⟩ _ h, World.cell?_setCell_far _ ⟨G, 0, none⟩ ⟨b, i, none⟩ _ h]
  exact hx
theorem c15_far {b0 b1 b2 : Nat} {a0 a1 a2 m0 m1 m2 m3 m4 m5 n0 n1 n2 n3 n4 n5 : Value} {W : World} {G : Nat} (u0 u1 u2 : Value) (h : C15 b0 b1 b2 a0 a1 a2 m0 m1 m2 m3 m4 m5 n0 n1 n2 n3 n4 n5 W) (q : G ≠ b0 ∧ G ≠ b1 ∧ G ≠ b2) : C15 b0 b1 b2 a0 a1 a2 m0 m1 m2 m3 m4 m5 n0 n1 n2 n3 n4 n5 (((W.setCell ⟨G, 0, none⟩ u0).setCell ⟨G, 1, none⟩ u1).setCell ⟨G, 2, none⟩ u2) := by
  obtain ⟨⟨x0, x1, x2⟩, ⟨y0, y1, y2, y3, y4, y5⟩, ⟨z0, z1, z2, z3, z4, z5⟩⟩ := h
  obtain ⟨q0, q1, q2⟩ := q
  exact ⟨⟨far3 _ _ _ q0 x0, far3 _ _ _ q0 x1, far3 _ _ _ q0 x2⟩, ⟨far3 _ _ _ q1 y0, far3 _ _ _ q1 y1, far3 _ _ _ q1 y2, far3 _ _ _ q1 y3, far3 _ _ _ q1 y4, far3 _ _ _ q1 y5⟩, ⟨far3 _ _ _ q2 z0, far3 _ _ _ q2 z1, far3 _ _ _ q2 z2, far3 _ _ _ q2 z3, far3 _ _ _ q2 z4, far3 _ _ _ q2 z5⟩⟩
/-- the same, and the cells of the flight that came in and of a call's times -/
abbrev C20 (b0 b1 b2 b3 b4 : Nat) (a0 a1 a2 m0 m1 m2 m3 m4 m5 n0 n1 n2 n3 n4 n5 r0 r1 r2 t0 t1 : Value) (W : World) : Prop := C15 b0 b1 b2 a0 a1 a2 m0 m1 m2 m3 m4 m5 n0 n1 n2 n3 n4 n5 W ∧ (W.cell? ⟨b3, 0, none⟩ = some r0 ∧ W.cell? ⟨b3, 1, none⟩ = some r1 ∧ W.cell? ⟨b3, 2, none⟩ = some r2) ∧ (W.cell? ⟨b4, 8, none⟩ = some t0 ∧ W.cell? ⟨b4, 9, none⟩ = some t1)
theorem c20_far {b0 b1 b2 b3 b4 : Nat} {a0 a1 a2 m0 m1 m2 m3 m4 m5 n0 n1 n2 n3 n4 n5 r0 r1 r2 t0 t1 : Value} {W : World} {G : Nat} (u0 u1 u2 : Value) (h : C20 b0 b1 b2 b3 b4 a0 a1 a2 m0 m1 m2 m3 m4 m5 n0 n1 n2 n3 n4 n5 r0 r1 r2 t0 t1 W) (q : G ≠ b0 ∧ G ≠ b1 ∧ G ≠ b2) (q3 : G ≠ b3) (q4 : G ≠ b4) : C20 b0 b1 b2 b3 b4 a0 a1 a2 m0 m1 m2 m3 m4 m5 n0 n1 n2 n3 n4 n5 r0 r1 r2 t0 t1 (((W.setCell ⟨G, 0, none⟩ u0).setCell ⟨G, 1, none⟩ u1).setCell ⟨G, 2, none⟩ u2) :=
  ⟨c15_far u0 u1 u2 h.1 q, ⟨far3 _ _ _ q3 h.2.1.1, far3 _ _ _ q3 h.2.1.2.1, far3 _ _ _ q3 h.2.1.2.2⟩, ⟨far3 _ _ _ q4 h.2.2.1, far3 _ _ _ q4 h.2.2.2⟩⟩
theorem sents {rs ws : List Ml} (hms : msL rs = msL ws) (hok : ∀ r ∈ rs, okM r.m = true) : ∀ r ∈ ws, 0 ≤ r.m.sent := fun r hr => by
  have h1 : r.m ∈ msL ws := List.mem_map.2 ⟨r, hr, rfl⟩
  rw [← hms] at h1
  obtain ⟨r', hr', e⟩ := List.mem_map.1 h1
  have := hok r' hr'
  rw [← e]
  simp [okM, okB] at this
  omega
end Go.Proofs.Ytgdkobknjgbdbaa
