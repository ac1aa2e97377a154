/- guard: which tallies are the same; copies; the calls on a tally that is told as a whole. -/
import Derived.Test.YtlanfceilajifaaGreatDoorGu4
import Derived.Test.YtlanfceilajifaaGreatDoorGuD
import Derived.DeepKeys
namespace Go.Proofs.YtlanfceilajifaaGreatDoor
set_option linter.unusedVariables false
set_option linter.unusedSimpArgs false
open Go.RowKit
set_option maxRecDepth 100000
theorem list15 {L : List Int} (h : L.length = 15) : ∃ a0 a1 a2 a3 a4 a5 a6 a7 a8 a9 a10 a11 a12 a13 a14, L = [a0, a1, a2, a3, a4, a5, a6, a7, a8, a9, a10, a11, a12, a13, a14] := by
  match L, h with
  | [a0, a1, a2, a3, a4, a5, a6, a7, a8, a9, a10, a11, a12, a13, a14], _ => exact ⟨a0, a1, a2, a3, a4, a5, a6, a7, a8, a9, a10, a11, a12, a13, a14, rfl⟩
def cC (L : List Int) : Array Value := (L.map (Value.int .i64)).toArray
theorem eq_items (d : Nat) (a b : List Int) (n : Nat) (ha : a.length = n) (hb : b.length = n) (w : World) : ∀ is : List Nat, (∀ i ∈ is, i < n) →
    (Op.eqItems (d + 1) 3 1 (cC a) (cC b) is).run Tryz.prog w = .ok (is.all fun i => a.getD i 0 == b.getD i 0) w
  | [], _ => by simp [Op.eqItems]
  | i :: is, h => by
    have hi := h i (by simp)
    have pt : ∀ l : List Int, l.length = n → (part 3 (cC l) (i * 1)).run Tryz.prog w = .ok (.int .i64 (l.getD i 0)) w := fun l hl =>
      run_part_plain w (by kernel_rfl) (by simp [cC, List.getD, List.getElem?_eq_getElem (show i < l.length by omega)])
    simp only [Op.eqItems, Sem.run_bind, pt a ha, pt b hb, Result.andThen_ok, run_equalIn_int w d 3 .i64 .i64 _ _ Tryz.underlying3]
    rw [List.all_cons]
    have ih := eq_items d a b n ha hb w is (fun j hj => h j (by simp [hj]))
    cases hq : (a.getD i 0 == b.getD i 0)
    · simp
    · simpa using ih
theorem all_eq (a b : List Int) (n : Nat) (ha : a.length = n) (hb : b.length = n) : ((List.range n).all fun i => a.getD i 0 == b.getD i 0) = (a == b) := by
  rw [Bool.eq_iff_iff, List.all_eq_true, beq_iff_eq]
  constructor
  · intro h
    apply List.ext_getElem (by omega)
    intro i h1 h2
    have := h i (List.mem_range.2 (by omega))
    simpa [List.getD, List.getElem?_eq_getElem h1, List.getElem?_eq_getElem h2] using this
  · rintro rfl i _
    simp
theorem eq_arr (d : Nat) (t : TypeId) (n : Nat) (a b : List Int) (hu : Tryz.prog.underlying t = some (.array n 3)) (ha : a.length = n) (hb : b.length = n) (w : World) :
    (Op.equalIn (d + 2) t (.agg (cC a)) (.agg (cC b))).run Tryz.prog w = .ok (a == b) w := by
  obtain ⟨i, hi⟩ : ∃ i, Tryz.prog.info? 3 = some i := ⟨_, rfl⟩
  rw [run_equalIn_array w (d + 1) (cC a) (cC b) hu hi, show Tryz.prog.cellsOf 3 = 1 by kernel_rfl, eq_items d a b n ha hb w _ (fun i hi => List.mem_range.1 hi), all_eq a b n ha hb]
theorem eq_two (t ta tb : TypeId) (n m : Nat) (a a' b b' : List Int) (ht : Tryz.prog.underlying t = some (.struct (Tryz.prog.fieldsOf t))) (hp : Tryz.prog.stoodInHeld t = false) (f1 f2 : Field) (hl : (Tryz.prog.fieldsOf t).toList = [f1, f2]) (h1 : f1.name ≠ "_") (h2 : f2.name ≠ "_") (e2 : f1.type = ta) (e3 : f1.offset = 0) (e5 : f2.type = tb) (e6 : f2.offset = n)
    (hua : Tryz.prog.underlying ta = some (.array n 3)) (hub : Tryz.prog.underlying tb = some (.array m 3)) (hza : ∀ w, (sizeOf ta).run Tryz.prog w = .ok n w) (hzb : ∀ w, (sizeOf tb).run Tryz.prog w = .ok m w) (hga : ∀ w, (isAgg ta).run Tryz.prog w = .ok true w) (hgb : ∀ w, (isAgg tb).run Tryz.prog w = .ok true w)
    (ha : a.length = n) (ha' : a'.length = n) (hb : b.length = m) (hb' : b'.length = m) (w : World) : (binOp .eql t (.agg (cC (a ++ b))) (.agg (cC (a' ++ b')))).run Tryz.prog w = .ok (.bool (decide (a ++ b = a' ++ b'))) w := by
  have hs := run_equalIn_struct (P := Tryz.prog) w 9999 t (cC (a ++ b)) (cC (a' ++ b')) ht hp
  rw [hl] at hs
  have p1 : ∀ x y : List Int, x.length = n → (cC (x ++ y)).extract 0 (0 + n) = cC x := fun x y hx => by
    apply Array.ext'
    simp [cC, ← hx]
  have p2 : ∀ x y : List Int, x.length = n → y.length = m → (cC (x ++ y)).extract n (n + m) = cC y := fun x y hx hy => by
    apply Array.ext'
    simp [cC, ← hx, ← hy]
    rw [List.take_of_length_le (by simp)]
  simp only [binOp, Op.equal, Op.maxDepth, Sem.run_bind, Sem.run_ite, hs, Op.eqFields, e2, e3, e5, e6, h1, h2, ne_eq, not_false_eq_true, if_true, part, hga, hgb, hza, hzb, Result.andThen_ok, Sem.run_pure, p1 a b ha, p1 a' b' ha', p2 a b ha hb, p2 a' b' ha' hb', eq_arr 9997 ta n a a' hua ha ha', eq_arr 9997 tb m b b' hub hb hb']
  have hap : (a ++ b = a' ++ b') ↔ (a = a' ∧ b = b') := ⟨fun h => List.append_inj h (by omega), fun h => by rw [h.1, h.2]⟩
  rw [show decide (a ++ b = a' ++ b') = decide (a = a' ∧ b = b') from decide_eq_decide.2 hap]
  by_cases hA : a = a'
  · by_cases hB : b = b'
    · simp [hA, hB]
    · simp [hA, hB]
  · simp [hA]
theorem eq_cC (L M : List Int) (hl : L.length = 15) (hm : M.length = 15) (w : World) : (binOp .eql 127 (.agg (cC L)) (.agg (cC M))).run Tryz.prog w = .ok (.bool (decide (L = M))) w := by
  have h := eq_two 127 65 125 9 6 (L.take 9) (M.take 9) (L.drop 9) (M.drop 9) (by kernel_rfl) (by kernel_rfl) _ _ (by rfl) (by decide) (by decide) rfl rfl rfl rfl (by kernel_rfl) (by kernel_rfl)
    (fun _ => by kernel_rfl) (fun _ => by kernel_rfl) (fun _ => by kernel_rfl) (fun _ => by kernel_rfl) (by simp [hl]) (by simp [hm]) (by simp [hl]) (by simp [hm]) w
  simpa only [List.take_append_drop] using h
def L16 (L : List Int) : List Int := (List.range 16).map (ftal L)
theorem ftal_inj {L M : List Int} (hl : L.length = 15) (hm : M.length = 15) (h : L16 L = L16 M) : L = M := by
  obtain ⟨a0, a1, a2, a3, a4, a5, a6, a7, a8, a9, a10, a11, a12, a13, a14, rfl⟩ := list15 hl
  obtain ⟨b0, b1, b2, b3, b4, b5, b6, b7, b8, b9, b10, b11, b12, b13, b14, rfl⟩ := list15 hm
  have h' : [a0, a1, a2, a3, a4, a5, a6, a7, a8, 0, a9, a10, a11, a12, a13, a14] = [b0, b1, b2, b3, b4, b5, b6, b7, b8, 0, b9, b10, b11, b12, b13, b14] := h
  simp only [List.cons.injEq, and_true, true_and] at h' ⊢
  exact h'
theorem eq_tF (L M : List Int) (hl : L.length = 15) (hm : M.length = 15) (w : World) : (binOp .eql 68 (.agg (tF (ftal L))) (.agg (tF (ftal M)))).run Tryz.prog w = .ok (.bool (decide (L = M))) w := by
  have hf : ∀ L, tF (ftal L) = cC (L16 L) := fun L => by simp [tF, cC, L16, Function.comp_def]
  have h := eq_two 68 65 66 9 7 ((L16 L).take 9) ((L16 M).take 9) ((L16 L).drop 9) ((L16 M).drop 9) (by kernel_rfl) (by kernel_rfl) _ _ (by rfl) (by decide) (by decide) rfl rfl rfl rfl (by kernel_rfl) (by kernel_rfl)
    (fun _ => by kernel_rfl) (fun _ => by kernel_rfl) (fun _ => by kernel_rfl) (fun _ => by kernel_rfl) (by simp [L16]) (by simp [L16]) (by simp [L16]) (by simp [L16]) w
  simp only [List.take_append_drop] at h
  rw [hf, hf, h, show decide (L16 L = L16 M) = decide (L = M) from decide_eq_decide.2 ⟨fun h => ftal_inj hl hm h, fun h => by rw [h]⟩]
end Go.Proofs.YtlanfceilajifaaGreatDoor
