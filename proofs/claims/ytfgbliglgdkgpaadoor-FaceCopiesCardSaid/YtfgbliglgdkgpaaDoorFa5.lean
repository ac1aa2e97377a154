/- The document's Stands; face.first. -/
import Derived.Test.YtfgbliglgdkgpaaDoorFa4
import Derived.Test.YtfgbliglgdkgpaaDoorFa3
namespace Go.Proofs.YtfgbliglgdkgpaaDoor
set_option linter.unusedVariables false
set_option linter.unusedSimpArgs false
open Go.RowKit
set_option maxRecDepth 100000
theorem okP_mk {a k : Nat} (hk : k ≤ 32) (hz : a % 2 ^ (32 - k) = 0) : okP (a, (k : Int)) = true := by simp only [okP, Int.toNat_natCast]; exact decide_eq_true ⟨by omega, by omega, hz⟩
theorem hld_eq {a k b m : Nat} (hk : k ≤ 32) (hz : a % 2 ^ (32 - k) = 0) : hldF (a, (k : Int)) (b, (m : Int)) = (decide (k ≤ m) && hasF (a, (k : Int)) b) := by
  unfold hldF
  simp
theorem hld_self {a k : Nat} (hk : k ≤ 32) (hz : a % 2 ^ (32 - k) = 0) : hldF (a, (k : Int)) (a, (k : Int)) = true := by
  rw [hld_eq hk hz]
  unfold hasF
  rw [okP_mk hk hz]
  simp
theorem hld_both {a k b m : Nat} (hk : k ≤ 32) (hm : m ≤ 32) (hz : a % 2 ^ (32 - k) = 0) (hy : b % 2 ^ (32 - m) = 0) (h1 : hldF (a, (k : Int)) (b, (m : Int)) = true) (h2 : hldF (b, (m : Int)) (a, (k : Int)) = true) : a = b ∧ k = m := by
  rw [hld_eq hk hz] at h1
  rw [hld_eq hm hy] at h2
  unfold hasF at h1 h2
  simp at h1 h2
  obtain rfl : k = m := by omega
  have e := h1.2.2
  have e1 := Nat.div_add_mod a (2 ^ (32 - k))
  have e2 := Nat.div_add_mod b (2 ^ (32 - k))
  rw [hz] at e1
  rw [hy, e] at e2
  exact ⟨by omega, rfl⟩

set_option maxHeartbeats 4000000 in
theorem refStands_any (a k b m : Nat) (w : World) (ha : a < 4294967296) (hb : b < 4294967296) (hk : k ≤ 32) (hm : m ≤ 32) (hz : a % 2 ^ (32 - k) = 0) (hy : b % 2 ^ (32 - m) = 0) :
    Calls Tryd.prog 48 #[.agg #[.int .u32 a, .int .i64 k], .agg #[.int .u32 b, .int .i64 m]] w fun e w' => e = .returned (.int .i64 (standsF (a, (k : Int)) (b, (m : Int)))) ∧ Below w.heap.size w w' := by
  have hq := fun W => eq_pfx a b k m W
  have H1 := Lib.hid (fun W => refHas_any b m a W hb ha)
  have H2 := Lib.hid (fun W => refHas_any a k b W ha hb)
  have HB := Lib.hid (show Below w.heap.size w ((w.alloc (.cells #[.int .u32 a, .int .i64 k] 33)).alloc (.cells #[.int .u32 b, .int .i64 m] 33)) from balloc (balloc (Below.refl _ _) _) _)
  have X1 := Lib.hid ((Blk.new w 33 #[.int .u32 a, .int .i64 k]).alloc (.cells #[.int .u32 b, .int .i64 m] 33))
  have x2 := Blk.new (w.alloc (.cells #[.int .u32 a, .int .i64 k] 33)) 33 #[.int .u32 b, .int .i64 m]
  rw [World.size_alloc] at x2
  have X2 := Lib.hid x2
  clear x2
  have hself : a = b → k = m → standsF (a, (k : Int)) (b, (m : Int)) = 1 := by
    rintro rfl rfl
    unfold standsF
    rw [hld_self hk hz]
    rfl
  have hnb : ¬ (a = b ∧ k = m) → hldF (a, (k : Int)) (b, (m : Int)) = true → hldF (b, (m : Int)) (a, (k : Int)) = true → False := fun hne h1 h2 => hne (hld_both hk hm hz hy h1 h2)
  have e1 := hld_eq (b := b) (m := m) hk hz
  have e2 := hld_eq (b := a) (m := k) hm hy
  by_cases he : a = b ∧ k = m
  · rw [hself he.1 he.2]
    rw [show ((a : Int) == (b : Int) && (k : Int) == (m : Int)) = true by simp [he.1, he.2]] at hq
    clear he hself hnb e1 e2
    go_enter Tryd.func48, Tryd.ntmps48
    go_wp2_with fail
    go_ret
    exact ⟨rfl, HB.out⟩
  have hne : ((a : Int) == (b : Int) && (k : Int) == (m : Int)) = false := by rw [Bool.eq_false_iff]; intro h; simp at h; exact he ⟨by omega, by omega⟩
  rw [hne] at hq
  have hnb' := hnb he
  clear hne he hself hnb
  by_cases h1 : m ≤ k
  · have g1 : decide (m ≤ k) = true := decide_eq_true h1
    cases h2 : hasF (b, (m : Int)) a
    · have q2 : hldF (b, (m : Int)) (a, (k : Int)) = false := by rw [e2, h2]; simp
      rw [h2] at H1
      by_cases h3 : k ≤ m
      · have g2 : decide (k ≤ m) = true := decide_eq_true h3
        cases h4 : hasF (a, (k : Int)) b
        · have q1 : hldF (a, (k : Int)) (b, (m : Int)) = false := by rw [e1, h4]; simp [h3]
          rw [show standsF (a, (k : Int)) (b, (m : Int)) = 4 by unfold standsF; rw [q1, q2]; rfl]
          rw [h4] at H2
          clear q1 q2 e1 e2 h1 h2 h3 h4 hnb'
          go_enter Tryd.func48, Tryd.ntmps48
          go_wp2_with fail
          refine (H1.out _).mono ?_
          rintro e w1 ⟨rfl, b1⟩
          have K1 := X1.out.below b1 X1.out.lt
          have K2 := X2.out.below b1 X2.out.lt
          have c1 := bnext HB.out b1
          have d0 := (K1).cell 0
          have d1 := (K1).cell 1
          simp only [List.getElem?_toArray, List.getElem?_cons_zero, List.getElem?_cons_succ] at d0 d1
          have f0 := (K2).cell 0
          have f1 := (K2).cell 1
          simp only [List.getElem?_toArray, List.getElem?_cons_zero, List.getElem?_cons_succ] at f0 f1
          have z1 := K1.lt
          have z2 := K2.lt
          clear b1 K1 K2
          go_wp2_with fail
          refine (H2.out _).mono ?_
          rintro e w2 ⟨rfl, b2⟩
          have c2 := bnext c1 b2
          go_wp2_with fail
          go_ret
          exact ⟨rfl, c2⟩
        · have q1 : hldF (a, (k : Int)) (b, (m : Int)) = true := by rw [e1, h4]; simp [h3]
          rw [show standsF (a, (k : Int)) (b, (m : Int)) = 3 by unfold standsF; rw [q1, q2]; rfl]
          rw [h4] at H2
          clear q1 q2 e1 e2 h1 h2 h3 h4 hnb'
          go_enter Tryd.func48, Tryd.ntmps48
          go_wp2_with fail
          refine (H1.out _).mono ?_
          rintro e w1 ⟨rfl, b1⟩
          have K1 := X1.out.below b1 X1.out.lt
          have K2 := X2.out.below b1 X2.out.lt
          have c1 := bnext HB.out b1
          have d0 := (K1).cell 0
          have d1 := (K1).cell 1
          simp only [List.getElem?_toArray, List.getElem?_cons_zero, List.getElem?_cons_succ] at d0 d1
          have f0 := (K2).cell 0
          have f1 := (K2).cell 1
          simp only [List.getElem?_toArray, List.getElem?_cons_zero, List.getElem?_cons_succ] at f0 f1
          have z1 := K1.lt
          have z2 := K2.lt
          clear b1 K1 K2
          go_wp2_with fail
          refine (H2.out _).mono ?_
          rintro e w2 ⟨rfl, b2⟩
          have c2 := bnext c1 b2
          go_wp2_with fail
          go_ret
          exact ⟨rfl, c2⟩
      · have g2 : decide (k ≤ m) = false := decide_eq_false h3
        have q1 : hldF (a, (k : Int)) (b, (m : Int)) = false := by rw [e1]; simp [h3]
        rw [show standsF (a, (k : Int)) (b, (m : Int)) = 4 by unfold standsF; rw [q1, q2]; rfl]
        clear q1 q2 e1 e2 h1 h2 h3 hnb'
        go_enter Tryd.func48, Tryd.ntmps48
        go_wp2_with fail
        refine (H1.out _).mono ?_
        rintro e w1 ⟨rfl, b1⟩
        have K1 := X1.out.below b1 X1.out.lt
        have K2 := X2.out.below b1 X2.out.lt
        have c1 := bnext HB.out b1
        have d0 := (K1).cell 0
        have d1 := (K1).cell 1
        simp only [List.getElem?_toArray, List.getElem?_cons_zero, List.getElem?_cons_succ] at d0 d1
        have f0 := (K2).cell 0
        have f1 := (K2).cell 1
        simp only [List.getElem?_toArray, List.getElem?_cons_zero, List.getElem?_cons_succ] at f0 f1
        have z1 := K1.lt
        have z2 := K2.lt
        clear b1 K1 K2
        go_wp2_with fail
        go_ret
        exact ⟨rfl, c1⟩
    · have q2 : hldF (b, (m : Int)) (a, (k : Int)) = true := by rw [e2, h2]; simp [h1]
      have q1 : hldF (a, (k : Int)) (b, (m : Int)) = false := by cases h : hldF (a, (k : Int)) (b, (m : Int)) with | false => rfl | true => exact (hnb' h q2).elim
      rw [h2] at H1
      rw [show standsF (a, (k : Int)) (b, (m : Int)) = 2 by unfold standsF; rw [q1, q2]; rfl]
      clear q1 q2 e1 e2 h1 h2 hnb'
      go_enter Tryd.func48, Tryd.ntmps48
      go_wp2_with fail
      refine (H1.out _).mono ?_
      rintro e w1 ⟨rfl, b1⟩
      have c1 := bnext HB.out b1
      go_wp2_with fail
      go_ret
      exact ⟨rfl, c1⟩
  · have g1 : decide (m ≤ k) = false := decide_eq_false h1
    have h3 : k ≤ m := by omega
    have g2 : decide (k ≤ m) = true := decide_eq_true h3
    have q2 : hldF (b, (m : Int)) (a, (k : Int)) = false := by rw [e2]; simp [h1]
    cases h4 : hasF (a, (k : Int)) b
    · have q1 : hldF (a, (k : Int)) (b, (m : Int)) = false := by rw [e1, h4]; simp [h3]
      rw [show standsF (a, (k : Int)) (b, (m : Int)) = 4 by unfold standsF; rw [q1, q2]; rfl]
      rw [h4] at H2
      clear q1 q2 e1 e2 h1 h3 h4 hnb'
      go_enter Tryd.func48, Tryd.ntmps48
      go_wp2_with fail
      refine (H2.out _).mono ?_
      rintro e w1 ⟨rfl, b1⟩
      have c1 := bnext HB.out b1
      go_wp2_with fail
      go_ret
      exact ⟨rfl, c1⟩
    · have q1 : hldF (a, (k : Int)) (b, (m : Int)) = true := by rw [e1, h4]; simp [h3]
      rw [show standsF (a, (k : Int)) (b, (m : Int)) = 3 by unfold standsF; rw [q1, q2]; rfl]
      rw [h4] at H2
      clear q1 q2 e1 e2 h1 h3 h4 hnb'
      go_enter Tryd.func48, Tryd.ntmps48
      go_wp2_with fail
      refine (H2.out _).mono ?_
      rintro e w1 ⟨rfl, b1⟩
      have c1 := bnext HB.out b1
      go_wp2_with fail
      go_ret
      exact ⟨rfl, c1⟩

/-- the number of the first one that is so -/
def firstF (p : Fc → Bool) (l : List Fc) : Nat := if l.any p then l.findIdx p else 0
theorem first_at {p : Fc → Bool} {l : List Fc} {k : Nat} {x : Fc} (h1 : l[k]? = some x) (h2 : p x = true) (h3 : (l.take k).any p = false) : firstF p l = k ∧ l.any p = true := by
  have hk : k < l.length := by
    rcases Nat.lt_or_ge k l.length with h | h
    · exact h
    · rw [List.getElem?_eq_none h] at h1; cases h1
  rw [List.getElem?_eq_getElem hk] at h1
  have hx := Option.some.inj h1
  have ha : l.any p = true := List.any_eq_true.2 ⟨x, by rw [← hx]; exact List.getElem_mem hk, h2⟩
  refine ⟨?_, ha⟩
  unfold firstF
  rw [if_pos ha, List.findIdx_eq hk]
  refine ⟨by rw [hx]; exact h2, fun j hj => ?_⟩
  cases hp : p l[j] with
  | false => rfl
  | true =>
    have : (l.take k).any p = true := List.any_eq_true.2 ⟨l[j], by rw [List.mem_take_iff_getElem]; exact ⟨j, by omega, rfl⟩, hp⟩
    rw [h3] at this
    cases this
set_option maxHeartbeats 1000000 in
theorem ffirst_any (l : List Fc) (n c B : Nat) (hn : l.length = n) (A : Option Addr) (k : FuncId) (cap : Value) (p : Fc → Bool) (w : World) (hr : Rd w B A (fcC l)) (hB : B ≤ w.heap.size) (hl : n ≤ 1000)
    (hent : ∀ args w, (callFunc k args).run Tryd.prog w = .ok (.enter k args) w)
    (hc : ∀ (W : World) (f : Fc), Below w.heap.size w W → f ∈ l → Calls Tryd.prog k #[.agg #[.int .u32 f.na, .int .i64 f.nl, .int .u32 f.ad, .bool f.up], cap] W fun e w' => e = .returned (.bool (p f)) ∧ Below W.heap.size W w') :
    Calls Tryd.prog 32 #[.slice A n c, .func (.func k) #[] #[cap]] w fun e w' => e = .returned (.tuple #[.int .i64 (firstF p l : Nat), .bool (l.any p)]) ∧ Below w.heap.size w w' := by
  have HC := Lib.hid hc
  have HN := Lib.hid hn
  have HR := Lib.hid hr
  clear hc hn hr
  go_enter Tryd.func32, Tryd.ntmps32
  go_wp2_with fail
  go_loopw [10] (fun i wr => ∃ j : Nat, j ≤ n ∧ i = .int .i64 j ∧ Below w.heap.size w wr ∧ (l.take j).any p = false) (fun i _ => n - (intOf i).toNat)
  case atStart => exact ⟨0, Nat.zero_le _, rfl, Below.refl _ _, by simp⟩
  case round =>
    obtain ⟨j, hj, rfl, hb, hno⟩ := hrel
    have HNO := Lib.hid hno
    clear hno
    by_cases hlt : j < n
    · obtain ⟨x, hx⟩ : ∃ x, l[j]? = some x := ⟨l[j]'(by rw [HN.out]; exact hlt), List.getElem?_eq_getElem _⟩
      obtain ⟨b, off, rfl, hbb, q0, q1, q2, q3⟩ := fc_at (HR.out.below (hb.mono hB)) hx
      have hmem := List.mem_of_getElem? hx
      have HX := Lib.hid hx
      have HW := Lib.hid (HC.out (wr.alloc (.cells #[.int .u32 x.na, .int .i64 x.nl, .int .u32 x.ad, .bool x.up] 35)) x (balloc hb _) hmem)
      have hfin : p x = false → (l.take (j + 1)).any p = false := fun h => by
        rw [List.take_add_one, HX.out]
        simp [HNO.out, h]
      have HFI := Lib.hid hfin
      have HFA := Lib.hid (fun h => first_at (p := p) HX.out h HNO.out)
      obtain ⟨na, nl, ad, up⟩ := x
      simp only at q0 q1 q2 q3 HW
      clear hx hmem hfin
      cases hp : p ⟨na, nl, ad, up⟩
      all_goals
        rw [hp] at HW
        have HP := Lib.hid hp
        clear hp
        go_wp2_with fail
        refine HW.out.mono ?_
        rintro e w2 ⟨rfl, hb2⟩
        go_wp2_with fail
      · go_roundw
        case rel => exact ⟨j + 1, by omega, by go_num, bnext (balloc hb _) hb2, HFI.out HP.out⟩
        case measure => simp [intOf]; omega
      · go_ret2
        rw [(HFA.out HP.out).1, (HFA.out HP.out).2]
        exact ⟨rfl, bnext (balloc hb _) hb2⟩
    · obtain rfl : j = n := by omega
      have HA := Lib.hid (show l.any p = false by have := HNO.out; rwa [List.take_of_length_le (by rw [HN.out]; exact Nat.le_refl _)] at this)
      go_wp2_with fail
      go_ret2
      rw [HA.out, show firstF p l = 0 by unfold firstF; rw [HA.out]; rfl]
      exact ⟨rfl, hb⟩
end Go.Proofs.YtfgbliglgdkgpaaDoor
