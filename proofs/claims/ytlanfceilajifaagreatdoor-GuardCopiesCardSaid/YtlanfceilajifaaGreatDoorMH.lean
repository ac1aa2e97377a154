/- MH: Fa5, Fa6, Fa7, Fa8, Fa9, FaA, FaB: several texts in one. -/
import Derived.Test.YtlanfceilajifaaGreatDoorMG
import Derived.StillTailTactics
import Derived.Laws.Pointers
import Derived.WalkLawsBesides
/- The document's Stands; face.first. -/
namespace Go.Proofs.YtlanfceilajifaaGreatDoor
set_option linter.unusedVariables false
set_option linter.unusedSimpArgs false
open Go.RowKit
set_option maxRecDepth 100000
theorem okP_mk {a k : Nat} (hk : k ≤ 32) (hz : a % 2 ^ (32 - k) = 0) : okP (a, (k : Int)) = true := by simp only [okP, Int.toNat_natCast]; exact decide_eq_true ⟨by omega, by omega, hz⟩
theorem hld_eq {a k b m : Nat} (hk : k ≤ 32) (hz : a % 2 ^ (32 - k) = 0) : hldF (a, (k : Int)) (b, (m : Int)) = (decide (k ≤ m) && hasF (a, (k : Int)) b) := by
  unfold hldF
  simp
theorem hld_self {a k : Nat} (hk : k ≤ 32) (hz : a % 2 ^ (32 - k) = 0) : hldF (a, (k : Int)) (a, (k : Int)) = true := by
  rw [hld_eq hk hz]
  unfold hasF
  rw [okP_mk hk hz]
  simp
theorem hld_both {a k b m : Nat} (hk : k ≤ 32) (hm : m ≤ 32) (hz : a % 2 ^ (32 - k) = 0) (hy : b % 2 ^ (32 - m) = 0) (h1 : hldF (a, (k : Int)) (b, (m : Int)) = true) (h2 : hldF (b, (m : Int)) (a, (k : Int)) = true) : a = b ∧ k = m := by
  rw [hld_eq hk hz] at h1
  rw [hld_eq hm hy] at h2
  unfold hasF at h1 h2
  simp at h1 h2
  obtain rfl : k = m := by omega
  have e := h1.2.2
  have e1 := Nat.div_add_mod a (2 ^ (32 - k))
  have e2 := Nat.div_add_mod b (2 ^ (32 - k))
  rw [hz] at e1
  rw [hy, e] at e2
  exact ⟨by omega, rfl⟩

set_option maxHeartbeats 4000000 in
theorem refStands_any (a k b m : Nat) (w : World) (ha : a < 4294967296) (hb : b < 4294967296) (hk : k ≤ 32) (hm : m ≤ 32) (hz : a % 2 ^ (32 - k) = 0) (hy : b % 2 ^ (32 - m) = 0) :
    Calls Tryz.prog 34 #[.agg #[.int .u32 a, .int .i64 k], .agg #[.int .u32 b, .int .i64 m]] w fun e w' => e = .returned (.int .i64 (standsF (a, (k : Int)) (b, (m : Int)))) ∧ Below w.heap.size w w' := by
  have hq := fun W => eq_pfx a b k m W
  have H1 := Lib.hid (fun W => refHas_any b m a W hb ha)
  have H2 := Lib.hid (fun W => refHas_any a k b W ha hb)
  have HB := Lib.hid (show Below w.heap.size w ((w.alloc (.cells #[.int .u32 a, .int .i64 k] 86)).alloc (.cells #[.int .u32 b, .int .i64 m] 86)) from balloc (balloc (Below.refl _ _) _) _)
  have X1 := Lib.hid ((Blk.new w 86 #[.int .u32 a, .int .i64 k]).alloc (.cells #[.int .u32 b, .int .i64 m] 86))
  have x2 := Blk.new (w.alloc (.cells #[.int .u32 a, .int .i64 k] 86)) 86 #[.int .u32 b, .int .i64 m]
  rw [World.size_alloc] at x2
  have X2 := Lib.hid x2
  clear x2
  have hself : a = b → k = m → standsF (a, (k : Int)) (b, (m : Int)) = 1 := by
    rintro rfl rfl
    unfold standsF
    rw [hld_self hk hz]
    rfl
  have hnb : ¬ (a = b ∧ k = m) → hldF (a, (k : Int)) (b, (m : Int)) = true → hldF (b, (m : Int)) (a, (k : Int)) = true → False := fun hne h1 h2 => hne (hld_both hk hm hz hy h1 h2)
  have e1 := hld_eq (b := b) (m := m) hk hz
  have e2 := hld_eq (b := a) (m := k) hm hy
  by_cases he : a = b ∧ k = m
  · rw [hself he.1 he.2]
    rw [show ((a : Int) == (b : Int) && (k : Int) == (m : Int)) = true by simp [he.1, he.2]] at hq
    clear he hself hnb e1 e2
    go_enter Tryz.func34, Tryz.ntmps34
    go_wp2_with fail
    go_ret
    exact ⟨rfl, HB.out⟩
  have hne : ((a : Int) == (b : Int) && (k : Int) == (m : Int)) = false := by rw [Bool.eq_false_iff]; intro h; simp at h; exact he ⟨by omega, by omega⟩
  rw [hne] at hq
  have hnb' := hnb he
  clear hne he hself hnb
  by_cases h1 : m ≤ k
  · have g1 : decide (m ≤ k) = true := decide_eq_true h1
    cases h2 : hasF (b, (m : Int)) a
    · have q2 : hldF (b, (m : Int)) (a, (k : Int)) = false := by rw [e2, h2]; simp
      rw [h2] at H1
      by_cases h3 : k ≤ m
      · have g2 : decide (k ≤ m) = true := decide_eq_true h3
        cases h4 : hasF (a, (k : Int)) b
        · have q1 : hldF (a, (k : Int)) (b, (m : Int)) = false := by rw [e1, h4]; simp [h3]
          rw [show standsF (a, (k : Int)) (b, (m : Int)) = 4 by unfold standsF; rw [q1, q2]; rfl]
          rw [h4] at H2
          clear q1 q2 e1 e2 h1 h2 h3 h4 hnb'
          go_enter Tryz.func34, Tryz.ntmps34
          go_wp2_with fail
          refine (H1.out _).mono ?_
          rintro e w1 ⟨rfl, b1⟩
          have K1 := X1.out.below b1 X1.out.lt
          have K2 := X2.out.below b1 X2.out.lt
          have c1 := bnext HB.out b1
          have d0 := (K1).cell 0
          have d1 := (K1).cell 1
          simp only [List.getElem?_toArray, List.getElem?_cons_zero, List.getElem?_cons_succ] at d0 d1
          have f0 := (K2).cell 0
          have f1 := (K2).cell 1
          simp only [List.getElem?_toArray, List.getElem?_cons_zero, List.getElem?_cons_succ] at f0 f1
          have z1 := K1.lt
          have z2 := K2.lt
          clear b1 K1 K2
          go_wp2_with fail
          refine (H2.out _).mono ?_
          rintro e w2 ⟨rfl, b2⟩
          have c2 := bnext c1 b2
          go_wp2_with fail
          go_ret
          exact ⟨rfl, c2⟩
        · have q1 : hldF (a, (k : Int)) (b, (m : Int)) = true := by rw [e1, h4]; simp [h3]
          rw [show standsF (a, (k : Int)) (b, (m : Int)) = 3 by unfold standsF; rw [q1, q2]; rfl]
          rw [h4] at H2
          clear q1 q2 e1 e2 h1 h2 h3 h4 hnb'
          go_enter Tryz.func34, Tryz.ntmps34
          go_wp2_with fail
          refine (H1.out _).mono ?_
          rintro e w1 ⟨rfl, b1⟩
          have K1 := X1.out.below b1 X1.out.lt
          have K2 := X2.out.below b1 X2.out.lt
          have c1 := bnext HB.out b1
          have d0 := (K1).cell 0
          have d1 := (K1).cell 1
          simp only [List.getElem?_toArray, List.getElem?_cons_zero, List.getElem?_cons_succ] at d0 d1
          have f0 := (K2).cell 0
          have f1 := (K2).cell 1
          simp only [List.getElem?_toArray, List.getElem?_cons_zero, List.getElem?_cons_succ] at f0 f1
          have z1 := K1.lt
          have z2 := K2.lt
          clear b1 K1 K2
          go_wp2_with fail
          refine (H2.out _).mono ?_
          rintro e w2 ⟨rfl, b2⟩
          have c2 := bnext c1 b2
          go_wp2_with fail
          go_ret
          exact ⟨rfl, c2⟩
      · have g2 : decide (k ≤ m) = false := decide_eq_false h3
        have q1 : hldF (a, (k : Int)) (b, (m : Int)) = false := by rw [e1]; simp [h3]
        rw [show standsF (a, (k : Int)) (b, (m : Int)) = 4 by unfold standsF; rw [q1, q2]; rfl]
        clear q1 q2 e1 e2 h1 h2 h3 hnb'
        go_enter Tryz.func34, Tryz.ntmps34
        go_wp2_with fail
        refine (H1.out _).mono ?_
        rintro e w1 ⟨rfl, b1⟩
        have K1 := X1.out.below b1 X1.out.lt
        have K2 := X2.out.below b1 X2.out.lt
        have c1 := bnext HB.out b1
        have d0 := (K1).cell 0
        have d1 := (K1).cell 1
        simp only [List.getElem?_toArray, List.getElem?_cons_zero, List.getElem?_cons_succ] at d0 d1
        have f0 := (K2).cell 0
        have f1 := (K2).cell 1
        simp only [List.getElem?_toArray, List.getElem?_cons_zero, List.getElem?_cons_succ] at f0 f1
        have z1 := K1.lt
        have z2 := K2.lt
        clear b1 K1 K2
        go_wp2_with fail
        go_ret
        exact ⟨rfl, c1⟩
    · have q2 : hldF (b, (m : Int)) (a, (k : Int)) = true := by rw [e2, h2]; simp [h1]
      have q1 : hldF (a, (k : Int)) (b, (m : Int)) = false := by cases h : hldF (a, (k : Int)) (b, (m : Int)) with | false => rfl | true => exact (hnb' h q2).elim
      rw [h2] at H1
      rw [show standsF (a, (k : Int)) (b, (m : Int)) = 2 by unfold standsF; rw [q1, q2]; rfl]
      clear q1 q2 e1 e2 h1 h2 hnb'
      go_enter Tryz.func34, Tryz.ntmps34
      go_wp2_with fail
      refine (H1.out _).mono ?_
      rintro e w1 ⟨rfl, b1⟩
      have c1 := bnext HB.out b1
      go_wp2_with fail
      go_ret
      exact ⟨rfl, c1⟩
  · have g1 : decide (m ≤ k) = false := decide_eq_false h1
    have h3 : k ≤ m := by omega
    have g2 : decide (k ≤ m) = true := decide_eq_true h3
    have q2 : hldF (b, (m : Int)) (a, (k : Int)) = false := by rw [e2]; simp [h1]
    cases h4 : hasF (a, (k : Int)) b
    · have q1 : hldF (a, (k : Int)) (b, (m : Int)) = false := by rw [e1, h4]; simp [h3]
      rw [show standsF (a, (k : Int)) (b, (m : Int)) = 4 by unfold standsF; rw [q1, q2]; rfl]
      rw [h4] at H2
      clear q1 q2 e1 e2 h1 h3 h4 hnb'
      go_enter Tryz.func34, Tryz.ntmps34
      go_wp2_with fail
      refine (H2.out _).mono ?_
      rintro e w1 ⟨rfl, b1⟩
      have c1 := bnext HB.out b1
      go_wp2_with fail
      go_ret
      exact ⟨rfl, c1⟩
    · have q1 : hldF (a, (k : Int)) (b, (m : Int)) = true := by rw [e1, h4]; simp [h3]
      rw [show standsF (a, (k : Int)) (b, (m : Int)) = 3 by unfold standsF; rw [q1, q2]; rfl]
      rw [h4] at H2
      clear q1 q2 e1 e2 h1 h3 h4 hnb'
      go_enter Tryz.func34, Tryz.ntmps34
      go_wp2_with fail
      refine (H2.out _).mono ?_
      rintro e w1 ⟨rfl, b1⟩
      have c1 := bnext HB.out b1
      go_wp2_with fail
      go_ret
      exact ⟨rfl, c1⟩

/-- the number of the first one that is so -/
def firstF (p : Fc → Bool) (l : List Fc) : Nat := if l.any p then l.findIdx p else 0
theorem first_at {p : Fc → Bool} {l : List Fc} {k : Nat} {x : Fc} (h1 : l[k]? = some x) (h2 : p x = true) (h3 : (l.take k).any p = false) : firstF p l = k ∧ l.any p = true := by
  have hk : k < l.length := by
    rcases Nat.lt_or_ge k l.length with h | h
    · exact h
    · rw [List.getElem?_eq_none h] at h1; cases h1
  rw [List.getElem?_eq_getElem hk] at h1
  have hx := Option.some.inj h1
  have ha : l.any p = true := List.any_eq_true.2 ⟨x, by rw [← hx]; exact List.getElem_mem hk, h2⟩
  refine ⟨?_, ha⟩
  unfold firstF
  rw [if_pos ha, List.findIdx_eq hk]
  refine ⟨by rw [hx]; exact h2, fun j hj => ?_⟩
  cases hp : p l[j] with
  | false => rfl
  | true =>
    have : (l.take k).any p = true := List.any_eq_true.2 ⟨l[j], by rw [List.mem_take_iff_getElem]; exact ⟨j, by omega, rfl⟩, hp⟩
    rw [h3] at this
    cases this
set_option maxHeartbeats 1000000 in
theorem ffirst_any (l : List Fc) (n c B : Nat) (hn : l.length = n) (A : Option Addr) (k : FuncId) (cap : Value) (p : Fc → Bool) (w : World) (hr : Rd w B A (fcC l)) (hB : B ≤ w.heap.size) (hl : n ≤ 1000)
    (hent : ∀ args w, (callFunc k args).run Tryz.prog w = .ok (.enter k args) w)
    (hc : ∀ (W : World) (f : Fc), Below w.heap.size w W → f ∈ l → Calls Tryz.prog k #[.agg #[.int .u32 f.na, .int .i64 f.nl, .int .u32 f.ad, .bool f.up], cap] W fun e w' => e = .returned (.bool (p f)) ∧ Below W.heap.size W w') :
    Calls Tryz.prog 38 #[.slice A n c, .func (.func k) #[] #[cap]] w fun e w' => e = .returned (.tuple #[.int .i64 (firstF p l : Nat), .bool (l.any p)]) ∧ Below w.heap.size w w' := by
  have HC := Lib.hid hc
  have HN := Lib.hid hn
  have HR := Lib.hid hr
  clear hc hn hr
  go_enter Tryz.func38, Tryz.ntmps38
  go_wp2_with fail
  go_loopw [10] (fun i wr => ∃ j : Nat, j ≤ n ∧ i = .int .i64 j ∧ Below w.heap.size w wr ∧ (l.take j).any p = false) (fun i _ => n - (intOf i).toNat)
  case atStart => exact ⟨0, Nat.zero_le _, rfl, Below.refl _ _, by simp⟩
  case round =>
    obtain ⟨j, hj, rfl, hb, hno⟩ := hrel
    have HNO := Lib.hid hno
    clear hno
    by_cases hlt : j < n
    · obtain ⟨x, hx⟩ : ∃ x, l[j]? = some x := ⟨l[j]'(by rw [HN.out]; exact hlt), List.getElem?_eq_getElem _⟩
      obtain ⟨b, off, rfl, hbb, q0, q1, q2, q3⟩ := fc_at (HR.out.below (hb.mono hB)) hx
      have hmem := List.mem_of_getElem? hx
      have HX := Lib.hid hx
      have HW := Lib.hid (HC.out (wr.alloc (.cells #[.int .u32 x.na, .int .i64 x.nl, .int .u32 x.ad, .bool x.up] 88)) x (balloc hb _) hmem)
      have hfin : p x = false → (l.take (j + 1)).any p = false := fun h => by
        rw [List.take_add_one, HX.out]
        simp [HNO.out, h]
      have HFI := Lib.hid hfin
      have HFA := Lib.hid (fun h => first_at (p := p) HX.out h HNO.out)
      obtain ⟨na, nl, ad, up⟩ := x
      simp only at q0 q1 q2 q3 HW
      clear hx hmem hfin
      cases hp : p ⟨na, nl, ad, up⟩
      all_goals
        rw [hp] at HW
        have HP := Lib.hid hp
        clear hp
        go_wp2_with fail
        refine HW.out.mono ?_
        rintro e w2 ⟨rfl, hb2⟩
        go_wp2_with fail
      · go_roundw
        case rel => exact ⟨j + 1, by omega, by go_num, bnext (balloc hb _) hb2, HFI.out HP.out⟩
        case measure => simp [intOf]; omega
      · go_ret2
        rw [(HFA.out HP.out).1, (HFA.out HP.out).2]
        exact ⟨rfl, bnext (balloc hb _) hb2⟩
    · obtain rfl : j = n := by omega
      have HA := Lib.hid (show l.any p = false by have := HNO.out; rwa [List.take_of_length_le (by rw [HN.out]; exact Nat.le_refl _)] at this)
      go_wp2_with fail
      go_ret2
      rw [HA.out, show firstF p l = 0 by unfold firstF; rw [HA.out]; rfl]
      exact ⟨rfl, hb⟩
end Go.Proofs.YtlanfceilajifaaGreatDoor
/- face: the closures, Clone, New. -/
namespace Go.Proofs.YtlanfceilajifaaGreatDoor
set_option linter.unusedVariables false
set_option linter.unusedSimpArgs false
open Go.RowKit
set_option maxRecDepth 100000

def apB (g f : Fc) : Bool := decide (standsF g.net f.net = 4)
/-- is the face at a place right, and apart from those ahead of it? -/
def okI (l : List Fc) (i : Nat) : Bool := match l[i]? with
  | some f => okF f && !(l.take i).any (fun g => !apB g f)
  | none => true
def okL (l : List Fc) : Bool := (List.range l.length).all (okI l)
def newE (l : List Fc) : Int := if 16 < l.length then 3 else if okL l then 0 else 2
theorem okI_at {l : List Fc} {i : Nat} {f : Fc} (h : l[i]? = some f) : okI l i = (okF f && !(l.take i).any (fun g => !apB g f)) := by unfold okI; rw [h]
theorem okL_no {l : List Fc} {i : Nat} (hi : i < l.length) (h : okI l i = false) : okL l = false := by
  cases hc : okL l with
  | false => rfl
  | true =>
    have := List.all_eq_true.1 hc i (List.mem_range.2 hi)
    rw [h] at this
    cases this
theorem okL_yes {l : List Fc} (h : ∀ i, i < l.length → okI l i = true) : okL l = true := List.all_eq_true.2 fun i hi => h i (List.mem_range.1 hi)
theorem okF_bounds {f : Fc} (h : okF f = true) : ∃ k : Nat, f.nl = k ∧ 1 ≤ k ∧ k ≤ 30 ∧ f.na % 2 ^ (32 - k) = 0 := by
  unfold okF at h
  simp at h
  obtain ⟨⟨⟨⟨⟨h0, h1⟩, h2⟩, _⟩, _⟩, _⟩ := h
  obtain ⟨k, hk, _, hz⟩ := okP_bounds (show okP (f.na, f.nl) = true from h0)
  exact ⟨k, hk, by omega, by omega, hz⟩

/-- New's closure: does a face's net touch that of the face in the box? -/
theorem newc_any (g f : Fc) (b : Nat) (w : World) (hg : fitF g) (hf : fitF f) (og : okF g = true) (of : okF f = true) (hb : Blk w b 88 (fcA f)) (hR : RelsAt w) :
    Calls Tryz.prog 39 #[.agg #[.int .u32 g.na, .int .i64 g.nl, .int .u32 g.ad, .bool g.up], .pointer (some ⟨b, 0, none⟩)] w fun e w' => e = .returned (.bool (!apB g f)) ∧ Below w.heap.size w w' := by
  obtain ⟨k, hk, _, hk2, hz⟩ := okF_bounds og
  obtain ⟨m, hm, _, hm2, hy⟩ := okF_bounds of
  obtain ⟨gna, gnl, gad, gup⟩ := g
  obtain ⟨fna, fnl, fad, fup⟩ := f
  simp only at hk hm hz hy
  subst hk hm
  simp only [fcA] at hb
  have HS := Lib.hid (fun W hR => stands_any gna k fna m W hg.1 hf.1 (by omega) (by omega) hz hy hR)
  have hB := hb.alloc (.cells #[.int .u32 gna, .int .i64 k, .int .u32 gad, .bool gup] 88)
  have HR := Lib.hid (hR.below (balloc (Below.refl _ w) (.cells #[.int .u32 gna, .int .i64 k, .int .u32 gad, .bool gup] 88)))
  have d0 := (hb).cell 0
  have d1 := (hb).cell 1
  simp only [List.getElem?_toArray, List.getElem?_cons_zero, List.getElem?_cons_succ] at d0 d1
  have hbl := hb.lt
  have hap : apB ⟨gna, k, gad, gup⟩ ⟨fna, m, fad, fup⟩ = decide (standsF (gna, (k : Int)) (fna, (m : Int)) = 4) := rfl
  rw [hap]
  clear hb hB hap hz hy og of hg hf hR
  generalize standsF (gna, (k : Int)) (fna, (m : Int)) = s at *
  have hs : (((s : Nat) : Int) != 4) = !decide (s = 4) := by
    by_cases h : s = 4
    · subst h; rfl
    · rw [decide_eq_false h]; simp; omega
  have HQ := Lib.hid hs
  clear hs
  go_enter Tryz.func39, Tryz.ntmps39
  go_wp2_with (go_at_call 40; refine (HS.out _ HR.out).mono ?_; rintro e w1 ⟨rfl, hb1⟩)
  go_ret
  rw [← HQ.out]
  exact ⟨rfl, bnext (balloc (Below.refl _ _) _) hb1⟩

/-- owns' closure: is an address the router's own one of a face? -/
theorem ownc_any (f : Fc) (a b : Nat) (w : World) (hb : Blk w b 24 #[.int .u32 a]) :
    Calls Tryz.prog 128 #[.agg #[.int .u32 f.na, .int .i64 f.nl, .int .u32 f.ad, .bool f.up], .pointer (some ⟨b, 0, none⟩)] w fun e w' => e = .returned (.bool (decide (f.ad = a))) ∧ Below w.heap.size w w' := by
  obtain ⟨na, nl, ad, up⟩ := f
  have d0 := hb.cell 0
  simp only [List.getElem?_toArray, List.getElem?_cons_zero] at d0
  have hbl := hb.lt
  have he : decide (ad = a) = ((ad : Int) == (a : Int)) := by
    by_cases h : ad = a
    · subst h; simp
    · rw [decide_eq_false h]; symm; rw [beq_eq_false_iff_ne]; omega
  show Calls _ _ _ _ fun e w' => e = .returned (.bool (decide (ad = a))) ∧ Below w.heap.size w w'
  rw [he]
  clear hb he
  cases hq : ((ad : Int) == (a : Int))
  all_goals
    go_enter Tryz.func128, Tryz.ntmps128
    go_wp2
    go_ret
    exact ⟨rfl, balloc (Below.refl _ _) _⟩

theorem fc_info : (Tryz.prog.info? 88).map (fun i => (i.zero, i.size, i.bytes)) = some (some (.agg #[.int .u32 0, .int .i64 0, .int .u32 0, .bool false]), 4, 24) := by kernel_rfl

set_option maxHeartbeats 400000 in
theorem fclone_any (l : List Fc) (n : Nat) (hn : l.length = n) (A : Option Addr) (c B : Nat) (w : World) (h : Rd w B A (fcC l)) (hl : n ≤ 1048576) (hB : B ≤ w.heap.size) :
    Calls Tryz.prog 41 #[.slice A n c] w fun e w' => ∃ v, e = .returned v ∧ w'.ownsRow w.heap.size 88 4 v n (fcC l) ∧ Below w.heap.size w w' := by
  obtain ⟨i0, hi0, hz0, hz1, hz2⟩ := info_parts fc_info
  have HN := Lib.hid hn
  clear hn
  have hnil := fun w => Lib.run_eql_slice_nil (P := Tryz.prog) w 22 88 A n c 0 0 Tryz.underlying22
  cases A with
  | none =>
    have h0 : l = [] := by
      rcases Nat.eq_zero_or_pos (fcC l).length with h0 | h0
      · rw [fcC_len] at h0; exact List.eq_nil_of_length_eq_zero (by omega)
      · obtain ⟨_, _, hA, _⟩ := h h0; cases hA
    subst h0
    have hn0 := HN.out
    simp at hn0
    subst hn0
    go_enter Tryz.func41, Tryz.ntmps41
    go_wp2
    go_ret
    exact ⟨_, rfl, World.ownsRow_nil _ _ _ _, Below.refl _ _⟩
  | some a =>
    go_enter Tryz.func41, Tryz.ntmps41
    go_wp2_with (at_builtin; refine wpList_append_rd rfl (.tmp 5) (.tmp 6) _ rfl w.heap.size 88 i0 _ 4 24 Tryz.underlying22 hi0 hz0 hz1 hz2 rfl (by omega) (.slice (some ⟨w.heap.size, 0, none⟩) 0 0) 0 [] rfl (World.ownsRow_lit w #[] 0 (Nat.le_refl _) (by simp [maxLen]) (by simp)) n c (fcC l) rfl (by rw [fcC_len, HN.out]) (h.alloc hB _) (fcC_one l) (by simp only [maxLen]; omega) (by omega) (by simp) ?_; intro v1 w1 ho1 hg1 ha1)
    go_ret
    simp only [Nat.zero_add, List.nil_append] at ho1
    exact ⟨_, rfl, ho1, ((Below.refl _ _).alloc (Nat.le_refl _) _).grown hg1 (by simp) (by simp [Value.ownBlock])⟩
/-- a list of faces comes in -/
structure Ls (w : World) (B : Nat) (A : Option Addr) (n c : Nat) (l : List Fc) : Prop where
  len : l.length = n
  cap : n ≤ c ∧ c ≤ 9223372036854775807
  rd : Rd w B A (fcC l)
  fit : ∀ f ∈ l, fitF f
/-- faces: where they lie -/
structure Fs (w : World) (n0 g : Nat) (v : Value) (l : List Fc) : Prop where
  blk : Blk w g 103 #[v, .bool true]
  own : w.ownsRow n0 88 4 v l.length (fcC l)
  ge : n0 ≤ g
  len : l.length ≤ 16
  fit : ∀ f ∈ l, fitF f
  apart : ∀ k, v.ownBlock = some k → k ≠ g
end Go.Proofs.YtlanfceilajifaaGreatDoor
/- face: New; the document's New. -/
namespace Go.Proofs.YtlanfceilajifaaGreatDoor
set_option linter.unusedVariables false
set_option linter.unusedSimpArgs false
open Go.RowKit
set_option maxRecDepth 100000
theorem okL_in {l : List Fc} {j : Nat} (h : ∀ i, i < j → okI l i = true) {f : Fc} (hf : f ∈ l.take j) : okF f = true := by
  obtain ⟨i, hi, he⟩ := List.mem_take_iff_getElem.1 hf
  have := h i (by omega)
  rw [okI_at (f := f) (by rw [← he]; exact List.getElem?_eq_getElem (by omega))] at this
  simp at this
  exact this.1
theorem ls_take {w : World} {B n c j : Nat} {A : Option Addr} {l : List Fc} (h : Rd w B A (fcC l)) : Rd w B A (fcC (l.take j)) := by
  rw [← List.take_append_drop j l] at h
  have e : fcC (l.take j ++ l.drop j) = fcC (l.take j) ++ fcC (l.drop j) := List.flatMap_append ..
  rw [e] at h
  exact h.pre
/-- what New hands back -/
def NewP (l : List Fc) (w : World) (e : Ending) (w' : World) : Prop :=
  ((newE l = 0 ∧ ∃ g v, e = .returned (.tuple #[.pointer (some ⟨g, 0, none⟩), .int .i64 0]) ∧ Fs w' w.heap.size g v l) ∨ (newE l ≠ 0 ∧ e = .returned (.tuple #[.pointer none, .int .i64 (newE l)]))) ∧ Below w.heap.size w w'
theorem newP_bad {l : List Fc} {w w' : World} {k : Int} (h : newE l = k) (hk : k ≠ 0) (hb : Below w.heap.size w w') : NewP l w (.returned (.tuple #[.pointer none, .int .i64 k])) w' := ⟨.inr ⟨by rw [h]; exact hk, by rw [h]⟩, hb⟩

set_option maxHeartbeats 4000000 in
theorem fnew_any (l : List Fc) (n c B : Nat) (A : Option Addr) (w : World) (hL : Ls w B A n c l) (hB : B ≤ w.heap.size) (hR : RelsAt w) (hn : n ≤ 1000) :
    Calls Tryz.prog 10 #[.slice A n c] w (NewP l w) := by
  have HL := Lib.hid hL
  have HR := Lib.hid hR
  have hcap := hL.cap
  clear hL hR
  by_cases h16 : 16 < n
  · have HE := Lib.hid (show newE l = 3 by unfold newE; rw [if_pos (by rw [HL.out.len]; exact h16)])
    have g1 : decide ((16 : Int) < n) = true := decide_eq_true (by omega)
    have g1' : decide (16 < n) = true := decide_eq_true (by omega)
    go_enter Tryz.func10, Tryz.ntmps10
    go_wp2_with fail
    refine scope_fwd 0 rfl ?_
    go_wp2_with fail
    go_step3
    refine ⟨rfl, ?_⟩
    go_wp2
    rw [Exit.noGoto_ret]
    go_ret2
    exact newP_bad HE.out (by omega) (Below.refl _ _)
  · have g1 : decide ((16 : Int) < n) = false := decide_eq_false (by omega)
    have g1' : decide (16 < n) = false := decide_eq_false (by omega)
    have HNE := Lib.hid (show newE l = if okL l then 0 else 2 by unfold newE; rw [if_neg (by rw [HL.out.len]; exact h16)])
    go_enter Tryz.func10, Tryz.ntmps10
    go_wp2_with fail
    refine scope_fwd 0 rfl ?_
    go_wp2_with fail
    go_loopw [14] (fun i wr => ∃ j : Nat, j ≤ n ∧ i = .int .i64 j ∧ Below w.heap.size w wr ∧ ∀ i, i < j → okI l i = true) (fun i _ => n - (intOf i).toNat)
    case atStart => exact ⟨0, Nat.zero_le _, rfl, Below.refl _ _, fun i hi => by omega⟩
    case round =>
      obtain ⟨j, hj, rfl, hb, hok⟩ := hrel
      have HO := Lib.hid hok
      clear hok
      by_cases hlt : j < n
      · obtain ⟨x, hx⟩ : ∃ x, l[j]? = some x := ⟨l[j]'(by rw [HL.out.len]; exact hlt), List.getElem?_eq_getElem _⟩
        obtain ⟨b, off, rfl, hbb, q0, q1, q2, q3⟩ := fc_at (HL.out.rd.below (hb.mono hB)) hx
        have HX := Lib.hid hx
        have HMEM := Lib.hid (List.mem_of_getElem? hx)
        have HFX := Lib.hid (HL.out.fit x HMEM.out)
        have HIJ := Lib.hid (okI_at hx)
        have HBAD := Lib.hid (show okI l j = false → newE l = 2 from fun h => by rw [HNE.out, okL_no (by rw [HL.out.len]; exact hlt) h]; rfl)
        have HC := Lib.hid (fun W => fcheck_any x.na x.nl x.ad x.up W HFX.out.1 HFX.out.2)
        have HBX := Lib.hid (Blk.new wr 88 (fcA x))
        have HB0 := Lib.hid hb
        have hj0 : (0 : Int) ≤ (j : Int) := by omega
        have hjn : (j : Int) ≤ (c : Int) := by omega
        clear hx hb
        cases hof : okF x
        · have HBD := Lib.hid (HBAD.out (by rw [HIJ.out, hof]; rfl))
          rw [show okF ⟨x.na, x.nl, x.ad, x.up⟩ = false from hof] at HC
          simp only [Bool.false_eq_true, if_false] at HC
          clear hof
          simp only [fcA] at HBX
          go_wp2_with fail
          refine (HC.out _).mono ?_
          rintro e w2 ⟨rfl, b2⟩
          go_wp2_with fail
          go_step3
          refine ⟨rfl, ?_⟩
          go_wp2
          rw [Exit.noGoto_ret]
          go_ret2
          exact newP_bad HBD.out (by omega) (bnext (balloc HB0.out _) b2)
        · rw [show okF ⟨x.na, x.nl, x.ad, x.up⟩ = true from hof] at HC
          simp only [if_true] at HC
          have HF := Lib.hid (fun (w2 : World) (b2 : Below (wr.alloc (.cells (fcA x) 88)).heap.size (wr.alloc (.cells (fcA x) 88)) w2) =>
            ffirst_any (l.take j) j c B (by rw [List.length_take, HL.out.len]; omega) (some ⟨b, off, none⟩) 39 (.pointer (some ⟨wr.heap.size, 0, none⟩)) (fun g => !apB g x) w2
              (ls_take (c := c) (n := n) (HL.out.rd.below ((bnext (balloc HB0.out _) b2).mono hB))) (Nat.le_trans hB (bnext (balloc HB0.out _) b2).size) (by omega) (enters_of Tryz.func39 (by kernel_rfl) rfl)
              (fun W f hW hf => newc_any f x wr.heap.size W (HL.out.fit f (List.mem_of_mem_take hf)) HFX.out (okL_in HO.out hf) hof ((HBX.out.below b2 HBX.out.lt).below hW (HBX.out.below b2 HBX.out.lt).lt) (HR.out.below (bnext (bnext (balloc HB0.out _) b2) hW))))
          have HOF := Lib.hid hof
          clear hof
          simp only [fcA] at HBX HF
          cases hany : (l.take j).any (fun g => !apB g x)
          all_goals
            rw [hany] at HF HIJ
            have HAN := Lib.hid hany
            clear hany
            go_wp2_with fail
            refine (HC.out _).mono ?_
            rintro e w2 ⟨rfl, b2⟩
            go_wp2_with fail
            refine (HF.out w2 b2).mono ?_
            rintro e w3 ⟨rfl, b3⟩
            go_wp2_with fail
          · go_roundw
            case rel =>
              refine ⟨j + 1, by omega, by go_num, bnext (bnext (balloc HB0.out _) b2) b3, fun i hi => ?_⟩
              by_cases h : i < j
              · exact HO.out i h
              · obtain rfl : i = j := by omega
                rw [HIJ.out, HOF.out]; rfl
            case measure => simp [intOf]; omega
          · go_step3
            refine ⟨rfl, ?_⟩
            go_wp2
            rw [Exit.noGoto_ret]
            go_ret2
            exact newP_bad (HBAD.out (by rw [HIJ.out]; simp)) (by omega) (bnext (bnext (balloc HB0.out _) b2) b3)
      · obtain rfl : j = n := by omega
        have HNE2 := Lib.hid (show newE l = 0 by rw [HNE.out, okL_yes (fun i hi => HO.out i (by rw [← HL.out.len]; exact hi))]; rfl)
        have HCL := Lib.hid (fclone_any l j HL.out.len A c B wr (HL.out.rd.below (hb.mono hB)) (by omega) (Nat.le_trans hB hb.size))
        go_wp2_with fail
        refine HCL.out.mono ?_
        rintro e w2 ⟨v, rfl, ho, b2⟩
        obtain ⟨A1, c1, rfl, _⟩ := own_row ho
        go_wp2_with fail
        rw [jump_ret]
        go_ret2
        refine ⟨.inl ⟨HNE2.out, w2.heap.size, _, rfl, ⟨Blk.new w2 _ _, ?_, Nat.le_trans hb.size b2.size, by rw [HL.out.len]; omega, HL.out.fit, fun k hk => by have := (own_lt ho) k hk; omega⟩⟩, balloc (bnext hb b2) _⟩
        rw [HL.out.len]
        exact own_keep (own_below ho (balloc (Below.refl _ _) _)) hb.size (fun _ _ _ => rfl)
end Go.Proofs.YtlanfceilajifaaGreatDoor
/- face: the document's New, Own, To. -/
namespace Go.Proofs.YtlanfceilajifaaGreatDoor
set_option linter.unusedVariables false
set_option linter.unusedSimpArgs false
open Go.RowKit
set_option maxRecDepth 100000
theorem stands4 (p q : Nat × Int) : standsF p q = 4 ↔ hldF p q = false ∧ hldF q p = false := by
  unfold standsF
  cases hldF p q <;> cases hldF q p <;> simp
theorem ap_symm (g f : Fc) : apB g f = decide (standsF f.net g.net = 4) := by
  unfold apB
  refine decide_eq_decide.2 ?_
  rw [stands4, stands4]
  exact And.comm
theorem any_in {l : List Fc} {p : Fc → Bool} {k j : Nat} {g : Fc} (h : l[k]? = some g) (hk : k < j) (hp : p g = true) : (l.take j).any p = true :=
  List.any_eq_true.2 ⟨g, by
    rw [List.mem_take_iff_getElem]
    have hl : k < l.length := by
      rcases Nat.lt_or_ge k l.length with h' | h'
      · exact h'
      · rw [List.getElem?_eq_none h'] at h; cases h
    exact ⟨k, by omega, by rw [List.getElem?_eq_getElem hl] at h; exact Option.some.inj h⟩, hp⟩

set_option maxHeartbeats 4000000 in
theorem refNew_any (l : List Fc) (n c B : Nat) (A : Option Addr) (w : World) (hL : Ls w B A n c l) (hB : B ≤ w.heap.size) (hn : n ≤ 1000) :
    Calls Tryz.prog 8 #[.slice A n c] w fun e w' => e = .returned (.int .i64 (newE l)) ∧ Below w.heap.size w w' := by
  have HL := Lib.hid hL
  have hcap := hL.cap
  clear hL
  by_cases h16 : 16 < n
  · rw [show newE l = 3 by unfold newE; rw [if_pos (by rw [HL.out.len]; exact h16)]]
    have g1 : decide ((16 : Int) < n) = true := decide_eq_true (by omega)
    have g1' : decide (16 < n) = true := decide_eq_true (by omega)
    go_enter Tryz.func8, Tryz.ntmps8
    go_wp2
    go_ret
    exact ⟨rfl, Below.refl _ _⟩
  · have g1 : decide ((16 : Int) < n) = false := decide_eq_false (by omega)
    have g1' : decide (16 < n) = false := decide_eq_false (by omega)
    have HNE := Lib.hid (show newE l = if okL l then 0 else 2 by unfold newE; rw [if_neg (by rw [HL.out.len]; exact h16)])
    go_enter Tryz.func8, Tryz.ntmps8
    go_wp2_with fail
    go_loopw [3] (fun i wr => ∃ j : Nat, j ≤ n ∧ i = .int .i64 j ∧ Below w.heap.size w wr ∧ ∀ i, i < j → okI l i = true) (fun i _ => n - (intOf i).toNat)
    case atStart => exact ⟨0, Nat.zero_le _, rfl, Below.refl _ _, fun i hi => by omega⟩
    case round =>
      obtain ⟨j, hj, rfl, hb, hok⟩ := hrel
      have HO := Lib.hid hok
      clear hok
      by_cases hlt : j < n
      · obtain ⟨x, hx⟩ : ∃ x, l[j]? = some x := ⟨l[j]'(by rw [HL.out.len]; exact hlt), List.getElem?_eq_getElem _⟩
        obtain ⟨b, off, rfl, hbb, q0, q1, q2, q3⟩ := fc_at (HL.out.rd.below (hb.mono hB)) hx
        have HX := Lib.hid hx
        have HFX := Lib.hid (HL.out.fit x (List.mem_of_getElem? hx))
        have HIJ := Lib.hid (okI_at hx)
        have HBAD := Lib.hid (show okI l j = false → newE l = 2 from fun h => by rw [HNE.out, okL_no (by rw [HL.out.len]; exact hlt) h]; rfl)
        have HC := Lib.hid (fun W => right9_any x.na x.nl x.ad x.up W HFX.out.1 HFX.out.2)
        have HB0 := Lib.hid hb
        clear hx hb
        cases hof : okF x
        · have HBD := Lib.hid (HBAD.out (by rw [HIJ.out, hof]; rfl))
          rw [show okF ⟨x.na, x.nl, x.ad, x.up⟩ = false from hof] at HC
          clear hof
          go_wp2_with fail
          refine (HC.out _).mono ?_
          rintro e w2 ⟨rfl, b2⟩
          go_wp2_with fail
          go_ret
          rw [HBD.out]
          exact ⟨rfl, bnext HB0.out b2⟩
        · rw [show okF ⟨x.na, x.nl, x.ad, x.up⟩ = true from hof] at HC
          have HOF := Lib.hid hof
          clear hof
          go_wp2_with fail
          refine (HC.out _).mono ?_
          rintro e w2 ⟨rfl, b2⟩
          have HB2 := Lib.hid (bnext HB0.out b2)
          have hj0 : (0 : Int) ≤ (j : Int) ∧ (j : Int) < (n : Int) := by omega
          clear b2 q0 q1 q2 q3
          go_wp2_with fail
          obtain ⟨wq, rfl⟩ : ∃ x, x = wr := ⟨_, rfl⟩
          go_loopw [4] (fun i wr' => ∃ k : Nat, k ≤ j ∧ i = .int .i64 k ∧ Below w.heap.size w wr' ∧ (l.take k).any (fun g => !apB g x) = false) (fun i _ => j - (intOf i).toNat)
          case atStart => exact ⟨0, Nat.zero_le _, rfl, HB2.out, by simp⟩
          case round =>
            obtain ⟨k, hk, rfl, hb3, hno⟩ := hrel
            have HNO := Lib.hid hno
            have HB3 := Lib.hid hb3
            clear hno
            by_cases hlk : k < j
            · obtain ⟨y, hy⟩ : ∃ y, l[k]? = some y := ⟨l[k]'(by rw [HL.out.len]; omega), List.getElem?_eq_getElem _⟩
              have HRD := Lib.hid (HL.out.rd.below (hb3.mono hB))
              obtain ⟨b', off', hE, hbb', p0, p1, _, _⟩ := fc_at HRD.out HX.out
              injection hE with hE
              injection hE with hE1 hE2
              subst hE1 hE2
              obtain ⟨b', off', hE, _, r0, r1, _, _⟩ := fc_at HRD.out hy
              injection hE with hE
              injection hE with hE1 hE2
              subst hE1 hE2
              have HY := Lib.hid hy
              have HOY := Lib.hid (okL_in HO.out (f := y) (by rw [List.mem_take_iff_getElem]; exact ⟨k, by rw [HL.out.len]; omega, by rw [List.getElem?_eq_getElem (by rw [HL.out.len]; omega)] at hy; exact Option.some.inj hy⟩))
              have HFY := Lib.hid (HL.out.fit y (List.mem_of_getElem? hy))
              obtain ⟨kx, hkx, _, hkx2, hzx⟩ := okF_bounds HOF.out
              obtain ⟨ky, hky, _, hky2, hzy⟩ := okF_bounds HOY.out
              have HS := Lib.hid (fun W => refStands_any x.na kx y.na ky W HFX.out.1 HFY.out.1 (by omega) (by omega) hzx hzy)
              have hap : apB y x = decide (standsF (x.na, (kx : Int)) (y.na, (ky : Int)) = 4) := by rw [ap_symm]; unfold Fc.net; rw [hkx, hky]
              rw [hkx] at p1
              rw [hky] at r1
              have hk0 : (0 : Int) ≤ (k : Int) ∧ (k : Int) < (n : Int) := by omega
              have hstep : apB y x = true → (l.take (k + 1)).any (fun g => !apB g x) = false := fun h => by
                rw [List.take_add_one, HY.out]
                simp [HNO.out, h]
              have hbad : apB y x = false → newE l = 2 := fun h => HBAD.out (by rw [HIJ.out, any_in HY.out hlk (by rw [h]; rfl)]; simp)
              have HSP := Lib.hid hstep
              have HBA := Lib.hid hbad
              clear hy hkx hky hzx hzy hstep hbad hb3
              generalize standsF (x.na, (kx : Int)) (y.na, (ky : Int)) = s at *
              have s0 : wr.drew.cell? ⟨b, off + j * 4, none⟩ = some (.int .u32 x.na) ∧ wr.drew.cell? ⟨b, off + j * 4 + 1, none⟩ = some (.int .i64 kx) ∧ wr.drew.cell? ⟨b, off + k * 4, none⟩ = some (.int .u32 y.na) ∧ wr.drew.cell? ⟨b, off + k * 4 + 1, none⟩ = some (.int .i64 ky) := ⟨p0, p1, r0, r1⟩
              have s1 : wr.cell? ⟨b, off + j * 4, none⟩ = some (.int .u32 x.na) ∧ wr.cell? ⟨b, off + j * 4 + 1, none⟩ = some (.int .i64 kx) ∧ wr.cell? ⟨b, off + k * 4, none⟩ = some (.int .u32 y.na) ∧ wr.cell? ⟨b, off + k * 4 + 1, none⟩ = some (.int .i64 ky) := ⟨p0, p1, r0, r1⟩
              have HS4 := Lib.hid hap
              by_cases h4 : s = 4
              case' pos =>
                have hs : (((s : Nat) : Int) != 4) = false := by subst h4; rfl
                have HAP := Lib.hid (show apB y x = true by rw [HS4.out]; exact decide_eq_true h4)
              case' neg =>
                have hs : (((s : Nat) : Int) != 4) = true := by rw [bne_iff_ne]; omega
                have HAP := Lib.hid (show apB y x = false by rw [HS4.out]; exact decide_eq_false h4)
              all_goals
                clear h4 hap
                go_wp2_with fail
                go_region_held3 (fun w' => w'.cell? ⟨b, off + j * 4, none⟩ = some (.int .u32 x.na) ∧ w'.cell? ⟨b, off + j * 4 + 1, none⟩ = some (.int .i64 kx) ∧ w'.cell? ⟨b, off + k * 4, none⟩ = some (.int .u32 y.na) ∧ w'.cell? ⟨b, off + k * 4 + 1, none⟩ = some (.int .i64 ky))
                  (first | exact s0 | exact s1 | exact ⟨(hb4.cell (cell_lt p0)).trans p0, (hb4.cell (cell_lt p1)).trans p1, (hb4.cell (cell_lt r0)).trans r0, (hb4.cell (cell_lt r1)).trans r1⟩)
                  ((go_at_call 34; refine (HS.out _).mono ?_; rintro e w4 ⟨rfl, hb4⟩))
                go_wp2_with fail
              · go_ret
                rw [HBA.out HAP.out]
                exact ⟨rfl, bnext (below_drewN HB3.out 1) hb4⟩
              · go_roundw
                case rel => exact ⟨k + 1, by omega, by go_num, bnext (below_drewN HB3.out 1) hb4, HSP.out HAP.out⟩
                case measure => simp [intOf]; omega
            · obtain rfl : k = j := by omega
              go_wp2_with fail
              go_roundw
              case rel =>
                refine ⟨k + 1, by omega, by go_num, HB3.out, fun i hi => ?_⟩
                by_cases h : i < k
                · exact HO.out i h
                · obtain rfl : i = k := by omega
                  rw [HIJ.out, HOF.out, HNO.out]; rfl
              case measure => simp [intOf]; omega
      · obtain rfl : j = n := by omega
        have HNE2 := Lib.hid (show newE l = 0 by rw [HNE.out, okL_yes (fun i hi => HO.out i (by rw [← HL.out.len]; exact hi))]; rfl)
        go_wp2_with fail
        go_ret
        rw [HNE2.out]
        exact ⟨rfl, hb⟩
end Go.Proofs.YtlanfceilajifaaGreatDoor
/- face: none, Get, Set, Own, To, Len, Copy. -/
namespace Go.Proofs.YtlanfceilajifaaGreatDoor
set_option linter.unusedVariables false
set_option linter.unusedSimpArgs false
open Go.RowKit
set_option maxRecDepth 100000
theorem Fs.below {w w' : World} {n0 g : Nat} {v : Value} {l : List Fc} (h : Fs w n0 g v l) (hb : Below w.heap.size w w') : Fs w' n0 g v l :=
  ⟨h.blk.below hb h.blk.lt, own_below h.own hb, h.ge, h.len, h.fit, h.apart⟩
theorem Fs.drewN {w : World} {n0 g : Nat} {v : Value} {l : List Fc} (h : Fs w n0 g v l) (n : Nat) : Fs (w.drewN n) n0 g v l := ⟨h.blk, h.own, h.ge, h.len, h.fit, h.apart⟩
theorem Fs.row {w : World} {n0 g : Nat} {v : Value} {l : List Fc} (h : Fs w n0 g v l) : ∃ A c, v = .slice A l.length c ∧ l.length ≤ c ∧ c ≤ maxLen ∧ Rd w w.heap.size A (fcC l) ∧ (∀ a, A = some a → n0 ≤ a.block) := own_row h.own
/-- a face, or none -/
def fZ : Fc := ⟨0, 0, 0, false⟩
def getF (l : List Fc) (i : Int) : Fc := if 0 ≤ i ∧ i < l.length then l.getD i.toNat fZ else fZ
def getE (l : List Fc) (i : Int) : Int := if 0 ≤ i ∧ i < l.length then 0 else 4
def setL (l : List Fc) (i : Int) (up : Bool) : List Fc := if 0 ≤ i ∧ i < l.length then l.set i.toNat { l.getD i.toNat fZ with up := up } else l

theorem fnone_nil (w : World) : Calls Tryz.prog 104 #[.pointer none] w fun e w' => e = .returned (.bool true) ∧ w = w' := by
  go_enter Tryz.func104, Tryz.ntmps104
  go_wp2
  go_ret
  exact ⟨rfl, rfl⟩
theorem fnone_any {w : World} {n0 g : Nat} {v : Value} {l : List Fc} (h : Fs w n0 g v l) : Calls Tryz.prog 104 #[.pointer (some ⟨g, 0, none⟩)] w fun e w' => e = .returned (.bool false) ∧ w = w' := by
  have d1 := h.blk.cell 1
  simp only [List.getElem?_toArray, List.getElem?_cons_zero, List.getElem?_cons_succ] at d1
  clear h
  go_enter Tryz.func104, Tryz.ntmps104
  go_wp2
  go_ret
  exact ⟨rfl, rfl⟩
theorem fhas_any (A : Option Addr) (n c : Nat) (i : Int) (w : World) : Calls Tryz.prog 105 #[.slice A n c, .int .i64 i] w fun e w' => e = .returned (.bool (decide (0 ≤ i ∧ i < n))) ∧ w = w' := by
  by_cases h0 : 0 ≤ i
  · by_cases h1 : i < (n : Int)
    · rw [decide_eq_true ⟨h0, h1⟩]
      have g0 : decide (0 ≤ i) = true := decide_eq_true h0
      have g1 : decide (i < (n : Int)) = true := decide_eq_true h1
      go_enter Tryz.func105, Tryz.ntmps105
      go_wp2
      go_ret
      exact ⟨rfl, rfl⟩
    · rw [decide_eq_false (fun h => h1 h.2)]
      have g0 : decide (0 ≤ i) = true := decide_eq_true h0
      have g1 : decide (i < (n : Int)) = false := decide_eq_false h1
      go_enter Tryz.func105, Tryz.ntmps105
      go_wp2
      go_ret
      exact ⟨rfl, rfl⟩
  · rw [decide_eq_false (fun h => h0 h.1)]
    have g0 : decide (0 ≤ i) = false := decide_eq_false h0
    go_enter Tryz.func105, Tryz.ntmps105
    go_wp2
    go_ret
    exact ⟨rfl, rfl⟩

theorem get_nil (i : Int) (w : World) : Calls Tryz.prog 81 #[.pointer none, .int .i64 i] w fun e w' => e = .returned (.tuple #[.agg #[.int .u32 0, .int .i64 0, .int .u32 0, .bool false], .int .i64 1]) ∧ Below w.heap.size w w' := by
  go_enter Tryz.func81, Tryz.ntmps81
  go_wp2_with fail
  refine scope_fwd 0 rfl ?_
  go_wp2_with (go_at_call 104; refine (fnone_nil _).mono ?_; rintro e w' ⟨rfl, rfl⟩)
  go_step3
  refine ⟨rfl, ?_⟩
  go_wp2
  rw [Exit.noGoto_ret]
  refine bodyPost_ret (v := .tuple #[.agg #[.int .u32 0, .int .i64 0, .int .u32 0, .bool false], .int .i64 1]) (by simp [results, Tryz.results81, go_sem]) rfl ⟨rfl, by go_grown⟩

set_option maxHeartbeats 1000000 in
theorem get_any {w : World} {n0 g : Nat} {v : Value} {l : List Fc} (i : Int) (h : Fs w n0 g v l) : Calls Tryz.prog 81 #[.pointer (some ⟨g, 0, none⟩), .int .i64 i] w fun e w' => e = .returned (.tuple #[.agg #[.int .u32 (getF l i).na, .int .i64 (getF l i).nl, .int .u32 (getF l i).ad, .bool (getF l i).up], .int .i64 (getE l i)]) ∧ Below w.heap.size w w' := by
  obtain ⟨A, c, rfl, hc1, hc2, hr, _⟩ := h.row
  have b1 : Below w.heap.size w (w.alloc (.cells #[.int .u32 0, .int .i64 0, .int .u32 0, .bool false] 88)) := balloc (Below.refl _ _) _
  have HN := Lib.hid (fnone_any (h.below b1))
  have d0 := h.blk.cell 0
  have gl := h.blk.lt
  simp only [List.getElem?_toArray, List.getElem?_cons_zero] at d0
  unfold maxLen at hc2
  clear b1
  by_cases hi : 0 ≤ i ∧ i < (l.length : Int)
  · obtain ⟨k, rfl⟩ := Int.eq_ofNat_of_zero_le hi.1
    have hk : k < l.length := by omega
    have e1 : getF l (k : Int) = l[k] := by unfold getF; rw [if_pos hi, Int.toNat_natCast, List.getD, List.getElem?_eq_getElem hk]; rfl
    have e2 : getE l (k : Int) = 0 := by unfold getE; rw [if_pos hi]
    rw [e1, e2]
    obtain ⟨b, off, rfl, hbb, q0, q1, q2, q3⟩ := fc_at hr (List.getElem?_eq_getElem hk)
    have HD := Lib.hid (decide_eq_true hi)
    have hi1 : (k : Int) < (l.length : Int) := hi.2
    have hi2 : (0 : Int) ≤ (k : Int) := hi.1
    clear e1 e2 hi h hr
    generalize l[k] = x at *
    generalize l.length = n at *
    go_enter Tryz.func81, Tryz.ntmps81
    go_wp2_with fail
    refine scope_fwd 0 rfl ?_
    go_wp2_with fail
    refine HN.out.mono ?_
    rintro e w' ⟨rfl, rfl⟩
    go_wp2_with fail
    refine (fhas_any _ _ _ _ _).mono ?_
    rw [HD.out]
    rintro e w' ⟨rfl, rfl⟩
    go_wp2_with fail
    rw [jump_ret]
    refine bodyPost_ret (v := .tuple #[.agg #[.int .u32 x.na, .int .i64 x.nl, .int .u32 x.ad, .bool x.up], .int .i64 0]) (by simp [results, Tryz.results81, go_sem]) rfl ⟨rfl, by go_grown⟩
  · have e1 : getF l i = fZ := by unfold getF; rw [if_neg hi]
    have e2 : getE l i = 4 := by unfold getE; rw [if_neg hi]
    rw [e1, e2]
    have HD := Lib.hid (decide_eq_false hi)
    clear e1 e2 hi h hr
    generalize l.length = n at *
    go_enter Tryz.func81, Tryz.ntmps81
    go_wp2_with fail
    refine scope_fwd 0 rfl ?_
    go_wp2_with fail
    refine HN.out.mono ?_
    rintro e w' ⟨rfl, rfl⟩
    go_wp2_with fail
    refine (fhas_any _ _ _ _ _).mono ?_
    rw [HD.out]
    rintro e w' ⟨rfl, rfl⟩
    go_wp2_with fail
    go_step3
    refine ⟨rfl, ?_⟩
    go_wp2
    rw [Exit.noGoto_ret]
    refine bodyPost_ret (v := .tuple #[.agg #[.int .u32 0, .int .i64 0, .int .u32 0, .bool false], .int .i64 4]) (by simp [results, Tryz.results81, go_sem]) rfl ⟨rfl, by go_grown⟩

theorem fcC_set {l : List Fc} {k : Nat} {x : Fc} (hx : l[k]? = some x) (up : Bool) : (fcC l).set (k * 4 + 3) (.bool up) = fcC (l.set k { x with up := up }) := by
  induction l generalizing k with
  | nil => simp at hx
  | cons y l ih =>
    cases k with
    | zero =>
      simp at hx
      subst hx
      simp [fcC, fcL]
    | succ k =>
      simp at hx
      have := ih hx
      simp only [fcC, List.flatMap_cons, List.set_cons_succ] at this ⊢
      rw [← this]
      simp [fcL, show (k + 1) * 4 + 3 = (k * 4 + 3) + 1 + 1 + 1 + 1 by omega]
/-- what a call on faces leaves alone: all but their row -/
def Gz (w w' : World) (v : Value) : Prop := Fr (fun k => v.ownBlock ≠ some k) w w'

/-- owns, To, Own -/
def ownB (l : List Fc) (a : Nat) : Bool := l.any fun f => decide (f.ad = a)
def toP (a : Nat) (f : Fc) : Bool := f.up && hasF f.net a
theorem owns_any (l : List Fc) (n c B : Nat) (hn : l.length = n) (A : Option Addr) (a : Nat) (w : World) (hr : Rd w B A (fcC l)) (hB : B ≤ w.heap.size) (hl : n ≤ 1000) :
    Calls Tryz.prog 108 #[.slice A n c, .int .u32 a] w fun e w' => e = .returned (.bool (ownB l a)) ∧ Below w.heap.size w w' := by
  have b1 : Below w.heap.size w (w.alloc (.cells #[.int .u32 a] 24)) := balloc (Below.refl _ _) _
  have HX := Lib.hid (Blk.new w 24 #[.int .u32 a])
  have HF := Lib.hid (ffirst_any l n c B hn A 128 (.pointer (some ⟨w.heap.size, 0, none⟩)) (fun f => decide (f.ad = a)) (w.alloc (.cells #[.int .u32 a] 24)) (hr.alloc hB _) (Nat.le_trans hB b1.size) hl (enters_of Tryz.func128 (by kernel_rfl) rfl)
    (fun W f hW hf => ownc_any f a w.heap.size W (HX.out.below hW HX.out.lt)))
  show Calls _ _ _ _ fun e w' => e = .returned (.bool (l.any fun f => decide (f.ad = a))) ∧ Below w.heap.size w w'
  clear hr hn b1
  generalize (l.any fun f => decide (f.ad = a)) = r at *
  generalize firstF (fun f => decide (f.ad = a)) l = z at *
  go_enter Tryz.func108, Tryz.ntmps108
  go_wp2_with (go_at_call 38; refine HF.out.mono ?_; rintro e w1 ⟨rfl, hb⟩)
  go_ret
  exact ⟨rfl, bnext (balloc (Below.refl _ _) _) hb⟩

end Go.Proofs.YtlanfceilajifaaGreatDoor
/- face: From. -/
namespace Go.Proofs.YtlanfceilajifaaGreatDoor
set_option linter.unusedVariables false
set_option linter.unusedSimpArgs false
open Go.RowKit
set_option maxRecDepth 100000
theorem errno_any (n : Int) (w : World) : Calls Tryz.prog 83 #[.iface 29 (.int .i64 n)] w fun e w' => e = .returned (.int .i64 n) ∧ w = w' := by
  have hta : ∀ w, (Instr.typeAssert (.iface 29 (.int .i64 n)) 20 29 false).run Tryz.prog w = .ok (.int .i64 n) w := fun _ => by kernel_rfl
  go_enter Tryz.func83, Tryz.ntmps83
  go_wp2
  go_ret
  exact ⟨rfl, rfl⟩
/-- the table of asks -/
def askC (H : Nat) : Array Value := #[.iface 29 (.int .i64 190), .func (.func 106) #[] #[], .iface 29 (.int .i64 191), .func (.func 107) #[] #[.pointer (some ⟨H, 0, none⟩)], .iface 29 (.int .i64 192), .func (.func 109) #[] #[]]
set_option maxHeartbeats 1000000 in
theorem asks_any (A : Option Addr) (n c H : Nat) (w : World) (hH : w.heap.size = H) :
    Calls Tryz.prog 82 #[.slice A n c] w fun e w' => e = .returned (.slice (some ⟨H + 1, 0, none⟩) 3 3) ∧ Blk w' H 101 #[.slice A n c] ∧ Blk w' (H + 1) 157 (askC H) ∧ Below w.heap.size w w' := by
  subst hH
  go_enter Tryz.func82, Tryz.ntmps82
  go_wp2
  go_ret
  refine ⟨rfl, (Blk.new w _ _).alloc _, ?_, by go_grown⟩
  have := Blk.new (w.alloc (.cells #[.slice A n c] 101)) 157 (askC w.heap.size)
  rwa [World.size_alloc] at this

theorem ask1_any (na : Nat) (nl : Int) (ad : Nat) (up : Bool) (a : Nat) (w : World) : Calls Tryz.prog 106 #[.agg #[.int .u32 na, .int .i64 nl, .int .u32 ad, .bool up], .int .u32 a] w fun e w' => e = .returned (.bool (!up)) ∧ Below w.heap.size w w' := by
  go_enter Tryz.func106, Tryz.ntmps106
  go_wp2
  go_ret
  exact ⟨rfl, balloc (Below.refl _ _) _⟩
theorem ask2_any (l : List Fc) (n c B b : Nat) (hn : l.length = n) (A : Option Addr) (na : Nat) (nl : Int) (ad : Nat) (up : Bool) (a : Nat) (w : World) (hb : Blk w b 101 #[.slice A n c]) (hr : Rd w B A (fcC l)) (hB : B ≤ w.heap.size) (hl : n ≤ 1000) :
    Calls Tryz.prog 107 #[.agg #[.int .u32 na, .int .i64 nl, .int .u32 ad, .bool up], .int .u32 a, .pointer (some ⟨b, 0, none⟩)] w fun e w' => e = .returned (.bool (ownB l a)) ∧ Below w.heap.size w w' := by
  have HO := Lib.hid (owns_any l n c B hn A a (w.alloc (.cells #[.int .u32 na, .int .i64 nl, .int .u32 ad, .bool up] 88)) (hr.alloc hB _) (Nat.le_trans hB (balloc (Below.refl _ _) _).size) hl)
  have d0 := hb.cell 0
  simp only [List.getElem?_toArray, List.getElem?_cons_zero] at d0
  have hbl := hb.lt
  clear hb hr hn
  go_enter Tryz.func107, Tryz.ntmps107
  go_wp2_with (go_at_call 108; refine HO.out.mono ?_; rintro e w1 ⟨rfl, b1⟩)
  go_ret
  exact ⟨rfl, bnext (balloc (Below.refl _ _) _) b1⟩
set_option maxHeartbeats 1000000 in
theorem ask3_any (na : Nat) (nl : Int) (ad : Nat) (up : Bool) (a : Nat) (w : World) (hna : na < 4294967296) (ha : a < 4294967296) : Calls Tryz.prog 109 #[.agg #[.int .u32 na, .int .i64 nl, .int .u32 ad, .bool up], .int .u32 a] w fun e w' => e = .returned (.bool (!(hasF (na, nl) a && !endF (na, nl) a))) ∧ Below w.heap.size w w' := by
  have HH := Lib.hid (fun W => phas_any na nl a W hna ha)
  cases hh : hasF (na, nl) a
  · rw [hh] at HH
    clear hh
    go_enter Tryz.func109, Tryz.ntmps109
    go_wp2_with (go_at_call 76; refine (HH.out _).mono ?_; rintro e w1 ⟨rfl, b1⟩)
    go_ret
    exact ⟨rfl, bnext (balloc (Below.refl _ _) _) b1⟩
  · rw [hh] at HH
    have hp : okP (na, nl) = true := by unfold hasF at hh; simp at hh; exact hh.1
    obtain ⟨k, rfl, hk2, hz⟩ := okP_bounds hp
    have HE := Lib.hid (fun W => isEnd_any na k a W hna hk2 hz)
    simp only [Bool.true_and, Bool.not_not]
    clear hh hp hz
    generalize endF (na, (k : Int)) a = r at *
    go_enter Tryz.func109, Tryz.ntmps109
    go_wp2_with fail
    refine (HH.out _).mono ?_
    rintro e w1 ⟨rfl, b1⟩
    have K1 := (Blk.new w 88 #[.int .u32 na, .int .i64 k, .int .u32 ad, .bool up]).below b1 (by simp)
    have c1 := bnext (balloc (Below.refl _ w) _) b1
    have d0 := (K1).cell 0
    have d1 := (K1).cell 1
    have d2 := (K1).cell 2
    have d3 := (K1).cell 3
    simp only [List.getElem?_toArray, List.getElem?_cons_zero, List.getElem?_cons_succ] at d0 d1 d2 d3
    have z1 := K1.lt
    clear b1
    go_wp2_with fail
    refine (HE.out _).mono ?_
    rintro e w2 ⟨rfl, b2⟩
    go_wp2_with fail
    go_ret
    exact ⟨rfl, bnext c1 b2⟩

/-- what From answers -/
def fromFE (l : List Fc) (i : Int) (a : Nat) : Int := if ¬ (0 ≤ i ∧ i < l.length) then 4 else if (getF l i).up = false then 190 else if ownB l a then 191 else if hasF (getF l i).net a && !endF (getF l i).net a then 0 else 192
theorem from_nil (i : Int) (a : Nat) (w : World) : Calls Tryz.prog 42 #[.pointer none, .int .i64 i, .int .u32 a] w fun e w' => e = .returned (.int .i64 1) ∧ Below w.heap.size w w' := by
  go_enter Tryz.func42, Tryz.ntmps42
  go_wp2_with fail
  refine scope_fwd 0 rfl ?_
  go_wp2_with (go_at_call 81; refine (get_nil _ _).mono ?_; rintro e w1 ⟨rfl, b1⟩)
  go_step3
  refine ⟨rfl, ?_⟩
  go_wp2
  rw [Exit.noGoto_ret]
  go_ret
  exact ⟨rfl, balloc b1 _⟩

set_option maxHeartbeats 8000000 in
theorem from_any {w : World} {n0 g : Nat} {v : Value} {l : List Fc} (i : Int) (a : Nat) (ha : a < 4294967296) (h : Fs w n0 g v l) : Calls Tryz.prog 42 #[.pointer (some ⟨g, 0, none⟩), .int .i64 i, .int .u32 a] w fun e w' => e = .returned (.int .i64 (fromFE l i a)) ∧ Below w.heap.size w w' := by
  have HG := Lib.hid (get_any i h)
  by_cases hi : 0 ≤ i ∧ i < (l.length : Int)
  case neg =>
    have e2 : getE l i = 4 := by unfold getE; rw [if_neg hi]
    rw [show fromFE l i a = 4 by unfold fromFE; rw [if_pos hi]]
    rw [e2] at HG
    clear e2 hi h
    generalize getF l i = x at *
    go_enter Tryz.func42, Tryz.ntmps42
    go_wp2_with fail
    refine scope_fwd 0 rfl ?_
    go_wp2_with (go_at_call 81; refine HG.out.mono ?_; rintro e w1 ⟨rfl, b1⟩)
    go_step3
    refine ⟨rfl, ?_⟩
    go_wp2
    rw [Exit.noGoto_ret]
    go_ret
    exact ⟨rfl, balloc b1 _⟩
  case pos =>
  have e2 : getE l i = 0 := by unfold getE; rw [if_pos hi]
  have hfe : fromFE l i a = if (getF l i).up = false then 190 else if ownB l a then 191 else if hasF (getF l i).net a && !endF (getF l i).net a then 0 else 192 := by unfold fromFE; rw [if_neg (by simpa using hi)]
  have hfit : fitF (getF l i) := by
    unfold getF
    rw [if_pos hi, List.getD, List.getElem?_eq_getElem (show i.toNat < l.length by omega)]
    exact h.fit _ (List.getElem_mem _)
  rw [e2] at HG
  obtain ⟨A, c, rfl, hc1, hc2, hr, _⟩ := h.row
  have HR := Lib.hid hr
  have HH := Lib.hid h
  have hl16 := h.len
  generalize getF l i = x at *
  obtain ⟨na, nl, ad, up⟩ := x
  have H1 := Lib.hid (fun W => ask1_any na nl ad up a W)
  have H3 := Lib.hid (fun W => ask3_any na nl ad up a W hfit.1 ha)
  have HF := Lib.hid hfe
  simp only at HG HF
  clear e2 hi hr h hfe
  cases hup : up
  · subst hup
    rw [HF.out, if_pos rfl]
    have H1 := H1
    simp only [Bool.not_false] at H1
    clear HF H3
    go_enter Tryz.func42, Tryz.ntmps42
    go_wp2_with fail
    refine scope_fwd 0 rfl ?_
    go_wp2_with fail
    refine HG.out.mono ?_
    rintro e w1 ⟨rfl, b1⟩
    have K := HH.out.blk.below b1 HH.out.blk.lt
    have d0 := K.cell 0
    simp only [List.getElem?_toArray, List.getElem?_cons_zero] at d0
    have gl := K.lt
    clear K
    go_wp2_with fail
    refine (asks_any A _ c (w1.heap.size + 1) _ (by simp)).mono ?_
    rintro e w2 ⟨rfl, L2, T2, b2⟩
    have F2 := (Blk.new w1 88 #[.int .u32 na, .int .i64 nl, .int .u32 ad, .bool false]).below b2 (by simp)
    have c2 := bnext (balloc b1 (.cells #[.int .u32 na, .int .i64 nl, .int .u32 ad, .bool false] 88)) b2
    unfold askC at T2
    have t0 := (T2).cell 0
    have t1 := (T2).cell 1
    have t2 := (T2).cell 2
    have t3 := (T2).cell 3
    have t4 := (T2).cell 4
    have t5 := (T2).cell 5
    simp only [List.getElem?_toArray, List.getElem?_cons_zero, List.getElem?_cons_succ] at t0 t1 t2 t3 t4 t5
    have f0 := (F2).cell 0
    have f1 := (F2).cell 1
    have f2 := (F2).cell 2
    have f3 := (F2).cell 3
    simp only [List.getElem?_toArray, List.getElem?_cons_zero, List.getElem?_cons_succ] at f0 f1 f2 f3
    have z2 := T2.lt
    have y2 := F2.lt
    clear d0 gl b1 b2
    go_wp2_with fail
    refine wp_loop_rounds 4 ?_
    rw [rounds_succ]
    go_wp2_with fail
    refine (H1.out _).mono ?_
    rintro e w3 ⟨rfl, b3⟩
    have p3 := bnext (balloc (Below.refl _ w2) _) b3
    have L3 := L2.below p3 L2.lt
    have T3 := T2.below p3 T2.lt
    have F3 := F2.below p3 F2.lt
    have q3 := (Blk.new w2 157 #[.iface 29 (.int .i64 190), .func (.func 106) #[] #[]]).below b3 (by simp)
    have q0 := (q3).cell 0
    have q1 := (q3).cell 1
    simp only [List.getElem?_toArray, List.getElem?_cons_zero, List.getElem?_cons_succ] at q0 q1
    have c3 := bnext c2 p3
    clear L2 T2 F2 c2 z2 y2 b3 p3 q3
    clear t0 t1 t2 t3 t4 t5 f0 f1 f2 f3
    have t0 := (T3).cell 0
    have t1 := (T3).cell 1
    have t2 := (T3).cell 2
    have t3 := (T3).cell 3
    have t4 := (T3).cell 4
    have t5 := (T3).cell 5
    simp only [List.getElem?_toArray, List.getElem?_cons_zero, List.getElem?_cons_succ] at t0 t1 t2 t3 t4 t5
    have f0 := (F3).cell 0
    have f1 := (F3).cell 1
    have f2 := (F3).cell 2
    have f3 := (F3).cell 3
    simp only [List.getElem?_toArray, List.getElem?_cons_zero, List.getElem?_cons_succ] at f0 f1 f2 f3
    have z3 := T3.lt
    have y3 := F3.lt
    go_wp2_with (go_at_call 83; refine (errno_any _ _).mono ?_; rintro e w' ⟨rfl, rfl⟩)
    go_step3
    refine ⟨rfl, ?_⟩
    go_wp2
    rw [Exit.noGoto_ret]
    go_ret
    exact ⟨rfl, c3⟩
  subst hup
  simp only [Bool.not_true] at H1
  rw [if_neg (by simp)] at HF
  cases how : ownB l a
  case true =>
    rw [HF.out, if_pos how]
    have HOW := Lib.hid how
    clear HF H3 how
    go_enter Tryz.func42, Tryz.ntmps42
    go_wp2_with fail
    refine scope_fwd 0 rfl ?_
    go_wp2_with fail
    refine HG.out.mono ?_
    rintro e w1 ⟨rfl, b1⟩
    have K := HH.out.blk.below b1 HH.out.blk.lt
    have d0 := K.cell 0
    simp only [List.getElem?_toArray, List.getElem?_cons_zero] at d0
    have gl := K.lt
    clear K
    go_wp2_with fail
    refine (asks_any A _ c (w1.heap.size + 1) _ (by simp)).mono ?_
    rintro e w2 ⟨rfl, L2, T2, b2⟩
    have F2 := (Blk.new w1 88 #[.int .u32 na, .int .i64 nl, .int .u32 ad, .bool true]).below b2 (by simp)
    have c2 := bnext (balloc b1 (.cells #[.int .u32 na, .int .i64 nl, .int .u32 ad, .bool true] 88)) b2
    unfold askC at T2
    have t0 := (T2).cell 0
    have t1 := (T2).cell 1
    have t2 := (T2).cell 2
    have t3 := (T2).cell 3
    have t4 := (T2).cell 4
    have t5 := (T2).cell 5
    simp only [List.getElem?_toArray, List.getElem?_cons_zero, List.getElem?_cons_succ] at t0 t1 t2 t3 t4 t5
    have f0 := (F2).cell 0
    have f1 := (F2).cell 1
    have f2 := (F2).cell 2
    have f3 := (F2).cell 3
    simp only [List.getElem?_toArray, List.getElem?_cons_zero, List.getElem?_cons_succ] at f0 f1 f2 f3
    have z2 := T2.lt
    have y2 := F2.lt
    clear d0 gl b1 b2
    go_wp2_with fail
    refine wp_loop_rounds 4 ?_
    rw [rounds_succ]
    go_wp2_with fail
    refine (H1.out _).mono ?_
    rintro e w3 ⟨rfl, b3⟩
    have p3 := bnext (balloc (Below.refl _ w2) _) b3
    have L3 := L2.below p3 L2.lt
    have T3 := T2.below p3 T2.lt
    have F3 := F2.below p3 F2.lt
    have q3 := (Blk.new w2 157 #[.iface 29 (.int .i64 190), .func (.func 106) #[] #[]]).below b3 (by simp)
    have q0 := (q3).cell 0
    have q1 := (q3).cell 1
    simp only [List.getElem?_toArray, List.getElem?_cons_zero, List.getElem?_cons_succ] at q0 q1
    have c3 := bnext c2 p3
    clear L2 T2 F2 c2 z2 y2 b3 p3 q3
    clear t0 t1 t2 t3 t4 t5 f0 f1 f2 f3
    have t0 := (T3).cell 0
    have t1 := (T3).cell 1
    have t2 := (T3).cell 2
    have t3 := (T3).cell 3
    have t4 := (T3).cell 4
    have t5 := (T3).cell 5
    simp only [List.getElem?_toArray, List.getElem?_cons_zero, List.getElem?_cons_succ] at t0 t1 t2 t3 t4 t5
    have f0 := (F3).cell 0
    have f1 := (F3).cell 1
    have f2 := (F3).cell 2
    have f3 := (F3).cell 3
    simp only [List.getElem?_toArray, List.getElem?_cons_zero, List.getElem?_cons_succ] at f0 f1 f2 f3
    have z3 := T3.lt
    have y3 := F3.lt
    clear q0 q1
    go_wp2_with fail
    rw [rounds_succ]
    go_wp2_with fail
    refine (ask2_any l l.length c w.heap.size (w1.heap.size + 1) rfl A na nl ad true a _ (L3.alloc _) ((HR.out.below c3).alloc c3.size _) (Nat.le_trans c3.size (balloc (Below.refl _ _) _).size) (by omega)).mono ?_
    rintro e w4 ⟨rfl, b4⟩
    have p4 := bnext (balloc (Below.refl _ w3) _) b4
    have T4 := T3.below p4 T3.lt
    have F4 := F3.below p4 F3.lt
    have q4 := (Blk.new w3 157 #[.iface 29 (.int .i64 191), .func (.func 107) #[] #[.pointer (some ⟨w1.heap.size + 1, 0, none⟩)]]).below b4 (by simp)
    have q0 := (q4).cell 0
    have q1 := (q4).cell 1
    simp only [List.getElem?_toArray, List.getElem?_cons_zero, List.getElem?_cons_succ] at q0 q1
    have c4 := bnext c3 p4
    clear L3 T3 F3 c3 z3 y3 b4 p4 q4
    clear t0 t1 t2 t3 t4 t5 f0 f1 f2 f3
    have t0 := (T4).cell 0
    have t1 := (T4).cell 1
    have t2 := (T4).cell 2
    have t3 := (T4).cell 3
    have t4 := (T4).cell 4
    have t5 := (T4).cell 5
    simp only [List.getElem?_toArray, List.getElem?_cons_zero, List.getElem?_cons_succ] at t0 t1 t2 t3 t4 t5
    have f0 := (F4).cell 0
    have f1 := (F4).cell 1
    have f2 := (F4).cell 2
    have f3 := (F4).cell 3
    simp only [List.getElem?_toArray, List.getElem?_cons_zero, List.getElem?_cons_succ] at f0 f1 f2 f3
    have z4 := T4.lt
    have y4 := F4.lt
    rw [HOW.out]
    go_wp2_with (go_at_call 83; refine (errno_any _ _).mono ?_; rintro e w' ⟨rfl, rfl⟩)
    go_step3
    refine ⟨rfl, ?_⟩
    go_wp2
    rw [Exit.noGoto_ret]
    go_ret
    exact ⟨rfl, c4⟩
  case false =>
    rw [if_neg (by rw [how]; simp)] at HF
    have HOW := Lib.hid how
    clear how
    cases hin : (hasF (na, nl) a && !endF (na, nl) a)
    case false =>
      rw [show fromFE l i a = 192 by rw [HF.out]; exact if_neg (by show ¬ ((hasF (na, nl) a && !endF (na, nl) a) = true); rw [hin]; simp)]
      rw [hin] at H3
      simp only [Bool.not_false] at H3
      clear HF hin
      go_enter Tryz.func42, Tryz.ntmps42
      go_wp2_with fail
      refine scope_fwd 0 rfl ?_
      go_wp2_with fail
      refine HG.out.mono ?_
      rintro e w1 ⟨rfl, b1⟩
      have K := HH.out.blk.below b1 HH.out.blk.lt
      have d0 := K.cell 0
      simp only [List.getElem?_toArray, List.getElem?_cons_zero] at d0
      have gl := K.lt
      clear K
      go_wp2_with fail
      refine (asks_any A _ c (w1.heap.size + 1) _ (by simp)).mono ?_
      rintro e w2 ⟨rfl, L2, T2, b2⟩
      have F2 := (Blk.new w1 88 #[.int .u32 na, .int .i64 nl, .int .u32 ad, .bool true]).below b2 (by simp)
      have c2 := bnext (balloc b1 (.cells #[.int .u32 na, .int .i64 nl, .int .u32 ad, .bool true] 88)) b2
      unfold askC at T2
      have t0 := (T2).cell 0
      have t1 := (T2).cell 1
      have t2 := (T2).cell 2
      have t3 := (T2).cell 3
      have t4 := (T2).cell 4
      have t5 := (T2).cell 5
      simp only [List.getElem?_toArray, List.getElem?_cons_zero, List.getElem?_cons_succ] at t0 t1 t2 t3 t4 t5
      have f0 := (F2).cell 0
      have f1 := (F2).cell 1
      have f2 := (F2).cell 2
      have f3 := (F2).cell 3
      simp only [List.getElem?_toArray, List.getElem?_cons_zero, List.getElem?_cons_succ] at f0 f1 f2 f3
      have z2 := T2.lt
      have y2 := F2.lt
      clear d0 gl b1 b2
      go_wp2_with fail
      refine wp_loop_rounds 4 ?_
      rw [rounds_succ]
      go_wp2_with fail
      refine (H1.out _).mono ?_
      rintro e w3 ⟨rfl, b3⟩
      have p3 := bnext (balloc (Below.refl _ w2) _) b3
      have L3 := L2.below p3 L2.lt
      have T3 := T2.below p3 T2.lt
      have F3 := F2.below p3 F2.lt
      have q3 := (Blk.new w2 157 #[.iface 29 (.int .i64 190), .func (.func 106) #[] #[]]).below b3 (by simp)
      have q0 := (q3).cell 0
      have q1 := (q3).cell 1
      simp only [List.getElem?_toArray, List.getElem?_cons_zero, List.getElem?_cons_succ] at q0 q1
      have c3 := bnext c2 p3
      clear L2 T2 F2 c2 z2 y2 b3 p3 q3
      clear t0 t1 t2 t3 t4 t5 f0 f1 f2 f3
      have t0 := (T3).cell 0
      have t1 := (T3).cell 1
      have t2 := (T3).cell 2
      have t3 := (T3).cell 3
      have t4 := (T3).cell 4
      have t5 := (T3).cell 5
      simp only [List.getElem?_toArray, List.getElem?_cons_zero, List.getElem?_cons_succ] at t0 t1 t2 t3 t4 t5
      have f0 := (F3).cell 0
      have f1 := (F3).cell 1
      have f2 := (F3).cell 2
      have f3 := (F3).cell 3
      simp only [List.getElem?_toArray, List.getElem?_cons_zero, List.getElem?_cons_succ] at f0 f1 f2 f3
      have z3 := T3.lt
      have y3 := F3.lt
      clear q0 q1
      go_wp2_with fail
      rw [rounds_succ]
      go_wp2_with fail
      refine (ask2_any l l.length c w.heap.size (w1.heap.size + 1) rfl A na nl ad true a _ (L3.alloc _) ((HR.out.below c3).alloc c3.size _) (Nat.le_trans c3.size (balloc (Below.refl _ _) _).size) (by omega)).mono ?_
      rintro e w4 ⟨rfl, b4⟩
      have p4 := bnext (balloc (Below.refl _ w3) _) b4
      have T4 := T3.below p4 T3.lt
      have F4 := F3.below p4 F3.lt
      have q4 := (Blk.new w3 157 #[.iface 29 (.int .i64 191), .func (.func 107) #[] #[.pointer (some ⟨w1.heap.size + 1, 0, none⟩)]]).below b4 (by simp)
      have q0 := (q4).cell 0
      have q1 := (q4).cell 1
      simp only [List.getElem?_toArray, List.getElem?_cons_zero, List.getElem?_cons_succ] at q0 q1
      have c4 := bnext c3 p4
      clear L3 T3 F3 c3 z3 y3 b4 p4 q4
      clear t0 t1 t2 t3 t4 t5 f0 f1 f2 f3
      have t0 := (T4).cell 0
      have t1 := (T4).cell 1
      have t2 := (T4).cell 2
      have t3 := (T4).cell 3
      have t4 := (T4).cell 4
      have t5 := (T4).cell 5
      simp only [List.getElem?_toArray, List.getElem?_cons_zero, List.getElem?_cons_succ] at t0 t1 t2 t3 t4 t5
      have f0 := (F4).cell 0
      have f1 := (F4).cell 1
      have f2 := (F4).cell 2
      have f3 := (F4).cell 3
      simp only [List.getElem?_toArray, List.getElem?_cons_zero, List.getElem?_cons_succ] at f0 f1 f2 f3
      have z4 := T4.lt
      have y4 := F4.lt
      rw [HOW.out]
      clear q0 q1
      go_wp2_with fail
      rw [rounds_succ]
      go_wp2_with fail
      refine (H3.out _).mono ?_
      rintro e w5 ⟨rfl, b5⟩
      have p5 := bnext (balloc (Below.refl _ w4) _) b5
      have T5 := T4.below p5 T4.lt
      have q5 := (Blk.new w4 157 #[.iface 29 (.int .i64 192), .func (.func 109) #[] #[]]).below b5 (by simp)
      have q0 := (q5).cell 0
      have q1 := (q5).cell 1
      simp only [List.getElem?_toArray, List.getElem?_cons_zero, List.getElem?_cons_succ] at q0 q1
      have c5 := bnext c4 p5
      clear T4 F4 c4 z4 y4 b5 p5 q5
      clear t0 t1 t2 t3 t4 t5 f0 f1 f2 f3
      go_wp2_with (go_at_call 83; refine (errno_any _ _).mono ?_; rintro e w' ⟨rfl, rfl⟩)
      go_step3
      refine ⟨rfl, ?_⟩
      go_wp2
      rw [Exit.noGoto_ret]
      go_ret
      exact ⟨rfl, c5⟩
    case true =>
      rw [show fromFE l i a = 0 by rw [HF.out]; exact if_pos hin]
      rw [hin] at H3
      simp only [Bool.not_true] at H3
      clear HF hin
      go_enter Tryz.func42, Tryz.ntmps42
      go_wp2_with fail
      refine scope_fwd 0 rfl ?_
      go_wp2_with fail
      refine HG.out.mono ?_
      rintro e w1 ⟨rfl, b1⟩
      have K := HH.out.blk.below b1 HH.out.blk.lt
      have d0 := K.cell 0
      simp only [List.getElem?_toArray, List.getElem?_cons_zero] at d0
      have gl := K.lt
      clear K
      go_wp2_with fail
      refine (asks_any A _ c (w1.heap.size + 1) _ (by simp)).mono ?_
      rintro e w2 ⟨rfl, L2, T2, b2⟩
      have F2 := (Blk.new w1 88 #[.int .u32 na, .int .i64 nl, .int .u32 ad, .bool true]).below b2 (by simp)
      have c2 := bnext (balloc b1 (.cells #[.int .u32 na, .int .i64 nl, .int .u32 ad, .bool true] 88)) b2
      unfold askC at T2
      have t0 := (T2).cell 0
      have t1 := (T2).cell 1
      have t2 := (T2).cell 2
      have t3 := (T2).cell 3
      have t4 := (T2).cell 4
      have t5 := (T2).cell 5
      simp only [List.getElem?_toArray, List.getElem?_cons_zero, List.getElem?_cons_succ] at t0 t1 t2 t3 t4 t5
      have f0 := (F2).cell 0
      have f1 := (F2).cell 1
      have f2 := (F2).cell 2
      have f3 := (F2).cell 3
      simp only [List.getElem?_toArray, List.getElem?_cons_zero, List.getElem?_cons_succ] at f0 f1 f2 f3
      have z2 := T2.lt
      have y2 := F2.lt
      clear d0 gl b1 b2
      go_wp2_with fail
      refine wp_loop_rounds 4 ?_
      rw [rounds_succ]
      go_wp2_with fail
      refine (H1.out _).mono ?_
      rintro e w3 ⟨rfl, b3⟩
      have p3 := bnext (balloc (Below.refl _ w2) _) b3
      have L3 := L2.below p3 L2.lt
      have T3 := T2.below p3 T2.lt
      have F3 := F2.below p3 F2.lt
      have q3 := (Blk.new w2 157 #[.iface 29 (.int .i64 190), .func (.func 106) #[] #[]]).below b3 (by simp)
      have q0 := (q3).cell 0
      have q1 := (q3).cell 1
      simp only [List.getElem?_toArray, List.getElem?_cons_zero, List.getElem?_cons_succ] at q0 q1
      have c3 := bnext c2 p3
      clear L2 T2 F2 c2 z2 y2 b3 p3 q3
      clear t0 t1 t2 t3 t4 t5 f0 f1 f2 f3
      have t0 := (T3).cell 0
      have t1 := (T3).cell 1
      have t2 := (T3).cell 2
      have t3 := (T3).cell 3
      have t4 := (T3).cell 4
      have t5 := (T3).cell 5
      simp only [List.getElem?_toArray, List.getElem?_cons_zero, List.getElem?_cons_succ] at t0 t1 t2 t3 t4 t5
      have f0 := (F3).cell 0
      have f1 := (F3).cell 1
      have f2 := (F3).cell 2
      have f3 := (F3).cell 3
      simp only [List.getElem?_toArray, List.getElem?_cons_zero, List.getElem?_cons_succ] at f0 f1 f2 f3
      have z3 := T3.lt
      have y3 := F3.lt
      clear q0 q1
      go_wp2_with fail
      rw [rounds_succ]
      go_wp2_with fail
      refine (ask2_any l l.length c w.heap.size (w1.heap.size + 1) rfl A na nl ad true a _ (L3.alloc _) ((HR.out.below c3).alloc c3.size _) (Nat.le_trans c3.size (balloc (Below.refl _ _) _).size) (by omega)).mono ?_
      rintro e w4 ⟨rfl, b4⟩
      have p4 := bnext (balloc (Below.refl _ w3) _) b4
      have T4 := T3.below p4 T3.lt
      have F4 := F3.below p4 F3.lt
      have q4 := (Blk.new w3 157 #[.iface 29 (.int .i64 191), .func (.func 107) #[] #[.pointer (some ⟨w1.heap.size + 1, 0, none⟩)]]).below b4 (by simp)
      have q0 := (q4).cell 0
      have q1 := (q4).cell 1
      simp only [List.getElem?_toArray, List.getElem?_cons_zero, List.getElem?_cons_succ] at q0 q1
      have c4 := bnext c3 p4
      clear L3 T3 F3 c3 z3 y3 b4 p4 q4
      clear t0 t1 t2 t3 t4 t5 f0 f1 f2 f3
      have t0 := (T4).cell 0
      have t1 := (T4).cell 1
      have t2 := (T4).cell 2
      have t3 := (T4).cell 3
      have t4 := (T4).cell 4
      have t5 := (T4).cell 5
      simp only [List.getElem?_toArray, List.getElem?_cons_zero, List.getElem?_cons_succ] at t0 t1 t2 t3 t4 t5
      have f0 := (F4).cell 0
      have f1 := (F4).cell 1
      have f2 := (F4).cell 2
      have f3 := (F4).cell 3
      simp only [List.getElem?_toArray, List.getElem?_cons_zero, List.getElem?_cons_succ] at f0 f1 f2 f3
      have z4 := T4.lt
      have y4 := F4.lt
      rw [HOW.out]
      clear q0 q1
      go_wp2_with fail
      rw [rounds_succ]
      go_wp2_with fail
      refine (H3.out _).mono ?_
      rintro e w5 ⟨rfl, b5⟩
      have p5 := bnext (balloc (Below.refl _ w4) _) b5
      have T5 := T4.below p5 T4.lt
      have q5 := (Blk.new w4 157 #[.iface 29 (.int .i64 192), .func (.func 109) #[] #[]]).below b5 (by simp)
      have q0 := (q5).cell 0
      have q1 := (q5).cell 1
      simp only [List.getElem?_toArray, List.getElem?_cons_zero, List.getElem?_cons_succ] at q0 q1
      have c5 := bnext c4 p5
      clear T4 F4 c4 z4 y4 b5 p5 q5
      clear t0 t1 t2 t3 t4 t5 f0 f1 f2 f3
      clear q0 q1
      go_wp2_with fail
      rw [rounds_succ]
      go_wp2_with fail
      rw [jump_ret]
      go_ret
      exact ⟨rfl, c5⟩
end Go.Proofs.YtlanfceilajifaaGreatDoor
/- face: Same; the document's Same, Own, To, From, Set. -/
namespace Go.Proofs.YtlanfceilajifaaGreatDoor
set_option linter.unusedVariables false
set_option linter.unusedSimpArgs false
open Go.RowKit
set_option maxRecDepth 100000
theorem eq_fc (a n d a' n' d' : Int) (u u' : Bool) (w : World) : (binOp .eql 88 (.agg #[.int .u32 a, .int .i64 n, .int .u32 d, .bool u]) (.agg #[.int .u32 a', .int .i64 n', .int .u32 d', .bool u'])).run Tryz.prog w = .ok (.bool (a == a' && n == n' && d == d' && u == u')) w := by
  have h1 : Tryz.prog.underlying 88 = some (.struct (Tryz.prog.fieldsOf 88)) := by simp [Program.fieldsOf, Tryz.underlying88]
  have h2 := run_equalIn_struct (P := Tryz.prog) w 9999 88 #[.int .u32 a, .int .i64 n, .int .u32 d, .bool u] #[.int .u32 a', .int .i64 n', .int .u32 d', .bool u'] h1 (by kernel_rfl)
  simp only [binOp]
  simp only [Op.equal, Op.maxDepth, Sem.run_bind, h2]
  by_cases e1 : a = a' <;> simp [go_sem, e1]
  by_cases e2 : n = n' <;> simp [go_sem, e2]
  by_cases e3 : d = d' <;> simp [go_sem, e3]
  by_cases e4 : u = u' <;> simp [go_sem, e4]
theorem ne_fc (a n d a' n' d' : Int) (u u' : Bool) (w : World) : (binOp .neq 88 (.agg #[.int .u32 a, .int .i64 n, .int .u32 d, .bool u]) (.agg #[.int .u32 a', .int .i64 n', .int .u32 d', .bool u'])).run Tryz.prog w = .ok (.bool (!(a == a' && n == n' && d == d' && u == u'))) w := by
  have h1 : Tryz.prog.underlying 88 = some (.struct (Tryz.prog.fieldsOf 88)) := by simp [Program.fieldsOf, Tryz.underlying88]
  have h2 := run_equalIn_struct (P := Tryz.prog) w 9999 88 #[.int .u32 a, .int .i64 n, .int .u32 d, .bool u] #[.int .u32 a', .int .i64 n', .int .u32 d', .bool u'] h1 (by kernel_rfl)
  simp only [binOp]
  simp only [Op.equal, Op.maxDepth, Sem.run_bind, h2]
  by_cases e1 : a = a' <;> simp [go_sem, e1]
  by_cases e2 : n = n' <;> simp [go_sem, e2]
  by_cases e3 : d = d' <;> simp [go_sem, e3]
  by_cases e4 : u = u' <;> simp [go_sem, e4]
theorem own_form {w : World} {base e size n : Nat} {v : Value} {xs : List Value} (h : w.ownsRow base e size v n xs) (hn : 1 ≤ n) : ∃ g cap, v = .slice (some ⟨g, 0, none⟩) n cap ∧ base ≤ g := by
  rcases h.2 with ⟨_, h0⟩ | ⟨g, cap, cur, rfl, hg, _⟩
  · omega
  · exact ⟨g, cap, rfl, hg⟩
theorem fcC_up {l : List Fc} {k : Nat} {x : Fc} (hx : l[k]? = some x) : (fcC l)[k * 4 + 3]? = some (.bool x.up) := by
  have := rows_get fcL_len l k x 3 hx (by omega)
  exact this
theorem fc_beq (x y : Fc) : ((x.na : Int) == (y.na : Int) && x.nl == y.nl && (x.ad : Int) == (y.ad : Int) && x.up == y.up) = decide (x = y) := by
  obtain ⟨a, n, d, u⟩ := x
  obtain ⟨a', n', d', u'⟩ := y
  simp only [Fc.mk.injEq]
  by_cases h : a = a' ∧ n = n' ∧ d = d' ∧ u = u'
  · rw [decide_eq_true h]
    obtain ⟨rfl, rfl, rfl, rfl⟩ := h
    simp
  · rw [decide_eq_false h, Bool.eq_false_iff]
    intro hc
    simp at hc
    exact h ⟨by omega, hc.1.1.2, by omega, hc.2⟩

set_option maxHeartbeats 1000000 in
theorem refOwn9_any (l : List Fc) (n c B : Nat) (A : Option Addr) (a : Nat) (w : World) (hn : l.length = n) (hr : Rd w B A (fcC l)) (hc : n ≤ c ∧ c ≤ 9223372036854775807) :
    Calls Tryz.prog 89 #[.slice A n c, .int .u32 a] w fun e w' => e = .returned (.bool (ownB l a)) ∧ Below w.heap.size w w' := by
  have HN := Lib.hid hn
  have HR := Lib.hid hr
  clear hn hr
  go_enter Tryz.func89, Tryz.ntmps89
  go_wp2
  go_loop [5] (fun i => ∃ j : Nat, j ≤ n ∧ i = .int .i64 j ∧ ownB (l.take j) a = false) (fun i => n - (intOf i).toNat)
  case atStart => exact ⟨0, Nat.zero_le _, rfl, by simp [ownB]⟩
  case round =>
    obtain ⟨j, hj, rfl, hno⟩ := hrel
    have HNO := Lib.hid hno
    clear hno
    by_cases hlt : j < n
    · obtain ⟨x, hx⟩ : ∃ x, l[j]? = some x := ⟨l[j]'(by rw [HN.out]; exact hlt), List.getElem?_eq_getElem _⟩
      obtain ⟨b, off, rfl, _, q0, q1, q2, q3⟩ := fc_at HR.out hx
      have HX := Lib.hid hx
      clear hx q0 q1 q3
      by_cases he : x.ad = a
      · have hc : ((x.ad : Int) == (a : Int)) = true := by rw [he]; simp
        have HT := Lib.hid (show ownB l a = true from List.any_eq_true.2 ⟨x, List.mem_of_getElem? HX.out, decide_eq_true he⟩)
        clear he
        go_wp2
        go_ret
        rw [HT.out]
        exact ⟨rfl, Below.refl _ _⟩
      · have hc : ((x.ad : Int) == (a : Int)) = false := by rw [beq_eq_false_iff_ne]; omega
        have HS := Lib.hid (show ownB (l.take (j + 1)) a = false by
          have h := HNO.out
          unfold ownB at h ⊢
          rw [List.take_add_one, HX.out]
          simp [h, he])
        clear he
        go_wp2
        go_round
        case rel => exact ⟨j + 1, by omega, by go_num, HS.out⟩
        case measure => simp [intOf]; omega
    · obtain rfl : j = n := by omega
      have HF := Lib.hid (show ownB l a = false by have := HNO.out; rwa [List.take_of_length_le (by rw [HN.out]; exact Nat.le_refl _)] at this)
      go_wp2
      go_ret
      rw [HF.out]
      exact ⟨rfl, Below.refl _ _⟩

set_option maxHeartbeats 2000000 in
theorem refFrom9_any (l : List Fc) (n c B : Nat) (A : Option Addr) (i : Int) (a : Nat) (w : World) (hL : Ls w B A n c l) (hB : B ≤ w.heap.size) (ha : a < 4294967296) :
    Calls Tryz.prog 44 #[.slice A n c, .int .i64 i, .int .u32 a] w fun e w' => e = .returned (.int .i64 (fromFE l i a)) ∧ Below w.heap.size w w' := by
  have HL := Lib.hid hL
  have hc := hL.cap
  by_cases h0 : i < 0
  · rw [show fromFE l i a = 4 by unfold fromFE; rw [if_pos (by omega)]]
    have g0 : decide (i < 0) = true := decide_eq_true h0
    clear h0 hL
    go_enter Tryz.func44, Tryz.ntmps44
    go_wp2
    go_ret
    exact ⟨rfl, Below.refl _ _⟩
  have g0 : decide (i < 0) = false := decide_eq_false h0
  by_cases h1 : (n : Int) ≤ i
  · rw [show fromFE l i a = 4 by unfold fromFE; rw [if_pos (by rw [HL.out.len]; omega)]]
    have g1 : decide ((n : Int) ≤ i) = true := decide_eq_true h1
    clear h0 h1 hL
    go_enter Tryz.func44, Tryz.ntmps44
    go_wp2
    go_ret
    exact ⟨rfl, Below.refl _ _⟩
  have g1 : decide ((n : Int) ≤ i) = false := decide_eq_false h1
  have hi : 0 ≤ i ∧ i < (l.length : Int) := by rw [HL.out.len]; omega
  have hfe : fromFE l i a = if (getF l i).up = false then 190 else if ownB l a then 191 else if hasF (getF l i).net a && !endF (getF l i).net a then 0 else 192 := by unfold fromFE; rw [if_neg (by simpa using hi)]
  obtain ⟨k, rfl⟩ := Int.eq_ofNat_of_zero_le hi.1
  have hk : k < l.length := by omega
  have hx : l[k]? = some (getF l (k : Int)) := by unfold getF; rw [if_pos hi, Int.toNat_natCast, List.getD, List.getElem?_eq_getElem hk]; rfl
  have hfit := HL.out.fit _ (List.mem_of_getElem? hx)
  obtain ⟨b, off, rfl, _, q0, q1, q2, q3⟩ := fc_at HL.out.rd hx
  have HO := Lib.hid (fun W hW => refOwn9_any l n c B (some ⟨b, off, none⟩) a W HL.out.len (HL.out.rd.below hW) HL.out.cap)
  have hbl := cell_lt q0
  generalize getF l (k : Int) = x at *
  obtain ⟨na, nl, ad, up⟩ := x
  have HI := Lib.hid (fun W => inside_any na nl a W hfit.1 ha)
  have HF := Lib.hid hfe
  simp only at HF q0 q1 q2 q3
  have hk1 : (k : Int) < (n : Int) := by omega
  have hk0 : (0 : Int) ≤ (k : Int) := by omega
  clear hfe hx hfit hk hi h0 h1 hL
  cases hup : up
  · subst hup
    rw [HF.out, if_pos rfl]
    clear HF
    go_enter Tryz.func44, Tryz.ntmps44
    go_wp2
    go_ret
    exact ⟨rfl, Below.refl _ _⟩
  subst hup
  rw [if_neg (by simp)] at HF
  have HOW := Lib.hid (HO.out w (Below.refl _ _))
  cases how : ownB l a
  case true =>
    rw [HF.out, if_pos how]
    rw [how] at HOW
    clear HF how
    go_enter Tryz.func44, Tryz.ntmps44
    go_wp2_with fail
    refine HOW.out.mono ?_
    rintro e w1 ⟨rfl, b1⟩
    go_wp2_with fail
    go_ret
    exact ⟨rfl, b1⟩
  case false =>
    rw [if_neg (by rw [how]; simp)] at HF
    rw [how] at HOW
    clear how
    cases hin : (hasF (na, nl) a && !endF (na, nl) a)
    case' false => rw [show fromFE l k a = 192 by rw [HF.out]; exact if_neg (by show ¬ ((hasF (na, nl) a && !endF (na, nl) a) = true); rw [hin]; simp)]
    case' true => rw [show fromFE l k a = 0 by rw [HF.out]; exact if_pos hin]
    all_goals
      rw [hin] at HI
      clear HF hin
      go_enter Tryz.func44, Tryz.ntmps44
      go_wp2_with fail
      refine HOW.out.mono ?_
      rintro e w1 ⟨rfl, b1⟩
      have r0 := (b1.cell hbl).trans q0
      have r1 := (b1.cell (p := ⟨b, off + k * 4 + 1, none⟩) hbl).trans q1
      go_wp2_with fail
      refine (HI.out _).mono ?_
      rintro e w2 ⟨rfl, b2⟩
      go_wp2_with fail
      go_ret
      exact ⟨rfl, bnext b1 b2⟩

end Go.Proofs.YtlanfceilajifaaGreatDoor
