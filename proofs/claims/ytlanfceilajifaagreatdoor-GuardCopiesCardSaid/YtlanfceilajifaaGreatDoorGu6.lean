/- guard: sift; what a response tells. -/
import Derived.Test.YtlanfceilajifaaGreatDoorGu5
import Derived.Test.YtlanfceilajifaaGreatDoorMB
import Derived.Test.YtlanfceilajifaaGreatDoorMD
namespace Go.Proofs.YtlanfceilajifaaGreatDoor
set_option linter.unusedVariables false
set_option linter.unusedSimpArgs false
open Go.RowKit
set_option maxRecDepth 100000

set_option maxHeartbeats 4000000 in
theorem sift_tells (cm : Int) (l : List Er) (n c : Nat) (hn : l.length = n) (A : Option Addr) (cT cL : Value) (fT fL : FuncId) (I : Nat → World → Prop) (w : World) (hn3 : n ≤ 1000)
    (hf : ∀ e ∈ l, fitR e)
    (heT : ∀ args w, (callFunc fT args).run Tryz.prog w = .ok (.enter fT args) w)
    (heL : ∀ args w, (callFunc fL args).run Tryz.prog w = .ok (.enter fL args) w)
    (hI : ∀ i W W', I i W → Below W.heap.size W W' → I i W')
    (hR : ∀ i W, I i W → Rd W W.heap.size A (erC l))
    (hT : ∀ i x W, l[i]? = some x → whyE x = 0 → I i W → Calls Tryz.prog fT #[.agg #[.int .u32 x.a, .int .i64 (lenF x.m).1, .int .i64 x.k], cT] W fun e w' => e = .returned (.tuple #[]) ∧ I (i + 1) w')
    (hL : ∀ i x W, l[i]? = some x → whyE x ≠ 0 → I i W → Calls Tryz.prog fL #[.int .i64 i, .int .i64 (whyE x), cL] W fun e w' => e = .returned (.tuple #[]) ∧ I (i + 1) w')
    (h0 : I 0 w) :
    Calls Tryz.prog 47 #[.agg #[.int .i64 cm, .slice A n c], .func (.func fT) #[] #[cT], .func (.func fL) #[] #[cL]] w fun e w' => e = .returned (.tuple #[]) ∧ I (if cm = 2 then n else 0) w' := by
  have HN := Lib.hid hn
  have HF := Lib.hid hf
  have HI := Lib.hid hI
  have HR := Lib.hid hR
  have HT := Lib.hid hT
  have HL := Lib.hid hL
  have hI0 := hI 0 w _ h0 (balloc (Below.refl _ _) (.cells #[.int .i64 cm, .slice A n c] 35))
  have HI0 := Lib.hid hI0
  clear hn hf hI hR hT hL h0 hI0
  by_cases h2 : cm = 2
  case neg =>
    have d1 : (cm != 2) = true := by simpa using h2
    rw [if_neg h2]
    clear h2
    go_enter Tryz.func47, Tryz.ntmps47
    go_wp2_with fail
    try simp only [Exit.inBlock, Exit.then]
    refine bodyPost_ret (results_none rfl _ _ _) rfl ?_
    exact ⟨rfl, HI0.out⟩
  subst h2
  rw [if_pos rfl]
  go_enter Tryz.func47, Tryz.ntmps47
  go_wp2_with fail
  generalize w.alloc (.cells #[.int .i64 2, .slice A n c] 35) = w0 at *
  go_loopw [17] (fun i wr => ∃ j : Nat, j ≤ n ∧ i = .int .i64 j ∧ Hid (I j wr)) (fun i _ => n - (intOf i).toNat)
  case atStart => exact ⟨0, Nat.zero_le _, rfl, HI0⟩
  case round =>
    obtain ⟨j, hj, rfl, HJ⟩ := hrel
    by_cases hlt : j < n
    case neg =>
      obtain rfl : j = n := by omega
      go_wp2_with fail
      go_end0
      exact ⟨rfl, HJ.out⟩
    case pos =>
    obtain ⟨x, hx⟩ : ∃ x, l[j]? = some x := ⟨l[j]'(by rw [HN.out]; exact hlt), List.getElem?_eq_getElem _⟩
    obtain ⟨b, off, hA, hbb, q0, q1, q2, q3, q4, q5⟩ := er_at (HR.out j wr HJ.out) hx
    subst hA
    obtain ⟨g1, g2, g3, g4⟩ := HF.out x (List.mem_of_getElem? hx)
    have hj3 : (0 : Int) ≤ (j : Int) := by omega
    have hj4 : (j : Int) < (n : Int) := by omega
    have hwj : IntKind.i64.wrap ((j : Int) + 1) = (j : Int) + 1 := IntWalk.i64_in _ ⟨by omega, by omega⟩
    have ye := Blk.new wr 57 #[.int .i64 x.f, .int .i64 x.t, .int .u32 x.a, .int .u32 x.m, .int .u32 x.x, .int .u32 x.k]
    have BB : Below wr.heap.size wr (wr.alloc (.cells #[.int .i64 x.f, .int .i64 x.t, .int .u32 x.a, .int .u32 x.m, .int .u32 x.x, .int .u32 x.k] 57)) := balloc (Below.refl _ _) _
    have HW := Lib.hid (fun W => why_any x.f x.t x.a x.m x.x x.k W g1 g2 g3 g4)
    have HP := Lib.hid (fun W => prefix_any x.f x.t x.a x.m x.x x.k W g1 g2 g3 g4)
    have HTX := Lib.hid (fun W => HT.out j x W hx)
    have HLX := Lib.hid (fun W => HL.out j x W hx)
    have hwk : IntKind.i64.wrap (x.k : Int) = x.k := IntWalk.i64_in _ ⟨by omega, by omega⟩
    have Y := Lib.hid (And.intro ye BB)
    clear ye BB hx g1 g2 g3 g4
    by_cases hw : whyE x = 0
    case neg =>
      have hw0 : whyF x.f x.a x.m x.x x.k = whyE x := rfl
      rw [hw0] at HW
      generalize whyE x = y at *
      have d1 : ((y : Int) != 0) = true := by simp; omega
      have HY := Lib.hid hw
      clear hw hw0 HP HTX
      go_wp2_with fail
      refine (HW.out _).mono ?_
      rintro e w1 ⟨rfl, b1⟩
      have HC := Lib.hid (HLX.out w1 HY.out (HI.out _ _ _ HJ.out (bnext Y.out.2 b1)))
      have hent := fun W => heL #[.int .i64 j, .int .i64 y, cL] W
      clear b1 q0 q1 q2 q3 q4 q5
      go_wp2_with fail
      refine HC.out.mono ?_
      rintro e w2 ⟨rfl, h2⟩
      have H2 := Lib.hid h2
      clear h2
      go_wp2_with fail
      go_roundw
      case rel => exact ⟨j + 1, by omega, by go_num, H2⟩
      case measure => simp [intOf]; omega
    case pos =>
      have hpf := pref_yes hw
      have HPF := Lib.hid hpf
      have HY := Lib.hid hw
      rw [show whyF x.f x.a x.m x.x x.k = 0 from hw] at HW
      rw [hpf] at HP
      clear hw hpf HLX
      generalize (lenF x.m).1 = lm at *
      go_wp2_with fail
      refine (HW.out _).mono ?_
      rintro e w1 ⟨rfl, b1⟩
      obtain ⟨ye, BB⟩ := Y.out
      replace ye := ye.below b1 ye.lt
      replace BB := bnext BB b1
      have d0 := (ye).cell 0
      have d1 := (ye).cell 1
      have d2 := (ye).cell 2
      have d3 := (ye).cell 3
      have d4 := (ye).cell 4
      have d5 := (ye).cell 5
      simp only [List.getElem?_toArray, List.getElem?_cons_zero, List.getElem?_cons_succ] at d0 d1 d2 d3 d4 d5
      have Y2 := Lib.hid (And.intro ye BB)
      clear ye BB b1 q0 q1 q2 q3 q4 q5
      go_wp2_with fail
      refine (HP.out _).mono ?_
      rintro e w2 ⟨rfl, b2⟩
      obtain ⟨ye, BB⟩ := Y2.out
      clear d0 d1 d2 d3 d4 d5
      replace ye := (ye.below b2 ye.lt).alloc (.cells #[.int .u32 x.a, .int .i64 lm] 86)
      have yp := Blk.new w2 86 #[.int .u32 x.a, .int .i64 lm]
      replace BB := balloc (bnext BB b2) (.cells #[.int .u32 x.a, .int .i64 lm] 86)
      have HC := Lib.hid (HTX.out _ HY.out (HI.out _ _ _ HJ.out BB))
      have d0 := (ye).cell 0
      have d1 := (ye).cell 1
      have d2 := (ye).cell 2
      have d3 := (ye).cell 3
      have d4 := (ye).cell 4
      have d5 := (ye).cell 5
      simp only [List.getElem?_toArray, List.getElem?_cons_zero, List.getElem?_cons_succ] at d0 d1 d2 d3 d4 d5
      have p0 := (yp).cell 0
      have p1 := (yp).cell 1
      simp only [List.getElem?_toArray, List.getElem?_cons_zero, List.getElem?_cons_succ] at p0 p1
      have hent := fun W => heT #[.agg #[.int .u32 x.a, .int .i64 lm, .int .i64 x.k], cT] W
      clear ye yp b2 BB
      go_wp2_with fail
      refine HC.out.mono ?_
      rintro e w3 ⟨rfl, h3⟩
      have H3 := Lib.hid h3
      clear h3
      go_wp2_with fail
      go_roundw
      case rel => exact ⟨j + 1, by omega, by go_num, H3⟩
      case measure => simp [intOf]; omega

set_option maxHeartbeats 4000000 in
theorem sift_left (cm : Int) (l : List Er) (n c : Nat) (hn : l.length = n) (A : Option Addr) (cL : Value) (fT fL : FuncId) (I : Nat → World → Prop) (w : World) (hn3 : n ≤ 1000)
    (hf : ∀ e ∈ l, fitR e)
    (heT : ∀ args w, (callFunc fT args).run Tryz.prog w = .ok (.enter fT args) w)
    (heL : ∀ args w, (callFunc fL args).run Tryz.prog w = .ok (.enter fL args) w)
    (hI : ∀ i W W', I i W → Below W.heap.size W W' → I i W')
    (hR : ∀ i W, I i W → Rd W W.heap.size A (erC l))
    (hT : ∀ i x W, l[i]? = some x → whyE x = 0 → I i W → Calls Tryz.prog fT #[.agg #[.int .u32 x.a, .int .i64 (lenF x.m).1, .int .i64 x.k]] W fun e w' => e = .returned (.tuple #[]) ∧ I (i + 1) w')
    (hL : ∀ i x W, l[i]? = some x → whyE x ≠ 0 → I i W → Calls Tryz.prog fL #[.int .i64 i, .int .i64 (whyE x), cL] W fun e w' => e = .returned (.tuple #[]) ∧ I (i + 1) w')
    (h0 : I 0 w) :
    Calls Tryz.prog 47 #[.agg #[.int .i64 cm, .slice A n c], .func (.func fT) #[] #[], .func (.func fL) #[] #[cL]] w fun e w' => e = .returned (.tuple #[]) ∧ I (if cm = 2 then n else 0) w' := by
  have HN := Lib.hid hn
  have HF := Lib.hid hf
  have HI := Lib.hid hI
  have HR := Lib.hid hR
  have HT := Lib.hid hT
  have HL := Lib.hid hL
  have hI0 := hI 0 w _ h0 (balloc (Below.refl _ _) (.cells #[.int .i64 cm, .slice A n c] 35))
  have HI0 := Lib.hid hI0
  clear hn hf hI hR hT hL h0 hI0
  by_cases h2 : cm = 2
  case neg =>
    have d1 : (cm != 2) = true := by simpa using h2
    rw [if_neg h2]
    clear h2
    go_enter Tryz.func47, Tryz.ntmps47
    go_wp2_with fail
    try simp only [Exit.inBlock, Exit.then]
    refine bodyPost_ret (results_none rfl _ _ _) rfl ?_
    exact ⟨rfl, HI0.out⟩
  subst h2
  rw [if_pos rfl]
  go_enter Tryz.func47, Tryz.ntmps47
  go_wp2_with fail
  generalize w.alloc (.cells #[.int .i64 2, .slice A n c] 35) = w0 at *
  go_loopw [17] (fun i wr => ∃ j : Nat, j ≤ n ∧ i = .int .i64 j ∧ Hid (I j wr)) (fun i _ => n - (intOf i).toNat)
  case atStart => exact ⟨0, Nat.zero_le _, rfl, HI0⟩
  case round =>
    obtain ⟨j, hj, rfl, HJ⟩ := hrel
    by_cases hlt : j < n
    case neg =>
      obtain rfl : j = n := by omega
      go_wp2_with fail
      go_end0
      exact ⟨rfl, HJ.out⟩
    case pos =>
    obtain ⟨x, hx⟩ : ∃ x, l[j]? = some x := ⟨l[j]'(by rw [HN.out]; exact hlt), List.getElem?_eq_getElem _⟩
    obtain ⟨b, off, hA, hbb, q0, q1, q2, q3, q4, q5⟩ := er_at (HR.out j wr HJ.out) hx
    subst hA
    obtain ⟨g1, g2, g3, g4⟩ := HF.out x (List.mem_of_getElem? hx)
    have hj3 : (0 : Int) ≤ (j : Int) := by omega
    have hj4 : (j : Int) < (n : Int) := by omega
    have hwj : IntKind.i64.wrap ((j : Int) + 1) = (j : Int) + 1 := IntWalk.i64_in _ ⟨by omega, by omega⟩
    have ye := Blk.new wr 57 #[.int .i64 x.f, .int .i64 x.t, .int .u32 x.a, .int .u32 x.m, .int .u32 x.x, .int .u32 x.k]
    have BB : Below wr.heap.size wr (wr.alloc (.cells #[.int .i64 x.f, .int .i64 x.t, .int .u32 x.a, .int .u32 x.m, .int .u32 x.x, .int .u32 x.k] 57)) := balloc (Below.refl _ _) _
    have HW := Lib.hid (fun W => why_any x.f x.t x.a x.m x.x x.k W g1 g2 g3 g4)
    have HP := Lib.hid (fun W => prefix_any x.f x.t x.a x.m x.x x.k W g1 g2 g3 g4)
    have HTX := Lib.hid (fun W => HT.out j x W hx)
    have HLX := Lib.hid (fun W => HL.out j x W hx)
    have hwk : IntKind.i64.wrap (x.k : Int) = x.k := IntWalk.i64_in _ ⟨by omega, by omega⟩
    have Y := Lib.hid (And.intro ye BB)
    clear ye BB hx g1 g2 g3 g4
    by_cases hw : whyE x = 0
    case neg =>
      have hw0 : whyF x.f x.a x.m x.x x.k = whyE x := rfl
      rw [hw0] at HW
      generalize whyE x = y at *
      have d1 : ((y : Int) != 0) = true := by simp; omega
      have HY := Lib.hid hw
      clear hw hw0 HP HTX
      go_wp2_with fail
      refine (HW.out _).mono ?_
      rintro e w1 ⟨rfl, b1⟩
      have HC := Lib.hid (HLX.out w1 HY.out (HI.out _ _ _ HJ.out (bnext Y.out.2 b1)))
      have hent := fun W => heL #[.int .i64 j, .int .i64 y, cL] W
      clear b1 q0 q1 q2 q3 q4 q5
      go_wp2_with fail
      refine HC.out.mono ?_
      rintro e w2 ⟨rfl, h2⟩
      have H2 := Lib.hid h2
      clear h2
      go_wp2_with fail
      go_roundw
      case rel => exact ⟨j + 1, by omega, by go_num, H2⟩
      case measure => simp [intOf]; omega
    case pos =>
      have hpf := pref_yes hw
      have HPF := Lib.hid hpf
      have HY := Lib.hid hw
      rw [show whyF x.f x.a x.m x.x x.k = 0 from hw] at HW
      rw [hpf] at HP
      clear hw hpf HLX
      generalize (lenF x.m).1 = lm at *
      go_wp2_with fail
      refine (HW.out _).mono ?_
      rintro e w1 ⟨rfl, b1⟩
      obtain ⟨ye, BB⟩ := Y.out
      replace ye := ye.below b1 ye.lt
      replace BB := bnext BB b1
      have d0 := (ye).cell 0
      have d1 := (ye).cell 1
      have d2 := (ye).cell 2
      have d3 := (ye).cell 3
      have d4 := (ye).cell 4
      have d5 := (ye).cell 5
      simp only [List.getElem?_toArray, List.getElem?_cons_zero, List.getElem?_cons_succ] at d0 d1 d2 d3 d4 d5
      have Y2 := Lib.hid (And.intro ye BB)
      clear ye BB b1 q0 q1 q2 q3 q4 q5
      go_wp2_with fail
      refine (HP.out _).mono ?_
      rintro e w2 ⟨rfl, b2⟩
      obtain ⟨ye, BB⟩ := Y2.out
      clear d0 d1 d2 d3 d4 d5
      replace ye := (ye.below b2 ye.lt).alloc (.cells #[.int .u32 x.a, .int .i64 lm] 86)
      have yp := Blk.new w2 86 #[.int .u32 x.a, .int .i64 lm]
      replace BB := balloc (bnext BB b2) (.cells #[.int .u32 x.a, .int .i64 lm] 86)
      have HC := Lib.hid (HTX.out _ HY.out (HI.out _ _ _ HJ.out BB))
      have d0 := (ye).cell 0
      have d1 := (ye).cell 1
      have d2 := (ye).cell 2
      have d3 := (ye).cell 3
      have d4 := (ye).cell 4
      have d5 := (ye).cell 5
      simp only [List.getElem?_toArray, List.getElem?_cons_zero, List.getElem?_cons_succ] at d0 d1 d2 d3 d4 d5
      have p0 := (yp).cell 0
      have p1 := (yp).cell 1
      simp only [List.getElem?_toArray, List.getElem?_cons_zero, List.getElem?_cons_succ] at p0 p1
      have hent := fun W => heT #[.agg #[.int .u32 x.a, .int .i64 lm, .int .i64 x.k]] W
      clear ye yp b2 BB
      go_wp2_with fail
      refine HC.out.mono ?_
      rintro e w3 ⟨rfl, h3⟩
      have H3 := Lib.hid h3
      clear h3
      go_wp2_with fail
      go_roundw
      case rel => exact ⟨j + 1, by omega, by go_num, H3⟩
      case measure => simp [intOf]; omega

/-- a list that grows in a box -/
structure Gr (W : World) (n0 b : Nat) (tb te : TypeId) (size : Nat) (v : Value) (n : Nat) (xs : List Value) : Prop where
  blk : Blk W b tb #[v]
  own : W.ownsRow n0 te size v n xs
  apart : v.ownBlock ≠ some b
theorem Gr.below {W W' : World} {n0 b n size : Nat} {tb te : TypeId} {v : Value} {xs : List Value} (h : Gr W n0 b tb te size v n xs) (hb : Below W.heap.size W W') : Gr W' n0 b tb te size v n xs :=
  ⟨h.blk.below hb h.blk.lt, own_below h.own hb, h.apart⟩

theorem Gr.push {W W2 W3 : World} {n0 b n size : Nat} {tb te : TypeId} {v v' : Value} {xs ys : List Value} (h : Gr W n0 b tb te size v n xs) (hW : Below W.heap.size W W2) (ho : W3.ownsRow n0 te size v' (n + 1) (xs ++ ys)) (hg : W2.grownBy W3 v.ownBlock) (ha : v'.ownBlock = v.ownBlock ∨ v'.ownBlock = some W2.heap.size) :
    Gr (W3.setCell ⟨b, 0, none⟩ v') n0 b tb te size v' (n + 1) (xs ++ ys) ∧ Fr (fun k => k ≠ b ∧ v.ownBlock ≠ some k) W (W3.setCell ⟨b, 0, none⟩ v') := by
  have f1 : Fr (fun k => v.ownBlock ≠ some k) W W3 := (Fr.of_below hW).trans (Fr.grown hg (fun b hb => hb))
  have hb := f1.blk h.blk h.apart
  have hl := h.blk.lt
  have hap : v'.ownBlock ≠ some b := by
    rcases ha with e | e
    · rw [e]; exact h.apart
    · rw [e]
      intro q
      injection q with q
      have := hW.size
      omega
  refine ⟨⟨?_, own_keep ho (Nat.le_refl _) (fun k hk _ => Below.heap_setCell W3 ⟨b, 0, none⟩ v' k (fun e => hap (by rw [hk]; exact congrArg some e))), hap⟩, (f1.mono (fun _ _ q => q.2)).trans (Fr.set (a := ⟨b, 0, none⟩) (fun _ q => q.1) _)⟩
  have := hb.set 0 v'
  simpa using this

theorem row_new {W W2 : World} {v v' : Value} (hW : Below W.heap.size W W2) (ha : v'.ownBlock = v.ownBlock ∨ v'.ownBlock = some W2.heap.size) : ∀ k, k < W.heap.size → v.ownBlock ≠ some k → v'.ownBlock ≠ some k := fun k hk hn e => by
  rcases ha with h | h
  · exact hn (h.symm.trans e)
  · rw [h] at e
    injection e with e
    have := hW.size
    omega
set_option maxHeartbeats 2000000 in
theorem tells1_any (n0 b : Nat) (v : Value) (n : Nat) (xs : List Value) (a m k : Int) (w : World) (h : Gr w n0 b 43 93 3 v n xs) (hn : n ≤ 1000) (hn0 : n0 ≤ w.heap.size) :
    Calls Tryz.prog 48 #[.agg #[.int .u32 a, .int .i64 m, .int .i64 k], .pointer (some ⟨b, 0, none⟩)] w fun e w' => e = .returned (.tuple #[]) ∧ ∃ v', Gr w' n0 b 43 93 3 v' (n + 1) (xs ++ [.int .u32 a, .int .i64 m, .int .i64 k]) ∧ Fr (fun k => k ≠ b ∧ v.ownBlock ≠ some k) w w' ∧ (∀ k, k < w.heap.size → v.ownBlock ≠ some k → v'.ownBlock ≠ some k) := by
  obtain ⟨i0, hi0, hz0, hz1, hz2⟩ := info_parts tl_info
  have B0 : Below w.heap.size w (w.alloc (.cells #[.int .u32 a, .int .i64 m, .int .i64 k] 93)) := balloc (Below.refl _ _) _
  have B1 := balloc B0 (.cells #[.int .u32 a, .int .i64 m, .int .i64 k] 93)
  have yt := Blk.new w 93 #[.int .u32 a, .int .i64 m, .int .i64 k]
  have h1 := h.below B0
  have c0 := h1.blk.cell 0
  simp only [List.getElem?_toArray, List.getElem?_cons_zero] at c0
  have t0 := (yt).cell 0
  have t1 := (yt).cell 1
  have t2 := (yt).cell 2
  simp only [List.getElem?_toArray, List.getElem?_cons_zero, List.getElem?_cons_succ] at t0 t1 t2
  have hbl := h.blk.lt
  have H := Lib.hid h
  have HB1 := Lib.hid B1
  have HO := Lib.hid (own_below h.own B1)
  have hnw := Rd.newL (w.alloc (.cells #[.int .u32 a, .int .i64 m, .int .i64 k] 93)) 93 #[.int .u32 a, .int .i64 m, .int .i64 k] [.int .u32 a, .int .i64 m, .int .i64 k] rfl
  rw [World.size_alloc] at hnw
  have HNW := Lib.hid hnw
  clear hnw
  clear h h1 B0 B1 yt
  go_enter Tryz.func48, Tryz.ntmps48
  go_wp2_with (at_builtin; refine wpList_append_rd rfl _ _ 43 rfl n0 93 i0 _ 3 24 Tryz.underlying43 hi0 hz0 hz1 hz2 rfl (by decide) _ n _ rfl HO.out 1 1 [.int .u32 a, .int .i64 m, .int .i64 k] rfl rfl HNW.out (by simp [Value.oneCell']) (by simp only [maxLen]; omega) (by omega) (by have := HB1.out.size; omega) ?_; intro v' w3 ho3 hg3 ha3; obtain ⟨A4, c4, rfl, -⟩ := own_row ho3; have f3 : Fr (fun k => v.ownBlock ≠ some k) w w3 := (Fr.of_below HB1.out).trans (Fr.grown hg3 (fun b hb => hb)); have e3 := (f3.blk H.out.blk H.out.apart).frozen 0; have c3 : w3.cell? ⟨b, 0, none⟩ = some v := (f3.blk H.out.blk H.out.apart).cell 0; have QQ := Lib.hid (H.out.push HB1.out ho3 hg3 ha3); have QA := Lib.hid (row_new HB1.out ha3); clear ho3 hg3 ha3 f3)
  go_end0
  exact ⟨rfl, _, QQ.out.1, QQ.out.2, QA.out⟩

set_option maxHeartbeats 1000000 in
theorem tells2_any (b : Nat) (k : Nat) (i y : Int) (w : World) (h : Blk w b 3 #[.int .i64 k]) (hk : k ≤ 1000) :
    Calls Tryz.prog 49 #[.int .i64 i, .int .i64 y, .pointer (some ⟨b, 0, none⟩)] w fun e w' => e = .returned (.tuple #[]) ∧ w' = w.setCell ⟨b, 0, none⟩ (.int .i64 ((k + 1 : Nat) : Int)) := by
  have c0 := h.cell 0
  have f0 := h.frozen 0
  simp only [List.getElem?_toArray, List.getElem?_cons_zero] at c0
  have hw : IntKind.i64.wrap ((k : Int) + 1) = (k : Int) + 1 := IntWalk.i64_in _ ⟨by omega, by omega⟩
  go_enter Tryz.func49, Tryz.ntmps49
  go_wp2_with fail
  go_end0
  exact ⟨rfl, by simp⟩

/-- what stands while a response is gone over -/
structure InT (w0 : World) (bl bn : Nat) (A : Option Addr) (l : List Er) (i : Nat) (W : World) : Prop where
  base : Below w0.heap.size w0 W
  rd : Rd W w0.heap.size A (erC l)
  row : ∃ v, Gr W w0.heap.size bl 43 93 3 v (tls (l.take i)).length (tlC (tls (l.take i))) ∧ v.ownBlock ≠ some bn
  cnt : Blk W bn 3 #[.int .i64 (lfs (l.take i)).length]
  ge : w0.heap.size ≤ bl ∧ w0.heap.size ≤ bn ∧ bl ≠ bn
theorem InT.below {w0 W W' : World} {bl bn : Nat} {A : Option Addr} {l : List Er} {i : Nat} (h : InT w0 bl bn A l i W) (hb : Below W.heap.size W W') : InT w0 bl bn A l i W' := by
  obtain ⟨v, h1, h2⟩ := h.row
  exact ⟨bnext h.base hb, h.rd.below (hb.mono h.base.size), ⟨v, h1.below hb, h2⟩, h.cnt.below hb h.cnt.lt, h.ge⟩
theorem InT.tell {w0 W W' : World} {bl bn : Nat} {A : Option Addr} {l : List Er} {i : Nat} {x : Er} {v v' : Value} (h : InT w0 bl bn A l i W) (hx : l[i]? = some x) (hw : whyE x = 0) (h1 : Gr W w0.heap.size bl 43 93 3 v (tls (l.take i)).length (tlC (tls (l.take i)))) (h2 : v.ownBlock ≠ some bn)
    (g : Gr W' w0.heap.size bl 43 93 3 v' ((tls (l.take i)).length + 1) (tlC (tls (l.take i)) ++ [.int .u32 x.a, .int .i64 (lenF x.m).1, .int .i64 x.k])) (f : Fr (fun k => k ≠ bl ∧ v.ownBlock ≠ some k) W W') (hv : v'.ownBlock ≠ some bn) : InT w0 bl bn A l (i + 1) W' := by
  have e1 : tls (l.take (i + 1)) = tls (l.take i) ++ [tlE x] := by rw [take_snoc hx, tls_yes hw]
  have e2 : lfs (l.take (i + 1)) = lfs (l.take i) := by rw [take_snoc hx, lfs_yes hw]
  have hlow : ∀ b, b < w0.heap.size → b ≠ bl ∧ v.ownBlock ≠ some b := fun b hb => ⟨fun e => by have := h.ge.1; omega, fun e => by have := own_base' h1.own b e; omega⟩
  refine ⟨h.base.trans ((f.below h.base.size hlow)), h.rd.below (f.below h.base.size hlow), ⟨v', ?_, hv⟩, ?_, h.ge⟩
  · rw [e1, List.length_append, tlC_app]
    exact g
  · rw [e2]
    exact f.blk h.cnt ⟨fun e => h.ge.2.2 e.symm, h2⟩
theorem InT.leave {w0 W : World} {bl bn : Nat} {A : Option Addr} {l : List Er} {i : Nat} {x : Er} (h : InT w0 bl bn A l i W) (hx : l[i]? = some x) (hw : whyE x ≠ 0) : InT w0 bl bn A l (i + 1) (W.setCell ⟨bn, 0, none⟩ (.int .i64 (((lfs (l.take i)).length + 1 : Nat) : Int))) := by
  have e1 : tls (l.take (i + 1)) = tls (l.take i) := by rw [take_snoc hx, tls_no hw]
  have e2 : (lfs (l.take (i + 1))).length = (lfs (l.take i)).length + 1 := by rw [take_snoc hx, lfs_no hw]; simp
  obtain ⟨v, h1, h2⟩ := h.row
  refine ⟨h.base.setCell (p := ⟨bn, 0, none⟩) h.ge.2.1 _, h.rd.far (p := ⟨bn, 0, none⟩) h.ge.2.1 _, ⟨v, ?_, h2⟩, ?_, h.ge⟩
  · rw [e1]
    exact ⟨h1.blk.far (p := ⟨bn, 0, none⟩) h.ge.2.2 _, own_keep h1.own (Nat.le_refl _) (fun k hk _ => Below.heap_setCell W ⟨bn, 0, none⟩ _ k (fun e => h2 (by rw [hk]; exact congrArg some e))), h1.apart⟩
  · rw [e2]
    have := h.cnt.set 0 (.int .i64 (((lfs (l.take i)).length + 1 : Nat) : Int))
    simpa using this

/-- what Tells hands back -/
def TellsP (cm : Int) (l : List Er) (w : World) (e : Ending) (w' : World) : Prop :=
  ∃ A c, e = .returned (.tuple #[.slice A (tlsC cm l).length c, .int .i64 (lfsC cm l).length]) ∧ (tlsC cm l).length ≤ c ∧ c ≤ 9223372036854775807 ∧ Rd w' w'.heap.size A (tlC (tlsC cm l)) ∧ Below w.heap.size w w'

set_option maxHeartbeats 4000000 in
theorem gtells_any (cm : Int) (l : List Er) (n c : Nat) (hn : l.length = n) (A : Option Addr) (w : World) (hr : Rd w w.heap.size A (erC l)) (hf : ∀ e ∈ l, fitR e) (hn3 : n ≤ 1000) :
    Calls Tryz.prog 15 #[.agg #[.int .i64 cm, .slice A n c]] w (TellsP cm l w) := by
  have B3 : Below w.heap.size w (((w.alloc (.cells #[.int .i64 cm, .slice A n c] 35)).alloc (.cells #[.slice none 0 0] 43)).alloc (.cells #[.int .i64 0] 3)) := balloc (balloc (balloc (Below.refl _ _) _) _) _
  have yd := ((Blk.new w 35 #[.int .i64 cm, .slice A n c]).alloc (.cells #[.slice none 0 0] 43)).alloc (.cells #[.int .i64 0] 3)
  have yl := (Blk.new (w.alloc (.cells #[.int .i64 cm, .slice A n c] 35)) 43 #[.slice none 0 0]).alloc (.cells #[.int .i64 0] 3)
  have yn := Blk.new ((w.alloc (.cells #[.int .i64 cm, .slice A n c] 35)).alloc (.cells #[.slice none 0 0] 43)) 3 #[.int .i64 0]
  simp only [World.size_alloc] at yl yn
  obtain ⟨w3, hw3⟩ : ∃ w3, w3 = ((w.alloc (.cells #[.int .i64 cm, .slice A n c] 35)).alloc (.cells #[.slice none 0 0] 43)).alloc (.cells #[.int .i64 0] 3) := ⟨_, rfl⟩
  rw [← hw3] at B3 yd yl yn
  have HW3 := Lib.hid hw3
  clear hw3
  have h0 : InT w (w.heap.size + 1) (w.heap.size + 1 + 1) A l 0 w3 := ⟨B3, hr.below B3, ⟨_, ⟨yl, World.ownsRow_nil _ _ _ _, by simp [Value.ownBlock]⟩, by simp [Value.ownBlock]⟩, yn, by omega, by omega, by omega⟩
  have HS := Lib.hid (sift_tells cm l n c hn A (.pointer (some ⟨w.heap.size + 1, 0, none⟩)) (.pointer (some ⟨w.heap.size + 1 + 1, 0, none⟩)) 48 49 (InT w (w.heap.size + 1) (w.heap.size + 1 + 1) A l) w3 hn3 hf
    (enters_of Tryz.func48 (by kernel_rfl) rfl) (enters_of Tryz.func49 (by kernel_rfl) rfl)
    (fun i W W' h hb => h.below hb) (fun i W h => h.rd.more h.base.size)
    (fun i x W hx hw h => by
      obtain ⟨v, g1, g2⟩ := h.row
      have hlt : i < l.length := (List.getElem?_eq_some_iff.1 hx).1
      refine (tells1_any w.heap.size (w.heap.size + 1) v _ _ _ _ _ W g1 (by have := tls_le (l.take i); rw [List.length_take] at this; omega) h.base.size).mono ?_
      rintro e w' ⟨rfl, v', k1, k2, k3⟩
      exact ⟨rfl, h.tell hx hw g1 g2 k1 k2 (k3 _ h.cnt.lt g2)⟩)
    (fun i x W hx hw h => by
      have hlt : i < l.length := (List.getElem?_eq_some_iff.1 hx).1
      refine (tells2_any (w.heap.size + 1 + 1) _ _ _ W h.cnt (by have := lfs_le (l.take i); rw [List.length_take] at this; omega)).mono ?_
      rintro e w' ⟨rfl, rfl⟩
      exact ⟨rfl, h.leave hx hw⟩) h0)
  have d0 := (yd).cell 0
  have d1 := (yd).cell 1
  simp only [List.getElem?_toArray, List.getElem?_cons_zero, List.getElem?_cons_succ] at d0 d1
  have hmf : ∀ (fn : Fn) (first cap : Array Value) (w : World), (Instr.makeFunc fn first cap).run Tryz.prog w = .ok (.func fn first cap) w := fun _ _ _ _ => rfl
  have HN := Lib.hid hn
  clear hn hr hf B3 yd yl yn h0
  go_enter Tryz.func15, Tryz.ntmps15
  go_upto_region 3 with fail
  rw [← HW3.out]
  go_wp2_with fail
  refine HS.out.mono ?_
  rintro e w4 ⟨rfl, hI⟩
  obtain ⟨v, g1, g2⟩ := hI.row
  have q0 := g1.blk.cell 0
  have q1 := hI.cnt.cell 0
  simp only [List.getElem?_toArray, List.getElem?_cons_zero] at q0 q1
  obtain ⟨A4, c4, hv, k1, k2, k3, k4⟩ := own_row g1.own
  subst hv
  have e1 : tls (l.take (if cm = 2 then n else 0)) = tlsC cm l := by
    unfold tlsC
    split
    · rw [List.take_of_length_le (by rw [HN.out]; exact Nat.le_refl _)]
    · rfl
  have e2 : lfs (l.take (if cm = 2 then n else 0)) = lfsC cm l := by
    unfold lfsC
    split
    · rw [List.take_of_length_le (by rw [HN.out]; exact Nat.le_refl _)]
    · rfl
  rw [e1] at k1 k3
  rw [e1] at q0
  rw [e2] at q1
  have KK := Lib.hid (And.intro k1 (And.intro k2 (And.intro k3 hI.base)))
  clear g1 g2 hI e1 e2 k1 k2 k3 k4
  generalize hln : (tlsC cm l).length = ln at *
  generalize hlc : (lfsC cm l).length = lc at *
  have HLN := Lib.hid (And.intro hln hlc)
  clear hln hlc
  go_wp2_with fail
  go_quiet (fail)
  go_wp2_with fail
  go_ret2
  refine ⟨A4, c4, by rw [HLN.out.1, HLN.out.2]; rfl, by rw [HLN.out.1]; exact KK.out.1, by have := KK.out.2.1; unfold maxLen at this; omega, KK.out.2.2.1.drewN _, below_drewN KK.out.2.2.2 _⟩
end Go.Proofs.YtlanfceilajifaaGreatDoor
