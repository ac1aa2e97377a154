/- packet: Decode, Check. -/
import Derived.Test.YtpadlillbofpnaaDoorPk4
import Derived.Maps.OwnIn
namespace Go.Proofs.YtpadlillbofpnaaDoor
set_option linter.unusedVariables false
set_option linter.unusedSimpArgs false
open Go.RowKit Go.Shelf
attribute [local go_sem] Oper.semAt_some
set_option maxRecDepth 100000
def desL (l : List UInt8) : List Er := if decE l = 0 then ersOf (l.drop 4) else []
def dcmd (l : List UInt8) : Int := if decE l = 0 then at8 l 0 else 0
/-- what Decode hands back -/
def DecP (l : List UInt8) (w : World) (e : Ending) (w' : World) : Prop :=
  ∃ A c, e = .returned (.tuple #[.agg #[.int .i64 (dcmd l), .slice A (desL l).length c], .int .i64 (decE l)]) ∧ (desL l).length ≤ c ∧ c ≤ 9223372036854775807 ∧ Rd w' w'.heap.size A (erC (desL l)) ∧ Below w.heap.size w w' ∧ (∀ a, A = some a → w.heap.size ≤ a.block)
theorem decE_zero {l : List UInt8} (h : decE l = 0) : 4 ≤ l.length ∧ (l.length - 4) % 20 = 0 ∧ l.length ≤ 504 ∧ at8 l 1 = 2 ∧ cmdB (at8 l 0) = true ∧ at8 l 2 = 0 ∧ at8 l 3 = 0 := by
  unfold decE at h
  split at h
  · omega
  split at h
  · omega
  split at h
  · omega
  split at h
  · omega
  split at h
  · omega
  rename_i h1 h2 h3 h4 h5
  have h2' := Classical.not_not.1 h2
  refine ⟨by omega, h2'.1, h2'.2, by omega, by simpa using h4, by omega, by omega⟩

set_option maxHeartbeats 1000000 in
theorem decode_bad (l : List UInt8) (n : Nat) (hn : l.length = n) (A : Option Addr) (c B : Nat) (w : World) (hw : WidthsAt w) (h : Rd w B A (l.map b8)) (hlc : n ≤ c) (hc : c ≤ 9223372036854775807) (hB : B ≤ w.heap.size) (hE : decE l ≠ 0) :
    Calls Tryd.prog 9 #[.slice A n c] w (DecP l w) := by
  have hd : desL l = [] := by unfold desL; rw [if_neg hE]
  have hdc : dcmd l = 0 := by unfold dcmd; rw [if_neg hE]
  have hmf : ∀ (fn : Fn) (first cap : Array Value) (w : World), (Instr.makeFunc fn first cap).run Tryd.prog w = .ok (.func fn first cap) w := fun _ _ _ _ => rfl
  have B0 : Below w.heap.size w ((w.alloc (.cells #[.int .i64 0, .slice none 0 0] 27)).alloc (.cells #[.int .i64 0] 28)) := balloc (balloc (Below.refl _ _) _) _
  have x0 := (Blk.new w 27 #[.int .i64 0, .slice none 0 0]).alloc (.cells #[.int .i64 0] 28)
  have x1 := Blk.new (w.alloc (.cells #[.int .i64 0, .slice none 0 0] 27)) 28 #[.int .i64 0]
  rw [World.size_alloc] at x1
  have B1 := balloc B0 (.cells #[.slice A n c] 63)
  have HM := Lib.hid (must_any l n hn A c B _ (hw.below B1) (h.below (B1.mono hB)) hlc hc (Nat.le_trans hB B1.size))
  have X := Lib.hid (And.intro (x0.alloc (.cells #[.slice A n c] 63)) (And.intro (x1.alloc (.cells #[.slice A n c] 63)) B1))
  unfold mustK at HM
  rw [if_neg hE] at HM
  have HD := Lib.hid (And.intro hd hdc)
  clear hn hw h x0 x1 B0 B1 hd hdc
  obtain ⟨k, hk⟩ : ∃ k, k = decE l := ⟨_, rfl⟩
  rw [← hk] at HM hE
  have HK := Lib.hid hk
  clear hk
  go_enter_defers Tryd.func9, Tryd.ntmps9
  go_wp2_with fail
  refine HM.out.mono ?_
  rintro e w2 ⟨rfl, b2⟩
  go_wp2_with fail
  have y0 := X.out.1.below b2 X.out.1.lt
  have y1 := X.out.2.1.below b2 X.out.2.1.lt
  have hc2 := bnext X.out.2.2 b2
  refine leaves_cons (f := 23) (args := #[.pointer (some ⟨w.heap.size, 0, none⟩), .pointer (some ⟨w.heap.size + 1, 0, none⟩)]) (by simp) (by simp [go_sem]) ?_
  with_reducible refine (pk_pan w.heap.size (w.heap.size + 1) k (.int .i64 0) (.slice none 0 0) [] _ y0 y1 (by omega)).mono ?_
  rintro e u' wz ⟨rfl, rfl, z1, z2, z3⟩
  have d0 := (z1).cell 0
  have d1 := (z1).cell 1
  simp only [List.getElem?_toArray, List.getElem?_cons_zero, List.getElem?_cons_succ] at d0 d1
  have h0 := (z2).cell 0
  simp only [List.getElem?_toArray, List.getElem?_cons_zero, List.getElem?_cons_succ] at h0
  have bz := hc2.trans (z3 w.heap.size (Nat.le_refl _) (by omega))
  simp [Leaves, settle, results, Tryd.results9, go_sem, d0, d1, h0]
  refine ⟨none, 0, ?_, by rw [HD.out.1]; simp, by omega, by rw [HD.out.1]; exact Rd.nil, bz, by simp⟩
  rw [HD.out.1, HD.out.2, ← HK.out]
  rfl

/-- a row and the block of the datagram that names it -/
def DR (gd : Nat) (cm : Int) (l : List UInt8) (W1 : World) (pre : List Nat) (W : World) : Prop :=
  ∃ v, Blk W gd 27 #[.int .i64 cm, v] ∧ W.ownsRow W1.heap.size 55 6 v pre.length (erC (pre.map (erOf l))) ∧ Fr (fun k => k < W1.heap.size ∧ k ≠ gd) W1 W
theorem own_grown {w w' : World} {base : Nat} {e : TypeId} {size n : Nat} {v : Value} {xs : List Value} {row : Option Nat} (h : w.ownsRow base e size v n xs) (hg : w.grownBy w' row) (hr : ∀ r, row = some r → ∃ o : Obj, w.heap[r]? = some o ∧ o.isCells = false) : w'.ownsRow base e size v n xs :=
  own_keep h (Nat.le_refl _) (fun k hk hl => hg.block k hl (fun e' => by
    obtain ⟨o, ho, hc⟩ := hr k e'.symm
    rcases h.2 with ⟨rfl, _⟩ | ⟨g, cap, cur, rfl, _, hh, _⟩
    · simp [Value.ownBlock] at hk
    · simp [Value.ownBlock] at hk
      subst hk
      rw [hh] at ho
      cases ho
      cases hc))
theorem DR.own {gd : Nat} {cm : Int} {l : List UInt8} {W1 : World} {B : Nat} (h2 : W1.heap.size ≤ B) : OwnFrom B (DR gd cm l W1) := fun s X Y row hs hg hr => by
  obtain ⟨v, h3, h4, h5⟩ := hs
  refine ⟨v, ?_, own_grown h4 hg (fun r e => (hr r e).2), h5.trans (Fr.grown hg (fun b hb e => by have := (hr b e).1; omega))⟩
  exact (hg.block gd h3.lt (fun e => by obtain ⟨o, ho, hc⟩ := (hr gd e.symm).2; rw [show X.heap[gd]? = _ from h3] at ho; cases ho; cases hc)).trans h3
theorem own_form5 {w : World} {base e size n : Nat} {v : Value} {xs : List Value} (h : w.ownsRow base e size v n xs) (hn : 1 ≤ n) : ∃ g cap, v = .slice (some ⟨g, 0, none⟩) n cap ∧ base ≤ g := by
  rcases h.2 with ⟨_, h0⟩ | ⟨g, cap, cur, rfl, hg, _⟩
  · omega
  · exact ⟨g, cap, rfl, hg⟩
theorem erC_snoc (l : List UInt8) (pre : List Nat) (x : Nat) : erC ((pre ++ [x]).map (erOf l)) = erC (pre.map (erOf l)) ++ erL (erOf l x) := by
  rw [List.map_append, erC_app]
  simp [erC]

set_option maxHeartbeats 8000000 in
theorem decode_ok (l : List UInt8) (n : Nat) (hn : l.length = n) (A : Option Addr) (c B : Nat) (w : World) (hw : WidthsAt w) (h : Rd w B A (l.map b8)) (hlc : n ≤ c) (hc : c ≤ 9223372036854775807) (hB : B ≤ w.heap.size) (hE : decE l = 0) :
    Calls Tryd.prog 9 #[.slice A n c] w (DecP l w) := by
  obtain ⟨i0, hi0, hz0, hz1, hz2⟩ := info_parts ent_info
  obtain ⟨h4, h20, h504, _⟩ := decE_zero hE
  rw [hn] at h4 h20 h504
  have hd : desL l = ersOf (l.drop 4) := by unfold desL; rw [if_pos hE]
  have hdc : dcmd l = at8 l 0 := by unfold dcmd; rw [if_pos hE]
  have hmf : ∀ (fn : Fn) (first cap : Array Value) (w : World), (Instr.makeFunc fn first cap).run Tryd.prog w = .ok (.func fn first cap) w := fun _ _ _ _ => rfl
  have B0 : Below w.heap.size w ((w.alloc (.cells #[.int .i64 0, .slice none 0 0] 27)).alloc (.cells #[.int .i64 0] 28)) := balloc (balloc (Below.refl _ _) _) _
  have x0 := (Blk.new w 27 #[.int .i64 0, .slice none 0 0]).alloc (.cells #[.int .i64 0] 28)
  have x1 := Blk.new (w.alloc (.cells #[.int .i64 0, .slice none 0 0] 27)) 28 #[.int .i64 0]
  rw [World.size_alloc] at x1
  have x2 := Blk.new ((w.alloc (.cells #[.int .i64 0, .slice none 0 0] 27)).alloc (.cells #[.int .i64 0] 28)) 63 #[.slice A n c]
  rw [World.size_alloc, World.size_alloc] at x2
  have B1 := balloc B0 (.cells #[.slice A n c] 63)
  have HM := Lib.hid (must_any l n hn A c B _ (hw.below B1) (h.below (B1.mono hB)) hlc hc (Nat.le_trans hB B1.size))
  have X := Lib.hid (And.intro (x0.alloc (.cells #[.slice A n c] 63)) (And.intro (x1.alloc (.cells #[.slice A n c] 63)) (And.intro x2 B1)))
  unfold mustK at HM
  rw [if_pos hE] at HM
  have HD := Lib.hid (And.intro hd (And.intro hdc hE))
  have HN := Lib.hid hn
  have HW := Lib.hid hw
  have HR := Lib.hid h
  have hlt8 := at8_lt l 0
  have HNB := Lib.hid (fun W (hW : Below w.heap.size w W) => number_any l n HN.out A c B W (HW.out.below hW) (HR.out.below (hW.mono hB)) hlc hc 0 1 (at8 l 0) (rdF_one (l := l) (i := 0) (by omega)) (by omega))
  have HBD := Lib.hid (fun W (hW : Below w.heap.size w W) => body_any l n HN.out A c B W (HR.out.below (hW.mono hB)) h4 hlc hc)
  clear hn hw h x0 x1 x2 B0 B1 hd hdc hE
  have hl4 : (l.drop 4).length = n - 4 := by rw [List.length_drop, HN.out]
  obtain ⟨lq, hlq⟩ : ∃ lq, lq = l.drop 4 := ⟨_, rfl⟩
  rw [← hlq] at HBD HD hl4
  have HL4 := Lib.hid hl4
  clear hlq hl4
  refine calls_of_lvm Tryd.func9 rfl ?_
  refine (wpIn_wide (n := 6)).1 ?_
  simp only [Tryd.ntmps9, List.size_toArray, List.length_cons, List.length_nil, Nat.reduceAdd, Nat.reduceSub, Array.replicate_succ, Array.replicate_zero, List.push_toArray, List.append_toArray, List.nil_append, List.cons_append]
  gi_wp2_with fail
  refine ⟨trivial, ?_⟩
  refine (callsIn_wide.2 HM.out).mono ?_
  rintro e w2 ⟨rfl, b2⟩
  have y0 := X.out.1.below b2 X.out.1.lt
  have y1 := X.out.2.1.below b2 X.out.2.1.lt
  have y2 := X.out.2.2.1.below b2 X.out.2.2.1.lt
  have hc2 := bnext X.out.2.2.2 b2
  have d0 := (y0).cell 0
  have d1 := (y0).cell 1
  simp only [List.getElem?_toArray, List.getElem?_cons_zero, List.getElem?_cons_succ] at d0 d1
  have r0 := (y2).cell 0
  simp only [List.getElem?_toArray, List.getElem?_cons_zero, List.getElem?_cons_succ] at r0
  have f0 := y0.frozen 0
  have z0 := y0.set 0 (.int .i64 (at8 l 0))
  have z1 := y1.far (p := ⟨w.heap.size, 0, none⟩) (by show w.heap.size + 1 ≠ w.heap.size; omega) (.int .i64 (at8 l 0))
  have z2 := y2.far (p := ⟨w.heap.size, 0, none⟩) (by show w.heap.size + 1 + 1 ≠ w.heap.size; omega) (.int .i64 (at8 l 0))
  have hc3 := hc2.setCell (p := ⟨w.heap.size, 0, none⟩) (Nat.le_refl _) (.int .i64 (at8 l 0))
  simp only [List.setIfInBounds_toArray, List.set_cons_zero] at z0
  have HC2 := Lib.hid hc2
  have Z := Lib.hid (And.intro z0 (And.intro z1 (And.intro z2 hc3)))
  clear b2 y0 y1 y2 z0 z1 z2 hc2 hc3 X HM
  gi_wp2_with (first | (refine ⟨trivial, ?_⟩; gi_at_call 25; refine (callsIn_wide.2 (HNB.out _ HC2.out)).mono ?_; rintro e w' ⟨rfl, rfl⟩))
  refine ⟨trivial, ?_⟩
  refine (callsIn_wide.2 (HBD.out _ Z.out.2.2.2)).mono ?_
  rintro e w' ⟨⟨A', rfl, hr4⟩, rfl⟩
  have HEA := Lib.hid (eeach2_any lq (n - 4) HL4.out A' (n - 4) B _ hr4 (Nat.le_trans hB Z.out.2.2.2.size) (by omega))
  clear hr4 HBD
  gi_wp2_with fail
  refine ⟨trivial, ?_⟩
  refine (callsIn_wide.2 HEA.out).mono ?_
  rintro e w3 ⟨lb, rfl, hA, b3⟩
  have zl0 := Z.out.1.lt
  have zl1 := Z.out.2.1.lt
  have u0 := Z.out.1.below b3 zl0
  have u1 := Z.out.2.1.below b3 zl1
  have hc3 := bnext Z.out.2.2.2 b3
  have hsz3 := b3.size
  have hwg : 0 < w.heap.size := cell_lt HW.out.1
  have HA := Lib.hid (hA.fr (q := fun k => k < w3.heap.size ∧ k ≠ w.heap.size) (Fr.refl (p := fun _ => True)) (fun _ _ _ => trivial) (fun b hb hl => ⟨hl, by omega⟩))
  have U := Lib.hid (And.intro u0 (And.intro u1 hc3))
  have hlt1 : w.heap.size + 1 < w3.heap.size := by omega
  have hle48 : lq.length ≤ 1048576 := by have := HL4.out; omega
  clear hA b3 u0 u1 hc3 HEA Z d0 d1 r0 f0
  gi_wp2_with fail
  refine wpIn_rangeFunc_ownH rfl (by omega) (gf := 46) (lb := lb) rfl trivial (enters_of Tryd.func46 (by kernel_rfl) rfl)
    (eeach2_stops 5 (by omega) (fun k => k < w3.heap.size ∧ k ≠ w.heap.size) lq lb w3 hle48 HA.out (HW.out.below U.out.2.2) ⟨by omega, by omega⟩) (fun h1 h2 => h1.trans h2) (fun W l' o o' hl _ _ _ => Fr.grown (grownBy_putObj' W l' o') (fun b hb e => by cases e; omega)) (Below.refl _ _) (fun _ => rfl)
    (DR w.heap.size (at8 l 0) lq w3) (fun _ _ _ => False) (DR.own (Nat.le_refl _)) (fun _ _ _ _ _ hs _ _ => hs) ⟨.slice none 0 0, U.out.1, World.ownsRow_nil _ _ _ _, Fr.refl⟩
    (AxB w.heap.size 55 (entA lq) ?a10) AxB_own ?assign ?body ?done ?stop
  case assign =>
    rintro lp pre x W K hI hK
    have hlW : w3.heap.size ≤ W.heap.size := by obtain ⟨_, _, _, hf⟩ := hI; exact hf.2.2.2.1
    simp only [entEs, entE_eq]
    gi_wp2
    obtain ⟨Bx, hBx⟩ : ∃ Bx, W.heap.size = Bx := ⟨_, rfl⟩
    have bX := Blk.new W 55 (entA lq x)
    rw [hBx] at bX ⊢
    have hK' := hK (?a10 x Bx) _ ((KeepsOthers.alloc _ _).from _) (Fr.alloc _) ((DR.own (Nat.le_refl _)).alloc _ hI) ⟨Bx, by omega, bX, rfl⟩
    exact hK'
  case body =>
    rintro lp pre x a' W hlp _ ⟨v, hd, ho, hf⟩ ⟨Bx, hBx, bX, rfl⟩ hlt
    try dsimp only
    have hpl : pre.length ≤ 25 := by have := HL4.out; omega
    have hsn := erC_snoc lq pre x
    have hEr : erL (erOf lq x) = (entA lq x).toList := rfl
    rw [hEr] at hsn
    unfold entA at bX hsn
    simp only at hsn
    generalize fld (lq.drop (x * 20)) 0 2 = v0 at *
    generalize fld (lq.drop (x * 20)) 2 2 = v1 at *
    generalize fld (lq.drop (x * 20)) 4 4 = v2 at *
    generalize fld (lq.drop (x * 20)) 8 4 = v3 at *
    generalize fld (lq.drop (x * 20)) 12 4 = v4 at *
    generalize fld (lq.drop (x * 20)) 16 4 = v5 at *
    have m0 := (bX).cell 0
    have m1 := (bX).cell 1
    have m2 := (bX).cell 2
    have m3 := (bX).cell 3
    have m4 := (bX).cell 4
    have m5 := (bX).cell 5
    simp only [List.getElem?_toArray, List.getElem?_cons_zero, List.getElem?_cons_succ] at m0 m1 m2 m3 m4 m5
    have k1 := hd.cell 1
    simp only [List.getElem?_toArray, List.getElem?_cons_zero, List.getElem?_cons_succ] at k1
    have hgl := hd.lt
    have HO := Lib.hid (ho.alloc (.cells #[.int .i64 v0, .int .i64 v1, .int .u32 v2, .int .u32 v3, .int .u32 v4, .int .u32 v5] 55))
    have HD2 := Lib.hid (hd.alloc (.cells #[.int .i64 v0, .int .i64 v1, .int .u32 v2, .int .u32 v3, .int .u32 v4, .int .u32 v5] 55))
    have HBS := Lib.hid (own_base' ho)
    have HF := Lib.hid hf
    have HSN := Lib.hid hsn
    have hlW : w3.heap.size ≤ W.heap.size := hf.2.2.2.1
    have hnew : ∀ j u, ([.int .i64 v0, .int .i64 v1, .int .u32 v2, .int .u32 v3, .int .u32 v4, .int .u32 v5] : List Value)[j]? = some u → (W.alloc (.cells #[.int .i64 v0, .int .i64 v1, .int .u32 v2, .int .u32 v3, .int .u32 v4, .int .u32 v5] 55)).cell? ((⟨W.heap.size, 0, none⟩ : Addr).add j) = some u := fun j u hu => by
      rw [add_plain]
      simp [hu]
    have HNW := Lib.hid hnew
    clear hd ho hf hsn hEr hnew
    gi_wp2_with (gi_at_builtin
                 go_must (refine wpListIn_append_own_at _ rfl _ _ 25 rfl w3.heap.size 55 i0 _ 6 32 Tryd.underlying25 hi0 hz0 hz1 hz2 rfl (by decide) v pre.length _ rfl HO.out ⟨W.heap.size, 0, none⟩ 1 1 [.int .i64 v0, .int .i64 v1, .int .u32 v2, .int .u32 v3, .int .u32 v4, .int .u32 v5] rfl rfl HNW.out (by simp [Value.oneCell']) (by simp only [maxLen]; omega) (by omega) (by simp; omega) ?_)
                 intro vn w5 hown5 hgr5 _ _
                 obtain ⟨gn, capn, hvn, hgn⟩ := own_form5 hown5 (by omega)
                 subst hvn
                 have hb5 := hgr5.block w.heap.size HD2.out.lt (fun e => by have := HBS.out _ e.symm; omega)
                 have k5 : Blk w5 w.heap.size 27 #[.int .i64 (at8 l 0), v] := hb5.trans HD2.out
                 have d5 := k5.cell 1
                 have f5 := k5.frozen 1
                 simp only [List.getElem?_toArray, List.getElem?_cons_zero, List.getElem?_cons_succ] at d5)
    have hgd := own_base' hown5
    have h5 := k5.set 1 (.slice (some ⟨gn, 0, none⟩) (pre.length + 1) capn)
    simp only [List.setIfInBounds_toArray, List.set_cons_zero, List.set_cons_succ] at h5
    have hv5 : (Value.slice (some ⟨gn, 0, none⟩) (pre.length + 1) capn).ownBlock = some w.heap.size → False := fun e => by have := hgd _ e; omega
    have ho5 : (w5.setCell ⟨w.heap.size, 1, none⟩ (.slice (some ⟨gn, 0, none⟩) (pre.length + 1) capn)).ownsRow w3.heap.size 55 6 (.slice (some ⟨gn, 0, none⟩) (pre.length + 1) capn) (pre.length + 1) (erC ((pre ++ [x]).map (erOf lq))) := by
      rw [HSN.out]
      exact own_keep hown5 (Nat.le_refl _) (fun k hk hl => Below.heap_setCell w5 ⟨w.heap.size, 1, none⟩ _ k (by show k ≠ w.heap.size; have := hgd k hk; omega))
    have g1 : Fr (fun k => k < w3.heap.size ∧ k ≠ w.heap.size) W (w5.setCell ⟨w.heap.size, 1, none⟩ (.slice (some ⟨gn, 0, none⟩) (pre.length + 1) capn)) :=
      ((Fr.alloc _).trans (Fr.grown hgr5 (fun b hb e => by have := HBS.out _ e; omega))).trans (Fr.set (a := ⟨w.heap.size, 1, none⟩) (fun b hb => hb.2) _)
    have hcl : ∀ r, v.ownBlock = some r → ∃ c t m, (W.alloc (.cells #[.int .i64 v0, .int .i64 v1, .int .u32 v2, .int .u32 v3, .int .u32 v4, .int .u32 v5] 55)).heap[r]? = some (.cells c t m) := fun r hr => by
      rcases HO.out.2 with ⟨rfl, _⟩ | ⟨g, cap, cur, rfl, _, hh, _⟩
      · simp [Value.ownBlock] at hr
      · simp [Value.ownBlock] at hr
        subst hr
        exact ⟨_, _, _, hh⟩
    have g2 : KeepsFrom w3.heap.size W (w5.setCell ⟨w.heap.size, 1, none⟩ (.slice (some ⟨gn, 0, none⟩) (pre.length + 1) capn)) :=
      (((KeepsOthers.alloc _ _).from _).trans ⟨hgr5.size, fun k o _ hk hoo => (hgr5.block k (Array.getElem?_eq_some_iff.1 hk).1 (fun e => by
        obtain ⟨c', t', m', hh⟩ := hcl k e.symm
        rw [hh] at hk
        cases hk
        cases hoo)).trans hk⟩).trans ((KeepsOthers.setCell _ _ _).from _)
    exact ⟨g2, g1, (.slice (some ⟨gn, 0, none⟩) (pre.length + 1) capn), h5, by rw [len_snoc]; exact ho5, HF.out.trans g1⟩
  case stop =>
    rintro D0 cc pre Wm hD0 hpre h hK0
    exact h.elim
  case done =>
    rintro D0 ys Wm hD0 rfl ⟨v, hd, ho, hf⟩ hK0
    obtain ⟨A1, c1, rfl, h1, h2, h3, h4'⟩ := own_row ho
    have q1 := boxed_fr (p := fun k => k < w3.heap.size ∧ k ≠ w.heap.size) U.out.2.1 hf ⟨by omega, by omega⟩
    have d0 := (hd).cell 0
    have d1 := (hd).cell 1
    simp only [List.getElem?_toArray, List.getElem?_cons_zero, List.getElem?_cons_succ] at d0 d1
    have g0 := hd.frozen 0
    have g1 := hd.frozen 1
    have e0 := Blk.cell q1 0
    have e1 := Blk.frozen q1 0
    simp only [List.getElem?_toArray, List.getElem?_cons_zero] at e0
    have hHD := HD.out
    have bm : Below w.heap.size w Wm := U.out.2.2.trans (hf.below (B := w.heap.size) (by omega) (fun b hb => ⟨by omega, by omega⟩))
    have HO := Lib.hid ho
    have HDD := Lib.hid hd
    have HQ1 := Lib.hid q1
    have HK0 := Lib.hid hK0
    have hnl : (List.range (lq.length / 20)).length = (desL l).length := by rw [HD.out.1, ersOf_len, List.length_range]
    have hxs : erC ((List.range (lq.length / 20)).map (erOf lq)) = erC (desL l) := by rw [HD.out.1]; rfl
    have HNL := Lib.hid hnl
    have HXS := Lib.hid hxs
    clear ho hd q1 hf hHD h3 hnl hxs
    generalize (List.range (lq.length / 20)).length = nn at *
    gi_wp2_with fail
    have zd := ((HDD.out.set 0 (.int .i64 (at8 l 0))).set 1 (.slice A1 nn c1)).far (p := ⟨w.heap.size + 1, 0, none⟩) (by show w.heap.size ≠ w.heap.size + 1; omega) (.int .i64 0)
    have ze := ((Blk.far (p := ⟨w.heap.size, 0, none⟩) HQ1.out (by show w.heap.size + 1 ≠ w.heap.size; omega) (.int .i64 (at8 l 0))).far (p := ⟨w.heap.size, 1, none⟩) (by show w.heap.size + 1 ≠ w.heap.size; omega) (.slice A1 nn c1)).set 0 (.int .i64 0)
    simp only [List.setIfInBounds_toArray, List.set_cons_zero, List.set_cons_succ] at zd ze
    have K0 := (KeepsOthers.setCell _ ⟨w.heap.size + 1, 0, none⟩ (.int .i64 0)).same D0 _ ((KeepsOthers.setCell _ ⟨w.heap.size, 1, none⟩ (.slice A1 nn c1)).same D0 _ ((KeepsOthers.setCell Wm ⟨w.heap.size, 0, none⟩ (.int .i64 (at8 l 0))).same D0 _ HK0.out rfl) rfl) rfl
    have bz : Below w.heap.size w (((Wm.setCell ⟨w.heap.size, 0, none⟩ (.int .i64 (at8 l 0))).setCell ⟨w.heap.size, 1, none⟩ (.slice A1 nn c1)).setCell ⟨w.heap.size + 1, 0, none⟩ (.int .i64 0)) := ((bm.setCell (p := ⟨w.heap.size, 0, none⟩) (Nat.le_refl _) _).setCell (p := ⟨w.heap.size, 1, none⟩) (Nat.le_refl _) _).setCell (p := ⟨w.heap.size + 1, 0, none⟩) (by show w.heap.size ≤ w.heap.size + 1; omega) _
    have hbo := own_base' HO.out
    have zo : (((Wm.setCell ⟨w.heap.size, 0, none⟩ (.int .i64 (at8 l 0))).setCell ⟨w.heap.size, 1, none⟩ (.slice A1 nn c1)).setCell ⟨w.heap.size + 1, 0, none⟩ (.int .i64 0)).ownsRow w3.heap.size 55 6 (.slice A1 nn c1) nn (erC (desL l)) := by
      rw [← HXS.out]
      exact own_keep HO.out (Nat.le_refl _) (fun k hk hl => by
        have := hbo k hk
        rw [Below.heap_setCell _ ⟨w.heap.size + 1, 0, none⟩ _ k (by show k ≠ w.heap.size + 1; omega), Below.heap_setCell _ ⟨w.heap.size, 1, none⟩ _ k (by show k ≠ w.heap.size; omega), Below.heap_setCell _ ⟨w.heap.size, 0, none⟩ _ k (by show k ≠ w.heap.size; omega)])
    clear d0 d1 g0 g1 e0 e1 HDD HQ1 HK0 HO bm
    generalize ((Wm.setCell ⟨w.heap.size, 0, none⟩ (.int .i64 (at8 l 0))).setCell ⟨w.heap.size, 1, none⟩ (.slice A1 nn c1)).setCell ⟨w.heap.size + 1, 0, none⟩ (.int .i64 0) = wz at *
    have y0 : Blk (wz.putObj D0 (.deferred none)) w.heap.size 27 #[.int .i64 (at8 l 0), .slice A1 nn c1] := (World.putObj_heap_other (by omega)).trans zd
    have y1 : Blk (wz.putObj D0 (.deferred none)) (w.heap.size + 1) 28 #[.int .i64 0] := (World.putObj_heap_other (by omega)).trans ze
    have yo : (wz.putObj D0 (.deferred none)).ownsRow w3.heap.size 55 6 (.slice A1 nn c1) nn (erC (desL l)) := own_grown zo (grownBy_putObj' _ D0 (.deferred none)) (fun r e => by cases e; exact ⟨_, K0, rfl⟩)
    have yb : Below w.heap.size w (wz.putObj D0 (.deferred none)) := bz.trans (below_putObj wz D0 _ (by omega))
    obtain ⟨A2, c2, he, q1, q2, q3, q4⟩ := own_row yo
    injection he with e1 e2 e3
    subst e1 e3
    refine .inr ⟨by simp, D0, _, rfl, run_takeDeferred K0, .inl ?_⟩
    refine leaves_cons (f := 23) (args := #[.pointer (some ⟨w.heap.size, 0, none⟩), .pointer (some ⟨w.heap.size + 1, 0, none⟩)]) (by simp) (by simp [go_sem]) ?_
    with_reducible refine (pk_idle w.heap.size (w.heap.size + 1) _).mono ?_
    rintro e u' w'' ⟨rfl, rfl, rfl⟩
    have d0 := (y0).cell 0
    have d1 := (y0).cell 1
    simp only [List.getElem?_toArray, List.getElem?_cons_zero, List.getElem?_cons_succ] at d0 d1
    have h0 := (y1).cell 0
    simp only [List.getElem?_toArray, List.getElem?_cons_zero, List.getElem?_cons_succ] at h0
    have hfin : DecP l w (.returned (.tuple #[.agg #[.int .i64 (at8 l 0), .slice A1 nn c1], .int .i64 0])) (wz.putObj D0 (.deferred none)) := by
      refine ⟨A1, c1, ?_, by rw [← HNL.out]; exact q1, by unfold maxLen at q2; omega, q3, yb, fun a ha => by have := q4 a ha; omega⟩
      rw [HD.out.2.1, HD.out.2.2, ← HNL.out]
    clear K0 zd ze zo y0 y1 yo
    generalize wz.putObj D0 (.deferred none) = wf at *
    simp [Leaves, settle, results, Tryd.results9, go_sem, d0, d1, h0]
    exact hfin

theorem decode_any (l : List UInt8) (n : Nat) (hn : l.length = n) (A : Option Addr) (c B : Nat) (w : World) (hw : WidthsAt w) (h : Rd w B A (l.map b8)) (hlc : n ≤ c) (hc : c ≤ 9223372036854775807) (hB : B ≤ w.heap.size) :
    Calls Tryd.prog 9 #[.slice A n c] w (DecP l w) := by
  by_cases hE : decE l = 0
  · exact decode_ok l n hn A c B w hw h hlc hc hB hE
  · exact decode_bad l n hn A c B w hw h hlc hc hB hE
theorem pcheck_any (l : List UInt8) (n : Nat) (hn : l.length = n) (A : Option Addr) (c B : Nat) (w : World) (hw : WidthsAt w) (h : Rd w B A (l.map b8)) (hlc : n ≤ c) (hc : c ≤ 9223372036854775807) (hB : B ≤ w.heap.size) :
    Calls Tryd.prog 13 #[.slice A n c] w fun e w' => e = .returned (.int .i64 (decE l)) ∧ Below w.heap.size w w' := by
  have HD := Lib.hid (decode_any l n hn A c B w hw h hlc hc hB)
  clear hn hw h
  go_enter Tryd.func13, Tryd.ntmps13
  go_wp2_with (go_at_call 9; refine HD.out.mono ?_; rintro e w2 ⟨A2, c2, rfl, h1, h2, h3, b2, _⟩)
  go_ret
  exact ⟨rfl, balloc b2 _⟩
end Go.Proofs.YtpadlillbofpnaaDoor
