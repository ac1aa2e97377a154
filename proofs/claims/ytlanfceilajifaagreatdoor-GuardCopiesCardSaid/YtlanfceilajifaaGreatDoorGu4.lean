/- guard: a tally's methods; Look. -/
import Derived.Test.YtlanfceilajifaaGreatDoorGu3
import Derived.Test.YtlanfceilajifaaGreatDoorMH
import Derived.Test.YtlanfceilajifaaGreatDoorMF
namespace Go.Proofs.YtlanfceilajifaaGreatDoor
set_option linter.unusedVariables false
set_option linter.unusedSimpArgs false
open Go.RowKit
set_option maxRecDepth 100000
def z15 : List Int := [0, 0, 0, 0, 0, 0, 0, 0, 0, 0, 0, 0, 0, 0, 0]
theorem gnew_any (w : World) :
    Calls Tryz.prog 22 #[] w fun e w' => ∃ g, e = .returned (.pointer (some ⟨g, 0, none⟩)) ∧ w.heap.size ≤ g ∧ Ta w' g z15 ∧ Below w.heap.size w w' := by
  go_enter Tryz.func22, Tryz.ntmps22
  go_wp2_with fail
  go_ret
  refine ⟨w.heap.size, rfl, Nat.le_refl _, ⟨?_, rfl, fun x hx => ?_⟩, balloc (Below.refl _ _) _⟩
  · have := Blk.new w 129 (taC z15)
    exact this
  · simp [z15] at hx
    omega
theorem ixR_lt {r : Int} {k : Nat} (h : ixR r = some k) : k < 15 := by
  unfold ixR at h
  split at h
  · cases h; omega
  · cases h
theorem refuse_nil (e : Int) (w : World) :
    Calls Tryz.prog 25 #[.pointer none, .int .i64 e] w fun e' w' => e' = .returned (.int .i64 1) ∧ Below w.heap.size w w' := by
  go_enter Tryz.func25, Tryz.ntmps25
  go_wp2_with fail
  refine (count_nil _ _ _).mono ?_
  rintro e' w1 ⟨rfl, b1⟩
  go_wp2_with fail
  go_ret
  exact ⟨rfl, b1⟩
theorem refuse_any {w : World} {g : Nat} {L : List Int} (e : Int) (h : Ta w g L) :
    Calls Tryz.prog 25 #[.pointer (some ⟨g, 0, none⟩), .int .i64 e] w fun e' w' => e' = .returned (.int .i64 (cntE (ixE e) 1)) ∧ Ta w' g (cntL L (ixE e) 1) ∧ Fr (fun k => k ≠ g) w w' := by
  go_enter Tryz.func25, Tryz.ntmps25
  go_wp2_with fail
  refine (count_any _ (ixE e) 1 h (fun g W => place_err g e W) (fun k hk => by have := ixE_lt hk; omega)).mono ?_
  rintro e' w1 ⟨rfl, h1, h2⟩
  go_wp2_with fail
  go_ret
  exact ⟨rfl, h1, h2⟩
theorem leave_nil (r n : Int) (w : World) :
    Calls Tryz.prog 26 #[.pointer none, .int .i64 r, .int .i64 n] w fun e' w' => e' = .returned (.int .i64 1) ∧ Below w.heap.size w w' := by
  go_enter Tryz.func26, Tryz.ntmps26
  go_wp2_with fail
  refine (count_nil _ _ _).mono ?_
  rintro e' w1 ⟨rfl, b1⟩
  go_wp2_with fail
  go_ret
  exact ⟨rfl, b1⟩
theorem leave_any {w : World} {g : Nat} {L : List Int} (r n : Int) (h : Ta w g L) :
    Calls Tryz.prog 26 #[.pointer (some ⟨g, 0, none⟩), .int .i64 r, .int .i64 n] w fun e' w' => e' = .returned (.int .i64 (cntE (ixR r) n)) ∧ Ta w' g (cntL L (ixR r) n) ∧ Fr (fun k => k ≠ g) w w' := by
  go_enter Tryz.func26, Tryz.ntmps26
  go_wp2_with fail
  refine (count_any _ (ixR r) n h (fun g W => place_rea g r W) (fun k hk => ixR_lt hk)).mono ?_
  rintro e' w1 ⟨rfl, h1, h2⟩
  go_wp2_with fail
  go_ret
  exact ⟨rfl, h1, h2⟩
theorem refused_nil (e : Int) (w : World) :
    Calls Tryz.prog 27 #[.pointer none, .int .i64 e] w fun e' w' => e' = .returned (.int .i64 0) ∧ Below w.heap.size w w' := by
  go_enter Tryz.func27, Tryz.ntmps27
  go_wp2_with fail
  refine (many_nil _ _).mono ?_
  rintro e' w1 ⟨rfl, b1⟩
  go_wp2_with fail
  go_ret
  exact ⟨rfl, b1⟩
theorem refused_any {w : World} {g : Nat} {L : List Int} (e : Int) (h : Ta w g L) :
    Calls Tryz.prog 27 #[.pointer (some ⟨g, 0, none⟩), .int .i64 e] w fun e' w' => e' = .returned (.int .i64 (manyF L (ixE e))) ∧ Below w.heap.size w w' := by
  go_enter Tryz.func27, Tryz.ntmps27
  go_wp2_with fail
  refine (many_any _ (ixE e) h (fun g W => place_err g e W) (fun k hk => by have := ixE_lt hk; omega)).mono ?_
  rintro e' w1 ⟨rfl, b1⟩
  go_wp2_with fail
  go_ret
  exact ⟨rfl, b1⟩
theorem leftout_nil (r : Int) (w : World) :
    Calls Tryz.prog 28 #[.pointer none, .int .i64 r] w fun e' w' => e' = .returned (.int .i64 0) ∧ Below w.heap.size w w' := by
  go_enter Tryz.func28, Tryz.ntmps28
  go_wp2_with fail
  refine (many_nil _ _).mono ?_
  rintro e' w1 ⟨rfl, b1⟩
  go_wp2_with fail
  go_ret
  exact ⟨rfl, b1⟩
theorem leftout_any {w : World} {g : Nat} {L : List Int} (r : Int) (h : Ta w g L) :
    Calls Tryz.prog 28 #[.pointer (some ⟨g, 0, none⟩), .int .i64 r] w fun e' w' => e' = .returned (.int .i64 (manyF L (ixR r))) ∧ Below w.heap.size w w' := by
  go_enter Tryz.func28, Tryz.ntmps28
  go_wp2_with fail
  refine (many_any _ (ixR r) h (fun g W => place_rea g r W) (fun k hk => ixR_lt hk)).mono ?_
  rintro e' w1 ⟨rfl, b1⟩
  go_wp2_with fail
  go_ret
  exact ⟨rfl, b1⟩

/-- what is seen: the error, the datagram -/
def lookE (f : Int) (l : List UInt8) : Int := if f ≠ 0 then f else decE l
def lookL (f : Int) (l : List UInt8) : List Er := if f ≠ 0 then [] else desL l
def lookC (f : Int) (l : List UInt8) : Int := if f ≠ 0 then 0 else dcmd l
def LookP (f : Int) (l : List UInt8) (w : World) (e : Ending) (w' : World) : Prop :=
  ∃ A c, e = .returned (.tuple #[.agg #[.int .i64 (lookC f l), .slice A (lookL f l).length c], .int .i64 (lookE f l)]) ∧ (lookL f l).length ≤ c ∧ c ≤ 9223372036854775807 ∧ Rd w' w'.heap.size A (erC (lookL f l)) ∧ Below w.heap.size w w'
theorem lookP_no {f : Int} {l : List UInt8} {w w' : World} (h : f ≠ 0) (hb : Below w.heap.size w w') : LookP f l w (.returned (.tuple #[.agg #[.int .i64 0, .slice none 0 0], .int .i64 f])) w' := by
  have h1 : lookL f l = [] := if_pos h
  refine ⟨none, 0, ?_, by rw [h1]; decide, by decide, by rw [h1]; exact Rd.nil, hb⟩
  rw [h1, show lookC f l = 0 from if_pos h, show lookE f l = f from if_pos h]
  rfl
theorem lookP_bad {l : List UInt8} {w w' : World} {k : Int} (h : decE l = k) (hk : k ≠ 0) (hb : Below w.heap.size w w') : LookP 0 l w (.returned (.tuple #[.agg #[.int .i64 0, .slice none 0 0], .int .i64 k])) w' := by
  have h2 : desL l = [] := by unfold desL; rw [if_neg (by rw [h]; exact hk)]
  have h3 : dcmd l = 0 := by unfold dcmd; rw [if_neg (by rw [h]; exact hk)]
  have h1 : lookL 0 l = [] := by unfold lookL; rw [if_neg (by decide), h2]
  refine ⟨none, 0, ?_, by rw [h1]; decide, by decide, by rw [h1]; exact Rd.nil, hb⟩
  rw [h1, show lookC 0 l = 0 by unfold lookC; rw [if_neg (by decide), h3], show lookE 0 l = k by unfold lookE; rw [if_neg (by decide), h]]
  rfl
theorem lookP_dec {l : List UInt8} {w w' : World} {A : Option Addr} {c : Nat} (h1 : (desL l).length ≤ c) (h2 : c ≤ 9223372036854775807) (h3 : Rd w' w'.heap.size A (erC (desL l))) (hb : Below w.heap.size w w') :
    LookP 0 l w (.returned (.tuple #[.agg #[.int .i64 (dcmd l), .slice A (desL l).length c], .int .i64 (decE l)])) w' := by
  have e1 : lookL 0 l = desL l := if_neg (by decide)
  refine ⟨A, c, ?_, by rw [e1]; exact h1, h2, by rw [e1]; exact h3, hb⟩
  rw [e1, show lookC 0 l = dcmd l from if_neg (by decide), show lookE 0 l = decE l from if_neg (by decide)]

set_option maxHeartbeats 1000000 in
theorem look_at (S : Value) (f : Int) (i : Int) (a : Nat) (l : List UInt8) (n : Nat) (hn : l.length = n) (A : Option Addr) (c : Nat) (w : World) (hw : WidthsAt w) (h : Rd w w.heap.size A (l.map b8)) (hlc : n ≤ c) (hc : c ≤ 9223372036854775807)
    (HF : ∀ W, Below w.heap.size w W → Calls Tryz.prog 42 #[S, .int .i64 i, .int .u32 a] W fun e w' => e = .returned (.int .i64 f) ∧ Below W.heap.size W w') :
    Calls Tryz.prog 11 #[S, .int .i64 i, .int .u32 a, .slice A n c] w (LookP f l w) := by
  have B0 : Below w.heap.size w (w.alloc (.cells #[.int .i64 0, .slice none 0 0] 35)) := balloc (Below.refl _ _) _
  have yo := Blk.new w 35 #[.int .i64 0, .slice none 0 0]
  have HFh := Lib.hid (HF _ B0)
  have HD := Lib.hid (fun W (hb : Below w.heap.size w W) => decode_any l n hn A c w.heap.size W (hw.below hb) (h.below hb) hlc hc hb.size)
  have Y := Lib.hid (And.intro yo B0)
  clear B0 yo HF hn hw h
  by_cases hf : f = 0
  case neg =>
    have d1 : (f != 0) = true := by simpa using hf
    have HN := Lib.hid hf
    clear hf
    go_enter Tryz.func11, Tryz.ntmps11
    go_wp2_with fail
    refine HFh.out.mono ?_
    rintro e w1 ⟨rfl, b1⟩
    obtain ⟨yo, BB⟩ := Y.out
    replace yo := yo.below b1 yo.lt
    replace BB := bnext BB b1
    have k0 := (yo).cell 0
    have k1 := (yo).cell 1
    simp only [List.getElem?_toArray, List.getElem?_cons_zero, List.getElem?_cons_succ] at k0 k1
    have f0 := yo.frozen 0
    have f1 := yo.frozen 1
    have z0 := (yo.set 0 (.int .i64 0)).cell 0
    simp only [List.setIfInBounds_toArray, List.set_cons_zero, List.getElem?_toArray, List.getElem?_cons_zero] at z0
    have zs := (yo.set 0 (.int .i64 0)).set 1 (.slice none 0 0)
    simp only [List.setIfInBounds_toArray, List.set_cons_zero, List.set_cons_succ] at zs
    have z1 := zs.cell 1
    simp only [List.getElem?_toArray, List.getElem?_cons_zero, List.getElem?_cons_succ] at z1
    have BZ := Lib.hid ((BB.setCell (p := ⟨w.heap.size, 0, none⟩) (Nat.le_refl _) (.int .i64 0)).setCell (p := ⟨w.heap.size, 1, none⟩) (Nat.le_refl _) (.slice none 0 0))
    clear yo BB b1 zs
    go_wp2_with fail
    refine bodyPost_ret (v := .tuple #[.agg #[.int .i64 0, .slice none 0 0], .int .i64 f]) (by simp [results, Tryz.results11, go_sem, z0, z1]) rfl ?_
    exact lookP_no HN.out BZ.out
  subst hf
  by_cases hE : decE l = 0
  case neg =>
    obtain ⟨k, hk⟩ : ∃ k, decE l = k := ⟨_, rfl⟩
    have HK := Lib.hid hk
    have HN := Lib.hid (show k ≠ 0 by rw [← hk]; exact hE)
    have d1 : (k != 0) = true := by simpa using HN.out
    clear hE hk
    go_enter Tryz.func11, Tryz.ntmps11
    go_wp2_with fail
    refine HFh.out.mono ?_
    rintro e w1 ⟨rfl, b1⟩
    obtain ⟨yo, BB⟩ := Y.out
    replace yo := yo.below b1 yo.lt
    replace BB := bnext BB b1
    have HDc := HD.out w1 BB
    have Y2 := Lib.hid (And.intro yo BB)
    clear yo BB b1
    go_wp2_with fail
    refine HDc.mono ?_
    rintro e w2 ⟨A1, c1, rfl, -, -, -, b2, -⟩
    rw [HK.out]
    obtain ⟨yo, BB⟩ := Y2.out
    generalize (desL l).length = q
    generalize dcmd l = dc
    replace yo := (yo.below b2 yo.lt).alloc (.cells #[.int .i64 dc, .slice A1 q c1] 35)
    replace BB := balloc (bnext BB b2) (.cells #[.int .i64 dc, .slice A1 q c1] 35)
    have k0 := (yo).cell 0
    have k1 := (yo).cell 1
    simp only [List.getElem?_toArray, List.getElem?_cons_zero, List.getElem?_cons_succ] at k0 k1
    have f0 := yo.frozen 0
    have f1 := yo.frozen 1
    have z0 := (yo.set 0 (.int .i64 0)).cell 0
    simp only [List.setIfInBounds_toArray, List.set_cons_zero, List.getElem?_toArray, List.getElem?_cons_zero] at z0
    have zs := (yo.set 0 (.int .i64 0)).set 1 (.slice none 0 0)
    simp only [List.setIfInBounds_toArray, List.set_cons_zero, List.set_cons_succ] at zs
    have z1 := zs.cell 1
    simp only [List.getElem?_toArray, List.getElem?_cons_zero, List.getElem?_cons_succ] at z1
    have BZ := Lib.hid ((BB.setCell (p := ⟨w.heap.size, 0, none⟩) (Nat.le_refl _) (.int .i64 0)).setCell (p := ⟨w.heap.size, 1, none⟩) (Nat.le_refl _) (.slice none 0 0))
    clear yo BB b2 zs
    go_wp2_with fail
    refine bodyPost_ret (v := .tuple #[.agg #[.int .i64 0, .slice none 0 0], .int .i64 k]) (by simp [results, Tryz.results11, go_sem, z0, z1]) rfl ?_
    exact lookP_bad HK.out HN.out BZ.out
  case pos =>
    have HE := Lib.hid hE
    clear hE
    go_enter Tryz.func11, Tryz.ntmps11
    go_wp2_with fail
    refine HFh.out.mono ?_
    rintro e w1 ⟨rfl, b1⟩
    obtain ⟨yo, BB⟩ := Y.out
    replace yo := yo.below b1 yo.lt
    replace BB := bnext BB b1
    have HDc := HD.out w1 BB
    have Y2 := Lib.hid (And.intro yo BB)
    clear yo BB b1
    go_wp2_with fail
    refine HDc.mono ?_
    rintro e w2 ⟨A1, c1, rfl, q1, q2, q3, b2, q4⟩
    rw [HE.out]
    obtain ⟨yo, BB⟩ := Y2.out
    have hlt := yo.lt
    have hoff := Lib.hid (show ∀ a, A1 = some a → w.heap.size ≠ a.block from fun a ha => by have := q4 a ha; omega)
    have QQ := Lib.hid (And.intro q1 (And.intro q2 q3))
    clear q1 q2 q3 q4 hlt
    obtain ⟨q, hq⟩ : ∃ q, q = (desL l).length := ⟨_, rfl⟩
    obtain ⟨dc, hdc⟩ : ∃ dc, dc = dcmd l := ⟨_, rfl⟩
    rw [← hq, ← hdc]
    have HQ := Lib.hid (And.intro hq hdc)
    clear hq hdc
    have yd := Blk.new w2 35 #[.int .i64 dc, .slice A1 q c1]
    replace yo := (yo.below b2 yo.lt).alloc (.cells #[.int .i64 dc, .slice A1 q c1] 35)
    replace BB := balloc (bnext BB b2) (.cells #[.int .i64 dc, .slice A1 q c1] 35)
    have R3 := Lib.hid (((QQ.out.2.2.alloc (Nat.le_refl _) (.cells #[.int .i64 dc, .slice A1 q c1] 35)).off (i := 0) hoff.out (.int .i64 dc)).off (i := 1) hoff.out (.slice A1 q c1))
    have k0 := (yo).cell 0
    have k1 := (yo).cell 1
    simp only [List.getElem?_toArray, List.getElem?_cons_zero, List.getElem?_cons_succ] at k0 k1
    have d0 := (yd).cell 0
    have d1 := (yd).cell 1
    simp only [List.getElem?_toArray, List.getElem?_cons_zero, List.getElem?_cons_succ] at d0 d1
    have f0 := yo.frozen 0
    have f1 := yo.frozen 1
    have z0 := (yo.set 0 (.int .i64 dc)).cell 0
    simp only [List.setIfInBounds_toArray, List.set_cons_zero, List.getElem?_toArray, List.getElem?_cons_zero] at z0
    have zs := (yo.set 0 (.int .i64 dc)).set 1 (.slice A1 q c1)
    simp only [List.setIfInBounds_toArray, List.set_cons_zero, List.set_cons_succ] at zs
    have z1 := zs.cell 1
    simp only [List.getElem?_toArray, List.getElem?_cons_zero, List.getElem?_cons_succ] at z1
    have BZ := Lib.hid ((BB.setCell (p := ⟨w.heap.size, 0, none⟩) (Nat.le_refl _) (.int .i64 dc)).setCell (p := ⟨w.heap.size, 1, none⟩) (Nat.le_refl _) (.slice A1 q c1))
    clear BB b2 zs yd yo
    go_wp2_with fail
    refine bodyPost_ret (v := .tuple #[.agg #[.int .i64 dc, .slice A1 q c1], .int .i64 0]) (by simp [results, Tryz.results11, go_sem, z0, z1]) rfl ?_
    have zz := lookP_dec (l := l) QQ.out.1 QQ.out.2.1 (R3.out.more (by simp)) BZ.out
    rw [HE.out, ← HQ.out.1, ← HQ.out.2] at zz
    exact zz

theorem look_any {w : World} {n0 g : Nat} {v : Value} {fs : List Fc} (hF : Fs w n0 g v fs) (i : Int) (a : Nat) (ha : a < 4294967296) (l : List UInt8) (n : Nat) (hn : l.length = n) (A : Option Addr) (c : Nat) (hw : WidthsAt w) (h : Rd w w.heap.size A (l.map b8)) (hlc : n ≤ c) (hc : c ≤ 9223372036854775807) :
    Calls Tryz.prog 11 #[.pointer (some ⟨g, 0, none⟩), .int .i64 i, .int .u32 a, .slice A n c] w (LookP (fromFE fs i a) l w) :=
  look_at _ _ i a l n hn A c w hw h hlc hc (fun W hb => from_any i a ha (hF.below hb))
theorem look_nil (i : Int) (a : Nat) (l : List UInt8) (n : Nat) (hn : l.length = n) (A : Option Addr) (c : Nat) (w : World) (hw : WidthsAt w) (h : Rd w w.heap.size A (l.map b8)) (hlc : n ≤ c) (hc : c ≤ 9223372036854775807) :
    Calls Tryz.prog 11 #[.pointer none, .int .i64 i, .int .u32 a, .slice A n c] w (LookP 1 l w) :=
  look_at _ _ i a l n hn A c w hw h hlc hc (fun W hb => from_nil i a W)

theorem er_set {w : World} {g : Nat} {t : TypeId} {u v : Value} {A : Option Addr} {l : List Er} {B : Nat} (hb : Blk w g t #[u, v]) (h : Rd w B A (erC l)) (x y : Value) : Rd ((w.setCell ⟨g, 0, none⟩ x).setCell ⟨g, 1, none⟩ y) B A (erC l) := by
  cases l with
  | nil => exact Rd.nil
  | cons e l =>
    have hp : ∀ a, A = some a → g ≠ a.block := fun a ha hg => by
      obtain ⟨b, off, hA, _, hc⟩ := h (by rw [erC_len]; simp)
      rw [hA] at ha
      cases ha
      have h5 := hc 5 (.int .u32 e.k) rfl
      simp only at hg
      subst hg
      rw [hb.cell] at h5
      simp at h5
    exact (h.off hp x).off hp y

set_option maxHeartbeats 1000000 in
theorem reflook_any (fs : List Fc) (m k : Nat) (AF : Option Addr) (i : Int) (a : Nat) (ha : a < 4294967296) (l : List UInt8) (n : Nat) (hn : l.length = n) (A : Option Addr) (c : Nat) (w : World) (hL : Ls w w.heap.size AF m k fs) (h : Rd w w.heap.size A (l.map b8)) (hlc : n ≤ c) (hc : c ≤ 9223372036854775807) :
    Calls Tryz.prog 12 #[.slice AF m k, .int .i64 i, .int .u32 a, .slice A n c] w (LookP (fromFE fs i a) l w) := by
  have B0 : Below w.heap.size w (w.alloc (.cells #[.int .i64 0, .slice none 0 0] 35)) := balloc (Below.refl _ _) _
  have yo := Blk.new w 35 #[.int .i64 0, .slice none 0 0]
  have HFh := Lib.hid (refFrom9_any fs m k w.heap.size AF i a _ ⟨hL.len, hL.cap, hL.rd.below B0, hL.fit⟩ B0.size ha)
  have HD := Lib.hid (fun W (hb : Below w.heap.size w W) => refdecode5_any l n hn A c w.heap.size W (h.below hb) hlc hc hb.size)
  have Y := Lib.hid (And.intro yo B0)
  clear B0 yo hL hn h ha
  generalize fromFE fs i a = f at *
  by_cases hf : f = 0
  case neg =>
    have d1 : (f != 0) = true := by simpa using hf
    have HN := Lib.hid hf
    clear hf
    go_enter Tryz.func12, Tryz.ntmps12
    go_wp2_with fail
    refine HFh.out.mono ?_
    rintro e w1 ⟨rfl, b1⟩
    obtain ⟨yo, BB⟩ := Y.out
    replace yo := yo.below b1 yo.lt
    replace BB := bnext BB b1
    have k0 := (yo).cell 0
    have k1 := (yo).cell 1
    simp only [List.getElem?_toArray, List.getElem?_cons_zero, List.getElem?_cons_succ] at k0 k1
    have f0 := yo.frozen 0
    have f1 := yo.frozen 1
    have z0 := (yo.set 0 (.int .i64 0)).cell 0
    simp only [List.setIfInBounds_toArray, List.set_cons_zero, List.getElem?_toArray, List.getElem?_cons_zero] at z0
    have zs := (yo.set 0 (.int .i64 0)).set 1 (.slice none 0 0)
    simp only [List.setIfInBounds_toArray, List.set_cons_zero, List.set_cons_succ] at zs
    have z1 := zs.cell 1
    simp only [List.getElem?_toArray, List.getElem?_cons_zero, List.getElem?_cons_succ] at z1
    have BZ := Lib.hid ((BB.setCell (p := ⟨w.heap.size, 0, none⟩) (Nat.le_refl _) (.int .i64 0)).setCell (p := ⟨w.heap.size, 1, none⟩) (Nat.le_refl _) (.slice none 0 0))
    clear yo BB b1 zs
    go_wp2_with fail
    refine bodyPost_ret (v := .tuple #[.agg #[.int .i64 0, .slice none 0 0], .int .i64 f]) (by simp [results, Tryz.results12, go_sem, z0, z1]) rfl ?_
    exact lookP_no HN.out BZ.out
  subst hf
  go_enter Tryz.func12, Tryz.ntmps12
  go_wp2_with fail
  refine HFh.out.mono ?_
  rintro e w1 ⟨rfl, b1⟩
  obtain ⟨yo, BB⟩ := Y.out
  replace yo := yo.below b1 yo.lt
  replace BB := bnext BB b1
  have HDc := HD.out w1 BB
  have Y2 := Lib.hid (And.intro yo BB)
  clear yo BB b1
  go_wp2_with fail
  refine HDc.mono ?_
  rintro e w2 ⟨A1, c1, rfl, q1, q2, q3, b2⟩
  obtain ⟨yo, BB⟩ := Y2.out
  replace yo := yo.below b2 yo.lt
  replace BB := bnext BB b2
  generalize hq : (desL l).length = q at *
  generalize hdc : dcmd l = dc at *
  generalize hde : decE l = de at *
  have HQ := Lib.hid (And.intro hq (And.intro hdc hde))
  have R3 := Lib.hid (er_set yo q3 (.int .i64 dc) (.slice A1 q c1))
  have QQ := Lib.hid (And.intro q1 q2)
  clear hq hdc hde q1 q2 q3
  have k0 := (yo).cell 0
  have k1 := (yo).cell 1
  simp only [List.getElem?_toArray, List.getElem?_cons_zero, List.getElem?_cons_succ] at k0 k1
  have f0 := yo.frozen 0
  have f1 := yo.frozen 1
  have z0 := (yo.set 0 (.int .i64 dc)).cell 0
  simp only [List.setIfInBounds_toArray, List.set_cons_zero, List.getElem?_toArray, List.getElem?_cons_zero] at z0
  have zs := (yo.set 0 (.int .i64 dc)).set 1 (.slice A1 q c1)
  simp only [List.setIfInBounds_toArray, List.set_cons_zero, List.set_cons_succ] at zs
  have z1 := zs.cell 1
  simp only [List.getElem?_toArray, List.getElem?_cons_zero, List.getElem?_cons_succ] at z1
  have BZ := Lib.hid ((BB.setCell (p := ⟨w.heap.size, 0, none⟩) (Nat.le_refl _) (.int .i64 dc)).setCell (p := ⟨w.heap.size, 1, none⟩) (Nat.le_refl _) (.slice A1 q c1))
  clear yo BB b2 zs
  go_wp2_with fail
  refine bodyPost_ret (v := .tuple #[.agg #[.int .i64 dc, .slice A1 q c1], .int .i64 de]) (by simp [results, Tryz.results12, go_sem, z0, z1]) rfl ?_
  have zz := lookP_dec (l := l) (by rw [HQ.out.1]; exact QQ.out.1) QQ.out.2 (R3.out.more (by simp)) BZ.out
  rw [HQ.out.1, HQ.out.2.1, HQ.out.2.2] at zz
  exact zz
end Go.Proofs.YtlanfceilajifaaGreatDoor
