/- packet: isCommand, haveBytes, Encode. -/
import Derived.Test.YtpadlillbofpnaaDoorPk1
import Derived.Test.YtpadlillbofpnaaDoorEBy3
namespace Go.Proofs.YtpadlillbofpnaaDoor
set_option linter.unusedVariables false
set_option linter.unusedSimpArgs false
open Go.RowKit
set_option maxRecDepth 100000
def cmdB (c : Int) : Bool := decide (c = 1 ∨ c = 2)
theorem iscmd_any (c : Int) (w : World) : Calls Tryd.prog 30 #[.int .i64 c] w fun e w' => e = .returned (.bool (cmdB c)) ∧ w = w' := by
  by_cases h1 : c = 1
  · subst h1
    go_enter Tryd.func30, Tryd.ntmps30
    go_wp2
    go_ret
    exact ⟨rfl, rfl⟩
  · by_cases h2 : c = 2
    · subst h2
      go_enter Tryd.func30, Tryd.ntmps30
      go_wp2
      go_ret
      exact ⟨rfl, rfl⟩
    · rw [show cmdB c = false from decide_eq_false (by omega)]
      have g1 : (c == 1) = false := by rw [beq_eq_false_iff_ne]; exact h1
      have g2 : (c == 2) = false := by rw [beq_eq_false_iff_ne]; exact h2
      clear h1 h2
      go_enter Tryd.func30, Tryd.ntmps30
      go_wp2
      go_ret
      exact ⟨rfl, rfl⟩
theorem refcmd_any (c : Int) (w : World) : Calls Tryd.prog 36 #[.int .i64 c] w fun e w' => e = .returned (.bool (cmdB c)) ∧ w = w' := by
  by_cases h1 : c = 1
  · subst h1
    go_enter Tryd.func36, Tryd.ntmps36
    go_wp2
    go_ret
    exact ⟨rfl, rfl⟩
  · by_cases h2 : c = 2
    · subst h2
      go_enter Tryd.func36, Tryd.ntmps36
      go_wp2
      go_ret
      exact ⟨rfl, rfl⟩
    · rw [show cmdB c = false from decide_eq_false (by omega)]
      have g1 : (c == 1) = false := by rw [beq_eq_false_iff_ne]; exact h1
      have g2 : (c == 2) = false := by rw [beq_eq_false_iff_ne]; exact h2
      clear h1 h2
      go_enter Tryd.func36, Tryd.ntmps36
      go_wp2
      go_ret
      exact ⟨rfl, rfl⟩
/-- the bytes of an entry, and whether it has some -/
def enB (e : Er) : List UInt8 := entB e.f.toNat e.t.toNat e.a e.m e.x e.k
def okE (e : Er) : Bool := rightF e.f e.t
theorem enB_len (e : Er) : (enB e).length = 20 := by simp [enB, entB, bs_length]
def esB (l : List Er) : List UInt8 := l.flatMap enB
theorem esB_len (l : List Er) : (esB l).length = l.length * 20 := by
  induction l with
  | nil => rfl
  | cons x l ih => simp only [esB, List.flatMap_cons, List.length_append, enB_len, List.length_cons] at ih ⊢; rw [ih]; omega
theorem okE_parts {e : Er} (h : okE e = true) : e.f = (e.f.toNat : Int) ∧ e.f.toNat < 65536 ∧ e.t = (e.t.toNat : Int) ∧ e.t.toNat < 65536 := by
  have := of_decide_eq_true h
  omega
theorem ebytes_any (e : Er) (w : World) (hf : fitR e) (hw : WidthsAt w) : Calls Tryd.prog 32 #[.agg (erA e)] w (GivesB (if okE e then enB e else []) (if okE e then 0 else 2) w) := by
  obtain ⟨f, t, a, m, x, k⟩ := e
  cases hok : okE ⟨f, t, a, m, x, k⟩
  · simp only [Bool.false_eq_true, if_false]
    have h := of_decide_eq_false hok
    change ¬ (0 ≤ f ∧ f ≤ 65535 ∧ 0 ≤ t ∧ t ≤ 65535) at h
    exact bytes_no f t a m x k w (by omega)
  · obtain ⟨h1, h2, h3, h4⟩ := okE_parts hok
    simp only [if_true]
    have := bytes_ok f.toNat t.toNat a m x k w hw h2 h4 hf.1 hf.2.1 hf.2.2.1 hf.2.2.2
    simp only [erA]
    rw [← h1, ← h3] at this
    exact this
theorem refebytes_any (e : Er) (w : World) (hf : fitR e) (hok : okE e = true) : Calls Tryd.prog 52 #[.agg (erA e)] w (GivesS (enB e) w) := by
  obtain ⟨f, t, a, m, x, k⟩ := e
  obtain ⟨h1, h2, h3, h4⟩ := okE_parts hok
  have := refEBytes_any f.toNat t.toNat a m x k w h2 h4 hf.1 hf.2.1 hf.2.2.1 hf.2.2.2
  simp only [erA]
  rw [← h1, ← h3] at this
  exact this

set_option maxHeartbeats 1000000 in
theorem have_any (l : List Er) (n c : Nat) (hn : l.length = n) (A : Option Addr) (w : World) (hr : Rd w w.heap.size A (erC l)) (hf : ∀ e ∈ l, fitR e) (hw : WidthsAt w) (hc : n ≤ 9223372036854775806) :
    Calls Tryd.prog 31 #[.slice A n c] w fun e w' => e = .returned (.bool (l.all okE)) ∧ Below w.heap.size w w' := by
  have HN := Lib.hid hn
  have HR := Lib.hid hr
  have HF := Lib.hid hf
  have HW := Lib.hid hw
  clear hn hr hf hw
  go_enter Tryd.func31, Tryd.ntmps31
  go_wp2
  go_loopw [9] (fun i wr => ∃ j : Nat, j ≤ n ∧ i = .int .i64 j ∧ Below w.heap.size w wr ∧ (l.take j).all okE = true) (fun i _ => n - (intOf i).toNat)
  case atStart => exact ⟨0, Nat.zero_le _, rfl, Below.refl _ _, by simp⟩
  case round =>
    obtain ⟨j, hj, rfl, hb, hall⟩ := hrel
    have HB := Lib.hid hb
    have HA := Lib.hid hall
    clear hb hall
    by_cases hlt : j < n
    · obtain ⟨x, hx⟩ : ∃ x, l[j]? = some x := ⟨l[j]'(by rw [HN.out]; exact hlt), List.getElem?_eq_getElem _⟩
      obtain ⟨b, off, rfl, _, q0, q1, q2, q3, q4, q5⟩ := er_at (HR.out.below HB.out) hx
      have HM := Lib.hid (List.mem_of_getElem? hx)
      have HNX := Lib.hid (show (l.take (j + 1)).all okE = okE x by rw [List.take_add_one, hx]; simp only [Option.toList_some, List.all_append, HA.out, Bool.true_and, List.all_cons, List.all_nil, Bool.and_true])
      have HC := Lib.hid (fun W hW => ebytes_any x W (HF.out x HM.out) hW)
      have hj2 : (j : Int) < (n : Int) := by omega
      simp only [erA] at HC
      have HWA := Lib.hid (HW.out.below (balloc HB.out (.cells (erA x) 55)))
      simp only [erA] at HWA
      clear hx
      cases hok : okE x
      · rw [hok] at HC
        simp only [Bool.false_eq_true, if_false] at HC
        have HAL := Lib.hid (show l.all okE = false from List.all_eq_false.2 ⟨x, HM.out, by rw [hok]; simp⟩)
        clear hok
        go_wp2_with fail
        refine (HC.out _ HWA.out).mono ?_
        rintro e w2 ⟨A2, c2, rfl, _, _, _, b2⟩
        go_wp2_with fail
        go_ret
        rw [HAL.out]
        exact ⟨rfl, bnext (balloc HB.out _) b2⟩
      · rw [hok] at HC HNX
        simp only [if_true] at HC
        clear hok
        go_wp2_with fail
        refine (HC.out _ HWA.out).mono ?_
        rintro e w2 ⟨A2, c2, rfl, _, _, _, b2⟩
        go_wp2_with fail
        go_roundw
        case rel => exact ⟨j + 1, by omega, by go_num, bnext (balloc HB.out _) b2, HNX.out⟩
        case measure => simp [intOf]; omega
    · obtain rfl : j = n := by omega
      have HAL := Lib.hid (show l.all okE = true by have := HA.out; rwa [List.take_of_length_le (by rw [HN.out]; exact Nat.le_refl _)] at this)
      go_wp2_with fail
      go_ret
      rw [HAL.out]
      exact ⟨rfl, HB.out⟩

/-- what Encode answers -/
def encE (c : Int) (l : List Er) : Int := if cmdB c = false then 2 else if 25 < l.length then 3 else if l.all okE then 0 else 2
def headB (c : Int) : List UInt8 := [UInt8.ofNat c.toNat, 2, 0, 0]
def pkB (c : Int) (l : List Er) : List UInt8 := headB c ++ esB l
def encB (c : Int) (l : List Er) : List UInt8 := if encE c l = 0 then pkB c l else []
theorem gives_none (k : Int) {w w' : World} (h : Below w.heap.size w w') : GivesB [] k w (.returned (.tuple #[.slice none 0 0, .int .i64 k])) w' := ⟨none, 0, rfl, by simp, by omega, Rd.nil, h⟩
theorem esB_step {l : List Er} {j : Nat} {x : Er} (h : l[j]? = some x) : esB (l.take (j + 1)) = esB (l.take j) ++ enB x := by
  unfold esB
  rw [List.take_add_one, h]
  simp
theorem cmd_cases {c : Int} (h : cmdB c = true) : c = 1 ∨ c = 2 := of_decide_eq_true h

set_option maxHeartbeats 4000000 in
theorem encode_any (cm : Int) (l : List Er) (n c : Nat) (hn : l.length = n) (A : Option Addr) (w : World) (hr : Rd w w.heap.size A (erC l)) (hf : ∀ e ∈ l, fitR e) (hw : WidthsAt w) (hc : n ≤ 9223372036854775806) :
    Calls Tryd.prog 14 #[.agg #[.int .i64 cm, .slice A n c]] w (GivesB (encB cm l) (encE cm l) w) := by
  obtain ⟨i0, hi0, hz0, hz1, hz2⟩ := info_parts u8_info
  have HN := Lib.hid hn
  have HR := Lib.hid hr
  have HF := Lib.hid hf
  have HW := Lib.hid hw
  have HB1 := Lib.hid (show Below w.heap.size w (w.alloc (.cells #[.int .i64 cm, .slice A n c] 27)) from balloc (Below.refl _ _) _)
  clear hn hr hf hw
  have HIC := Lib.hid (fun W => iscmd_any cm W)
  cases hcm : cmdB cm
  · rw [hcm] at HIC
    have he : encE cm l = 2 := by unfold encE; rw [if_pos hcm]
    have he2 : encB cm l = [] := by unfold encB; rw [he]; rfl
    rw [he, he2]
    clear hcm he he2
    go_enter Tryd.func14, Tryd.ntmps14
    go_wp2_with (go_at_call 30; refine (HIC.out _).mono ?_; rintro e w' ⟨rfl, rfl⟩)
    go_ret2
    exact gives_none 2 HB1.out
  rw [hcm] at HIC
  by_cases h25 : 25 < n
  · have he : encE cm l = 3 := by unfold encE; rw [if_neg (by rw [hcm]; simp), if_pos (by rw [HN.out]; exact h25)]
    have he2 : encB cm l = [] := by unfold encB; rw [he]; rfl
    rw [he, he2]
    have g1 : decide ((25 : Int) < n) = true := decide_eq_true (by omega)
    have g1' : decide (25 < n) = true := decide_eq_true h25
    clear hcm he he2
    go_enter Tryd.func14, Tryd.ntmps14
    go_wp2_with (go_at_call 30; refine (HIC.out _).mono ?_; rintro e w' ⟨rfl, rfl⟩)
    go_ret2
    exact gives_none 3 HB1.out
  have g1 : decide ((25 : Int) < n) = false := decide_eq_false (by omega)
  have g1' : decide (25 < n) = false := decide_eq_false h25
  have HH := Lib.hid (have_any l n c HN.out A _ ((HR.out.below HB1.out).more HB1.out.size) HF.out (HW.out.below HB1.out) hc)
  cases hall : l.all okE
  · rw [hall] at HH
    have he : encE cm l = 2 := by unfold encE; rw [if_neg (by rw [hcm]; simp), if_neg (by rw [HN.out]; exact h25), if_neg (by rw [hall]; simp)]
    have he2 : encB cm l = [] := by unfold encB; rw [he]; rfl
    rw [he, he2]
    clear hcm he he2 hall
    go_enter Tryd.func14, Tryd.ntmps14
    go_wp2_with (first | (go_at_call 30; refine (HIC.out _).mono ?_; rintro e w' ⟨rfl, rfl⟩) | (go_at_call 31; refine HH.out.mono ?_; rintro e w2 ⟨rfl, b2⟩))
    go_ret2
    exact gives_none 2 (bnext HB1.out b2)
  rw [hall] at HH
  have he : encE cm l = 0 := by unfold encE; rw [if_neg (by rw [hcm]; simp), if_neg (by rw [HN.out]; exact h25), if_pos hall]
  have he2 : encB cm l = pkB cm l := by unfold encB; rw [if_pos he]
  rw [he, he2]
  have HALL := Lib.hid (List.all_eq_true.1 hall)
  have HX := Lib.hid (Blk.new w 27 #[.int .i64 cm, .slice A n c])
  have hcv : IntKind.u8.wrap cm = cm := by rcases cmd_cases hcm with rfl | rfl <;> rfl
  have HHD := Lib.hid (show ([.int .u8 cm, .int .u8 2, .int .u8 0, .int .u8 0] : List Value) = (headB cm).map b8 by rcases cmd_cases hcm with rfl | rfl <;> rfl)
  clear hcm he he2 hall
  go_enter Tryd.func14, Tryd.ntmps14
  go_wp2_with (go_at_call 30; refine (HIC.out _).mono ?_; rintro e w' ⟨rfl, rfl⟩)
  refine HH.out.mono ?_
  rintro e w2 ⟨rfl, b2⟩
  have kx := HX.out.below b2 HX.out.lt
  have d0 := (kx).cell 0
  have d1 := (kx).cell 1
  simp only [List.getElem?_toArray, List.getElem?_cons_zero, List.getElem?_cons_succ] at d0 d1
  have hB2 := bnext HB1.out b2
  have HB2 := Lib.hid hB2
  have kl := kx.lt
  clear b2 kx HH
  go_wp2_with fail
  have hown : (w2.alloc (.cells #[.int .u8 cm, .int .u8 2, .int .u8 0, .int .u8 0] 5)).ownsRow w.heap.size 5 1 (.slice (some ⟨w2.heap.size, 0, none⟩) 4 4) 4 ((headB cm ++ esB (l.take 0)).map b8) := by
    have := World.ownsRow_lit (base := w.heap.size) (e := 5) (size := 1) w2 #[.int .u8 cm, .int .u8 2, .int .u8 0, .int .u8 0] 4 hB2.size (by simp [maxLen]) (by simp)
    simpa [esB, HHD.out] using this
  have hB3 := balloc hB2 (.cells #[.int .u8 cm, .int .u8 2, .int .u8 0, .int .u8 0] 5)
  go_loopw [4, 28] (fun v i wr => ∃ j : Nat, j ≤ n ∧ i = .int .i64 j ∧ wr.ownsRow w.heap.size 5 1 v (4 + j * 20) ((headB cm ++ esB (l.take j)).map b8) ∧ Below w.heap.size w wr) (fun _ i _ => n - (intOf i).toNat)
  case atStart => exact ⟨0, Nat.zero_le _, rfl, hown, hB3⟩
  case round =>
    obtain ⟨j, hj, rfl, hown, hb⟩ := hrel
    have HB := Lib.hid hb
    have HO := Lib.hid hown
    clear hb hown
    by_cases hlt : j < n
    · obtain ⟨x, hx⟩ : ∃ x, l[j]? = some x := ⟨l[j]'(by rw [HN.out]; exact hlt), List.getElem?_eq_getElem _⟩
      obtain ⟨b, off, rfl, _, q0, q1, q2, q3, q4, q5⟩ := er_at (HR.out.below HB.out) hx
      have HM := Lib.hid (List.mem_of_getElem? hx)
      have HST := Lib.hid (esB_step hx)
      have hj2 : (j : Int) < (n : Int) := by omega
      have hB4 := balloc HB.out (.cells (erA x) 55)
      have hC := ebytes_any x (wr.alloc (.cells (erA x) 55)) (HF.out x HM.out) (HW.out.below hB4)
      rw [HALL.out x HM.out] at hC
      simp only [if_true] at hC
      have HL20 := Lib.hid (enB_len x)
      simp only [erA] at hC hB4
      have HC := Lib.hid hC
      have HB4 := Lib.hid hB4
      have HO4 := Lib.hid (own_below HO.out (balloc (Below.refl _ _) (.cells (erA x) 55)))
      simp only [erA] at HO4
      clear hC hB4 hx
      generalize enB x = ex at *
      go_wp2_with fail
      refine HC.out.mono ?_
      rintro e w5 ⟨A2, c2, rfl, h1, h2, h3, b5⟩
      have HB5 := Lib.hid (bnext HB4.out b5)
      have hown5 := own_below HO4.out b5
      have hsz5 := HB5.out.size
      go_wp2_with (at_builtin; refine wpList_append_rd rfl (.tmp 37) (.tmp 38) _ rfl w.heap.size 5 i0 _ 1 1 Tryd.underlying22 hi0 hz0 hz1 hz2 rfl (by omega) u4 _ _ rfl hown5 ex.length c2 (ex.map b8) rfl (by simp) h3 (b8_one _) (by have := HL20.out; simp only [maxLen]; omega) (by have := HL20.out; omega) hsz5 ?_
                   intro v6 w6 ho6 hg6 ha6
                   have hb6 : Below w.heap.size w w6 := HB5.out.grown hg6 hsz5 (fun k hk => (hown5.lt k hk).1)
                   rw [← List.map_append, List.append_assoc, ← HST.out] at ho6
                   clear hg6 ha6 hown5)
      go_roundw
      case rel => exact ⟨j + 1, by omega, by go_num, by rw [show 4 + (j + 1) * 20 = 4 + j * 20 + ex.length by rw [HL20.out]; omega]; exact ho6, hb6⟩
      case measure => simp [intOf]; omega
    · obtain rfl : j = n := by omega
      have ho := HO.out
      rw [List.take_of_length_le (by rw [HN.out]; exact Nat.le_refl _)] at ho
      obtain ⟨A1, c1, he, h1, h2, h3⟩ := own_slice (l := headB cm ++ esB l) (by rw [List.length_append, esB_len, HN.out]; rfl) ho
      subst he
      go_wp2_with fail
      go_ret2
      exact ⟨A1, c1, rfl, h1, by unfold maxLen at h2; omega, h3, HB.out⟩

set_option maxHeartbeats 4000000 in
theorem refbytes5_any (cm : Int) (l : List Er) (n c : Nat) (hn : l.length = n) (A : Option Addr) (w : World) (hr : Rd w w.heap.size A (erC l)) (hf : ∀ e ∈ l, fitR e) (hcm : cmdB cm = true) (h25 : n ≤ 25) (hall : l.all okE = true) :
    Calls Tryd.prog 38 #[.agg #[.int .i64 cm, .slice A n c]] w (GivesS (pkB cm l) w) := by
  obtain ⟨i0, hi0, hz0, hz1, hz2⟩ := info_parts u8_info
  have HN := Lib.hid hn
  have HR := Lib.hid hr
  have HF := Lib.hid hf
  have hB1 : Below w.heap.size w (w.alloc (.cells #[.int .i64 cm, .slice A n c] 27)) := balloc (Below.refl _ _) _
  have HALL := Lib.hid (List.all_eq_true.1 hall)
  have hX := Blk.new w 27 #[.int .i64 cm, .slice A n c]
  have hcv : IntKind.u8.wrap cm = cm := by rcases cmd_cases hcm with rfl | rfl <;> rfl
  have HHD := Lib.hid (show ([.int .u8 cm, .int .u8 2, .int .u8 0, .int .u8 0] : List Value) = (headB cm).map b8 by rcases cmd_cases hcm with rfl | rfl <;> rfl)
  have HX := Lib.hid hX
  have HB1 := Lib.hid hB1
  have kl := hX.lt
  clear hn hr hf hcm hall hX hB1
  go_enter Tryd.func38, Tryd.ntmps38
  go_wp2_with fail
  have hown : ((w.alloc (.cells #[.int .i64 cm, .slice A n c] 27)).alloc (.cells #[.int .u8 cm, .int .u8 2, .int .u8 0, .int .u8 0] 5)).ownsRow (w.heap.size + 1) 5 1 (.slice (some ⟨w.heap.size + 1, 0, none⟩) 4 4) 4 ((headB cm ++ esB (l.take 0)).map b8) := by
    have := World.ownsRow_lit (base := w.heap.size + 1) (e := 5) (size := 1) (w.alloc (.cells #[.int .i64 cm, .slice A n c] 27)) #[.int .u8 cm, .int .u8 2, .int .u8 0, .int .u8 0] 4 (by simp) (by simp [maxLen]) (by simp)
    simpa [esB, HHD.out] using this
  have hB3 := balloc HB1.out (.cells #[.int .u8 cm, .int .u8 2, .int .u8 0, .int .u8 0] 5)
  have hX3 := HX.out.alloc (.cells #[.int .u8 cm, .int .u8 2, .int .u8 0, .int .u8 0] 5)
  go_loopw [3, 4] (fun v i wr => ∃ j : Nat, j ≤ n ∧ i = .int .i64 j ∧ wr.ownsRow (w.heap.size + 1) 5 1 v (4 + j * 20) ((headB cm ++ esB (l.take j)).map b8) ∧ Below w.heap.size w wr ∧ Blk wr w.heap.size 27 #[.int .i64 cm, .slice A n c]) (fun _ i _ => n - (intOf i).toNat)
  case atStart => exact ⟨0, Nat.zero_le _, rfl, hown, hB3, hX3⟩
  case round =>
    obtain ⟨j, hj, rfl, hown, hb, hx⟩ := hrel
    have HB := Lib.hid hb
    have HO := Lib.hid hown
    have HXX := Lib.hid hx
    have d1 := hx.cell 1
    simp only [List.getElem?_toArray, List.getElem?_cons_zero, List.getElem?_cons_succ] at d1
    have kl := hx.lt
    clear hb hown hx
    by_cases hlt : j < n
    · obtain ⟨x, hx⟩ : ∃ x, l[j]? = some x := ⟨l[j]'(by rw [HN.out]; exact hlt), List.getElem?_eq_getElem _⟩
      obtain ⟨b, off, hAe, _, q0, q1, q2, q3, q4, q5⟩ := er_at (HR.out.below HB.out) hx
      subst hAe
      have HM := Lib.hid (List.mem_of_getElem? hx)
      have HST := Lib.hid (esB_step hx)
      have hj2 : (0 : Int) ≤ (j : Int) ∧ (j : Int) < (n : Int) := by omega
      have hC := refebytes_any x wr (HF.out x HM.out) (HALL.out x HM.out)
      have HL20 := Lib.hid (enB_len x)
      simp only [erA] at hC
      have HC := Lib.hid hC
      clear hC hx
      generalize enB x = ex at *
      go_wp2_with fail
      refine HC.out.mono ?_
      rintro e w5 ⟨A2, c2, rfl, h1, h2, h3, b5, _⟩
      have HB5 := Lib.hid (bnext HB.out b5)
      have hown5 := own_below HO.out b5
      have hX5 := HXX.out.below b5 HXX.out.lt
      have hsz5 := HB5.out.size
      have hsz6 : w.heap.size + 1 ≤ w5.heap.size := by have := hX5.lt; omega
      go_wp2_with (at_builtin; refine wpList_append_rd rfl (.tmp 16) (.tmp 22) _ rfl (w.heap.size + 1) 5 i0 _ 1 1 Tryd.underlying22 hi0 hz0 hz1 hz2 rfl (by omega) u3 _ _ rfl hown5 ex.length c2 (ex.map b8) rfl (by simp) h3 (b8_one _) (by have := HL20.out; simp only [maxLen]; omega) (by have := HL20.out; omega) hsz6 ?_
                   intro v6 w6 ho6 hg6 ha6
                   have hb6 : Below w.heap.size w w6 := HB5.out.grown hg6 hsz5 (fun k hk => by have := (hown5.lt k hk).1; omega)
                   have hX6 : Blk w6 w.heap.size 27 #[.int .i64 cm, .slice (some ⟨b, off, none⟩) n c] := (hg6.block _ hX5.lt (fun e => by have := (hown5.lt _ e.symm).1; omega)).trans hX5
                   rw [← List.map_append, List.append_assoc, ← HST.out] at ho6
                   clear hg6 ha6 hown5)
      go_roundw
      case rel => exact ⟨j + 1, by omega, by go_num, by rw [show 4 + (j + 1) * 20 = 4 + j * 20 + ex.length by rw [HL20.out]; omega]; exact ho6, hb6, hX6⟩
      case measure => simp [intOf]; omega
    · obtain rfl : j = n := by omega
      have ho := HO.out
      rw [List.take_of_length_le (by rw [HN.out]; exact Nat.le_refl _)] at ho
      obtain ⟨A1, c1, he, h1, h2, h3⟩ := own_slice (l := headB cm ++ esB l) (by rw [List.length_append, esB_len, HN.out]; rfl) ho
      have hba := own_base' ho
      subst he
      go_wp2_with fail
      go_ret
      exact ⟨A1, c1, rfl, h1, h2, h3, HB.out, fun a ha => by have := hba a.block (by rw [ha]; rfl); omega⟩
end Go.Proofs.YtpadlillbofpnaaDoor
