/- OctetReads: the walk. -/
import Derived.Test.YtonjaoabehkecaaDoorPuts
namespace Go.Proofs.YtonjaoabehkecaaDoor
open Go.RowKit

theorem putF_be (l : List UInt8) (k : Int) (hk : isW k = true) (hl : l.length = k.toNat) : putF (be l) k = (l, 0) := by
  unfold putF
  have := be_lt l
  rw [if_neg (by simp [hk]), if_pos (by rw [← hl]; exact this), ← hl, bs_be]
theorem rdF_ok' (l : List UInt8) (at_ k : Int) (h : (rdF l at_ k).2 = 0) : isW k = true ∧ 0 ≤ at_ ∧ at_ + k ≤ l.length ∧ 1 ≤ k ∧ k ≤ 4 ∧ (rdF l at_ k).1 = be ((l.drop at_.toNat).take k.toNat) ∧ ((l.drop at_.toNat).take k.toNat).length = k.toNat := by
  unfold rdF at h ⊢
  by_cases h1 : isW k = false
  · simp [h1] at h
  · have h2 : isW k = true := by simpa using h1
    have h3 := isW_cases h2
    rw [if_neg h1] at h ⊢
    by_cases h4 : at_ < 0
    · rw [if_pos h4] at h; simp at h
    · rw [if_neg h4] at h ⊢
      by_cases h5 : (l.length : Int) - k < at_
      · rw [if_pos h5] at h; simp at h
      · rw [if_neg h5]
        exact ⟨h2, by omega, by omega, by omega, by omega, rfl, by simp; omega⟩
theorem be4_lt (l : List UInt8) (h : l.length ≤ 4) : be l < 4294967296 := by
  have h1 := be_lt l
  have h2 : 256 ^ l.length ≤ 256 ^ 4 := Nat.pow_le_pow_right (by omega) h
  omega

set_option maxHeartbeats 1000000 in
set_option maxRecDepth 100000 in
theorem reads_walk (at_ k : Int) (A : Option Addr) (c : Nat) (l : List UInt8) (w : World) (hw : WidthsAt w) (hlc : l.length ≤ c) (hc : c ≤ 9223372036854775807)
    (r0 : Rd w w.heap.size A (l.map b8)) :
    Calls Tryd.prog 4 #[.slice A l.length c, .int .i64 at_, .int .i64 k] w fun e w' => e = .returned (.bool true) ∧ Below w.heap.size w w' := by
  have HW := Lib.hid hw
  clear hw
  by_cases h2 : 100 < l.length
  · go_enter Tryd.func4, Tryd.ntmps4
    go_wp2_with (go_at_call 8; refine (works_any _ HW.out).mono ?_; rintro e w' ⟨rfl, b1⟩)
    go_ret
    exact ⟨rfl, b1⟩
  obtain ⟨i0, hi0, hz0, hz1, hz2⟩ := info_parts u8_info
  have R1 := fun A c B W (hW : WidthsAt W) (hR : Rd W B A (l.map b8)) (h1 : l.length ≤ c) (h2 : c ≤ 9223372036854775807) => read_any l l.length rfl A c B W hW hR h1 h2 at_ k
  have R2 := fun A c B W (hR : Rd W B A (l.map b8)) (h1 : l.length ≤ c) (h2 : c ≤ 9223372036854775807) => refRead_any l l.length rfl A c B W hR h1 h2 at_ k
  have hok := rdF_ok' l at_ k
  generalize rdF l at_ k = r at *
  obtain ⟨v, er⟩ := r
  simp only at hok
  have C1 := Lib.hid R1
  have C2 := Lib.hid R2
  have hd1 : ((v : Int) != v) = false := by simp
  have hd2 : (er != er) = false := by simp
  have hd3 : (str l != str l) = false := str_same l
  clear R1 R2
  by_cases he : er = 0
  · obtain ⟨hk1, ha0, hak, hkl, hkh, hv, hlen⟩ := hok he
    obtain ⟨a, rfl⟩ : ∃ a : Nat, at_ = a := ⟨at_.toNat, by omega⟩
    obtain ⟨k, rfl⟩ : ∃ j : Nat, k = j := ⟨k.toNat, by omega⟩
    simp only [Int.toNat_natCast] at hv hlen
    have rc := r0.cut a k (by omega) (by simp; omega)
    rw [← List.map_drop, ← List.map_take] at rc
    have hp := putF_be ((l.drop a).take k) k hk1 (by simpa using hlen)
    have hlt := be4_lt ((l.drop a).take k) (by omega)
    rw [← hv] at hp hlt
    subst he
    have P1 := fun W (h : WidthsAt W) => put_any v k W h hlt
    rw [hp] at P1
    simp only at P1
    have C3 := Lib.hid P1
    have hd4 : (str ((l.drop a).take k) == str ((l.drop a).take k)) = true := by simp [str_beq]
    generalize (l.drop a).take k = lc at *
    have HL := Lib.hid hlen
    clear P1 hp hlen hv hok
    go_enter Tryd.func4, Tryd.ntmps4
    go_wp2_with (first
      | (at_builtin; refine wpList_append_rd rfl (.tmp 18) (.tmp 19) _ rfl w.heap.size 5 i0 _ 1 1 Tryd.underlying23 hi0 hz0 hz1 hz2 rfl (by omega) (.slice (some ⟨w.heap.size, 0, none⟩) 0 0) 0 [] rfl (World.ownsRow_lit w #[] 0 (Nat.le_refl _) (by simp [maxLen]) (by simp)) l.length c (l.map b8) rfl (by simp) (r0.alloc (Nat.le_refl _) _) (b8_one l) (by simp only [maxLen]; omega) (by omega) (by simp) ?_
         intro v3 w3 ho3 hg3 ha3
         have b3 : Below w.heap.size w w3 := ((Below.refl _ _).alloc (Nat.le_refl _) _).grown hg3 (by simp) (by simp [Value.ownBlock])
         clear hg3 ha3)
      | (at_builtin; refine wpList_append_rd rfl (.tmp 20) (.tmp 21) _ rfl w.heap.size 5 i0 _ 1 1 Tryd.underlying23 hi0 hz0 hz1 hz2 rfl (by omega) v3 _ _ rfl (ho3.alloc _) 1 1 (([77] : List UInt8).map b8) rfl (by simp) (Rd.new _ _ _) (b8_one [77]) (by simp only [maxLen]; omega) (by omega) (by have := b3.size; simp; omega) ?_
         intro v4 w4 ho4 hg4 ha4
         have b4 : Below w.heap.size w w4 := (balloc b3 _).grown hg4 (by have := b3.size; simp; omega) (fun k hk => (ho3.lt k hk).1)
         clear hg4 ha4 ho3 b3
         rw [List.nil_append, ← List.map_append] at ho4
         obtain ⟨A6, c6, rfl, g1, g2, g3⟩ := own_slice (l := l ++ [77]) (by simp) ho4
         unfold maxLen at g2
         rw [List.map_append] at g3
         replace g3 := g3.pre
         simp only [List.length_append, List.length_cons, List.length_nil, Nat.zero_add] at g1
         clear ho4))
    refine (C1.out _ _ _ _ (HW.out.below b4) g3 (by omega) (by omega)).mono ?_
    rintro e w5 ⟨rfl, rfl⟩
    go_wp2_with fail
    replace r0 := r0.below b4
    refine (C2.out _ _ _ _ r0 hlc hc).mono ?_
    rintro e w5 ⟨rfl, rfl⟩
    have s1 := conv_rd (P := Tryd.prog) 23 9 5 Tryd.underlying23 Tryd.underlying5 Tryd.underlying9 c6 g3
    have s2 := conv_rd (P := Tryd.prog) 23 9 5 Tryd.underlying23 Tryd.underlying5 Tryd.underlying9 c r0
    go_wp2_with (go_at_call 11; refine (num_any _ _).mono ?_; rintro e w' ⟨rfl, rfl⟩)
    refine (C3.out _ (HW.out.below b4)).mono ?_
    rintro e w6 ⟨A7, c7, rfl, _, _, q7, b7⟩
    clear s1 s2
    go_wp2_with fail
    have hca : ¬ c = a := by omega
    replace rc := rc.below (b4.trans (b7.mono b4.size))
    have f1 : ∀ v : Sub w6, (convert 23 9 (.slice A7 lc.length c7)).run Tryd.prog v.1 = .ok (.string (str lc)) v.1 := fun v => conv_rd 23 9 5 Tryd.underlying23 Tryd.underlying5 Tryd.underlying9 c7 (q7.below v.2)
    have f2 : ∀ (v : Sub w6) (d : Nat), (convert 23 9 (.slice (A.map (fun x => x.add a)) k d)).run Tryd.prog v.1 = .ok (.string (str lc)) v.1 := fun v d => by
      have := conv_rd (P := Tryd.prog) 23 9 5 Tryd.underlying23 Tryd.underlying5 Tryd.underlying9 d ((rc.more (by have := b4.size; have := b7.size; omega)).below v.2)
      rw [HL.out] at this
      exact this
    have f3 : a + k - a = k := by omega
    have hwk := Lib.hid (show ∀ v : Sub w6, WidthsAt v.1 from fun v => ((HW.out.below b4).below b7).below v.2)
    have hne : Nonempty (Sub w6) := ⟨⟨w6, Below.refl _ _⟩⟩
    refine region_sub (by kernel_rfl) (by kernel_rfl) ?_
    repeat (first
      | go_big_quiet_step ((first | (go_at_call 11; exact sub_same (num_any _ _)) | (go_at_call 8; exact sub_below (works_any _ (hwk.out _)))))
      | quiet_step ((first | (go_at_call 11; exact sub_same (num_any _ _)) | (go_at_call 8; exact sub_below (works_any _ (hwk.out _))))))
    refine wpQuiet_nil ?_
    rintro _ ⟨v, rfl⟩
    go_wp2
    go_ret
    exact ⟨rfl, bnext (bnext b4 b7) v.2⟩
  · have hd4 : (er != 0) = true := by simpa using he
    clear he hok
    go_enter Tryd.func4, Tryd.ntmps4
    go_wp2_with (first
      | (at_builtin; refine wpList_append_rd rfl (.tmp 18) (.tmp 19) _ rfl w.heap.size 5 i0 _ 1 1 Tryd.underlying23 hi0 hz0 hz1 hz2 rfl (by omega) (.slice (some ⟨w.heap.size, 0, none⟩) 0 0) 0 [] rfl (World.ownsRow_lit w #[] 0 (Nat.le_refl _) (by simp [maxLen]) (by simp)) l.length c (l.map b8) rfl (by simp) (r0.alloc (Nat.le_refl _) _) (b8_one l) (by simp only [maxLen]; omega) (by omega) (by simp) ?_
         intro v3 w3 ho3 hg3 ha3
         have b3 : Below w.heap.size w w3 := ((Below.refl _ _).alloc (Nat.le_refl _) _).grown hg3 (by simp) (by simp [Value.ownBlock])
         clear hg3 ha3)
      | (at_builtin; refine wpList_append_rd rfl (.tmp 20) (.tmp 21) _ rfl w.heap.size 5 i0 _ 1 1 Tryd.underlying23 hi0 hz0 hz1 hz2 rfl (by omega) v3 _ _ rfl (ho3.alloc _) 1 1 (([77] : List UInt8).map b8) rfl (by simp) (Rd.new _ _ _) (b8_one [77]) (by simp only [maxLen]; omega) (by omega) (by have := b3.size; simp; omega) ?_
         intro v4 w4 ho4 hg4 ha4
         have b4 : Below w.heap.size w w4 := (balloc b3 _).grown hg4 (by have := b3.size; simp; omega) (fun k hk => (ho3.lt k hk).1)
         clear hg4 ha4 ho3 b3
         rw [List.nil_append, ← List.map_append] at ho4
         obtain ⟨A6, c6, rfl, g1, g2, g3⟩ := own_slice (l := l ++ [77]) (by simp) ho4
         unfold maxLen at g2
         rw [List.map_append] at g3
         replace g3 := g3.pre
         simp only [List.length_append, List.length_cons, List.length_nil, Nat.zero_add] at g1
         clear ho4))
    refine (C1.out _ _ _ _ (HW.out.below b4) g3 (by omega) (by omega)).mono ?_
    rintro e w5 ⟨rfl, rfl⟩
    go_wp2_with fail
    replace r0 := r0.below b4
    refine (C2.out _ _ _ _ r0 hlc hc).mono ?_
    rintro e w5 ⟨rfl, rfl⟩
    have s1 := conv_rd (P := Tryd.prog) 23 9 5 Tryd.underlying23 Tryd.underlying5 Tryd.underlying9 c6 g3
    have s2 := conv_rd (P := Tryd.prog) 23 9 5 Tryd.underlying23 Tryd.underlying5 Tryd.underlying9 c r0
    go_wp2_with (first
      | (go_at_call 11; refine (num_any _ _).mono ?_; rintro e w' ⟨rfl, rfl⟩)
      | (go_at_call 8; refine (works_any _ (HW.out.below b4)).mono ?_; rintro e w' ⟨rfl, b6⟩))
    go_ret
    exact ⟨rfl, bnext b4 b6⟩
end Go.Proofs.YtonjaoabehkecaaDoor
