/- FlightPlays: the walk. -/
import Derived.Test.YtgdkobknjgbdbaaFlP
namespace Go.Proofs.Ytgdkobknjgbdbaa
set_option linter.unusedVariables false
set_option linter.unusedSimpArgs false
open Go.RowKit
set_option maxRecDepth 100000

theorem few_parts {l : List Ac} {many : Int} (h : fewB l many = true) : (l.length : Int) ≤ many ∧ ∀ x ∈ l, x.ml.m.bs.length ≤ 60 := by
  simpa [fewB] using h

set_option maxHeartbeats 4000000 in
theorem flightplays_no (room : Int) (l : List Ac) (N K : Nat) (hN : l.length = N) (B : Option Addr) (w : World) (hl : Rd w w.heap.size B (acC l)) (hNK : N ≤ K ∧ K ≤ 9223372036854775807) (h : fewB l 50 = false ∨ ¬ (1 ≤ room ∧ room ≤ 512)) :
    Calls Try.prog 5 #[.int .i64 room, .slice B N K] w fun e w' => e = .returned (.bool true) ∧ Below w.heap.size w w' := by
  have HFW := Lib.hid (few19_any l N K hN 50 B w.heap.size w hl hNK)
  clear hl
  cases hq : fewB l 50
  case false =>
    rw [hq] at HFW
    clear hq h
    go_enter Try.func5, Try.ntmps5
    go_wp2_with fail
    refine HFW.out.mono ?_
    rintro e w1 ⟨rfl, rfl⟩
    go_wp2_with fail
    refine (works19_any _).mono ?_
    rintro e w2 ⟨rfl, b2⟩
    go_wp2_with fail
    go_ret
    exact ⟨rfl, b2⟩
  case true =>
    rw [hq] at HFW
    have hr : ¬ (1 ≤ room ∧ room ≤ 512) := by simpa [hq] using h
    have HR := Lib.hid hr
    clear hq h hr
    go_enter Try.func5, Try.ntmps5
    go_wp2_with fail
    refine HFW.out.mono ?_
    rintro e w1 ⟨rfl, rfl⟩
    go_wp2_with fail
    refine (new_no room _ HR.out).mono ?_
    rintro e w2 ⟨rfl, b2⟩
    go_wp2_with fail
    refine (refnew_no room _ HR.out).mono ?_
    rintro e w3 ⟨rfl, b3⟩
    have b4 := balloc (bnext b2 b3) (.cells #[.slice none 0 0, .int .i64 0, .int .i64 0] 49)
    go_wp2_with (go_at_call 10; refine (num19_any _ _).mono ?_; rintro e w' ⟨rfl, rfl⟩)
    refine (works19_any _).mono ?_
    rintro e w5 ⟨rfl, b5⟩
    go_wp2_with fail
    go_ret
    exact ⟨rfl, bnext b4 b5⟩

set_option maxHeartbeats 20000000 in
theorem flightplays_yes (room : Nat) (l : List Ac) (N K : Nat) (hN : l.length = N) (B : Option Addr) (w : World) (hl : Rd w w.heap.size B (acC l)) (hNK : N ≤ K ∧ K ≤ 9223372036854775807) (hfew : fewB l 50 = true) (hr1 : 1 ≤ room ∧ room ≤ 512) (hml : ∀ x ∈ l, (x.ml.m.bs.length ≤ x.ml.c ∧ x.ml.c ≤ maxLen ∧ Rd w w.heap.size x.ml.A (x.ml.m.bs.map b8)) ∧ x.nw ≤ 9223372036854775807) :
    Calls Try.prog 5 #[.int .i64 room, .slice B N K] w fun e w' => e = .returned (.bool true) ∧ Below w.heap.size w w' := by
  obtain ⟨hr1, hr2⟩ := hr1
  have HFW := Lib.hid (few19_any l N K hN 50 B w.heap.size w hl hNK)
  rw [hfew] at HFW
  have hfp := (few_parts hfew).2
  have hN50 : N ≤ 50 := by have := (few_parts hfew).1; omega
  have HL := Lib.hid hl
  have HN := Lib.hid hN
  have HM := Lib.hid (fun x hx => And.intro (hml x hx) (hfp x hx))
  have h1 : (1 : Int) ≤ room := by omega
  have h2 : (room : Int) ≤ 512 := by omega
  have HNEW := Lib.hid (new_ok room w.heap.size w (by omega) (Nat.le_refl _))
  have HRN := Lib.hid (fun W => refnew_ok room W h1 h2)
  clear hl hml hfp hfew hN
  go_enter Try.func5, Try.ntmps5
  go_wp2_with fail
  refine HFW.out.mono ?_
  rintro e w1 ⟨rfl, rfl⟩
  go_wp2_with fail
  refine HNEW.out.mono ?_
  rintro e w2 ⟨g, rfl, hF, hg, b2⟩
  go_wp2_with fail
  refine (HRN.out _).mono ?_
  rintro e w3 ⟨rfl, b3⟩
  have HF3 := Lib.hid (hF.below b3)
  have hB3 := bnext b2 b3
  clear hF b3 b2 HNEW HRN HFW h1 h2
  go_wp2_with (go_at_call 10; refine (num19_any _ _).mono ?_; rintro e w' ⟨rfl, rfl⟩)
  have hS : St w (w3.alloc (.cells #[.slice none 0 0, .int .i64 room, .int .i64 0] 49)) g w3.heap.size room 0 (.slice none 0 0) [] [] none 0 0 := by
    have hb : Below w3.heap.size w3 (w3.alloc (.cells #[.slice none 0 0, .int .i64 room, .int .i64 0] 49)) := balloc (Below.refl _ _) _
    exact ⟨HF3.out.below hb, ⟨rfl, Nat.le_refl _, by omega, fun h => absurd h (by simp [mlC]), by simp⟩, rfl, Blk.new _ _ _, ⟨by have := HF3.out.blk.lt; omega, by simp [Value.ownBlock]⟩, balloc hB3 _, hB3.size⟩
  generalize w3.heap.size = b7 at *
  generalize w3.alloc (.cells #[.slice none 0 0, .int .i64 room, .int .i64 0] 49) = w4 at *
  clear HF3 hB3
  go_loopw [5, 9] (fun f i wr => ∃ (c g lost : Nat) (v : Value) (rs ws : List Ml) (A : Option Addr) (n k : Nat), c ≤ N ∧ f = .pointer (some ⟨g, 0, none⟩) ∧ i = .int .i64 c ∧ St w wr g b7 room lost v rs ws A n k) (fun _ i _ => N - (intOf i).toNat)
  case atStart => exact ⟨0, g, 0, _, [], [], none, 0, 0, by omega, rfl, rfl, hS⟩
  case round =>
    clear hS hg
    obtain ⟨c, g, lost, v, rs, ws, A, n, k, hc, rfl, rfl, S⟩ := hrel
    by_cases hlt : c < N
    case neg =>
      obtain rfl : c = N := by omega
      have HIS := Lib.hid S.is
      have HB := Lib.hid S.base
      obtain ⟨d0, d1, d2⟩ := S.box.three
      clear S
      go_wp2_with fail
      refine HIS.out.mono ?_
      rintro e w5 ⟨rfl, b5⟩
      go_wp2_with fail
      refine (works19_any _).mono ?_
      rintro e w6 ⟨rfl, b6⟩
      go_wp2_with fail
      go_ret
      exact ⟨rfl, bnext (bnext HB.out b5) b6⟩
    case pos =>
      have hcl : c < l.length := by have := HN.out; omega
      obtain ⟨x, hx⟩ : ∃ x, l[c]? = some x := ⟨_, List.getElem?_eq_getElem hcl⟩
      obtain ⟨bl, off, rfl, hbl, hcell⟩ := ac_all HL.out hx
      obtain ⟨⟨⟨e1, e2, e3⟩, e4⟩, e5⟩ := HM.out x (List.mem_of_getElem? hx)
      have HACT := Lib.hid (fun W (hb : Below wr.heap.size wr W) => ((S.below hb).act x e4 e3 e5 ⟨e1, e2⟩).mono fun _ _ h => h.after)
      have hi1 : (c : Int) < (N : Int) := by omega
      have hkeep : ∀ W, Fr (fun b => Kp g v b ∧ b < wr.heap.size) wr W → (C3 b7 (.slice A n k) (.int .i64 room) (.int .i64 lost) W ∧ W.cell? ⟨bl, off + c * 10, none⟩ = some (.int .i64 x.wh) ∧ W.cell? ⟨bl, off + c * 10 + 1, none⟩ = some (.int .i64 x.pk) ∧ W.cell? ⟨bl, off + c * 10 + 2, none⟩ = some (.int .i64 x.ml.m.link) ∧ W.cell? ⟨bl, off + c * 10 + 3, none⟩ = some (.int .i64 x.ml.m.frm) ∧ W.cell? ⟨bl, off + c * 10 + 4, none⟩ = some (.int .i64 x.ml.m.dst) ∧ W.cell? ⟨bl, off + c * 10 + 5, none⟩ = some (.int .u32 x.ml.m.src) ∧ W.cell? ⟨bl, off + c * 10 + 6, none⟩ = some (.slice x.ml.A x.ml.m.bs.length x.ml.c) ∧ W.cell? ⟨bl, off + c * 10 + 7, none⟩ = some (.int .i64 x.ml.m.sent) ∧ W.cell? ⟨bl, off + c * 10 + 8, none⟩ = some (.int .i64 x.nw) ∧ W.cell? ⟨bl, off + c * 10 + 9, none⟩ = some (.int .i64 x.dl)) := fun W hW => by
        have hb := hW.blk S.box ⟨S.kp, S.box.lt⟩
        have hc : ∀ j u, (acL x)[j]? = some u → W.cell? ⟨bl, off + c * 10 + j, none⟩ = some u := fun j u hu => hW.cell ((S.base.cell (p := ⟨bl, off + c * 10 + j, none⟩) hbl).trans (hcell j u hu)) ⟨S.old _ hbl, by have := S.base.size; show bl < _; omega⟩
        exact ⟨hb.three, hc 0 _ rfl, hc 1 _ rfl, hc 2 _ rfl, hc 3 _ rfl, hc 4 _ rfl, hc 5 _ rfl, hc 6 _ rfl, hc 7 _ rfl, hc 8 _ rfl, hc 9 _ rfl⟩
      have HKP := Lib.hid hkeep
      have hSd : Fr (fun b => Kp g v b ∧ b < wr.heap.size) wr wr.drew := Fr.drewN 1
      have hSa : Fr (fun b => Kp g v b ∧ b < wr.heap.size) wr (wr.alloc (.cells #[.slice none 0 0, .int .i64 0, .int .i64 0] 49)).drew := (Fr.alloc _).trans (Fr.drewN 1)
      have hBd : Below wr.heap.size wr wr.drew := below_drewN (Below.refl _ _) 1
      have hBa : Below wr.heap.size wr (wr.alloc (.cells #[.slice none 0 0, .int .i64 0, .int .i64 0] 49)).drew := below_drewN (balloc (Below.refl _ _) _) 1
      have hKn := S.new wr.heap.size (Nat.le_refl _)
      have HS := Lib.hid S
      have hc0 := HKP.out wr Fr.refl
      clear S hkeep hcell e1 e2 e3 e4 e5 hcl hx
      simp only [acA] at HACT
      go_upto_region 12 with fail
      go_cut [10, 11, 12] from 41 to 72 (fun a b cc wx => ∃ (g' : Nat) (v' : Value) (rs' : List Ml) (lost' : Nat) (A' : Option Addr) (n' c' : Nat) (ws' : List Ml) (bo : Nat), a = .pointer (some ⟨g', 0, none⟩) ∧ b = .pointer (some ⟨bo, 0, none⟩) ∧ cc = .bool true ∧ Put12 wr w.heap.size g v room wx g' v' rs' lost' A' n' c' ws' bo)
      case first =>
        go_region_held3 (fun w' => C3 b7 (.slice A n k) (.int .i64 room) (.int .i64 lost) w' ∧ w'.cell? ⟨bl, off + c * 10, none⟩ = some (.int .i64 x.wh) ∧ w'.cell? ⟨bl, off + c * 10 + 1, none⟩ = some (.int .i64 x.pk) ∧ w'.cell? ⟨bl, off + c * 10 + 2, none⟩ = some (.int .i64 x.ml.m.link) ∧ w'.cell? ⟨bl, off + c * 10 + 3, none⟩ = some (.int .i64 x.ml.m.frm) ∧ w'.cell? ⟨bl, off + c * 10 + 4, none⟩ = some (.int .i64 x.ml.m.dst) ∧ w'.cell? ⟨bl, off + c * 10 + 5, none⟩ = some (.int .u32 x.ml.m.src) ∧ w'.cell? ⟨bl, off + c * 10 + 6, none⟩ = some (.slice x.ml.A x.ml.m.bs.length x.ml.c) ∧ w'.cell? ⟨bl, off + c * 10 + 7, none⟩ = some (.int .i64 x.ml.m.sent) ∧ w'.cell? ⟨bl, off + c * 10 + 8, none⟩ = some (.int .i64 x.nw) ∧ w'.cell? ⟨bl, off + c * 10 + 9, none⟩ = some (.int .i64 x.dl)) (first | exact HKP.out _ hSd | exact HKP.out _ hSa | exact HKP.out _ (hSd.trans (Fr.mono h5.2.2.2.1 (fun _ _ h => h.1))) | exact HKP.out _ (hSa.trans (Fr.mono h5.2.2.2.1 (fun _ _ h => h.1))) | exact HKP.out _ ((hSd.trans (Fr.mono h5.2.2.2.1 (fun _ _ h => h.1))).trans (Fr.alloc _)) | exact HKP.out _ ((((hSa.trans (Fr.mono h5.2.2.2.1 (fun _ _ h => h.1))).putG (by omega) 0 _).putG (by omega) 1 _).putG (by omega) 2 _))
          (first
          | (go_at_call 19; (with_reducible refine (HACT.out wr.drew hBd).mono ?_); rintro e w5 ⟨g', v', rs', lost', A', n', c', ws', rfl, h5⟩)
          | (go_at_call 19; (with_reducible refine (HACT.out (wr.alloc (.cells #[.slice none 0 0, .int .i64 0, .int .i64 0] 49)).drew hBa).mono ?_); rintro e w5 ⟨g', v', rs', lost', A', n', c', ws', rfl, h5⟩; obtain ⟨z0, z1, z2⟩ := (After.zblk hKn h5).three; obtain ⟨y0, y1, y2⟩ := (After.zblk hKn h5).ice3))
        all_goals
          go_wp2_with fail
          go_meet
          first
          | exact ⟨g', v', rs', lost', A', n', c', ws', _, rfl, rfl, rfl, After.putA h5⟩
          | exact ⟨g', v', rs', lost', A', n', c', ws', _, rfl, rfl, rfl, After.putB hKn h5⟩
      case rest =>
        obtain ⟨g', v', rs', lost', A', n', c', ws', bo, rfl, rfl, rfl, hP⟩ := hcut
        have hS2 := Put12.next HS.out rfl hP
        have hbo := hP.2.2.2.2.2.2.2
        have hb7 := hP.2.2.2.1.blk HS.out.box ⟨HS.out.kp, HS.out.box.lt⟩
        have hge := hP.2.2.2.2.2.2.1
        have hlt7 := HS.out.box.lt
        obtain ⟨o0, o1, o2⟩ := hbo.three
        obtain ⟨d0, d1, d2⟩ := hb7.three
        obtain ⟨y0, y1, y2⟩ := hb7.ice3
        have S0 : C3 bo (.slice A' n' c') (.int .i64 room) (.int .i64 lost') wc.drew := ⟨o0, o1, o2⟩
        have Q7 := Lib.hid (show b7 ≠ bo by omega)
        have HS2 := Lib.hid hS2
        clear hP hbo hb7 hS2 hc0 hSd hSa hBd hBa hKn HACT HKP HS hge hlt7
        go_upto_region 13 with fail
        go_region_held3 (fun W => C3 bo (.slice A' n' c') (.int .i64 room) (.int .i64 lost') W) (first | exact S0 | exact c3_far _ _ _ S0 Q7.out) ((fail))
        clear S0 o0 o1 o2 d0 d1 d2 y0 y1 y2
        generalize (((wc.setCell ⟨b7, 0, none⟩ (.slice A' n' c')).setCell ⟨b7, 1, none⟩ (.int .i64 room)).setCell ⟨b7, 2, none⟩ (.int .i64 lost')).drew = wn at *
        obtain ⟨d0, d1, d2⟩ := HS2.out.box.three
        have HIS := Lib.hid HS2.out.is
        by_cases hm : c % 3 = 2
        · have m1 : ((c : Int) % 3 == 2) = true := by rw [beq_iff_eq]; omega
          have m2 : ((c : Int).tmod 3 == 2) = true := by rw [Int.tmod_eq_emod_of_nonneg (by omega)]; exact m1
          go_wp2_with fail
          refine HIS.out.mono ?_
          rintro e w5 ⟨rfl, b5⟩
          go_wp2_with fail
          go_roundw
          case rel => exact ⟨c + 1, g', lost', v', rs', ws', A', n', c', by omega, rfl, by go_num, HS2.out.below b5⟩
          case measure => simp [intOf]; omega
        · have m1 : ((c : Int) % 3 == 2) = false := by rw [beq_eq_false_iff_ne]; omega
          have m2 : ((c : Int).tmod 3 == 2) = false := by rw [Int.tmod_eq_emod_of_nonneg (by omega)]; exact m1
          go_wp2_with fail
          go_roundw
          case rel => exact ⟨c + 1, g', lost', v', rs', ws', A', n', c', by omega, rfl, by go_num, HS2.out⟩
          case measure => simp [intOf]; omega
theorem flightplays_walk (room : Int) (l : List Ac) (N K : Nat) (hN : l.length = N) (B : Option Addr) (w : World) (hl : Rd w w.heap.size B (acC l)) (hNK : N ≤ K ∧ K ≤ 9223372036854775807) (hml : ∀ x ∈ l, (x.ml.m.bs.length ≤ x.ml.c ∧ x.ml.c ≤ maxLen ∧ Rd w w.heap.size x.ml.A (x.ml.m.bs.map b8)) ∧ x.nw ≤ 9223372036854775807) :
    Calls Try.prog 5 #[.int .i64 room, .slice B N K] w fun e w' => e = .returned (.bool true) ∧ Below w.heap.size w w' := by
  by_cases h : fewB l 50 = false ∨ ¬ (1 ≤ room ∧ room ≤ 512)
  · exact flightplays_no room l N K hN B w hl hNK h
  · have h1 : fewB l 50 = true := by cases hq : fewB l 50 <;> simp_all
    have h2 : 1 ≤ room ∧ room ≤ 512 := by
      by_cases h3 : 1 ≤ room ∧ room ≤ 512
      · exact h3
      · exact absurd (.inr h3) h
    obtain ⟨r, rfl⟩ := Int.eq_ofNat_of_zero_le (show 0 ≤ room by omega)
    exact flightplays_yes r l N K hN B w hl hNK h1 (by omega) hml
end Go.Proofs.Ytgdkobknjgbdbaa
