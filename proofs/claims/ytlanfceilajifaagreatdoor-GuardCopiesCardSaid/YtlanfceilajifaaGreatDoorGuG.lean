/- guard: a call by both. -/
import Derived.Test.YtlanfceilajifaaGreatDoorGuF
import Derived.Deep.CutRange
namespace Go.Proofs.YtlanfceilajifaaGreatDoor
set_option linter.unusedVariables false
set_option linter.unusedSimpArgs false
open Go.RowKit
set_option maxRecDepth 100000
attribute [local go_sem ↓] loadVar_T storeVar_T
attribute [local go_sem] run_ld16 run_st16 tF_ok tF_size
theorem num16_any (e : Int) (w : World) : Calls Tryz.prog 13 #[.int .i64 e] w fun e' w' => e' = .returned (.int .i64 e) ∧ w = w' := by
  go_enter Tryz.func13, Tryz.ntmps13
  go_wp2_with fail
  go_ret
  exact ⟨rfl, rfl⟩
theorem refrefuse_any (L : List Int) (hl : L.length = 15) (hb : ∀ x ∈ L, 0 ≤ x ∧ x ≤ 2147483647) (e : Int) (w : World) : Calls Tryz.prog 60 #[.agg (tF (ftal L)), .int .i64 e] w fun e' w' => e' = .returned (.tuple #[.agg (tF (ftal (cntL L (ixE e) 1))), .int .i64 (cntE (ixE e) 1)]) ∧ Below w.heap.size w w' := by
  cases h : ixE e with
  | none => exact refrefuse_none (ftal L) e h w
  | some k =>
    have hk := ixE_lt h
    have hf : ftal L k = L.getD k 0 := by unfold ftal; rw [if_pos hk]
    have hm : L.getD k 0 ∈ L := by
      rw [List.getD, List.getElem?_eq_getElem (show k < L.length by omega)]
      exact List.getElem_mem _
    have := refrefuse_some (ftal L) e k h (by rw [hf]; exact hb _ hm) w
    rw [ftal_err hl hk, hf] at this
    exact this
theorem refleave_any (L : List Int) (hl : L.length = 15) (hb : ∀ x ∈ L, 0 ≤ x ∧ x ≤ 2147483647) (r m : Int) (hm : m ≤ 9223372036854775807) (w : World) : Calls Tryz.prog 61 #[.agg (tF (ftal L)), .int .i64 r, .int .i64 m] w fun e' w' => e' = .returned (.tuple #[.agg (tF (ftal (cntL L (ixR r) m))), .int .i64 (cntE (ixR r) m)]) ∧ Below w.heap.size w w' := by
  by_cases h : 1 ≤ r ∧ r ≤ 6 ∧ 0 ≤ m
  · obtain ⟨h1, h2, h3⟩ := h
    obtain ⟨k, rfl⟩ := Int.eq_ofNat_of_zero_le (show 0 ≤ r by omega)
    have hx : ixR k = some (8 + k) := by unfold ixR; rw [if_pos (by omega)]; simp
    have hf : ftal L (9 + k) = L.getD (8 + k) 0 := by unfold ftal; rw [if_neg (by omega), if_neg (by omega), show 9 + k - 1 = 8 + k by omega]
    have hmm : L.getD (8 + k) 0 ∈ L := by
      rw [List.getD, List.getElem?_eq_getElem (show 8 + k < L.length by omega)]
      exact List.getElem_mem _
    have := refleave_ok (ftal L) k m (by omega) ⟨h3, hm⟩ (by rw [hf]; exact hb _ hmm) w
    rw [ftal_rea hl (by omega), hf] at this
    rw [hx, show cntE (some (8 + k)) m = 0 from if_pos ⟨rfl, h3⟩, show cntL L (some (8 + k)) m = L.set (8 + k) (sumF (L.getD (8 + k) 0) m) from if_pos h3]
    exact this
  · have h12 : cntE (ixR r) m = 2 ∧ cntL L (ixR r) m = L := by
      by_cases hr : 1 ≤ r ∧ r ≤ 6
      · have hm0 : ¬ 0 ≤ m := fun q => h ⟨hr.1, hr.2, q⟩
        rw [show ixR r = some (8 + r.toNat) from if_pos hr]
        exact ⟨if_neg (fun q => hm0 q.2), if_neg hm0⟩
      · rw [show ixR r = none from if_neg hr]
        exact ⟨if_neg (fun q => by cases q.1), rfl⟩
    obtain ⟨h1, h2⟩ := h12
    rw [h1, h2]
    exact refleave_bad (ftal L) r m h w
theorem refrefused_any (L : List Int) (e : Int) (w : World) : Calls Tryz.prog 63 #[.agg (tF (ftal L)), .int .i64 e] w fun e' w' => e' = .returned (.int .i64 (manyF L (ixE e))) ∧ Below w.heap.size w w' := by
  cases h : ixE e with
  | none => exact refrefused_none (ftal L) e h w
  | some k =>
    have hk := ixE_lt h
    have := refrefused_some (ftal L) e k h w
    rw [show ftal L k = L.getD k 0 by unfold ftal; rw [if_pos hk]] at this
    exact this
theorem refleftO_any (L : List Int) (r : Int) (w : World) : Calls Tryz.prog 64 #[.agg (tF (ftal L)), .int .i64 r] w fun e' w' => e' = .returned (.int .i64 (manyF L (ixR r))) ∧ Below w.heap.size w w' := by
  by_cases h : 1 ≤ r ∧ r ≤ 6
  · obtain ⟨k, rfl⟩ := Int.eq_ofNat_of_zero_le (show 0 ≤ r by omega)
    have := refleft_ok (ftal L) k (by omega) w
    rw [show ftal L (9 + k) = L.getD (8 + k) 0 by unfold ftal; rw [if_neg (by omega), if_neg (by omega), show 9 + k - 1 = 8 + k by omega]] at this
    rw [show ixR k = some (8 + k) by unfold ixR; rw [if_pos (by omega)]; simp]
    exact this
  · rw [show ixR r = none by unfold ixR; rw [if_neg h]]
    exact refleft_bad (ftal L) r h w
/-- behind a call by both: what was counted -/
def actL (L : List Int) (wh er re ma : Int) : List Int := if wh = 0 ∨ wh = 1 then cntL L (ixE er) 1 else if wh = 2 ∨ wh = 3 then cntL L (ixR re) ma else L
def ActP (w : World) (g : Nat) (L : List Int) (e : Ending) (w' : World) : Prop :=
  ∃ g', e = .returned (.tuple #[.pointer (some ⟨g', 0, none⟩), .agg (tF (ftal L)), .bool true]) ∧ Ta w' g' L ∧ Fr (fun k => k ≠ g) w w' ∧ (g' = g ∨ w.heap.size ≤ g')

theorem blk_past {w w5 : World} (t : TypeId) (cs : Array Value) (b5 : Below (w.alloc (.cells cs t)).drew.heap.size (w.alloc (.cells cs t)).drew w5) : Blk w5 w.heap.size t cs :=
  Blk.below (w := (w.alloc (.cells cs t)).drew) (Blk.new w t cs) b5 (by show _ < (w.alloc _).heap.size; simp)
theorem below_new16 {w0 w1 : World} (h : Below w0.heap.size w0 w1) (o : Obj) (cs : Array Value) : Below w0.heap.size w0 ((w1.alloc o).setRow w1.heap.size cs) := below_setRow16 (balloc h o) h.size cs
theorem Ta.drew {w : World} {g : Nat} {L : List Int} (h : Ta w g L) : Ta w.drew g L := ⟨h.blk, h.len, h.bd⟩
theorem Ta.setRow_ne {w : World} {g b : Nat} {L : List Int} (h : Ta w g L) (hb : g ≠ b) (cs : Array Value) : Ta (w.setRow b cs) g L := ⟨h.blk.setRow_ne hb cs, h.len, h.bd⟩
theorem act_fr {w wc w6 : World} {g : Nat} {cs : Array Value} (hb : Below w.heap.size w wc) (hg : g < w.heap.size) (hf : Fr (fun k => k ≠ g) wc.drew w6) : Fr (fun k => k ≠ g) w (w6.setRow (w.heap.size + 1 + 1) cs) := by
  have h1 : Fr (fun k => k ≠ g) w w6 := ((Fr.of_below hb).trans (Fr.drewN 1)).trans hf
  refine ⟨h1.1, h1.2.1, h1.2.2.1, by simpa [World.setRow] using h1.2.2.2.1, fun k hk hl => ?_⟩
  exact (setRow_other w6 (w.heap.size + 1 + 1) k cs (by omega)).trans (h1.2.2.2.2 k hk hl)
theorem s_keep5 {W w : World} {M : List Int} {bo : Nat} {wh er re ma : Int} (h0 : Blk W bo 68 (tF (ftal M))) (h1 : Blk W (w.heap.size + 1) 72 #[.int .i64 wh, .int .i64 er, .int .i64 re, .int .i64 ma]) : rowOk W (bo) 0 16 = true ∧ rowOf W (bo) 0 16 = tF (ftal M) ∧ W.cell? ⟨w.heap.size + 1, 1, none⟩ = some (.int .i64 er) ∧ W.cell? ⟨w.heap.size + 1, 2, none⟩ = some (.int .i64 re) ∧ W.cell? ⟨w.heap.size + 1, 3, none⟩ = some (.int .i64 ma) := by
  obtain ⟨i0, i1, i2⟩ := h0.row (tF_size _)
  exact ⟨i1, i2, h1.cell 1, h1.cell 2, h1.cell 3⟩
theorem s_keep {W w : World} {L : List Int} {wh er re ma : Int} (h0 : Blk W w.heap.size 68 (tF (ftal L))) (h1 : Blk W (w.heap.size + 1) 72 #[.int .i64 wh, .int .i64 er, .int .i64 re, .int .i64 ma]) : rowOk W (w.heap.size) 0 16 = true ∧ rowOf W (w.heap.size) 0 16 = tF (ftal L) ∧ W.cell? ⟨w.heap.size + 1, 1, none⟩ = some (.int .i64 er) ∧ W.cell? ⟨w.heap.size + 1, 2, none⟩ = some (.int .i64 re) ∧ W.cell? ⟨w.heap.size + 1, 3, none⟩ = some (.int .i64 ma) := by
  obtain ⟨i0, i1, i2⟩ := h0.row (tF_size _)
  exact ⟨i1, i2, h1.cell 1, h1.cell 2, h1.cell 3⟩

set_option maxHeartbeats 4000000 in
theorem act_refuse {w : World} {g : Nat} {L : List Int} (wh er re ma : Int) (hw : wh = 0 ∨ wh = 1) (hT : Ta w g L) : Calls Tryz.prog 23 #[.pointer (some ⟨g, 0, none⟩), .agg (tF (ftal L)), .agg #[.int .i64 wh, .int .i64 er, .int .i64 re, .int .i64 ma]] w (ActP w g (cntL L (ixE er) 1)) := by
  have HR := Lib.hid (fun W => refrefuse_any L hT.len hT.bd er W)
  have x0 := ((Blk.new w 68 (tF (ftal L))).alloc (.cells #[.int .i64 wh, .int .i64 er, .int .i64 re, .int .i64 ma] 72)).alloc (.cells #[.int .i64 0, .int .i64 0, .int .i64 0, .int .i64 0, .int .i64 0, .int .i64 0, .int .i64 0, .int .i64 0, .int .i64 0, .int .i64 0, .int .i64 0, .int .i64 0, .int .i64 0, .int .i64 0, .int .i64 0, .int .i64 0] 68)
  have x1 := (Blk.new (w.alloc (.cells (tF (ftal L)) 68)) 72 #[.int .i64 wh, .int .i64 er, .int .i64 re, .int .i64 ma]).alloc (.cells #[.int .i64 0, .int .i64 0, .int .i64 0, .int .i64 0, .int .i64 0, .int .i64 0, .int .i64 0, .int .i64 0, .int .i64 0, .int .i64 0, .int .i64 0, .int .i64 0, .int .i64 0, .int .i64 0, .int .i64 0, .int .i64 0] 68)
  have x2 := Blk.new ((w.alloc (.cells (tF (ftal L)) 68)).alloc (.cells #[.int .i64 wh, .int .i64 er, .int .i64 re, .int .i64 ma] 72)) 68 #[.int .i64 0, .int .i64 0, .int .i64 0, .int .i64 0, .int .i64 0, .int .i64 0, .int .i64 0, .int .i64 0, .int .i64 0, .int .i64 0, .int .i64 0, .int .i64 0, .int .i64 0, .int .i64 0, .int .i64 0, .int .i64 0]
  simp only [World.size_alloc] at x1 x2
  have B0 : Below w.heap.size w (((w.alloc (.cells (tF (ftal L)) 68)).alloc (.cells #[.int .i64 wh, .int .i64 er, .int .i64 re, .int .i64 ma] 72)).alloc (.cells #[.int .i64 0, .int .i64 0, .int .i64 0, .int .i64 0, .int .i64 0, .int .i64 0, .int .i64 0, .int .i64 0, .int .i64 0, .int .i64 0, .int .i64 0, .int .i64 0, .int .i64 0, .int .i64 0, .int .i64 0, .int .i64 0] 68)) := balloc (balloc (balloc (Below.refl _ _) _) _) _
  have hs3 : (((w.alloc (.cells (tF (ftal L)) 68)).alloc (.cells #[.int .i64 wh, .int .i64 er, .int .i64 re, .int .i64 ma] 72)).alloc (.cells #[.int .i64 0, .int .i64 0, .int .i64 0, .int .i64 0, .int .i64 0, .int .i64 0, .int .i64 0, .int .i64 0, .int .i64 0, .int .i64 0, .int .i64 0, .int .i64 0, .int .i64 0, .int .i64 0, .int .i64 0, .int .i64 0] 68)).heap.size = w.heap.size + 3 := by simp
  have hT3 := hT.below B0
  have gl := hT.lt
  obtain ⟨w3, hw3⟩ : ∃ w3, w3 = (((w.alloc (.cells (tF (ftal L)) 68)).alloc (.cells #[.int .i64 wh, .int .i64 er, .int .i64 re, .int .i64 ma] 72)).alloc (.cells #[.int .i64 0, .int .i64 0, .int .i64 0, .int .i64 0, .int .i64 0, .int .i64 0, .int .i64 0, .int .i64 0, .int .i64 0, .int .i64 0, .int .i64 0, .int .i64 0, .int .i64 0, .int .i64 0, .int .i64 0, .int .i64 0] 68)) := ⟨_, rfl⟩
  rw [← hw3] at x0 x1 x2 B0 hs3 hT3
  have HWX := Lib.hid hw3
  have HS3 := Lib.hid hs3
  have X := Lib.hid (And.intro x0 (And.intro x1 (And.intro x2 (And.intro B0 hT3))))
  clear x0 x1 x2 B0 hs3 hw3 hT hT3
  have HG := Lib.hid (fun W (h : Ta W g L) => refuse_any (w := W) er h)
  generalize cntL L (ixE er) 1 = M at *
  generalize cntE (ixE er) 1 = cq at *
  rcases hw with rfl | rfl
  all_goals
    go_enter Tryz.func23, Tryz.ntmps23
    go_upto_region 4 with fail
    rw [← HWX.out]
    have HK := Lib.hid (fun W (hW : Below w3.heap.size w3 W) => s_keep (X.out.1.below hW X.out.1.lt) (X.out.2.1.below hW X.out.2.1.lt))
    have hBd : Below w3.heap.size w3 w3.drew := below_drewN (Below.refl _ _) 1
    have hBa : Below w3.heap.size w3 (w3.alloc (.cells #[.int .i64 0, .int .i64 0, .int .i64 0, .int .i64 0, .int .i64 0, .int .i64 0, .int .i64 0, .int .i64 0, .int .i64 0, .int .i64 0, .int .i64 0, .int .i64 0, .int .i64 0, .int .i64 0, .int .i64 0, .int .i64 0] 68)).drew := below_drewN (balloc (Below.refl _ _) _) 1
    go_cut [9, 10] from 18 to 25 (fun a b wx => ∃ bo : Nat, a = .pointer (some ⟨bo, 0, none⟩) ∧ b = .int .i64 cq ∧ Blk wx bo 68 (tF (ftal M)) ∧ w3.heap.size ≤ bo ∧ Below w3.heap.size w3 wx)
    case first =>
      go_region_held3 (fun W => rowOk W (w.heap.size) 0 16 = true ∧ rowOf W (w.heap.size) 0 16 = tF (ftal L) ∧ W.cell? ⟨w.heap.size + 1, 1, none⟩ = some (.int .i64 er) ∧ W.cell? ⟨w.heap.size + 1, 2, none⟩ = some (.int .i64 re) ∧ W.cell? ⟨w.heap.size + 1, 3, none⟩ = some (.int .i64 ma)) (first | exact HK.out _ hBd | exact HK.out _ hBa | exact HK.out _ (bnext hBd (by assumption)) | exact HK.out _ (balloc (bnext hBd (by assumption)) _) | exact HK.out _ (bnext hBa (by assumption)) | exact HK.out _ (below_new16 (bnext hBd (by assumption)) _ _) | exact HK.out _ (below_setRow16 (bnext hBa (by assumption)) (Nat.le_refl _) _))
        (first
        | (go_at_call 13; refine (num16_any _ _).mono ?_; rintro e' wn ⟨rfl, rfl⟩)
        | (go_at_call 60; (with_reducible refine (HR.out w3.drew).mono ?_); rintro e' w5 ⟨rfl, b5⟩; have n5 := rowIs_new w5 #[.int .i64 0, .int .i64 0, .int .i64 0, .int .i64 0, .int .i64 0, .int .i64 0, .int .i64 0, .int .i64 0, .int .i64 0, .int .i64 0, .int .i64 0, .int .i64 0, .int .i64 0, .int .i64 0, .int .i64 0, .int .i64 0] 68 16)
        | (go_at_call 60; (with_reducible refine (HR.out (w3.alloc (.cells #[.int .i64 0, .int .i64 0, .int .i64 0, .int .i64 0, .int .i64 0, .int .i64 0, .int .i64 0, .int .i64 0, .int .i64 0, .int .i64 0, .int .i64 0, .int .i64 0, .int .i64 0, .int .i64 0, .int .i64 0, .int .i64 0] 68)).drew).mono ?_); rintro e' w5 ⟨rfl, b5⟩; have z5 := blk_past 68 #[.int .i64 0, .int .i64 0, .int .i64 0, .int .i64 0, .int .i64 0, .int .i64 0, .int .i64 0, .int .i64 0, .int .i64 0, .int .i64 0, .int .i64 0, .int .i64 0, .int .i64 0, .int .i64 0, .int .i64 0, .int .i64 0] b5; obtain ⟨z50, z51, z52⟩ := z5.row (n := 16) rfl))
      all_goals
        go_wp2_with fail
        go_meet
        first
        | exact ⟨w5.heap.size, rfl, rfl, (Blk.new w5 68 #[.int .i64 0, .int .i64 0, .int .i64 0, .int .i64 0, .int .i64 0, .int .i64 0, .int .i64 0, .int .i64 0, .int .i64 0, .int .i64 0, .int .i64 0, .int .i64 0, .int .i64 0, .int .i64 0, .int .i64 0, .int .i64 0]).setRow _, Nat.le_trans hBd.size b5.size, below_new16 (bnext hBd b5) _ _⟩
        | exact ⟨w3.heap.size, rfl, rfl, z5.setRow _, Nat.le_refl _, below_setRow16 (bnext hBa b5) (Nat.le_refl _) _⟩
    case rest =>
      clear hBd hBa
      obtain ⟨bo, rfl, rfl, hB, hbo, hBw⟩ := hcut
      have hs3 := HS3.out
      have hz := X.out.2.2.1.below hBw X.out.2.2.1.lt
      have h1 := X.out.2.1.below hBw X.out.2.1.lt
      have hTc := Lib.hid (X.out.2.2.2.2.below hBw)
      have HK5 := Lib.hid (fun W (hW : Fr (fun k => k ≠ g ∧ k ≠ w.heap.size + 1 + 1) wc W) => s_keep5 (hW.blk hB ⟨by omega, by omega⟩) (hW.blk h1 ⟨by omega, by omega⟩))
      have HZ7 := Lib.hid hz
      have HBW := Lib.hid (bnext X.out.2.2.2.1 hBw)
      have hne : ∀ k, (k ≠ g ∧ k ≠ w.heap.size + 1 + 1) → k ≠ w.heap.size + 1 + 1 := fun k h => h.2
      have HNE := Lib.hid hne
      have gn : g ≠ w.heap.size + 1 + 1 := by omega
      have F0 : Fr (fun k => k ≠ g ∧ k ≠ w.heap.size + 1 + 1) wc wc.drew := Fr.drewN 1
      have HF0 := Lib.hid F0
      clear hB h1 hz hs3 hbo hBw hne F0
      go_upto_region 5 with fail
      go_region_held3 (fun W => rowOk W (bo) 0 16 = true ∧ rowOf W (bo) 0 16 = tF (ftal M) ∧ W.cell? ⟨w.heap.size + 1, 1, none⟩ = some (.int .i64 er) ∧ W.cell? ⟨w.heap.size + 1, 2, none⟩ = some (.int .i64 re) ∧ W.cell? ⟨w.heap.size + 1, 3, none⟩ = some (.int .i64 ma)) (first | exact HK5.out _ HF0.out | exact HK5.out _ F6.out | exact HK5.out _ (F6.out.trans (Fr.setRow HNE.out _)))
        (first
        | (go_at_call 13; refine (num16_any _ _).mono ?_; rintro e' wn ⟨rfl, rfl⟩)
        | (go_at_call 25; (with_reducible refine (HG.out wc.drew (hTc.out.drew)).mono ?_); rintro e' w6 ⟨rfl, hT6, f6⟩; have F6 := Lib.hid ((HF0.out.trans (f6.mono (fun k _ h => h.1)))); have HT6 := Lib.hid (And.intro hT6 (HZ7.out.drewN 1)); have f7 := Lib.hid f6; obtain ⟨z50, z51, z52⟩ := (f6.blk (HZ7.out.drewN 1) (Ne.symm gn)).row (n := 16) rfl; clear f6 hT6))
      have zr := (f7.out.blk (HZ7.out.drewN 1) (Ne.symm gn)).setRow (tF (ftal M))
      obtain ⟨q0, q1, q2⟩ := zr.row (tF_size _)
      clear zr
      go_wp2_with fail
      refine bodyPost_ret (v := .tuple #[.pointer (some ⟨g, 0, none⟩), .agg (tF (ftal M)), .bool true]) (results_tct (p := 7) (q := 8) (r := 6) rfl _ _ _ _ _ _ rfl (ld16_at q1 q2) (by simp) rfl) rfl ?_
      exact ⟨g, rfl, HT6.out.1.setRow_ne gn _, act_fr HBW.out gl f7.out, .inl rfl⟩

set_option maxHeartbeats 4000000 in
theorem act_leave {w : World} {g : Nat} {L : List Int} (wh er re ma : Int) (hw : wh = 2 ∨ wh = 3) (hm : ma ≤ 9223372036854775807) (hT : Ta w g L) : Calls Tryz.prog 23 #[.pointer (some ⟨g, 0, none⟩), .agg (tF (ftal L)), .agg #[.int .i64 wh, .int .i64 er, .int .i64 re, .int .i64 ma]] w (ActP w g (cntL L (ixR re) ma)) := by
  have HR := Lib.hid (fun W => refleave_any L hT.len hT.bd re ma hm W)
  have x0 := ((Blk.new w 68 (tF (ftal L))).alloc (.cells #[.int .i64 wh, .int .i64 er, .int .i64 re, .int .i64 ma] 72)).alloc (.cells #[.int .i64 0, .int .i64 0, .int .i64 0, .int .i64 0, .int .i64 0, .int .i64 0, .int .i64 0, .int .i64 0, .int .i64 0, .int .i64 0, .int .i64 0, .int .i64 0, .int .i64 0, .int .i64 0, .int .i64 0, .int .i64 0] 68)
  have x1 := (Blk.new (w.alloc (.cells (tF (ftal L)) 68)) 72 #[.int .i64 wh, .int .i64 er, .int .i64 re, .int .i64 ma]).alloc (.cells #[.int .i64 0, .int .i64 0, .int .i64 0, .int .i64 0, .int .i64 0, .int .i64 0, .int .i64 0, .int .i64 0, .int .i64 0, .int .i64 0, .int .i64 0, .int .i64 0, .int .i64 0, .int .i64 0, .int .i64 0, .int .i64 0] 68)
  have x2 := Blk.new ((w.alloc (.cells (tF (ftal L)) 68)).alloc (.cells #[.int .i64 wh, .int .i64 er, .int .i64 re, .int .i64 ma] 72)) 68 #[.int .i64 0, .int .i64 0, .int .i64 0, .int .i64 0, .int .i64 0, .int .i64 0, .int .i64 0, .int .i64 0, .int .i64 0, .int .i64 0, .int .i64 0, .int .i64 0, .int .i64 0, .int .i64 0, .int .i64 0, .int .i64 0]
  simp only [World.size_alloc] at x1 x2
  have B0 : Below w.heap.size w (((w.alloc (.cells (tF (ftal L)) 68)).alloc (.cells #[.int .i64 wh, .int .i64 er, .int .i64 re, .int .i64 ma] 72)).alloc (.cells #[.int .i64 0, .int .i64 0, .int .i64 0, .int .i64 0, .int .i64 0, .int .i64 0, .int .i64 0, .int .i64 0, .int .i64 0, .int .i64 0, .int .i64 0, .int .i64 0, .int .i64 0, .int .i64 0, .int .i64 0, .int .i64 0] 68)) := balloc (balloc (balloc (Below.refl _ _) _) _) _
  have hs3 : (((w.alloc (.cells (tF (ftal L)) 68)).alloc (.cells #[.int .i64 wh, .int .i64 er, .int .i64 re, .int .i64 ma] 72)).alloc (.cells #[.int .i64 0, .int .i64 0, .int .i64 0, .int .i64 0, .int .i64 0, .int .i64 0, .int .i64 0, .int .i64 0, .int .i64 0, .int .i64 0, .int .i64 0, .int .i64 0, .int .i64 0, .int .i64 0, .int .i64 0, .int .i64 0] 68)).heap.size = w.heap.size + 3 := by simp
  have hT3 := hT.below B0
  have gl := hT.lt
  obtain ⟨w3, hw3⟩ : ∃ w3, w3 = (((w.alloc (.cells (tF (ftal L)) 68)).alloc (.cells #[.int .i64 wh, .int .i64 er, .int .i64 re, .int .i64 ma] 72)).alloc (.cells #[.int .i64 0, .int .i64 0, .int .i64 0, .int .i64 0, .int .i64 0, .int .i64 0, .int .i64 0, .int .i64 0, .int .i64 0, .int .i64 0, .int .i64 0, .int .i64 0, .int .i64 0, .int .i64 0, .int .i64 0, .int .i64 0] 68)) := ⟨_, rfl⟩
  rw [← hw3] at x0 x1 x2 B0 hs3 hT3
  have HWX := Lib.hid hw3
  have HS3 := Lib.hid hs3
  have X := Lib.hid (And.intro x0 (And.intro x1 (And.intro x2 (And.intro B0 hT3))))
  clear x0 x1 x2 B0 hs3 hw3 hT hT3
  have HG := Lib.hid (fun W (h : Ta W g L) => leave_any (w := W) re ma h)
  generalize cntL L (ixR re) ma = M at *
  generalize cntE (ixR re) ma = cq at *
  rcases hw with rfl | rfl
  all_goals
    go_enter Tryz.func23, Tryz.ntmps23
    go_upto_region 8 with fail
    rw [← HWX.out]
    have k0 := X.out.1.row (tF_size _)
    obtain ⟨k00, k01, k02⟩ := k0
    have c2 := X.out.2.1.cell 2
    have c3 := X.out.2.1.cell 3
    simp only [List.getElem?_toArray, List.getElem?_cons_zero, List.getElem?_cons_succ] at c2 c3
    go_wp2_with fail
    refine (HR.out _).mono ?_
    rintro e' w5 ⟨rfl, b5⟩
    have n5 := rowIs_new w5 #[.int .i64 0, .int .i64 0, .int .i64 0, .int .i64 0, .int .i64 0, .int .i64 0, .int .i64 0, .int .i64 0, .int .i64 0, .int .i64 0, .int .i64 0, .int .i64 0, .int .i64 0, .int .i64 0, .int .i64 0, .int .i64 0] 68 16
    simp only [List.size_toArray, List.length_cons, List.length_nil, Nat.reduceAdd, beq_self_eq_true] at n5
    go_upto_region 9 with fail
    have hB := (Blk.new w5 68 #[.int .i64 0, .int .i64 0, .int .i64 0, .int .i64 0, .int .i64 0, .int .i64 0, .int .i64 0, .int .i64 0, .int .i64 0, .int .i64 0, .int .i64 0, .int .i64 0, .int .i64 0, .int .i64 0, .int .i64 0, .int .i64 0]).setRow (tF (ftal M))
    have hBw : Below w3.heap.size w3 ((w5.alloc (.cells #[.int .i64 0, .int .i64 0, .int .i64 0, .int .i64 0, .int .i64 0, .int .i64 0, .int .i64 0, .int .i64 0, .int .i64 0, .int .i64 0, .int .i64 0, .int .i64 0, .int .i64 0, .int .i64 0, .int .i64 0, .int .i64 0] 68)).setRow w5.heap.size (tF (ftal M))) := below_new16 b5 _ _
    have hbo := b5.size
    clear k00 k01 k02 c2 c3 n5
    have hBo : ∃ bo, w5.heap.size = bo := ⟨_, rfl⟩
    obtain ⟨bo, hBo⟩ := hBo
    generalize (w5.alloc (.cells #[.int .i64 0, .int .i64 0, .int .i64 0, .int .i64 0, .int .i64 0, .int .i64 0, .int .i64 0, .int .i64 0, .int .i64 0, .int .i64 0, .int .i64 0, .int .i64 0, .int .i64 0, .int .i64 0, .int .i64 0, .int .i64 0] 68)).setRow w5.heap.size (tF (ftal M)) = wc at *
    rw [hBo] at hB hbo ⊢
    clear hBo
    case' _ =>
      have hs3 := HS3.out
      have hz := X.out.2.2.1.below hBw X.out.2.2.1.lt
      have h1 := X.out.2.1.below hBw X.out.2.1.lt
      have hTc := Lib.hid (X.out.2.2.2.2.below hBw)
      have HK5 := Lib.hid (fun W (hW : Fr (fun k => k ≠ g ∧ k ≠ w.heap.size + 1 + 1) wc W) => s_keep5 (hW.blk hB ⟨by omega, by omega⟩) (hW.blk h1 ⟨by omega, by omega⟩))
      have HZ7 := Lib.hid hz
      have HBW := Lib.hid (bnext X.out.2.2.2.1 hBw)
      have hne : ∀ k, (k ≠ g ∧ k ≠ w.heap.size + 1 + 1) → k ≠ w.heap.size + 1 + 1 := fun k h => h.2
      have HNE := Lib.hid hne
      have gn : g ≠ w.heap.size + 1 + 1 := by omega
      have F0 : Fr (fun k => k ≠ g ∧ k ≠ w.heap.size + 1 + 1) wc wc.drew := Fr.drewN 1
      have HF0 := Lib.hid F0
      clear hB h1 hz hs3 hbo hBw hne F0
      go_upto_region 9 with fail
      go_region_held3 (fun W => rowOk W (bo) 0 16 = true ∧ rowOf W (bo) 0 16 = tF (ftal M) ∧ W.cell? ⟨w.heap.size + 1, 1, none⟩ = some (.int .i64 er) ∧ W.cell? ⟨w.heap.size + 1, 2, none⟩ = some (.int .i64 re) ∧ W.cell? ⟨w.heap.size + 1, 3, none⟩ = some (.int .i64 ma)) (first | exact HK5.out _ HF0.out | exact HK5.out _ F6.out | exact HK5.out _ (F6.out.trans (Fr.setRow HNE.out _)))
        (first
        | (go_at_call 13; refine (num16_any _ _).mono ?_; rintro e' wn ⟨rfl, rfl⟩)
        | (go_at_call 26; (with_reducible refine (HG.out wc.drew (hTc.out.drew)).mono ?_); rintro e' w6 ⟨rfl, hT6, f6⟩; have F6 := Lib.hid ((HF0.out.trans (f6.mono (fun k _ h => h.1)))); have HT6 := Lib.hid (And.intro hT6 (HZ7.out.drewN 1)); have f7 := Lib.hid f6; obtain ⟨z50, z51, z52⟩ := (f6.blk (HZ7.out.drewN 1) (Ne.symm gn)).row (n := 16) rfl; clear f6 hT6))
      have zr := (f7.out.blk (HZ7.out.drewN 1) (Ne.symm gn)).setRow (tF (ftal M))
      obtain ⟨q0, q1, q2⟩ := zr.row (tF_size _)
      clear zr
      go_wp2_with fail
      refine bodyPost_ret (v := .tuple #[.pointer (some ⟨g, 0, none⟩), .agg (tF (ftal M)), .bool true]) (results_tct (p := 7) (q := 8) (r := 6) rfl _ _ _ _ _ _ rfl (ld16_at q1 q2) (by simp) rfl) rfl ?_
      exact ⟨g, rfl, HT6.out.1.setRow_ne gn _, act_fr HBW.out gl f7.out, .inl rfl⟩

set_option maxHeartbeats 4000000 in
theorem act_copy16 {w : World} {g : Nat} {L : List Int} (wh er re ma : Int) (hw : wh ≠ 0 ∧ wh ≠ 1 ∧ wh ≠ 2 ∧ wh ≠ 3) (hT : Ta w g L) : Calls Tryz.prog 23 #[.pointer (some ⟨g, 0, none⟩), .agg (tF (ftal L)), .agg #[.int .i64 wh, .int .i64 er, .int .i64 re, .int .i64 ma]] w (ActP w g L) := by
  have x0 := ((Blk.new w 68 (tF (ftal L))).alloc (.cells #[.int .i64 wh, .int .i64 er, .int .i64 re, .int .i64 ma] 72)).alloc (.cells #[.int .i64 0, .int .i64 0, .int .i64 0, .int .i64 0, .int .i64 0, .int .i64 0, .int .i64 0, .int .i64 0, .int .i64 0, .int .i64 0, .int .i64 0, .int .i64 0, .int .i64 0, .int .i64 0, .int .i64 0, .int .i64 0] 68)
  have x1 := (Blk.new (w.alloc (.cells (tF (ftal L)) 68)) 72 #[.int .i64 wh, .int .i64 er, .int .i64 re, .int .i64 ma]).alloc (.cells #[.int .i64 0, .int .i64 0, .int .i64 0, .int .i64 0, .int .i64 0, .int .i64 0, .int .i64 0, .int .i64 0, .int .i64 0, .int .i64 0, .int .i64 0, .int .i64 0, .int .i64 0, .int .i64 0, .int .i64 0, .int .i64 0] 68)
  have x2 := Blk.new ((w.alloc (.cells (tF (ftal L)) 68)).alloc (.cells #[.int .i64 wh, .int .i64 er, .int .i64 re, .int .i64 ma] 72)) 68 #[.int .i64 0, .int .i64 0, .int .i64 0, .int .i64 0, .int .i64 0, .int .i64 0, .int .i64 0, .int .i64 0, .int .i64 0, .int .i64 0, .int .i64 0, .int .i64 0, .int .i64 0, .int .i64 0, .int .i64 0, .int .i64 0]
  simp only [World.size_alloc] at x1 x2
  have B0 : Below w.heap.size w (((w.alloc (.cells (tF (ftal L)) 68)).alloc (.cells #[.int .i64 wh, .int .i64 er, .int .i64 re, .int .i64 ma] 72)).alloc (.cells #[.int .i64 0, .int .i64 0, .int .i64 0, .int .i64 0, .int .i64 0, .int .i64 0, .int .i64 0, .int .i64 0, .int .i64 0, .int .i64 0, .int .i64 0, .int .i64 0, .int .i64 0, .int .i64 0, .int .i64 0, .int .i64 0] 68)) := balloc (balloc (balloc (Below.refl _ _) _) _) _
  have hs3 : (((w.alloc (.cells (tF (ftal L)) 68)).alloc (.cells #[.int .i64 wh, .int .i64 er, .int .i64 re, .int .i64 ma] 72)).alloc (.cells #[.int .i64 0, .int .i64 0, .int .i64 0, .int .i64 0, .int .i64 0, .int .i64 0, .int .i64 0, .int .i64 0, .int .i64 0, .int .i64 0, .int .i64 0, .int .i64 0, .int .i64 0, .int .i64 0, .int .i64 0, .int .i64 0] 68)).heap.size = w.heap.size + 3 := by simp
  have hT3 := hT.below B0
  have gl := hT.lt
  obtain ⟨w3, hw3⟩ : ∃ w3, w3 = (((w.alloc (.cells (tF (ftal L)) 68)).alloc (.cells #[.int .i64 wh, .int .i64 er, .int .i64 re, .int .i64 ma] 72)).alloc (.cells #[.int .i64 0, .int .i64 0, .int .i64 0, .int .i64 0, .int .i64 0, .int .i64 0, .int .i64 0, .int .i64 0, .int .i64 0, .int .i64 0, .int .i64 0, .int .i64 0, .int .i64 0, .int .i64 0, .int .i64 0, .int .i64 0] 68)) := ⟨_, rfl⟩
  rw [← hw3] at x0 x1 x2 B0 hs3 hT3
  have HWX := Lib.hid hw3
  have HS3 := Lib.hid hs3
  have X := Lib.hid (And.intro x0 (And.intro x1 (And.intro x2 (And.intro B0 hT3))))
  clear x0 x1 x2 B0 hs3 hw3 hT hT3
  obtain ⟨w0, w1, w2, w3'⟩ := hw
  have t0 : (wh == 0) = false := by rw [beq_eq_false_iff_ne]; exact w0
  have t1 : (wh == 1) = false := by rw [beq_eq_false_iff_ne]; exact w1
  have t2 : (wh == 2) = false := by rw [beq_eq_false_iff_ne]; exact w2
  have t3 : (wh == 3) = false := by rw [beq_eq_false_iff_ne]; exact w3'
  have HCP := Lib.hid (fun W (h : Ta W g L) => gcopy_any h)
  go_enter Tryz.func23, Tryz.ntmps23
  go_upto_region 10 with fail
  rw [← HWX.out]
  have HK := Lib.hid (fun W (hW : Fr (fun k => k ≠ w.heap.size + 1 + 1) w3 W) => s_keep (hW.blk X.out.1 (by have := HS3.out; omega)) (hW.blk X.out.2.1 (by omega)))
  have hF0 : Fr (fun k => k ≠ w.heap.size + 1 + 1) w3 w3.drew := Fr.drewN 1
  have HF0 := Lib.hid hF0
  have HNE := Lib.hid (show ∀ k, k ≠ w.heap.size + 1 + 1 → k ≠ w.heap.size + 1 + 1 from fun k h => h)
  clear hF0
  go_region_held3 (fun W => rowOk W (w.heap.size) 0 16 = true ∧ rowOf W (w.heap.size) 0 16 = tF (ftal L) ∧ W.cell? ⟨w.heap.size + 1, 1, none⟩ = some (.int .i64 er) ∧ W.cell? ⟨w.heap.size + 1, 2, none⟩ = some (.int .i64 re) ∧ W.cell? ⟨w.heap.size + 1, 3, none⟩ = some (.int .i64 ma)) (first | exact HK.out _ HF0.out | exact HK.out _ F6.out | exact HK.out _ (F6.out.trans (Fr.setRow HNE.out _)))
    (first
    | (go_at_call 31; (with_reducible refine (HCP.out w3.drew (X.out.2.2.2.2.drew)).mono ?_); rintro e' w6 ⟨g', rfl, hg', hT6, b6⟩; have F6 := Lib.hid (HF0.out.trans (Fr.of_below b6)); have HT6 := Lib.hid (And.intro hT6 (And.intro hg' b6)); obtain ⟨z50, z51, z52⟩ := (Blk.below (w := w3.drew) (X.out.2.2.1.drewN 1) b6 X.out.2.2.1.lt).row (n := 16) rfl; clear hT6 b6))
  have zr := (Blk.below (w := w3.drew) (X.out.2.2.1.drewN 1) HT6.out.2.2 X.out.2.2.1.lt).setRow (tF (ftal L))
  obtain ⟨q0, q1, q2⟩ := zr.row (tF_size _)
  clear zr
  go_wp2_with fail
  refine bodyPost_ret (v := .tuple #[.pointer (some ⟨g', 0, none⟩), .agg (tF (ftal L)), .bool true]) (results_tct (p := 7) (q := 8) (r := 6) rfl _ _ _ _ _ _ rfl (ld16_at q1 q2) rfl rfl) rfl ?_
  have hs := HS3.out
  have hgg : w3.heap.size ≤ g' := HT6.out.2.1
  exact ⟨g', rfl, HT6.out.1.setRow_ne (by omega) _, act_fr X.out.2.2.2.1 gl (Fr.of_below HT6.out.2.2), .inr (by omega)⟩
theorem act_any {w : World} {g : Nat} {L : List Int} (wh er re ma : Int) (hm : ma ≤ 9223372036854775807) (hT : Ta w g L) : Calls Tryz.prog 23 #[.pointer (some ⟨g, 0, none⟩), .agg (tF (ftal L)), .agg #[.int .i64 wh, .int .i64 er, .int .i64 re, .int .i64 ma]] w (ActP w g (actL L wh er re ma)) := by
  by_cases h1 : wh = 0 ∨ wh = 1
  · rw [show actL L wh er re ma = cntL L (ixE er) 1 from if_pos h1]
    exact act_refuse wh er re ma h1 hT
  by_cases h2 : wh = 2 ∨ wh = 3
  · rw [show actL L wh er re ma = cntL L (ixR re) ma by unfold actL; rw [if_neg h1, if_pos h2]]
    exact act_leave wh er re ma h2 hm hT
  · rw [show actL L wh er re ma = L by unfold actL; rw [if_neg h1, if_neg h2]]
    exact act_copy16 wh er re ma (by omega) hT
end Go.Proofs.YtlanfceilajifaaGreatDoor
