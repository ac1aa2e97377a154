/- The document's Read and Each of entries. -/
import Derived.Test.YtpadlillbofpnaaDoorEEach
import Derived.Maps.AppendAt
namespace Go.Proofs.YtpadlillbofpnaaDoor
set_option linter.unusedVariables false
set_option linter.unusedSimpArgs false
open Go.RowKit
set_option maxRecDepth 100000

theorem refRead_fld (l : List UInt8) (A : Option Addr) (c : Nat) (hlc : l.length ≤ c) (hcm : c ≤ 9223372036854775807) (p k : Nat) (hk : k = 2 ∨ k = 4) (h : p + k ≤ l.length) (B : Nat) (W : World) (hr : Rd W B A (l.map b8)) :
    Calls Tryd.prog 66 #[.slice A l.length c, .int .i64 p, .int .i64 k] W fun e w' => e = .returned (.tuple #[.int .u32 (fld l p k), .int .i64 0]) ∧ W = w' := by
  have := refRead_any l l.length rfl A c B W hr hlc hcm p k
  rw [rdF_fld l p k hk h] at this
  exact this

set_option maxHeartbeats 1000000 in
theorem refERead_ok (l : List UInt8) (A : Option Addr) (c : Nat) (w : World) (h : Rd w w.heap.size A (l.map b8)) (hlc : l.length ≤ c) (hcm : c ≤ 9223372036854775807) (hl : 20 ≤ l.length) :
    Calls Tryd.prog 48 #[.slice A l.length c] w fun e w' => e = .returned (.tuple #[readE l, .int .i64 0]) ∧ Below w.heap.size w w' := by
  have hr := h.alloc (Nat.le_refl _) (.cells #[.int .i64 0, .int .i64 0, .int .u32 0, .int .u32 0, .int .u32 0, .int .u32 0] 55)
  have C0 := Lib.hid (refRead_fld l A c hlc hcm 0 2 (by omega) (by omega) _ _ hr)
  have C1 := Lib.hid (refRead_fld l A c hlc hcm 2 2 (by omega) (by omega) _ _ hr)
  have C2 := Lib.hid (refRead_fld l A c hlc hcm 4 4 (by omega) (by omega) _ _ hr)
  have C3 := Lib.hid (refRead_fld l A c hlc hcm 8 4 (by omega) (by omega) _ _ hr)
  have C4 := Lib.hid (refRead_fld l A c hlc hcm 12 4 (by omega) (by omega) _ _ hr)
  have C5 := Lib.hid (refRead_fld l A c hlc hcm 16 4 (by omega) (by omega) _ _ hr)
  unfold readE
  have hf0 := fld_lt l 0 2
  generalize fld l 0 2 = v0 at *
  have hf1 := fld_lt l 2 2
  generalize fld l 2 2 = v1 at *
  have hf2 := fld_lt l 4 4
  generalize fld l 4 4 = v2 at *
  have hf3 := fld_lt l 8 4
  generalize fld l 8 4 = v3 at *
  have hf4 := fld_lt l 12 4
  generalize fld l 12 4 = v4 at *
  have hf5 := fld_lt l 16 4
  generalize fld l 16 4 = v5 at *
  have hv0 : IntKind.i64.wrap (v0 : Int) = v0 := IntWalk.i64_in _ ⟨by omega, by omega⟩
  have hv1 : IntKind.i64.wrap (v1 : Int) = v1 := IntWalk.i64_in _ ⟨by omega, by omega⟩
  clear hr h
  go_enter Tryd.func48, Tryd.ntmps48
  go_wp2_with fail
  refine C0.out.mono ?_
  rintro e w' ⟨rfl, rfl⟩
  go_wp2_with fail
  refine C1.out.mono ?_
  rintro e w' ⟨rfl, rfl⟩
  go_wp2_with fail
  refine C2.out.mono ?_
  rintro e w' ⟨rfl, rfl⟩
  go_wp2_with fail
  refine C3.out.mono ?_
  rintro e w' ⟨rfl, rfl⟩
  go_wp2_with fail
  refine C4.out.mono ?_
  rintro e w' ⟨rfl, rfl⟩
  go_wp2_with fail
  refine C5.out.mono ?_
  rintro e w' ⟨rfl, rfl⟩
  go_wp2_with fail
  refine bodyPost_ret (v := .tuple #[.agg #[.int .i64 v0, .int .i64 v1, .int .u32 v2, .int .u32 v3, .int .u32 v4, .int .u32 v5], .int .i64 0]) (by simp [results, Tryd.results48, go_sem]) rfl ⟨rfl, ?_⟩
  exact balloc (Below.refl _ _) _

set_option maxHeartbeats 1000000 in
theorem refERead_bad (l : List UInt8) (A : Option Addr) (c : Nat) (w : World) (hl : l.length < 20) :
    Calls Tryd.prog 48 #[.slice A l.length c] w fun e w' => e = .returned (.tuple #[.agg #[.int .i64 0, .int .i64 0, .int .u32 0, .int .u32 0, .int .u32 0, .int .u32 0], .int .i64 130]) ∧ Below w.heap.size w w' := by
  go_enter Tryd.func48, Tryd.ntmps48
  go_wp2_with fail
  refine bodyPost_ret (v := .tuple #[.agg #[.int .i64 0, .int .i64 0, .int .u32 0, .int .u32 0, .int .u32 0, .int .u32 0], .int .i64 130]) (by simp [results, Tryd.results48, go_sem]) rfl ⟨rfl, ?_⟩
  exact balloc (Below.refl _ _) _

theorem ent_info : (Tryd.prog.info? 55).map (fun i => (i.zero, i.size, i.bytes)) = some (some (.agg #[.int .i64 0, .int .i64 0, .int .u32 0, .int .u32 0, .int .u32 0, .int .u32 0]), 6, 32) := by kernel_rfl
/-- an entry's cells -/
def entL (l : List UInt8) (i : Nat) : List Value := [.int .i64 (fld (l.drop (i * 20)) 0 2), .int .i64 (fld (l.drop (i * 20)) 2 2), .int .u32 (fld (l.drop (i * 20)) 4 4), .int .u32 (fld (l.drop (i * 20)) 8 4), .int .u32 (fld (l.drop (i * 20)) 12 4), .int .u32 (fld (l.drop (i * 20)) 16 4)]
def entA (l : List UInt8) (i : Nat) : Array Value := #[.int .i64 (fld (l.drop (i * 20)) 0 2), .int .i64 (fld (l.drop (i * 20)) 2 2), .int .u32 (fld (l.drop (i * 20)) 4 4), .int .u32 (fld (l.drop (i * 20)) 8 4), .int .u32 (fld (l.drop (i * 20)) 12 4), .int .u32 (fld (l.drop (i * 20)) 16 4)]
def entC (l : List UInt8) (j : Nat) : List Value := (List.range j).flatMap (entL l)
theorem entC_succ (l : List UInt8) (j : Nat) : entC l (j + 1) = entC l j ++ entL l j := by simp [entC, List.range_succ]
theorem entC_len (l : List UInt8) (j : Nat) : (entC l j).length = j * 6 := by
  induction j with
  | zero => rfl
  | succ j ih => rw [entC_succ, List.length_append, ih]; simp [entL]; omega
theorem entC_get (l : List UInt8) (N : Nat) : ∀ i, i < N → ∀ q, q < 6 → (entC l N)[i * 6 + q]? = (entL l i)[q]? := by
  induction N with
  | zero => intro i hi; omega
  | succ N ih =>
    intro i hi q hq
    rw [entC_succ]
    by_cases h : i < N
    · rw [List.getElem?_append_left (by rw [entC_len]; omega)]
      exact ih i h q hq
    · obtain rfl : i = N := by omega
      rw [List.getElem?_append_right (by rw [entC_len]; omega), entC_len, Nat.add_sub_cancel_left]

set_option maxHeartbeats 2000000 in
theorem refEEach_new (l : List UInt8) (A : Option Addr) (c : Nat) (w : World) (h : Rd w w.heap.size A (l.map b8)) (hlc : l.length ≤ c) (hcm : c ≤ 9223372036854775807) (hl : l.length ≤ 1048576) :
    Calls Tryd.prog 29 #[.slice A l.length c] w fun e w' => ∃ A' c', e = .returned (.slice A' (l.length / 20) c') ∧ l.length / 20 ≤ c' ∧ c' ≤ maxLen ∧ Rd w' w'.heap.size A' (entC l (l.length / 20)) ∧ Below w.heap.size w w' ∧ (∀ a, A' = some a → w.heap.size ≤ a.block) := by
  obtain ⟨i0, hi0, hz0, hz1, hz2⟩ := info_parts ent_info
  have HR := Lib.hid h
  clear h
  go_enter Tryd.func29, Tryd.ntmps29
  go_wp2_with fail
  go_loopw [0, 3] (fun b v wr => ∃ (j : Nat) (Aj : Option Addr) (cj : Nat), j ≤ l.length / 20 ∧ b = .slice Aj (l.length - j * 20) cj ∧ l.length - j * 20 ≤ cj ∧ cj ≤ 9223372036854775807 ∧ Rd w w.heap.size Aj ((l.drop (j * 20)).map b8) ∧ wr.ownsRow w.heap.size 55 6 v j (entC l j) ∧ Below w.heap.size w wr) (fun b _ _ => match b with | .slice _ n _ => n | _ => 0)
  case atStart => exact ⟨0, A, c, Nat.zero_le _, by simp, by omega, hcm, by simpa using HR.out, by simpa [entC] using World.ownsRow_nil _ _ _ _, Below.refl _ _⟩
  case round =>
    obtain ⟨j, Aj, cj, hj, rfl, hlj, hcj, hrj, hown, hb⟩ := hrel
    by_cases hlt : j < l.length / 20
    · have hlen : (l.drop (j * 20)).length = l.length - j * 20 := by simp
      have hcall := refERead_ok (l.drop (j * 20)) Aj cj wr ((hrj.below hb).more hb.size) (by rw [hlen]; exact hlj) hcj (by rw [hlen]; omega)
      rw [hlen] at hcall
      unfold readE at hcall
      have hS := entC_succ l j
      unfold entL at hS
      generalize fld (l.drop (j * 20)) 0 2 = v0 at *
      generalize fld (l.drop (j * 20)) 2 2 = v1 at *
      generalize fld (l.drop (j * 20)) 4 4 = v2 at *
      generalize fld (l.drop (j * 20)) 8 4 = v3 at *
      generalize fld (l.drop (j * 20)) 12 4 = v4 at *
      generalize fld (l.drop (j * 20)) 16 4 = v5 at *
      have CC := Lib.hid hcall
      have HS := Lib.hid hS
      have HJ := Lib.hid hrj
      have HL := Lib.hid hlen
      have hj20 : j * 20 + 20 ≤ l.length := by omega
      clear hcall hS hrj hlen
      go_wp2_with fail
      refine CC.out.mono ?_
      rintro e w2 ⟨rfl, b2⟩
      have hn2 : Rd ((w2.alloc (.cells #[.int .i64 v0, .int .i64 v1, .int .u32 v2, .int .u32 v3, .int .u32 v4, .int .u32 v5] 55)).alloc (.cells #[.int .i64 v0, .int .i64 v1, .int .u32 v2, .int .u32 v3, .int .u32 v4, .int .u32 v5] 55)) (w2.heap.size + 1 + 1) (some ⟨w2.heap.size + 1, 0, none⟩) [.int .i64 v0, .int .i64 v1, .int .u32 v2, .int .u32 v3, .int .u32 v4, .int .u32 v5] := by
        have := Rd.newL (w2.alloc (.cells #[.int .i64 v0, .int .i64 v1, .int .u32 v2, .int .u32 v3, .int .u32 v4, .int .u32 v5] 55)) 55 #[.int .i64 v0, .int .i64 v1, .int .u32 v2, .int .u32 v3, .int .u32 v4, .int .u32 v5] _ rfl
        rwa [World.size_alloc] at this
      have HN := Lib.hid hn2
      have hsz : w.heap.size ≤ w2.heap.size := Nat.le_trans hb.size b2.size
      have ho2 := Lib.hid (((own_below hown b2).alloc (.cells #[.int .i64 v0, .int .i64 v1, .int .u32 v2, .int .u32 v3, .int .u32 v4, .int .u32 v5] 55)).alloc (.cells #[.int .i64 v0, .int .i64 v1, .int .u32 v2, .int .u32 v3, .int .u32 v4, .int .u32 v5] 55))
      have hb2 : Below w.heap.size w ((w2.alloc (.cells #[.int .i64 v0, .int .i64 v1, .int .u32 v2, .int .u32 v3, .int .u32 v4, .int .u32 v5] 55)).alloc (.cells #[.int .i64 v0, .int .i64 v1, .int .u32 v2, .int .u32 v3, .int .u32 v4, .int .u32 v5] 55)) := balloc (balloc (bnext hb b2) _) _
      clear hn2
      by_cases hcap : cj = 20
      · subst hcap
        obtain ⟨hln⟩ : Nonempty (l.length - j * 20 = 20) := ⟨by omega⟩
        have HLN := Lib.hid hln
        clear hln
        go_wp2_with (at_builtin; refine wpList_append_rd rfl _ _ 25 rfl w.heap.size 55 i0 _ 6 32 Tryd.underlying25 hi0 hz0 hz1 hz2 rfl (by decide) _ j _ rfl ho2.out 1 1 [.int .i64 v0, .int .i64 v1, .int .u32 v2, .int .u32 v3, .int .u32 v4, .int .u32 v5] rfl rfl HN.out (by simp [Value.oneCell']) (by simp only [maxLen]; omega) (by omega) (by simp; omega) ?_; intro v' w3 ho3 hg3 ha3)
        have e0 : l.length - (j + 1) * 20 = 0 := by have := HLN.out; omega
        refine ⟨⟨j + 1, Aj, 0, by omega, by rw [e0], by omega, by omega, ?_, by rw [HS.out]; exact ho3, hb2.grown hg3 hb2.size (own_base ho2.out)⟩, ?_⟩
        · rw [List.drop_eq_nil_of_le (by omega)]; exact Rd.nil
        · show 0 < l.length - j * 20; omega
      · have hc20 : 20 ≤ cj := by omega
        go_wp2_with (at_builtin; refine wpList_append_rd rfl _ _ 25 rfl w.heap.size 55 i0 _ 6 32 Tryd.underlying25 hi0 hz0 hz1 hz2 rfl (by decide) _ j _ rfl ho2.out 1 1 [.int .i64 v0, .int .i64 v1, .int .u32 v2, .int .u32 v3, .int .u32 v4, .int .u32 v5] rfl rfl HN.out (by simp [Value.oneCell']) (by simp only [maxLen]; omega) (by omega) (by simp; omega) ?_; intro v' w3 ho3 hg3 ha3)
        refine ⟨⟨j + 1, _, cj - 20, by omega, by rw [show l.length - (j + 1) * 20 = l.length - j * 20 - 20 by omega], by omega, by omega, ?_, by rw [HS.out]; exact ho3, hb2.grown hg3 hb2.size (own_base ho2.out)⟩, ?_⟩
        · by_cases hm : 20 < l.length - j * 20
          · have := rd_drop HJ.out 20 (by rw [HL.out]; exact hm)
            rw [List.drop_drop, show j * 20 + 20 = (j + 1) * 20 by omega] at this
            exact this
          · rw [List.drop_eq_nil_of_le (by omega)]; exact Rd.nil
        · show l.length - j * 20 - 20 < l.length - j * 20; omega
    · have hz : l.length - j * 20 < 20 := by omega
      obtain rfl : j = l.length / 20 := by omega
      have hba := own_base hown
      obtain ⟨A', c', rfl, h1, h2, h3⟩ := own_shapeN hown
      go_wp2_with fail
      go_ret
      exact ⟨A', c', rfl, h1, h2, h3, hb, fun a ha => hba a.block (by rw [ha]; rfl)⟩
theorem refEEach_any (l : List UInt8) (A : Option Addr) (c : Nat) (w : World) (h : Rd w w.heap.size A (l.map b8)) (hlc : l.length ≤ c) (hcm : c ≤ 9223372036854775807) (hl : l.length ≤ 1048576) :
    Calls Tryd.prog 29 #[.slice A l.length c] w fun e w' => ∃ A' c', e = .returned (.slice A' (l.length / 20) c') ∧ l.length / 20 ≤ c' ∧ c' ≤ maxLen ∧ Rd w' w'.heap.size A' (entC l (l.length / 20)) ∧ Below w.heap.size w w' :=
  (refEEach_new l A c w h hlc hcm hl).mono fun _ _ ⟨A', c', e, h1, h2, h3, h4, _⟩ => ⟨A', c', e, h1, h2, h3, h4⟩
end Go.Proofs.YtpadlillbofpnaaDoor
