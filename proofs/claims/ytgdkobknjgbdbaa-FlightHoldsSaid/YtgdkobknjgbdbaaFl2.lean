/- flight: first, join, clone, SameMail. -/
import Derived.Test.YtgdkobknjgbdbaaFl1
namespace Go.Proofs.Ytgdkobknjgbdbaa
set_option linter.unusedVariables false
set_option linter.unusedSimpArgs false
open Go.RowKit
set_option maxRecDepth 100000

/-- the first place at which a mail is late, or how many there are -/
def fstL (now delay : Int) (L : List Mm) : Nat := L.findIdx (lateM now delay)
def fstZ (now delay : Int) (L : List Mm) : Int := if fstL now delay L < L.length then (fstL now delay L : Int) else -1
theorem fst_found {now delay : Int} {L : List Mm} {c : Nat} (hc : c < L.length) (h0 : ∀ i, (hi : i < c) → lateM now delay (L[i]'(by omega)) = false) (h1 : lateM now delay L[c] = true) : fstL now delay L = c := by
  unfold fstL
  rw [List.findIdx_eq hc]
  exact ⟨h1, fun j hj => h0 j hj⟩
theorem fst_none {now delay : Int} {L : List Mm} (h0 : ∀ i, (hi : i < L.length) → lateM now delay L[i] = false) : fstL now delay L = L.length := by
  unfold fstL
  rw [List.findIdx_eq_length]
  intro x hx
  obtain ⟨i, hi, rfl⟩ := List.mem_iff_getElem.1 hx
  exact h0 i hi
def msL (rs : List Ml) : List Mm := rs.map (·.m)
theorem msL_len (rs : List Ml) : (msL rs).length = rs.length := by simp [msL]
theorem msL_get (rs : List Ml) (i : Nat) (h : i < rs.length) : (msL rs)[i]'(by rw [msL_len]; exact h) = rs[i].m := by simp [msL]

set_option maxHeartbeats 1000000 in
theorem first_any (rs : List Ml) (n k B : Nat) (hn : rs.length = n) (A : Option Addr) (now delay : Int) (bn bd : Nat) (w : World) (hr : Rd w B A (mlC rs)) (hB : B ≤ w.heap.size) (hk : n ≤ 1000000) (hs : ∀ r ∈ rs, 0 ≤ r.m.sent) (hnow : now ≤ 9223372036854775807)
    (h1 : w.cell? ⟨bn, 0, none⟩ = some (.int .i64 now)) (h2 : w.cell? ⟨bd, 0, none⟩ = some (.int .i64 delay)) :
    Calls Try.prog 31 #[.slice A n k, .func (.func 32) #[] #[.pointer (some ⟨bn, 0, none⟩), .pointer (some ⟨bd, 0, none⟩)]] w fun e w' => e = .returned (.int .i64 (fstZ now delay (msL rs))) ∧ Below w.heap.size w w' := by
  have HN := Lib.hid hn
  have HR := Lib.hid hr
  have HS := Lib.hid hs
  have H1 := Lib.hid h1
  have H2 := Lib.hid h2
  have l1 := cell_lt h1
  have l2 := cell_lt h2
  clear hn hr hs h1 h2
  go_enter Try.func31, Try.ntmps31
  go_wp2_with fail
  go_loopw [9] (fun i wr => ∃ c : Nat, c ≤ n ∧ i = .int .i64 c ∧ Below w.heap.size w wr ∧ Hid (∀ i, (hi : i < c) → (hl : i < rs.length) → lateM now delay rs[i].m = false)) (fun i _ => n - (intOf i).toNat)
  case atStart => exact ⟨0, by omega, rfl, Below.refl _ _, fun i hi => absurd hi (by omega)⟩
  case round =>
    obtain ⟨c, hc, rfl, hb, HO⟩ := hrel
    by_cases hlt : c < n
    · have hcl : c < rs.length := by have := HN.out; omega
      obtain ⟨b, off, rfl, hbb, c0, c1, c2, c3, c4, c5⟩ := ml_at (HR.out.below (hb.mono hB)) (List.getElem?_eq_getElem hcl)
      have hS := HS.out rs[c] (List.getElem_mem hcl)
      have HL := Lib.hid (show ∀ i, (hi : i < c + 1) → (hl : i < rs.length) → lateM now delay rs[c].m = false → lateM now delay rs[i].m = false from fun i hi hl h => by
        rcases Nat.lt_or_ge i c with h' | h'
        · exact HO.out i h' hl
        · obtain rfl : i = c := by omega
          exact h)
      have HF := Lib.hid (show lateM now delay rs[c].m = true → fstZ now delay (msL rs) = c from fun h => by
        have e := fst_found (L := msL rs) (now := now) (delay := delay) (c := c) (by rw [msL_len]; exact hcl) (fun i hi => by rw [msL_get rs i (by omega)]; exact HO.out i hi (by omega)) (by rw [msL_get rs c hcl]; exact h)
        unfold fstZ
        rw [e, msL_len, if_pos hcl])
      have x1 := (hb.cell (p := ⟨bn, 0, none⟩) l1).trans H1.out
      have x2 := (hb.cell (p := ⟨bd, 0, none⟩) l2).trans H2.out
      have hLM : lateM now delay rs[c].m = lateB rs[c].m.sent now delay := rfl
      rw [hLM] at HL HF
      clear hLM
      have hi1 : (c : Int) < (n : Int) := by omega
      have hws := hb.size
      generalize rs[c].m.link = ylk at *
      generalize rs[c].m.frm = yfr at *
      generalize rs[c].m.dst = yds at *
      generalize rs[c].m.src = ysr at *
      generalize rs[c].A = yA at *
      generalize rs[c].m.bs.length = yn at *
      generalize rs[c].c = yc at *
      generalize rs[c].m.sent = yst at *
      have hla : ∀ W, Below wr.heap.size wr W → Calls Try.prog 32 #[.agg #[.int .i64 ylk, .int .i64 yfr, .int .i64 yds, .int .u32 ysr, .slice yA yn yc, .int .i64 yst], .pointer (some ⟨bn, 0, none⟩), .pointer (some ⟨bd, 0, none⟩)] W fun e w' => e = .returned (.bool (lateB yst now delay)) ∧ Below W.heap.size W w' := fun W hW =>
        late1_any ylk yfr yds ysr yA yn yc yst now delay bn bd W hS hnow ((hW.cell (p := ⟨bn, 0, none⟩) (by show bn < _; omega)).trans x1) ((hW.cell (p := ⟨bd, 0, none⟩) (by show bd < _; omega)).trans x2)
      have HLA := Lib.hid hla
      clear hla x1 x2
      cases hq : lateB yst now delay
      · rw [hq] at HLA HL
        clear HF
        go_wp2_with fail
        refine (HLA.out _ ?_).mono ?_
        · go_grown
        rintro e w1 ⟨rfl, b1⟩
        have b2 : Below w.heap.size w w1 := hb.trans ((by go_grown : Below w.heap.size wr _).trans (b1.mono (by simp; omega)))
        go_wp2_with fail
        go_roundw
        case rel => exact ⟨c + 1, by omega, by go_num, b2, fun i hi hl => HL.out i hi hl (by first | rfl | trivial)⟩
        case measure => simp [intOf]; omega
      · rw [hq] at HLA HF
        have hz := HF.out rfl
        clear HL HF
        have HZ := Lib.hid hz
        clear hz
        go_wp2_with fail
        refine (HLA.out _ ?_).mono ?_
        · go_grown
        rintro e w1 ⟨rfl, b1⟩
        have b2 : Below w.heap.size w w1 := hb.trans ((by go_grown : Below w.heap.size wr _).trans (b1.mono (by simp; omega)))
        go_wp2_with fail
        go_ret
        exact ⟨by rw [HZ.out]; rfl, b2⟩
    · obtain rfl : c = n := by omega
      go_wp2_with fail
      go_ret
      refine ⟨?_, hb⟩
      have e : fstZ now delay (msL rs) = -1 := by
        unfold fstZ
        rw [fst_none (L := msL rs) (fun i hi => by rw [msL_len] at hi; rw [msL_get rs i hi]; exact HO.out i (by have := HN.out; omega) hi)]
        simp
      rw [e]; rfl
end Go.Proofs.Ytgdkobknjgbdbaa
