/- flight: Count, SameMail, the document's SameMail. -/
import Derived.Test.YtgdkobknjgbdbaaFl6
namespace Go.Proofs.Ytgdkobknjgbdbaa
set_option linter.unusedVariables false
set_option linter.unusedSimpArgs false
open Go.RowKit
set_option maxRecDepth 100000

/-- how many are late -/
def cntN (now delay : Int) (L : List Mm) : Nat := if delay < 0 then 0 else (L.filter (lateM now delay)).length
theorem cntN_le (now delay : Int) (L : List Mm) : cntN now delay L ≤ L.length := by
  unfold cntN; split
  · omega
  · exact List.length_filter_le _ _
theorem filt_snoc (p : Mm → Bool) (L : List Mm) (k : Nat) (h : k < L.length) : ((L.take (k + 1)).filter p).length = ((L.take k).filter p).length + (if p L[k] = true then 1 else 0) := by
  rw [List.take_succ_eq_append_getElem h, List.filter_append, List.length_append]
  by_cases hp : p L[k] = true <;> simp [hp]

theorem count_nil (now delay : Int) (w : World) : Calls Try.prog 24 #[.pointer none, .int .i64 now, .int .i64 delay] w fun e w' => e = .returned (.int .i64 0) ∧ w = w' := by
  go_enter Try.func24, Try.ntmps24
  go_wp2_with (go_at_call 30; refine (live_nil _).mono ?_; rintro e w' ⟨rfl, rfl⟩)
  go_ret
  exact ⟨rfl, rfl⟩
section
variable {n0 g room lost : Nat} {v : Value} {rs : List Ml} {w : World}
set_option maxHeartbeats 1000000 in
theorem count_any (now delay : Int) (hF : Fl w n0 g v rs room lost) (hnow : now ≤ 9223372036854775807) : Calls Try.prog 24 #[.pointer (some ⟨g, 0, none⟩), .int .i64 now, .int .i64 delay] w fun e w' => e = .returned (.int .i64 (cntN now delay (msL rs) : Nat)) ∧ Below w.heap.size w w' := by
  have HL := Lib.hid hF.live
  by_cases h0 : delay < 0
  · have hc : cntN now delay (msL rs) = 0 := by simp [cntN, h0]
    rw [hc]
    clear hc hF
    go_enter Try.func24, Try.ntmps24
    go_wp2_with (go_at_call 30; refine (HL.out _ (Below.refl _ _)).mono ?_; rintro e w' ⟨rfl, rfl⟩)
    go_ret
    exact ⟨rfl, Below.refl _ _⟩
  have h0' : 0 ≤ delay := by omega
  have HC := Lib.hid (show cntN now delay (msL rs) = ((msL rs).filter (lateM now delay)).length by simp [cntN, h0])
  obtain ⟨A, c, hv, hc1, hc2, hR, _⟩ := hF.row
  have hs : ∀ r ∈ rs, 0 ≤ r.m.sent := fun r hr => by have := hF.ok r hr; simp [okM, okB] at this; omega
  have d0 := hF.blk.cell 0
  have hl512 : rs.length ≤ 512 := by have := hF.len; have := hF.room0.2; omega
  simp only [List.getElem?_toArray, List.getElem?_cons_zero] at d0
  rw [hv] at d0
  have HR := Lib.hid hR
  have HS := Lib.hid hs
  clear hF hv hs hR h0
  generalize hnn : rs.length = n at *
  have HN := Lib.hid hnn
  clear hnn
  go_enter Try.func24, Try.ntmps24
  go_wp2_with (go_at_call 30; refine (HL.out _ (Below.refl _ _)).mono ?_; rintro e w' ⟨rfl, rfl⟩)
  go_loopw [7, 21] (fun u i wr => ∃ k : Nat, k ≤ n ∧ i = .int .i64 k ∧ Below w.heap.size w wr ∧ ∃ q : Nat, q ≤ k ∧ u = .int .i64 q ∧ Hid (q = (((msL rs).take k).filter (lateM now delay)).length)) (fun _ i _ => n - (intOf i).toNat)
  case atStart => exact ⟨0, by omega, rfl, Below.refl _ _, 0, by omega, rfl, Lib.hid (by simp)⟩
  case round =>
    obtain ⟨k, hk, rfl, hb, q, hq, rfl, HQ⟩ := hrel
    have hws := hb.size
    by_cases hlt : k < n
    · have hcl : k < rs.length := by have := HN.out; omega
      obtain ⟨b, off, rfl, hbb, c0, c1, c2, c3, c4, c5⟩ := ml_at (HR.out.below hb) (List.getElem?_eq_getElem hcl)
      have hS := HS.out rs[k] (List.getElem_mem hcl)
      have hf := filt_snoc (lateM now delay) (msL rs) k (by rw [msL_len]; exact hcl)
      rw [msL_get rs k hcl, show lateM now delay rs[k].m = lateB rs[k].m.sent now delay from rfl] at hf
      have HF2 := Lib.hid hf
      have hi1 : (k : Int) < (n : Int) := by omega
      clear hf
      generalize rs[k].m.link = ylk at *
      generalize rs[k].m.frm = yfr at *
      generalize rs[k].m.dst = yds at *
      generalize rs[k].m.src = ysr at *
      generalize rs[k].A = yA at *
      generalize rs[k].m.bs.length = yn at *
      generalize rs[k].c = yc at *
      generalize rs[k].m.sent = yst at *
      have HLA := Lib.hid (fun W => ulate_any ylk yfr yds ysr yA yn yc yst now delay W hS hnow)
      cases hq2 : lateB yst now delay
      · rw [hq2] at HLA HF2
        go_wp2_with fail
        refine (HLA.out _).mono ?_
        rintro e w1 ⟨rfl, b1⟩
        have b2 : Below w.heap.size w w1 := hb.trans ((by go_grown : Below w.heap.size wr _).trans (b1.mono (by simp; have := hb.size; omega)))
        go_wp2_with fail
        go_roundw
        case rel => exact ⟨k + 1, by omega, by go_num, b2, q, by omega, rfl, by have := HF2.out; simp at this; rw [this]; exact HQ.out⟩
        case measure => simp [intOf]; omega
      · rw [hq2] at HLA HF2
        go_wp2_with fail
        refine (HLA.out _).mono ?_
        rintro e w1 ⟨rfl, b1⟩
        have b2 : Below w.heap.size w w1 := hb.trans ((by go_grown : Below w.heap.size wr _).trans (b1.mono (by simp; have := hb.size; omega)))
        go_wp2_with fail
        go_roundw
        case rel => exact ⟨k + 1, by omega, by go_num, b2, q + 1, by omega, by go_num, by have := HF2.out; simp at this; rw [this]; exact congrArg (· + 1) HQ.out⟩
        case measure => simp [intOf]; omega
    · obtain rfl : k = n := by omega
      go_wp2_with fail
      go_ret
      have e : q = cntN now delay (msL rs) := by rw [HC.out, HQ.out, List.take_of_length_le (by rw [msL_len, HN.out]; omega)]
      exact ⟨by rw [← e]; rfl, hb⟩
end

/-- are two mails the same? -/
def sameM (a b : Mm) : Bool := decide (a.link = b.link ∧ a.frm = b.frm ∧ a.dst = b.dst ∧ a.src = b.src ∧ a.sent = b.sent ∧ a.bs = b.bs)
theorem sameM_self (a : Mm) : sameM a a = true := by simp [sameM]
theorem sameM_symm (a b : Mm) : sameM a b = sameM b a := by unfold sameM; exact decide_eq_decide.2 ⟨fun ⟨h1, h2, h3, h4, h5, h6⟩ => ⟨h1.symm, h2.symm, h3.symm, h4.symm, h5.symm, h6.symm⟩, fun ⟨h1, h2, h3, h4, h5, h6⟩ => ⟨h1.symm, h2.symm, h3.symm, h4.symm, h5.symm, h6.symm⟩⟩
theorem sameM_eq {a b : Mm} (h : sameM a b = true) : a = b := by
  obtain ⟨a1, a2, a3, a4, a5, a6⟩ := a
  obtain ⟨b1, b2, b3, b4, b5, b6⟩ := b
  simp [sameM] at h
  obtain ⟨rfl, rfl, rfl, rfl, rfl, rfl⟩ := h
  rfl

theorem bequal_any (l l' : List UInt8) (n n' : Nat) (hn : l.length = n) (hn' : l'.length = n') (A A' : Option Addr) (c c' B B' : Nat) (w : World) (h : Rd w B A (l.map b8)) (h' : Rd w B' A' (l'.map b8)) :
    Calls Try.prog 46 #[.slice A n c, .slice A' n' c'] w fun e w' => e = .returned (.bool (decide (l = l'))) ∧ w = w' := by
  subst hn hn'
  have e1 := conv_rd (P := Try.prog) 31 9 5 Try.underlying31 Try.underlying5 Try.underlying9 c h
  have e2 := conv_rd (P := Try.prog) 31 9 5 Try.underlying31 Try.underlying5 Try.underlying9 c' h'
  have hs : ((str l).toList == (str l').toList) = decide (l = l') := by rw [str_toList, str_toList]; by_cases e : l = l' <;> simp [e]
  clear h h'
  generalize str l = x at *
  generalize str l' = y at *
  generalize decide (l = l') = q at *
  generalize l.length = n at *
  generalize l'.length = n' at *
  go_enter Try.func46, Try.ntmps46
  go_wp2
  go_ret
  exact ⟨rfl, rfl⟩

-- GEN SAME
set_option maxHeartbeats 2000000 in
theorem samemail_any (a b : Ml) (w : World) (ha : Rd w w.heap.size a.A (a.m.bs.map b8)) (hb : Rd w w.heap.size b.A (b.m.bs.map b8)) :
    Calls Try.prog 28 #[.agg (mlA a), .agg (mlA b)] w fun e w' => e = .returned (.bool (sameM a.m b.m)) ∧ Below w.heap.size w w' := by
  obtain ⟨⟨lk, fr, ds, sr, l, st⟩, A, c⟩ := a
  obtain ⟨⟨xlk, xfr, xds, xsr, xl, xst⟩, xA, xc⟩ := b
  simp only [mlA] at *
  have B2 := Lib.hid (show Below w.heap.size w ((w.alloc (.cells #[.int .i64 lk, .int .i64 fr, .int .i64 ds, .int .u32 sr, .slice A l.length c, .int .i64 st] 33)).alloc (.cells #[.int .i64 xlk, .int .i64 xfr, .int .i64 xds, .int .u32 xsr, .slice xA xl.length xc, .int .i64 xst] 33)) from balloc (balloc (Below.refl _ _) _) _)
  have HBQ := Lib.hid (fun W (hW : Below w.heap.size w W) => bequal_any l xl l.length xl.length rfl rfl A xA c xc _ _ W (ha.below hW) (hb.below hW))
  clear ha hb
  by_cases hlink : lk = xlk
  case neg =>
    have hz : sameM ⟨lk, fr, ds, sr, l, st⟩ ⟨xlk, xfr, xds, xsr, xl, xst⟩ = false := by simp [sameM, hlink]
    rw [hz]
    have hq : (lk == xlk) = false := by rw [beq_eq_false_iff_ne]; omega
    clear hz
    go_enter Try.func28, Try.ntmps28
    go_wp2_with (go_at_call 46; refine (HBQ.out _ B2.out).mono ?_; rintro e w' ⟨rfl, rfl⟩)
    go_ret
    exact ⟨rfl, B2.out⟩
  subst hlink
  by_cases hfrm : fr = xfr
  case neg =>
    have hz : sameM ⟨lk, fr, ds, sr, l, st⟩ ⟨lk, xfr, xds, xsr, xl, xst⟩ = false := by simp [sameM, hfrm]
    rw [hz]
    have hq : (fr == xfr) = false := by rw [beq_eq_false_iff_ne]; omega
    clear hz
    go_enter Try.func28, Try.ntmps28
    go_wp2_with (go_at_call 46; refine (HBQ.out _ B2.out).mono ?_; rintro e w' ⟨rfl, rfl⟩)
    go_ret
    exact ⟨rfl, B2.out⟩
  subst hfrm
  by_cases hdst : ds = xds
  case neg =>
    have hz : sameM ⟨lk, fr, ds, sr, l, st⟩ ⟨lk, fr, xds, xsr, xl, xst⟩ = false := by simp [sameM, hdst]
    rw [hz]
    have hq : (ds == xds) = false := by rw [beq_eq_false_iff_ne]; omega
    clear hz
    go_enter Try.func28, Try.ntmps28
    go_wp2_with (go_at_call 46; refine (HBQ.out _ B2.out).mono ?_; rintro e w' ⟨rfl, rfl⟩)
    go_ret
    exact ⟨rfl, B2.out⟩
  subst hdst
  by_cases hsrc : sr = xsr
  case neg =>
    have hz : sameM ⟨lk, fr, ds, sr, l, st⟩ ⟨lk, fr, ds, xsr, xl, xst⟩ = false := by simp [sameM, hsrc]
    rw [hz]
    have hq : ((sr : Int) == xsr) = false := by rw [beq_eq_false_iff_ne]; omega
    clear hz
    go_enter Try.func28, Try.ntmps28
    go_wp2_with (go_at_call 46; refine (HBQ.out _ B2.out).mono ?_; rintro e w' ⟨rfl, rfl⟩)
    go_ret
    exact ⟨rfl, B2.out⟩
  subst hsrc
  by_cases hsent : st = xst
  case neg =>
    have hz : sameM ⟨lk, fr, ds, sr, l, st⟩ ⟨lk, fr, ds, sr, xl, xst⟩ = false := by simp [sameM, hsent]
    rw [hz]
    have hq : (st == xst) = false := by rw [beq_eq_false_iff_ne]; omega
    clear hz
    go_enter Try.func28, Try.ntmps28
    go_wp2_with (go_at_call 46; refine (HBQ.out _ B2.out).mono ?_; rintro e w' ⟨rfl, rfl⟩)
    go_ret
    exact ⟨rfl, B2.out⟩
  subst hsent
  by_cases hbs : l = xl
  case neg =>
    have hz : sameM ⟨lk, fr, ds, sr, l, st⟩ ⟨lk, fr, ds, sr, xl, st⟩ = false := by simp [sameM, hbs]
    rw [hz]
    have hq : decide (l = xl) = false := decide_eq_false hbs
    rw [hq] at HBQ
    clear hz hq hbs
    go_enter Try.func28, Try.ntmps28
    go_wp2_with (go_at_call 46; refine (HBQ.out _ B2.out).mono ?_; rintro e w' ⟨rfl, rfl⟩)
    go_ret
    exact ⟨rfl, B2.out⟩
  subst hbs
  have hz : sameM ⟨lk, fr, ds, sr, l, st⟩ ⟨lk, fr, ds, sr, l, st⟩ = true := sameM_self _
  rw [hz]
  rw [show decide (l = l) = true by simp] at HBQ
  clear hz
  go_enter Try.func28, Try.ntmps28
  go_wp2_with (go_at_call 46; refine (HBQ.out _ B2.out).mono ?_; rintro e w' ⟨rfl, rfl⟩)
  go_ret
  exact ⟨rfl, B2.out⟩

set_option maxHeartbeats 2000000 in
theorem refsame_any (a b : Ml) (w : World) (ha : Rd w w.heap.size a.A (a.m.bs.map b8)) (hb : Rd w w.heap.size b.A (b.m.bs.map b8)) :
    Calls Try.prog 23 #[.agg (mlA a), .agg (mlA b)] w fun e w' => e = .returned (.bool (sameM a.m b.m)) ∧ Below w.heap.size w w' := by
  obtain ⟨⟨lk, fr, ds, sr, l, st⟩, A, c⟩ := a
  obtain ⟨⟨xlk, xfr, xds, xsr, xl, xst⟩, xA, xc⟩ := b
  simp only [mlA] at *
  have B2 := Lib.hid (show Below w.heap.size w ((w.alloc (.cells #[.int .i64 lk, .int .i64 fr, .int .i64 ds, .int .u32 sr, .slice A l.length c, .int .i64 st] 33)).alloc (.cells #[.int .i64 xlk, .int .i64 xfr, .int .i64 xds, .int .u32 xsr, .slice xA xl.length xc, .int .i64 xst] 33)) from balloc (balloc (Below.refl _ _) _) _)
  have HBQ := Lib.hid (And.intro (conv_rd (P := Try.prog) 31 9 5 Try.underlying31 Try.underlying5 Try.underlying9 c (ha.below B2.out)) (And.intro (conv_rd (P := Try.prog) 31 9 5 Try.underlying31 Try.underlying5 Try.underlying9 xc (hb.below B2.out)) (show ((str l).toList == (str xl).toList) = decide (l = xl) by rw [str_toList, str_toList]; by_cases e : l = xl <;> simp [e])))
  clear ha hb
  by_cases hlink : lk = xlk
  case neg =>
    have hz : sameM ⟨lk, fr, ds, sr, l, st⟩ ⟨xlk, xfr, xds, xsr, xl, xst⟩ = false := by simp [sameM, hlink]
    rw [hz]
    have hq : (lk == xlk) = false := by rw [beq_eq_false_iff_ne]; omega
    clear hz
    have hbq := HBQ.out
    obtain ⟨hbq1, hbq2, hbq3⟩ := hbq
    clear HBQ
    generalize str l = sx at hbq1 hbq3
    generalize str xl = sy at hbq2 hbq3
    go_enter Try.func23, Try.ntmps23
    go_wp2
    go_ret
    exact ⟨rfl, B2.out⟩
  subst hlink
  by_cases hfrm : fr = xfr
  case neg =>
    have hz : sameM ⟨lk, fr, ds, sr, l, st⟩ ⟨lk, xfr, xds, xsr, xl, xst⟩ = false := by simp [sameM, hfrm]
    rw [hz]
    have hq : (fr == xfr) = false := by rw [beq_eq_false_iff_ne]; omega
    clear hz
    have hbq := HBQ.out
    obtain ⟨hbq1, hbq2, hbq3⟩ := hbq
    clear HBQ
    generalize str l = sx at hbq1 hbq3
    generalize str xl = sy at hbq2 hbq3
    go_enter Try.func23, Try.ntmps23
    go_wp2
    go_ret
    exact ⟨rfl, B2.out⟩
  subst hfrm
  by_cases hdst : ds = xds
  case neg =>
    have hz : sameM ⟨lk, fr, ds, sr, l, st⟩ ⟨lk, fr, xds, xsr, xl, xst⟩ = false := by simp [sameM, hdst]
    rw [hz]
    have hq : (ds == xds) = false := by rw [beq_eq_false_iff_ne]; omega
    clear hz
    have hbq := HBQ.out
    obtain ⟨hbq1, hbq2, hbq3⟩ := hbq
    clear HBQ
    generalize str l = sx at hbq1 hbq3
    generalize str xl = sy at hbq2 hbq3
    go_enter Try.func23, Try.ntmps23
    go_wp2
    go_ret
    exact ⟨rfl, B2.out⟩
  subst hdst
  by_cases hsrc : sr = xsr
  case neg =>
    have hz : sameM ⟨lk, fr, ds, sr, l, st⟩ ⟨lk, fr, ds, xsr, xl, xst⟩ = false := by simp [sameM, hsrc]
    rw [hz]
    have hq : ((sr : Int) == xsr) = false := by rw [beq_eq_false_iff_ne]; omega
    clear hz
    have hbq := HBQ.out
    obtain ⟨hbq1, hbq2, hbq3⟩ := hbq
    clear HBQ
    generalize str l = sx at hbq1 hbq3
    generalize str xl = sy at hbq2 hbq3
    go_enter Try.func23, Try.ntmps23
    go_wp2
    go_ret
    exact ⟨rfl, B2.out⟩
  subst hsrc
  by_cases hbs : l = xl
  case neg =>
    have hz : sameM ⟨lk, fr, ds, sr, l, st⟩ ⟨lk, fr, ds, sr, xl, xst⟩ = false := by simp [sameM, hbs]
    rw [hz]
    have hq : decide (l = xl) = false := decide_eq_false hbs
    rw [hq] at HBQ
    clear hz hq hbs
    have hbq := HBQ.out
    obtain ⟨hbq1, hbq2, hbq3⟩ := hbq
    clear HBQ
    generalize str l = sx at hbq1 hbq3
    generalize str xl = sy at hbq2 hbq3
    go_enter Try.func23, Try.ntmps23
    go_wp2
    go_ret
    exact ⟨rfl, B2.out⟩
  subst hbs
  by_cases hsent : st = xst
  case neg =>
    have hz : sameM ⟨lk, fr, ds, sr, l, st⟩ ⟨lk, fr, ds, sr, l, xst⟩ = false := by simp [sameM, hsent]
    rw [hz]
    have hq : (st == xst) = false := by rw [beq_eq_false_iff_ne]; omega
    clear hz
    have hbq := HBQ.out
    obtain ⟨hbq1, hbq2, hbq3⟩ := hbq
    clear HBQ
    generalize str l = sx at hbq1 hbq2
    clear hbq3
    go_enter Try.func23, Try.ntmps23
    go_wp2
    go_ret
    exact ⟨rfl, B2.out⟩
  subst hsent
  have hz : sameM ⟨lk, fr, ds, sr, l, st⟩ ⟨lk, fr, ds, sr, l, st⟩ = true := sameM_self _
  rw [hz]
  rw [show decide (l = l) = true by simp] at HBQ
  clear hz
  have hbq := HBQ.out
  obtain ⟨hbq1, hbq2, hbq3⟩ := hbq
  clear HBQ
  generalize str l = sx at hbq1 hbq2
  clear hbq3
  go_enter Try.func23, Try.ntmps23
  go_wp2
  go_ret
  exact ⟨rfl, B2.out⟩
end Go.Proofs.Ytgdkobknjgbdbaa
