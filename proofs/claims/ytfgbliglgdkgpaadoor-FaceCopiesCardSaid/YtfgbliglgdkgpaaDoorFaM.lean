/- FaceCopies: the walk. -/
import Derived.Test.YtfgbliglgdkgpaaDoorFaI
namespace Go.Proofs.YtfgbliglgdkgpaaDoor
set_option linter.unusedVariables false
set_option linter.unusedSimpArgs false
open Go.RowKit
set_option maxRecDepth 100000
/-- ahead of the faces: what is told of none -/
def NoneQ (l : List Fc) (w : World) (e : Ending) (w' : World) : Prop := e = .returned (.bool true) ∧ Below w.heap.size w w'

set_option maxHeartbeats 16000000 in
theorem facecopies_walk (l : List Fc) (n c : Nat) (A : Option Addr) (x y : Ac9) (a : Nat) (w : World) (hL : Ls w w.heap.size A n c l) (hR : RelsAt w) :
    Calls Tryd.prog 7 #[.slice A n c, .agg (ac9A x), .agg (ac9A y), .int .u32 a] w fun e w' => e = .returned (.bool true) ∧ Below w.heap.size w w' := by
  have HACT := Lib.hid (fun (x : Ac9) W n0 g v (hF : Fs W n0 g v l) (hs : n0 ≤ W.heap.size) (hl : Ls W W.heap.size A n c l) (ho : 0 < n → ∀ a, A = some a → v.ownBlock ≠ some a.block) => act9_any x hF hs hl ho)
  have HAX := Lib.hid (HACT.out x)
  have HAY := Lib.hid (HACT.out y)
  have HXL := Lib.hid (actL_len x l)
  have HYL := Lib.hid (actL_len y l)
  clear HACT
  obtain ⟨lx, hlx⟩ : ∃ lx, lx = actL x l := ⟨_, rfl⟩
  obtain ⟨ly, hly⟩ : ∃ ly, ly = actL y l := ⟨_, rfl⟩
  rw [← hlx] at HAX HXL
  rw [← hly] at HAY HYL
  clear hlx hly
  obtain ⟨xw, xi, xu⟩ := x
  obtain ⟨yw, yi, yu⟩ := y
  simp only [ac9A] at HAX HAY ⊢
  have B2 : Below w.heap.size w ((w.alloc (.cells #[.int .i64 xw, .int .i64 xi, .bool xu] 46)).alloc (.cells #[.int .i64 yw, .int .i64 yi, .bool yu] 46)) := balloc (balloc (Below.refl _ _) _) _
  have z0 := (Blk.new w 46 #[.int .i64 xw, .int .i64 xi, .bool xu]).alloc (.cells #[.int .i64 yw, .int .i64 yi, .bool yu] 46)
  have z1 := Blk.new (w.alloc (.cells #[.int .i64 xw, .int .i64 xi, .bool xu] 46)) 46 #[.int .i64 yw, .int .i64 yi, .bool yu]
  simp only [World.size_alloc] at z1
  have HL := Lib.hid hL
  have hcap := hL.cap
  have HWK := Lib.hid (fun W (hb : Below w.heap.size w W) => works9_any W (hR.below hb))
  have HR := Lib.hid hR
  have hs2 : ((w.alloc (.cells #[.int .i64 xw, .int .i64 xi, .bool xu] 46)).alloc (.cells #[.int .i64 yw, .int .i64 yi, .bool yu] 46)).heap.size = w.heap.size + 2 := by simp
  have HS2 := Lib.hid hs2
  have X := Lib.hid (And.intro z0 (And.intro z1 B2))
  clear hL hR B2 z0 z1 hs2
  by_cases h16 : 16 < n
  · have g1 : decide ((16 : Int) < n) = true := decide_eq_true (by omega)
    have g1' : decide (16 < n) = true := decide_eq_true (by omega)
    go_enter Tryd.func7, Tryd.ntmps7
    go_wp2_with fail
    refine (HWK.out _ X.out.2.2).mono ?_
    rintro e w1 ⟨rfl, b1⟩
    go_wp2_with fail
    go_ret
    exact ⟨rfl, bnext X.out.2.2 b1⟩
  have g1 : decide ((16 : Int) < n) = false := decide_eq_false (by omega)
  have g1' : decide (16 < n) = false := decide_eq_false (by omega)
  have hn16 : n ≤ 16 := by omega
  have HL0 : Hid (∀ (W : World), Ls W W.heap.size none 0 0 []) := Lib.hid (fun W => ⟨rfl, ⟨Nat.le_refl _, by omega⟩, Rd.nil, by simp⟩)
  have HUP := Lib.hid (fun W => upsl_any [] none 1 0 0 none W (HL0.out W) (by omega) (fun W' _ => ups_nil W'))
  go_enter Tryd.func7, Tryd.ntmps7
  go_wp2_with (go_at_call 25; refine (set_nil _ _ _).mono ?_; rintro e w' ⟨rfl, rfl⟩)
  refine (get_nil _ _).mono ?_
  rintro e w2 ⟨rfl, b2⟩
  have c2 := bnext X.out.2.2 b2
  go_wp2_with fail
  refine (to_nil _ _).mono ?_
  rintro e w3 ⟨rfl, b3⟩
  have c3 := bnext (balloc c2 (.cells #[.int .u32 0, .int .i64 0, .int .u32 0, .bool false] 35)) b3
  have d3 := bnext (balloc b2 (.cells #[.int .u32 0, .int .i64 0, .int .u32 0, .bool false] 35)) b3
  clear b2 b3 c2
  go_wp2_with (first | (go_at_call 10; refine (num_any _ _).mono ?_; rintro e w' ⟨rfl, rfl⟩))
  refine (from_nil _ _ _).mono ?_
  rintro e w4 ⟨rfl, b4⟩
  have c4 := bnext c3 b4
  have d4 := bnext d3 b4
  clear b4 c3 d3
  go_wp2_with (first | (go_at_call 10; refine (num_any _ _).mono ?_; rintro e w' ⟨rfl, rfl⟩) | (go_at_call 22; refine (own_nil _ _).mono ?_; rintro e w' ⟨rfl, rfl⟩))
  refine (HUP.out _).mono ?_
  rintro e w5 ⟨rfl, b5⟩
  have c5 := bnext c4 b5
  have d5 := bnext d4 b5
  clear b5 c4 d4 HUP
  have HNW := Lib.hid (new_any l n c w.heap.size A w5 (HL.out.below c5) c5.size (HR.out.below c5) (by omega))
  go_wp2_with (first | (go_at_call 27; refine (flen_nil _).mono ?_; rintro e w' ⟨rfl, rfl⟩) | (go_at_call 28; refine (fcopy_nil _).mono ?_; rintro e w' ⟨rfl, rfl⟩) | (go_at_call 29; refine (fsame_nilnil _).mono ?_; rintro e w' ⟨rfl, rfl⟩))
  refine HNW.out.mono ?_
  rintro e w6 ⟨hcase, b6⟩
  have hB5 := c5.size
  have hD5 : w.heap.size + 2 ≤ w5.heap.size := by have := d5.size; rw [HS2.out] at this; exact this
  have HC6 := Lib.hid (bnext c5 b6)
  have HD6 := Lib.hid (bnext d5 b6)
  have HRN := Lib.hid (refNew_any l n c w.heap.size A w6 (HL.out.below HC6.out) HC6.out.size (by omega))
  clear HNW c5 d5 HL0
  rcases hcase with ⟨h0, g, v, rfl, hF⟩ | ⟨hno, rfl⟩
  case inr =>
    obtain ⟨z, hz⟩ : ∃ z, z = newE l := ⟨_, rfl⟩
    rw [← hz] at hno HRN ⊢
    have hz1 : ((z : Int) != 0) = true := by rw [bne_iff_ne]; exact hno
    have hz3 : ((z : Int) == z) = true := by simp
    clear hz hno
    go_wp2_with fail
    refine HRN.out.mono ?_
    rintro e w7 ⟨rfl, b7⟩
    go_wp2_with (first | (go_at_call 10; refine (num_any _ _).mono ?_; rintro e w' ⟨rfl, rfl⟩) | (go_at_call 8; refine (HWK.out _ (bnext HC6.out b7)).mono ?_; rintro e w8 ⟨rfl, b8⟩))
    go_ret
    exact ⟨rfl, bnext (bnext HC6.out b7) b8⟩
  rw [h0] at HRN
  have HF := Lib.hid hF
  clear hF h0
  go_wp2_with fail
  refine HRN.out.mono ?_
  rintro e w7 ⟨rfl, b7⟩
  have HC7 := Lib.hid (bnext HC6.out b7)
  have HD7 := Lib.hid (bnext HD6.out b7)
  have HF7 := Lib.hid (HF.out.below b7)
  have HCP := Lib.hid (fcopy_any HF7.out)
  have h67 := b7.size
  clear b7 HRN
  go_wp2_with fail
  refine HCP.out.mono ?_
  rintro e w8 ⟨⟨gc, vc, rfl, hFc⟩, b8⟩
  have HC8 := Lib.hid (bnext HC7.out b8)
  have HD8 := Lib.hid (bnext HD7.out b8)
  have HF8 := Lib.hid (HF7.out.below b8)
  have HFC := Lib.hid hFc
  have hvb := own_base' HF7.out.own
  have hvl := own_lt HF7.out.own
  have hgl := HF7.out.blk.lt
  have hcb := own_base' hFc.own
  have hcl := own_lt hFc.own
  have h78 := b8.size
  have hw7 : w5.heap.size ≤ w7.heap.size := Nat.le_trans b6.size h67
  have HACX := Lib.hid (HAX.out w8 w5.heap.size g v HF8.out (by omega) (HL.out.next HC8.out) (fun h0 a ha e => by have := HL.out.lt h0 a ha; have := hvb _ e; omega))
  have hx0 := X.out.1.below HD8.out X.out.1.lt
  have u0 := (hx0).cell 0
  have u1 := (hx0).cell 1
  have u2 := (hx0).cell 2
  simp only [List.getElem?_toArray, List.getElem?_cons_zero, List.getElem?_cons_succ] at u0 u1 u2
  have HNum := Lib.hid (And.intro hvb (And.intro hvl (And.intro hcb hcl)))
  clear hFc b8 HCP HF HF7 hvb hvl hcb hcl HAX b6 hx0
  go_wp2_with fail
  refine HACX.out.mono ?_
  rintro e w9 ⟨g', v', A', c', rfl, hQ⟩
  have hlt8 := HF8.out.blk.lt
  obtain ⟨hvb, hvl, hcb, hcl⟩ := HNum.out
  have hgz := hQ.gz
  have h89 : w8.heap.size ≤ w9.heap.size := hgz.2.2.2.1
  have b9 : Below w5.heap.size w8 w9 := hgz.below HF8.out (by omega)
  have HFC9 := Lib.hid (HFC.out.fr hgz (fun e => by have := hvl _ e; have := HFC.out.ge; omega) (fun k hk e => by have := hvl _ e; have := hcb _ hk; omega))
  have HC9 := Lib.hid (HC8.out.trans (b9.mono hB5))
  have HD9 := Lib.hid (HD8.out.trans (b9.mono (by rw [HS2.out]; exact hD5)))
  have HQ := Lib.hid hQ
  have HACY := Lib.hid (HAY.out w9 w7.heap.size gc vc HFC9.out (by omega) (HL.out.next HC9.out) (fun h0 a ha e => by have := HL.out.lt h0 a ha; have := hcb _ e; omega))
  clear u0 u1 u2
  have hx1 := X.out.2.1.below HD9.out X.out.2.1.lt
  have u0 := (hx1).cell 0
  have u1 := (hx1).cell 1
  have u2 := (hx1).cell 2
  simp only [List.getElem?_toArray, List.getElem?_cons_zero, List.getElem?_cons_succ] at u0 u1 u2
  clear hvb hvl hcb hcl hgz b9 hQ HACX hx1 HAY
  go_wp2_with fail
  refine HACY.out.mono ?_
  rintro e w10 ⟨gc', vc', A'', c'', rfl, hQ2⟩
  obtain ⟨hvb, hvl, hcb, hcl⟩ := HNum.out
  have hgz := hQ2.gz
  have b10 : Below w5.heap.size w9 w10 := (hgz.below HFC9.out (by omega)).mono hw7
  have HC10 := Lib.hid (HC9.out.trans (b10.mono hB5))
  have HS1 := Lib.hid (HQ.out.fs.fr hgz (fun e => by
    have h1 := hcb _ e
    have h2 := hcl _ e
    rcases HQ.out.prov with ⟨h3, _⟩ | ⟨h3, _⟩
    · omega
    · omega) (fun k hk e => by
    have h1 := hcb _ e
    have h2 := hcl _ e
    rcases HQ.out.prov with ⟨_, h3⟩ | ⟨_, h3⟩
    · rw [h3] at hk; have := hvl _ hk; omega
    · have := h3 k hk; omega))
  have hL1 := HQ.out.ls.gz hgz (fun h0 a ha e => by
    have h1 := hcb _ e
    have h2 := hcl _ e
    rcases HQ.out.provA with h3 | h3
    · rw [h3] at ha; have := HL.out.lt h0 a ha; omega
    · have := h3 a ha; omega)
  have HL1 : Hid (Ls w10 w10.heap.size A' n c' lx) := Lib.hid ⟨hL1.len, hL1.cap, hL1.rd.more hgz.2.2.2.1, hL1.fit⟩
  have HS2 := Lib.hid hQ2.fs
  have HL2 := Lib.hid hQ2.ls
  have HSM := Lib.hid (refSame9_any lx ly n n c' c'' w10.heap.size w10.heap.size HL1.out.len HL2.out.len A' A'' w10 HL1.out.rd HL2.out.rd (by omega))
  have HT1 := Lib.hid (fun W hW => fsame_any (HS1.out.below (w' := W) hW) (HS2.out.below hW))
  have HT2 := Lib.hid (fun W hW => fsame_any (HS2.out.below (w' := W) hW) (HS1.out.below hW))
  have HT3 := Lib.hid (fun W hW => fsame_nil (HS1.out.below (w' := W) hW))
  have HI1 := Lib.hid (fun W hW => is9_any (HS1.out.below (w' := W) hW) (HL1.out.next hW))
  have HI2 := Lib.hid (fun W hW => is9_any (HS2.out.below (w' := W) hW) (HL2.out.next hW))
  have hsym : decide (ly = lx) = decide (lx = ly) := decide_eq_decide.2 ⟨Eq.symm, Eq.symm⟩
  rw [hsym] at HT2
  clear hsym hvb hvl hcb hcl hgz b10 hL1 hQ2 HACY HNum
  generalize decide (lx = ly) = same at *
  have hss : (same == same) = true := by simp
  clear u0 u1 u2
  go_wp2_with fail
  refine HSM.out.mono ?_
  rintro e w11 ⟨rfl, m, rfl⟩
  have b11 : Below w10.heap.size w10 (w10.drewN m) := below_drewN (Below.refl _ _) m
  have HD11 := Lib.hid b11
  clear b11 HSM
  generalize w10.drewN m = w11 at *
  go_wp2_with fail
  refine (HI1.out _ HD11.out).mono ?_
  rintro e w12 ⟨rfl, b12⟩
  have HD12 := Lib.hid (bnext HD11.out b12)
  go_wp2_with fail
  refine (HI2.out _ HD12.out).mono ?_
  rintro e w13 ⟨rfl, b13⟩
  have HD13 := Lib.hid (bnext HD12.out b13)
  go_wp2_with fail
  refine (HT1.out _ HD13.out).mono ?_
  rintro e w14 ⟨rfl, b14⟩
  have HD14 := Lib.hid (bnext HD13.out b14)
  go_wp2_with fail
  refine (HT2.out _ HD14.out).mono ?_
  rintro e w15 ⟨rfl, b15⟩
  have HD15 := Lib.hid (bnext HD14.out b15)
  go_wp2_with (go_at_call 29; refine (HT3.out _ HD15.out).mono ?_; rintro e w' ⟨rfl, rfl⟩)
  refine (HWK.out _ (bnext HC10.out HD15.out)).mono ?_
  rintro e w16 ⟨rfl, b16⟩
  go_wp2_with fail
  go_ret
  exact ⟨rfl, bnext (bnext HC10.out HD15.out) b16⟩
end Go.Proofs.YtfgbliglgdkgpaaDoor
