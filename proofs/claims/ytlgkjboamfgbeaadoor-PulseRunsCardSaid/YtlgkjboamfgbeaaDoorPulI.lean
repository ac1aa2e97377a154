/- pulse.Beats: the iterator. -/
import Derived.Test.YtlgkjboamfgbeaaDoorPulH
namespace Go.Proofs.YtlgkjboamfgbeaaDoor
set_option linter.unusedVariables false
set_option linter.unusedSimpArgs false
open Go.RowKit Go.Shelf
attribute [local go_sem] Oper.semAt_some
set_option maxRecDepth 100000
theorem stable_below {J : List Nat → World → Prop} {W X Y : World} {pre : List Nat} (h : Stable W.heap.size J) (hJ : J pre X) (hX : W.heap.size ≤ X.heap.size) (hb : Below X.heap.size X Y) : J pre Y := h _ _ _ hJ (hb.mono hX)

set_option maxHeartbeats 4000000 in
theorem beats1_in (fu : Nat) (hfu : 1 ≤ fu) (lb Bp Bl Bc lo hi : Nat) (p j t h g q s cp : Int) (l : List (Nat × Int)) (A : Option Addr) (k : Nat) (x : Int × Int × Bool) (zs : List Int) (Az : Option Addr) (kz : Nat)
    (hlk : l.length ≤ k) (hk : k ≤ 9223372036854775807) (hl : ∀ y ∈ l, y.1 < 4294967296) (hzk : zs.length ≤ kz) (hkz : kz ≤ 9223372036854775807) (hzl : zs.length ≤ 1048576)
    (J Jx : List Nat → World → Prop) (W : World) (hJ : Stable W.heap.size J) (hJx : Stable W.heap.size Jx)
    (hY : ∀ pre i W1, J pre W1 → pre.length < btN (okC p j t h g q s cp l) p j q s x zs zs.length → YieldAt Fence.wide (fu - 1) Tryd.prog lb (btA p j q s x zs i) W1 fun e W' =>
      (e = .returned (.bool true) ∧ J (pre ++ [i]) W' ∧ KR lo hi W1 W') ∨ (e = .returned (.bool false) ∧ Jx (pre ++ [i]) W'))
    (hw : CapsAt W) (hcap : ∀ W', Below lo W W' → CapsAt W') (hBp : Blk W Bp 28 #[.int .i64 x.1, .int .i64 x.2.1, .bool x.2.2]) (hBl : Blk W Bl 44 #[.slice Az zs.length kz]) (hBc : Blk W Bc 24 #[.int .i64 p, .int .i64 j, .int .i64 t, .int .i64 h, .int .i64 g, .int .i64 q, .int .i64 s, .int .i64 cp, .slice A l.length k])
    (hr : Rd W lo A (plC l)) (hz : Rd W lo Az (zs.map i8)) (h1 : Bp < lo) (h2 : Bl < lo) (h3 : Bc < lo) (hlo : lo ≤ W.heap.size) (hhi : hi ≤ W.heap.size) (h0 : J [] W) :
    CallsIn Fence.wide fu Tryd.prog 39 #[.func (.yield lb) #[] #[], .pointer (some ⟨Bp, 0, none⟩), .pointer (some ⟨Bl, 0, none⟩), .pointer (some ⟨Bc, 0, none⟩)] W fun e W' => (∃ v, e = .returned v) ∧
      ((∃ ys, ys = List.range (btN (okC p j t h g q s cp l) p j q s x zs zs.length) ∧ J ys W') ∨ (∃ pre, (∃ i, i ≤ btN (okC p j t h g q s cp l) p j q s x zs zs.length ∧ pre = List.range i) ∧ Jx pre W')) := by
  have HOK := Lib.hid (btN_ok (oc := okC p j t h g q s cp l) (p := p) (j := j) (q := q) (s := s) (x0 := x) (zs := zs) zs.length)
  have HEN := Lib.hid (btN_end (oc := okC p j t h g q s cp l) (p := p) (j := j) (q := q) (s := s) (x0 := x) (zs := zs) zs.length)
  have hNl := btN_le (oc := okC p j t h g q s cp l) (p := p) (j := j) (q := q) (s := s) (x0 := x) (zs := zs) zs.length
  have HTK := Lib.hid (fun du un nw dr wt V (hV : Below lo W V) => ptick_any p j t h g q s cp A l.length k lo l rfl du un nw dr wt V (hr.below hV) (Nat.le_trans hlo hV.size) hlk hk hl (hcap V hV))
  generalize hoc : okC p j t h g q s cp l = oc at *
  generalize hNN : btN oc p j q s x zs zs.length = N at *
  clear hoc hNN
  have hb0 : Below lo W (W.alloc (.cells #[.int .i64 x.1, .int .i64 x.2.1, .bool x.2.2] 28)) := (Below.refl _ _).alloc hlo _
  have ba0 := Blk.new W 28 #[.int .i64 x.1, .int .i64 x.2.1, .bool x.2.2]
  have J0 : J [] (W.alloc (.cells #[.int .i64 x.1, .int .i64 x.2.1, .bool x.2.2] 28)) := hJ _ _ _ h0 (balloc (Below.refl _ _) _)
  have p0 := (hBp).cell 0
  have p1 := (hBp).cell 1
  have p2 := (hBp).cell 2
  simp only [List.getElem?_toArray, List.getElem?_cons_zero, List.getElem?_cons_succ] at p0 p1 p2
  have l0 := ((hBl.alloc (.cells #[.int .i64 x.1, .int .i64 x.2.1, .bool x.2.2] 28))).cell 0
  simp only [List.getElem?_toArray, List.getElem?_cons_zero, List.getElem?_cons_succ] at l0
  have HBc := Lib.hid hBc
  have HBl := Lib.hid hBl
  have HZ := Lib.hid hz
  clear hBp hr hl hz hBc
  refine callsIn_of_wp Tryd.func39 rfl trivial ?_ rfl
  simp only [Tryd.ntmps39, List.size_toArray, List.length_cons, List.length_nil, Nat.reduceAdd, Nat.reduceSub, Array.replicate_succ, Array.replicate_zero, List.push_toArray, List.append_toArray, List.nil_append, List.cons_append]
  refine scope_in ?_
  gi_wp2_with fail
  refine wpIn_label ?_
  gi_wp2_with fail
  generalize W.alloc (.cells #[.int .i64 x.1, .int .i64 x.2.1, .bool x.2.2] 28) = W0 at *
  gi_loopw [15] (fun v wr => ∃ i : Nat, i ≤ N ∧ v = .int .i64 i ∧ J (List.range i) wr ∧ Below lo W wr ∧ W.heap.size ≤ wr.heap.size ∧ Blk wr W.heap.size 28 #[.int .i64 (stS p j q s x zs i).1, .int .i64 (stS p j q s x zs i).2.1, .bool (stS p j q s x zs i).2.2]) (fun v _ => zs.length - (intOf v).toNat)
  case atStart => exact ⟨0, Nat.zero_le _, rfl, J0, hb0, hb0.size, ba0⟩
  case round =>
    obtain ⟨i, hi', rfl, hJi, hbi, hsz, hat⟩ := hrel
    by_cases hlt : i < zs.length
    case neg =>
      obtain rfl : i = N := by omega
      gi_wp2_with fail
      rw [Exit.noGoto_normal]
      go_end0
      exact ⟨⟨_, rfl⟩, .inl ⟨_, rfl, hJi⟩⟩
    case pos =>
      have hS : stS p j q s x zs (i + 1) = (tckS p j q s (stS p j q s x zs i) (zs.getD i 0)).1 := rfl
      have hA : btA p j q s x zs i = #[.int .i64 (nxtS (stS p j q s x zs i)), .int .i64 (tckS p j q s (stS p j q s x zs i) (zs.getD i 0)).2] := rfl
      have hen : ¬ i < N → (btE oc (stS p j q s x zs i) != 0) = true := fun hh => by
        obtain rfl : i = N := by omega
        simpa using HEN.out hlt
      have hok := HOK.out i
      obtain ⟨bz, oz, rfl, hbz, hcz⟩ := (HZ.out.below hbi).at (k := i) (by simpa using hlt)
      simp only [List.getElem_map, i8] at hcz
      have hgd : zs.getD i 0 = zs[i] := by simp [List.getD, List.getElem?_eq_getElem hlt]
      have HNX := Lib.hid (fun V => pnext_any (stS p j q s x zs i).1 (stS p j q s x zs i).2.1 (stS p j q s x zs i).2.2 V)
      have HT := Lib.hid (fun V hV => HTK.out (stS p j q s x zs i).1 (stS p j q s x zs i).2.1 (nxtS (stS p j q s x zs i)) (zs.getD i 0) (stS p j q s x zs i).2.2 V hV)
      have hE : askE oc (okT (stS p j q s x zs i).1 && okT (stS p j q s x zs i).2.1) (okN (nxtS (stS p j q s x zs i))) = btE oc (stS p j q s x zs i) := rfl
      rw [hE] at HT
      have hT2 : tckF p j q s (stS p j q s x zs i).1 (stS p j q s x zs i).2.1 (stS p j q s x zs i).2.2 (nxtS (stS p j q s x zs i)) (zs.getD i 0) = tckS p j q s (stS p j q s x zs i) (zs.getD i 0) := rfl
      rw [hT2] at HT
      have hN2 : nxtF (stS p j q s x zs i).1 (stS p j q s x zs i).2.1 (stS p j q s x zs i).2.2 = nxtS (stS p j q s x zs i) := rfl
      rw [hN2] at HNX
      rw [← hgd] at hcz
      generalize tckS p j q s (stS p j q s x zs i) (zs.getD i 0) = ty at *
      generalize zs.getD i 0 = dr at *
      generalize nxtS (stS p j q s x zs i) = nx at *
      generalize hsi : stS p j q s x zs i = si at *
      clear hE hT2 hN2 hgd HTK hsi
      clear HOK HEN
      have HS := Lib.hid hS
      have HA := Lib.hid hA
      clear hS hA
      have ha := hBl.below hbi h2
      have hc := HBc.out.below hbi h3
      have a0 := (hat).cell 0
      have a1 := (hat).cell 1
      have a2 := (hat).cell 2
      simp only [List.getElem?_toArray, List.getElem?_cons_zero, List.getElem?_cons_succ] at a0 a1 a2
      gi_wp2_with fail
      refine ⟨trivial, ?_⟩
      refine (callsIn_wide.2 (HNX.out _)).mono ?_
      rintro e w2 ⟨rfl, b2⟩
      have hc2 := hc.below b2 hc.lt
      have hat2 := hat.below b2 hat.lt
      have bl2 : Below lo W w2 := hbi.trans (b2.mono (Nat.le_trans hlo hsz))
      have J2 := stable_below hJ hJi hsz b2
      have hs2 := b2.size
      clear hc ha
      clear a0 a1 a2
      have a0 := (hat2).cell 0
      have a1 := (hat2).cell 1
      have a2 := (hat2).cell 2
      simp only [List.getElem?_toArray, List.getElem?_cons_zero, List.getElem?_cons_succ] at a0 a1 a2
      have c0 := (hc2).cell 0
      have c1 := (hc2).cell 1
      have c2 := (hc2).cell 2
      have c3 := (hc2).cell 3
      have c4 := (hc2).cell 4
      have c5 := (hc2).cell 5
      have c6 := (hc2).cell 6
      have c7 := (hc2).cell 7
      have c8 := (hc2).cell 8
      simp only [List.getElem?_toArray, List.getElem?_cons_zero, List.getElem?_cons_succ] at c0 c1 c2 c3 c4 c5 c6 c7 c8
      gi_wp2_with fail
      refine ⟨trivial, ?_⟩
      by_cases hiN : i < N
      case neg =>
        have her := hen hiN
        clear hen hok
        refine (callsIn_wide.2 (HT.out _ bl2)).mono ?_
        unfold GivesP
        generalize pres (btE oc si) ty = tz
        generalize btE oc si = er at *
        rintro e w3 ⟨rfl, b3⟩
        have J3 := stable_below hJ J2 (by omega) b3
        have J4 := hJ _ _ _ J3 ((Below.refl W.heap.size w3).alloc (by have := b3.size; omega) (.cells #[.int .i64 tz.1.1, .int .i64 tz.1.2.1, .bool tz.1.2.2] 28))
        gi_wp2
        refine ⟨by simp, ?_⟩
        gi_wp2
        rw [Exit.noGoto_normal]
        go_end0
        obtain rfl : i = N := by omega
        exact ⟨⟨_, rfl⟩, .inl ⟨_, rfl, J4⟩⟩
      case pos =>
        have her := hok hiN
        clear hen hok
        rw [her] at HT
        rw [show pres 0 ty = ty from rfl] at HT
        refine (callsIn_wide.2 (HT.out _ bl2)).mono ?_
        unfold GivesP
        rintro e w3 ⟨rfl, b3⟩
        have J3 := stable_below hJ J2 (by omega) b3
        have hs3 := b3.size
        have J4 := hJ _ _ _ J3 ((Below.refl W.heap.size w3).alloc (by omega) (.cells #[.int .i64 ty.1.1, .int .i64 ty.1.2.1, .bool ty.1.2.2] 28))
        have hth := Blk.new w3 28 #[.int .i64 ty.1.1, .int .i64 ty.1.2.1, .bool ty.1.2.2]
        have hat3 := (hat2.below b3 hat2.lt).alloc (.cells #[.int .i64 ty.1.1, .int .i64 ty.1.2.1, .bool ty.1.2.2] 28)
        have bl3 : Below lo W (w3.alloc (.cells #[.int .i64 ty.1.1, .int .i64 ty.1.2.1, .bool ty.1.2.2] 28)) := (bl2.trans (b3.mono (by omega))).alloc (by omega) _
        obtain ⟨fn, tmps, assign, body, hy, hR⟩ := hY (List.range i) i _ J4 (by simpa using hiN)
        rw [HA.out] at hy
        have HR := Lib.hid hR
        clear hR hc2 hat hat2 b2 b3 J2 J3 J4 HT HNX her
        clear a0 a1 a2 c0 c1 c2 c3 c4 c5 c6 c7 c8
        gi_wp2
        refine HR.out.mono ?_
        rintro e W3 (⟨rfl, hJ3, hk3⟩ | ⟨rfl, hJx3⟩)
        · have hth3 := hk3.blk hth (by omega)
          have hat4 := hk3.blk hat3 (by omega)
          have hs4 := hk3.1.size
          have a0 := (hth3).cell 0
          have a1 := (hth3).cell 1
          have a2 := (hth3).cell 2
          simp only [List.getElem?_toArray, List.getElem?_cons_zero, List.getElem?_cons_succ] at a0 a1 a2
          have c0 := (hat4).cell 0
          have c1 := (hat4).cell 1
          have c2 := (hat4).cell 2
          simp only [List.getElem?_toArray, List.getElem?_cons_zero, List.getElem?_cons_succ] at c0 c1 c2
          have f0 := hat4.frozen 0
          have f1 := hat4.frozen 1
          have f2 := hat4.frozen 2
          simp only [World.size_alloc] at hs4
          gi_wp2
          go_roundw
          case rel =>
            refine ⟨i + 1, by omega, by go_num, ?_, ?_, by simp only [World.size_setCell]; omega, ?_⟩
            · rw [List.range_succ]
              exact hJ _ _ _ hJ3 ((((Below.refl W.heap.size W3).setCell (p := ⟨W.heap.size, 0, none⟩) (Nat.le_refl _) _).setCell (p := ⟨W.heap.size, 1, none⟩) (Nat.le_refl _) _).setCell (p := ⟨W.heap.size, 2, none⟩) (Nat.le_refl _) _)
            · exact (((bl3.trans hk3.1).setCell (p := ⟨W.heap.size, 0, none⟩) hlo _).setCell (p := ⟨W.heap.size, 1, none⟩) hlo _).setCell (p := ⟨W.heap.size, 2, none⟩) hlo _
            · rw [HS.out]
              exact pset hat4
          case measure => simp [intOf]; omega
        · gi_wp2
          rw [Exit.noGoto_normal]
          go_end0
          exact ⟨⟨_, rfl⟩, .inr ⟨_, ⟨i + 1, by omega, (List.range_succ).symm⟩, hJx3⟩⟩

theorem beats_stops (n : Nat) (hn : 1 ≤ n) (lo hi : Nat) (p j t h g q s cp : Int) (l : List (Nat × Int)) (hl : ∀ y ∈ l, y.1 < 4294967296) (x : Int × Int × Bool) (zs : List Int) (hzl : zs.length ≤ 1048576) (lb : Array Value) (w w0 : World) (hw : CapsAt w0) (h0 : IsBeats w0 p j t h g q s cp l x zs lb) (hb : Below w0.heap.size w0 w) (hlo : w0.heap.size ≤ lo) (hlo2 : lo ≤ w.heap.size) :
    SeqStopsW Fence.wide n Tryd.prog 39 lb (btA p j q s x zs) (KR lo hi) (fun ys => ys = List.range (btN (okC p j t h g q s cp l) p j q s x zs zs.length)) (fun pre => ∃ i, i ≤ btN (okC p j t h g q s cp l) p j q s x zs zs.length ∧ pre = List.range i) (btN (okC p j t h g q s cp l) p j q s x zs zs.length) w hi := fun lp J Jx W hW hhi hJ hJx hY hJ0 => by
  have hb2 : Below w0.heap.size w0 W := bnext hb hW
  obtain ⟨Bp, Bl, Bc, A, k, Az, kz, rfl, h1, h2, h3, ⟨h4, h5, h6⟩, h7, h8, h9⟩ := h0
  exact beats1_in n hn lp Bp Bl Bc lo hi p j t h g q s cp l A k x zs Az kz h4 (by unfold maxLen at h5; omega) hl h7 (by unfold maxLen at h8; omega) hzl J Jx W hJ hJx hY (hw.below hb2) (fun W' hW' => hw.below (hb2.trans (hW'.mono hlo)))
    (h1.below hb2 h1.lt) (h2.below hb2 h2.lt) (h3.below hb2 h3.lt) ((h6.below hb2).more hlo) ((h9.below hb2).more hlo) (Nat.lt_of_lt_of_le h1.lt hlo) (Nat.lt_of_lt_of_le h2.lt hlo) (Nat.lt_of_lt_of_le h3.lt hlo) (Nat.le_trans hlo2 hW.size) hhi hJ0
end Go.Proofs.YtlgkjboamfgbeaaDoor
