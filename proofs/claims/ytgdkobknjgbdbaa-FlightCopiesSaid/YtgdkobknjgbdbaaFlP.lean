/- flight: is; a flight and the document's, between two calls. -/
import Derived.Test.YtgdkobknjgbdbaaFlXe
import Derived.Deep.CutRange
namespace Go.Proofs.Ytgdkobknjgbdbaa
set_option linter.unusedVariables false
set_option linter.unusedSimpArgs false
open Go.RowKit
set_option maxRecDepth 100000

theorem Rd.toP {w : World} {B : Nat} {A : Option Addr} {xs : List Value} {p : Nat → Prop} (h : Rd w B A xs) (hp : ∀ b, b < B → p b) : RdP w p A xs := fun h0 => by
  obtain ⟨b, off, e, hb, hc⟩ := h h0
  exact ⟨b, off, e, hp b hb, hc⟩
theorem ac_all {w : World} {B : Nat} {A : Option Addr} {l : List Ac} (h : Rd w B A (acC l)) {i : Nat} {x : Ac} (hi : l[i]? = some x) :
    ∃ b off, A = some ⟨b, off, none⟩ ∧ b < B ∧ ∀ j u, (acL x)[j]? = some u → w.cell? ⟨b, off + i * 10 + j, none⟩ = some u := by
  obtain ⟨b, off, e, hb, hc⟩ := rows_at acL_len (by omega) h hi
  simp only [Nat.add_assoc]
  exact ⟨b, off, e, hb, hc⟩

set_option maxHeartbeats 2000000 in
theorem is19_any {n0 g room lost : Nat} {v : Value} {rs ws : List Ml} {w : World} {p : Nat → Prop} {A : Option Addr} {n k : Nat} (hF : Fl w n0 g v rs room lost) (hms : msL rs = msL ws) (hW : Want w p A n k ws) :
    Calls Try.prog 21 #[.pointer (some ⟨g, 0, none⟩), .agg #[.slice A n k, .int .i64 room, .int .i64 lost]] w fun e w' => e = .returned (.bool true) ∧ Below w.heap.size w w' := by
  have hlen : rs.length = n := by have e : (msL rs).length = (msL ws).length := by rw [hms]
                                  rw [msL_len, msL_len, hW.1] at e; exact e
  have HX := Lib.hid (Blk.new w 49 #[.slice A n k, .int .i64 room, .int .i64 lost])
  have hb1 : Below w.heap.size w (w.alloc (.cells #[.slice A n k, .int .i64 room, .int .i64 lost] 49)) := balloc (Below.refl _ _) _
  have HAL := Lib.hid (fun W (hb : Below w.heap.size w W) => all_any (hF.below hb))
  have HRW := Lib.hid (fun W lb (hb : Below w.heap.size w W) (hA : IsAll W (Kp g v) rs lb) => rows_any rs ws hms 999 lb n k hW.1 A W (hA.fr (r := fun _ => True) Fr.refl (fun _ _ _ => trivial) (fun b _ hl => hl)) ((hW.rd.below hb).more hb.size) (fun r hr => ((hW.2.2.2.2 r hr).rd.below hb).more hb.size) hW.2.1 hW.2.2.1)
  have hle := fun W (hb : Below w.heap.size w W) => len_any (hF.below hb)
  rw [hlen] at hle
  have HLE := Lib.hid hle
  have HRO := Lib.hid (fun W (hb : Below w.heap.size w W) => room_any (hF.below hb))
  have HLO := Lib.hid (fun W (hb : Below w.heap.size w W) => lost_any (hF.below hb))
  clear hle hF hms hW hlen
  go_enter Try.func21, Try.ntmps21
  go_upto_region 1 with fail
  have HB1 := Lib.hid hb1
  obtain ⟨d0, d1, d2⟩ := HX.out.three
  have S0 : C3 w.heap.size (.slice A n k) (.int .i64 room) (.int .i64 lost) (w.alloc (.cells #[.slice A n k, .int .i64 room, .int .i64 lost] 49)).drew := ⟨d0, d1, d2⟩
  clear d0 d1 d2 hb1
  go_region_held3 (fun W => C3 w.heap.size (.slice A n k) (.int .i64 room) (.int .i64 lost) W) (first | exact S0 | exact S3 | exact S2)
    (first
    | (go_at_call 14; refine (HAL.out _ (Below.drew HB1.out)).mono ?_; rintro e w2 ⟨lb, rfl, hA, b2⟩; have HA := Lib.hid hA; clear hA; have b2' : Below w.heap.size w w2 := bnext (Below.drew HB1.out) b2; have b2d : Below (w.alloc (.cells #[.slice A n k, .int .i64 room, .int .i64 lost] 49)).heap.size (w.alloc (.cells #[.slice A n k, .int .i64 room, .int .i64 lost] 49)) w2 := below_of_drewN (n := 1) b2; have S2 := (HX.out.below b2d HX.out.lt).three)
    | (go_at_call 20; refine (HRW.out _ _ b2' HA.out).mono ?_; rintro e w3 ⟨rfl, b3⟩; have b3' : Below w.heap.size w w3 := bnext b2' b3; have S3 := ((HX.out.below b2d HX.out.lt).below b3 (HX.out.below b2d HX.out.lt).lt).three)
    | (go_at_call 15; refine (HLE.out _ b3').mono ?_; rintro e w' ⟨rfl, rfl⟩)
    | (go_at_call 25; refine (HRO.out _ b3').mono ?_; rintro e w' ⟨rfl, rfl⟩)
    | (go_at_call 16; refine (HLO.out _ b3').mono ?_; rintro e w' ⟨rfl, rfl⟩))
  go_wp2
  go_ret
  exact ⟨rfl, b3'⟩

/-- a flight and the document's, between two calls: the document's lies in a box -/
structure St (w W : World) (g b7 room lost : Nat) (v : Value) (rs ws : List Ml) (A : Option Addr) (n k : Nat) : Prop where
  fl : Fl W w.heap.size g v rs room lost
  want : Want W (Kp g v) A n k ws
  ms : msL rs = msL ws
  box : Blk W b7 49 #[.slice A n k, .int .i64 room, .int .i64 lost]
  kp : Kp g v b7
  base : Below w.heap.size w W
  bn : w.heap.size ≤ b7
section
variable {w W : World} {g b7 room lost : Nat} {v : Value} {rs ws : List Ml} {A : Option Addr} {n k : Nat}
theorem St.old (S : St w W g b7 room lost v rs ws A n k) : ∀ b, b < w.heap.size → Kp g v b := fun b hb => ⟨by have := S.fl.ge; omega, fun e => by have := own_base' S.fl.own b e; omega⟩
theorem St.new (S : St w W g b7 room lost v rs ws A n k) : ∀ b, W.heap.size ≤ b → Kp g v b := fun b hb => ⟨by have := S.fl.blk.lt; omega, fun e => by have := S.fl.row_lt b e; omega⟩
theorem St.below {W' : World} (S : St w W g b7 room lost v rs ws A n k) (hb : Below W.heap.size W W') : St w W' g b7 room lost v rs ws A n k :=
  ⟨S.fl.below hb, S.want.fr (s := fun _ => True) (Fr.of_below hb) (fun _ _ _ => trivial) (fun _ h _ => h), S.ms, S.box.below hb S.box.lt, S.kp, bnext S.base hb, S.bn⟩
/-- an argument's mail -/
theorem St.mail {x : Ml} (S : St w W g b7 room lost v rs ws A n k) (hx : Rd w w.heap.size x.A (x.m.bs.map b8)) : RdP W (Kp g v) x.A (x.m.bs.map b8) := (hx.below S.base).toP S.old
theorem St.act (S : St w W g b7 room lost v rs ws A n k) (x : Ac) (hnow : x.nw ≤ 9223372036854775807) (hxr : Rd w w.heap.size x.ml.A (x.ml.m.bs.map b8)) (hxl : x.ml.m.bs.length ≤ 60) (hxc : x.ml.m.bs.length ≤ x.ml.c ∧ x.ml.c ≤ maxLen) :
    Calls Try.prog 19 #[.pointer (some ⟨g, 0, none⟩), .agg #[.slice A n k, .int .i64 room, .int .i64 lost], .agg (acA x)] W (ActOk W w.heap.size g v rs room (Kp g v)) :=
  act_any x hnow (S.mail hxr) hxl hxc S.fl S.base.size S.ms S.want (fun _ h => h)
theorem St.is (S : St w W g b7 room lost v rs ws A n k) : Calls Try.prog 21 #[.pointer (some ⟨g, 0, none⟩), .agg #[.slice A n k, .int .i64 room, .int .i64 lost]] W fun e w' => e = .returned (.bool true) ∧ Below W.heap.size W w' := is19_any S.fl S.ms S.want
end
/-- bytes, and mails, do not lie in a box that holds a document's flight: its cells are of another kind -/
theorem rdp_box {w : World} {p : Nat → Prop} {A : Option Addr} {l : List UInt8} {X : Nat} {a : Option Addr} {b c : Nat} {d e : Int} (h : RdP w p A (l.map b8)) (hX : Blk w X 49 #[.slice a b c, .int .i64 d, .int .i64 e]) : RdP w (fun b => p b ∧ b ≠ X) A (l.map b8) := fun h0 => by
  obtain ⟨b', off, he, hp, hc⟩ := h h0
  refine ⟨b', off, he, ⟨hp, fun hb => ?_⟩, hc⟩
  subst hb
  have hl : 0 < l.length := by simpa using h0
  have h1 := hc 0 (b8 l[0]) (by simp [hl])
  rw [hX.cell] at h1
  match off with
  | 0 => simp [b8] at h1
  | 1 => simp [b8] at h1
  | 2 => simp [b8] at h1
  | m + 3 => simp at h1
theorem rows_box {w : World} {p : Nat → Prop} {A : Option Addr} {rs : List Ml} {X : Nat} {a b c : Value} (h : RdP w p A (mlC rs)) (hX : Blk w X 49 #[a, b, c]) : RdP w (fun b => p b ∧ b ≠ X) A (mlC rs) := fun h0 => by
  obtain ⟨b', off, he, hp, hc⟩ := h h0
  refine ⟨b', off, he, ⟨hp, fun hb => ?_⟩, hc⟩
  subst hb
  have hl : 0 < rs.length := by rw [mlC_len] at h0; omega
  have h1 := hc 3 (.int .u32 rs[0].m.src) (by have := rows_get mlL_len rs 0 rs[0] 3 (by simp [hl]) (by omega); simpa [mlC, mlL] using this)
  rw [hX.cell] at h1
  simp at h1
theorem Want.box {w w' : World} {p : Nat → Prop} {A : Option Addr} {n c : Nat} {ws : List Ml} {X : Nat} {a : Option Addr} {b k : Nat} {d e : Int} (h : Want w p A n c ws) (hX : Blk w X 49 #[.slice a b k, .int .i64 d, .int .i64 e]) (f : Fr (fun b => b ≠ X) w w') : Want w' p A n c ws :=
  ⟨h.1, h.2.1, h.2.2.1, (rows_box h.2.2.2.1 hX).fr f (fun _ h _ => h.2) (fun _ h _ => h.1), fun r hr => (rdp_box (h.2.2.2.2 r hr) hX).fr f (fun _ h _ => h.2) (fun _ h _ => h.1)⟩
theorem Fl.box {w w' : World} {n0 g room lost X : Nat} {v : Value} {rs : List Ml} {a : Option Addr} {b k : Nat} {d e : Int} (h : Fl w n0 g v rs room lost) (hX : Blk w X 49 #[.slice a b k, .int .i64 d, .int .i64 e]) (hk : Kp g v X) (f : Fr (fun b => b ≠ X) w w') : Fl w' n0 g v rs room lost :=
  ⟨f.blk h.blk (fun e => hk.1 e.symm), h.ge, own_keep h.own (Nat.le_refl _) (fun q hq hl => f.2.2.2.2 q (fun e => hk.2 (by rw [← e]; exact hq)) hl), h.apart, h.room0, h.len, h.lost0, fun r hr => ⟨(rdp_box (h.mails r hr).1 hX).fr f (fun _ h _ => h.2) (fun _ h _ => h.1), (h.mails r hr).2⟩, h.ok⟩
/-- what a call left -/
def After (W : World) (n0 g : Nat) (v : Value) (room : Nat) (W' : World) (g' : Nat) (v' : Value) (rs' : List Ml) (lost' : Nat) (A' : Option Addr) (n' c' : Nat) (ws' : List Ml) : Prop :=
  Fl W' n0 g' v' rs' room lost' ∧ msL rs' = msL ws' ∧ Want W' (Kp g' v') A' n' c' ws' ∧ Fr (Kp g v) W W' ∧ (∀ b, b < W.heap.size → Kp g v b → Kp g' v' b)
theorem ActOk.after {W W' : World} {n0 g room : Nat} {v : Value} {rs : List Ml} {e : Ending} (h : ActOk W n0 g v rs room (Kp g v) e W') :
    ∃ g' v' rs' lost' A' n' c' ws', e = .returned (.tuple #[.pointer (some ⟨g', 0, none⟩), .agg #[.slice A' n' c', .int .i64 (room : Nat), .int .i64 (lost' : Nat)], .bool true]) ∧ After W n0 g v room W' g' v' rs' lost' A' n' c' ws' := by
  obtain ⟨g', v', rs', lost', A', n', c', ws', he, h1, h2, h3, h4, h5, _⟩ := h
  exact ⟨g', v', rs', lost', A', n', c', ws', he, h1, h2, h3.mono (fun b hb _ => hb.elim (fun k => h5 b k.2 k.1) (fun k => k.2)), h4, h5⟩
/-- behind a call whose answer lies in a block of its own -/
def Put12 (wr : World) (n0 g : Nat) (v : Value) (room : Nat) (wx : World) (g' : Nat) (v' : Value) (rs' : List Ml) (lost' : Nat) (A' : Option Addr) (n' c' : Nat) (ws' : List Ml) (bo : Nat) : Prop :=
  Fl wx n0 g' v' rs' room lost' ∧ msL rs' = msL ws' ∧ Want wx (Kp g' v') A' n' c' ws' ∧ Fr (fun b => Kp g v b ∧ b < wr.heap.size) wr wx ∧ (∀ b, b < wr.heap.size → Kp g v b → Kp g' v' b) ∧ Kp g' v' bo ∧ wr.heap.size ≤ bo ∧ Blk wx bo 49 #[.slice A' n' c', .int .i64 room, .int .i64 lost']
section
variable {wr w5 : World} {n0 g room lost' : Nat} {v : Value} {g' : Nat} {v' : Value} {rs' ws' : List Ml} {A' : Option Addr} {n' c' : Nat}
theorem After.putA (h : After wr.drew n0 g v room w5 g' v' rs' lost' A' n' c' ws') : Put12 wr n0 g v room (w5.alloc (.cells #[.slice A' n' c', .int .i64 room, .int .i64 lost'] 49)) g' v' rs' lost' A' n' c' ws' w5.heap.size := by
  obtain ⟨h1, h2, h3, h4, h5⟩ := h
  have s5 : wr.heap.size ≤ w5.heap.size := h4.2.2.2.1
  have hb : Below w5.heap.size w5 (w5.alloc (.cells #[.slice A' n' c', .int .i64 room, .int .i64 lost'] 49)) := balloc (Below.refl _ _) _
  exact ⟨h1.below hb, h2, h3.fr (s := fun _ => True) (Fr.of_below hb) (fun _ _ _ => trivial) (fun _ h _ => h), ((Fr.drewN (p := fun b => Kp g v b ∧ b < wr.heap.size) 1).trans (h4.mono (fun b _ hb => hb.1))).trans (Fr.alloc _), h5,
    ⟨by have := h1.blk.lt; omega, fun e => by have := h1.row_lt _ e; omega⟩, s5, Blk.new _ _ _⟩
theorem After.zblk (hk : Kp g v wr.heap.size) (h : After (wr.alloc (.cells #[.slice none 0 0, .int .i64 0, .int .i64 0] 49)).drew n0 g v room w5 g' v' rs' lost' A' n' c' ws') : Blk w5 wr.heap.size 49 #[.slice none 0 0, .int .i64 0, .int .i64 0] :=
  Fr.blk (w := (wr.alloc (.cells #[.slice none 0 0, .int .i64 0, .int .i64 0] 49)).drew) h.2.2.2.1 (Blk.new wr 49 #[.slice none 0 0, .int .i64 0, .int .i64 0]) hk
theorem After.putB (hk : Kp g v wr.heap.size) (h : After (wr.alloc (.cells #[.slice none 0 0, .int .i64 0, .int .i64 0] 49)).drew n0 g v room w5 g' v' rs' lost' A' n' c' ws') :
    Put12 wr n0 g v room (((w5.setCell ⟨wr.heap.size, 0, none⟩ (.slice A' n' c')).setCell ⟨wr.heap.size, 1, none⟩ (.int .i64 room)).setCell ⟨wr.heap.size, 2, none⟩ (.int .i64 lost')) g' v' rs' lost' A' n' c' ws' wr.heap.size := by
  have hz := After.zblk hk h
  obtain ⟨h1, h2, h3, h4, h5⟩ := h
  have hs : (wr.alloc (.cells #[.slice none 0 0, .int .i64 0, .int .i64 0] 49)).drew.heap.size = wr.heap.size + 1 := by show (wr.alloc _).heap.size = _; simp
  have hk' : Kp g' v' wr.heap.size := h5 _ (by omega) hk
  have f6 : Fr (fun b => b ≠ wr.heap.size) w5 (((w5.setCell ⟨wr.heap.size, 0, none⟩ (.slice A' n' c')).setCell ⟨wr.heap.size, 1, none⟩ (.int .i64 room)).setCell ⟨wr.heap.size, 2, none⟩ (.int .i64 lost')) := ((Fr.refl.put 0 _).put 1 _).put 2 _
  have hz3 := ((hz.set 0 (.slice A' n' c')).set 1 (.int .i64 room)).set 2 (.int .i64 lost')
  simp only [List.setIfInBounds_toArray, List.set_cons_zero, List.set_cons_succ] at hz3
  exact ⟨h1.box hz hk' f6, h2, h3.box hz f6, ((((Fr.alloc (p := fun b => Kp g v b ∧ b < wr.heap.size) (.cells #[.slice none 0 0, .int .i64 0, .int .i64 0] 49)).trans (Fr.drewN 1)).trans (h4.mono (fun b _ hb => hb.1))).trans (f6.mono (fun b _ hb => by have := hb.2; omega))), fun b hb hk => h5 b (by omega) hk, hk', Nat.le_refl _, hz3⟩
/-- .. and the answer is laid where the document's flight lies -/
theorem Put12.next {w wx : World} {b7 bo lost : Nat} {rs ws : List Ml} {A : Option Addr} {n k : Nat} (S : St w wr g b7 room lost v rs ws A n k) (hn0 : n0 = w.heap.size) (h : Put12 wr n0 g v room wx g' v' rs' lost' A' n' c' ws' bo) :
    St w (((wx.setCell ⟨b7, 0, none⟩ (.slice A' n' c')).setCell ⟨b7, 1, none⟩ (.int .i64 room)).setCell ⟨b7, 2, none⟩ (.int .i64 lost')).drew g' b7 room lost' v' rs' ws' A' n' c' := by
  obtain ⟨h1, h2, h3, h4, h5, h6, h7, h8⟩ := h
  subst hn0
  have hb7 : Blk wx b7 49 #[.slice A n k, .int .i64 room, .int .i64 lost] := h4.blk S.box ⟨S.kp, S.box.lt⟩
  have hk : Kp g' v' b7 := h5 _ S.box.lt S.kp
  have f6 : Fr (fun b => b ≠ b7) wx (((wx.setCell ⟨b7, 0, none⟩ (.slice A' n' c')).setCell ⟨b7, 1, none⟩ (.int .i64 room)).setCell ⟨b7, 2, none⟩ (.int .i64 lost')).drew := (((Fr.refl.put 0 _).put 1 _).put 2 _).trans (Fr.drewN 1)
  have hz3 := ((hb7.set 0 (.slice A' n' c')).set 1 (.int .i64 room)).set 2 (.int .i64 lost')
  simp only [List.setIfInBounds_toArray, List.set_cons_zero, List.set_cons_succ] at hz3
  have hold := S.old
  have hb7n : w.heap.size ≤ b7 := S.bn
  have hs := S.base.size
  exact ⟨h1.box hb7 hk f6, h3.box hb7 f6, h2, hz3, hk, (S.base.trans (h4.below (B := w.heap.size) hs (fun b hb => ⟨hold b hb, by omega⟩))).trans (f6.below (by have := h4.2.2.2.1; omega) (fun b hb => by omega)), hb7n⟩
end
end Go.Proofs.Ytgdkobknjgbdbaa
