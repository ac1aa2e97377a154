/- pulse.Beats: what is handed to the loop's body, in order. -/
import Derived.Test.YtlgkjboamfgbeaaDoorPulG
import Derived.Test.YtlgkjboamfgbeaaDoorRngW
namespace Go.Proofs.YtlgkjboamfgbeaaDoor
set_option linter.unusedVariables false
set_option linter.unusedSimpArgs false
open Go.RowKit Go.Shelf
attribute [local go_sem] Oper.semAt_some
set_option maxRecDepth 100000

/-- a pulse's next time -/
def nxtS (x : Int × Int × Bool) : Int := nxtF x.1 x.2.1 x.2.2
/-- a tick at that time -/
def tckS (p j q s : Int) (x : Int × Int × Bool) (dr : Int) : (Int × Int × Bool) × Int := tckF p j q s x.1 x.2.1 x.2.2 (nxtS x) dr
/-- a pulse behind so many ticks -/
def stS (p j q s : Int) (x0 : Int × Int × Bool) (zs : List Int) : Nat → Int × Int × Bool
  | 0 => x0
  | i + 1 => (tckS p j q s (stS p j q s x0 zs i) (zs.getD i 0)).1
/-- the error of the next tick -/
def btE (oc : Bool) (x : Int × Int × Bool) : Int := askE oc (okT x.1 && okT x.2.1) (okN (nxtS x))
/-- how many ticks of the first ones have no error, one behind the other -/
def btN (oc : Bool) (p j q s : Int) (x0 : Int × Int × Bool) (zs : List Int) : Nat → Nat
  | 0 => 0
  | m + 1 => if btN oc p j q s x0 zs m = m ∧ btE oc (stS p j q s x0 zs m) = 0 then m + 1 else btN oc p j q s x0 zs m
section
variable {oc : Bool} {p j q s : Int} {x0 : Int × Int × Bool} {zs : List Int}
theorem btN_le (m : Nat) : btN oc p j q s x0 zs m ≤ m := by
  induction m with
  | zero => exact Nat.le_refl _
  | succ m ih => unfold btN; split <;> omega
theorem btN_mono (m : Nat) : btN oc p j q s x0 zs m ≤ btN oc p j q s x0 zs (m + 1) := by
  rw [btN]; have := btN_le (oc := oc) (p := p) (j := j) (q := q) (s := s) (x0 := x0) (zs := zs) m; split <;> omega
theorem btN_ok (m : Nat) : ∀ i, i < btN oc p j q s x0 zs m → btE oc (stS p j q s x0 zs i) = 0 := by
  induction m with
  | zero => intro i h; exact absurd h (by simp [btN])
  | succ m ih =>
    intro i h
    rw [btN] at h
    split at h
    · rename_i hc
      rcases Nat.lt_or_ge i m with hm | hm
      · exact ih i (by rw [hc.1]; exact hm)
      · obtain rfl : i = m := by omega
        exact hc.2
    · exact ih i h
theorem btN_end (m : Nat) (h : btN oc p j q s x0 zs m < m) : btE oc (stS p j q s x0 zs (btN oc p j q s x0 zs m)) ≠ 0 := by
  induction m with
  | zero => exact absurd h (by simp)
  | succ m ih =>
    rw [btN] at h ⊢
    split at h
    · omega
    · rename_i hc
      rw [if_neg hc]
      have := btN_le (oc := oc) (p := p) (j := j) (q := q) (s := s) (x0 := x0) (zs := zs) m
      rcases Nat.lt_or_ge (btN oc p j q s x0 zs m) m with hm | hm
      · exact ih hm
      · intro he
        have e : btN oc p j q s x0 zs m = m := by omega
        rw [e] at he
        exact hc ⟨e, he⟩
end
/-- the time of a tick, and what is told -/
def bvA (p j q s : Int) (x0 : Int × Int × Bool) (zs : List Int) (i : Nat) : Int := nxtS (stS p j q s x0 zs i)
def bvB (p j q s : Int) (x0 : Int × Int × Bool) (zs : List Int) (i : Nat) : Int := (tckS p j q s (stS p j q s x0 zs i) (zs.getD i 0)).2
/-- what is handed to the loop's body -/
def btA (p j q s : Int) (x0 : Int × Int × Bool) (zs : List Int) (i : Nat) : Array Value := #[.int .i64 (bvA p j q s x0 zs i), .int .i64 (bvB p j q s x0 zs i)]
/-- what a round keeps: what lay below one block, and from another one on -/
def KR (lo hi : Nat) (A B : World) : Prop := Below lo A B ∧ ∀ k, hi ≤ k → k < A.heap.size → B.heap[k]? = A.heap[k]?
theorem KR.trans {lo hi : Nat} {A B C : World} (h : KR lo hi A B) (k : KR lo hi B C) : KR lo hi A C :=
  ⟨h.1.trans k.1, fun i h1 h2 => (k.2 i h1 (Nat.lt_of_lt_of_le h2 h.1.size)).trans (h.2 i h1 h2)⟩
theorem KR.put {lo hi l : Nat} (W : World) (o : Obj) (h1 : lo ≤ l) (h2 : l < hi) : KR lo hi W (W.putObj l o) :=
  ⟨below_putObj _ _ _ h1, fun k hk _ => World.putObj_heap_other (by omega)⟩
theorem KR.blk {lo hi : Nat} {A B : World} {g : Nat} {t : TypeId} {cs : Array Value} (h : KR lo hi A B) (hb : Blk A g t cs) (hg : hi ≤ g) : Blk B g t cs := (h.2 g hg hb.lt).trans hb
/-- what Beats hands back: a function, and in boxes the pulse, the draws, the configuration -/
def IsBeats (w : World) (p j t h g q s cp : Int) (l : List (Nat × Int)) (x : Int × Int × Bool) (zs : List Int) (lb : Array Value) : Prop :=
  ∃ Bp Bl Bc A k Az kz, lb = #[.pointer (some ⟨Bp, 0, none⟩), .pointer (some ⟨Bl, 0, none⟩), .pointer (some ⟨Bc, 0, none⟩)] ∧
    Blk w Bp 28 #[.int .i64 x.1, .int .i64 x.2.1, .bool x.2.2] ∧ Blk w Bl 44 #[.slice Az zs.length kz] ∧
    Blk w Bc 24 #[.int .i64 p, .int .i64 j, .int .i64 t, .int .i64 h, .int .i64 g, .int .i64 q, .int .i64 s, .int .i64 cp, .slice A l.length k] ∧
    (l.length ≤ k ∧ k ≤ maxLen ∧ Rd w w.heap.size A (plC l)) ∧ (zs.length ≤ kz ∧ kz ≤ maxLen ∧ Rd w w.heap.size Az (zs.map i8))
theorem IsBeats.below {w w' : World} {p j t h g q s cp : Int} {l : List (Nat × Int)} {x : Int × Int × Bool} {zs : List Int} {lb : Array Value} (hh : IsBeats w p j t h g q s cp l x zs lb) (hb : Below w.heap.size w w') : IsBeats w' p j t h g q s cp l x zs lb := by
  obtain ⟨Bp, Bl, Bc, A, k, Az, kz, e, h1, h2, h3, ⟨h4, h5, h6⟩, h7, h8, h9⟩ := hh
  exact ⟨Bp, Bl, Bc, A, k, Az, kz, e, h1.below hb h1.lt, h2.below hb h2.lt, h3.below hb h3.lt, ⟨h4, h5, (h6.below hb).more hb.size⟩, h7, h8, (h9.below hb).more hb.size⟩

set_option maxHeartbeats 1000000 in
theorem beats_any (p j t h g q s cp : Int) (A : Option Addr) (n k : Nat) (l : List (Nat × Int)) (hn : l.length = n) (x : Int × Int × Bool) (zs : List Int) (m kz : Nat) (hm : zs.length = m) (Az : Option Addr) (w : World) (hr : Rd w w.heap.size A (plC l)) (hz : Rd w w.heap.size Az (zs.map i8)) (hl : n ≤ 1048576) (hl2 : m ≤ 1048576) :
    Calls Tryd.prog 22 #[.agg #[.int .i64 p, .int .i64 j, .int .i64 t, .int .i64 h, .int .i64 g, .int .i64 q, .int .i64 s, .int .i64 cp, .slice A n k], .agg #[.int .i64 x.1, .int .i64 x.2.1, .bool x.2.2], .slice Az m kz] w fun e w' => ∃ lb, e = .returned (.func (.func 39) #[] lb) ∧ IsBeats w' p j t h g q s cp l x zs lb ∧ Below w.heap.size w w' := by
  have hmf : ∀ (fn : Fn) (first cap : Array Value) (w : World), (Instr.makeFunc fn first cap).run Tryd.prog w = .ok (.func fn first cap) w := fun _ _ _ _ => rfl
  have B0 : Below w.heap.size w ((w.alloc (.cells #[.int .i64 p, .int .i64 j, .int .i64 t, .int .i64 h, .int .i64 g, .int .i64 q, .int .i64 s, .int .i64 cp, .slice A n k] 24)).alloc (.cells #[.int .i64 x.1, .int .i64 x.2.1, .bool x.2.2] 28)) := balloc (balloc (Below.refl _ _) _) _
  have x1 := Blk.new (w.alloc (.cells #[.int .i64 p, .int .i64 j, .int .i64 t, .int .i64 h, .int .i64 g, .int .i64 q, .int .i64 s, .int .i64 cp, .slice A n k] 24)) 28 #[.int .i64 x.1, .int .i64 x.2.1, .bool x.2.2]
  rw [World.size_alloc] at x1
  have HCP := Lib.hid (ccopy_any p j t h g q s cp A n k w.heap.size l hn _ (hr.below B0) B0.size hl)
  have HCL := Lib.hid (fun W (hb : Below w.heap.size w W) => iclone_any zs m hm Az kz w.heap.size W (hz.below hb) hl2 hb.size)
  have X := Lib.hid (And.intro x1 B0)
  have HN := Lib.hid hn
  have HM := Lib.hid hm
  clear hr hz x1 B0 hn hm
  go_enter Tryd.func22, Tryd.ntmps22
  go_wp2_with fail
  refine HCP.out.mono ?_
  rintro e w1 ⟨A1, c1, rfl, h1, h2, h3, b1, hav⟩
  have BB := bnext X.out.2 b1
  go_wp2_with fail
  refine (HCL.out _ BB).mono ?_
  rintro e w2 ⟨A2, c2, rfl, k1, k2, k3, b2, hav2⟩
  have y1 := (X.out.1.below b1 X.out.1.lt).below b2 (X.out.1.below b1 X.out.1.lt).lt
  have h3' := h3.below b2
  have BB2 := bnext BB b2
  have hs2 := b2.size
  go_wp2_with fail
  go_ret
  refine ⟨_, rfl, ⟨_, _, _, A1, c1, A2, c2, rfl, (y1.alloc _).alloc _, ?_, ?_, ⟨by rw [HN.out]; exact h1, h2, ?_⟩, by rw [HM.out]; exact k1, k2, ?_⟩, balloc (balloc BB2 _) _⟩
  · have z := Blk.new (w2.alloc (.cells #[.int .i64 p, .int .i64 j, .int .i64 t, .int .i64 h, .int .i64 g, .int .i64 q, .int .i64 s, .int .i64 cp, .slice A1 n c1] 24)) 44 #[.slice A2 m c2]
    rw [HM.out]
    simpa using z
  · rw [HN.out]
    exact (Blk.new w2 24 _).alloc _
  · exact (((h3'.more hs2).alloc (Nat.le_refl _) _).more (by simp)).alloc (Nat.le_refl _) _ |>.more (by simp)
  · exact ((k3.alloc (Nat.le_refl _) _).more (by simp)).alloc (Nat.le_refl _) _ |>.more (by simp)
end Go.Proofs.YtlgkjboamfgbeaaDoor
