/- flight: each call, and the document's, with one answer in all cases. -/
import Derived.Test.YtgdkobknjgbdbaaFlU
namespace Go.Proofs.Ytgdkobknjgbdbaa
set_option linter.unusedVariables false
set_option linter.unusedSimpArgs false
open Go.RowKit
set_option maxRecDepth 100000

/-- a list of mails that is read: its row, and the mails' bytes, lie in blocks that meet a condition -/
def Want (w : World) (p : Nat → Prop) (A : Option Addr) (n c : Nat) (ws : List Ml) : Prop :=
  ws.length = n ∧ n ≤ c ∧ c ≤ 9223372036854775807 ∧ RdP w p A (mlC ws) ∧ ∀ r ∈ ws, RdP w p r.A (r.m.bs.map b8)
theorem Want.fr {w w' : World} {p q s : Nat → Prop} {A : Option Addr} {n c : Nat} {ws : List Ml} (h : Want w p A n c ws) (hf : Fr s w w') (h1 : ∀ b, p b → b < w.heap.size → s b) (h2 : ∀ b, p b → b < w.heap.size → q b) : Want w' q A n c ws :=
  ⟨h.1, h.2.1, h.2.2.1, h.2.2.2.1.fr hf h1 h2, fun r hr => (h.2.2.2.2 r hr).fr hf h1 h2⟩
theorem Want.rd {w : World} {p : Nat → Prop} {A : Option Addr} {n c : Nat} {ws : List Ml} (h : Want w p A n c ws) : Rd w w.heap.size A (mlC ws) := h.2.2.2.1.rd
/-- p, or new -/
def Or' (p : Nat → Prop) (w : World) (b : Nat) : Prop := (p b ∧ b < w.heap.size) ∨ w.heap.size ≤ b
theorem Want.below {w w' : World} {p : Nat → Prop} {A : Option Addr} {n c : Nat} {ws : List Ml} (h : Want w p A n c ws) (hb : Below w.heap.size w w') : Want w' (Or' p w) A n c ws :=
  h.fr (s := fun _ => True) (Fr.of_below hb) (fun _ _ _ => trivial) (fun b hp hl => .inl ⟨hp, hl⟩)
theorem rdp_below {w w' : World} {p : Nat → Prop} {A : Option Addr} {xs : List Value} (h : RdP w p A xs) (hb : Below w.heap.size w w') : RdP w' (Or' p w) A xs :=
  h.fr (r := fun _ => True) (Fr.of_below hb) (fun _ _ _ => trivial) (fun b hp hl => .inl ⟨hp, hl⟩)
theorem want_new {w w' : World} {p : Nat → Prop} {A : Option Addr} {n c : Nat} {ws : List Ml} (hn : ws.length = n) (h : NewRow w w' (mlC ws) A n c) (hm : ∀ r ∈ ws, RdP w p r.A (r.m.bs.map b8)) (hb : Below w.heap.size w w') : Want w' (Or' p w) A n c ws := by
  have hc := h.2.2
  unfold maxLen at hc
  obtain ⟨A1, c1, he, _, _, hr, ha⟩ := own_row h.1
  injection he with h1 _ h2
  subst h1 h2
  exact ⟨hn, h.2.1, hc, hr.to (fun a e _ => .inr (ha a e)), fun r hr => rdp_below (hm r hr) hb⟩

/-- what Put leaves -/
def putL (m : Mm) (room : Nat) (L : List Mm) : List Mm := if okM m = true ∧ L.length < room then L ++ [m] else L
def putLost (m : Mm) (room n lost : Nat) : Nat := if okM m = true ∧ room ≤ n then lostN lost else lost
theorem putg_any {n0 g room lost : Nat} {v : Value} {rs : List Ml} {w : World} (r : Ml) (hF : Fl w n0 g v rs room lost) (hn0 : n0 ≤ w.heap.size) (hr : Rd w w.heap.size r.A (r.m.bs.map b8)) (hl : r.m.bs.length ≤ 1048576) :
    Calls Try.prog 12 #[.pointer (some ⟨g, 0, none⟩), .agg (mlA r)] w fun e w' => ∃ v' rs', e = .returned (.int .i64 (errPut r.m room rs.length)) ∧ Goes w w' n0 g v v' rs' room (putLost r.m room rs.length lost) ∧ msL rs' = putL r.m room (msL rs) ∧ (∀ x ∈ rs', x ∈ rs ∨ ∀ a, x.A = some a → w.heap.size ≤ a.block) := by
  cases hok : okM r.m
  · refine (put_bad r hF hok).mono fun e w' ⟨he, hb⟩ => ⟨v, rs, ?_, ?_, ?_, fun x hx => .inl hx⟩
    · rw [he]; simp [errPut, hok]
    · rw [show putLost r.m room rs.length lost = lost by simp [putLost, hok]]; exact Goes.stay hF hb
    · simp [putL, hok]
  · by_cases hf : room ≤ rs.length
    · refine (put_full r hF hok hf).mono fun e w' ⟨he, h1, h2⟩ => ⟨v, rs, ?_, ?_, ?_, fun x hx => .inl hx⟩
      · rw [he]; simp [errPut, hok, hf]
      · rw [show putLost r.m room rs.length lost = lostN lost by simp [putLost, hok, hf]]; exact ⟨h1, h2, fun _ e => .inr e⟩
      · have : ¬ rs.length < room := by omega
        simp [putL, hok, msL_len, this]
    · refine (put_ok r hF hok (by omega) hn0 hr hl).mono fun e w' ⟨v', r', he, hm, h1, h2, h3, h4⟩ => ⟨v', rs ++ [r'], ?_, ?_, ?_, fun x hx => (List.mem_append.1 hx).imp id (fun h => by simp only [List.mem_singleton] at h; subst h; exact h4)⟩
      · rw [he]; simp [errPut, hok, hf]
      · rw [show putLost r.m room rs.length lost = lost by simp [putLost, hok, hf]]; exact ⟨h1, h2, h3⟩
      · have : rs.length < room := by omega
        simp only [putL, hok, msL_len, this, and_self, if_true]
        simp [msL, hm]
theorem refputg_any {room lost : Nat} {p : Nat → Prop} {A : Option Addr} {n c : Nat} {ws : List Ml} {w : World} (r : Ml) (hW : Want w p A n c ws) (hn : n ≤ 512) (hlost : lost ≤ 2147483647) (hr : RdP w p r.A (r.m.bs.map b8)) :
    Calls Try.prog 40 #[.agg #[.slice A n c, .int .i64 room, .int .i64 lost], .agg (mlA r)] w fun e w' => ∃ A' n' c' ws', e = .returned (.tuple #[.agg #[.slice A' n' c', .int .i64 room, .int .i64 (putLost r.m room n lost : Nat)], .int .i64 (errPut r.m room n)]) ∧
      Want w' (Or' p w) A' n' c' ws' ∧ msL ws' = putL r.m room (msL ws) ∧ Below w.heap.size w w' := by
  have hnl := hW.1
  cases hok : okM r.m
  · refine (refput_bad r room lost n c A w hok).mono fun e w' ⟨he, hb⟩ => ⟨A, n, c, ws, ?_, hW.below hb, ?_, hb⟩
    · rw [he]; simp [errPut, putLost, hok]
    · simp [putL, hok]
  · by_cases hf : room ≤ n
    · refine (refput_full r room lost n c A w hok hf hlost).mono fun e w' ⟨he, hb⟩ => ⟨A, n, c, ws, ?_, hW.below hb, ?_, hb⟩
      · rw [he]; simp [errPut, putLost, hok, hf]
      · have : ¬ n < room := by omega
        simp [putL, hok, msL_len, hnl, this]
    · refine (refput_ok r room lost ws n c hW.1 A w hok (by omega) hW.rd hn hW.2.1 hW.2.2.1).mono fun e w' ⟨A', c', he, hnr, hb⟩ => ⟨A', n + 1, c', ws ++ [r], ?_, ?_, ?_, hb⟩
      · rw [he]; simp [errPut, putLost, hok, hf]
      · refine want_new (by simp [hnl]) hnr (fun x hx => ?_) hb
        rcases List.mem_append.1 hx with h | h
        · exact hW.2.2.2.2 x h
        · simp only [List.mem_singleton] at h
          subst h
          exact hr
      · have : n < room := by omega
        simp only [putL, hok, msL_len, hnl, this, and_self, if_true]
        simp [msL]
theorem takeg_any {n0 g room lost : Nat} {v : Value} {rs : List Ml} {w : World} (pick : Int) (hF : Fl w n0 g v rs room lost) (hn0 : n0 ≤ w.heap.size) :
    Calls Try.prog 13 #[.pointer (some ⟨g, 0, none⟩), .int .i64 pick] w fun e w' => GivesM (pickM pick (msL rs)).1 (pickM pick (msL rs)).2 w e w' ∧ ∃ v' rs', Goes w w' n0 g v v' rs' room lost ∧ msL rs' = pickL pick (msL rs) ∧ (∀ x ∈ rs', x ∈ rs) := by
  by_cases h0 : rs = []
  · refine (take_none pick hF h0).mono fun e w' ⟨he, hb⟩ => ⟨?_, v, rs, Goes.stay hF hb, ?_, fun x hx => hx⟩
    · subst h0
      rw [he]
      exact gives_zero
    · subst h0
      simp [pickL, msL]
  · have hpos : 0 < rs.length := List.length_pos_iff.2 h0
    have hi := pickF_lt pick rs.length hpos
    have hr := List.getElem?_eq_getElem hi
    refine (take_ok pick _ hF hpos hr hn0).mono fun e w' ⟨hm, v', hg⟩ => ⟨?_, v', _, hg, ?_, fun x hx => List.mem_of_mem_eraseIdx hx⟩
    · have e1 : pickM pick (msL rs) = (rs[pickF pick rs.length].m, 0) := by
        unfold pickM
        rw [msL_len, msL_get?, hr]
        rfl
      rw [e1]
      exact hm
    · rw [msL_erase, pickL, msL_len]
theorem peekg_any {n0 g room lost : Nat} {v : Value} {rs : List Ml} {w : World} (pick : Int) (hF : Fl w n0 g v rs room lost) :
    Calls Try.prog 22 #[.pointer (some ⟨g, 0, none⟩), .int .i64 pick] w fun e w' => GivesM (pickM pick (msL rs)).1 (pickM pick (msL rs)).2 w e w' ∧ Below w.heap.size w w' := by
  by_cases h0 : rs = []
  · refine (peek_none pick hF h0).mono fun e w' ⟨he, hb⟩ => ⟨?_, hb⟩
    subst h0
    rw [he]
    exact gives_zero
  · have hpos : 0 < rs.length := List.length_pos_iff.2 h0
    have hi := pickF_lt pick rs.length hpos
    have hr := List.getElem?_eq_getElem hi
    refine (peek_ok pick _ hF hpos hr).mono fun e w' ⟨hm, hb⟩ => ⟨?_, hb⟩
    have e1 : pickM pick (msL rs) = (rs[pickF pick rs.length].m, 0) := by
      unfold pickM
      rw [msL_len, msL_get?, hr]
      rfl
    rw [e1]
    exact hm
/-- the document hands a mail back, its bytes where they lay -/
def GivesR (p : Nat → Prop) (m : Mm) (er : Int) (L' : List Mm) (room lost : Nat) (w : World) (e : Ending) (w' : World) : Prop :=
  ∃ A' n' c' ws' r, e = .returned (.tuple #[.agg #[.slice A' n' c', .int .i64 room, .int .i64 lost], .agg (mlA r), .int .i64 er]) ∧ r.m = m ∧ RdP w' (Or' p w) r.A (r.m.bs.map b8) ∧ Want w' (Or' p w) A' n' c' ws' ∧ msL ws' = L' ∧ Below w.heap.size w w'
theorem reftakeg_any {room lost : Nat} {p : Nat → Prop} {A : Option Addr} {n c : Nat} {ws : List Ml} {w : World} (pick : Int) (hW : Want w p A n c ws) (hn : n ≤ 512) :
    Calls Try.prog 41 #[.agg #[.slice A n c, .int .i64 room, .int .i64 lost], .int .i64 pick] w (GivesR p (pickM pick (msL ws)).1 (pickM pick (msL ws)).2 (pickL pick (msL ws)) room lost w) := by
  have hnl := hW.1
  by_cases h0 : n = 0
  · subst h0
    have hws : ws = [] := List.eq_nil_of_length_eq_zero hnl
    refine (reftake_none pick room lost c A w).mono fun e w' ⟨he, hb⟩ => ⟨A, 0, c, ws, ⟨mZ, none, 0⟩, ?_, ?_, fun h => absurd h (by simp [mZ]), hW.below hb, ?_, hb⟩
    · rw [he]; subst hws; rfl
    · subst hws; rfl
    · subst hws; simp [pickL, msL]
  · have hpos : 0 < n := by omega
    have hi := pickF_lt pick n hpos
    obtain ⟨r0, hr⟩ : ∃ r0, ws[pickF pick n]? = some r0 := ⟨_, List.getElem?_eq_getElem (show pickF pick n < ws.length by omega)⟩
    have e1 : pickM pick (msL ws) = (r0.m, 0) := by
      unfold pickM
      rw [msL_len, hnl, msL_get?, hr]
      rfl
    rw [e1]
    refine (reftake_ok pick room lost ws r0 n c hW.1 A w hW.rd hpos hr hn hW.2.1 hW.2.2.1).mono fun e w' ⟨A', c', he, hnr, hb⟩ => ⟨A', n - 1, c', ws.eraseIdx (pickF pick n), r0, he, rfl, rdp_below (hW.2.2.2.2 _ (List.mem_of_getElem? hr)) hb, want_new (by rw [List.length_eraseIdx_of_lt (by omega), hnl]) hnr (fun x hx => hW.2.2.2.2 x (List.mem_of_mem_eraseIdx hx)) hb, ?_, hb⟩
    rw [msL_erase, pickL, msL_len, hnl]

theorem lateP_bad {now delay : Int} {L : List Mm} (h : delay < 0) : lateP now delay L = (mZ, 2) := by simp [lateP, h]
theorem lateg_any {n0 g room lost : Nat} {v : Value} {rs : List Ml} {w : World} (now delay : Int) (hF : Fl w n0 g v rs room lost) (hn0 : n0 ≤ w.heap.size) (hnow : now ≤ 9223372036854775807) :
    Calls Try.prog 11 #[.pointer (some ⟨g, 0, none⟩), .int .i64 now, .int .i64 delay] w fun e w' => GivesM (lateP now delay (msL rs)).1 (lateP now delay (msL rs)).2 w e w' ∧ ∃ v' rs', Goes w w' n0 g v v' rs' room lost ∧ msL rs' = lateL now delay (msL rs) ∧ (∀ x ∈ rs', x ∈ rs) := by
  by_cases hd : delay < 0
  · refine (late_bad now delay hF hd).mono fun e w' ⟨he, hb⟩ => ⟨?_, v, rs, Goes.stay hF hb, by simp [lateL, hd], fun x hx => hx⟩
    rw [lateP_bad hd, he]
    exact gives_zero
  by_cases hf : fstL now delay (msL rs) < (msL rs).length
  · have hi : fstL now delay (msL rs) < rs.length := by rwa [msL_len] at hf
    obtain ⟨r0, hr⟩ : ∃ r0, rs[fstL now delay (msL rs)]? = some r0 := ⟨_, List.getElem?_eq_getElem hi⟩
    have e1 : lateP now delay (msL rs) = (r0.m, 0) := by
      unfold lateP
      rw [if_neg hd, msL_get?, hr]
      rfl
    rw [e1]
    refine (late_ok now delay r0 _ hF (by omega) hnow (by unfold fstZ; rw [if_pos hf]) hi hr hn0).mono fun e w' ⟨hm, v', hg⟩ => ⟨hm, v', _, hg, ?_, fun x hx => List.mem_of_mem_eraseIdx hx⟩
    rw [msL_erase, lateL, if_neg hd]
  · have e1 : lateP now delay (msL rs) = (mZ, 5) := by
      unfold lateP
      rw [if_neg hd, List.getElem?_eq_none (by omega)]
    rw [e1]
    refine (late_none now delay hF (by omega) hnow (by unfold fstZ; rw [if_neg hf])).mono fun e w' ⟨he, hb⟩ => ⟨?_, v, rs, Goes.stay hF hb, ?_, fun x hx => hx⟩
    · rw [he]; exact gives_zero
    · rw [lateL, if_neg hd, List.eraseIdx_of_length_le (by omega)]
theorem refltg_any {room lost : Nat} {p : Nat → Prop} {A : Option Addr} {n c : Nat} {ws : List Ml} {w : World} (now delay : Int) (hW : Want w p A n c ws) (hn : n ≤ 512) (hnow : now ≤ 9223372036854775807) (hs : ∀ r ∈ ws, 0 ≤ r.m.sent) :
    Calls Try.prog 42 #[.agg #[.slice A n c, .int .i64 room, .int .i64 lost], .int .i64 now, .int .i64 delay] w (GivesR p (lateP now delay (msL ws)).1 (lateP now delay (msL ws)).2 (lateL now delay (msL ws)) room lost w) := by
  have hnl := hW.1
  by_cases hd : delay < 0
  · rw [lateP_bad hd]
    refine (reflt_bad now delay room lost n c A w hd).mono fun e w' ⟨he, hb⟩ => ⟨A, n, c, ws, ⟨mZ, none, 0⟩, he, rfl, fun h => absurd h (by simp [mZ]), hW.below hb, by simp [lateL, hd], hb⟩
  refine (reflt_any now delay room lost ws n c hW.1 A w hW.rd hn hW.2.1 hW.2.2.1 (by omega) hnow hs).mono fun e w' h => ?_
  rcases h with ⟨r0, A', c', hr, he, hnr, hb⟩ | ⟨hf, he, hb⟩
  · have e1 : lateP now delay (msL ws) = (r0.m, 0) := by
      unfold lateP
      rw [if_neg hd, msL_get?, hr]
      rfl
    have hlt : fstL now delay (msL ws) < ws.length := by
      rcases Nat.lt_or_ge (fstL now delay (msL ws)) ws.length with h | h
      · exact h
      · rw [List.getElem?_eq_none h] at hr; cases hr
    rw [e1]
    refine ⟨A', n - 1, c', _, r0, he, rfl, rdp_below (hW.2.2.2.2 _ (List.mem_of_getElem? hr)) hb, want_new (by rw [List.length_eraseIdx_of_lt hlt, hnl]) hnr (fun x hx => hW.2.2.2.2 x (List.mem_of_mem_eraseIdx hx)) hb, ?_, hb⟩
    rw [msL_erase, lateL, if_neg hd]
  · have e1 : lateP now delay (msL ws) = (mZ, 5) := by
      unfold lateP
      rw [if_neg hd, List.getElem?_eq_none (by rw [msL_len]; omega)]
    rw [e1]
    exact ⟨A, n, c, ws, ⟨mZ, none, 0⟩, he, rfl, fun h => absurd h (by simp [mZ]), hW.below hb, by rw [lateL, if_neg hd, List.eraseIdx_of_length_le (by rw [msL_len]; omega)], hb⟩
end Go.Proofs.Ytgdkobknjgbdbaa
