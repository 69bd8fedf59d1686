/- Regions that draw their order. -/
import Derived.Test.YtpdoioeckiiegaaGreatDoorWlP
set_option linter.unusedSimpArgs false
set_option linter.unusedVariables false
namespace Go.Proofs.YtpdoioeckiiegaaGreatDoor.Wl
open Go.RowKit

/-- Operation j stands behind operation i by its own word. -/
def waits (ops : Array Oper) (j i : Nat) : Bool := match ops[j]? with
  | some o => o.after.any fun e => Region.binds .any e && e.on == i
  | none => false
/-- What the loads of a region read: the load, the operations that stand behind it and may end it, and what is so till then. -/
abbrev Ahead := List (Nat × List Nat × (World → Prop))
def ended (ls : List Nat) (listed : Array Bool) : Bool := ls.any fun k => listed.getD k false
def SL (cs : Ahead) (listed : Array Bool) (w : World) : Prop := ∀ c ∈ cs, ended c.2.1 listed = true ∨ c.2.2 w
/-- Whatever order is picked from here on, and what the loads read stands behind every operation. -/
def wpE (P : Program) (ops : Array Oper) (Q : Post) (cs : Ahead) : Nat → Array Bool → Act → World → Prop
  | 0, listed, a, w => Region.ready .any ops listed = [] ∧ Q .normal a w
  | fuel + 1, listed, a, w => (Region.ready .any ops listed = [] → Q .normal a w) ∧
    ∀ i ∈ Region.ready .any ops listed, wpOp P ops Q i (fun a' w' => SL cs (listed.setIfInBounds i true) w' ∧ wpE P ops Q cs fuel (listed.setIfInBounds i true) a' w') a w
theorem any_of_wpE {P : Program} {ops : Array Oper} {Q : Post} {cs : Ahead} : ∀ (fuel : Nat) (listed : Array Bool) (a : Act) (w : World), wpE P ops Q cs fuel listed a w → wpAny P .any ops Q fuel listed a w
  | 0, _, _, _, h => h
  | fuel + 1, _, _, _, h => ⟨h.1, fun i hi => wpOp_mono (fun a' w' h' => any_of_wpE fuel _ a' w' h'.2) (h.2 i hi)⟩
theorem ended_other {ls : List Nat} {i : Nat} {listed : Array Bool} (h : ls.contains i = false) : ended ls (listed.setIfInBounds i true) = ended ls listed := by
  unfold ended
  have hi : i ∉ ls := by simpa using h
  clear h
  induction ls with
  | nil => rfl
  | cons k ls ih =>
    simp only [List.any_cons]
    rw [getD_set_ne false (fun hik => hi (by simp [hik])), ih (fun h => hi (by simp [h]))]
theorem SL_other {cs : Ahead} {i : Nat} {listed : Array Bool} (h : cs.all (fun c => !c.2.1.contains i) = true) {w : World} : SL cs (listed.setIfInBounds i true) w ↔ SL cs listed w := by
  constructor
  · intro hL c hc
    rcases hL c hc with h1 | h1
    · left; rwa [ended_other (by simpa using List.all_eq_true.1 h c hc)] at h1
    · exact .inr h1
  · intro hL c hc
    rcases hL c hc with h1 | h1
    · left; rwa [ended_other (by simpa using List.all_eq_true.1 h c hc)]
    · exact .inr h1
/-- An operation that may come up, that reads just what C says, and that nobody ahead is in the way of, comes first. -/
theorem wpE_first {P : Program} {ops : Array Oper} {Q : Post} {cs : Ahead} {i : Nat} {oi : Oper} {v : Value} {ls : List Nat} {C : World → Prop} (hi : ops[i]? = some oi) (hsel : ∀ (j : Nat) (o : Oper) cs b, ops[j]? = some o → o.op ≠ .select cs b)
    (hQ : ∀ c a w, Q (.panic c) (a.put oi.dst v) w → Q (.panic c) a w) (hC : (∀ w, C w) ∨ (i, ls, C) ∈ cs) (hv : ∀ k ∈ ls, waits ops k i = true) (hn : cs.all (fun c => !c.2.1.contains i) = true) : ∀ (fuel : Nat) (listed : Array Bool) (a : Act) (w : World),
      (∀ j oj, ops[j]? = some oj → j ≠ i → listed.getD j true = false → (∀ e ∈ oj.after, Region.binds .any e = true → e.on ≠ i) → oi.apart ops oj = true) →
      ended ls listed = false → i ∈ Region.ready .any ops listed → YieldsIf P ops C oi v a → SL cs listed w →
      wpE P ops Q cs fuel (listed.setIfInBounds i true) (a.put oi.dst v) w → wpE P ops Q cs (fuel + 1) listed a w := by
  intro fuel
  have getC : ∀ listed w, ended ls listed = false → SL cs listed w → C w := fun listed w he hL => by
    rcases hC with hC | hC
    · exact hC w
    · exact (hL _ hC).resolve_left (by rw [he]; exact Bool.false_ne_true)
  induction fuel with
  | zero =>
    intro listed a w _ he hr hy hL H
    refine ⟨fun h => (by rw [h] at hr; cases hr), fun j hj => ?_⟩
    by_cases hji : j = i
    · subst hji; exact hy.wpOp hi (getC _ _ he hL) ⟨(SL_other hn).2 hL, H⟩
    · have := ready_mono hj hji
      rw [H.1] at this
      cases this
  | succ fuel ih =>
    intro listed a w hfree he hr hy hL H
    refine ⟨fun h => (by rw [h] at hr; cases hr), fun j hj => ?_⟩
    by_cases hji : j = i
    · subst hji; exact hy.wpOp hi (getC _ _ he hL) ⟨(SL_other hn).2 hL, H⟩
    · have h1 := H.2 j (ready_mono hj hji)
      obtain ⟨hjun, oj, hoj, hall⟩ := mem_ready.1 hj
      have hun := (mem_ready.1 hr).1
      have hnot : ∀ e ∈ oj.after, Region.binds .any e = true → e.on ≠ i := fun e he hb heq => by
        have h1 := hall e he hb
        have h0 := hun
        rw [heq] at h1
        rcases Nat.lt_or_ge i listed.size with h' | h'
        · simp [h'] at h0 h1; rw [h0] at h1; cases h1
        · simp [Array.getElem?_eq_none h'] at h1
      have h2 := wpOp_putIf hoj (hfree j oj hoj hji hjun hnot) (fun cs b => hsel i oi cs b hi) (fun cs b => hsel j oj cs b hoj) hQ hy h1
      have hfree' : ∀ k ok, ops[k]? = some ok → k ≠ i → (listed.setIfInBounds j true).getD k true = false →
          (∀ e ∈ ok.after, Region.binds .any e = true → e.on ≠ i) → oi.apart ops ok = true := fun k ok hk hki hun hno => by
        refine hfree k ok hk hki ?_ hno
        by_cases hjk : j = k
        · subst hjk; exact hjun
        · rw [getD_set_ne true hjk] at hun; exact hun
      have hw : waits ops j i = false := by
        simp only [waits, hoj]
        rw [Bool.eq_false_iff]
        intro h
        obtain ⟨k, hk, hb⟩ := Array.any_eq_true.1 h
        simp only [Bool.and_eq_true, beq_iff_eq] at hb
        exact hnot _ (Array.getElem_mem hk) hb.1 hb.2
      have hjl : ls.contains j = false := by
        rw [Bool.eq_false_iff]
        intro h
        have := hv j (by simpa using h)
        rw [hw] at this
        cases this
      refine wpOp_mono (fun a' w' h3 => ?_) h2
      obtain ⟨hy', hL', H'⟩ := h3
      rw [Array.setIfInBounds_comm _ _ (Ne.symm hji)] at hL' H'
      have hL2 := (SL_other hn).1 hL'
      exact ⟨hL2, ih (listed.setIfInBounds j true) a' w' hfree' (by rw [ended_other hjl]; exact he) (ready_mono hr (Ne.symm hji)) hy' hL2 H'⟩
/-- In a region that draws its order. -/
abbrev WA (P : Program) (w0 : World) (n : Nat) (Q : Post) (ops : Array Oper) (cs : Ahead) (D : List PP) (G : List HP) (e : Env) (fuel : Nat) (listed : Array Bool) : Prop :=
  WK w0 n (fun a w => SL cs listed w ∧ wpE P ops Q cs fuel listed a w) D G e
section
variable {P : Program} {w0 : World} {n : Nat} {Q : Post} {ops : Array Oper} {D : List PP} {G : List HP} {e : Env} {K : Act → World → Prop} {i d : Nat} {o : Oper} {cs : Ahead} {fuel : Nat} {listed : Array Bool}
theorem sl_nil : ∀ w, Holds w0 D G w → SL [] listed w := fun _ _ _ h => by cases h
theorem sl_cons {j : Nat} {ls : List Nat} {C : World → Prop} (h : ∀ w, Holds w0 D G w → C w) (k : ∀ w, Holds w0 D G w → SL cs listed w) : ∀ w, Holds w0 D G w → SL ((j, ls, C) :: cs) listed w := fun w hh c hc => by
  rcases List.mem_cons.1 hc with rfl | hc
  · exact .inr (h w hh)
  · exact k w hh _ hc
theorem sl_end {j : Nat} {ls : List Nat} {C : World → Prop} (h : ended ls listed = true) (k : ∀ w, Holds w0 D G w → SL cs listed w) : ∀ w, Holds w0 D G w → SL ((j, ls, C) :: cs) listed w := fun w hh c hc => by
  rcases List.mem_cons.1 hc with rfl | hc
  · exact .inl h
  · exact k w hh _ hc
theorem s_draw {id : Nat} (hm : P.follows .mixedOrders = true) (cs : Ahead) (h : WA P w0 n Q ops cs D G e ops.size (Array.replicate ops.size false)) : WS P w0 n Q D G e (.region id ops true) :=
  fun a w hf hh => wp_region_any hm (any_of_wpE _ _ _ _ (h a _ hf (hh.drew _)).2)
/-- An operation that leaves the world alone comes first, whenever it may: a load. -/
theorem a_ld {C : World → Prop} {v : Value} {ls : List Nat} (i m : Nat) (hC : nth cs m = some (i, ls, C)) (hi : nth ops.toList i = some o) (hev : Evals P e o v C) (hv : ls.all (fun k => waits ops k i) = true) (hn : cs.all (fun c => !c.2.1.contains i) = true) (he : ended ls listed = false)
    (hs : Region.noSelect ops = true) (hf : Region.free .any ops listed i = true) (hr : (Region.ready .any ops listed).contains i = true)
    (hQ : ∀ c a w, Q (.panic c) (a.put o.dst v) w → Q (.panic c) a w) (hg : Goes e ops o) (hd : o.dst = some d) (hn' : Nat.blt d n = true)
    (h : WA P w0 n Q ops cs D G ((d, v) :: e) fuel (listed.setIfInBounds i true)) : WA P w0 n Q ops cs D G e (fuel + 1) listed := by
  intro a w hfit hh
  have h1 := h _ w (hfit.put hn' v) hh
  have hL := (SL_other hn).1 h1.1
  refine ⟨hL, wpE_first (opAt hi) (Region.noSelect_spec hs) hQ (.inr (nth_mem hC)) (List.all_eq_true.1 hv) hn fuel listed a w (Region.free_spec (opAt hi) hf) he (by simpa using hr) (.inl ⟨hg.wanted hfit, fun w' hw' => hev _ hfit.ops w' hw'⟩) hL ?_⟩
  rw [hd]
  exact h1.2
theorem a_pu {v : Value} (i : Nat) (hi : nth ops.toList i = some o) (hev : Evals P e o v (fun _ => True)) (hn : cs.all (fun c => !c.2.1.contains i) = true)
    (hs : Region.noSelect ops = true) (hf : Region.free .any ops listed i = true) (hr : (Region.ready .any ops listed).contains i = true)
    (hQ : ∀ c a w, Q (.panic c) (a.put o.dst v) w → Q (.panic c) a w) (hg : Goes e ops o) (hd : o.dst = some d) (hn' : Nat.blt d n = true)
    (h : WA P w0 n Q ops cs D G ((d, v) :: e) fuel (listed.setIfInBounds i true)) : WA P w0 n Q ops cs D G e (fuel + 1) listed := by
  intro a w hfit hh
  have h1 := h _ w (hfit.put hn' v) hh
  have hL := (SL_other hn).1 h1.1
  refine ⟨hL, wpE_first (ls := []) (C := fun _ => True) (opAt hi) (Region.noSelect_spec hs) hQ (.inl fun _ => trivial) (by simp) hn fuel listed a w (Region.free_spec (opAt hi) hf) rfl (by simpa using hr) (.inl ⟨hg.wanted hfit, fun w' hw' => hev _ hfit.ops w' hw'⟩) hL ?_⟩
  rw [hd]
  exact h1.2
/-- One that is left out. -/
theorem a_not {j : Nat} {oj : Oper} {dj : Nat} {b c : Bool} (i : Nat) (hi : nth ops.toList i = some o) (hn : cs.all (fun c => !c.2.1.contains i) = true)
    (hs : Region.noSelect ops = true) (hf : Region.free .any ops listed i = true) (hr : (Region.ready .any ops listed).contains i = true)
    (hQ : ∀ c a w, Q (.panic c) (a.put o.dst undef) w → Q (.panic c) a w) (hg : o.guard = some (j, b)) (hj : nth ops.toList j = some oj) (hdj : oj.dst = some dj) (hb : get e dj = some (.bool c)) (hbc : c = !b) (hd : o.dst = some d) (hn' : Nat.blt d n = true)
    (h : WA P w0 n Q ops cs D G ((d, undef) :: e) fuel (listed.setIfInBounds i true)) : WA P w0 n Q ops cs D G e (fuel + 1) listed := by
  intro a w hfit hh
  have hne : (some c == some b) = false := by subst hbc; cases b <;> rfl
  have h1 := h _ w (hfit.put hn' undef) hh
  have hL := (SL_other hn).1 h1.1
  refine ⟨hL, wpE_first (ls := []) (C := fun _ => True) (opAt hi) (Region.noSelect_spec hs) hQ (.inl fun _ => trivial) (by simp) hn fuel listed a w (Region.free_spec (opAt hi) hf) rfl (by simpa using hr) (.inr ⟨by simp [Region.wanted, hg, yielded_of hfit hj hdj hb, hne], rfl⟩) hL ?_⟩
  rw [hd]
  exact h1.2
/-- Those that may come up. -/
def Every : List Nat → (Nat → Prop) → Prop
  | [], _ => True
  | i :: l, p => p i ∧ Every l p
theorem Every.at_ {p : Nat → Prop} : ∀ {l : List Nat}, Every l p → ∀ i ∈ l, p i
  | _ :: _, h, _, hi => by
    rcases List.mem_cons.1 hi with rfl | hi
    · exact h.1
    · exact Every.at_ h.2 _ hi
theorem acs (l : List Nat) (hne : l.isEmpty = false) (hr : Region.ready .any ops listed = l) (hS : ∀ w, Holds w0 D G w → SL cs listed w)
    (h : Every l fun i => WK w0 n (wpOp P ops Q i (fun a w => SL cs (listed.setIfInBounds i true) w ∧ wpE P ops Q cs fuel (listed.setIfInBounds i true) a w)) D G e) : WA P w0 n Q ops cs D G e (fuel + 1) listed := by
  intro a w hfit hh
  refine ⟨hS w hh, fun h0 => ?_, fun i hi => ?_⟩
  · rw [hr] at h0; subst h0; cases hne
  · rw [hr] at hi; exact Every.at_ h i hi a w hfit hh
/-- The one that may come up. -/
theorem ac (i : Nat) (hr : Region.ready .any ops listed = [i]) (hS : ∀ w, Holds w0 D G w → SL cs listed w)
    (h : WK w0 n (wpOp P ops Q i (fun a w => SL cs (listed.setIfInBounds i true) w ∧ wpE P ops Q cs fuel (listed.setIfInBounds i true) a w)) D G e) : WA P w0 n Q ops cs D G e (fuel + 1) listed :=
  acs [i] rfl hr hS ⟨h, trivial⟩
theorem a_done (hr : Region.ready .any ops listed = []) (hS : ∀ w, Holds w0 D G w → SL cs listed w) (h : WQ w0 n Q D G e .normal) : WA P w0 n Q ops cs D G e fuel listed :=
  fun a w hf hh => ⟨hS w hh, by
    cases fuel with
    | zero => exact ⟨hr, h a w hf hh⟩
    | succ f => exact ⟨fun _ => h a w hf hh, by rw [hr]; simp⟩⟩
/-- The goal itself, by a name. -/
theorem wa_loc (h : ∀ R : List PP → List HP → Env → Nat → Array Bool → Prop, (∀ {D G e f l}, WA P w0 n Q ops cs D G e f l → R D G e f l) → (∀ {D G e f l}, R D G e f l → WA P w0 n Q ops cs D G e f l) → R D G e fuel listed) : WA P w0 n Q ops cs D G e fuel listed :=
  h _ (fun h => h) (fun h => h)
theorem wa_l {l : Array Bool} (hl : l = listed) (h : WA P w0 n Q ops cs D G e fuel l) : WA P w0 n Q ops cs D G e fuel listed := hl ▸ h
/-- An element of a slice, found ahead of the region. -/
theorem k_elem {α : Type} {f : α → List Value} {A : Option Addr} {cap s : Nat} {xs : List α} {k : Int} (df : α) (di : Nat) (hD : nth D di = some (Sl f A cap xs)) (hf : ∀ x, (f x).length = s) (hs0 : Nat.blt 0 s = true) (hk : 0 ≤ k ∧ k < xs.length)
    (h : ∀ b p q, A = some ⟨b, p, none⟩ ∧ p + k.toNat * s = q → WK w0 n K (Ro b q (f (at' df xs k)) :: D) G e) : WK w0 n K D G e := by
  intro a w hfit hh
  obtain ⟨J, hp, g, dd, s'⟩ := id hh
  obtain ⟨_, _, h3⟩ := dd _ (nth_mem hD)
  have hs0' : 0 < s := by simpa [Nat.blt_eq] using hs0
  have hlen := flatMap_length hf xs
  have hne : xs.flatMap f ≠ [] := by
    intro h0
    rw [h0, List.length_nil] at hlen
    have h5 := Nat.mul_pos (show 0 < xs.length by omega) hs0'
    omega
  obtain ⟨b, p, hA, hcs⟩ := h3.resolve_left hne
  refine h b p _ ⟨hA, rfl⟩ a w hfit (hh.learn (Ro b (p + k.toNat * s) (f (at' df xs k))) fun J hJ => ?_)
  obtain ⟨_, _, h3⟩ := hJ _ (nth_mem hD)
  obtain ⟨b', p', hA', hcs⟩ := h3.resolve_left hne
  rw [hA] at hA'
  cases hA'
  intro j v hv
  rw [Nat.add_assoc]
  exact hcs _ _ (flatMap_get hf xs k.toNat _ (at'_get df xs hk.1 hk.2) j v hv)
theorem ev_idx_sl {C : World → Prop} {x y : Operand} {t el : TypeId} {A : Option Addr} {b p m cap s q : Nat} {k : Int} (ho : o.op = .indexAddr t x y) (hx : opv e x = some (.slice A m cap)) {ik : IntKind} (hy : opv e y = some (.int ik k)) (ht : ∀ w, (underlying t).run P w = .ok (.slice el) w) (hs : ∀ w, (sizeOf el).run P w = .ok s w) (hk : 0 ≤ k ∧ k < m) (hA : A = some ⟨b, p, none⟩ ∧ p + k.toNat * s = q) : Evals P e o (.pointer (some ⟨b, q, none⟩)) C := by
  obtain ⟨rfl, hq⟩ := hA
  exact ev_idx_slice ho hx hy ht hs hk hq
/-- A part of a slice, found ahead of the region. -/
theorem k_sub {α : Type} {f : α → List Value} {A : Option Addr} {cap s : Nat} {xs : List α} {a b : Int} (di : Nat) (hD : nth D di = some (Sl f A cap xs)) (hf : ∀ x, (f x).length = s) (hk : 0 ≤ a ∧ a ≤ b ∧ b ≤ xs.length)
    (h : ∀ A' cap', (A' = (if cap = a.toNat then A else A.map (·.add (a.toNat * s))) ∧ cap' = cap - a.toNat ∧ xs.length ≤ cap) → WK w0 n K (Sl f A' cap' (slc xs a b) :: D) G e) : WK w0 n K D G e := by
  intro ac w hfit hh
  have hcap := hh.sl hD
  have hlen := slc_length xs hk.1 hk.2.1 hk.2.2
  refine h _ _ ⟨rfl, rfl, hcap.1⟩ ac w hfit (hh.learn (Sl f _ (cap - a.toNat) (slc xs a b)) fun J hJ => ?_)
  obtain ⟨g1, g2, g3⟩ := hJ _ (nth_mem hD)
  refine ⟨by rw [hlen]; omega, by omega, ?_⟩
  by_cases hemp : (slc xs a b).flatMap f = []
  · exact .inl hemp
  · right
    have hsl : (slc xs a b) ≠ [] := fun h0 => hemp (by rw [h0]; rfl)
    have hpos : 0 < (slc xs a b).length := List.length_pos_iff.2 hsl
    have hne : xs.flatMap f ≠ [] := by
      intro h0
      apply hemp
      obtain ⟨v, hv⟩ : ∃ v, ((slc xs a b).flatMap f)[0]? = some v := ⟨_, List.getElem?_eq_getElem (List.length_pos_iff.2 hemp)⟩
      have := slc_flatMap hf xs a.toNat (b - a).toNat (by omega) 0 v hv
      rw [h0] at this
      simp at this
    obtain ⟨b', p', rfl, hcs⟩ := g3.resolve_left hne
    have hneq : cap ≠ a.toNat := by omega
    rw [if_neg hneq]
    refine ⟨b', p' + a.toNat * s, ?_, fun j v hv => ?_⟩
    · show some _ = some _
      congr 1
      unfold Addr.add
      split
      · rename_i h0; simp [h0]
      · rfl
    · rw [Nat.add_assoc]
      exact hcs _ _ (slc_flatMap hf xs a.toNat (b - a).toNat (by omega) j v hv)
theorem ev_slice_sl {ka kb : IntKind} {C : World → Prop} {α : Type} {A A' : Option Addr} {cap cap' s : Nat} {xs : List α} {x : Operand} {t el : TypeId} {lo hi' : Option Operand} {a b : Int} (ho : o.op = .slice t x lo hi' none) (hx : opv e x = some (.slice A xs.length cap))
    (ht : ∀ w, (underlying t).run P w = .ok (.slice el) w) (hs : ∀ w, (sizeOf el).run P w = .ok s w)
    (hlo : lo.map (opv e) = none ∧ a = 0 ∨ lo.map (opv e) = some (some (.int ka a))) (hhi : hi'.map (opv e) = none ∧ b = xs.length ∨ hi'.map (opv e) = some (some (.int kb b))) (hk : 0 ≤ a ∧ a ≤ b ∧ b ≤ xs.length)
    (hA : A' = (if cap = a.toNat then A else A.map (·.add (a.toNat * s))) ∧ cap' = cap - a.toNat ∧ xs.length ≤ cap) : Evals P e o (.slice A' (slc xs a b).length cap') C := by
  obtain ⟨rfl, rfl, hcap⟩ := hA
  intro ρ hρ w _
  rw [slc_length xs hk.1 hk.2.1 hk.2.2]
  have h1 : (0 ≤ b ∧ b ≤ (cap : Int)) := by omega
  have h2 : (0 ≤ a ∧ a ≤ (b.toNat : Int)) := by omega
  have h9 : ¬ (max b 0 < a) := by omega
  have h4 : b.toNat - a.toNat = (b - a).toNat := by omega
  rcases hlo with ⟨hlo, rfl⟩ | hlo <;> rcases hhi with ⟨hhi, rfl⟩ | hhi <;> cases lo <;> cases hi' <;> simp at hlo hhi
  · simp [execOp, ho, hρ _ _ hx, Instr.sliceAt, ht, Instr.slice, Instr.sliceBounds, hs]
  · simp at h4
    simp [execOp, ho, hρ _ _ hx, hρ _ _ hhi, Instr.sliceAt, ht, Instr.slice, vi, Instr.sliceBounds, Instr.sliceBound, asIntOf, h1, hs]
  · have h3 : (0 ≤ a ∧ a ≤ (xs.length : Int)) := by omega
    have h5 : xs.length - a.toNat = ((xs.length : Int) - a).toNat := by omega
    simp [execOp, ho, hρ _ _ hx, hρ _ _ hlo, Instr.sliceAt, ht, Instr.slice, vi, Instr.sliceBounds, Instr.sliceBound, asIntOf, h3, hs, h5]
  · simp [execOp, ho, hρ _ _ hx, hρ _ _ hlo, hρ _ _ hhi, Instr.sliceAt, ht, Instr.slice, vi, Instr.sliceBounds, Instr.sliceBound, asIntOf, h1, h2, h9, hk.1, hs, h4]
/-- A load in its place among the effects. -/
theorem k_ld {C : World → Prop} {v : Value} (hC : ∀ w, Holds w0 D G w → C w) (hi : nth ops.toList i = some o) (hev : Evals P e o v C) (hg : Goes e ops o) (hd : o.dst = some d) (hn : Nat.blt d n = true) (h : WK w0 n K D G ((d, v) :: e)) : WK w0 n (wpOp P ops Q i K) D G e :=
  k_gval hi hg hd hn fun a w hf hh => ⟨v, D, G, w, hev _ hf.ops w (hC w hh), hh, h⟩

/-! Structs and arrays made of their parts; == on them. -/
def placesOf (fs : Array Field) : Sem (Array (Nat × Nat)) := fs.mapM fun f => do pure (f.offset, ← sizeOf f.type)
theorem ev_build {C : World → Prop} {t : TypeId} {ps : Array (Nat × Operand)} {z : Value} {fs : Array Field} {places : Array (Nat × Nat)} {vs cs : List Value} (ho : o.op = .build t ps) (hx : opvs e (ps.toList.map (·.2)) = some vs) (hz : ∀ w, (zeroValue t).run P w = .ok z w)
    (hu : ∀ w, (underlying t).run P w = .ok (.struct fs) w) (hp : ∀ w, (placesOf fs).run P w = .ok places w) (hfill : Instr.fill (places[·]?) z.cells ((ps.toList.map (·.1)).zip vs) = some cs.toArray) : Evals P e o (.agg cs.toArray) C := by
  intro ρ hρ w _
  have hps : List.map (fun p => (p.1, ρ p.2)) ps.toList = (ps.toList.map (·.1)).zip vs := by
    rw [← hρ.list hx]
    generalize ps.toList = l
    induction l with
    | nil => rfl
    | cons p l ih => simp [ih]
  have hrun : (Instr.build t (ps.map fun p => (p.1, ρ p.2))).run P w = .ok (.agg cs.toArray) w := by
    unfold Instr.build
    have hp' := hp w
    unfold placesOf at hp'
    simp only [Sem.run_bind, hz, hu, Result.andThen] at hp' ⊢
    rw [hp']
    simp
    rw [hps, hfill]
    rfl
  simp [execOp, ho, hrun]
theorem ev_build_arr {C : World → Prop} {α : Type} {f : α → List Value} {m s : Nat} {t el : TypeId} {a : Arr α m} {ps : Array (Nat × Operand)} {z : Value} {vs : List Value} (ho : o.op = .build t ps) (hx : opvs e (ps.toList.map (·.2)) = some vs) (hz : ∀ w, (zeroValue t).run P w = .ok z w)
    (hu : ∀ w, (underlying t).run P w = .ok (.array m el) w) (hs : ∀ w, (sizeOf el).run P w = .ok s w) (hfill : Instr.fill (fun i => some (i * s, s)) z.cells ((ps.toList.map (·.1)).zip vs) = some (a.l.flatMap f).toArray) : Evals P e o (.agg (a.l.flatMap f).toArray) C := by
  intro ρ hρ w _
  have hps : List.map (fun p => (p.1, ρ p.2)) ps.toList = (ps.toList.map (·.1)).zip vs := by
    rw [← hρ.list hx]
    generalize ps.toList = l
    induction l with
    | nil => rfl
    | cons p l ih => simp [ih]
  have hrun : (Instr.build t (ps.map fun p => (p.1, ρ p.2))).run P w = .ok (.agg (a.l.flatMap f).toArray) w := by
    unfold Instr.build
    simp [hz, hu, hs]
    rw [hps, hfill]
    rfl
  simp [execOp, ho, hrun]
end
end Go.Proofs.YtpdoioeckiiegaaGreatDoor.Wl
