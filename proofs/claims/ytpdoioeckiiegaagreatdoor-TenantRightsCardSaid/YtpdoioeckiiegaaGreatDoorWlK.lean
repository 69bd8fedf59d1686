/- Rows of operations that leave the world alone, taken at one go. -/
import Derived.Test.YtpdoioeckiiegaaGreatDoorWlN
set_option linter.unusedSimpArgs false
set_option linter.unusedVariables false
namespace Go.Proofs.YtpdoioeckiiegaaGreatDoor.Wl
open Go.RowKit
/-- Where fields lie: struct, field, place. -/
def look : List (Nat × Nat × Nat) → Nat → Nat → Option Nat
  | [], _, _ => none
  | (a, b, c) :: l, s, k => bif Nat.beq a s && Nat.beq b k then some c else look l s k
def FOk (P : Program) (x : Nat × Nat × Nat) : Prop := ∃ fs f m, (∀ w, (underlying x.1).run P w = .ok (.struct fs) w) ∧ nth fs.toList x.2.1 = some f ∧ (∀ w, (sizeOf f.type).run P w = .ok m w) ∧ Nat.blt 0 m = true ∧ f.offset = x.2.2
theorem fo {P : Program} {s k off m : Nat} {fs : Array Field} {f : Field} (h1 : ∀ w, (underlying s).run P w = .ok (.struct fs) w) (h2 : nth fs.toList k = some f) (h3 : ∀ w, (sizeOf f.type).run P w = .ok m w) (h4 : Nat.blt 0 m = true) (h5 : f.offset = off) : FOk P (s, k, off) := ⟨fs, f, m, h1, h2, h3, h4, h5⟩
def FT (P : Program) (L : List (Nat × Nat × Nat)) : Prop := ∀ x ∈ L, FOk P x
theorem ft_nil {P : Program} : FT P [] := fun x h => by cases h
theorem ft_cons {P : Program} {x : Nat × Nat × Nat} {L : List (Nat × Nat × Nat)} (h : FOk P x) (k : FT P L) : FT P (x :: L) := fun y hy => by
  rcases List.mem_cons.1 hy with rfl | hy
  · exact h
  · exact k y hy
theorem FT.look {P : Program} {L : List (Nat × Nat × Nat)} (F : FT P L) {s k off : Nat} (h : Wl.look L s k = some off) : FOk P (s, k, off) := by
  induction L with
  | nil => cases h
  | cons x L ih =>
    obtain ⟨a, b, c⟩ := x
    simp only [Wl.look] at h
    cases hb : Nat.beq a s && Nat.beq b k with
    | true =>
      rw [hb, cond_true] at h
      cases h
      simp only [Bool.and_eq_true] at hb
      rw [← Nat.eq_of_beq_eq_true hb.1, ← Nat.eq_of_beq_eq_true hb.2]
      exact F _ List.mem_cons_self
    | false =>
      rw [hb, cond_false] at h
      exact ih (fun y hy => F y (List.mem_cons_of_mem _ hy)) h
def bini (op : BinOp) (a b : Int) : Option Value := match op with
  | .add => some (vi (wrap64 (a + b)))
  | .sub => some (vi (wrap64 (a - b)))
  | .mul => some (vi (wrap64 (a * b)))
  | .eql => some (vb (a == b))
  | .neq => some (vb (a != b))
  | .lss => some (vb (decide (a < b)))
  | .leq => some (vb (decide (a ≤ b)))
  | .gtr => some (vb (decide (a > b)))
  | .geq => some (vb (decide (a ≥ b)))
  | _ => none
def stp (L : List (Nat × Nat × Nat)) (e : Env) : Op → Option Value
  | .move x => opv e x
  | .assign x => opv e x
  | .nilCheck x => match opv e x with
    | some (.pointer (some a)) => some (.pointer (some a))
    | _ => none
  | .extract x k => match opv e x with
    | some (.tuple vs) => nth vs.toList k
    | _ => none
  | .pick c x y => match opv e c with
    | some (.bool true) => opv e x
    | some (.bool false) => opv e y
    | _ => none
  | .fieldAddr s x k => match opv e x with
    | some (.pointer (some ⟨b, p, none⟩)) => match look L s k with
      | some off => some (.pointer (some ⟨b, p + off, none⟩))
      | none => none
    | _ => none
  | .unOp .not _ x => match opv e x with
    | some (.bool b) => some (vb (!b))
    | _ => none
  | .binOp op _ x y _ => match opv e x with
    | some (.int .i64 a) => match opv e y with
      | some (.int .i64 b) => bini op a b
      | _ => none
    | _ => none
  | _ => none
theorem bini_ok {P : Program} {t : TypeId} {op : BinOp} {a b : Int} {v : Value} (h : bini op a b = some v) : Bin P op t (vi a) (vi b) v := by
  cases op <;> simp only [bini] at h <;> first | (cases h; done) | skip
  all_goals (obtain rfl := (Option.some.inj h).symm)
  · exact add_i a b
  · exact sub_i a b
  · exact mul_i a b
  · exact eql_i a b
  · exact neq_i a b
  · exact lss_i a b
  · exact leq_i a b
  · exact gtr_i a b
  · exact geq_i a b
theorem stp_ok {P : Program} {L : List (Nat × Nat × Nat)} (F : FT P L) {e : Env} {o : Oper} {v : Value} {C : World → Prop} (h : stp L e o.op = some v) : Evals P e o v C := by
  generalize hop : o.op = op at h
  cases op <;> simp only [stp] at h <;> try (cases h; done)
  case move x => exact ev_move hop h
  case assign x => exact ev_assign hop h
  case pick c x y =>
    split at h
    · rename_i hc; exact ev_pick_t hop hc h
    · rename_i hc; exact ev_pick_f hop hc h
    · cases h
  case nilCheck x =>
    split at h
    · rename_i a hx; cases h; exact ev_nilCheck hop hx
    · cases h
  case binOp op t x y t2 =>
    split at h
    · rename_i a hx
      split at h
      · rename_i b hy; exact ev_bin hop hx hy rfl (bini_ok h)
      · cases h
    · cases h
  case unOp u t x =>
    cases u <;> simp only [] at h <;> try (cases h; done)
    split at h
    · rename_i b hx; cases h; exact ev_not hop hx
    · cases h
  case fieldAddr s x k =>
    split at h
    · rename_i b p hx
      split at h
      · rename_i off hl
        cases h
        obtain ⟨fs, f, m, h1, h2, h3, h4, h5⟩ := F.look hl
        subst h5
        exact ev_fieldAddr hop hx h1 h2 h3 h4 rfl
      · cases h
    · cases h
  case extract x k =>
    split at h
    · rename_i vs hx
      exact ev_extract (vs := vs.toList) hop (by rw [hx]) h
    · cases h
/-- Is an operation carried out? -/
def gst (ops : Array Oper) (e : Env) : Option (Nat × Bool) → Option Bool
  | none => some true
  | some (j, b) => match nth ops.toList j with
    | none => none
    | some oj => match oj.dst with
      | none => none
      | some dj => match get e dj with
        | some (.bool true) => some b
        | some (.bool false) => some (!b)
        | _ => none
theorem gst_true {ops : Array Oper} {e : Env} {o : Oper} (h : gst ops e o.guard = some true) : Goes e ops o := by
  cases hg : o.guard with
  | none => exact .inl hg
  | some jb =>
    obtain ⟨j, b⟩ := jb
    rw [hg] at h
    simp only [gst] at h
    split at h
    · cases h
    · rename_i oj hj
      split at h
      · cases h
      · rename_i dj hd
        split at h
        · rename_i hb; cases b <;> simp at h; exact .inr ⟨j, true, oj, dj, hg, hj, hd, hb⟩
        · rename_i hb; cases b <;> simp at h; exact .inr ⟨j, false, oj, dj, hg, hj, hd, hb⟩
        · cases h
theorem gst_false {ops : Array Oper} {e : Env} {o : Oper} (h : gst ops e o.guard = some false) : ∃ j b c oj dj, o.guard = some (j, b) ∧ nth ops.toList j = some oj ∧ oj.dst = some dj ∧ get e dj = some (.bool c) ∧ c = !b := by
  cases hg : o.guard with
  | none => rw [hg] at h; cases h
  | some jb =>
    obtain ⟨j, b⟩ := jb
    rw [hg] at h
    simp only [gst] at h
    split at h
    · cases h
    · rename_i oj hj
      split at h
      · cases h
      · rename_i dj hd
        split at h
        · rename_i hb; cases b <;> simp at h; exact ⟨j, false, true, oj, dj, rfl, hj, hd, hb, rfl⟩
        · rename_i hb; cases b <;> simp at h; exact ⟨j, true, false, oj, dj, rfl, hj, hd, hb, rfl⟩
        · cases h
def run1 (L : List (Nat × Nat × Nat)) (ops : Array Oper) (n : Nat) (e : Env) (i : Nat) : Option Env := match nth ops.toList i with
  | none => none
  | some o => match o.dst with
    | none => none
    | some d => bif Nat.blt d n then (match gst ops e o.guard with
        | some true => match stp L e o.op with
          | some v => some ((d, v) :: e)
          | none => none
        | some false => some ((d, undef) :: e)
        | none => none) else none
def runO (L : List (Nat × Nat × Nat)) (ops : Array Oper) (n : Nat) : Env → List Nat → Option Env
  | e, [] => some e
  | e, i :: l => match run1 L ops n e i with
    | some e' => runO L ops n e' l
    | none => none
/-- What one step of a run comes to. -/
theorem run1_cases {L : List (Nat × Nat × Nat)} {ops : Array Oper} {n i : Nat} {e e' : Env} (h : run1 L ops n e i = some e') : ∃ o d, nth ops.toList i = some o ∧ o.dst = some d ∧ Nat.blt d n = true ∧
    ((Goes e ops o ∧ ∃ v, stp L e o.op = some v ∧ e' = (d, v) :: e) ∨ (gst ops e o.guard = some false ∧ e' = (d, undef) :: e)) := by
  unfold run1 at h
  split at h
  · cases h
  · rename_i o ho
    split at h
    · cases h
    · rename_i d hd
      cases hn : Nat.blt d n with
      | false => rw [hn] at h; cases h
      | true =>
        rw [hn, cond_true] at h
        split at h
        · rename_i hg
          split at h
          · rename_i v hv; cases h; exact ⟨o, d, ho, hd, hn, .inl ⟨gst_true hg, v, hv, rfl⟩⟩
          · cases h
        · rename_i hg; cases h; exact ⟨o, d, ho, hd, hn, .inr ⟨hg, rfl⟩⟩
        · cases h
section
variable {P : Program} {w0 : World} {n : Nat} {Q : Post} {ops : Array Oper} {D : List PP} {G : List HP} {cs : Ahead}
theorem o_run {L : List (Nat × Nat × Nat)} (F : FT P L) {e e' : Env} {l is : List Nat} (k : List Nat) (hl : app k l = is) (h0 : runO L ops n e k = some e') (h : WO P w0 n Q ops D G e' l) : WO P w0 n Q ops D G e is := by
  subst hl
  induction k generalizing e with
  | nil => cases h0; exact h
  | cons i k ih =>
    simp only [runO] at h0
    split at h0
    · rename_i e1 h1
      have h2 := ih h0
      obtain ⟨o, d, ho, hd, hn, hc⟩ := run1_cases h1
      rcases hc with ⟨hg, v, hv, rfl⟩ | ⟨hg, rfl⟩
      · exact o_pu ho (stp_ok F hv) hg hd hn h2
      · obtain ⟨j, b, c, oj, dj, q1, q2, q3, q4, q5⟩ := gst_false hg
        exact o_gnot ho q1 q2 q3 q4 q5 hd hn h2
    · cases h0
/-- Those that a region draws: may they come first, one behind the other? -/
def okA (ops : Array Oper) (lss : List (List Nat)) : List Nat → Array Bool → Bool
  | [], _ => true
  | i :: k, listed => lss.all (fun c => !c.contains i) && Region.free .any ops listed i && (Region.ready .any ops listed).contains i && okA ops lss k (listed.setIfInBounds i true)
def marks (listed : Array Bool) : List Nat → Array Bool
  | [] => listed
  | i :: k => marks (listed.setIfInBounds i true) k
theorem a_run {L : List (Nat × Nat × Nat)} (F : FT P L) {fuel fuel' : Nat} {listed : Array Bool} {e e' : Env} (k : List Nat) (hfl : fuel' + k.length = fuel) (hQ : ∀ c a w (d : Nat) v, Q (.panic c) (a.put (some d) v) w → Q (.panic c) a w) (hc : (Region.noSelect ops && okA ops (cs.map fun c => c.2.1) k listed) = true) (h0 : runO L ops n e k = some e')
    (h : WA P w0 n Q ops cs D G e' fuel' (marks listed k)) : WA P w0 n Q ops cs D G e fuel listed := by
  subst hfl
  induction k generalizing e listed with
  | nil => cases h0; exact h
  | cons i k ih =>
    simp only [runO] at h0
    split at h0
    · rename_i e1 h1
      simp only [okA, Bool.and_eq_true] at hc
      obtain ⟨hs, ⟨⟨c1, c2⟩, c3⟩, c4⟩ := hc
      have hn' : cs.all (fun c => !c.2.1.contains i) = true := by
        rw [List.all_map] at c1
        exact c1
      have h2 : WA P w0 n Q ops cs D G e1 (fuel' + k.length) (listed.setIfInBounds i true) := ih (by simp only [Bool.and_eq_true]; exact ⟨hs, c4⟩) h0 h
      obtain ⟨o, d, ho, hd, hn, hcs⟩ := run1_cases h1
      rcases hcs with ⟨hg, v, hv, rfl⟩ | ⟨hg, rfl⟩
      · exact a_pu i ho (stp_ok F hv) hn' hs c2 c3 (fun c a w h => hQ c a w d _ (by rw [hd] at h; exact h)) hg hd hn h2
      · obtain ⟨j, b, c, oj, dj, q1, q2, q3, q4, q5⟩ := gst_false hg
        exact a_not i ho hn' hs c2 c3 (fun c a w h => hQ c a w d _ (by rw [hd] at h; exact h)) q1 q2 q3 q4 q5 hd hn h2
    · cases h0
variable {e : Env} {i d : Nat} {o : Oper} {fuel : Nat} {listed : Array Bool}
/-- One pure operation, or a load, ahead: what is asked of the order, at one go. -/
theorem a_p1 {v : Value} (i : Nat) (hc : (Region.noSelect ops && okA ops (cs.map fun c => c.2.1) [i] listed) = true) (hi : nth ops.toList i = some o) (hev : Evals P e o v (fun _ => True))
    (hQ : ∀ c a w, Q (.panic c) (a.put o.dst v) w → Q (.panic c) a w) (hg : Goes e ops o) (hd : o.dst = some d) (hn' : Nat.blt d n = true)
    (h : WA P w0 n Q ops cs D G ((d, v) :: e) fuel (listed.setIfInBounds i true)) : WA P w0 n Q ops cs D G e (fuel + 1) listed := by
  simp only [okA, Bool.and_eq_true, Bool.and_true] at hc
  obtain ⟨hs, ⟨c1, c2⟩, c3⟩ := hc
  have c1' : cs.all (fun c => !c.2.1.contains i) = true := by
    rw [List.all_map] at c1
    exact c1
  exact a_pu i hi hev c1' hs c2 c3 hQ hg hd hn' h
theorem a_l1 {C : World → Prop} {v : Value} {ls : List Nat} (i m : Nat) (hC : nth cs m = some (i, ls, C)) (hc : (Region.noSelect ops && (okA ops (cs.map fun c => c.2.1) [i] listed && (ls.all (fun k => waits ops k i) && !ended ls listed))) = true) (hi : nth ops.toList i = some o) (hev : Evals P e o v C)
    (hQ : ∀ c a w, Q (.panic c) (a.put o.dst v) w → Q (.panic c) a w) (hg : Goes e ops o) (hd : o.dst = some d) (hn' : Nat.blt d n = true)
    (h : WA P w0 n Q ops cs D G ((d, v) :: e) fuel (listed.setIfInBounds i true)) : WA P w0 n Q ops cs D G e (fuel + 1) listed := by
  simp only [okA, Bool.and_eq_true, Bool.and_true, Bool.not_eq_true'] at hc
  obtain ⟨hs, ⟨⟨c1, c2⟩, c3⟩, c4, c5⟩ := hc
  have c1' : cs.all (fun c => !c.2.1.contains i) = true := by
    rw [List.all_map] at c1
    exact c1
  exact a_ld i m hC hi hev c4 c1' c5 hs c2 c3 hQ hg hd hn' h
end
end Go.Proofs.YtpdoioeckiiegaaGreatDoor.Wl
