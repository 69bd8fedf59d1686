/- Slices that grow: append, slices made of parts. -/
import Derived.Test.YtpdoioeckiiegaaGreatDoorWlF
import Derived.Deep.AppendSrc
import Derived.Laws.IdiomCopy
set_option linter.unusedSimpArgs false
set_option linter.unusedVariables false
namespace Go.Proofs.YtpdoioeckiiegaaGreatDoor.Wl
open Go.RowKit

/-- The room behind the n elements of a slice, of s cells an element, owned. -/
def Spare (A : Option Addr) (n cap s : Nat) : HP where
  p _ h := n = cap ∨ ∃ b o, A = some ⟨b, o, none⟩ ∧ ∃ cs : List Value, cs.length = (cap - n) * s ∧ ∀ j v, cs[j]? = some v → h b (o + n * s + j) = some (.cell v)
  mono _ _ _ _ p := p

theorem At.le {b o : Nat} {cs : List Value} {J : Im} {h k : Hp} (p : (At b o cs).p J h) (l : h.le k) : (At b o cs).p J k := fun j v e => l _ _ _ (p j v e)

theorem Holds.imp {w0 : World} {D : List PP} {A B : HP} {G : List HP} {w : World} (h : Holds w0 D (A :: G) w) (k : ∀ J h, A.p J h → B.p J h) : Holds w0 D (B :: G) w :=
  let ⟨J, x, g, d, h1, h2, dd, a, b, p, s⟩ := h; ⟨J, x, g, d, h1, h2, dd, a, b, k _ _ p, s⟩
/-- A token that two tokens follow from. -/
theorem Holds.two {w0 : World} {D : List PP} {A B C : HP} {G : List HP} {w : World} (h : Holds w0 D (A :: G) w) (S : Nat → Nat → Prop) [∀ x y, Decidable (S x y)]
    (k1 : ∀ J h, A.p J h → B.p J (fun x y => if S x y then h x y else none)) (k2 : ∀ J h, A.p J h → C.p J (fun x y => if S x y then none else h x y)) : Holds w0 D (B :: C :: G) w := by
  obtain ⟨J, x, g, d, h1, h2, dd, a, b, p, s⟩ := h
  have l1 : Hp.le (fun x y => if S x y then h1 x y else none) h1 := fun x y z e => by by_cases q : S x y <;> simp [q] at e; exact e
  have l2 : Hp.le (fun x y => if S x y then none else h1 x y) h1 := fun x y z e => by by_cases q : S x y <;> simp [q] at e; exact e
  have d12 : Hp.disj (fun x y => if S x y then h1 x y else none) (fun x y => if S x y then none else h1 x y) := fun x y => by by_cases q : S x y <;> simp [q]
  have dc : Hp.disj (fun x y => if S x y then none else h1 x y) h2 := dd.mono l2 (Hp.le_refl _)
  exact ⟨J, x, g, d, _, Hp.union _ h2, (Hp.disj.union d12.symm (dd.mono l1 (Hp.le_refl _)).symm).symm, Hp.le_trans l1 a, Hp.union_le (Hp.le_trans l2 a) b, k1 _ _ p, _, h2, dc, Hp.union_left _ _, Hp.union_right dc, k2 _ _ p, s⟩
theorem Holds.at_split {w0 : World} {D : List PP} {G : List HP} {w : World} {b o : Nat} {xs ys : List Value} (h : Holds w0 D (At b o (xs ++ ys) :: G) w) : Holds w0 D (At b o xs :: At b (o + xs.length) ys :: G) w := by
  refine h.two (fun _ y => y < o + xs.length) (fun J h p j v hv => ?_) (fun J h p j v hv => ?_)
  · have hj := (List.getElem?_eq_some_iff.1 hv).1
    simp only [show o + j < o + xs.length by omega, if_true]
    exact p j v (by rw [List.getElem?_append_left hj]; exact hv)
  · simp only [show ¬ o + xs.length + j < o + xs.length by omega, if_false]
    have := p (xs.length + j) v (by rw [List.getElem?_append_right (by omega), show xs.length + j - xs.length = j by omega]; exact hv)
    rwa [← Nat.add_assoc] at this
theorem Holds.at_join {w0 : World} {D : List PP} {G : List HP} {w : World} {b o q : Nat} {xs ys : List Value} (h : Holds w0 D (At b o xs :: At b q ys :: G) w) (hq : o + xs.length = q) : Holds w0 D (At b o (xs ++ ys) :: G) w := by
  obtain ⟨J, k, g, d, k1, k2, dd, l1, l2, p, k3, k4, dd', l3, l4, p', s⟩ := h
  refine ⟨J, k, g, d, k1.union k3, k4, Hp.disj.union (dd.mono (Hp.le_refl _) l4) dd', Hp.union_le l1 (Hp.le_trans l3 l2), Hp.le_trans l4 l2, fun j u hu => ?_, s⟩
  by_cases hj : j < xs.length
  · rw [List.getElem?_append_left hj] at hu
    exact Hp.union_left _ _ _ _ _ (p j u hu)
  · rw [List.getElem?_append_right (by omega)] at hu
    have := p' _ u hu
    rw [show q + (j - xs.length) = o + j by omega] at this
    exact Hp.union_right (dd.mono (Hp.le_refl _) l3) _ _ _ this

theorem Holds.setCells {w0 : World} {D : List PP} {b : Nat} : ∀ (vs : List Value) (o : Nat) (cs : List Value) (G : List HP) (w : World), vs.length = cs.length → Holds w0 D (At b o cs :: G) w → Holds w0 D (At b o vs :: G) (w.setCells b o vs) := by
  intro vs
  induction vs with
  | nil =>
    intro o cs G w hl h
    have : cs = [] := by cases cs; rfl; simp at hl
    subst this
    exact h
  | cons v vs ih =>
    intro o cs G w hl h
    cases cs with
    | nil => simp at hl
    | cons c cs =>
      simp at hl
      have h1 := h.set1 (i := 0) rfl (j := 0) (by simp) v
      simp only [put, List.set_cons_zero, Nat.add_zero] at h1
      have h2 : Holds w0 D (At b o [v] :: At b (o + 1) cs :: G) _ := Holds.at_split (xs := [v]) h1
      have h3 := ih (o + 1) cs _ _ hl (h2.perm (List.Perm.swap _ _ _))
      exact Holds.at_join (xs := [v]) (h3.perm (List.Perm.swap _ _ _)) rfl

section
variable {P : Program} {w0 : World} {n : Nat} {Q : Post} {ops : Array Oper} {D : List PP} {G : List HP} {e : Env} {i d : Nat} {o : Oper} {l : List Nat}
theorem Ro_app {J : Im} {b o : Nat} {xs ys : List Value} (h : (Ro b o xs).p J) (k : (Ro b (o + xs.length) ys).p J) : (Ro b o (xs ++ ys)).p J := by
  intro j v hv
  by_cases hj : j < xs.length
  · rw [List.getElem?_append_left hj] at hv; exact h j v hv
  · rw [List.getElem?_append_right (by omega)] at hv
    have := k _ v hv
    rwa [show o + xs.length + (j - xs.length) = o + j by omega] at this
/-- What an append comes to. -/
theorem run_append {α : Type} {f : α → List Value} {A A2 : Option Addr} {cap cap2 s : Nat} {xs ys : List α} {t tx el ty : TypeId} {ti : TypeInfo} {z : Value} {w : World} {di dj : Nat}
    (hD : nth D di = some (Sl f A cap xs)) (hE : nth D dj = some (Sl f A2 cap2 ys)) (hf : ∀ x, (f x).length = s) (h1 : ∀ x, ∀ u ∈ f x, u.oneCell' = true)
    (ht : P.underlying t = some (.slice el)) (htx : P.underlying tx = some (.slice el)) (hti : P.info? el = some ti) (hz : ti.zero = some z) (hzs : z.cells.size = s) (hts : ti.size = s) (hby : ti.bytes ≤ 2048)
    (hbig : xs.length + ys.length ≤ 68719476736) (hh : Holds w0 D (Spare A xs.length cap s :: G) w) :
    ∃ A' cap' w', (Builtin.append_ #[t, tx] ty #[.slice A xs.length cap, .slice A2 ys.length cap2]).run P w = .ok (.slice A' (xs ++ ys).length cap') w' ∧ Holds w0 (Sl f A' cap' (xs ++ ys) :: D) (Spare A' (xs ++ ys).length cap' s :: G) w' := by
  have hsl := hh.sl hD
  have hsl2 := hh.sl hE
  have hlx := flatMap_length hf xs
  have hly := flatMap_length hf ys
  obtain ⟨J, k, g, dd, k1, k2, dj12, l1, l2, pS, sG⟩ := id hh
  have hx3 := (dd _ (nth_mem hD)).2.2
  have hy3 := (dd _ (nth_mem hE)).2.2
  have hone : ∀ u ∈ ys.flatMap f, u.oneCell' = true := fun u hu => by
    obtain ⟨x, _, hx⟩ := List.mem_flatMap.1 hu
    exact h1 x u hx
  have hsrc : Src P ti.size tx (.slice A2 ys.length cap2) ys.length (ys.flatMap f) w := by
    rw [hts]
    cases hA2 : A2 with
    | some a =>
      refine Src.ofSlice w htx a ys.length cap2 _ hly (fun j u hu => ?_) hone
      rcases hy3 with h0 | ⟨b, p, hA, hcs⟩
      · rw [h0] at hu; simp at hu
      · rw [hA2] at hA; cases hA
        have hc := g.im _ _ _ (hcs j u hu)
        have ha : (⟨b, p, none⟩ : Addr).add j = ⟨b, p + j, none⟩ := by unfold Addr.add; split <;> simp_all
        rw [ha]; exact hc
    | none =>
      rcases hy3 with h0 | ⟨b, p, hA, _⟩
      · by_cases hys : ys.length = 0
        · rw [hys, h0]; exact Src.ofNil w htx cap2
        · have hs0 : s = 0 := by
            rw [h0, List.length_nil] at hly
            rcases Nat.mul_eq_zero.1 hly.symm with h | h
            · exact absurd h hys
            · exact h
          refine ⟨.inl ⟨el, htx⟩, fun _ => rfl, ?_, ?_, hly, hone⟩ <;> simp [Builtin.firstCells, h0]
      · rw [hA2] at hA; cases hA
  have happ : (xs ++ ys).length = xs.length + ys.length := List.length_append
  by_cases hroom : xs.length + ys.length ≤ cap
  · -- room
    by_cases hy0 : ys.length = 0
    · -- nothing to append
      have hys : ys = [] := List.length_eq_zero_iff.1 hy0
      subst hys
      refine ⟨A, cap, w, ?_, ?_⟩
      · have hcells := hsrc.cells
        have hlen := hsrc.len
        have hle : xs.length ≤ cap := hsl.1
        simp only [List.flatMap_nil, List.length_nil] at hcells hlen
        cases A with
        | none => simp [Builtin.append_, run_underlying ht, run_underlying htx, sizeOf, typeInfo, hti, hlen, hle, hcells]
        | some a => simp [Builtin.append_, run_underlying ht, run_underlying htx, sizeOf, typeInfo, hti, hlen, hle, hcells, storeCells]
      · rw [List.append_nil]
        exact hh.weakD (fun p hp => by rcases List.mem_cons.1 hp with rfl | hp; exact nth_mem hD; exact hp)
    · rcases pS with hfull | ⟨b, p, hA, cs, hcl, hcs⟩
      · omega
      · subst hA
        have hsz : ys.length * s ≤ cs.length := by rw [hcl]; exact Nat.mul_le_mul_right _ (by omega)
        have hcell : ∀ j, j < (ys.flatMap f).length → (w.cell? ⟨b, p + xs.length * ti.size + j, none⟩).isSome = true ∧ w.frozen? ⟨b, p + xs.length * ti.size + j, none⟩ = false := by
          intro j hj
          rw [hts]
          have hjl : j < cs.length := by omega
          have := g.cell _ _ _ (l1 _ _ _ (hcs j _ (List.getElem?_eq_getElem hjl)))
          exact ⟨by rw [this.1]; rfl, this.2⟩
        have hrun := run_append_room_src (P := P) w t tx ty el ti ht hti b p xs.length cap (.slice A2 ys.length cap2) ys.length (ys.flatMap f) hsrc hroom (fun j hj => (hcell j hj).1) (fun j hj => (hcell j hj).2)
        rw [hts] at hrun
        refine ⟨_, _, _, by rw [hrun, happ], ?_⟩
        -- the spare, in two
        have hat : Holds w0 D (At b (p + xs.length * s) cs :: G) w := ⟨J, k, g, dd, k1, k2, dj12, l1, l2, hcs, sG⟩
        rw [← List.take_append_drop (ys.length * s) cs] at hat
        have htl : (cs.take (ys.length * s)).length = ys.length * s := by rw [List.length_take]; omega
        have hsplit : Holds w0 D (At b (p + xs.length * s) (cs.take (ys.length * s)) :: Spare (some ⟨b, p, none⟩) (xs.length + ys.length) cap s :: G) w := by
          refine Holds.perm (Holds.imp (Holds.perm hat.at_split (List.Perm.swap _ _ _)) fun J h q => ?_) (List.Perm.swap _ _ _)
          right
          refine ⟨b, p, rfl, cs.drop (ys.length * s), ?_, fun j v hv => ?_⟩
          · rw [List.length_drop, hcl, ← Nat.sub_mul]; congr 1; omega
          · have := q j v hv
            rwa [htl, show p + xs.length * s + ys.length * s = p + (xs.length + ys.length) * s by rw [Nat.add_mul]; omega] at this
        have h2 := hsplit.setCells (ys.flatMap f) (p + xs.length * s) _ _ _ (by rw [List.length_take, hly]; omega)
        have h3 := h2.keep (i := 0) rfl
        rw [happ]
        refine (h3.learn (Sl f (some ⟨b, p, none⟩) cap (xs ++ ys)) fun J hJ => ?_).weakD (fun q hq => ?_)
        · refine ⟨by rw [happ]; exact hroom, hsl.2, .inr ⟨b, p, rfl, ?_⟩⟩
          rw [List.flatMap_append]
          refine Ro_app (b := b) (o := p) ?_ ?_
          · rcases (hJ _ (List.mem_cons_of_mem _ (nth_mem hD))).2.2 with h0 | ⟨b', p', hA, hcs'⟩
            · rw [h0]; intro j v hv; simp at hv
            · cases hA; exact hcs'
          · rw [hlx]; exact hJ _ List.mem_cons_self
        · rcases List.mem_cons.1 hq with rfl | hq
          · exact List.mem_cons_self
          · exact List.mem_cons_of_mem _ (List.mem_cons_of_mem _ hq)
  · -- a new row
    have hold : (Builtin.firstCells ti.size xs.length (.slice A xs.length cap)).run P w.drew = .ok (xs.flatMap f).toArray w.drew := by
      rw [hts]
      cases hA : A with
      | some a =>
        refine run_firstCells_some w.drew s xs.length a xs.length cap _ hlx (fun j v hv => ?_)
        rcases hx3 with h0 | ⟨b, p, hA', hcs⟩
        · rw [h0] at hv; simp at hv
        · rw [hA] at hA'; cases hA'
          have hc := g.im _ _ _ (hcs j v hv)
          have ha : (⟨b, p, none⟩ : Addr).add j = ⟨b, p + j, none⟩ := by unfold Addr.add; split <;> simp_all
          rw [ha]; exact hc
      | none =>
        rcases hx3 with h0 | ⟨b, p, hA', _⟩
        · simp [Builtin.firstCells, h0]
        · rw [hA] at hA'; cases hA'
    have hmul : (xs.length + ys.length) * ti.bytes ≤ 140737488355328 := Nat.le_trans (Nat.mul_le_mul hbig hby) (by decide)
    have hrun := run_append_grow_src (P := P) w t tx ty el ti z ht hti hz A xs.length cap (xs.flatMap f) hold (.slice A2 ys.length cap2) ys.length (ys.flatMap f) hsrc (by omega) (by omega) (growslice_fits (by omega) hmul)
    have hge := grownCap_ge w (xs.length + ys.length) cap el
    have hmax := grownCap_le_maxLen w (xs.length + ys.length) cap el (by unfold maxLen; omega)
    generalize grownCap w (xs.length + ys.length) cap el = c at *
    refine ⟨_, _, _, by rw [hrun, happ], ?_⟩
    have hh1 : Holds w0 D G w.drew := (hh.drop).drew _
    have hzl : (Builtin.zeroCells z.cells (c - (xs.length + ys.length))).toList.length = (c - (xs.length + ys.length)) * s := by
      rw [Array.length_toList, size_zeroCells, hzs]
    have hh2 := hh1.alloc ((xs.flatMap f ++ ys.flatMap f) ++ (Builtin.zeroCells z.cells (c - (xs.length + ys.length))).toList) el
    have hcells : ((xs.flatMap f ++ ys.flatMap f) ++ (Builtin.zeroCells z.cells (c - (xs.length + ys.length))).toList).toArray = (xs.flatMap f ++ ys.flatMap f).toArray ++ Builtin.zeroCells z.cells (c - (xs.length + ys.length)) := by
      apply Array.ext'; simp
    rw [hcells] at hh2
    generalize Builtin.zeroCells z.cells (c - (xs.length + ys.length)) = zc at *
    have hwd : w.drew.heap.size = w.heap.size := rfl
    rw [hwd] at hh2
    -- the new row, in two
    have hxy : (xs.flatMap f ++ ys.flatMap f).length = (xs.length + ys.length) * s := by rw [List.length_append, hlx, hly, Nat.add_mul]
    have hsplit : Holds w0 D (At w.heap.size 0 ((xs ++ ys).flatMap f) :: Spare (some ⟨w.heap.size, 0, none⟩) (xs.length + ys.length) c s :: G) (w.drew.alloc (.cells ((xs.flatMap f ++ ys.flatMap f).toArray ++ zc) el)) := by
      rw [List.flatMap_append]
      refine Holds.perm (Holds.imp (Holds.perm hh2.at_split (List.Perm.swap _ _ _)) fun J h q => ?_) (List.Perm.swap _ _ _)
      right
      refine ⟨w.heap.size, 0, rfl, zc.toList, hzl, fun j v hv => ?_⟩
      have := q j v hv
      rwa [hxy] at this
    have h3 := hsplit.keep (i := 0) rfl
    rw [happ]
    refine (h3.learn (Sl f (some ⟨w.heap.size, 0, none⟩) c (xs ++ ys)) fun J hJ => ?_).weakD (fun q hq => ?_)
    · exact ⟨by rw [happ]; exact hge, by unfold maxLen at hmax; omega, .inr ⟨w.heap.size, 0, rfl, hJ _ List.mem_cons_self⟩⟩
    · rcases List.mem_cons.1 hq with rfl | hq
      · exact List.mem_cons_self
      · exact List.mem_cons_of_mem _ (List.mem_cons_of_mem _ hq)
end
end Go.Proofs.YtpdoioeckiiegaaGreatDoor.Wl
