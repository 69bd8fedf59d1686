/- Objects that are held whole: packages of tokens and facts; what copies and appends read; parts of what is one's own; ways that hang on nil. -/
import Derived.Test.YtpdoioeckiiegaaGreatDoorWlY
set_option linter.unusedSimpArgs false
set_option linter.unusedVariables false
namespace Go.Proofs.YtpdoioeckiiegaaGreatDoor.Wl
open Go.RowKit
def optc {α β : Type} (o : Option α) (a : Option β) (f : α → Option β) : Option β := match o with
  | none => a
  | some x => f x
theorem optc_n {α β : Type} {o : Option α} {a : Option β} {f : α → Option β} {r : β} (h : optc o a f = some r) (ho : o = none) : a = some r := by subst ho; exact h
theorem optc_s {α β : Type} {o : Option α} {a : Option β} {f : α → Option β} {r : β} (h : optc o a f = some r) {x : α} (ho : o = some x) : f x = some r := by subst ho; exact h
/-- Tokens and facts, as one token. -/
def Pk (toks : List HP) (facts : List PP) : HP where
  p J h := (∀ p ∈ facts, p.p J) ∧ Sat toks J h
  mono _ _ _ hj h := ⟨fun p hp => p.mono _ _ hj (h.1 p hp), h.2.mono hj (Hp.le_refl _)⟩
section
variable {P : Program} {w0 : World} {n : Nat} {Q : Post} {ops : Array Oper} {D : List PP} {G : List HP} {e : Env} {K : Act → World → Prop} {i d : Nat} {o : Oper} {w : World} {toks : List HP} {facts : List PP}
theorem Holds.unp (h : Holds w0 D (Pk toks facts :: G) w) : Holds w0 (facts ++ D) (toks ++ G) w := by
  obtain ⟨J, k, g, d, h1, h2, dd, a, b, ⟨pf, ps⟩, s⟩ := h
  exact ⟨J, k, g, fun p hp => (List.mem_append.1 hp).elim (pf p) (d p), Sat.append dd a b ps s⟩
theorem Holds.pk (hf : ∀ p ∈ facts, p ∈ D) (h : Holds w0 D (toks ++ G) w) : Holds w0 D (Pk toks facts :: G) w := by
  obtain ⟨J, k, g, d, s⟩ := h
  obtain ⟨h1, h2, dd, a, b, s1, s2⟩ := Sat.split s
  exact ⟨J, k, g, d, h1, h2, dd, a, b, ⟨fun p hp => d p (hf p hp), s1⟩, s2⟩
theorem k_unp (i : Nat) (hG : nth G i = some (Pk toks facts)) (h : WK w0 n K (app facts D) (app toks (del G i)) e) : WK w0 n K D G e := by
  simp only [app_eq] at h
  exact fun a w hf hh => h a w hf (hh.perm (perm_nth hG)).unp
theorem k_pk {B : List HP} (T : HP) (hT : T = Pk toks facts) (ds gs : List Nat) (hD : allAt D ds = some facts) (hG : picks gs G = some (toks, B)) (h : WK w0 n K D (T :: B) e) : WK w0 n K D G e := by
  subst hT; exact fun a w hf hh => h a w hf ((hh.picked gs hG).pk (allAt_mem hD))
/-- What lies in a package. -/
theorem hGP (i : Nat) {b p : Nat} {cs : List Value} (hG : nth G i = some (Pk toks facts)) (k : Nat) (ht : nth toks k = some (At b p cs)) : ∀ w, Holds w0 D G w → Has b p cs w := by
  intro w hh
  have h1 := (hh.perm (perm_nth hG)).unp
  obtain ⟨J, m, g, d, s⟩ := h1
  obtain ⟨h1, h2, dd, a, b', s1, s2⟩ := Sat.split s
  have h3 : Holds w0 (facts ++ D) toks w := ⟨J, m, g, d, s1.mono (Im.le_refl _) a⟩
  exact (h3.at_ ht).1
/-- A token, told otherwise. -/
theorem k_tok (i : Nat) {A A' : HP} (hG : nth G i = some A) (hA : A = A') (h : WK w0 n K D (put G i A') e) : WK w0 n K D G e := by
  subst hA; rw [put_same hG] at h; exact h
/-- What a slice of elements reads as. -/
def HasSl {α : Type} (f : α → List Value) (A : Option Addr) (xs : List α) (w : World) : Prop := xs.flatMap f = [] ∨ ∃ b p, A = some ⟨b, p, none⟩ ∧ Has b p (xs.flatMap f) w
theorem hsD {α : Type} {f : α → List Value} {A : Option Addr} {cap : Nat} {xs : List α} (di : Nat) (hD : nth D di = some (Sl f A cap xs)) : ∀ w, Holds w0 D G w → HasSl f A xs w := by
  intro w hh
  obtain ⟨J, k, g, dd, _⟩ := hh
  exact (dd _ (nth_mem hD)).2.2.imp id fun ⟨b, p, hA, hcs⟩ => ⟨b, p, hA, fun j v hv => g.im _ _ _ (hcs j v hv)⟩
theorem hsG {α : Type} {f : α → List Value} {b p q j : Nat} {cs : List Value} (xs : List α) (gi : Nat) (hG : nth G gi = some (At b p cs)) (hs : SubAt cs j (xs.flatMap f)) (hq : p + j = q) : ∀ w, Holds w0 D G w → HasSl f (some ⟨b, q, none⟩) xs w :=
  fun w hh => .inr ⟨b, q, rfl, ((hh.at_ hG).1).sub hs hq⟩
/-- A copy into what is one's own, from what may be read. -/
theorem k_copy2 {α : Type} {f : α → List Value} {t tx el : TypeId} {x y : Operand} {b p q j m cap cap2 : Nat} {A2 : Option Addr} {cs cs' : List Value} {xs ys : List α} {ti : TypeInfo} (hi : nth ops.toList i = some o) (ho : o.op = .call ⟨.builtin .copy, #[x, y], #[t, tx]⟩)
    (hx : opv e x = some (.slice (some ⟨b, q, none⟩) m cap)) {ym : Nat} (hy : opv e y = some (.slice A2 ym cap2)) (ht : P.underlying t = some (.slice el)) (hti : P.info? el = some ti) (hts : ti.size = 1) (hf : ∀ x, (f x).length = 1) (h1 : ∀ x, ∀ u ∈ f x, u.oneCell' = true)
    (g : Nat) (hG : nth G g = some (At b p cs)) (hS : ∀ w, Holds w0 D G w → HasSl f A2 ys w) (hym : ys.length = ym) (hm : xs.length = m) (hsub : SubAt cs j (xs.flatMap f)) (hs : Spl cs j ((cpy xs ys).flatMap f) cs') (hq : p + j = q) (hg : Goes e ops o) (hd : o.dst = some d) (hn : Nat.blt d n = true)
    (h : WK w0 n K D (put G g (At b p cs')) ((d, vi (min ym m : Nat)) :: e)) : WK w0 n (wpOp P ops Q i K) D G e := by
  refine k_gval hi hg hd hn fun a w hfit hh => ?_
  subst hm hq hym
  have hl1 : ∀ l : List α, (l.flatMap f).length = l.length := fun l => by rw [flatMap_length hf]; omega
  have hcpy : (cpy xs ys).flatMap f = (ys.take xs.length).flatMap f ++ (xs.drop ys.length).flatMap f := by rw [cpy, List.flatMap_append]
  have hsplit : xs.flatMap f = (xs.take ys.length).flatMap f ++ (xs.drop ys.length).flatMap f := by rw [← List.flatMap_append, List.take_append_drop]
  rw [hcpy] at hs
  have hfit' := hs.fit
  have hsp := splice_part hsub hsplit (by rw [hl1, hl1, List.length_take, List.length_take]; omega) hs
  have hsc : ((ys.take xs.length).flatMap f).all sc = true := arr_sc h1 _
  obtain ⟨w', hr, hh'⟩ := stores_at (P := P) (w0 := w0) (D := D) (g := g) (b := b) (p := p) (j := j) ((ys.take xs.length).flatMap f) 0 cs G w hG (by rw [List.length_append] at hfit'; omega) hsc hh
  rw [Nat.add_zero, hsp] at hh'
  refine ⟨_, D, _, w', ?_, hh', h⟩
  have hsrc : (Builtin.firstCells 1 (Nat.min ys.length xs.length) (.slice A2 ys.length cap2)).run P w = .ok ((ys.take xs.length).flatMap f).toArray w := by
    have hn' : Nat.min ys.length xs.length = ((ys.take xs.length).flatMap f).length := by rw [hl1, List.length_take]; exact Nat.min_comm _ _
    rcases hS w hh with he | ⟨b2, p2, hA, hcs⟩
    · have hy0 : ys = [] := by
        have := hl1 ys
        rw [he] at this
        exact List.eq_nil_of_length_eq_zero this.symm
      subst hy0
      cases A2 with
      | none => simp [Builtin.firstCells]
      | some a2 => simpa [Builtin.firstCells] using run_loadCells_list (P := P) w a2 [] (by simp)
    · subst hA
      have := run_loadCells_list (P := P) w ⟨b2, p2, none⟩ ((ys.take xs.length).flatMap f) (fun i v hv => by
        have ha : (⟨b2, p2, none⟩ : Addr).add i = ⟨b2, p2 + i, none⟩ := by unfold Addr.add; split <;> simp_all
        rw [ha]
        refine hcs i v ?_
        have : ys.flatMap f = (ys.take xs.length).flatMap f ++ (ys.drop xs.length).flatMap f := by rw [← List.flatMap_append, List.take_append_drop]
        rw [this, List.getElem?_append_left (List.getElem?_eq_some_iff.1 hv).1]
        exact hv)
      rw [hn']
      simpa [Builtin.firstCells] using this
  have hgo : goInt (Nat.min ys.length xs.length) = vi (min ys.length xs.length : Nat) := rfl
  simp [execOp, ho, resolve, invoke, builtin, hfit.ops _ _ hx, hfit.ops _ _ hy, Builtin.copy_, run_underlying ht, Builtin.lenOf, sizeOf, typeInfo, hti, hts, hsrc, hr, hgo]
/-- What an append comes to, whatever may be read behind it. -/
theorem run_append2 {α : Type} {f : α → List Value} {A A2 : Option Addr} {cap cap2 s : Nat} {xs ys : List α} {t tx el ty : TypeId} {ti : TypeInfo} {z : Value} {w : World} {di : Nat}
    (hD : nth D di = some (Sl f A cap xs)) (hE : HasSl f A2 ys w) (hf : ∀ x, (f x).length = s) (hs0 : 0 < s) (h1 : ∀ x, ∀ u ∈ f x, u.oneCell' = true)
    (ht : P.underlying t = some (.slice el)) (htx : P.underlying tx = some (.slice el)) (hti : P.info? el = some ti) (hz : ti.zero = some z) (hzs : z.cells.size = s) (hts : ti.size = s) (hby : ti.bytes ≤ 2048)
    (hbig : xs.length + ys.length ≤ 68719476736) (hh : Holds w0 D (Spare A xs.length cap s :: G) w) :
    ∃ A' cap' w', (Builtin.append_ #[t, tx] ty #[.slice A xs.length cap, .slice A2 ys.length cap2]).run P w = .ok (.slice A' (xs ++ ys).length cap') w' ∧ Holds w0 (Sl f A' cap' (xs ++ ys) :: D) (Spare A' (xs ++ ys).length cap' s :: G) w' := by
  have hsl := hh.sl hD
  have hlx := flatMap_length hf xs
  have hly := flatMap_length hf ys
  obtain ⟨J, k, g, dd, k1, k2, dj12, l1, l2, pS, sG⟩ := id hh
  have hx3 := (dd _ (nth_mem hD)).2.2
  have hone : ∀ u ∈ ys.flatMap f, u.oneCell' = true := fun u hu => by
    obtain ⟨x, _, hx⟩ := List.mem_flatMap.1 hu
    exact h1 x u hx
  have hsrc : Src P ti.size tx (.slice A2 ys.length cap2) ys.length (ys.flatMap f) w := by
    rw [hts]
    cases hA2 : A2 with
    | some a =>
      refine Src.ofSlice w htx a ys.length cap2 _ hly (fun j u hu => ?_) hone
      rcases hE with h0 | ⟨b, p, hA, hcs⟩
      · rw [h0] at hu; simp at hu
      · rw [hA2] at hA; cases hA
        have hc := hcs j u hu
        have ha : (⟨b, p, none⟩ : Addr).add j = ⟨b, p + j, none⟩ := by unfold Addr.add; split <;> simp_all
        rw [ha]; exact hc
    | none =>
      rcases hE with h0 | ⟨b, p, hA, _⟩
      · have hys : ys.length = 0 := by
          rw [h0, List.length_nil] at hly
          rcases Nat.mul_eq_zero.1 hly.symm with h | h
          · exact h
          · omega
        rw [hys, h0]; exact Src.ofNil w htx cap2
      · rw [hA2] at hA; cases hA
  have happ : (xs ++ ys).length = xs.length + ys.length := List.length_append
  by_cases hroom : xs.length + ys.length ≤ cap
  · by_cases hy0 : ys.length = 0
    · have hys : ys = [] := List.length_eq_zero_iff.1 hy0
      subst hys
      refine ⟨A, cap, w, ?_, ?_⟩
      · have hcells := hsrc.cells
        have hlen := hsrc.len
        have hle : xs.length ≤ cap := hsl.1
        simp only [List.flatMap_nil, List.length_nil] at hcells hlen
        cases A with
        | none => simp [Builtin.append_, run_underlying ht, run_underlying htx, sizeOf, typeInfo, hti, hlen, hle, hcells]
        | some a => simp [Builtin.append_, run_underlying ht, run_underlying htx, sizeOf, typeInfo, hti, hlen, hle, hcells, storeCells]
      · rw [List.append_nil]
        exact hh.weakD (fun p hp => by rcases List.mem_cons.1 hp with rfl | hp; exact nth_mem hD; exact hp)
    · rcases pS with hfull | ⟨b, p, hA, cs, hcl, hcs⟩
      · omega
      · subst hA
        have hsz : ys.length * s ≤ cs.length := by rw [hcl]; exact Nat.mul_le_mul_right _ (by omega)
        have hcell : ∀ j, j < (ys.flatMap f).length → (w.cell? ⟨b, p + xs.length * ti.size + j, none⟩).isSome = true ∧ w.frozen? ⟨b, p + xs.length * ti.size + j, none⟩ = false := by
          intro j hj
          rw [hts]
          have hjl : j < cs.length := by omega
          have := g.cell _ _ _ (l1 _ _ _ (hcs j _ (List.getElem?_eq_getElem hjl)))
          exact ⟨by rw [this.1]; rfl, this.2⟩
        have hrun := run_append_room_src (P := P) w t tx ty el ti ht hti b p xs.length cap (.slice A2 ys.length cap2) ys.length (ys.flatMap f) hsrc hroom (fun j hj => (hcell j hj).1) (fun j hj => (hcell j hj).2)
        rw [hts] at hrun
        refine ⟨_, _, _, by rw [hrun, happ], ?_⟩
        have hat : Holds w0 D (At b (p + xs.length * s) cs :: G) w := ⟨J, k, g, dd, k1, k2, dj12, l1, l2, hcs, sG⟩
        rw [← List.take_append_drop (ys.length * s) cs] at hat
        have htl : (cs.take (ys.length * s)).length = ys.length * s := by rw [List.length_take]; omega
        have hsplit : Holds w0 D (At b (p + xs.length * s) (cs.take (ys.length * s)) :: Spare (some ⟨b, p, none⟩) (xs.length + ys.length) cap s :: G) w := by
          refine Holds.perm (Holds.imp (Holds.perm hat.at_split (List.Perm.swap _ _ _)) fun J h q => ?_) (List.Perm.swap _ _ _)
          right
          refine ⟨b, p, rfl, cs.drop (ys.length * s), ?_, fun j v hv => ?_⟩
          · rw [List.length_drop, hcl, ← Nat.sub_mul]; congr 1; omega
          · have := q j v hv
            rwa [htl, show p + xs.length * s + ys.length * s = p + (xs.length + ys.length) * s by rw [Nat.add_mul]; omega] at this
        have h2 := hsplit.setCells (ys.flatMap f) (p + xs.length * s) _ _ _ (by rw [List.length_take, hly]; omega)
        have h3 := h2.keep (i := 0) rfl
        rw [happ]
        refine (h3.learn (Sl f (some ⟨b, p, none⟩) cap (xs ++ ys)) fun J hJ => ?_).weakD (fun q hq => ?_)
        · refine ⟨by rw [happ]; exact hroom, hsl.2, .inr ⟨b, p, rfl, ?_⟩⟩
          rw [List.flatMap_append]
          refine Ro_app (b := b) (o := p) ?_ ?_
          · rcases (hJ _ (List.mem_cons_of_mem _ (nth_mem hD))).2.2 with h0 | ⟨b', p', hA, hcs'⟩
            · rw [h0]; intro j v hv; simp at hv
            · cases hA; exact hcs'
          · rw [hlx]; exact hJ _ List.mem_cons_self
        · rcases List.mem_cons.1 hq with rfl | hq
          · exact List.mem_cons_self
          · exact List.mem_cons_of_mem _ (List.mem_cons_of_mem _ hq)
  · have hold : (Builtin.firstCells ti.size xs.length (.slice A xs.length cap)).run P w.drew = .ok (xs.flatMap f).toArray w.drew := by
      rw [hts]
      cases hA : A with
      | some a =>
        refine run_firstCells_some w.drew s xs.length a xs.length cap _ hlx (fun j v hv => ?_)
        rcases hx3 with h0 | ⟨b, p, hA', hcs⟩
        · rw [h0] at hv; simp at hv
        · rw [hA] at hA'; cases hA'
          have hc := g.im _ _ _ (hcs j v hv)
          have ha : (⟨b, p, none⟩ : Addr).add j = ⟨b, p + j, none⟩ := by unfold Addr.add; split <;> simp_all
          rw [ha]; exact hc
      | none =>
        rcases hx3 with h0 | ⟨b, p, hA', _⟩
        · simp [Builtin.firstCells, h0]
        · rw [hA] at hA'; cases hA'
    have hmul : (xs.length + ys.length) * ti.bytes ≤ 140737488355328 := Nat.le_trans (Nat.mul_le_mul hbig hby) (by decide)
    have hrun := run_append_grow_src (P := P) w t tx ty el ti z ht hti hz A xs.length cap (xs.flatMap f) hold (.slice A2 ys.length cap2) ys.length (ys.flatMap f) hsrc (by omega) (by omega) (growslice_fits (by omega) hmul)
    have hge := grownCap_ge w (xs.length + ys.length) cap el
    have hmax := grownCap_le_maxLen w (xs.length + ys.length) cap el (by unfold maxLen; omega)
    generalize grownCap w (xs.length + ys.length) cap el = c at *
    refine ⟨_, _, _, by rw [hrun, happ], ?_⟩
    have hh1 : Holds w0 D G w.drew := (hh.drop).drew _
    have hzl : (Builtin.zeroCells z.cells (c - (xs.length + ys.length))).toList.length = (c - (xs.length + ys.length)) * s := by
      rw [Array.length_toList, size_zeroCells, hzs]
    have hh2 := hh1.alloc ((xs.flatMap f ++ ys.flatMap f) ++ (Builtin.zeroCells z.cells (c - (xs.length + ys.length))).toList) el
    have hcells : ((xs.flatMap f ++ ys.flatMap f) ++ (Builtin.zeroCells z.cells (c - (xs.length + ys.length))).toList).toArray = (xs.flatMap f ++ ys.flatMap f).toArray ++ Builtin.zeroCells z.cells (c - (xs.length + ys.length)) := by
      apply Array.ext'; simp
    rw [hcells] at hh2
    generalize Builtin.zeroCells z.cells (c - (xs.length + ys.length)) = zc at *
    have hwd : w.drew.heap.size = w.heap.size := rfl
    rw [hwd] at hh2
    have hxy : (xs.flatMap f ++ ys.flatMap f).length = (xs.length + ys.length) * s := by rw [List.length_append, hlx, hly, Nat.add_mul]
    have hsplit : Holds w0 D (At w.heap.size 0 ((xs ++ ys).flatMap f) :: Spare (some ⟨w.heap.size, 0, none⟩) (xs.length + ys.length) c s :: G) (w.drew.alloc (.cells ((xs.flatMap f ++ ys.flatMap f).toArray ++ zc) el)) := by
      rw [List.flatMap_append]
      refine Holds.perm (Holds.imp (Holds.perm hh2.at_split (List.Perm.swap _ _ _)) fun J h q => ?_) (List.Perm.swap _ _ _)
      right
      refine ⟨w.heap.size, 0, rfl, zc.toList, hzl, fun j v hv => ?_⟩
      have := q j v hv
      rwa [hxy] at this
    have h3 := hsplit.keep (i := 0) rfl
    rw [happ]
    refine (h3.learn (Sl f (some ⟨w.heap.size, 0, none⟩) c (xs ++ ys)) fun J hJ => ?_).weakD (fun q hq => ?_)
    · exact ⟨by rw [happ]; exact hge, by unfold maxLen at hmax; omega, .inr ⟨w.heap.size, 0, rfl, hJ _ List.mem_cons_self⟩⟩
    · rcases List.mem_cons.1 hq with rfl | hq
      · exact List.mem_cons_self
      · exact List.mem_cons_of_mem _ (List.mem_cons_of_mem _ hq)
theorem k_append2 {α : Type} {f : α → List Value} {A A2 : Option Addr} {cap cap2 s ym : Nat} {xs ys : List α} {x y : Operand} {t tx el : TypeId} {ti : TypeInfo} {z : Value} (di : Nat) (g : Nat)
    (hi : nth ops.toList i = some o) (ho : o.op = .call ⟨.builtin .append, #[x, y], #[t, tx]⟩) (hx : opv e x = some (.slice A xs.length cap)) (hy : opv e y = some (.slice A2 ym cap2))
    (hD : nth D di = some (Sl f A cap xs)) (hE : ∀ w, Holds w0 D G w → HasSl f A2 ys w) (hym : ys.length = ym) (hG : nth G g = some (Spare A xs.length cap s)) (hf : ∀ x, (f x).length = s) (hs0 : Nat.blt 0 s = true) (h1 : ∀ x, ∀ u ∈ f x, u.oneCell' = true)
    (ht : P.underlying t = some (.slice el)) (htx : P.underlying tx = some (.slice el)) (hti : P.info? el = some ti) (hz : ti.zero = some z) (hzs : z.cells.size = s) (hts : ti.size = s) (hby : Nat.ble ti.bytes 2048 = true)
    (hbig : xs.length + ys.length ≤ 68719476736) (hg : Goes e ops o) (hd : o.dst = some d) (hn : Nat.blt d n = true)
    (h : ∀ A' cap', WK w0 n K (Sl f A' cap' (xs ++ ys) :: D) (put G g (Spare A' (xs ++ ys).length cap' s)) ((d, .slice A' (xs ++ ys).length cap') :: e)) : WK w0 n (wpOp P ops Q i K) D G e := by
  refine k_gval hi hg hd hn fun a w hf' hh => ?_
  subst hym
  obtain ⟨A', cap', w', hr, hh'⟩ := run_append2 (cap2 := cap2) (ty := o.type) hD (hE w hh) hf (by simpa [Nat.blt_eq] using hs0) h1 ht htx hti hz hzs hts (Nat.le_of_ble_eq_true hby) hbig (hh.perm (perm_nth hG))
  exact ⟨_, _, _, w', by simp [execOp, ho, resolve, invoke, builtin, hf'.ops _ _ hx, hf'.ops _ _ hy, hr], hh'.perm (perm_put _ hG).symm, h A' cap'⟩
/-- A call of a function that a slot holds. -/
theorem k_callv {D1 : List PP} {G1 B : List HP} {post : Value → List PP → List HP → Prop} {k : Nat} {f : Operand} {xs : Array Operand} {ts : Array TypeId} {vs : List Value}
    (hc : Fn P k vs D1 G1 post) (hcall : ∀ (args : Array Value) (w : World), (callFunc k args).run P w = .ok (.enter k args) w)
    (hi : nth ops.toList i = some o) (ho : o.op = .call ⟨.value f, xs, ts⟩) (hfv : opv e f = some (.func (.func k) #[] #[])) (hx : opvs e xs.toList = some vs) (ds gs : List Nat) (hD : allAt D ds = some D1) (hG : picks gs G = some (G1, B)) (hg : Goes e ops o) (hd : o.dst = some d) (hn : Nat.blt d n = true)
    (h : ∀ v D' G', post v D' G' → WK w0 n K (app D' D) (app G' B) ((d, v) :: e)) : WK w0 n (wpOp P ops Q i K) D G e := by
  simp only [app_eq] at h
  intro a w hf hh
  have hargs : xs.map a.eval = vs.toArray := by
    rw [← hf.ops.list hx]
    apply Array.ext'
    rw [Array.toList_map]
  have hfv' := hf.ops _ _ hfv
  have hr : (execOp a.eval o).run P w = .ok (.enter k vs.toArray) w := by
    have hcall' := hcall vs.toArray w
    simp [execOp, ho, resolve, hargs, Deferred.ofValue, invoke, hfv', hcall']
  simp only [wpOp, opAt hi, hg.wanted hf, if_true]
  refine .inl ?_
  simp only [Oper.wp, hr, Oper.upon, hd]
  refine (hc w0 D B w (allAt_mem hD) (hh.picked gs hG)).mono ?_
  rintro x w' ⟨v, D', G', hp, rfl, hh'⟩
  exact h v D' G' hp _ _ (hf.put hn v) hh'
end
section
variable {P : Program} {e : Env} {o : Oper} {C : World → Prop}
/-- Part of a slice that lies at a known place. -/
theorem ev_slice_o {ka kb : IntKind} {b p q m cap s : Nat} {x : Operand} {t el : TypeId} {lo hi' : Option Operand} {a b' : Int} (ho : o.op = .slice t x lo hi' none) (hx : opv e x = some (.slice (some ⟨b, p, none⟩) m cap))
    (ht : ∀ w, (underlying t).run P w = .ok (.slice el) w) (hs : ∀ w, (sizeOf el).run P w = .ok s w)
    (hlo : lo.map (opv e) = none ∧ a = 0 ∨ lo.map (opv e) = some (some (.int ka a))) (hhi : hi'.map (opv e) = none ∧ b' = m ∨ hi'.map (opv e) = some (some (.int kb b'))) (hk : 0 ≤ a ∧ a ≤ b' ∧ b' ≤ m ∧ m ≤ cap ∧ (a = 0 ∨ a < cap)) (hq : p + a.toNat * s = q) :
    Evals P e o (.slice (some ⟨b, q, none⟩) (b' - a).toNat (cap - a.toNat)) C := by
  subst hq
  intro ρ hρ w _
  have h1 : (0 ≤ b' ∧ b' ≤ (cap : Int)) := by omega
  have h2 : (0 ≤ a ∧ a ≤ (b'.toNat : Int)) := by omega
  have h9 : ¬ (max b' 0 < a) := by omega
  have h4 : b'.toNat - a.toNat = (b' - a).toNat := by omega
  have hadd : (⟨b, p, none⟩ : Addr).add (a.toNat * s) = ⟨b, p + a.toNat * s, none⟩ := by
    unfold Addr.add
    split
    · rename_i h0; simp [h0]
    · rfl
  have hif : (if cap = a.toNat then (some ⟨b, p, none⟩ : Option Addr) else some ⟨b, p + a.toNat * s, none⟩) = some ⟨b, p + a.toNat * s, none⟩ := by
    split
    · rename_i hc
      have : a.toNat = 0 := by omega
      rw [this]; simp
    · rfl
  rcases hlo with ⟨hlo, rfl⟩ | hlo <;> rcases hhi with ⟨hhi, rfl⟩ | hhi <;> cases lo <;> cases hi' <;> simp at hlo hhi
  · simp at hadd
    simp [execOp, ho, hρ _ _ hx, Instr.sliceAt, ht, Instr.slice, Instr.sliceBounds, hs, hadd]
  · simp at h4 hadd
    simp [execOp, ho, hρ _ _ hx, hρ _ _ hhi, Instr.sliceAt, ht, Instr.slice, vi, Instr.sliceBounds, Instr.sliceBound, asIntOf, h1, hs, hadd]
  · have h3 : (0 ≤ a ∧ a ≤ (m : Int)) := by omega
    have h5 : m - a.toNat = ((m : Int) - a).toNat := by omega
    simp [execOp, ho, hρ _ _ hx, hρ _ _ hlo, Instr.sliceAt, ht, Instr.slice, vi, Instr.sliceBounds, Instr.sliceBound, asIntOf, h3, hs, h5, hadd, hif]
  · simp [execOp, ho, hρ _ _ hx, hρ _ _ hlo, hρ _ _ hhi, Instr.sliceAt, ht, Instr.slice, vi, Instr.sliceBounds, Instr.sliceBound, asIntOf, h1, h2, h9, hk.1, hs, h4, hadd, hif]
/-- Part of an array that lies in a variable. -/
theorem ev_slice_a {ka kb : IntKind} {b p q n s : Nat} {x : Operand} {t el : TypeId} {lo hi' : Option Operand} {a b' : Int} (ho : o.op = .slice t x lo hi' none) (hx : opv e x = some (.pointer (some ⟨b, p, none⟩)))
    (ht : ∀ w, (underlying t).run P w = .ok (.array n el) w) (hs : ∀ w, (sizeOf el).run P w = .ok s w)
    (hlo : lo.map (opv e) = none ∧ a = 0 ∨ lo.map (opv e) = some (some (.int ka a))) (hhi : hi'.map (opv e) = none ∧ b' = n ∨ hi'.map (opv e) = some (some (.int kb b'))) (hk : 0 ≤ a ∧ a ≤ b' ∧ b' ≤ n ∧ (a = 0 ∨ a < n)) (hq : p + a.toNat * s = q) :
    Evals P e o (.slice (some ⟨b, q, none⟩) (b' - a).toNat (n - a.toNat)) C := by
  subst hq
  intro ρ hρ w _
  have h1 : (0 ≤ b' ∧ b' ≤ (n : Int)) := by omega
  have h2 : (0 ≤ a ∧ a ≤ (b'.toNat : Int)) := by omega
  have h9 : ¬ (max b' 0 < a) := by omega
  have h4 : b'.toNat - a.toNat = (b' - a).toNat := by omega
  have hadd : (⟨b, p, none⟩ : Addr).add (a.toNat * s) = ⟨b, p + a.toNat * s, none⟩ := by
    unfold Addr.add
    split
    · rename_i h0; simp [h0]
    · rfl
  have hif : (if n = a.toNat then (⟨b, p, none⟩ : Addr) else ⟨b, p + a.toNat * s, none⟩) = ⟨b, p + a.toNat * s, none⟩ := by
    split
    · rename_i hc
      have : a.toNat = 0 := by omega
      rw [this]; simp
    · rfl
  rcases hlo with ⟨hlo, rfl⟩ | hlo <;> rcases hhi with ⟨hhi, rfl⟩ | hhi <;> cases lo <;> cases hi' <;> simp at hlo hhi
  · simp at hadd
    simp [execOp, ho, hρ _ _ hx, Instr.sliceAt, Instr.sureAddr, ht, Instr.sliceBounds, hs, hadd]
  · simp at h4 hadd
    simp [execOp, ho, hρ _ _ hx, hρ _ _ hhi, Instr.sliceAt, Instr.sureAddr, ht, vi, Instr.sliceBounds, Instr.sliceBound, asIntOf, h1, hs, hadd]
  · have h3 : (0 ≤ a ∧ a ≤ (n : Int)) := by omega
    have h5 : n - a.toNat = ((n : Int) - a).toNat := by omega
    simp [execOp, ho, hρ _ _ hx, hρ _ _ hlo, Instr.sliceAt, Instr.sureAddr, ht, vi, Instr.sliceBounds, Instr.sliceBound, asIntOf, h3, hs, h5, hadd, hif]
  · simp [execOp, ho, hρ _ _ hx, hρ _ _ hlo, hρ _ _ hhi, Instr.sliceAt, Instr.sureAddr, ht, vi, Instr.sliceBounds, Instr.sliceBound, asIntOf, h1, h2, h9, hk.1, hs, h4, hadd, hif]
theorem ev_iface {xt : TypeId} {x : Operand} {v : Value} (ho : o.op = .makeInterface xt x) (hx : opv e x = some v) (ht : ∀ w, ∃ td, (underlying xt).run P w = .ok td w ∧ ∀ m, td ≠ .interface m) : Evals P e o (.iface xt v) C := by
  intro ρ hρ w _
  obtain ⟨td, h1, h2⟩ := ht w
  cases td <;> simp_all [execOp, hρ _ _ hx, Instr.makeInterface, h1]
theorem ev_assert_ok {xt at_ el : TypeId} {x : Operand} {v : Value} (ho : o.op = .typeAssert x xt at_ true) (hx : opv e x = some (.iface at_ v)) (ht : ∀ w, (underlying at_).run P w = .ok (.pointer el) w) : Evals P e o (.tuple #[v, vb true]) C := by
  intro ρ hρ w _
  simp [execOp, ho, hρ _ _ hx, Instr.typeAssert, ht, vb]
end
theorem ev_build2 {P : Program} {e : Env} {o : Oper} {C : World → Prop} {t : TypeId} {ps : Array (Nat × Operand)} {z : Value} {fs : Array Field} {places : Array (Nat × Nat)} {vs cs zcs : List Value} (ho : o.op = .build t ps) (hx : opvs e (ps.toList.map (·.2)) = some vs) (hz : ∀ w, (zeroValue t).run P w = .ok z w)
    (hu : ∀ w, (underlying t).run P w = .ok (.struct fs) w) (hp : ∀ w, (placesOf fs).run P w = .ok places w) (hzc : z.cells = zcs.toArray) (hfill : Instr.fill (places[·]?) zcs.toArray ((ps.toList.map (·.1)).zip vs) = some cs.toArray) : Evals P e o (.agg cs.toArray) C :=
  ev_build ho hx hz hu hp (by rw [hzc]; exact hfill)
theorem add_c {P : Program} {t : TypeId} (x y z : Int) (h : wrap64 (x + y) = z) : Bin P .add t (vi x) (vi y) (vi z) := h ▸ add_i x y
theorem sub_c {P : Program} {t : TypeId} (x y z : Int) (h : wrap64 (x - y) = z) : Bin P .sub t (vi x) (vi y) (vi z) := h ▸ sub_i x y
theorem o_jb2 {P : Program} {w0 : World} {n : Nat} {Q : Post} {ops : Array Oper} {D : List PP} {G : List HP} {e : Env} {l : List Nat} {ρ : Type} {R : Bool → Option ρ} {F : (Bool → Option ρ) → Option ρ} {r : ρ} {D1 : List PP} {G1 : List HP} (t : Nat) (l' ts : List Nat) {e1 : Env} (H : jn R F = some r) (hk : keepEnv e ts = some e1)
    (hJ : ∀ b, R b = some r → WO P w0 n Q ops D1 G1 ((t, vb b) :: e1) l')
    (hF : ∀ R : Bool → Option ρ, (∀ b, R b = some r → WO P w0 n Q ops D1 G1 ((t, vb b) :: e1) l') → F R = some r → WO P w0 n Q ops D G e l) : WO P w0 n Q ops D G e l := hF R hJ H
/-- A slice of no elements, with room. -/
theorem k_make0 {P : Program} {w0 : World} {n : Nat} {Q : Post} {ops : Array Oper} {D : List PP} {G : List HP} {e : Env} {K : Act → World → Prop} {i d : Nat} {o : Oper} {α : Type} {f : α → List Value} {t el : TypeId} {x y : Operand} {ti : TypeInfo} {z : Value} {m : Int} (hi : nth ops.toList i = some o) (ho : o.op = .makeSlice t x y) (hx : opv e x = some (vi 0)) (hy : opv e y = some (vi m))
    (ht : P.underlying t = some (.slice el)) (hti : P.info? el = some ti) (hz : ti.zero = some z) (hzc : z.cells = #[z]) (hts : ti.size = 1) (hby : Nat.ble ti.bytes 2048 = true) (hm : 0 ≤ m ∧ m ≤ 68719476736) (hg : Goes e ops o) (hd : o.dst = some d) (hn : Nat.blt d n = true)
    (h : ∀ b, WK w0 n K (Sl f (some ⟨b, 0, none⟩) m.toNat [] :: D) (Spare (some ⟨b, 0, none⟩) 0 m.toNat 1 :: G) ((d, .slice (some ⟨b, 0, none⟩) 0 m.toNat) :: e)) : WK w0 n (wpOp P ops Q i K) D G e := by
  refine k_gval hi hg hd hn fun a w hf hh => ?_
  have hby' : ti.bytes ≤ 2048 := Nat.le_of_ble_eq_true hby
  have hr := run_make (P := P) w t el ti z ht hti hz .i64 .i64 0 m (Int.le_refl _) hm.1 (by
    have h1 : (ti.bytes : Int) * m ≤ 2048 * m := Int.mul_le_mul_of_nonneg_right (by omega) hm.1
    omega) (by omega)
  have hcells : madeCells z.cells (m.toNat * ti.size) = (List.replicate m.toNat z).toArray := by
    rw [hts, Nat.mul_one, hzc]
    apply Array.ext'
    rw [made_list]
  rw [hcells] at hr
  have h1 := (hh.alloc (List.replicate m.toNat z) el).imp (B := Spare (some ⟨w.heap.size, 0, none⟩) 0 m.toNat 1) fun J h p => .inr ⟨w.heap.size, 0, rfl, List.replicate m.toNat z, by simp, fun j v hv => by
    have := p j v hv
    simpa using this⟩
  have h2 := h1.learn (Sl f (some ⟨w.heap.size, 0, none⟩) m.toNat []) fun J _ => ⟨Nat.zero_le _, by omega, .inl rfl⟩
  exact ⟨_, _, _, _, by simp [execOp, ho, hf.ops _ _ hx, hf.ops _ _ hy, vi]; rw [hr]; exact rfl, h2, h w.heap.size⟩
/-- What is written over the part of a list between two places. -/
def wr {α : Type} (xs : List α) (a b : Int) (ys : List α) : List α := xs.take a.toNat ++ (cpy (slc xs a b) ys ++ xs.drop b.toNat)
theorem sub_slc {α : Type} {f : α → List Value} {s : Nat} (hf : ∀ x, (f x).length = s) {xs : List α} {a b : Int} (hk : 0 ≤ a ∧ a ≤ b ∧ b ≤ xs.length) {q : Nat} (hq : a.toNat * s = q) : SubAt (xs.flatMap f) q ((slc xs a b).flatMap f) := by
  subst hq
  intro j v hv
  exact slc_flatMap hf xs a.toNat (b - a).toNat (by omega) j v hv
theorem sub_take {cs s : List Value} {j : Nat} (h : (cs.drop j).take s.length = s) : SubAt cs j s := by
  intro i v hv
  have hi : i < s.length := (List.getElem?_eq_some_iff.1 hv).1
  rw [← h, List.getElem?_take_of_lt hi, List.getElem?_drop] at hv
  exact hv
theorem wr_len {α : Type} (xs : List α) (a b : Int) (ys : List α) (hk : 0 ≤ a ∧ a ≤ b ∧ b ≤ xs.length) : (wr xs a b ys).length = xs.length := by
  simp [wr, cpy_len, slc]
  omega
theorem spl_slc {α : Type} {f : α → List Value} {s : Nat} (hf : ∀ x, (f x).length = s) {xs : List α} {a b : Int} (ys : List α) (hk : 0 ≤ a ∧ a ≤ b ∧ b ≤ xs.length) {q : Nat} (hq : a.toNat * s = q) : Spl (xs.flatMap f) q ((cpy (slc xs a b) ys).flatMap f) ((wr xs a b ys).flatMap f) := by
  subst hq
  have h1 : xs = xs.take a.toNat ++ (slc xs a b ++ xs.drop b.toNat) := by
    have : xs.drop b.toNat = (xs.drop a.toNat).drop (b - a).toNat := by rw [List.drop_drop]; congr 1; omega
    rw [this, slc, List.take_append_drop, List.take_append_drop]
  have hta : ((xs.take a.toNat).flatMap f).length = a.toNat * s := by rw [flatMap_length hf, List.length_take, Nat.min_eq_left (by omega)]
  have key : ∀ zs : List α, zs.length = (slc xs a b).length → Spl ((xs.take a.toNat ++ (slc xs a b ++ xs.drop b.toNat)).flatMap f) (a.toNat * s) (zs.flatMap f) ((xs.take a.toNat ++ (zs ++ xs.drop b.toNat)).flatMap f) := by
    intro zs hz
    simp only [List.flatMap_append]
    exact spl_skip (spl_head (spl_all (by rw [flatMap_length hf, flatMap_length hf, hz]))) hta (by omega)
  have := key (cpy (slc xs a b) ys) (cpy_len _ _)
  rw [← h1] at this
  exact this
def Arr.wr {α : Type} {n : Nat} (x : Arr α n) (a b : Int) (ys : List α) : Arr α n := if h : 0 ≤ a ∧ a ≤ b ∧ b ≤ n then ⟨Wl.wr x.l a b ys, by rw [wr_len _ _ _ _ (by rw [x.len]; exact h), x.len]⟩ else x
theorem arr_rng {α : Type} {n : Nat} (x : Arr α n) {a b : Int} (h : 0 ≤ a ∧ a ≤ b ∧ b ≤ n) : 0 ≤ a ∧ a ≤ b ∧ b ≤ x.l.length := by rw [x.len]; exact h
theorem arr_slc_len {α : Type} {n : Nat} (x : Arr α n) {a b : Int} (h : 0 ≤ a ∧ a ≤ b ∧ b ≤ n) : (slc x.l a b).length = (b - a).toNat := slc_length _ h.1 h.2.1 (arr_rng x h).2.2
theorem spl_awr {α : Type} {f : α → List Value} {s n : Nat} (hf : ∀ x, (f x).length = s) (x : Arr α n) {a b : Int} (ys : List α) (hk : 0 ≤ a ∧ a ≤ b ∧ b ≤ n) {q : Nat} (hq : a.toNat * s = q) : Spl (x.l.flatMap f) q ((cpy (slc x.l a b) ys).flatMap f) ((x.wr a b ys).l.flatMap f) := by
  have : (x.wr a b ys).l = Wl.wr x.l a b ys := by unfold Arr.wr; rw [dif_pos hk]
  rw [this]
  exact spl_slc hf ys (arr_rng x hk) hq
end Go.Proofs.YtpdoioeckiiegaaGreatDoor.Wl
