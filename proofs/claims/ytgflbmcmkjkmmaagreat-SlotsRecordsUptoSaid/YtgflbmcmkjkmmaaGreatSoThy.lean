/- Stable sorting, in plain lists: what keeps an order among equals, what is sorted, and that both together say all. -/
namespace Go.So
section
variable {α : Type} (lt : α → α → Bool)
/-- A strict order of which 'neither is ahead' is an equality of ranks. -/
structure Ord : Prop where
  irr : ∀ a, lt a a = false
  tr : ∀ a b c, lt a b = true → lt b c = true → lt a c = true
  neg : ∀ a b c, lt a b = false → lt b c = false → lt a c = false
def eqv (a b : α) : Bool := !lt a b && !lt b a
/-- The same values, equals in the same order. -/
def Same (x y : List α) : Prop := ∀ z, x.filter (eqv lt z) = y.filter (eqv lt z)
def Srt (x : List α) : Prop := x.Pairwise fun a b => lt b a = false
end
variable {α : Type} {lt : α → α → Bool}
theorem Same.refl (x : List α) : Same lt x x := fun _ => rfl
theorem Same.symm {x y : List α} (h : Same lt x y) : Same lt y x := fun z => (h z).symm
theorem Same.trans {x y z : List α} (h : Same lt x y) (k : Same lt y z) : Same lt x z := fun w => (h w).trans (k w)
theorem Same.app {x y u v : List α} (h : Same lt x y) (k : Same lt u v) : Same lt (x ++ u) (y ++ v) := fun w => by rw [List.filter_append, List.filter_append, h w, k w]
theorem Ord.asym (ho : Ord lt) {a b : α} (h : lt a b = true) : lt b a = false := by
  cases hb : lt b a with
  | false => rfl
  | true => have := ho.tr a b a h hb; rw [ho.irr] at this; cases this
theorem eqv_self (ho : Ord lt) (a : α) : eqv lt a a = true := by simp [eqv, ho.irr]
theorem eqv_iff {a b : α} : eqv lt a b = true ↔ lt a b = false ∧ lt b a = false := by simp [eqv]
/-- What is strictly ahead of all of a block may go ahead of it. -/
theorem Same.swap (ho : Ord lt) {A B : List α} (h : ∀ a ∈ A, ∀ b ∈ B, lt b a = true) : Same lt (A ++ B) (B ++ A) := by
  intro z
  rw [List.filter_append, List.filter_append]
  cases hA : A.filter (eqv lt z) with
  | nil => simp
  | cons a t =>
    have ha : a ∈ A.filter (eqv lt z) := by rw [hA]; simp
    obtain ⟨ha1, ha2⟩ := List.mem_filter.1 ha
    have hB : B.filter (eqv lt z) = [] := by
      rw [List.filter_eq_nil_iff]
      intro b hb hz
      have h1 := eqv_iff.1 ha2
      have h2 := eqv_iff.1 hz
      have h3 := ho.neg b z a h2.2 h1.1
      rw [h a ha1 b hb] at h3
      cases h3
    rw [hB]; simp
theorem Same.length_le {x y : List α} (ho : Ord lt) (h : Same lt x y) : ∀ a ∈ x, a ∈ y := by
  intro a ha
  have : a ∈ x.filter (eqv lt a) := List.mem_filter.2 ⟨ha, eqv_self ho a⟩
  rw [h a] at this
  exact (List.mem_filter.1 this).1
theorem Same.mem {x y : List α} (ho : Ord lt) (h : Same lt x y) (a : α) : a ∈ x ↔ a ∈ y := ⟨h.length_le ho a, h.symm.length_le ho a⟩
theorem Same.cons_cancel {a : α} {x y : List α} (h : Same lt (a :: x) (a :: y)) : Same lt x y := by
  intro z
  have := h z
  simp only [List.filter_cons] at this
  split at this
  · simpa using this
  · exact this
/-- Sorted, with equals as they were: there is only one such list. -/
theorem unique (ho : Ord lt) : ∀ {x y : List α}, Srt lt x → Srt lt y → Same lt x y → x = y
  | [], [], _, _, _ => rfl
  | [], b :: y, _, _, h => by have := (h.mem ho b).2 (by simp); simp at this
  | a :: x, [], _, _, h => by have := (h.mem ho a).1 (by simp); simp at this
  | a :: x, b :: y, hx, hy, h => by
    obtain ⟨hx1, hx2⟩ := List.pairwise_cons.1 hx
    obtain ⟨hy1, hy2⟩ := List.pairwise_cons.1 hy
    have hba : lt b a = false := by
      rcases List.mem_cons.1 ((h.mem ho b).2 (by simp)) with rfl | hb
      · exact ho.irr _
      · exact hx1 b hb
    have hab : lt a b = false := by
      rcases List.mem_cons.1 ((h.mem ho a).1 (by simp)) with rfl | hb
      · exact ho.irr _
      · exact hy1 a hb
    have hz := h a
    rw [List.filter_cons, if_pos (eqv_self ho a), List.filter_cons, if_pos (eqv_iff.2 ⟨hab, hba⟩)] at hz
    obtain ⟨rfl, _⟩ := List.cons.inj hz
    rw [unique ho hx2 hy2 h.cons_cancel]
theorem Same.count [BEq α] [LawfulBEq α] (ho : Ord lt) {x y : List α} (h : Same lt x y) (a : α) : x.count a = y.count a := by
  have e : ∀ l : List α, l.count a = (l.filter (eqv lt a)).count a := by
    intro l
    rw [List.count_filter (eqv_self ho a)]
  rw [e x, e y, h a]
theorem Same.perm_length [BEq α] [LawfulBEq α] (ho : Ord lt) {x y : List α} (h : Same lt x y) : x.length = y.length :=
  (List.perm_iff_count.2 fun a => h.count ho a).length_eq
theorem srt_app {x y : List α} : Srt lt (x ++ y) ↔ Srt lt x ∧ Srt lt y ∧ ∀ a ∈ x, ∀ b ∈ y, lt b a = false := List.pairwise_append
/-- A value goes to its place among sorted ones. -/
theorem srt_put (ho : Ord lt) {P Q : List α} {x : α} (h : Srt lt (P ++ Q)) (hq : ∀ q ∈ Q, lt x q = true) (hp : ∀ y, P.getLast? = some y → lt x y = false) : Srt lt (P ++ x :: Q) := by
  obtain ⟨h1, h2, h3⟩ := srt_app.1 h
  refine srt_app.2 ⟨h1, List.pairwise_cons.2 ⟨fun q hq' => ho.asym (hq q hq'), h2⟩, ?_⟩
  intro a ha b hb
  rcases List.mem_cons.1 hb with rfl | hb
  · rcases List.eq_nil_or_concat P with rfl | ⟨P', y, rfl⟩
    · cases ha
    · have hy := hp y (by simp)
      rw [List.concat_eq_append] at ha h1
      rcases List.mem_append.1 ha with ha | ha
      · have := (srt_app.1 h1).2.2 a ha y (by simp)
        exact ho.neg b y a hy this
      · simp at ha; subst ha; exact hy
  · exact h3 a ha b hb
/-- Two halves, each merged, are all merged. -/
theorem srt_halves (ho : Ord lt) {A1 A2 B1 B2 x y : List α} (hA : Srt lt (A1 ++ A2)) (hB : Srt lt (B1 ++ B2))
    (h1 : ∀ a b, A1.getLast? = some a → B2.head? = some b → lt b a = false) (h2 : ∀ a b, B1.getLast? = some b → A2.head? = some a → lt b a = true)
    (hx : Srt lt x) (sx : Same lt (A1 ++ B1) x) (hy : Srt lt y) (sy : Same lt (A2 ++ B2) y) : Srt lt (x ++ y) ∧ Same lt ((A1 ++ A2) ++ (B1 ++ B2)) (x ++ y) := by
  obtain ⟨a1, a2, a3⟩ := srt_app.1 hA
  obtain ⟨b1, b2, b3⟩ := srt_app.1 hB
  have last_le : ∀ {l : List α} {c : α}, Srt lt l → l.getLast? = some c → ∀ a ∈ l, lt c a = false := by
    intro l c hl hc a ha
    rcases List.eq_nil_or_concat l with rfl | ⟨l', y, rfl⟩
    · cases ha
    · simp at hc; subst hc
      rw [List.concat_eq_append] at ha hl
      rcases List.mem_append.1 ha with ha | ha
      · exact (srt_app.1 hl).2.2 a ha y (by simp)
      · simp at ha; subst ha; exact ho.irr _
  have head_le : ∀ {l : List α} {c : α}, Srt lt l → l.head? = some c → ∀ a ∈ l, lt a c = false := by
    intro l c hl hc a ha
    cases l with
    | nil => cases ha
    | cons y l =>
      simp at hc; subst hc
      rcases List.mem_cons.1 ha with rfl | ha
      · exact ho.irr _
      · exact (List.pairwise_cons.1 hl).1 a ha
  have g1 : ∀ a ∈ A1, ∀ b ∈ B2, lt b a = false := by
    intro a ha b hb
    cases hl : A1.getLast? with
    | none => rw [List.getLast?_eq_none_iff] at hl; subst hl; cases ha
    | some c =>
      cases hh : B2.head? with
      | none => rw [List.head?_eq_none_iff] at hh; subst hh; cases hb
      | some d => exact ho.neg b c a (ho.neg b d c (head_le b2 hh b hb) (h1 c d hl hh)) (last_le a1 hl a ha)
  have g2 : ∀ a ∈ A2, ∀ b ∈ B1, lt b a = true := by
    intro a ha b hb
    cases hl : B1.getLast? with
    | none => rw [List.getLast?_eq_none_iff] at hl; subst hl; cases hb
    | some c =>
      cases hh : A2.head? with
      | none => rw [List.head?_eq_none_iff] at hh; subst hh; cases ha
      | some d =>
        have e := h2 d c hl hh
        cases hab : lt b a with
        | true => rfl
        | false =>
          -- c < d, b ≤ c, d ≤ a, and not b < a: then not c < d
          have e1 : lt c a = false := ho.neg c b a (last_le b1 hl b hb) hab
          have e2 : lt c d = false := ho.neg c a d e1 (head_le a2 hh a ha)
          rw [e] at e2; cases e2
  refine ⟨srt_app.2 ⟨hx, hy, ?_⟩, ?_⟩
  · intro a ha b hb
    have ha' := (sx.mem ho a).2 ha
    have hb' := (sy.mem ho b).2 hb
    rcases List.mem_append.1 ha' with ha' | ha' <;> rcases List.mem_append.1 hb' with hb' | hb'
    · exact a3 a ha' b hb'
    · exact g1 a ha' b hb'
    · exact ho.asym (g2 b hb' a ha')
    · exact b3 a ha' b hb'
  · have e : Same lt ((A1 ++ A2) ++ (B1 ++ B2)) ((A1 ++ B1) ++ (A2 ++ B2)) := by
      have := ((Same.refl (lt := lt) A1).app (Same.swap ho (A := A2) (B := B1) g2)).app (Same.refl (lt := lt) B2)
      simpa [List.append_assoc] using this
    exact e.trans (sx.app sy)
end Go.So
