/- Frames: trees of temporaries. -/
import Derived.Test.YtjciabbnncidjaaGreatAbRel
set_option linter.unusedSimpArgs false
set_option linter.unusedVariables false
namespace Go.Ab
open Go
namespace Tr
theorem get_look : ∀ (t : Tr) (i : Nat), t.get i = (t.look i).getD .undef
  | .nil, i => rfl
  | .node v l r, 0 => rfl
  | .node v l r, k + 1 => by
    simp only [get, look]
    split
    · exact get_look l _
    · exact get_look r _
theorem has_look : ∀ (t : Tr) (i : Nat), t.has i = (t.look i).isSome
  | .nil, i => rfl
  | .node v l r, 0 => rfl
  | .node v l r, k + 1 => by
    simp only [has, look]
    split
    · exact has_look l _
    · exact has_look r _
theorem look_set : ∀ (t : Tr) (d i : Nat) (x : V), (t.set d x).look i = if d = i then (t.look i).map (fun _ => x) else t.look i
  | .nil, d, i, x => by simp [set, look]
  | .node v l r, 0, 0, x => by simp [set, look]
  | .node v l r, 0, k + 1, x => by simp [set, look]
  | .node v l r, j + 1, 0, x => by
    simp only [set]
    split <;> simp [look]
  | .node v l r, j + 1, k + 1, x => by
    simp only [set]
    cases hj : Nat.beq (Nat.mod j 2) 0 <;> cases hk : Nat.beq (Nat.mod k 2) 0 <;> simp only [look, hk]
    · rw [look_set r]
      have h1 : j % 2 ≠ 0 := fun h => by rw [show Nat.mod j 2 = 0 from h] at hj; cases hj
      have h2 : k % 2 ≠ 0 := fun h => by rw [show Nat.mod k 2 = 0 from h] at hk; cases hk
      have h3 : (Nat.div j 2 = Nat.div k 2) ↔ (j + 1 = k + 1) := by show (j / 2 = k / 2) ↔ _; omega
      simp only [h3]
    · have h1 : j % 2 ≠ 0 := fun h => by rw [show Nat.mod j 2 = 0 from h] at hj; cases hj
      have h2 : k % 2 = 0 := Nat.eq_of_beq_eq_true hk
      rw [if_neg (by omega)]
    · have h1 : j % 2 = 0 := Nat.eq_of_beq_eq_true hj
      have h2 : k % 2 ≠ 0 := fun h => by rw [show Nat.mod k 2 = 0 from h] at hk; cases hk
      rw [if_neg (by omega)]
    · rw [look_set l]
      have h1 : j % 2 = 0 := Nat.eq_of_beq_eq_true hj
      have h2 : k % 2 = 0 := Nat.eq_of_beq_eq_true hk
      have h3 : (Nat.div j 2 = Nat.div k 2) ↔ (j + 1 = k + 1) := by show (j / 2 = k / 2) ↔ _; omega
      simp only [h3]
theorem look_set_self (t : Tr) (d : Nat) (x : V) : (t.set d x).look d = (t.look d).map (fun _ => x) := by rw [look_set, if_pos rfl]
theorem look_set_ne (t : Tr) {d i : Nat} (h : d ≠ i) (x : V) : (t.set d x).look i = t.look i := by rw [look_set, if_neg h]
theorem look_map (f : V → V) : ∀ (t : Tr) (i : Nat), (t.map f).look i = (t.look i).map f
  | .nil, i => rfl
  | .node v l r, 0 => rfl
  | .node v l r, k + 1 => by
    simp only [map, look]
    split
    · exact look_map f l _
    · exact look_map f r _
theorem look_full (v : V) : ∀ (f n i : Nat), n ≤ f → (full v f n).look i = if i < n then some v else none
  | 0, n, i, h => by
    obtain rfl : n = 0 := by omega
    simp [full, look]
  | f + 1, 0, i, h => by simp [full, look]
  | f + 1, k + 1, 0, h => by simp [full, look]
  | f + 1, k + 1, j + 1, h => by
    simp only [full, look]
    split
    · rename_i hj
      have h1 : j % 2 = 0 := Nat.eq_of_beq_eq_true hj
      rw [look_full v f _ _ (by show (k + 1) / 2 ≤ f; omega)]
      have h3 : (Nat.div j 2 < Nat.div (k + 1) 2) ↔ (j + 1 < k + 1) := by show (j / 2 < (k + 1) / 2) ↔ _; omega
      simp only [h3]
    · rename_i hj
      have h1 : j % 2 ≠ 0 := fun h => by rw [show Nat.mod j 2 = 0 from h] at hj; cases hj
      rw [look_full v f _ _ (by show k / 2 ≤ f; omega)]
      have h3 : (Nat.div j 2 < Nat.div k 2) ↔ (j + 1 < k + 1) := by show (j / 2 < k / 2) ↔ _; omega
      simp only [h3]
theorem ext : ∀ {t s : Tr}, (∀ i, t.look i = s.look i) → t = s
  | .nil, .nil, _ => rfl
  | .nil, .node v l r, h => by have := h 0; simp [look] at this
  | .node v l r, .nil, h => by have := h 0; simp [look] at this
  | .node v l r, .node v' l' r', h => by
    have h0 := h 0
    simp only [look, Option.some.injEq] at h0
    subst h0
    have hl : l = l' := ext fun i => by
      have := h (2 * i + 1)
      have e1 : Nat.mod (2 * i) 2 = 0 := by show 2 * i % 2 = 0; omega
      have e2 : Nat.div (2 * i) 2 = i := by show 2 * i / 2 = i; omega
      simpa [look, e1, e2] using this
    have hr : r = r' := ext fun i => by
      have := h (2 * i + 1 + 1)
      have e1 : Nat.mod (2 * i + 1) 2 = 1 := by show (2 * i + 1) % 2 = 1; omega
      have e2 : Nat.div (2 * i + 1) 2 = i := by show (2 * i + 1) / 2 = i; omega
      simpa [look, e1, e2] using this
    rw [hl, hr]
theorem get_set_self {t : Tr} {d : Nat} {x : V} (h : t.get d = x) (hx : x ≠ .undef) : t.look d = some x := by
  rw [get_look] at h
  cases hd : t.look d with
  | none => rw [hd] at h; exact absurd h.symm hx
  | some v => rw [hd] at h; exact congrArg some h
theorem set_get (t : Tr) (d : Nat) : t.set d (t.get d) = t := by
  refine ext fun i => ?_
  rw [look_set]
  split
  · rename_i h; subst h
    rw [get_look]
    cases t.look d <;> rfl
  · rfl
theorem set_set (t : Tr) (d : Nat) (x y : V) : (t.set d x).set d y = t.set d y := by
  refine ext fun i => ?_
  rw [look_set, look_set, look_set]
  split
  · cases t.look i <;> rfl
  · rfl
theorem set_comm (t : Tr) {d e : Nat} (x y : V) (h : d ≠ e) : (t.set d x).set e y = (t.set e y).set d x := by
  refine ext fun i => ?_
  simp only [look_set]
  by_cases h1 : e = i
  · by_cases h2 : d = i
    · exact absurd (h2.trans h1.symm) h
    · simp [h1, h2]
  · simp [h1]
theorem get_set_ne (t : Tr) {d i : Nat} (h : d ≠ i) (x : V) : (t.set d x).get i = t.get i := by rw [get_look, get_look, look_set_ne t h]
theorem get_map (f : V → V) (t : Tr) (i : Nat) (hf : f .undef = .undef) : (t.map f).get i = f (t.get i) := by
  rw [get_look, get_look, look_map]
  cases t.look i <;> simp [hf]
end Tr
/-- A frame and the machine's. -/
def ERel [Pins] (E : Wh) (ρ : Env) (cs : List Value) : Prop := ∀ (i : Nat) (v : V), ρ.look i = some v → ∃ c, cs[i]? = some c ∧ VRel E v c
theorem ERel.get [Pins] {E : Wh} {ρ : Env} {cs : List Value} (h : ERel E ρ cs) (i : Nat) (d : Value) : VRel E (ρ.get i) (cs.getD i d) := by
  rw [Tr.get_look]
  cases hl : ρ.look i with
  | none => simp [VRel]
  | some v =>
    obtain ⟨c, hc, hv⟩ := h i v hl
    rw [List.getD_eq_getElem?_getD, hc]
    exact hv
theorem ERel.set [Pins] {E : Wh} {ρ : Env} {cs : List Value} {v : V} {c : Value} (hv : VRel E v c) (h : ERel E ρ cs) (d : Nat) : ERel E (ρ.set d v) (cs.set d c) := by
  intro i x hx
  rw [Tr.look_set] at hx
  split at hx
  · rename_i hd
    subst hd
    cases hl : ρ.look d with
    | none => rw [hl] at hx; cases hx
    | some y =>
      rw [hl] at hx
      cases hx
      obtain ⟨c', hc', _⟩ := h d y hl
      exact ⟨c, by rw [List.getElem?_set_self (List.getElem?_eq_some_iff.1 hc').1], hv⟩
  · rename_i hd
    obtain ⟨c', hc', hr⟩ := h i x hx
    exact ⟨c', by rw [List.getElem?_set_ne hd]; exact hc', hr⟩
theorem ERel.map [Pins] {E E' : Wh} {ρ : Env} {cs : List Value} (f : V → V) (hf : ∀ v c, VRel E v c → VRel E' (f v) c) (h : ERel E ρ cs) : ERel E' (ρ.map f) cs := by
  intro i x hx
  rw [Tr.look_map] at hx
  cases hl : ρ.look i with
  | none => rw [hl] at hx; cases hx
  | some y =>
    rw [hl] at hx
    cases hx
    obtain ⟨c, hc, hr⟩ := h i y hl
    exact ⟨c, hc, hf _ _ hr⟩
theorem ERel.mono [Pins] {E E' : Wh} {ρ : Env} {cs : List Value} (hE : ∀ k e, E k = some e → E' k = some e) (h : ERel E ρ cs) : ERel E' ρ cs := fun i v hv => by
  obtain ⟨c, hc, hr⟩ := h i v hv
  exact ⟨c, hc, hr.mono hE⟩
theorem ERel.getD [Pins] {E : Wh} {ρ : Env} {cs : List Value} (h : ERel E ρ cs) (i : Nat) (d : Value) : VRel E (ρ.get i) (cs.getD i d) := h.get i d
theorem ERel.kill [Pins] {E E' : Wh} {j : Nat} {ρ : Env} {cs : List Value} (hE : ∀ k e, k ≠ j → E k = some e → E' k = some e) (h : ERel E ρ cs) : ERel E' (ρ.map (V.kill j)) cs := h.map _ fun _ _ hr => hr.kill hE
theorem ERel.ren [Pins] {E E' : Wh} {π : Nat → Option Nat} {ρ : Env} {cs : List Value} (hE : ∀ k j, π k = some j → ∀ e, E k = some e → E' j = some e) (h : ERel E ρ cs) : ERel E' (ρ.map (V.ren π)) cs :=
  h.map _ fun _ _ hr => hr.ren fun k _ j hj e he => hE k j hj e he
theorem ERel.undefs [Pins] {E : Wh} {ρ : Env} {cs : List Value} (h : ERel E ρ cs) : ERel E (ρ.map fun _ => .undef) cs := h.map _ fun _ _ _ => by simp [VRel]
theorem ERel.undefs' [Pins] {E E' : Wh} {ρ : Env} {cs : List Value} (h : ERel E ρ cs) : ERel E' (ρ.map fun _ => .undef) cs := h.map _ fun _ _ _ => by simp [VRel]
theorem ERel.full [Pins] {E : Wh} {n : Nat} {cs : List Value} (h : n ≤ cs.length) : ERel E (Tr.full .undef n n) cs := by
  intro i v hv
  rw [Tr.look_full _ _ _ _ (Nat.le_refl n)] at hv
  split at hv
  · cases hv
    exact ⟨cs[i], by rw [List.getElem?_eq_getElem], by simp [VRel]⟩
  · cases hv
theorem ERel.puts [Pins] {E : Wh} : ∀ {vs : List V} {cs : List Value} {n : Nat} {ρ : Env} {ds : List Value}, VsRel E vs cs → ERel E ρ ds →
    ERel E (Tr.puts n vs ρ) (ds.take n ++ (cs.take (ds.length - n)) ++ ds.drop (n + cs.length))
  | [], cs, n, ρ, ds, h, hρ => by
    simp only [VsRel] at h; subst h
    simpa [Tr.puts] using hρ
  | w :: ws, cs, n, ρ, ds, h, hρ => by
    simp only [VsRel] at h
    obtain ⟨c0, cs', rfl, h1, h2⟩ := h
    have := ERel.puts (n := n + 1) h2 (hρ.set h1 n)
    simp only [Tr.puts]
    refine fun i x hx => ?_
    obtain ⟨y, hy, hr⟩ := this i x hx
    refine ⟨y, ?_, hr⟩
    rw [← hy]
    simp only [List.getElem?_append, List.length_append, List.length_take, List.length_set, List.getElem?_take, List.getElem?_drop, List.length_cons, List.getElem?_set]
    by_cases hn : n < ds.length
    · have e1 : min n ds.length = n := by omega
      have e2 : min (n + 1) ds.length = n + 1 := by omega
      simp only [e1, e2]
      by_cases hi : i < n
      · simp [hi, show i < n + 1 from by omega, show i ≠ n from by omega, show i < n + min (ds.length - n) (cs'.length + 1) from by omega, show i < n + 1 + min (ds.length - (n + 1)) cs'.length from by omega, show n ≠ i from by omega]
      · by_cases hin : i = n
        · subst hin
          simp [hn, show i < i + min (ds.length - i) (cs'.length + 1) from by omega, show i < i + 1 + min (ds.length - (i + 1)) cs'.length from by omega, show 0 < ds.length - i from by omega]
        · by_cases hlt : i < n + min (ds.length - n) (cs'.length + 1)
          · have : i - n = i - (n + 1) + 1 := by omega
            simp [hi, hlt, show i < n + 1 + min (ds.length - (n + 1)) cs'.length from by omega, show ¬ i < n + 1 from by omega, this, show i - (n + 1) + 1 < ds.length - n ↔ i - (n + 1) < ds.length - (n + 1) from by omega]
          · simp [hlt, show ¬ i < n + 1 + min (ds.length - (n + 1)) cs'.length from by omega]
            rw [if_neg (by omega)]
            congr 1
            omega
    · have : i < ds.length ∨ ¬ i < ds.length := by omega
      have e1 : min n ds.length = ds.length := by omega
      have e2 : min (n + 1) ds.length = ds.length := by omega
      simp only [e1, e2, show ds.length - n = 0 from by omega, show ds.length - (n + 1) = 0 from by omega, Nat.zero_min, Nat.add_zero]
      by_cases hi : i < ds.length
      · simp [hi, show i < n from by omega, show i < n + 1 from by omega, show n ≠ i from by omega]
      · simp [hi]
        rw [List.getElem?_eq_none (by omega), if_neg (by omega), List.getElem?_eq_none (by omega)]
end Go.Ab
