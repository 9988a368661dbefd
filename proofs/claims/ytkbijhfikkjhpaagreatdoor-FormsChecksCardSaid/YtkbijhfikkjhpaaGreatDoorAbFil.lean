/- A slice that is nil, told as one that has no rows: for the heads of loops that append. -/
import Derived.Test.YtkbijhfikkjhpaaGreatDoorAbBody
set_option linter.unusedSimpArgs false
set_option linter.unusedVariables false
namespace Go.Ab
open Go

/-- A block without rows. -/
def Blk.bare (b : Blk) : Bool := b.cols.all fun c => Nat.beq c.len 0 && c.plain
/-- Where a nil slice stands that is to be told as an empty one: in a temporary, or in a field of the block to which a temporary points. -/
inductive Fil where
  | slot (i : Nat) (b : Blk)
  | cell (i j : Nat) (b : Blk)
def fil1 (f : Fil) (ρ : Env) (m : Mem) : Env × Mem :=
  match f with
  | .slot i b => (match ρ.get i, b.bare with | .nils, true => (ρ.set i (.sl m.length 0 none none), m ++ [b]) | _, _ => (ρ, m))
  | .cell i j b =>
    (match ρ.get i, b.bare with
     | .ptr k 0 _, true =>
       (match (m.getD k default).ro, (m.getD k default).cols[j]? with
        | false, some (.vals [.nils]) => (ρ, (m ++ [b]).set k ⟨(m.getD k default).cols.set j (.vals [.sl m.length 0 none none]), (m.getD k default).et, false, (m.getD k default).mv⟩)
        | _, _ => (ρ, m))
     | _, _ => (ρ, m))
def fil : List Fil → Env → Mem → Env × Mem
  | [], ρ, m => (ρ, m)
  | f :: fs, ρ, m => fil fs (fil1 f ρ m).1 (fil1 f ρ m).2
section
variable {E : Wh} {m : Mem} {w : World} {ρ : Env} {cs : List Value}
theorem bare_step [Pins] (hS : Sim E m w) {b : Blk} (hb : b.bare = true) : Step E m w (upd E m.length ⟨0, 0, 0, b.cols.length, 0⟩) (m ++ [b]) w := by
  have hb' : ∀ c ∈ b.cols, c.len = 0 ∧ c.plain = true := fun c hc => by
    have := List.all_eq_true.1 hb c hc
    simp only [Bool.and_eq_true] at this
    exact ⟨Nat.eq_of_beq_eq_true this.1, this.2⟩
  refine Step.new hS b _ rfl rfl rfl (Nat.le_refl _) (fun _ _ => rfl) ⟨rfl, ?_, ?_, ?_, by simp, by simp, by simp, by simp, ?_⟩ (by simp)
  · unfold Blk.rows
    split
    · rfl
    · rename_i c l hl; exact (hb' c (by rw [hl]; simp)).1.symm
  · intro c hc; exact (hb' c hc).1
  · intro row fld col v hcol hv
    have h1 := (hb' col (List.mem_of_getElem? hcol)).1
    have : col.list = [] := List.eq_nil_of_length_eq_zero (by rw [Col.list_len]; exact h1)
    rw [this] at hv; simp at hv
  · intro c hc
    obtain ⟨h1, h2⟩ := Blk.sp_some hc
    have := (hb' c (by rw [h1]; simp)).2
    rw [this] at h2; cases h2
theorem empty_rel [Pins] {E' : Wh} {n nc : Nat} (h : E' n = some ⟨0, 0, 0, nc, 0⟩) {c : Value} (hc : VRel E .nils c) : VRel E' (.sl n 0 none none) c := by
  simp only [VRel] at hc ⊢
  subst hc
  exact ⟨_, none, 0, h, by simp [slN], by simp [slN], by simp [slN], by simp [CapOk], by simp⟩
theorem fil1_rel [Pins] (hS : Sim E m w) (hρ : ERel E ρ cs) (f : Fil) : ∃ E', Step E m w E' (fil1 f ρ m).2 w ∧ ERel E' (fil1 f ρ m).1 cs := by
  have triv : ∃ E', Step E m w E' m w ∧ ERel E' ρ cs := ⟨E, Step.refl hS, hρ⟩
  cases f with
  | slot i b =>
    simp only [fil1]
    split
    · rename_i hi hb
      have hst := bare_step hS hb
      have hE := upd_new hS ⟨0, 0, 0, b.cols.length, 0⟩
      refine ⟨_, hst, setsE_rel (ps := [(i, _)]) (fun p hp c hc => ?_) (hρ.mono hE)⟩
      simp only [List.mem_singleton] at hp
      subst hp
      refine empty_rel (E := E) (upd_same _ _ _) ?_
      have h1 := hρ.get i undef
      rw [List.getD_eq_getElem?_getD, hc, hi] at h1
      exact h1
    · exact triv
  | cell i j b =>
    simp only [fil1]
    split
    · rename_i k fld hi hb
      split
      · rename_i hro hcol
        have hst := bare_step hS hb
        have hE := upd_new hS ⟨0, 0, 0, b.cols.length, 0⟩
        cases hck : cs[i]? with
        | none =>
          exfalso
          have hl := Tr.get_set_self hi (by simp)
          obtain ⟨c, hc, _⟩ := hρ i _ hl
          rw [hck] at hc; cases hc
        | some c =>
          have h1 := hρ.get i undef
          rw [List.getD_eq_getElem?_getD, hck, hi] at h1
          simp only [Option.getD_some, VRel] at h1
          obtain ⟨e, hk, hr, _⟩ := h1
          obtain ⟨hmk, hbk⟩ := getD_blk hS hk
          have hkl := hS.lt hk
          have hcr : e.cr ≠ 0 := by have := hbk.room; omega
          have hmk' : (m ++ [b])[k]? = some (m.getD k default) := by rw [List.getElem?_append_left hkl]; exact hmk
          have hbk' : BlkRel (upd E m.length ⟨0, 0, 0, b.cols.length, 0⟩) w (m.getD k default) e := by
            obtain ⟨b2, g1, g2⟩ := hst.sim.blk k e (hE _ _ hk)
            rw [hmk'] at g1
            cases g1
            exact g2
          have hj := (List.getElem?_eq_some_iff.1 hcol).1
          have hlen : e.rows = 1 := by
            have := hbk.len _ (List.mem_of_getElem? hcol)
            simpa [Col.len] using this.symm
          have hspn : ∀ x : Col, x.plain = true → ∀ c0, Blk.sp ⟨(m.getD k default).cols.set j x, (m.getD k default).et, false, (m.getD k default).mv⟩ = some c0 → False := by
            intro x hx c0 h0
            obtain ⟨g1, g2⟩ := Blk.sp_some h0
            simp only at g1
            have h3 : ((m.getD k default).cols.set j x)[j]? = some x := by rw [List.getElem?_set_self hj]
            rw [g1] at h3
            have hj0 : j = 0 := by
              have := (List.getElem?_eq_some_iff.1 h3).1
              simpa using this
            subst hj0
            simp at h3
            subst h3
            rw [hx] at g2; cases g2
          have hown := hbk'.own hro hcr (by
            cases hs : (m.getD k default).sp with
            | none => rfl
            | some c0 =>
              exfalso
              obtain ⟨g1, g2⟩ := Blk.sp_some hs
              rw [g1] at hcol
              cases j with
              | zero => simp at hcol; subst hcol; simp [Col.plain] at g2
              | succ n => simp at hcol)
          refine ⟨_, hst.trans (Step.set hst.sim (hE _ _ hk) hmk' hro hcr rfl rfl rfl rfl (fun _ _ => rfl) ?_ rfl rfl), hρ.mono hE⟩
          refine ⟨by rw [hbk'.nc]; simp, ?_, ?_, ?_, fun _ _ _ => ⟨hown.1, by simpa using hown.2⟩, hbk'.lt, hbk'.room, hbk'.max, fun c0 h0 => (hspn _ rfl c0 h0).elim⟩
          · rw [hlen]
            unfold Blk.rows
            simp only
            split
            · rename_i hnil; have hl0 := congrArg List.length hnil; rw [List.length_set] at hl0; rw [hl0] at hj; simp at hj
            · rename_i c0 l hl
              have h3 : ((m.getD k default).cols.set j (.vals [.sl m.length 0 none none]))[0]? = some c0 := by rw [hl]; rfl
              rw [List.getElem?_set] at h3
              split at h3
              · first
                | (cases h3; rfl)
                | (split at h3
                   · cases h3; rfl
                   · cases h3)
              · have := hbk.len _ (List.mem_of_getElem? h3)
                omega
          · intro c0 hc0
            rcases List.mem_or_eq_of_mem_set hc0 with h | rfl
            · exact hbk.len _ h
            · rw [hlen]; rfl
          · intro row fl col v hcl hv
            simp only [List.getElem?_set] at hcl
            split at hcl
            · rename_i hjf
              subst hjf
              have hcl' : (.vals [.sl m.length 0 none none] : Col) = col := by
                first
                | exact Option.some.inj hcl
                | (split at hcl
                   · exact Option.some.inj hcl
                   · cases hcl)
              · subst hcl'
                cases row with
                | succ r => simp [Col.list] at hv
                | zero =>
                  simp [Col.list] at hv
                  subst hv
                  obtain ⟨c, f1, f2, f3⟩ := hbk.cells 0 j _ .nils hcol (by simp [Col.list])
                  exact ⟨c, f1, f2, empty_rel (upd_same _ _ _) f3⟩
            · exact hbk'.cells row fl col v hcl hv
      · exact triv
    · exact triv
theorem fil_rel [Pins] (hS : Sim E m w) (hρ : ERel E ρ cs) : ∀ (fs : List Fil), ∃ E', Step E m w E' (fil fs ρ m).2 w ∧ ERel E' (fil fs ρ m).1 cs := by
  intro fs
  induction fs generalizing E ρ m with
  | nil => exact ⟨E, Step.refl hS, hρ⟩
  | cons f fs ih =>
    obtain ⟨E1, h1, h2⟩ := fil1_rel hS hρ f
    obtain ⟨E2, h3, h4⟩ := ih h1.sim h2
    exact ⟨E2, h1.trans h3, h4⟩
/-- The same, behind what came before. -/
theorem fil_step [Pins] {E0 : Wh} {m0 : Mem} {w0 : World} (hS : Step E0 m0 w0 E m w) (hρ : ERel E ρ cs) (fs : List Fil) : ∃ E', Step E0 m0 w0 E' (fil fs ρ m).2 w ∧ ERel E' (fil fs ρ m).1 cs := by
  obtain ⟨E', h1, h2⟩ := fil_rel hS.sim hρ fs
  exact ⟨E', hS.trans h1, h2⟩
end
end Go.Ab
