/- Regions whose order is open: whatever order is picked, it comes to what the evaluator says. -/
import Derived.Test.YtjciabbnncidjaaGreatAbDraw2
set_option linter.unusedSimpArgs false
set_option linter.unusedVariables false
namespace Go.Ab
open Go

/-- What the evaluator has done of a region, what it has put off ('later', the last one first), what it has still to look at. -/
structure VInv (L : List Oper) (done later : List (Nat × Oper)) (blocked : List Nat) (todo : List (Nat × Oper)) : Prop where
  dl : ∀ i o, (i, o) ∈ done → L[i]? = some o
  ll : ∀ i o, (i, o) ∈ later → L[i]? = some o
  tl : ∀ i o, (i, o) ∈ todo → L[i]? = some o
  all : ∀ i, i < L.length → (∃ o, (i, o) ∈ done) ∨ (∃ o, (i, o) ∈ later) ∨ (∃ o, (i, o) ∈ todo)
  dx : ∀ i o o', (i, o) ∈ done → (i, o') ∉ later ∧ (i, o') ∉ todo
  lt : ∀ i o j p, (i, o) ∈ later → (j, p) ∈ todo → i < j
  ts : todo.Pairwise fun x y => x.1 < y.1
  ls : later.Pairwise fun x y => y.1 < x.1
  bl : ∀ k, k ∈ blocked ↔ ∃ o, (k, o) ∈ later
  lw : ∀ i o, (i, o) ∈ later → earlyOp o = true → ∃ k p, waitsFor o k = true ∧ (k, p) ∈ later
  dc : ∀ i o k, (i, o) ∈ done → waitsFor o k = true → ∃ p, (k, p) ∈ done
  ef : ∀ i o j p, (i, o) ∈ done → earlyOp o = false → ((j, p) ∈ later ∨ (j, p) ∈ todo) → earlyOp p = false → i < j
theorem number_mem [Pins] : ∀ {L : List Oper} {n i : Nat} {o : Oper}, (i, o) ∈ number n L ↔ n ≤ i ∧ L[i - n]? = some o
  | [], n, i, o => by simp [number]
  | x :: xs, n, i, o => by
    simp only [number, List.mem_cons, number_mem (L := xs), Prod.mk.injEq]
    constructor
    · rintro (⟨rfl, rfl⟩ | ⟨h1, h2⟩)
      · simp
      · refine ⟨by omega, ?_⟩
        rw [show i - n = (i - (n + 1)) + 1 by omega]
        simpa using h2
    · rintro ⟨h1, h2⟩
      by_cases hi : i = n
      · subst hi; simp at h2; exact .inl ⟨rfl, h2.symm⟩
      · right
        refine ⟨by omega, ?_⟩
        rw [show i - n = (i - (n + 1)) + 1 by omega] at h2
        simpa using h2
theorem number_sorted [Pins] : ∀ (L : List Oper) (n : Nat), (number n L).Pairwise fun x y => x.1 < y.1
  | [], n => by simp [number]
  | x :: xs, n => by
    simp only [number, List.pairwise_cons]
    refine ⟨?_, number_sorted xs (n + 1)⟩
    rintro ⟨i, o⟩ h
    have := (number_mem.1 h).1
    show n < i
    omega
theorem VInv.start [Pins] (L : List Oper) : VInv L [] [] [] (number 0 L) := by
  refine ⟨by simp, by simp, ?_, ?_, by simp, by simp, number_sorted L 0, by simp, by simp, by simp, by simp, by simp⟩
  · intro i o h; simpa using (number_mem.1 h).2
  · intro i hi
    exact .inr (.inr ⟨L[i], number_mem.2 ⟨by omega, by simp⟩⟩)
section
variable {L : List Oper} {done later : List (Nat × Oper)} {blocked : List Nat} {todo rest : List (Nat × Oper)} {i : Nat} {o : Oper}
theorem VInv.pure [Pins] (hT : Text L) (h : VInv L done later blocked ((i, o) :: rest)) (hp : earlyOp o = true) (hw : waitsOne o blocked = false) : VInv L ((i, o) :: done) later blocked rest := by
  have hio := h.tl i o (by simp)
  have hts := h.ts
  rw [List.pairwise_cons] at hts
  refine ⟨?_, h.ll, fun j p hj => h.tl j p (by simp [hj]), ?_, ?_, fun j p k q hj hk => h.lt j p k q hj (by simp [hk]), hts.2, h.ls, h.bl, h.lw, ?_, ?_⟩
  · intro j p hj
    rw [List.mem_cons] at hj
    rcases hj with hj | hj
    · cases hj; exact hio
    · exact h.dl j p hj
  · intro j hj
    rcases h.all j hj with ⟨p, hp⟩ | hl | ⟨p, hp⟩
    · exact .inl ⟨p, by simp [hp]⟩
    · exact .inr (.inl hl)
    · rw [List.mem_cons] at hp
      rcases hp with hp | hp
      · cases hp; exact .inl ⟨o, by simp⟩
      · exact .inr (.inr ⟨p, hp⟩)
  · intro j p q hj
    rw [List.mem_cons] at hj
    rcases hj with hj | hj
    · cases hj
      refine ⟨fun hl => ?_, fun hl => ?_⟩
      · have := h.lt _ _ _ _ hl (List.mem_cons_self ..)
        omega
      · have := hts.1 _ hl
        simp at this
    · exact ⟨(h.dx j p q hj).1, fun hl => (h.dx j p q hj).2 (by simp [hl])⟩
  · intro j p k hj hk
    rw [List.mem_cons] at hj
    rcases hj with hj | hj
    · cases hj
      have hlt := hT.fwd _ _ k hio hk
      have hlen : k < L.length := by
        have := (List.getElem?_eq_some_iff.1 hio).1
        omega
      rcases h.all k hlen with ⟨q, hq⟩ | hl | ⟨q, hq⟩
      · exact ⟨q, by simp [hq]⟩
      · have := waitsOne_iff.2 ⟨k, hk, (h.bl k).2 hl⟩
        rw [hw] at this
        cases this
      · rw [List.mem_cons] at hq
        rcases hq with hq | hq
        · cases hq; omega
        · have := hts.1 _ hq
          simp at this
          omega
    · obtain ⟨q, hq⟩ := h.dc j p k hj hk
      exact ⟨q, by simp [hq]⟩
  · intro j p k q hj hjp hk hkq
    rw [List.mem_cons] at hj
    rcases hj with hj | hj
    · cases hj; rw [hp] at hjp; cases hjp
    · exact h.ef j p k q hj hjp (hk.imp id fun hh => by simp [hh]) hkq
theorem VInv.put [Pins] (h : VInv L done later blocked ((i, o) :: rest)) (hw : (earlyOp o && !waitsOne o blocked) = false) : VInv L done ((i, o) :: later) (i :: blocked) rest := by
  have hio := h.tl i o (by simp)
  have hts := h.ts
  rw [List.pairwise_cons] at hts
  refine ⟨h.dl, ?_, fun j p hj => h.tl j p (by simp [hj]), ?_, ?_, ?_, hts.2, ?_, ?_, ?_, h.dc, ?_⟩
  · intro j p hj
    rw [List.mem_cons] at hj
    rcases hj with hj | hj
    · cases hj; exact hio
    · exact h.ll j p hj
  · intro j hj
    rcases h.all j hj with hd | ⟨p, hp⟩ | ⟨p, hp⟩
    · exact .inl hd
    · exact .inr (.inl ⟨p, by simp [hp]⟩)
    · rw [List.mem_cons] at hp
      rcases hp with hp | hp
      · cases hp; exact .inr (.inl ⟨o, by simp⟩)
      · exact .inr (.inr ⟨p, hp⟩)
  · intro j p q hj
    refine ⟨fun hl => ?_, fun hl => (h.dx j p q hj).2 (by simp [hl])⟩
    rw [List.mem_cons] at hl
    rcases hl with hl | hl
    · cases hl; exact (h.dx _ _ _ hj).2 (List.mem_cons_self ..)
    · exact (h.dx j p q hj).1 hl
  · intro j p k q hj hk
    rw [List.mem_cons] at hj
    rcases hj with hj | hj
    · cases hj; exact hts.1 _ hk
    · exact h.lt j p k q hj (by simp [hk])
  · rw [List.pairwise_cons]
    exact ⟨fun x hx => h.lt x.1 x.2 i o hx (by simp), h.ls⟩
  · intro k
    rw [List.mem_cons, h.bl k]
    constructor
    · rintro (rfl | ⟨p, hp⟩)
      · exact ⟨o, by simp⟩
      · exact ⟨p, by simp [hp]⟩
    · rintro ⟨p, hp⟩
      rw [List.mem_cons] at hp
      rcases hp with hp | hp
      · cases hp; exact .inl rfl
      · exact .inr ⟨p, hp⟩
  · intro j p hj hjp
    rw [List.mem_cons] at hj
    rcases hj with hj | hj
    · cases hj
      rw [hjp] at hw
      simp at hw
      obtain ⟨k, hk, hm⟩ := waitsOne_iff.1 hw
      obtain ⟨q, hq⟩ := (h.bl k).1 hm
      exact ⟨k, q, hk, by simp [hq]⟩
    · obtain ⟨k, q, hk, hq⟩ := h.lw j p hj hjp
      exact ⟨k, q, hk, by simp [hq]⟩
  · intro j p k q hj hjp hk hkq
    refine h.ef j p k q hj hjp ?_ hkq
    rcases hk with hk | hk
    · rw [List.mem_cons] at hk
      rcases hk with hk | hk
      · cases hk; exact .inr (by simp)
      · exact .inl hk
    · exact .inr (by simp [hk])
theorem VInv.first [Pins] (h : VInv L done later blocked []) (hl : later.reverse = (i, o) :: rest) : (i, o) ∈ later ∧ (∀ j p, (j, p) ∈ later ↔ (j, p) = (i, o) ∨ (j, p) ∈ rest) ∧ (∀ j p, (j, p) ∈ rest → i < j) ∧ rest.Pairwise (fun x y => x.1 < y.1) := by
  have hm : ∀ j p, (j, p) ∈ later ↔ (j, p) = (i, o) ∨ (j, p) ∈ rest := fun j p => by rw [← List.mem_reverse, hl, List.mem_cons]
  have hs : later.reverse.Pairwise fun x y => x.1 < y.1 := by rw [List.pairwise_reverse]; exact h.ls
  rw [hl, List.pairwise_cons] at hs
  exact ⟨(hm i o).2 (.inl rfl), hm, fun j p hj => hs.1 _ hj, hs.2⟩
theorem VInv.eff [Pins] (hT : Text L) (h : VInv L done later blocked []) (hl : later.reverse = (i, o) :: rest) : VInv L ((i, o) :: done) [] [] rest := by
  obtain ⟨h1, h2, h3, h4⟩ := h.first hl
  refine ⟨?_, by simp, fun j p hj => h.ll j p ((h2 j p).2 (.inr hj)), ?_, ?_, by simp, h4, by simp, by simp, by simp, ?_, ?_⟩
  · intro j p hj
    rw [List.mem_cons] at hj
    rcases hj with hj | hj
    · cases hj; exact h.ll _ _ h1
    · exact h.dl j p hj
  · intro j hj
    rcases h.all j hj with ⟨p, hp⟩ | ⟨p, hp⟩ | ⟨p, hp⟩
    · exact .inl ⟨p, by simp [hp]⟩
    · rcases (h2 j p).1 hp with hp | hp
      · cases hp; exact .inl ⟨o, by simp⟩
      · exact .inr (.inr ⟨p, hp⟩)
    · simp at hp
  · intro j p q hj
    refine ⟨by simp, fun hq => ?_⟩
    rw [List.mem_cons] at hj
    rcases hj with hj | hj
    · cases hj; have := h3 _ _ hq; omega
    · exact (h.dx j p q hj).1 ((h2 j q).2 (.inr hq))
  · intro j p k hj hk
    rw [List.mem_cons] at hj
    rcases hj with hj | hj
    · cases hj
      have hio := h.ll _ _ h1
      have hlt := hT.fwd _ _ k hio hk
      have hlen : k < L.length := by
        have := (List.getElem?_eq_some_iff.1 hio).1
        omega
      rcases h.all k hlen with ⟨q, hq⟩ | ⟨q, hq⟩ | ⟨q, hq⟩
      · exact ⟨q, by simp [hq]⟩
      · rcases (h2 k q).1 hq with hq | hq
        · cases hq; omega
        · have := h3 _ _ hq; omega
      · simp at hq
    · obtain ⟨q, hq⟩ := h.dc j p k hj hk
      exact ⟨q, by simp [hq]⟩
  · intro j p k q hj hjp hk hkq
    rcases hk with hk | hk
    · simp at hk
    rw [List.mem_cons] at hj
    rcases hj with hj | hj
    · cases hj; exact h3 _ _ hk
    · exact h.ef j p k q hj hjp (.inl ((h2 k q).2 (.inr hk))) hkq
end

theorem WaitsT.listed [Pins] {ops : Array Oper} {listed : Array Bool} (hcl : ∀ i o k, listed.getD i false = true → ops[i]? = some o → waitsFor o k = true → listed.getD k false = true) {o : Oper} {l : Nat} (h : WaitsT ops.toList o l) :
    (∀ k, waitsFor o k = true → listed.getD k false = true) → listed.getD l false = true := by
  induction h with
  | one h => exact fun hw => hw _ h
  | more h hp _ ih => exact fun hw => ih fun k hk => hcl _ _ k (hw _ h) (by simpa using hp) hk
/-- How the machine, which has come to 'listed', stands to the evaluator, which has come to 'done': it may be behind with some that change nothing, and these would still leave what they left the evaluator. -/
def Pend (done : List (Nat × Oper)) (listed : Array Bool) (d : Nat) : Prop := ∃ i o, (i, o) ∈ done ∧ listed.getD i false = false ∧ o.dst = some d
structure Inv [Pins] (P : Program) (ops : Array Oper) (listed : Array Bool) (a : Act) (w : World) (E : Wh) (done : List (Nat × Oper)) (news : List (Nat × Nat)) (n0 : Nat) (ρ : Env) (m : Mem) : Prop where
  sim : Sim E m w
  size : listed.size = ops.size
  sub : ∀ i, listed.getD i false = true → ∃ o, (i, o) ∈ done
  pend : ∀ i o, (i, o) ∈ done → listed.getD i false = false → earlyOp o = true ∧ ∃ d, o.dst = some d ∧ (pureOp o = true → ∃ v, again P ops.toList o ρ m = some (true, v) ∧ ρ.set d v = ρ) ∧ (pureOp o = false → sameNew P ops.toList news i o ρ m = true)
  place : ∀ i kb, lookN i news = some kb → n0 ≤ kb ∧ kb < m.length ∧ (listed.getD i false = false → E kb = none)
  dist : ∀ i j kb, lookN i news = some kb → lookN j news = some kb → i = j
  nsub : ∀ i kb, lookN i news = some kb → ∃ o, (i, o) ∈ done
  long : n0 ≤ m.length
  cl : ∀ i o k, listed.getD i false = true → ops[i]? = some o → waitsFor o k = true → listed.getD k false = true
  env : ∃ ρr, ERel E ρr a.tmps.toList ∧ Agree (Pend done listed) ρ ρr
theorem early_free [Pins] {o : Oper} (h : earlyOp o = true) (hp : pureOp o = false) : freeOp o = true := by
  unfold earlyOp at h
  rw [hp] at h
  simpa using h
theorem lookN_newsOf [Pins] {i j kb : Nat} {m m' : Mem} {news : List (Nat × Nat)} (h : lookN j (newsOf i m m' news) = some kb) : lookN j news = some kb ∨ (j = i ∧ kb = m.length ∧ m'.length ≠ m.length) := by
  unfold newsOf at h
  split at h
  · exact .inl h
  · rename_i hl
    simp only [lookN] at h
    split at h
    · rename_i hb
      cases h
      exact .inr ⟨Nat.eq_of_beq_eq_true hb, rfl, fun hh => by rw [hh] at hl; simp at hl⟩
    · exact .inl h
theorem Sim.more [Pins] {E : Wh} {m : Mem} {w : World} (h : Sim E m w) (b : Blk) : Sim E (m ++ [b]) w := by
  have hk : ∀ k e, E k = some e → (m ++ [b])[k]? = m[k]? := fun k e he => List.getElem?_append_left (h.lt he)
  refine ⟨fun k e he => ?_, fun k e b0 k' e' he hb => ?_, fun j hp => ⟨(h.tab j hp).1, fun ⟨k, e, b0, he, hb, r⟩ => (h.tab j hp).2 ⟨k, e, b0, he, by rw [← hk k e he]; exact hb, r⟩⟩⟩
  · obtain ⟨b0, h1, h2⟩ := h.blk k e he
    exact ⟨b0, by rw [hk k e he]; exact h1, h2⟩
  · rw [hk k e he] at hb
    exact h.apart k e b0 k' e' he hb
theorem Step.more [Pins] {E0 E : Wh} {m0 m : Mem} {w0 w : World} (h : Step E0 m0 w0 E m w) (l : Mem) : Step E0 m0 w0 E (m ++ l) w := by
  have hk : ∀ k e, E k = some e → (m ++ l)[k]? = m[k]? := fun k e he => List.getElem?_append_left (h.sim.lt he)
  refine ⟨⟨fun k e he => ?_, fun k e b0 k' e' he hb => ?_, fun j hp => ⟨(h.sim.tab j hp).1, fun ⟨k, e, b0, he, hb, r⟩ => (h.sim.tab j hp).2 ⟨k, e, b0, he, by rw [← hk k e he]; exact hb, r⟩⟩⟩, h.os, h.tape, h.output, h.size, h.old, ?_, by simp; have := h.len; omega, h.born, ?_, h.gone⟩
  · obtain ⟨b0, h1, h2⟩ := h.sim.blk k e he
    exact ⟨b0, by rw [hk k e he]; exact h1, h2⟩
  · rw [hk k e he] at hb
    exact h.sim.apart k e b0 k' e' he hb
  · rintro j ⟨k, e, b, he, hb, hro, hcr, rfl⟩ hj
    rw [hk k e he] at hb
    exact h.fresh _ ⟨k, e, b, he, hb, hro, hcr, rfl⟩ hj
  · intro k e he
    obtain ⟨e', b, b', g1, g2, g3, g4⟩ := h.keep k e he
    exact ⟨e', b, b', g1, by rw [hk k e' g3]; exact g2, g3, g4⟩
section
variable {P : Program} {C : CC} {Y : YC} {KP : V → Env → Mem → Prop} {r : Option Nat} {ops : Array Oper} {listed : Array Bool} {a : Act} {w : World} {E : Wh} {done later : List (Nat × Oper)} {blocked : List Nat} {todo rest : List (Nat × Oper)} {news : List (Nat × Nat)} {n0 : Nat} {ρ : Env} {m : Mem} {i : Nat} {o : Oper}
/-- A frame in which one more temporary is ahead of the machine's. -/
theorem Inv.ahead [Pins] (hV : VInv ops.toList done later blocked ((i, o) :: rest)) (h : Inv P ops listed a w E done news n0 ρ m) {d : Nat} (hd : o.dst = some d) (v : V) :
    ∃ ρr, ERel E ρr a.tmps.toList ∧ Agree (Pend ((i, o) :: done) listed) (put o.dst v ρ) ρr := by
  have hdone : ∀ j p, (j, p) ∈ done → i ≠ j := fun j p hj hij => by
    subst hij
    exact (hV.dx i p o hj).2 (by simp)
  obtain ⟨ρr, h1, h2⟩ := h.env
  refine ⟨ρr, h1, ?_, ?_⟩
  · intro x; rw [hd]; simp only [put, Tr.look_set]; split
    · rw [Option.isSome_map]; exact h2.1 x
    · exact h2.1 x
  · intro x hx
    rw [hd]
    simp only [put]
    have hxd : d ≠ x := fun he => by
      subst he
      refine hx ⟨i, o, by simp, ?_, hd⟩
      cases hl : listed.getD i false with
      | false => rfl
      | true =>
        obtain ⟨p, hp'⟩ := h.sub i hl
        exact absurd rfl (hdone i p hp')
    rw [Tr.look_set_ne _ hxd]
    exact h2.2 x fun ⟨j, p, g1, g2, g3⟩ => hx ⟨j, p, by simp [g1], g2, g3⟩
/-- The evaluator takes one more that changes nothing; the machine stays. -/
theorem Inv.pure [Pins] (hT : Text ops.toList) (hV : VInv ops.toList done later blocked ((i, o) :: rest)) (h : Inv P ops listed a w E done news n0 ρ m) (hp : pureOp o = true) {v : V} (hv : again P ops.toList o ρ m = some (true, v)) :
    Inv P ops listed a w E ((i, o) :: done) news n0 (put o.dst v ρ) m := by
  have hpe : earlyOp o = true := by unfold earlyOp; rw [hp]; rfl
  have hio := hV.tl i o (by simp)
  obtain ⟨d, hd⟩ := hT.pd i o hio hpe
  have hdone : ∀ j p, (j, p) ∈ done → i ≠ j := fun j p hj hij => by
    subst hij
    exact (hV.dx i p o hj).2 (by simp)
  refine ⟨h.sim, h.size, fun j hj => ?_, ?_, h.place, h.dist, fun j kb hj => ?_, h.long, h.cl, h.ahead hV hd v⟩
  · obtain ⟨p, hp⟩ := h.sub j hj
    exact ⟨p, by simp [hp]⟩
  · intro j p hj hl
    rw [List.mem_cons] at hj
    rcases hj with hj | hj
    · cases hj
      refine ⟨hpe, d, hd, fun _ => ⟨v, ?_, ?_⟩, fun hh => by rw [hp] at hh; cases hh⟩
      · rw [← hv]
        refine (again_agree fun t ht => ?_).symm
        rw [hd]
        simp only [put]
        rw [Tr.look_set_ne _ (d := d)]
        intro he
        subst he
        have h1 := hT.rd _ _ _ _ _ hio hio hpe hd ht
        have h2 := hT.fwd _ _ _ hio h1
        omega
      · rw [hd]; simp [put, Tr.set_set]
    · obtain ⟨h1, d', h2, h3, h4⟩ := h.pend j p hj hl
      have hjl := hV.dl j p hj
      have hlk : ∀ t ∈ looks ops.toList p, (put o.dst v ρ).look t = ρ.look t := by
        intro t ht
        rw [hd]
        simp only [put]
        rw [Tr.look_set_ne _ (d := d)]
        intro he
        subst he
        have h5 := hT.rd _ _ _ _ _ hjl hio hpe hd ht
        obtain ⟨q, hq⟩ := hV.dc j p _ hj h5
        exact hdone _ _ hq rfl
      have hne : d ≠ d' := fun he => by
        subst he
        exact hT.wr _ _ _ _ _ hjl hio hpe hd (hdone j p hj) h2
      refine ⟨h1, d', h2, fun hpp => ?_, fun hpp => ?_⟩
      · obtain ⟨v', g1, g2⟩ := h3 hpp
        refine ⟨v', ?_, ?_⟩
        · rw [← g1]; exact (again_agree hlk).symm
        · rw [hd]
          simp only [put]
          rw [Tr.set_comm _ _ _ hne, g2]
      · rw [← h4 hpp]
        refine (sameNew_of hlk fun d0 hd0 => ?_).symm
        rw [h2] at hd0
        obtain rfl := Option.some.inj hd0
        rw [hd]
        simp only [put]
        rw [Tr.get_look, Tr.get_look, Tr.look_set_ne _ hne]
  · obtain ⟨p, hp'⟩ := h.nsub j kb hj
    exact ⟨p, by simp [hp']⟩
theorem afters_iff [Pins] {o : Oper} {k : Nat} : k ∈ afters o ↔ waitsFor o k = true := by
  unfold afters
  rw [waitsFor_iff]
  simp only [List.mem_map, List.mem_filter, bindsAny_eq]
  constructor
  · rintro ⟨e, ⟨he, hb⟩, rfl⟩; exact ⟨e, Array.mem_toList_iff.1 he, hb, rfl⟩
  · rintro ⟨e, he, hb, rfl⟩; exact ⟨e, ⟨Array.mem_toList_iff.2 he, hb⟩, rfl⟩
theorem stable_spec [Pins] {all : List Oper} (hcl : ∀ i p k, listed.getD i false = true → all[i]? = some p → waitsFor p k = true → listed.getD k false = true) : ∀ {l : List (Nat × Oper)} {R : List Nat}, (∀ i p, (i, p) ∈ l → all[i]? = some p) → (∀ k ∈ R, listed.getD k false = true) →
    stable P all news R l ρ m = true → ∀ j p, (j, p) ∈ l → listed.getD j false = false → (pureOp p = true → ∃ d v, p.dst = some d ∧ again P all p ρ m = some (true, v) ∧ ρ.set d v = ρ) ∧ (pureOp p = false → freeOp p = true → sameNew P all news j p ρ m = true)
  | [], R, _, _, _, j, p, hj, _ => by simp at hj
  | (k, q) :: l, R, hl, hR, h, j, p, hj, hw => by
    simp only [stable] at h
    have hl' : ∀ i p, (i, p) ∈ l → all[i]? = some p := fun i p hi => hl i p (by simp [hi])
    cases hk : mem? k R with
    | true =>
      rw [hk] at h
      have hkl := hR k (mem?_iff.1 hk)
      rw [List.mem_cons] at hj
      rcases hj with hj | hj
      · cases hj; rw [hkl] at hw; cases hw
      · refine stable_spec hcl hl' (fun x hx => ?_) h j p hj hw
        rw [List.mem_append] at hx
        rcases hx with hx | hx
        · exact hcl k q x hkl (hl k q (by simp)) (afters_iff.1 hx)
        · exact hR x hx
    | false =>
      rw [hk] at h
      simp only [Bool.and_eq_true] at h
      rw [List.mem_cons] at hj
      rcases hj with hj | hj
      · cases hj
        have h1 := h.1
        refine ⟨fun hp => ?_, fun hp hf => ?_⟩
        · rw [hp] at h1
          simp only at h1
          split at h1
          · rename_i c v d hv hd
            simp only [Bool.and_eq_true] at h1
            obtain ⟨rfl, h2⟩ := h1
            refine ⟨d, v, hd, hv, ?_⟩
            have he := V.same_eq h2
            rw [← he, Tr.set_get]
          · cases h1
        · rw [hp, hf] at h1
          exact h1
      · exact stable_spec hcl hl' hR h.2 j p hj hw
/-- The evaluator lays one more new block; the machine stays. -/
theorem Inv.free [Pins] (hT : Text ops.toList) (hV : VInv ops.toList done later blocked ((i, o) :: rest)) (h : Inv P ops listed a w E done news n0 ρ m) (hpe : earlyOp o = true) (hp : pureOp o = false) {v : V} {m' : Mem} (hm : m' = m ∨ ∃ b, m' = m ++ [b])
    (hst : stable P ops.toList (newsOf i m m' news) [] ((i, o) :: done) (put o.dst v ρ) m' = true) : Inv P ops listed a w E ((i, o) :: done) (newsOf i m m' news) n0 (put o.dst v ρ) m' := by
  have hio := hV.tl i o (by simp)
  obtain ⟨d, hd⟩ := hT.pd i o hio hpe
  have hdone : ∀ j p, (j, p) ∈ done → i ≠ j := fun j p hj hij => by
    subst hij
    exact (hV.dx i p o hj).2 (by simp)
  have hlen : m.length ≤ m'.length := by rcases hm with rfl | ⟨b, rfl⟩ <;> simp
  have hnot : ∀ kb, lookN i news ≠ some kb := fun kb hkb => by
    obtain ⟨p, hp'⟩ := h.nsub i kb hkb
    exact hdone i p hp' rfl
  refine ⟨?_, h.size, fun j hj => ?_, ?_, ?_, ?_, ?_, Nat.le_trans h.long hlen, h.cl, h.ahead hV hd v⟩
  · rcases hm with rfl | ⟨b, rfl⟩
    · exact h.sim
    · exact h.sim.more b
  · obtain ⟨p, hp⟩ := h.sub j hj
    exact ⟨p, by simp [hp]⟩
  · intro j p hj hl
    have hs := stable_spec (listed := listed) (fun i p k g1 g2 g3 => h.cl i p k g1 (by simpa using g2) g3) (l := (i, o) :: done) (R := []) (by
      intro i' p' hi'
      rw [List.mem_cons] at hi'
      rcases hi' with hi' | hi'
      · cases hi'; exact hio
      · exact hV.dl i' p' hi') (by simp) hst j p hj hl
    have hep : earlyOp p = true := by
      rw [List.mem_cons] at hj
      rcases hj with hj | hj
      · cases hj; exact hpe
      · exact (h.pend j p hj hl).1
    have hjl : ops.toList[j]? = some p := by
      rw [List.mem_cons] at hj
      rcases hj with hj | hj
      · cases hj; exact hio
      · exact hV.dl j p hj
    obtain ⟨d', hd'⟩ := hT.pd j p hjl hep
    refine ⟨hep, d', hd', fun hpp => ?_, fun hpp => hs.2 hpp (early_free hep hpp)⟩
    obtain ⟨d2, v2, g1, g2, g3⟩ := hs.1 hpp
    rw [hd'] at g1
    obtain rfl := Option.some.inj g1
    exact ⟨v2, g2, g3⟩
  · intro j kb hj
    rcases lookN_newsOf hj with hj | ⟨rfl, rfl, hne⟩
    · obtain ⟨g1, g2, g3⟩ := h.place j kb hj
      exact ⟨g1, by omega, g3⟩
    · refine ⟨h.long, by omega, fun _ => ?_⟩
      cases hE : E m.length with
      | none => rfl
      | some e => have := h.sim.lt hE; omega
  · intro j j' kb hj hj'
    rcases lookN_newsOf hj with hj | ⟨h1, h2, _⟩
    · rcases lookN_newsOf hj' with hj' | ⟨h3, h4, _⟩
      · exact h.dist j j' kb hj hj'
      · have := (h.place j kb hj).2.1; omega
    · rcases lookN_newsOf hj' with hj' | ⟨h3, h4, _⟩
      · have := (h.place j' kb hj').2.1; omega
      · omega
  · intro j kb hj
    rcases lookN_newsOf hj with hj | ⟨rfl, _, _⟩
    · obtain ⟨p, hp'⟩ := h.nsub j kb hj
      exact ⟨p, by simp [hp']⟩
    · exact ⟨o, by simp⟩
/-- The evaluator where nothing more can be taken at once. -/
def Halt (P : Program) (C : CC) (Y : YC) (KP : V → Env → Mem → Prop) (ops : Array Oper) (n : Nat) (done later : List (Nat × Oper)) (news : List (Nat × Nat)) (ρ : Env) (m : Mem) (K : Env → Mem → Prop) : Prop :=
  match later.reverse with
  | [] => K ρ m
  | (i, o) :: rest =>
    match earlyOp o with
    | false => cstep P C Y (fun p ρ m => KP p (undefs (earlyD ops.toList) ρ) m) ops.toList o ρ m fun ρ m => (match stable P ops.toList news (afters o) done ρ m with | true => cdraw P C Y KP ops.toList n ((i, o) :: done) [] [] rest news ρ m K | false => False)
    | true => False
theorem norm [Pins] (hT : Text ops.toList) (K : Env → Mem → Prop) : ∀ (n : Nat) (done later : List (Nat × Oper)) (blocked : List Nat) (todo : List (Nat × Oper)) (news : List (Nat × Nat)) (ρ : Env) (m : Mem),
    VInv ops.toList done later blocked todo → cdraw P C Y KP ops.toList n done later blocked todo news ρ m K → Inv P ops listed a w E done news n0 ρ m →
    ∃ n' done' later' blocked' news' ρ' m', VInv ops.toList done' later' blocked' [] ∧ Inv P ops listed a w E done' news' n0 ρ' m' ∧ Halt P C Y KP ops n' done' later' news' ρ' m' K ∧ ∃ l, m' = m ++ l
  | 0, done, later, blocked, todo, news, ρ, m, hV, h, hI => by simp [cdraw] at h
  | n + 1, done, later, blocked, [], news, ρ, m, hV, h, hI => by
    simp only [cdraw] at h
    exact ⟨n, done, later, blocked, news, ρ, m, hV, hI, h, [], by simp⟩
  | n + 1, done, later, blocked, (i, o) :: rest, news, ρ, m, hV, h, hI => by
    simp only [cdraw] at h
    cases hb : earlyOp o && !waitsOne o blocked with
    | true =>
      rw [hb] at h
      simp only [Bool.and_eq_true, Bool.not_eq_true'] at hb
      cases hp : pureOp o with
      | true =>
        rw [hp] at h
        obtain ⟨v, hv, h⟩ := cstep_pure hp h
        exact norm hT K n _ _ _ _ _ _ _ (hV.pure hT hb.1 hb.2) h (hI.pure hT hV hp hv)
      | false =>
        rw [hp] at h
        obtain ⟨v, m', hm, h⟩ := cstep_free (early_free hb.1 hp) h
        cases hs : stable P ops.toList (newsOf i m m' news) [] ((i, o) :: done) (put o.dst v ρ) m' with
        | false => rw [hs] at h; cases h
        | true =>
          rw [hs] at h
          obtain ⟨n', d', l', b', nw', ρ', m2, g1, g2, g3, l, rfl⟩ := norm hT K n _ _ _ _ _ _ _ (hV.pure hT hb.1 hb.2) h (hI.free hT hV hb.1 hp hm hs)
          refine ⟨n', d', l', b', nw', ρ', _, g1, g2, g3, ?_⟩
          rcases hm with rfl | ⟨b, rfl⟩
          · exact ⟨l, rfl⟩
          · exact ⟨b :: l, by simp⟩
    | false =>
      rw [hb] at h
      exact norm hT K n _ _ _ _ _ _ _ (hV.put hb) h hI
/-- What is ready looks at nothing that the machine is behind with. -/
theorem ready_looks [Pins] (hT : Text ops.toList) (hV : VInv ops.toList done later blocked []) (hI : Inv P ops listed a w E done news n0 ρ m) {j : Nat} {p : Oper} (hp : ops[j]? = some p) (hw : ∀ k, waitsFor p k = true → listed.getD k false = true) : ∀ t ∈ looks ops.toList p, ¬ Pend done listed t := by
  rintro t ht ⟨i, o, h1, h2, h3⟩
  have hio := hV.dl i o h1
  obtain ⟨ho, _⟩ := hI.pend i o h1 h2
  have := hw i (hT.rd j p i o t (by simpa using hp) hio ho h3 ht)
  rw [h2] at this
  cases this
/-- How many the machine has still to do. -/
def unl (ops : Array Oper) (listed : Array Bool) : Nat := ((List.range ops.size).filter fun i => !listed.getD i true).length
theorem filter_less [Pins] {α : Type} {p q : α → Bool} : ∀ {l : List α} {x : α}, (∀ y, q y = true → p y = true) → x ∈ l → p x = true → q x = false → (l.filter q).length < (l.filter p).length
  | [], x, _, h, _, _ => by simp at h
  | y :: l, x, hq, hx, hpx, hqx => by
    have hle : ∀ l : List α, (l.filter q).length ≤ (l.filter p).length := by
      intro l
      induction l with
      | nil => simp
      | cons z l ih =>
        simp only [List.filter_cons]
        cases hz : q z with
        | true => simp [hq z hz]; exact ih
        | false => cases p z <;> simp <;> omega
    rw [List.mem_cons] at hx
    simp only [List.filter_cons]
    rcases hx with rfl | hx
    · have := hle l
      simp [hpx, hqx]
      omega
    · have := filter_less hq hx hpx hqx
      cases hy : q y with
      | true => simp [hq y hy]; exact this
      | false => cases p y <;> simp <;> omega
theorem unl_set [Pins] {j : Nat} (hs : listed.size = ops.size) (hj : j < ops.size) (hl : listed.getD j true = false) : unl ops (listed.setIfInBounds j true) < unl ops listed := by
  refine filter_less (x := j) (fun y hy => ?_) (by simpa using hj) (by simp [hl]) ?_
  · by_cases he : j = y
    · subst he; simp [hl]
    · rw [getD_set_ne _ he] at hy; exact hy
  · simp [hs, hj]
theorem unl_zero [Pins] (h : unl ops listed = 0) : ∀ i, i < ops.size → listed.getD i true = true := by
  intro i hi
  unfold unl at h
  rw [List.length_eq_zero_iff, List.filter_eq_nil_iff] at h
  have := h i (by simpa using hi)
  simpa using this
theorem ready_some [Pins] (hT : Text ops.toList) (hs : listed.size = ops.size) : ∀ (n j : Nat), j < n → j < ops.size → listed.getD j true = false → Region.ready .any ops listed ≠ []
  | 0, j, hn, _, _ => by omega
  | n + 1, j, hn, hj, hl => by
    intro hr
    by_cases hall : ∀ e ∈ ops[j].after, Region.binds .any e = true → listed.getD e.on false = true
    · have : j ∈ Region.ready .any ops listed := mem_ready.2 ⟨hl, ops[j], by simp [hj], hall⟩
      rw [hr] at this
      simp at this
    · obtain ⟨e, he⟩ := Classical.not_forall.1 hall
      obtain ⟨h1, he⟩ := Classical.not_imp.1 he
      obtain ⟨h2, h3⟩ := Classical.not_imp.1 he
      have hlt := hT.fwd j ops[j] e.on (by simp [hj]) (waitsFor_iff.2 ⟨e, h1, h2, rfl⟩)
      refine ready_some hT hs n e.on (by omega) (by omega) ?_ hr
      have hes : e.on < listed.size := by omega
      simp [hes] at h3 ⊢
      exact h3
theorem waits_listed [Pins] {j : Nat} {p : Oper} (hp : ops[j]? = some p) (h : j ∈ Region.ready .any ops listed) : ∀ k, waitsFor p k = true → listed.getD k false = true := by
  obtain ⟨_, o, ho, hall⟩ := mem_ready.1 h
  rw [hp] at ho
  obtain rfl := Option.some.inj ho
  intro k hk
  obtain ⟨e, he, hb, rfl⟩ := waitsFor_iff.1 hk
  exact hall e he hb
theorem cl_set [Pins] (hs : listed.size = ops.size) (hcl : ∀ i o k, listed.getD i false = true → ops[i]? = some o → waitsFor o k = true → listed.getD k false = true) (ho : ops[i]? = some o) (hw : ∀ k, waitsFor o k = true → listed.getD k false = true) :
    ∀ j p k, (listed.setIfInBounds i true).getD j false = true → ops[j]? = some p → waitsFor p k = true → (listed.setIfInBounds i true).getD k false = true := by
  intro j p k hj hp hk
  refine getD_set_true ?_
  by_cases he : i = j
  · subst he
    rw [ho] at hp
    obtain rfl := Option.some.inj hp
    exact hw k hk
  · rw [getD_set_ne _ he] at hj
    exact hcl j p k hj hp hk
/-- The machine does one that it was behind with. -/
theorem Inv.catch [Pins] (hV : VInv ops.toList done later blocked []) (h : Inv P ops listed a w E done news n0 ρ m) (hw : ∀ k, waitsFor o k = true → listed.getD k false = true) (hi : (i, o) ∈ done) (hl : listed.getD i true = false) {ρr : Env} (hag : Agree (Pend done listed) ρ ρr)
    {v : V} {d : Nat} (hd : o.dst = some d) (hs : ρ.set d v = ρ) {cv : Value} {E' : Wh} {w' : World} (hsim : Sim E' m w') (hE : ∀ j kb, j ≠ i → lookN j news = some kb → E kb = none → E' kb = none) (hv : VRel E' v cv) (hρ : ERel E' ρr a.tmps.toList) :
    Inv P ops (listed.setIfInBounds i true) (a.put o.dst cv) w' E' done news n0 ρ m := by
  have hio := hV.dl i o hi
  have hlt : i < listed.size := by
    rcases Nat.lt_or_ge i listed.size with hh | hh
    · exact hh
    · simp [Array.getElem?_eq_none hh] at hl
  refine ⟨hsim, by simp [h.size], ?_, ?_, ?_, h.dist, h.nsub, h.long, cl_set h.size h.cl (by simpa using hio) hw, ?_⟩
  · intro j hj
    by_cases he : i = j
    · subst he; exact ⟨o, hi⟩
    · rw [getD_set_ne _ he] at hj; exact h.sub j hj
  · intro j p hj hlj
    by_cases he : i = j
    · subst he
      simp [hlt] at hlj
    · rw [getD_set_ne _ he] at hlj; exact h.pend j p hj hlj
  · intro j kb hj
    obtain ⟨g1, g2, g3⟩ := h.place j kb hj
    refine ⟨g1, g2, fun hlj => ?_⟩
    by_cases he : i = j
    · subst he
      simp [hlt] at hlj
    · rw [getD_set_ne _ he] at hlj
      exact hE j kb (fun hh => he hh.symm) hj (g3 hlj)
  · refine ⟨ρr.set d v, ?_, ?_, ?_⟩
    · have := put_rel (o := o) hρ hv
      simpa [hd, put] using this
    · intro x; rw [Tr.look_set]; split
      · rw [Option.isSome_map]; exact hag.1 x
      · exact hag.1 x
    · intro x hx
      by_cases hxd : d = x
      · subst hxd
        rw [← hs]
        rw [Tr.look_set_self, Tr.look_set_self]
        have := hag.1 d
        cases h1 : ρr.look d <;> cases h2 : ρ.look d <;> simp_all
      · rw [Tr.look_set_ne _ hxd]
        refine hag.2 x fun ⟨j, p, g1, g2, g3⟩ => hx ⟨j, p, g1, ?_, g3⟩
        by_cases he : i = j
        · subst he
          have := hV.dl i p g1
          rw [hio] at this
          obtain rfl := Option.some.inj this
          rw [hd] at g3
          exact absurd (Option.some.inj g3) hxd
        · rw [getD_set_ne _ he]; exact g2
/-- Both do the same one that changes something. -/
theorem Inv.eff [Pins] (hT : Text ops.toList) (hV : VInv ops.toList done later blocked []) (hl : later.reverse = (i, o) :: rest) (h : Inv P ops listed a w E done news n0 ρ m) (hw : ∀ k, waitsFor o k = true → listed.getD k false = true)
    {v : V} {ρ' ρr' : Env} {m' : Mem} (hag : Agree (Pend done listed) ρ' ρr') (hst : stable P ops.toList news (afters o) done (put o.dst v ρ') m' = true)
    {cv : Value} {E' : Wh} {w' : World} (hs : Sim E' m' w') (hlen : m.length ≤ m'.length) (hgone : ∀ k, k < m.length → E k = none → E' k = none) (hv : VRel E' v cv) (hρ : ERel E' ρr' a.tmps.toList) :
    Inv P ops (listed.setIfInBounds i true) (a.put o.dst cv) w' E' ((i, o) :: done) news n0 (put o.dst v ρ') m' := by
  obtain ⟨h1, h2, h3, _⟩ := hV.first hl
  have hdone : ∀ j p, (j, p) ∈ done → i ≠ j := fun j p hj hij => by
    subst hij
    exact (hV.dx i p o hj).1 h1
  have hio := hV.ll i o h1
  have hlt : i < listed.size := by
    have := (List.getElem?_eq_some_iff.1 hio).1
    rw [h.size]; simpa using this
  refine ⟨hs, by simp [h.size], ?_, ?_, ?_, h.dist, fun j kb hj => (h.nsub j kb hj).imp fun p hp => by simp [hp], Nat.le_trans h.long hlen, cl_set h.size h.cl (by simpa using hio) hw, ?_⟩
  · intro j hj
    by_cases he : i = j
    · subst he; exact ⟨o, by simp⟩
    · rw [getD_set_ne _ he] at hj
      obtain ⟨p, hp⟩ := h.sub j hj
      exact ⟨p, by simp [hp]⟩
  · intro j p hj hlj
    rw [List.mem_cons] at hj
    rcases hj with hj | hj
    · cases hj; simp [hlt] at hlj
    · rw [getD_set_ne _ (hdone j p hj)] at hlj
      obtain ⟨hp, d', hd', _⟩ := h.pend j p hj hlj
      have hsp := stable_spec (listed := listed) (fun i p k g1 g2 g3 => h.cl i p k g1 (by simpa using g2) g3) (fun i p hi => hV.dl i p hi) (fun k hk => hw k (afters_iff.1 hk)) hst j p hj hlj
      refine ⟨hp, d', hd', fun hpp => ?_, fun hpp => hsp.2 hpp (early_free hp hpp)⟩
      obtain ⟨d2, v2, g1, g2, g3⟩ := hsp.1 hpp
      rw [hd'] at g1
      obtain rfl := Option.some.inj g1
      exact ⟨v2, g2, g3⟩
  · intro j kb hj
    obtain ⟨g1, g2, g3⟩ := h.place j kb hj
    refine ⟨g1, by omega, fun hlj => hgone kb g2 (g3 ?_)⟩
    obtain ⟨p, hp⟩ := h.nsub j kb hj
    rw [getD_set_ne _ (hdone j p hp)] at hlj
    exact hlj
  · refine ⟨put o.dst v ρr', put_rel hρ hv, ?_⟩
    have := hag.put o.dst v
    refine ⟨this.1, fun x hx => this.2 x fun ⟨j, p, g1, g2, g3⟩ => hx ⟨j, p, by simp [g1], ?_, g3⟩⟩
    rw [getD_set_ne _ (hdone j p g1)]; exact g2
theorem draw_main [Pins] (hN : Named P) (hC : CallsOk P C) (hY : YieldsOk P Y) (hT : Text ops.toList) (K : Env → Mem → Prop) {E0 : Wh} {m0 : Mem} {w0 : World} {J : Act → Prop} (hJ : ∀ o ∈ ops.toList, ∀ a v, J a → J (a.put o.dst v)) {Q : Exit → Act → World → Prop}
    (hQ : ∀ ρ' m' E' a' w', K ρ' m' → Step E0 m0 w0 E' m' w' → ERel E' ρ' a'.tmps.toList → J a' → Q .normal a' w')
    (hPQ : ∀ p ρ' m' E' a' w' c, KP p ρ' m' → Step E0 m0 w0 E' m' w' → VRel E' p c → ERel E' ρ' a'.tmps.toList → J a' → Q (.panic [{ v := c, recovered := false }]) a' w') :
    ∀ (F n : Nat) (done later : List (Nat × Oper)) (blocked : List Nat) (news : List (Nat × Nat)) (ρ : Env) (m : Mem) (listed : Array Bool) (a : Act) (w : World) (E : Wh),
      VInv ops.toList done later blocked [] → Inv P ops listed a w E done news m0.length ρ m → Halt P C Y KP ops n done later news ρ m K → unl ops listed ≤ F → Step E0 m0 w0 E m w → J a →
      wpAnyIn (FW r) 0 P .any ops Q F listed a w := by
  intro F
  induction F with
  | zero =>
    intro n done later blocked news ρ m listed a w E hV hI hH hu hst hd
    have hall := unl_zero (Nat.le_zero.1 hu)
    have hr : Region.ready .any ops listed = [] := by
      cases hr : Region.ready .any ops listed with
      | nil => rfl
      | cons j l =>
        have hj : j ∈ Region.ready .any ops listed := by rw [hr]; simp
        obtain ⟨h1, o, ho, _⟩ := mem_ready.1 hj
        rw [hall j (Array.getElem?_eq_some_iff.1 ho).1] at h1
        cases h1
    refine ⟨hr, ?_⟩
    have hfull : ∀ i, i < ops.size → listed.getD i false = true := fun i hi => by
      have := hall i hi
      have hs : i < listed.size := by rw [hI.size]; exact hi
      simp [hs] at this ⊢
      exact this
    unfold Halt at hH
    split at hH
    · rename_i hl
      obtain ⟨ρr, h1, h2⟩ := hI.env
      have : ρr = ρ := by
        refine Tr.ext fun x => h2.2 x ?_
        rintro ⟨j, p, g1, g2, g3⟩
        have := hV.dl j p g1
        rw [hfull j (by simpa using (List.getElem?_eq_some_iff.1 this).1)] at g2
        cases g2
      subst this
      exact hQ _ _ _ _ _ hH hst h1 hd
    · rename_i i o rest hl
      obtain ⟨h1, _⟩ := hV.first hl
      have hio := hV.ll i o h1
      obtain ⟨p, hp⟩ := hI.sub i (hfull i (by simpa using (List.getElem?_eq_some_iff.1 hio).1))
      exact absurd h1 (hV.dx i p o hp).1
  | succ F ih =>
    intro n done later blocked news ρ m listed a w E hV hI hH hu hst hd
    refine ⟨fun hr => ?_, fun i hi => ?_⟩
    · have hfull : ∀ i, i < ops.size → listed.getD i true = true := fun i hi => by
        cases hl : listed.getD i true with
        | true => rfl
        | false => exact absurd hr (ready_some hT hI.size (i + 1) i (by omega) hi hl)
      have hfull' : ∀ i, i < ops.size → listed.getD i false = true := fun i hi => by
        have := hfull i hi
        have hs : i < listed.size := by rw [hI.size]; exact hi
        simp [hs] at this ⊢
        exact this
      unfold Halt at hH
      split at hH
      · rename_i hl
        obtain ⟨ρr, h1, h2⟩ := hI.env
        have : ρr = ρ := by
          refine Tr.ext fun x => h2.2 x ?_
          rintro ⟨j, p, g1, g2, g3⟩
          have := hV.dl j p g1
          rw [hfull' j (by simpa using (List.getElem?_eq_some_iff.1 this).1)] at g2
          cases g2
        subst this
        exact hQ _ _ _ _ _ hH hst h1 hd
      · rename_i i o rest hl
        obtain ⟨h1, _⟩ := hV.first hl
        have hio := hV.ll i o h1
        obtain ⟨p, hp⟩ := hI.sub i (hfull' i (by simpa using (List.getElem?_eq_some_iff.1 hio).1))
        exact absurd h1 (hV.dx i p o hp).1
    · obtain ⟨hli, o, ho, _⟩ := mem_ready.1 hi
      have hw := waits_listed ho hi
      have hsz : i < ops.size := (Array.getElem?_eq_some_iff.1 ho).1
      have hli' : listed.getD i false = false := by
        have hs : i < listed.size := by rw [hI.size]; exact hsz
        simp [hs] at hli ⊢
        exact hli
      have hu' : unl ops (listed.setIfInBounds i true) ≤ F := by
        have := unl_set hI.size hsz hli
        omega
      obtain ⟨ρr, hρr, hag⟩ := hI.env
      have hlk := ready_looks hT hV hI ho hw
      have hlooks : ∀ t ∈ looks ops.toList o, ρr.look t = ρ.look t := fun t ht => hag.2 t (hlk t ht)
      rcases hV.all i (by simpa using hsz) with ⟨p, hp⟩ | ⟨p, hp⟩ | ⟨p, hp⟩
      · -- the machine was behind with it
        have hpo : p = o := by
          have := hV.dl i p hp
          rw [Array.getElem?_toList, ho] at this
          exact (Option.some.inj this).symm
        subst hpo
        obtain ⟨hearly, d, hdst, hpu, hfr⟩ := hI.pend i p hp hli'
        cases hpure : pureOp p with
        | true =>
          obtain ⟨v, hag1, hset⟩ := hpu hpure
          rw [again_agree hlooks] at hag1
          refine again_wpOp hN hC hI.sim hρr ho hpure hag1 fun cv E' w' hst' hv hρ' => ?_
          exact ih n done later blocked news ρ m _ _ _ E' hV (hI.catch hV hw hp hli hag hdst hset hst'.sim (fun j kb _ hj h0 => hst'.gone kb (hI.place j kb hj).2.1 h0) hv hρ') hH hu' (hst.trans hst') (hJ _ (Array.mem_toList_iff.2 (Array.mem_of_getElem? ho)) _ _ hd)
        | false =>
          have hfree := early_free hearly hpure
          obtain ⟨d', hd', hcase⟩ := sameNew_spec hfree (hfr hpure)
          rw [hdst] at hd'
          obtain rfl := Option.some.inj hd'
          rcases hcase with ⟨hwant, hnone, hget⟩ | ⟨hwant, kb, v, b, hkb, hsop, hget, hlt, hmk⟩
          · rw [wantV_agree hlooks] at hwant
            refine unwanted_wpOp hρr ho hwant ?_
            exact ih n done later blocked news ρ m _ _ _ E hV (hI.catch hV hw hp hli hag (v := .tup []) hdst (by rw [← hget, Tr.set_get]) hI.sim (fun _ _ _ _ h0 => h0) (by simp [VRel, VsRel, undef]) hρr) hH hu' hst (hJ _ (Array.mem_toList_iff.2 (Array.mem_of_getElem? ho)) _ _ hd)
          · rw [wantV_agree hlooks] at hwant
            have hsop' : sop P p ρr m = some (true, v, ρr, m ++ [b]) := by
              have hsa := sop_agree (P := P) (m := m) hlooks
              rw [hsop] at hsa
              cases h2 : sop P p ρr m with
              | none => rw [h2] at hsa; cases hsa
              | some r =>
                obtain ⟨c, v', ρ1, m1⟩ := r
                rw [h2] at hsa
                simp only [Option.some.injEq, Prod.mk.injEq] at hsa
                obtain ⟨rfl, rfl, rfl⟩ := hsa
                obtain ⟨rfl, _⟩ := free_shape hfree h2
                rfl
            obtain ⟨hge, hlt', hE0⟩ := hI.place i kb hkb
            have hEk := hE0 hli'
            refine free_wpOp hI.sim hρr ho hfree hwant hsop' fun cv e w' hnew hv => ?_
            have hst' := hst.fill hnew hge hEk hmk
            have hmono : ∀ k x, E k = some x → upd E kb e k = some x := fun k x hx => by rw [upd_ne (fun hh => by subst hh; rw [hEk] at hx; cases hx)]; exact hx
            refine ih n done later blocked news ρ m _ _ _ (upd E kb e) hV (hI.catch hV hw hp hli hag (v := ρ.get d) hdst (Tr.set_get ..) hst'.sim (fun j kb' hne hj h0 => ?_) ?_ (hρr.mono hmono)) hH hu' hst' (hJ _ (Array.mem_toList_iff.2 (Array.mem_of_getElem? ho)) _ _ hd)
            · rw [upd_ne (fun hh => by subst hh; exact hne (hI.dist j i _ hj hkb))]; exact h0
            · rw [hget]
              exact hv.ren fun k _ j hj x hx => mvN_ok hEk k j hj x hx
      · -- it is the next one that changes something
        have hpo : p = o := by
          have := hV.ll i p hp
          rw [Array.getElem?_toList, ho] at this
          exact (Option.some.inj this).symm
        subst hpo
        have hnd : ∀ k q, (k, q) ∈ later → listed.getD k false = false := fun k q hk => by
          cases hh : listed.getD k false with
          | false => rfl
          | true =>
            obtain ⟨q', hq'⟩ := hI.sub k hh
            exact absurd hk (hV.dx k q' q hq').1
        unfold Halt at hH
        split at hH
        · rename_i hl
          rw [← List.mem_reverse, hl] at hp
          simp at hp
        · rename_i j q rest hl
          split at hH
          case h_2 => cases hH
          rename_i hq
          obtain ⟨h1, h2, h3, _⟩ := hV.first hl
          have hieq : (i, p) = (j, q) := by
            rcases (h2 i p).1 hp with hh | hh
            · exact hh
            · exfalso
              cases hpp : earlyOp p with
              | true =>
                obtain ⟨k, q', g1, g2⟩ := hV.lw i p hp hpp
                have := hw k g1
                rw [hnd k q' g2] at this
                cases this
              | false =>
                have hji := h3 i p hh
                obtain ⟨l, q', g1, g2, g3, g4, g5⟩ := hT.chain i p j q (hV.ll i p hp) hpp (hV.ll j q h1) hq hji
                have hl' : listed.getD l false = true := WaitsT.listed hI.cl g5 hw
                obtain ⟨q'', hq''⟩ := hI.sub l hl'
                have hqq : q'' = q' := by
                  have := hV.dl l q'' hq''
                  rw [g3] at this
                  exact (Option.some.inj this).symm
                subst hqq
                have := hV.ef l q'' j q hq'' g4 (.inl h1) hq
                omega
          cases hieq
          unfold wpOpIn
          rw [ho]
          simp only
          have hfin : ∀ (cv : Value) (v : V) (ρ' ρr' : Env) (m' : Mem) (E' : Wh) (w' : World), Agree (Pend done listed) ρ' ρr' → Step E m w E' m' w' → VRel E' v cv → ERel E' ρr' a.tmps.toList →
              (match stable P ops.toList news (afters p) done (put p.dst v ρ') m' with | true => cdraw P C Y KP ops.toList n ((i, p) :: done) [] [] rest news (put p.dst v ρ') m' K | false => False) →
              wpAnyIn (FW r) 0 P .any ops Q F (listed.setIfInBounds i true) (a.put p.dst cv) w' := by
            intro cv v ρ' ρr' m' E' w' hag' hst' hv hρ' hk
            cases hs : stable P ops.toList news (afters p) done (put p.dst v ρ') m' with
            | false => rw [hs] at hk; cases hk
            | true =>
              rw [hs] at hk
              have hI' := Inv.eff hT hV hl hI hw hag' hs hst'.sim hst'.len hst'.gone hv hρ'
              have hV' := hV.eff hT hl
              obtain ⟨n', done', later', blocked', news', ρ'', m'', hV'', hI'', hH'', lx, rfl⟩ := norm hT K n _ _ _ _ _ _ _ hV' hk hI'
              exact ih n' done' later' blocked' news' ρ'' _ _ _ _ E' hV'' hI'' hH'' hu' ((hst.trans hst').more lx) (hJ _ (Array.mem_toList_iff.2 (Array.mem_of_getElem? ho)) _ _ hd)
          unfold cstep at hH
          rcases cguard_cases hH with ⟨hwant, hH⟩ | ⟨hwant, hH⟩
          · rw [wantV_agree hlooks] at hwant
            rw [if_pos (wantV_rel hρr hwant)]
            refine Oper.wpIn_mono (fun a' w' ha => ?_) (cop_sound hN hC hY hI.sim hρr hag (opds_agree hlooks) hH Q ?_)
            · obtain ⟨cv, v, ρ', ρr', m', E', rfl, hk, hst', hv, hρ', hag'⟩ := ha
              exact hfin cv v ρ' ρr' m' E' w' hag' hst' hv hρ' hk
            · intro p' ρ' ρr' m' E' w' c hk hst' hv hρ' hag'
              refine hPQ p' _ m' E' a w' c hk (hst.trans hst') hv ?_ hd
              have hsub : Agree (· ∈ earlyD ops.toList) ρr' ρ' := by
                refine ⟨fun d => (hag'.1 d).symm, fun d hdn => (hag'.2 d fun ⟨k, q, g1, g2, g3⟩ => hdn ?_).symm⟩
                obtain ⟨hearly, _⟩ := hI.pend k q g1 g2
                have hq := hV.dl k q g1
                exact List.mem_filterMap.2 ⟨q, List.mem_of_getElem? hq, by rw [hearly]; exact g3⟩
              rw [undefs_agree hsub]
              exact undefs_rel hρ'
          · rw [wantV_agree hlooks] at hwant
            rw [if_neg (by rw [wantV_rel hρr hwant]; simp)]
            exact ⟨fun f _ => trivial, hfin undef (.tup []) ρ ρr m E w hag (Step.refl hI.sim) (by simp [VRel, VsRel, undef]) hρr hH⟩
      · simp at hp
/-- A region whose order is open. -/
theorem draw_sound [Pins] (hN : Named P) (hC : CallsOk P C) (hY : YieldsOk P Y) (hOk : drawOk P ops.toList = true) (K : Env → Mem → Prop) {J : Act → Prop} (hJ : ∀ o ∈ ops.toList, ∀ a v, J a → J (a.put o.dst v)) (hj : J a) {Q : Exit → Act → World → Prop} {n : Nat} {id : Nat} (hS : Sim E m w) (hρ : ERel E ρ a.tmps.toList)
    (h : cdraw P C Y KP ops.toList n [] [] [] (number 0 ops.toList) [] ρ m K)
    (hQ : ∀ ρ' m' E' a' w', K ρ' m' → Step E m w E' m' w' → ERel E' ρ' a'.tmps.toList → J a' → Q .normal a' w')
    (hPQ : ∀ p ρ' m' E' a' w' c, KP p ρ' m' → Step E m w E' m' w' → VRel E' p c → ERel E' ρ' a'.tmps.toList → J a' → Q (.panic [{ v := c, recovered := false }]) a' w') : (Code.region id ops true).wpIn (FW r) 0 P Q a w := by
  obtain ⟨hm, hT⟩ := drawOk_spec hOk
  refine wpIn_region_any hm ?_
  have hst : Step E m w E m { w with drawn := w.drawn + 1 } := by
    refine ⟨⟨fun k e he => ?_, hS.apart, hS.tab⟩, rfl, rfl, rfl, Nat.le_refl _, fun _ _ _ => rfl, fun _ hh _ => hh, Nat.le_refl _, fun k e he hc _ => ⟨k, e, he, hc, rfl⟩, fun k e he => ?_, fun _ _ h0 => h0⟩
    · obtain ⟨b, hb, hr⟩ := hS.blk k e he
      exact ⟨b, hb, hr.kept (fun _ _ h => h) (fun _ => rfl) (Nat.le_refl _)⟩
    · obtain ⟨b, hb, _⟩ := hS.blk k e he
      exact ⟨e, b, b, hb, hb, he, (fun hh => hh), (fun hh => hh), fun _ => rfl⟩
  have hI : Inv P ops (Array.replicate ops.size false) a { w with drawn := w.drawn + 1 } E [] [] m.length ρ m := by
    have hnone : ∀ i, (Array.replicate ops.size false).getD i false = true → False := fun i hi => by
      simp [Array.getD_eq_getD_getElem?, Array.getElem?_replicate] at hi
      split at hi <;> simp at hi
    refine ⟨hst.sim, by simp, fun i hi => (hnone i hi).elim, by simp, by simp [lookN], by simp [lookN], by simp [lookN], Nat.le_refl _, fun i o k hi => (hnone i hi).elim, ρ, hρ, Agree.refl _ _⟩
  obtain ⟨n', done', later', blocked', news', ρ', m', hV', hI', hH', lx, rfl⟩ := norm hT K n _ _ _ _ _ _ _ (VInv.start _) h hI
  refine draw_main hN hC hY hT K hJ hQ hPQ ops.size n' done' later' blocked' news' ρ' _ _ a _ E hV' hI' hH' ?_ (hst.more lx) hj
  unfold unl
  exact Nat.le_trans (List.length_filter_le _ _) (by simp)
end
end Go.Ab
