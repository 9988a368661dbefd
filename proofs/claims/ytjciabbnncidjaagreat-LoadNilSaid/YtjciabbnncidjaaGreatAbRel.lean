/- How abstract values, blocks and memories stand to a world: the relation, and what keeps it. -/
import Derived.Test.YtjciabbnncidjaaGreatAbDef
import Derived.Laws.OwnMore
import Derived.Laws.Rows
import Derived.Below
namespace Go.Ab
open Go

/-- Where a block lies: its concrete block, the first cell, the rows there is room for, the cells of a row, the rows that are known. -/
structure BE where
  blk : Nat
  off : Nat
  cr : Nat
  nc : Nat
  rows : Nat
abbrev Wh := Nat → Option BE

def bytesI (s : ByteArray) : List Int := s.data.toList.map fun c => (c.toNat : Int)

def CapOk (e : BE) (row : Nat) (cap : Option Nat) (c : Nat) : Prop :=
  match cap with
  | none => row + c = e.cr
  | some c0 => c = c0 ∧ row + c ≤ e.rows
def slN (e : BE) (row : Nat) (len : Option Nat) : Nat := match len with | some n => n | none => e.rows - row

/-- What is known to stand in some blocks of the heap, and is never written: a table of the library; what the variables of numbers are: no two are the same. -/
class Pins where
  pin : Nat → Prop
  holds : Nat → Obj → Prop
  num : Nat → Int
  ord : ∀ i j, i < j → num i < num j
mutual
def VRel [Pins] (E : Wh) : V → Value → Prop
  | .undef, _ => True
  | .B x, c => c = .bool x
  | .I k n, c => c = .int k n ∧ inR k n = true
  | .S xs, c => ∃ s, c = .string s ∧ bytesI s = xs ∧ s.size ≤ 9223372036854775807
  | .ptr k row fld, c => ∃ e, E k = some e ∧ row < e.rows ∧ c = .pointer (some ⟨e.blk, e.off + (row * e.nc + fld), none⟩)
  | .nilp, c => c = .pointer none
  | .sl k row len cap, c => ∃ e a q, E k = some e ∧ c = .slice a (slN e row len) q ∧ row + slN e row len ≤ e.rows ∧ slN e row len ≤ q ∧ CapOk e row cap q ∧ (q ≠ 0 → a = some ⟨e.blk, e.off + row * e.nc, none⟩)
  | .nils, c => c = .slice none 0 0
  | .agg vs, c => ∃ cs : Array Value, c = .agg cs ∧ VsRel E vs cs.toList ∧ ∀ u ∈ cs.toList, u.oneCell' = true
  | .tup vs, c => ∃ cs : Array Value, c = .tuple cs ∧ VsRel E vs cs.toList
  | .fn f a d, c => ∃ a' d' : Array Value, c = .func f a' d' ∧ VsRel E a a'.toList ∧ VsRel E d d'.toList
  | .nilf, c => c = .nilFunc
  | .ifc t v, c => ∃ c', c = .iface t c' ∧ VRel E v c'
  | .nili, c => c = .nilIface
  | .nilm, c => c = .map none
  | .mapp k, c => ∃ e, E k = some e ∧ c = .map (some e.blk)
  | .itp k, c => ∃ e, E k = some e ∧ c = .pointer (some ⟨e.blk, 0, none⟩)
  | .yv k, c => ∃ e, E k = some e ∧ c = .func (.yield e.blk) #[] #[]
  | .chp k, c => ∃ e, E k = some e ∧ c = .chan (some e.blk)
  | .L k i q b c d, x => x = .int k (q * c + d) ∧ inR k (q * c + d) = true ∧ q = Pins.num i ∧ 0 ≤ q ∧ q < b
  | .pan _, _ => False
def VsRel [Pins] (E : Wh) : List V → List Value → Prop
  | [], cs => cs = []
  | v :: vs, cs => ∃ c cs', cs = c :: cs' ∧ VRel E v c ∧ VsRel E vs cs'
end

/-! ## Lists of values -/
theorem VsRel.length [Pins] {E : Wh} : ∀ {vs : List V} {cs : List Value}, VsRel E vs cs → vs.length = cs.length
  | [], cs, h => by simp [VsRel] at h; simp [h]
  | v :: vs, cs, h => by
    simp only [VsRel] at h
    obtain ⟨c, cs', rfl, _, h'⟩ := h
    simp [h'.length]
theorem VsRel.look [Pins] {E : Wh} : ∀ {vs : List V} {cs : List Value}, VsRel E vs cs → ∀ (j : Nat) (v : V), vs[j]? = some v → ∃ c, cs[j]? = some c ∧ VRel E v c
  | [], cs, h, j, v, hv => by simp at hv
  | v0 :: vs, cs, h, j, v, hv => by
    simp only [VsRel] at h
    obtain ⟨c, cs', rfl, h0, h'⟩ := h
    cases j with
    | zero => simp at hv; subst hv; exact ⟨c, rfl, h0⟩
    | succ j => simpa using h'.look j v (by simpa using hv)
theorem VsRel.of [Pins] {E : Wh} : ∀ {vs : List V} {cs : List Value}, vs.length = cs.length → (∀ (j : Nat) (v : V), vs[j]? = some v → ∃ c, cs[j]? = some c ∧ VRel E v c) → VsRel E vs cs
  | [], cs, hl, _ => by simp only [VsRel]; exact List.eq_nil_of_length_eq_zero (by simpa using hl.symm)
  | v :: vs, [], hl, _ => by simp at hl
  | v :: vs, c :: cs, hl, h => by
    simp only [VsRel]
    obtain ⟨c', hc', hr⟩ := h 0 v rfl
    simp at hc'
    subst hc'
    exact ⟨c, cs, rfl, hr, VsRel.of (by simpa using hl) fun j w hw => by simpa using h (j + 1) w (by simpa using hw)⟩
theorem VsRel.app [Pins] {E : Wh} : ∀ {vs ws : List V} {cs ds : List Value}, VsRel E vs cs → VsRel E ws ds → VsRel E (vs ++ ws) (cs ++ ds)
  | [], ws, cs, ds, h, h' => by simp only [VsRel] at h; subst h; simpa using h'
  | v :: vs, ws, cs, ds, h, h' => by
    simp only [VsRel] at h
    obtain ⟨c, cs', rfl, h0, h1⟩ := h
    simp only [List.cons_append, VsRel]
    exact ⟨c, cs' ++ ds, rfl, h0, h1.app h'⟩
theorem VsRel.take [Pins] {E : Wh} : ∀ (n : Nat) {vs : List V} {cs : List Value}, VsRel E vs cs → VsRel E (vs.take n) (cs.take n)
  | 0, vs, cs, _ => by simp [VsRel]
  | n + 1, [], cs, h => by simp only [VsRel] at h; subst h; simp [VsRel]
  | n + 1, v :: vs, cs, h => by
    simp only [VsRel] at h
    obtain ⟨c, cs', rfl, h0, h1⟩ := h
    simp only [List.take_succ_cons, VsRel]
    exact ⟨c, _, rfl, h0, h1.take n⟩
theorem VsRel.drop [Pins] {E : Wh} : ∀ (n : Nat) {vs : List V} {cs : List Value}, VsRel E vs cs → VsRel E (vs.drop n) (cs.drop n)
  | 0, vs, cs, h => by simpa using h
  | n + 1, [], cs, h => by simp only [VsRel] at h; subst h; simp [VsRel]
  | n + 1, v :: vs, cs, h => by
    simp only [VsRel] at h
    obtain ⟨c, cs', rfl, h0, h1⟩ := h
    simpa using h1.drop n
theorem VsRel.map [Pins] {E : Wh} {α : Type} (f : α → V) (g : α → Value) : ∀ (l : List α), (∀ x ∈ l, VRel E (f x) (g x)) → VsRel E (l.map f) (l.map g)
  | [], _ => by simp [VsRel]
  | x :: l, h => by
    simp only [List.map_cons, VsRel]
    exact ⟨_, _, rfl, h x (by simp), VsRel.map f g l fun y hy => h y (by simp [hy])⟩
theorem VsRel.set [Pins] {E : Wh} {v : V} {c : Value} (hv : VRel E v c) : ∀ (j : Nat) {vs : List V} {cs : List Value}, VsRel E vs cs → VsRel E (vs.set j v) (cs.set j c)
  | _, [], cs, h => by simp only [VsRel] at h; subst h; simp [VsRel]
  | 0, v0 :: vs, cs, h => by
    simp only [VsRel] at h
    obtain ⟨c0, cs', rfl, _, h1⟩ := h
    simp only [List.set_cons_zero, VsRel]
    exact ⟨c, cs', rfl, hv, h1⟩
  | j + 1, v0 :: vs, cs, h => by
    simp only [VsRel] at h
    obtain ⟨c0, cs', rfl, h0, h1⟩ := h
    simp only [List.set_cons_succ, VsRel]
    exact ⟨c0, _, rfl, h0, VsRel.set hv j h1⟩
theorem VsRel.reps [Pins] {E : Wh} {v : V} {c : Value} (hv : VRel E v c) : ∀ (n : Nat), VsRel E (List.replicate n v) (List.replicate n c)
  | 0 => by simp [VsRel]
  | n + 1 => by simp only [List.replicate_succ, VsRel]; exact ⟨c, _, rfl, hv, VsRel.reps hv n⟩
theorem VsRel.getD [Pins] {E : Wh} {vs : List V} {cs : List Value} (h : VsRel E vs cs) (j : Nat) (d : Value) : VRel E (vs.getD j .undef) (cs.getD j d) := by
  simp only [List.getD_eq_getElem?_getD]
  cases hv : vs[j]? with
  | none => simp [VRel]
  | some v => obtain ⟨c, hc, hr⟩ := h.look j v hv; simpa [hc] using hr

/-! ## Other places -/
mutual
theorem VRel.ren [Pins] {E E' : Wh} {π : Nat → Option Nat} : ∀ {v : V} {c : Value}, (∀ k ∈ V.refs v, ∀ j, π k = some j → ∀ e, E k = some e → E' j = some e) → VRel E v c → VRel E' (V.ren π v) c
  | .undef, c, _, _ => by simp [V.ren, VRel]
  | .B x, c, _, h => by simpa [V.ren, VRel] using h
  | .I k n, c, _, h => by simpa [V.ren, VRel] using h
  | .S xs, c, _, h => by simpa [V.ren, VRel] using h
  | .ptr k r f, c, hE, h => by
    simp only [V.ren]
    split
    · rename_i j hj
      simp only [VRel] at h ⊢
      obtain ⟨e, h1, h2⟩ := h
      exact ⟨e, hE k (by simp [V.refs]) j hj e h1, h2⟩
    · simp [VRel]
  | .nilp, c, _, h => by simpa [V.ren, VRel] using h
  | .sl k r l q, c, hE, h => by
    simp only [V.ren]
    split
    · rename_i j hj
      simp only [VRel] at h ⊢
      obtain ⟨e, a, q', h1, h2⟩ := h
      exact ⟨e, a, q', hE k (by simp [V.refs]) j hj e h1, h2⟩
    · simp [VRel]
  | .nils, c, _, h => by simpa [V.ren, VRel] using h
  | .agg vs, c, hE, h => by
    simp only [V.ren, VRel] at h ⊢
    obtain ⟨cs, h1, h2, h3⟩ := h
    exact ⟨cs, h1, VsRel.ren (fun k hk => hE k (by simpa [V.refs] using hk)) h2, h3⟩
  | .tup vs, c, hE, h => by
    simp only [V.ren, VRel] at h ⊢
    obtain ⟨cs, h1, h2⟩ := h
    exact ⟨cs, h1, VsRel.ren (fun k hk => hE k (by simpa [V.refs] using hk)) h2⟩
  | .fn f a d, c, hE, h => by
    simp only [V.ren, VRel] at h ⊢
    obtain ⟨a', d', h1, h2, h3⟩ := h
    exact ⟨a', d', h1, VsRel.ren (fun k hk => hE k (by simp [V.refs, hk])) h2, VsRel.ren (fun k hk => hE k (by simp [V.refs, hk])) h3⟩
  | .nilf, c, _, h => by simpa [V.ren, VRel] using h
  | .ifc t v, c, hE, h => by
    simp only [V.ren, VRel] at h ⊢
    obtain ⟨c', h1, h2⟩ := h
    exact ⟨c', h1, VRel.ren (fun k hk => hE k (by simpa [V.refs] using hk)) h2⟩
  | .nili, c, _, h => by simpa [V.ren, VRel] using h
  | .nilm, c, _, h => by simpa [V.ren, VRel] using h
  | .mapp k, c, hE, h => by
    simp only [V.ren]
    split
    · rename_i j hj
      simp only [VRel] at h ⊢
      obtain ⟨e, h1, h2⟩ := h
      exact ⟨e, hE k (by simp [V.refs]) j hj e h1, h2⟩
    · simp [VRel]
  | .itp k, c, hE, h => by
    simp only [V.ren]
    split
    · rename_i j hj
      simp only [VRel] at h ⊢
      obtain ⟨e, h1, h2⟩ := h
      exact ⟨e, hE k (by simp [V.refs]) j hj e h1, h2⟩
    · simp [VRel]
  | .yv k, c, hE, h => by
    simp only [V.ren]
    split
    · rename_i j hj
      simp only [VRel] at h ⊢
      obtain ⟨e, h1, h2⟩ := h
      exact ⟨e, hE k (by simp [V.refs]) j hj e h1, h2⟩
    · simp [VRel]
  | .chp k, c, hE, h => by
    simp only [V.ren]
    split
    · rename_i j hj
      simp only [VRel] at h ⊢
      obtain ⟨e, h1, h2⟩ := h
      exact ⟨e, hE k (by simp [V.refs]) j hj e h1, h2⟩
    · simp [VRel]
  | .L k i q b c d, x, _, h => by simpa [V.ren, VRel] using h
  | .pan v, x, _, h => by simp only [VRel] at h
theorem VsRel.ren [Pins] {E E' : Wh} {π : Nat → Option Nat} : ∀ {vs : List V} {cs : List Value}, (∀ k ∈ V.refsL vs, ∀ j, π k = some j → ∀ e, E k = some e → E' j = some e) → VsRel E vs cs → VsRel E' (V.renL π vs) cs
  | [], cs, _, h => by simpa [V.renL, VsRel] using h
  | v :: vs, cs, hE, h => by
    simp only [V.renL, VsRel] at h ⊢
    obtain ⟨c, cs', h1, h2, h3⟩ := h
    exact ⟨c, cs', h1, VRel.ren (fun k hk => hE k (by simp [V.refsL, hk])) h2, VsRel.ren (fun k hk => hE k (by simp [V.refsL, hk])) h3⟩
end
mutual
theorem V.ren_id : ∀ (v : V), V.ren (fun k => some k) v = v
  | .undef | .B _ | .I _ _ | .S _ | .ptr _ _ _ | .nilp | .sl _ _ _ _ | .nils | .nilf | .nili | .nilm | .mapp _ | .itp _ | .yv _ | .chp _ | .L _ _ _ _ _ _ => by simp [V.ren]
  | .agg vs => by simp [V.ren, V.renL_id vs]
  | .tup vs => by simp [V.ren, V.renL_id vs]
  | .fn f a d => by simp [V.ren, V.renL_id a, V.renL_id d]
  | .ifc t v => by simp [V.ren, V.ren_id v]
  | .pan v => by simp [V.ren, V.ren_id v]
theorem V.renL_id : ∀ (vs : List V), V.renL (fun k => some k) vs = vs
  | [] => by simp [V.renL]
  | v :: vs => by simp [V.renL, V.ren_id v, V.renL_id vs]
end
theorem VRel.mono [Pins] {E E' : Wh} {v : V} {c : Value} (hE : ∀ k e, E k = some e → E' k = some e) (h : VRel E v c) : VRel E' v c := by
  have := VRel.ren (E' := E') (π := fun k => some k) (fun k _ j hj e he => by obtain rfl := Option.some.inj hj; exact hE k e he) h
  rwa [V.ren_id] at this
theorem VsRel.mono [Pins] {E E' : Wh} {v : List V} {c : List Value} (hE : ∀ k e, E k = some e → E' k = some e) (h : VsRel E v c) : VsRel E' v c := by
  have := VsRel.ren (E' := E') (π := fun k => some k) (fun k _ j hj e he => by obtain rfl := Option.some.inj hj; exact hE k e he) h
  rwa [V.renL_id] at this

mutual
theorem VRel.kill [Pins] {E E' : Wh} {j : Nat} (hE : ∀ k e, k ≠ j → E k = some e → E' k = some e) : ∀ {v : V} {c : Value}, VRel E v c → VRel E' (V.kill j v) c
  | .undef, c, _ => by simp [V.kill, VRel]
  | .B x, c, h => by simpa [V.kill, VRel] using h
  | .I k n, c, h => by simpa [V.kill, VRel] using h
  | .S xs, c, h => by simpa [V.kill, VRel] using h
  | .ptr k r f, c, h => by
    simp only [V.kill]
    split
    · simp [VRel]
    · rename_i hk
      simp only [VRel] at h ⊢
      obtain ⟨e, h1, h2⟩ := h
      exact ⟨e, hE k e hk h1, h2⟩
  | .nilp, c, h => by simpa [V.kill, VRel] using h
  | .sl k r l q, c, h => by
    simp only [V.kill]
    split
    · simp [VRel]
    · rename_i hk
      simp only [VRel] at h ⊢
      obtain ⟨e, a, q', h1, h2⟩ := h
      exact ⟨e, a, q', hE k e hk h1, h2⟩
  | .nils, c, h => by simpa [V.kill, VRel] using h
  | .agg vs, c, h => by
    simp only [V.kill, VRel] at h ⊢
    obtain ⟨cs, h1, h2, h3⟩ := h
    exact ⟨cs, h1, VsRel.kill hE h2, h3⟩
  | .tup vs, c, h => by
    simp only [V.kill, VRel] at h ⊢
    obtain ⟨cs, h1, h2⟩ := h
    exact ⟨cs, h1, VsRel.kill hE h2⟩
  | .fn f a d, c, h => by
    simp only [V.kill, VRel] at h ⊢
    obtain ⟨a', d', h1, h2, h3⟩ := h
    exact ⟨a', d', h1, VsRel.kill hE h2, VsRel.kill hE h3⟩
  | .nilf, c, h => by simpa [V.kill, VRel] using h
  | .ifc t v, c, h => by
    simp only [V.kill, VRel] at h ⊢
    obtain ⟨c', h1, h2⟩ := h
    exact ⟨c', h1, VRel.kill hE h2⟩
  | .nili, c, h => by simpa [V.kill, VRel] using h
  | .nilm, c, h => by simpa [V.kill, VRel] using h
  | .mapp k, c, h => by
    simp only [V.kill]
    split
    · simp [VRel]
    · rename_i hk
      simp only [VRel] at h ⊢
      obtain ⟨e, h1, h2⟩ := h
      exact ⟨e, hE k e hk h1, h2⟩
  | .itp k, c, h => by
    simp only [V.kill]
    split
    · simp [VRel]
    · rename_i hk
      simp only [VRel] at h ⊢
      obtain ⟨e, h1, h2⟩ := h
      exact ⟨e, hE k e hk h1, h2⟩
  | .yv k, c, h => by
    simp only [V.kill]
    split
    · simp [VRel]
    · rename_i hk
      simp only [VRel] at h ⊢
      obtain ⟨e, h1, h2⟩ := h
      exact ⟨e, hE k e hk h1, h2⟩
  | .chp k, c, h => by
    simp only [V.kill]
    split
    · simp [VRel]
    · rename_i hk
      simp only [VRel] at h ⊢
      obtain ⟨e, h1, h2⟩ := h
      exact ⟨e, hE k e hk h1, h2⟩
  | .L k i q b c d, x, h => by simpa [V.kill, VRel] using h
  | .pan v, x, h => by simp only [VRel] at h
theorem VsRel.kill [Pins] {E E' : Wh} {j : Nat} (hE : ∀ k e, k ≠ j → E k = some e → E' k = some e) : ∀ {vs : List V} {cs : List Value}, VsRel E vs cs → VsRel E' (V.killL j vs) cs
  | [], cs, h => by simpa [V.killL, VsRel] using h
  | v :: vs, cs, h => by
    simp only [V.killL, VsRel] at h ⊢
    obtain ⟨c, cs', h1, h2, h3⟩ := h
    exact ⟨c, cs', h1, VRel.kill hE h2, VsRel.kill hE h3⟩
end
theorem V.killL_length (j : Nat) : ∀ vs : List V, (V.killL j vs).length = vs.length
  | [] => by simp [V.killL]
  | v :: vs => by simp [V.killL, V.killL_length j vs]
theorem V.renL_eq (π : Nat → Option Nat) : ∀ vs : List V, V.renL π vs = vs.map (V.ren π)
  | [] => by simp [V.renL]
  | v :: vs => by simp [V.renL, V.renL_eq π vs]
theorem V.killL_eq (j : Nat) : ∀ vs : List V, V.killL j vs = vs.map (V.kill j)
  | [] => by simp [V.killL]
  | v :: vs => by simp [V.killL, V.killL_eq j vs]

/-! ## Blocks and memories -/
/-- Entries, one by one; each one's stamp is its place. -/
def MRel [Pins] (E : Wh) (es : List (V × V)) (ds : List MapEntry) : Prop :=
  es.length = ds.length ∧ ∀ (i : Nat) (p : V × V), es[i]? = some p → ∃ d, ds[i]? = some d ∧ VRel E p.1 d.key ∧ VRel E p.2 d.val ∧ d.born = i
/-- A map, an iterator. -/
def SpRel [Pins] (E : Wh) : Col → Obj → Prop
  | .map es, .map ds clock => MRel E es ds.toList ∧ clock = es.length
  | .it k n seen last, .mapIter m since sn l => (∃ e, E k = some e ∧ m = some e.blk) ∧ since = n ∧ sn.toList = seen ∧ l = last
  | .st xs pos, .stringIter s p => bytesI s = xs ∧ s.size ≤ 9223372036854775807 ∧ p = pos
  | .gone, .mapIter _ _ _ _ => True
  | .ch cap xs, .chan cap' b cl _ _ tm => cap' = cap ∧ cl = false ∧ tm = false ∧ VsRel E xs b.toList
  | .lp s0 pe ps x y d, .loop r => r.state = s0 ∧ r.pending = pe ∧ r.params = ps ∧ r.assign = x ∧ r.body = y ∧ VsRel E d (r.tmps.toList.take d.length)
  | _, _ => False
structure BlkRel [Pins] (E : Wh) (w : World) (b : Blk) (e : BE) : Prop where
  nc : e.nc = b.cols.length
  rows : e.rows = b.rows
  len : ∀ c ∈ b.cols, c.len = e.rows
  cells : ∀ (row fld : Nat) (col : Col) (v : V), b.cols[fld]? = some col → col.list[row]? = some v → ∃ c, w.cell? ⟨e.blk, e.off + (row * e.nc + fld), none⟩ = some c ∧ c.oneCell' = true ∧ VRel E v c
  own : b.ro = false → e.cr ≠ 0 → b.sp = none → e.off = 0 ∧ ∃ cur, w.heap[e.blk]? = some (.cells cur b.et (0, 0)) ∧ cur.size = e.cr * e.nc
  lt : e.cr ≠ 0 → e.blk < w.heap.size
  room : e.rows ≤ e.cr
  max : e.cr ≤ maxLen
  mo : ∀ c, b.sp = some c → e.cr ≠ 0 ∧ ∃ ob, w.heap[e.blk]? = some ob ∧ SpRel E c ob
theorem sp_rows {b : Blk} (h : 0 < b.rows) : b.sp = none := by
  unfold Blk.sp
  split
  · rename_i c hc
    rw [Blk.rows, hc] at h
    cases c <;> simp [Col.len] at h <;> rfl
  · rfl
/-- Does block 'j' of the heap belong to what may be written? -/
def Owned (E : Wh) (m : Mem) (j : Nat) : Prop := ∃ k e b, E k = some e ∧ m[k]? = some b ∧ b.ro = false ∧ e.cr ≠ 0 ∧ e.blk = j
def TabOk [Pins] (w : World) (j : Nat) : Prop := ∃ o, w.heap[j]? = some o ∧ Pins.holds j o
theorem TabOk.lt [Pins] {w : World} {j : Nat} (h : TabOk w j) : j < w.heap.size := by
  obtain ⟨o, h1, _⟩ := h
  exact (Array.getElem?_eq_some_iff.1 h1).1
theorem TabOk.of [Pins] {w w' : World} {j : Nat} (h : TabOk w j) (e : j < w.heap.size → w'.heap[j]? = w.heap[j]?) : TabOk w' j := by
  have hl := h.lt
  obtain ⟨o, h1, h2⟩ := h
  exact ⟨o, by rw [e hl]; exact h1, h2⟩
structure Sim [Pins] (E : Wh) (m : Mem) (w : World) : Prop where
  blk : ∀ k e, E k = some e → ∃ b, m[k]? = some b ∧ BlkRel E w b e
  apart : ∀ k e b k' e', E k = some e → m[k]? = some b → b.ro = false → e.cr ≠ 0 → E k' = some e' → e'.cr ≠ 0 → k ≠ k' → e.blk ≠ e'.blk
  tab : ∀ j, Pins.pin j → TabOk w j ∧ ¬ Owned E m j
structure Step [Pins] (E : Wh) (m : Mem) (w : World) (E' : Wh) (m' : Mem) (w' : World) : Prop where
  sim : Sim E' m' w'
  os : w'.os = w.os
  tape : w'.tape = w.tape
  output : w'.output = w.output
  size : w.heap.size ≤ w'.heap.size
  old : ∀ j, j < w.heap.size → ¬ Owned E m j → w'.heap[j]? = w.heap[j]?
  fresh : ∀ j, Owned E' m' j → j < w.heap.size → Owned E m j
  len : m.length ≤ m'.length
  born : ∀ k e, E' k = some e → e.cr ≠ 0 → e.blk < w.heap.size → ∃ k0 e0, E k0 = some e0 ∧ e0.cr ≠ 0 ∧ e0.blk = e.blk
  keep : ∀ k e, E k = some e → ∃ e' b b', m[k]? = some b ∧ m'[k]? = some b' ∧ E' k = some e' ∧ (b.ro = true → b'.ro = true) ∧ (b.mv = true → b'.mv = true) ∧ (b'.mv = false → e' = e)
  gone : ∀ k, k < m.length → E k = none → E' k = none
theorem Step.of [Pins] {E : Wh} {m : Mem} {w : World} {E' : Wh} {m' : Mem} {w' : World} (h : Sim E m w)
    (blk : ∀ k e, E' k = some e → ∃ b, m'[k]? = some b ∧ BlkRel E' w' b e)
    (apart : ∀ k e b k' e', E' k = some e → m'[k]? = some b → b.ro = false → e.cr ≠ 0 → E' k' = some e' → e'.cr ≠ 0 → k ≠ k' → e.blk ≠ e'.blk)
    (os : w'.os = w.os) (tape : w'.tape = w.tape) (output : w'.output = w.output) (size : w.heap.size ≤ w'.heap.size)
    (old : ∀ j, j < w.heap.size → ¬ Owned E m j → w'.heap[j]? = w.heap[j]?) (fresh : ∀ j, Owned E' m' j → j < w.heap.size → Owned E m j) (len : m.length ≤ m'.length)
    (born : ∀ k e, E' k = some e → e.cr ≠ 0 → e.blk < w.heap.size → ∃ k0 e0, E k0 = some e0 ∧ e0.cr ≠ 0 ∧ e0.blk = e.blk)
    (keep : ∀ k e, E k = some e → ∃ e' b b', m[k]? = some b ∧ m'[k]? = some b' ∧ E' k = some e' ∧ (b.ro = true → b'.ro = true) ∧ (b.mv = true → b'.mv = true) ∧ (b'.mv = false → e' = e))
    (gone : ∀ k, k < m.length → E k = none → E' k = none) : Step E m w E' m' w' :=
  ⟨⟨blk, apart, fun j hp => by
    obtain ⟨h1, h2⟩ := h.tab j hp
    exact ⟨h1.of fun hlt => old j hlt h2, fun ho => h2 (fresh j ho h1.lt)⟩⟩, os, tape, output, size, old, fresh, len, born, keep, gone⟩
theorem Step.refl [Pins] {E : Wh} {m : Mem} {w : World} (h : Sim E m w) : Step E m w E m w :=
  ⟨h, rfl, rfl, rfl, Nat.le_refl _, fun _ _ _ => rfl, fun _ h _ => h, Nat.le_refl _, fun k e he hc _ => ⟨k, e, he, hc, rfl⟩, fun k e he => by
    obtain ⟨b, hb, _⟩ := h.blk k e he
    exact ⟨e, b, b, hb, hb, he, id, id, fun _ => rfl⟩, fun _ _ h0 => h0⟩
theorem Step.trans [Pins] {E1 E2 E3 : Wh} {m1 m2 m3 : Mem} {w1 w2 w3 : World} (h : Step E1 m1 w1 E2 m2 w2) (k : Step E2 m2 w2 E3 m3 w3) : Step E1 m1 w1 E3 m3 w3 := by
  refine ⟨k.sim, k.os.trans h.os, k.tape.trans h.tape, k.output.trans h.output, Nat.le_trans h.size k.size, ?_, ?_, Nat.le_trans h.len k.len, ?_, ?_, fun q hq h0 => k.gone q (Nat.lt_of_lt_of_le hq h.len) (h.gone q hq h0)⟩
  · intro j hj ho
    rw [k.old j (Nat.lt_of_lt_of_le hj h.size) (fun hc => ho (h.fresh j hc hj)), h.old j hj ho]
  · intro j hc hj
    exact h.fresh j (k.fresh j hc (Nat.lt_of_lt_of_le hj h.size)) hj
  · intro q e he hc hlt
    obtain ⟨q1, e1, h1, h2, h3⟩ := k.born q e he hc (Nat.lt_of_lt_of_le hlt h.size)
    obtain ⟨q0, e0, g1, g2, g3⟩ := h.born q1 e1 h1 h2 (by omega)
    exact ⟨q0, e0, g1, g2, by omega⟩
  · intro q e he
    obtain ⟨e2, b1, b2, g1, g2, g3, g4, g5, g6⟩ := h.keep q e he
    obtain ⟨e3, b2', b3, f1, f2, f3, f4, f5, f6⟩ := k.keep q e2 g3
    rw [g2] at f1
    obtain rfl := Option.some.inj f1
    refine ⟨e3, b1, b3, g1, f2, f3, fun hr => f4 (g4 hr), fun hm => f5 (g5 hm), fun hm => ?_⟩
    have h2 : b2.mv = false := by cases hb : b2.mv with | false => rfl | true => rw [f5 hb] at hm; cases hm
    rw [f6 hm, g6 h2]
end Go.Ab
