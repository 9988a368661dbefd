/- Operations, part 8: slices of slices, copy, make, index, convert, len; and all of them together. -/
import Derived.Test.YtjciabbnncidjaaGreatAbOps7
set_option linter.unusedSimpArgs false
set_option linter.unusedVariables false
namespace Go.Ab
open Go
section
variable {P : Program} {o : Oper} {a : Act} {E : Wh} {m : Mem} {w : World} {ρ : Env}

theorem elem_eq [Pins] {t e : TypeId} (h : P.underlying t = some (.slice e)) : P.elem t = e := by simp [Program.elem, h]
theorem optI_rel [Pins] (hρ : ERel E ρ a.tmps.toList) {x : Option Operand} {r : Option Int} (h : optI ρ x = some r) : match r with | none => x = none | some n => ∃ y k, x = some y ∧ a.eval y = .int k n := by
  cases x with
  | none => simp [optI] at h; subst h; rfl
  | some y =>
    simp only [optI] at h
    have hy := opd_rel (a := a) hρ y
    split at h
    · rename_i k n hq
      cases h
      rw [hq] at hy
      simp only [VRel] at hy
      exact ⟨y, k, rfl, hy.1⟩
    · cases h
/-- A piece of a slice. -/
theorem sl_piece [Pins] {e : BE} {k row l h q mx : Nat} {len' cap' : Option Nat} {ad : Option Addr} (hk : E k = some e) (had : q ≠ 0 → ad = some ⟨e.blk, e.off + row * e.nc, none⟩) (hl : l ≤ h) (hmx : h ≤ mx) (hq : mx ≤ q) (hrow : row + h ≤ e.rows)
    (hlen : slN e (row + l) len' = h - l) (hcap' : CapOk e (row + l) cap' (mx - l)) : VRel E (.sl k (row + l) len' cap') (sliced ad l h mx e.nc) := by
  simp only [VRel, sliced]
  refine ⟨e, _, mx - l, hk, by rw [hlen], by omega, by omega, hcap', ?_⟩
  intro h0
  rw [if_neg (by omega), had (by omega)]
  simp only [Option.map_some, Addr.add_none, Nat.add_assoc, Nat.add_mul]
def optRel (x : Option Int) (c : Option Value) : Prop := match x with | none => c = none | some n => ∃ q, c = some (.int q n)
theorem optI_rel' [Pins] (hρ : ERel E ρ a.tmps.toList) {x : Option Operand} {r : Option Int} (h : optI ρ x = some r) : optRel r (x.map a.eval) := by
  have := optI_rel (a := a) hρ h
  cases r with
  | none => simp only at this; subst this; rfl
  | some n => obtain ⟨y, k, rfl, h2⟩ := this; exact ⟨k, by simp [h2]⟩
theorem slop_rel [Pins] (hS : Sim E m w) {t e : TypeId} {k row : Nat} {len cap : Option Nat} {c : Value} (hu : P.underlying t = some (.slice e)) (hsz : sizeT P e = some (m.getD k default).cols.length) (hx : VRel E (.sl k row len cap) c) {lo hi mx : Option Int} {clo chi cmx : Option Value}
    (hlo : optRel lo clo) (hhi : optRel hi chi) (hmx : optRel mx cmx) {v : V} (h : slop m k row len cap lo hi mx = (true, v)) : ∃ cv, (Instr.sliceAt t c clo chi cmx).run P w = .ok cv w ∧ VRel E v cv := by
  have hxx := hx
  simp only [VRel] at hx
  obtain ⟨be, ad, q, hk, rfl, hfit, hnq, hcap, had⟩ := hx
  obtain ⟨_, hb⟩ := getD_blk hS hk
  have hrows := hb.rows
  have hroom := hb.room
  have hu' : P.underlying t = some (.slice (P.elem t)) := by rw [elem_eq hu]; exact hu
  have hsz' : (sizeOf (P.elem t)).run P w = .ok be.nc w := by rw [elem_eq hu, run_sizeOf' hsz, hb.nc]
  have hn := slen_eq hS (row := row) (len := len) hk
  have hrm : roomOf m k row cap ≤ q ∧ row + roomOf m k row cap ≤ be.rows := by
    cases cap with
    | none => simp only [CapOk, roomOf] at *; omega
    | some c => simp only [CapOk, roomOf] at *; omega
  have hnr : cap = none ∨ cap ≠ none := by cases cap <;> simp
  cases lo with
  | none =>
    cases hlo
    cases hi with
    | none =>
      cases hhi
      cases mx with
      | none =>
        cases hmx
        simp only [slop, Prod.mk.injEq, true_and] at h
        subst h
        refine ⟨_, by rw [run_sliceAt_slice w t _ none none none hu', run_slice_all w t ad _ q hu', hsz']; rfl, ?_⟩
        have := sl_piece (l := 0) (h := slN be row len) (mx := q) (len' := len) (cap' := cap) hk had (Nat.zero_le _) hnq (Nat.le_refl _) hfit (by simp) (by simpa using hcap)
        simpa using this
      | some x => simp [slop] at h
    | some hh =>
      obtain ⟨kh, rfl⟩ := hhi
      cases mx with
      | none =>
        cases hmx
        simp only [slop, Prod.mk.injEq, Bool.and_eq_true, decide_eq_true_eq] at h
        obtain ⟨⟨h1, h2⟩, rfl⟩ := h
        refine ⟨_, by rw [run_sliceAt_slice w t _ none _ none hu', run_slice_h w t ad _ q hu' kh hh h1 (by omega), hsz']; rfl, ?_⟩
        have := sl_piece (l := 0) (h := hh.toNat) (mx := q) (len' := some hh.toNat) (cap' := cap) hk had (Nat.zero_le _) (by omega) (Nat.le_refl _) (by omega) (by simp [slN]) (by simpa using hcap)
        simpa using this
      | some x =>
        obtain ⟨kx, rfl⟩ := hmx
        simp only [slop, Prod.mk.injEq, Bool.and_eq_true, decide_eq_true_eq] at h
        obtain ⟨⟨h1, h2, h3, h4⟩, rfl⟩ := h
        refine ⟨_, by rw [run_sliceAt_slice w t _ none _ _ hu', run_slice_hm w t ad _ q hu' kh kx hh x h3 h4 (by omega), hsz']; rfl, ?_⟩
        have := sl_piece (l := 0) (h := hh.toNat) (mx := x.toNat) (len' := some hh.toNat) (cap' := some x.toNat) hk had (Nat.zero_le _) (by omega) (by omega) (by omega) (by simp [slN]) (by simp only [CapOk]; omega)
        simpa using this
  | some l =>
    obtain ⟨kl, rfl⟩ := hlo
    cases hi with
    | none =>
      cases hhi
      cases mx with
      | none =>
        cases hmx
        simp only [slop, Prod.mk.injEq, Bool.and_eq_true, decide_eq_true_eq, hn] at h
        obtain ⟨⟨h1, h2⟩, rfl⟩ := h
        refine ⟨_, by rw [run_sliceAt_slice w t _ _ none none hu', run_slice_l w t ad _ q hu' kl l h1 (by omega), hsz']; rfl, ?_⟩
        rw [addN_eq]
        refine sl_piece (q := q) hk had h2 hnq (Nat.le_refl _) hfit ?_ ?_
        · cases len <;> simp [slN, lessO] <;> omega
        · cases cap <;> simp only [CapOk, lessO] at * <;> omega
      | some x => simp [slop] at h
    | some hh =>
      obtain ⟨kh, rfl⟩ := hhi
      cases mx with
      | none =>
        cases hmx
        simp only [slop, Prod.mk.injEq, Bool.and_eq_true, decide_eq_true_eq] at h
        obtain ⟨⟨h1, h2, h3, h4⟩, rfl⟩ := h
        refine ⟨_, by rw [run_sliceAt_slice w t _ _ _ none hu', run_slice_lh w t ad _ q hu' kl kh l hh h3 h4 (by omega), hsz']; rfl, ?_⟩
        rw [addN_eq]
        refine sl_piece (q := q) hk had (by omega) (by omega) (Nat.le_refl _) (by omega) (by simp [slN]) ?_
        have hl : l.toNat ≤ hh.toNat := by omega
        cases cap with
        | none => simp only [CapOk, lessO] at hcap ⊢; omega
        | some c => simp only [CapOk, lessO] at hcap ⊢; omega
      | some x =>
        obtain ⟨kx, rfl⟩ := hmx
        simp only [slop, Prod.mk.injEq, Bool.and_eq_true, decide_eq_true_eq] at h
        obtain ⟨⟨h1, h2, h3, h4, h5, h6⟩, rfl⟩ := h
        refine ⟨_, by rw [run_sliceAt_slice w t _ _ _ _ hu', run_slice_lhm w t ad _ q hu' kl kh kx l hh x h5 h6 h4 (by omega), hsz']; rfl, ?_⟩
        rw [addN_eq]
        exact sl_piece (q := q) hk had (by omega) (by omega) (by omega) (by omega) (by simp [slN]) ⟨rfl, by omega⟩
theorem bytes_ext [Pins] (s : ByteArray) (l h : Nat) : (s.extract l h).data.toList = (s.data.toList.take h).drop l := by
  rw [ByteArray.data_extract, Array.toList_extract, List.extract_eq_take_drop, List.drop_take]
theorem strsl_rel [Pins] {t : TypeId} (hu : P.underlying t = some .string) {s : ByteArray} (hsz : s.size ≤ 9223372036854775807) {lo hi : Option Int} {clo chi : Option Value} (hlo : optRel lo clo) (hhi : optRel hi chi) {v : V} (h : strsl (bytesI s) lo hi = (true, v)) :
    ∃ cv, (Instr.sliceAt t (.string s) clo chi none).run P w = .ok cv w ∧ VRel E v cv := by
  have hs : s.data.toList.length = s.size := rfl
  have hbl := bytesI_len s
  cases lo with
  | none =>
    cases hlo
    cases hi with
    | none =>
      cases hhi
      simp only [strsl, Prod.mk.injEq, true_and] at h
      subst h
      refine ⟨.string (s.extract 0 s.size), by rw [run_sliceAt_string w t _ none none none hu]; simp [Instr.slice, run_underlying hu, Instr.sliceBounds], ?_⟩
      simp only [VRel]
      exact ⟨_, rfl, by rw [bytesI, bytes_ext, List.take_of_length_le (by omega)]; rfl, by rw [ByteArray.size_extract]; omega⟩
    | some hh =>
      obtain ⟨kh, rfl⟩ := hhi
      simp only [strsl, Prod.mk.injEq, Bool.and_eq_true, decide_eq_true_eq, hbl] at h
      obtain ⟨⟨h1, h2⟩, rfl⟩ := h
      refine ⟨.string (s.extract 0 hh.toNat), by rw [run_sliceAt_string w t _ none _ none hu]; simp [Instr.slice, run_underlying hu, Instr.sliceBounds, run_sliceBound w kh hh s.size .sliceAlen h1 (by omega)], ?_⟩
      simp only [VRel]
      exact ⟨_, rfl, by rw [bytesI, bytes_ext, bytesI, List.map_drop, List.map_take]; rfl, by rw [ByteArray.size_extract]; omega⟩
  | some l =>
    obtain ⟨kl, rfl⟩ := hlo
    cases hi with
    | none =>
      cases hhi
      simp only [strsl, Prod.mk.injEq, Bool.and_eq_true, decide_eq_true_eq, hbl] at h
      obtain ⟨⟨h1, h2⟩, rfl⟩ := h
      refine ⟨.string (s.extract l.toNat s.size), by rw [run_sliceAt_string w t _ _ none none hu]; simp [Instr.slice, run_underlying hu, Instr.sliceBounds, run_sliceBound w kl l s.size .sliceB h1 (by omega)], ?_⟩
      simp only [VRel]
      exact ⟨_, rfl, by rw [bytesI, bytes_ext, bytesI, List.take_of_length_le (by omega), List.map_drop], by rw [ByteArray.size_extract]; omega⟩
    | some hh =>
      obtain ⟨kh, rfl⟩ := hhi
      simp only [strsl, Prod.mk.injEq, Bool.and_eq_true, decide_eq_true_eq, hbl] at h
      obtain ⟨⟨h1, h2, h3, h4⟩, rfl⟩ := h
      refine ⟨.string (s.extract l.toNat hh.toNat), by rw [run_sliceAt_string w t _ _ _ none hu]; simp [Instr.slice, run_underlying hu, Instr.sliceBounds, run_sliceBound w kh hh s.size .sliceAlen h1 (by omega), run_sliceBound w kl l hh.toNat .sliceB h3 (by omega)], ?_⟩
      simp only [VRel]
      exact ⟨_, rfl, by rw [bytesI, bytes_ext, bytesI, List.map_drop, List.map_take], by rw [ByteArray.size_extract]; omega⟩

theorem nilsl_rel [Pins] {t e : TypeId} {sz : Nat} (hu : P.underlying t = some (.slice e)) (hsz : sizeT P e = some sz) {lo hi mx : Option Int} {clo chi cmx : Option Value} (hlo : optRel lo clo) (hhi : optRel hi chi) (hmx : optRel mx cmx)
    (h : (zeroO lo && (zeroO hi && mxO mx hi)) = true) : (Instr.sliceAt t (.slice none 0 0) clo chi cmx).run P w = .ok (.slice none 0 0) w := by
  have hsz' := run_sizeOf' hsz w
  simp only [Bool.and_eq_true] at h
  obtain ⟨h1, h2, h3⟩ := h
  have b0 : ∀ (k : IntKind) (c : BoundsCode), (Instr.sliceBound (.int k 0) 0 c).run P w = .ok 0 w := fun k c => run_sliceBound w k 0 0 c (by omega) (by omega)
  have z0 : ∀ n : Int, (n == 0) = true → n = 0 := fun n hn => by simpa using hn
  cases lo <;> cases hi <;> cases mx <;> simp only [optRel, zeroO, mxO] at hlo hhi hmx h1 h2 h3 <;> first | (cases h3; done) | skip
  all_goals (try obtain ⟨k1, hlo⟩ := hlo) <;> (try obtain ⟨k2, hhi⟩ := hhi) <;> (try obtain ⟨k3, hmx⟩ := hmx) <;> (try (have e1 := z0 _ h1; subst e1)) <;> (try (have e2 := z0 _ h2; subst e2)) <;> (try (have e3 := z0 _ h3; subst e3)) <;> subst_vars <;>
    simp [Instr.sliceAt, Instr.slice, run_underlying hu, Instr.sliceBounds, hsz', b0]
/-- A slice of an array that is a column, or lies in one. -/
theorem arrsl_rel [Pins] (hS : Sim E m w) {t e : TypeId} {k row fld n : Nat} (hu : P.underlying t = some (.array n e)) (hsz : sizeT P e = some 1) {be : BE} (hk : E k = some be) {c : Col} (hcols : (m.getD k default).cols = [c]) (hfit : row + fld + n ≤ c.len)
    {lo hi : Option Int} {clo chi : Option Value} (hlo : optRel lo clo) (hhi : optRel hi chi) {v : V} (h : arrsl k (row + fld) n lo hi = (true, v)) :
    ∃ cv, (Instr.sliceAt t (.pointer (some ⟨be.blk, be.off + (row * be.nc + fld), none⟩)) clo chi none).run P w = .ok cv w ∧ VRel E v cv := by
  obtain ⟨_, hb⟩ := getD_blk hS hk
  have hnc : be.nc = 1 := by rw [hb.nc, hcols]; rfl
  have hrows : c.len = be.rows := hb.len c (by rw [hcols]; simp)
  have key : ∀ (l hh : Nat), l ≤ hh → hh ≤ n → VRel E (.sl k (row + fld + l) (some (hh - l)) (some (n - l))) (.slice (some (if n = l then (⟨be.blk, be.off + (row * be.nc + fld), none⟩ : Addr) else (⟨be.blk, be.off + (row * be.nc + fld), none⟩ : Addr).add (l * 1))) (hh - l) (n - l)) := by
    intro l hh h1 h2
    simp only [VRel]
    refine ⟨be, _, n - l, hk, rfl, by simp only [slN]; omega, by simp only [slN]; omega, ⟨rfl, by omega⟩, fun h0 => ?_⟩
    rw [if_neg (by omega), Addr.add_none, hnc]
    congr 2
    omega
  have hsz' := run_sizeOf' hsz w
  have zero : row + fld + 0 = row + fld := rfl
  cases lo with
  | none =>
    cases hlo
    cases hi with
    | none =>
      cases hhi
      simp only [arrsl, Prod.mk.injEq, true_and] at h
      subst h
      refine ⟨_, by simp [Instr.sliceAt, run_underlying hu, Instr.sureAddr, Instr.sliceBounds, hsz']; rfl, ?_⟩
      have := key 0 n (Nat.zero_le _) (Nat.le_refl _)
      simpa using this
    | some hh =>
      obtain ⟨kh, rfl⟩ := hhi
      simp only [arrsl, Prod.mk.injEq, Bool.and_eq_true, decide_eq_true_eq] at h
      obtain ⟨⟨h1, h2⟩, rfl⟩ := h
      refine ⟨_, by simp [Instr.sliceAt, run_underlying hu, Instr.sureAddr, Instr.sliceBounds, hsz', run_sliceBound w kh hh n .sliceAlen h1 (by omega)]; rfl, ?_⟩
      have := key 0 hh.toNat (Nat.zero_le _) h2
      simpa using this
  | some l =>
    obtain ⟨kl, rfl⟩ := hlo
    cases hi with
    | none =>
      cases hhi
      simp only [arrsl, Prod.mk.injEq, Bool.and_eq_true, decide_eq_true_eq] at h
      obtain ⟨⟨h1, h2⟩, rfl⟩ := h
      refine ⟨_, by simp [Instr.sliceAt, run_underlying hu, Instr.sureAddr, Instr.sliceBounds, hsz', run_sliceBound w kl l n .sliceB h1 (by omega)]; rfl, ?_⟩
      have := key l.toNat n h2 (Nat.le_refl _)
      simpa using this
    | some hh =>
      obtain ⟨kh, rfl⟩ := hhi
      simp only [arrsl, Prod.mk.injEq, Bool.and_eq_true, decide_eq_true_eq] at h
      obtain ⟨⟨h1, h2, h3, h4⟩, rfl⟩ := h
      refine ⟨_, by simp [Instr.sliceAt, run_underlying hu, Instr.sureAddr, Instr.sliceBounds, hsz', run_sliceBound w kh hh n .sliceAlen h1 (by omega), run_sliceBound w kl l hh.toNat .sliceB h3 (by omega)]; rfl, ?_⟩
      have := key l.toNat hh.toNat (by omega) h2
      simpa using this
/-! ### Indexes -/
theorem goes_indexAddr [Pins] (hS : Sim E m w) (hρ : ERel E ρ a.tmps.toList) {t : TypeId} {x y : Operand} (ho : o.op = .indexAddr t x y) {kk : IntKind} {i : Int} (hy : opd ρ y = .I kk i) {v : V} (h : idxA P t m (opd ρ x) i = some (true, v)) : Goes P o a E m w v ρ m := by
  have hx := opd_rel (a := a) hρ x
  have hyr := opd_rel (a := a) hρ y
  rw [hy] at hyr
  simp only [VRel] at hyr
  obtain ⟨hyr, _⟩ := hyr
  generalize opd ρ x = X at h hx
  unfold idxA at h
  split at h
  · rename_i n e k row fld hu
    split at h
    · rename_i sz hsz
      simp only [Option.some.injEq, Prod.mk.injEq, Bool.and_eq_true, decide_eq_true_eq] at h
      obtain ⟨⟨h1, h2⟩, rfl⟩ := h
      simp only [VRel] at hx
      obtain ⟨be, hk, hr, hc⟩ := hx
      refine goes_pure hS hρ (cv := .pointer (some ⟨be.blk, be.off + (row * be.nc + (fld + i.toNat * sz)), none⟩)) ?_ (by simp only [VRel]; exact ⟨be, hk, hr, rfl⟩)
      simp [execOp, ho, hyr, hc, Instr.indexAt, asIntOf, run_underlying hu, Instr.sureAddr, h1, h2, run_sizeOf' hsz, Addr.add_none, Nat.add_assoc]
    · cases h
  · rename_i e k row len cap hu
    split at h
    · rename_i sz hsz
      split at h
      · rename_i hnc
        simp only [VRel] at hx
        obtain ⟨be, ad, q, hk, hc, hfit, hnq, hcap, had⟩ := hx
        obtain ⟨_, hb⟩ := getD_blk hS hk
        simp only [Option.some.injEq, Prod.mk.injEq, Bool.and_eq_true, decide_eq_true_eq, slen_eq hS hk] at h
        obtain ⟨⟨h1, h2⟩, rfl⟩ := h
        have hq0 : q ≠ 0 := by omega
        rw [had hq0] at hc
        refine goes_pure hS hρ (cv := .pointer (some ⟨be.blk, be.off + row * be.nc + i.toNat * sz, none⟩)) ?_ ?_
        · simp [execOp, ho, hyr, hc, Instr.indexAt, asIntOf, run_underlying hu, h1, h2, run_sizeOf' hsz, Addr.add_none]
        · simp only [VRel]
          refine ⟨be, hk, by rw [addN_eq]; omega, ?_⟩
          rw [addN_eq, hnc, ← hb.nc, Nat.add_mul]
          simp [Nat.add_assoc]
      · cases h
    · cases h
  · cases h
theorem typedAt_rel [Pins] {vs : List V} {cs : List Value} (hv : VsRel E vs cs) {i : Int} (h0 : 0 ≤ i) (h1 : i.toNat < vs.length) : ∃ c, cs[i.toNat]? = some c ∧ VRel E (typedAt vs i) c := by
  obtain ⟨c, hc, hr⟩ := hv.look i.toNat vs[i.toNat] (List.getElem?_eq_getElem h1)
  refine ⟨c, hc, ?_⟩
  have hget : vs.getD i.toNat .undef = vs[i.toNat] := by rw [List.getD_eq_getElem?_getD, List.getElem?_eq_getElem h1]; rfl
  have key : ∀ u : V, u = .undef ∨ u = vs[i.toNat] → VRel E u c := by
    intro u hu
    rcases hu with rfl | rfl
    · simp [VRel]
    · exact hr
  apply key
  unfold typedAt
  split
  · right; rw [← hget]; rfl
  · split
    · split
      · rename_i xs hxs
        right
        have := allI_eq hxs
        have hl : i.toNat < xs.length := by have := congrArg List.length this; simp at this; simp at h1; omega
        simp only [this, List.getElem_map]
        rw [List.getD_eq_getElem?_getD, List.getElem?_eq_getElem hl]; rfl
      · right; exact hget
    · split
      · rename_i xs hxs
        right
        have := allS_eq hxs
        have hl : i.toNat < xs.length := by have := congrArg List.length this; simp at this; simp at h1; omega
        simp only [this, List.getElem_map]
        rw [List.getD_eq_getElem?_getD, List.getElem?_eq_getElem hl]; rfl
      · left; rfl
    · split
      · rename_i xs hxs
        right
        have := allB_eq hxs
        have hl : i.toNat < xs.length := by have := congrArg List.length this; simp at this; simp at h1; omega
        simp only [this, List.getElem_map]
        rw [List.getD_eq_getElem?_getD, List.getElem?_eq_getElem hl]; rfl
      · left; rfl
    · right; exact hget
theorem goes_index [Pins] (hS : Sim E m w) (hρ : ERel E ρ a.tmps.toList) {t : TypeId} {x y : Operand} (ho : o.op = .index t x y) {kk : IntKind} {i : Int} (hy : opd ρ y = .I kk i) {v : V} (h : idxV P t (opd ρ x) i = some (true, v)) : Goes P o a E m w v ρ m := by
  have hx := opd_rel (a := a) hρ x
  have hyr := opd_rel (a := a) hρ y
  rw [hy] at hyr
  simp only [VRel] at hyr
  obtain ⟨hyr, _⟩ := hyr
  generalize opd ρ x = X at h hx
  unfold idxV at h
  split at h
  · rename_i n e vs hu
    simp only [VRel] at hx
    obtain ⟨cs, hc, hv, hone⟩ := hx
    split at h
    · rename_i hs1 ha
      split at h
      · rename_i hl
        simp only [Option.some.injEq, Prod.mk.injEq, Bool.and_eq_true, decide_eq_true_eq] at h
        obtain ⟨⟨h1, h2⟩, rfl⟩ := h
        obtain ⟨c, g1, g2⟩ := typedAt_rel hv h1 (by omega)
        refine goes_pure hS hρ (cv := c) ?_ g2
        have g1' : cs[i.toNat]? = some c := by simpa using g1
        simp [execOp, ho, hyr, hc, Instr.index, asIntOf, run_underlying hu, h1, h2, run_sizeOf' hs1, part, run_isAgg' ha, g1']
      · cases h
    · rename_i sz hs1 ha
      split at h
      · rename_i hl
        simp only [Option.some.injEq, Prod.mk.injEq, Bool.and_eq_true, decide_eq_true_eq] at h
        obtain ⟨⟨h1, h2⟩, rfl⟩ := h
        refine goes_pure hS hρ (cv := .agg (cs.extract (i.toNat * sz) (i.toNat * sz + sz))) ?_ ?_
        · simp [execOp, ho, hyr, hc, Instr.index, asIntOf, run_underlying hu, h1, h2, run_sizeOf' hs1, part, run_isAgg' ha]
        · simp only [VRel]
          refine ⟨_, rfl, ?_, ?_⟩
          · rw [Array.toList_extract, List.extract_eq_take_drop, show i.toNat * sz + sz - i.toNat * sz = sz by omega]
            exact (hv.drop _).take sz
          · intro u hu
            rw [Array.toList_extract, List.extract_eq_take_drop] at hu
            exact hone u (List.mem_of_mem_drop (List.mem_of_mem_take hu))
      · cases h
    · cases h
  · rename_i xs hu
    simp only [VRel] at hx
    obtain ⟨s, hc, rfl, _⟩ := hx
    simp only [Option.some.injEq, Prod.mk.injEq, Bool.and_eq_true, decide_eq_true_eq, bytesI_len] at h
    obtain ⟨⟨h1, h2⟩, rfl⟩ := h
    have hi : i.toNat < s.size := by omega
    refine goes_pure hS hρ (cv := .int .u8 (s[i.toNat].toNat : Int)) ?_ ?_
    · simp [execOp, ho, hyr, hc, Instr.index, asIntOf, run_underlying hu, h1, getElem?_pos s i.toNat hi]
    · simp only [VRel]
      have hd : (bytesI s).getD i.toNat 0 = (s[i.toNat].toNat : Int) := by
        have hi' : i.toNat < (bytesI s).length := by rw [bytesI_len]; exact hi
        rw [List.getD_eq_getElem?_getD, List.getElem?_eq_getElem hi']
        simp only [bytesI, List.getElem_map, Option.getD_some]
        rfl
      rw [hd]
      refine ⟨rfl, ?_⟩
      have := s[i.toNat].toNat_lt
      simp [inR, IntKind.min, IntKind.max, IntKind.signed, IntKind.bits]
      omega
  · cases h

/-! ### Conversions -/
theorem strOfNums_bytes [Pins] {xs : List Int} (h : ∀ x ∈ xs, 0 ≤ x ∧ x ≤ 255) : bytesI (strOfNums xs) = xs := by
  rw [bytesI, strOfNums_data, List.map_map]
  conv => rhs; rw [← List.map_id xs]
  apply List.map_congr_left
  intro x hx
  obtain ⟨h1, h2⟩ := h x hx
  simp only [Function.comp, id, UInt8.toNat_ofNat']
  omega
theorem bytesOf_rel [Pins] (hS : Sim E m w) {x : V} {c : Value} (hx : VRel E x c) {src e dst : TypeId} (hs : P.underlying src = some (.slice e)) (he : P.underlying e = some (.int .u8)) (hd : P.underlying dst = some .string) {r : List Int} (h : bytesOf m x = some r) :
    ∃ s, (convert src dst c).run P w = .ok (.string s) w ∧ bytesI s = r ∧ s.size ≤ 9223372036854775807 := by
  unfold bytesOf at h
  split at h
  · cases h
    simp only [VRel] at hx
    subst hx
    exact ⟨.empty, by simpa using run_convert_bytes_nil w src e hs he 0 0 dst hd, rfl, by simp⟩
  · rename_i k row len cap
    split at h
    · rename_i xs hcols
      have hxx := hx
      simp only [VRel] at hxx
      obtain ⟨be, ad, q, hk, hc, hfit, hnq, hcap, had⟩ := hxx
      obtain ⟨_, hb⟩ := getD_blk hS hk
      have hlen : xs.length = be.rows := by
        have := hb.len (.ints .u8 xs) (by rw [hcols]; simp)
        simpa [Col.len] using this
      have hnc : be.nc = 1 := by rw [hb.nc, hcols]; rfl
      have hr : r = (xs.drop row).take (slN be row len) := by
        split at h
        · cases h
          rw [List.take_of_length_le (by rw [List.length_drop]; simp only [slN]; omega)]
        · cases h; rfl
      have hat : ∀ i, i < slN be row len → ∃ x, xs[row + i]? = some x ∧ w.cell? ⟨be.blk, be.off + row * be.nc + i, none⟩ = some (.int .u8 x) ∧ inR .u8 x = true := by
        intro i hi
        have hi' : row + i < xs.length := by omega
        obtain ⟨c', g1, _, g3⟩ := hb.cells (row + i) 0 (.ints .u8 xs) (.I .u8 xs[row + i]) (by rw [hcols]; rfl) (by simp [Col.list, hi'])
        simp only [VRel] at g3
        obtain ⟨rfl, g3⟩ := g3
        refine ⟨_, List.getElem?_eq_getElem hi', ?_, g3⟩
        rw [← g1, hnc]
        congr 2
        omega
      have hrl : r.length = slN be row len := by rw [hr, List.length_take, List.length_drop]; omega
      have hrat : ∀ i, i < slN be row len → r[i]? = xs[row + i]? := by
        intro i hi
        rw [hr, List.getElem?_take_of_lt hi, List.getElem?_drop]
      have hrange : ∀ x ∈ r, 0 ≤ x ∧ x ≤ 255 := by
        intro x hx
        obtain ⟨i, hi, rfl⟩ := List.getElem_of_mem hx
        obtain ⟨y, h1, _, h3⟩ := hat i (by omega)
        have := hrat i (by omega)
        rw [List.getElem?_eq_getElem hi, h1] at this
        rw [Option.some.inj this]
        have := inR_iff.1 h3
        simpa [IntKind.min, IntKind.max, IntKind.signed, IntKind.bits] using this
      by_cases hq0 : q = 0
      · have hn0 : slN be row len = 0 := by omega
        have hr0 : r = [] := List.eq_nil_of_length_eq_zero (by omega)
        subst hr0
        rw [hn0] at hc
        cases ad with
        | none =>
          rw [hc]
          exact ⟨.empty, by simpa using run_convert_bytes_nil w src e hs he 0 q dst hd, rfl, by simp⟩
        | some ad =>
          rw [hc]
          refine ⟨.empty, ?_, rfl, by simp⟩
          simp [convert, run_underlying hs, run_underlying hd, run_underlying he, Conv.bytesToString, loadCells, loadCellsFrom]
      · rw [had hq0] at hc
        rw [hc]
        refine ⟨strOfNums r, run_convert_bytes_arg w src e hs he be.blk (be.off + row * be.nc) (slN be row len) q r hrl ?_ dst hd, strOfNums_bytes hrange, by
          have h1 := bytesI_len (strOfNums r)
          rw [strOfNums_bytes hrange] at h1
          have h2 := hb.room
          have h3 := hb.max
          have h4 : maxLen ≤ 9223372036854775807 := by decide
          omega⟩
        intro i hi
        obtain ⟨y, h1, h2, _⟩ := hat i hi
        rw [h2, List.getD_eq_getElem?_getD, hrat i hi, h1]
        rfl
    · cases h
  · cases h
theorem goes_convert [Pins] (hS : Sim E m w) (hρ : ERel E ρ a.tmps.toList) {src dst : TypeId} {x : Operand} (ho : o.op = .convert src dst x) {v : V} (h : cop1 P src dst m (opd ρ x) = some v) : Goes P o a E m w v ρ m := by
  have hx := opd_rel (a := a) hρ x
  generalize opd ρ x = X at h hx
  unfold cop1 at h
  split at h
  · rename_i k0 k k1 n hs hd
    cases h
    simp only [VRel] at hx
    obtain ⟨hc, _⟩ := hx
    refine goes_pure hS hρ (cv := .int k (k.wrap n)) ?_ (by simp [VRel, inR_wrap])
    simp [execOp, ho, hc, convert, run_underlying hs, run_underlying hd, Conv.intToInt]
  · rename_i k0 k k1 i q b c d hs hd
    cases h
    obtain ⟨px, hq, q0, q1, _⟩ := hx.lin
    simp only [VRel] at px
    obtain ⟨hc, _⟩ := px
    refine goes_pure hS hρ (cv := .int k (k.wrap (q * c + d))) ?_ (linV_rel hq q0 q1 (by simp [VRel, inR_wrap]))
    simp [execOp, ho, hc, convert, run_underlying hs, run_underlying hd, Conv.intToInt]
  · rename_i xs hs hd
    cases h
    simp only [VRel] at hx
    obtain ⟨s, hc, rfl, hsz⟩ := hx
    refine goes_pure hS hρ (cv := .string s) ?_ (by simp only [VRel]; exact ⟨s, rfl, rfl, hsz⟩)
    simp [execOp, ho, hc, convert, run_underlying hs, run_underlying hd]
  · rename_i e hs hd
    split at h
    · rename_i he
      split at h
      · rename_i r hr
        cases h
        obtain ⟨s, h1, h2, h3⟩ := bytesOf_rel hS hx hs he hd hr
        exact goes_pure hS hρ (cv := .string s) (by simp [execOp, ho, h1]) (by simp only [VRel]; exact ⟨s, rfl, h2, h3⟩)
      · cases h
    · cases h
  · cases h
end
end Go.Ab
