/- Columns as lists; steps of memories: a new block, a block rewritten, a block appended to. -/
import Derived.Test.YtjciabbnncidjaaGreatAbTr
set_option linter.unusedVariables false
namespace Go.Ab
open Go

theorem mixL_len (k : IntKind) (n : Nat) (xs : List Int) : (mixL k n xs).length = n := by simp [mixL]
theorem mixL_get {k : IntKind} {n : Nat} {xs : List Int} {i : Nat} (h : i < n) : (mixL k n xs)[i]? = some (.I k (xs.getD i 0)) := by simp [mixL, h]
theorem setP_get : ∀ (xs : List Int) (j : Nat) (v : Int) (i : Nat), (setP xs j v).getD i 0 = if i = j then v else xs.getD i 0
  | [], 0, v, i => by cases i <;> simp [setP]
  | [], j + 1, v, i => by
    cases i with
    | zero => simp [setP]
    | succ i => have := setP_get [] j v i; simp only [setP, List.getD_cons_succ, this]; simp
  | x :: xs, 0, v, i => by cases i <;> simp [setP]
  | x :: xs, j + 1, v, i => by
    cases i with
    | zero => simp [setP]
    | succ i => have := setP_get xs j v i; simp only [setP, List.getD_cons_succ, this]; simp
theorem takeP_len : ∀ (m : Nat) (xs : List Int), (takeP m xs).length = m
  | 0, _ => rfl
  | m + 1, [] => by simp [takeP, takeP_len m]
  | m + 1, x :: xs => by simp [takeP, takeP_len m]
theorem takeP_get : ∀ (m : Nat) (xs : List Int) (i : Nat), i < m → (takeP m xs)[i]? = some (xs.getD i 0)
  | 0, _, i, h => by omega
  | m + 1, [], i, h => by
    cases i with
    | zero => simp [takeP]
    | succ i => have := takeP_get m [] i (by omega); simpa [takeP] using this
  | m + 1, x :: xs, i, h => by
    cases i with
    | zero => simp [takeP]
    | succ i => have := takeP_get m xs i (by omega); simpa [takeP] using this
theorem takeP_list (k : IntKind) (m n a : Nat) (xs : List Int) (h : a + m ≤ n) : (takeP m (xs.drop a)).map (V.I k) = ((mixL k n xs).drop a).take m := by
  apply List.ext_getElem?
  intro i
  by_cases hi : i < m
  · rw [List.getElem?_map, takeP_get m _ i hi, List.getElem?_take, if_pos hi, List.getElem?_drop, mixL_get (by omega)]
    simp
  · rw [List.getElem?_eq_none (by rw [List.length_map, takeP_len]; omega), List.getElem?_eq_none (by rw [List.length_take]; omega)]
theorem mixL_drop (k : IntKind) (n a : Nat) (xs : List Int) : (mixL k n xs).drop a = mixL k (n - a) (xs.drop a) := by
  apply List.ext_getElem?
  intro i
  rw [List.getElem?_drop]
  by_cases hi : i < n - a
  · rw [mixL_get (by omega), mixL_get hi]; simp
  · rw [List.getElem?_eq_none (by rw [mixL_len]; omega), List.getElem?_eq_none (by rw [mixL_len]; omega)]
theorem mixL_app (k : IntKind) (n : Nat) (xs ys : List Int) : mixL k (xs.length + n) (xs ++ ys) = xs.map (V.I k) ++ mixL k n ys := by
  apply List.ext_getElem?
  intro i
  by_cases hi : i < xs.length
  · rw [mixL_get (by omega), List.getElem?_append_left (by simpa using hi), List.getElem?_map]
    simp [List.getElem?_append_left hi, hi]
  · rw [List.getElem?_append_right (by simpa using hi), List.length_map]
    by_cases h2 : i < xs.length + n
    · rw [mixL_get h2, mixL_get (by omega)]
      simp only [List.getD_eq_getElem?_getD]
      rw [List.getElem?_append_right (by omega)]
    · rw [List.getElem?_eq_none (by rw [mixL_len]; omega), List.getElem?_eq_none (by rw [mixL_len]; omega)]
theorem mixL_nil_of {k : IntKind} {n : Nat} {xs : List Int} (h : xs.all (fun x => x == 0) = true) : mixL k n xs = mixL k n [] := by
  apply List.ext_getElem?
  intro i
  by_cases hi : i < n
  · rw [mixL_get hi, mixL_get hi]
    congr 2
    rw [List.getD_eq_getElem?_getD]
    cases hx : xs[i]? with
    | none => simp
    | some x => have := List.all_eq_true.1 h x (List.mem_of_getElem? hx); simp at this; simp [this]
  · rw [List.getElem?_eq_none (by rw [mixL_len]; omega), List.getElem?_eq_none (by rw [mixL_len]; omega)]
theorem mixL_all (k : IntKind) (xs : List Int) : mixL k xs.length xs = xs.map (V.I k) := by
  have := mixL_app k 0 xs []
  simpa [mixL] using this
theorem Col.list_len [Pins] (c : Col) : c.list.length = c.len := by cases c <;> simp [Col.list, Col.len, mixL_len]
theorem Col.list_get [Pins] (c : Col) (r : Nat) (h : r < c.len) : c.list[r]? = some (c.get r) := by
  cases c with
  | mix k n xs vs =>
    simp only [Col.list, Col.len, Col.get] at h ⊢
    cases hb : Nat.blt r n with
    | true =>
      have hr : r < n := Nat.lt_of_lt_of_le (Nat.lt_succ_self r) (Nat.le_of_ble_eq_true hb)
      rw [List.getElem?_append_left (by rw [mixL_len]; exact hr), mixL_get hr]
    | false =>
      have hr : ¬ r < n := fun hr => by
        have : Nat.blt r n = true := by simpa [Nat.blt_eq] using hr
        rw [this] at hb; cases hb
      rw [List.getElem?_append_right (by rw [mixL_len]; omega), mixL_len]
      simp only [List.getD_eq_getElem?_getD]
      rw [List.getElem?_eq_getElem (by omega)]
      rfl
  | _ => simp_all [Col.list, Col.len, Col.get]
theorem Col.list_set [Pins] {c c' : Col} {j : Nat} {v : V} (h : c.set j v = some c') : c'.list = c.list.set j v := by
  cases c with
  | ints k xs =>
    cases v <;> simp [Col.set] at h
    case L => subst h; simp [Col.list]
    obtain ⟨rfl, rfl⟩ := h
    simp [Col.list, List.map_set]
  | bools xs =>
    cases v <;> simp [Col.set] at h
    subst h; simp [Col.list, List.map_set]
  | strs xs =>
    cases v <;> simp [Col.set] at h
    subst h; simp [Col.list, List.map_set]
  | vals xs => simp [Col.set] at h; subst h; simp [Col.list]
  | mix k n xs vs =>
    simp only [Col.set] at h
    split at h
    · rename_i hb
      have hj : j < n := Nat.lt_of_lt_of_le (Nat.lt_succ_self j) (Nat.le_of_ble_eq_true hb)
      split at h
      · rename_i k' x
        split at h
        · rename_i hk
          subst hk
          cases h
          simp only [Col.list]
          rw [List.set_append_left _ _ (by rw [mixL_len]; exact hj)]
          congr 1
          apply List.ext_getElem?
          intro i
          rw [List.getElem?_set]
          by_cases hi : i < n
          · rw [mixL_get hi, setP_get]
            by_cases hij : j = i
            · subst hij; simp [mixL_len, hi]
            · rw [if_neg hij, mixL_get hi, if_neg (fun h => hij h.symm)]
          · rw [List.getElem?_eq_none (by rw [mixL_len]; omega), if_neg (by omega), List.getElem?_eq_none (by rw [mixL_len]; omega)]
        · cases h
      · cases h
    · rename_i hb
      have hj : ¬ j < n := fun hj => by
        have : Nat.blt j n = true := by simpa [Nat.blt_eq] using hj
        rw [this] at hb; cases hb
      cases h
      simp only [Col.list]
      rw [List.set_append_right _ _ (by rw [mixL_len]; omega), mixL_len]
  | map es => simp [Col.set] at h
  | it k n s l => simp [Col.set] at h
  | st xs p => simp [Col.set] at h
  | lp _ _ _ _ _ _ => simp [Col.set] at h
  | gone => simp [Col.set] at h
  | ch _ _ => simp [Col.set] at h
theorem Col.list_app [Pins] {c d x : Col} (h : c.app d = some x) : x.list = c.list ++ d.list := by
  cases c <;> cases d <;> simp [Col.app] at h
  case ints.ints => obtain ⟨rfl, rfl⟩ := h; simp [Col.list]
  case ints.mix => obtain ⟨rfl, rfl⟩ := h; simp [Col.list, mixL_app]
  all_goals subst h; simp [Col.list]
theorem Col.list_over [Pins] {n : Nat} {c d x : Col} (h : c.over n d = some x) : x.list = c.list.take n ++ d.list := by
  cases c <;> cases d <;> simp [Col.over, Col.plain] at h
  case ints.ints => obtain ⟨rfl, rfl⟩ := h; simp [Col.list]
  case vals.ints => cases n <;> simp at h; subst h; simp [Col.list]
  case vals.bools => cases n <;> simp at h; subst h; simp [Col.list]
  case vals.strs => cases n <;> simp at h; subst h; simp [Col.list]
  case vals.mix => cases n <;> simp at h; subst h; simp [Col.list]
  case mix.ints k q xs vs k' ys =>
    obtain ⟨rfl, h⟩ := h
    split at h
    · rename_i hb
      have hn : n ≤ q := Nat.le_of_ble_eq_true hb
      cases h
      have := takeP_list k' n q 0 xs (by omega)
      simp only [List.drop_zero] at this
      simp only [Col.list, List.map_append]
      rw [this, List.take_append_of_le_length (by rw [mixL_len]; exact hn)]
    · cases h
  all_goals subst h; simp [Col.list]
theorem Col.list_from [Pins] (a : Nat) (c : Col) : (c.from a).list = c.list.drop a := by
  cases c with
  | mix k q xs vs =>
    simp only [Col.from]
    split
    · rename_i hb
      have hn : a ≤ q := Nat.le_of_ble_eq_true hb
      simp only [Col.list]
      rw [List.drop_append_of_le_length (by rw [mixL_len]; omega), mixL_drop]
    · rename_i hb
      have hn : ¬ a ≤ q := fun h => by rw [Nat.ble_eq_true_of_le h] at hb; cases hb
      simp only [Col.list]
      have hz : (mixL k q xs).drop a = [] := List.drop_eq_nil_of_le (by rw [mixL_len]; omega)
      rw [List.drop_append, hz, mixL_len, List.nil_append]
  | _ => simp [Col.from, Col.list]
theorem Col.list_win [Pins] (a n : Nat) (c : Col) : (c.win a n).list = (c.list.drop a).take n := by
  cases c with
  | mix k q xs vs =>
    simp only [Col.win]
    split
    · rename_i hb
      have hn : q + vs.length ≤ a + n := Nat.le_of_ble_eq_true hb
      have := Col.list_from a (.mix k q xs vs)
      simp only [Col.from] at this
      rw [this, List.take_of_length_le]
      rw [List.length_drop, Col.list_len]
      simp only [Col.len]
      omega
    · split
      · rename_i hb
        have hn : a + n ≤ q := Nat.le_of_ble_eq_true hb
        simp only [Col.list]
        rw [takeP_list k n q a xs hn, List.drop_append_of_le_length (by rw [mixL_len]; omega), List.take_append_of_le_length (by rw [List.length_drop, mixL_len]; omega)]
      · simp [Col.list]
  | _ => simp [Col.win, Col.list]
theorem Col.list_kill [Pins] (j : Nat) (c : Col) : (c.kill j).list = c.list.map (V.kill j) := by
  cases c with
  | it k n s l => simp only [Col.kill]; by_cases h : k = j <;> simp [h, Col.list]
  | mix k q xs vs => simp [Col.kill, Col.list, V.killL_eq, mixL, V.kill]
  | _ => simp [Col.kill, Col.list, V.killL_eq, V.kill]
theorem Col.list_ren [Pins] (π : Nat → Option Nat) (c : Col) : (c.ren π).list = c.list.map (V.ren π) := by
  cases c with
  | it k n s l => simp only [Col.ren]; cases h : π k <;> simp [Col.list]
  | mix k q xs vs => simp [Col.ren, Col.list, V.renL_eq, mixL, V.ren]
  | _ => simp [Col.ren, Col.list, V.renL_eq, V.ren]
theorem allI_eq [Pins] {k : IntKind} : ∀ {vs : List V} {xs : List Int}, allI k vs = some xs → vs = xs.map (V.I k)
  | [], xs, h => by simp [allI] at h; simp [← h]
  | .I k' n :: vs, xs, h => by
    simp only [allI] at h
    split at h
    · rename_i hk
      split at h
      · rename_i r hr; cases h; simp [allI_eq hr, hk]
      · cases h
    · cases h
  | .undef :: _, _, h | .B _ :: _, _, h | .S _ :: _, _, h | .ptr _ _ _ :: _, _, h | .nilp :: _, _, h | .sl _ _ _ _ :: _, _, h | .nils :: _, _, h
  | .agg _ :: _, _, h | .tup _ :: _, _, h | .fn _ _ _ :: _, _, h | .nilf :: _, _, h | .ifc _ _ :: _, _, h | .nili :: _, _, h | .nilm :: _, _, h => by simp [allI] at h
theorem allB_eq [Pins] : ∀ {vs : List V} {xs : List Bool}, allB vs = some xs → vs = xs.map V.B
  | [], xs, h => by simp [allB] at h; simp [← h]
  | .B n :: vs, xs, h => by
    simp only [allB] at h
    split at h
    · rename_i r hr; cases h; simp [allB_eq hr]
    · cases h
  | .undef :: _, _, h | .I _ _ :: _, _, h | .S _ :: _, _, h | .ptr _ _ _ :: _, _, h | .nilp :: _, _, h | .sl _ _ _ _ :: _, _, h | .nils :: _, _, h
  | .agg _ :: _, _, h | .tup _ :: _, _, h | .fn _ _ _ :: _, _, h | .nilf :: _, _, h | .ifc _ _ :: _, _, h | .nili :: _, _, h | .nilm :: _, _, h => by simp [allB] at h
theorem allS_eq [Pins] : ∀ {vs : List V} {xs : List (List Int)}, allS vs = some xs → vs = xs.map V.S
  | [], xs, h => by simp [allS] at h; simp [← h]
  | .S n :: vs, xs, h => by
    simp only [allS] at h
    split at h
    · rename_i r hr; cases h; simp [allS_eq hr]
    · cases h
  | .undef :: _, _, h | .I _ _ :: _, _, h | .B _ :: _, _, h | .ptr _ _ _ :: _, _, h | .nilp :: _, _, h | .sl _ _ _ _ :: _, _, h | .nils :: _, _, h
  | .agg _ :: _, _, h | .tup _ :: _, _, h | .fn _ _ _ :: _, _, h | .nilf :: _, _, h | .ifc _ _ :: _, _, h | .nili :: _, _, h | .nilm :: _, _, h => by simp [allS] at h
theorem Col.list_mk [Pins] {z : Value} {vs : List V} {c : Col} (h : Col.mk z vs = some c) : c.list = vs := by
  unfold Col.mk at h
  split at h
  · split at h
    · rename_i hr; cases h; simp [Col.list, allI_eq hr]
    · cases h; simp [Col.list]
  · split at h
    · rename_i hr; cases h; simp [Col.list, allB_eq hr]
    · cases h
  · split at h
    · rename_i hr; cases h; simp [Col.list, allS_eq hr]
    · cases h
  · cases h; simp [Col.list]

/-! ## Where cells lie -/
theorem cell_uniq [Pins] {nc r f r' f' : Nat} (hf : f < nc) (hf' : f' < nc) (h : r * nc + f = r' * nc + f') : r = r' ∧ f = f' := by
  have h1 : (r * nc + f) / nc = r := by rw [Nat.mul_comm, Nat.mul_add_div (by omega), Nat.div_eq_of_lt hf]; omega
  have h2 : (r' * nc + f') / nc = r' := by rw [Nat.mul_comm, Nat.mul_add_div (by omega), Nat.div_eq_of_lt hf']; omega
  have : r = r' := by rw [← h1, h, h2]
  subst this
  exact ⟨rfl, by omega⟩
theorem Addr.add_none [Pins] (b o n : Nat) : Addr.add ⟨b, o, none⟩ n = ⟨b, o + n, none⟩ := Go.Addr.add_lit b o n
theorem BlkRel.fld [Pins] {E : Wh} {w : World} {b : Blk} {e : BE} (h : BlkRel E w b e) {fld : Nat} {col : Col} (hc : b.cols[fld]? = some col) : fld < e.nc := by
  rw [h.nc]; exact (List.getElem?_eq_some_iff.1 hc).1
theorem BlkRel.collen [Pins] {E : Wh} {w : World} {b : Blk} {e : BE} (h : BlkRel E w b e) {fld : Nat} {col : Col} (hc : b.cols[fld]? = some col) : col.list.length = e.rows := by
  rw [Col.list_len]; exact h.len col (List.mem_of_getElem? hc)
theorem MRel.mapV [Pins] {E E' : Wh} {f : V → V} {es : List (V × V)} {ds : List MapEntry} (hf : ∀ v c, VRel E v c → VRel E' (f v) c) (h : MRel E es ds) : MRel E' (es.map fun p => (f p.1, f p.2)) ds := by
  refine ⟨by simpa using h.1, fun i p hp => ?_⟩
  simp only [List.getElem?_map, Option.map_eq_some_iff] at hp
  obtain ⟨q, hq, rfl⟩ := hp
  obtain ⟨d, h1, h2, h3, h4⟩ := h.2 i q hq
  exact ⟨d, h1, hf _ _ h2, hf _ _ h3, h4⟩
theorem MRel.mono [Pins] {E E' : Wh} {es : List (V × V)} {ds : List MapEntry} (hE : ∀ k e, E k = some e → E' k = some e) (h : MRel E es ds) : MRel E' es ds := by
  have := MRel.mapV (f := id) (fun v c hv => hv.mono hE) h
  simpa using this
theorem SpRel.mono [Pins] {E E' : Wh} {c : Col} {ob : Obj} (hE : ∀ k e, E k = some e → E' k = some e) (h : SpRel E c ob) : SpRel E' c ob := by
  cases c <;> cases ob <;> simp only [SpRel] at h ⊢ <;> first | exact h.elim | exact ⟨MRel.mono hE h.1, h.2⟩ | (obtain ⟨⟨e, h1, h2⟩, h3⟩ := h; exact ⟨⟨e, hE _ _ h1, h2⟩, h3⟩) | (obtain ⟨h1, h2, h3, h4, h5, h6⟩ := h; exact ⟨h1, h2, h3, h4, h5, h6.mono hE⟩) | (obtain ⟨h1, h2, h3, h4⟩ := h; exact ⟨h1, h2, h3, h4.mono hE⟩) | exact h
theorem SpRel.ren [Pins] {E E' : Wh} {π : Nat → Option Nat} {c : Col} {ob : Obj} (hE : ∀ k j, π k = some j → ∀ e, E k = some e → E' j = some e) (h : SpRel E c ob) : SpRel E' (c.ren π) ob := by
  cases c with
  | it k n sn l =>
    cases ob <;> simp only [SpRel, Col.ren] at h ⊢ <;> first | exact h.elim | skip
    obtain ⟨⟨e, h1, h2⟩, h3⟩ := h
    cases hj : π k with
    | some j => exact ⟨⟨e, hE _ _ hj _ h1, h2⟩, h3⟩
    | none => trivial
  | map es =>
    cases ob <;> simp only [SpRel, Col.ren] at h ⊢ <;> first | exact h.elim | skip
    exact ⟨MRel.mapV (fun v c hv => hv.ren (fun k _ j hj e he => hE k j hj e he)) h.1, by simpa using h.2⟩
  | lp s0 pe ps x y d =>
    cases ob <;> simp only [SpRel, Col.ren] at h ⊢ <;> first | exact h.elim | skip
    obtain ⟨h1, h2, h3, h4, h5, h6⟩ := h
    refine ⟨h1, h2, h3, h4, h5, ?_⟩
    rw [V.renL_eq, List.length_map, ← V.renL_eq]
    exact h6.ren (fun k _ j hj e he => hE k j hj e he)
  | ch cap xs =>
    cases ob <;> simp only [SpRel, Col.ren] at h ⊢ <;> first | exact h.elim | skip
    exact ⟨h.1, h.2.1, h.2.2.1, h.2.2.2.ren (fun k _ j hj e he => hE k j hj e he)⟩
  | _ => cases ob <;> simp only [SpRel, Col.ren] at h ⊢ <;> first | exact h.elim | exact h
theorem SpRel.kill [Pins] {E E' : Wh} {j : Nat} {c : Col} {ob : Obj} (hE : ∀ k e, k ≠ j → E k = some e → E' k = some e) (h : SpRel E c ob) : SpRel E' (c.kill j) ob := by
  cases c with
  | it k n sn l =>
    cases ob <;> simp only [SpRel, Col.kill] at h ⊢ <;> first | exact h.elim | skip
    obtain ⟨⟨e, h1, h2⟩, h3⟩ := h
    by_cases hk : k = j
    · rw [if_pos hk]; trivial
    · rw [if_neg hk]; exact ⟨⟨e, hE _ _ hk h1, h2⟩, h3⟩
  | map es =>
    cases ob <;> simp only [SpRel, Col.kill] at h ⊢ <;> first | exact h.elim | skip
    exact ⟨MRel.mapV (fun v c hv => hv.kill hE) h.1, by simpa using h.2⟩
  | lp s0 pe ps x y d =>
    cases ob <;> simp only [SpRel, Col.kill] at h ⊢ <;> first | exact h.elim | skip
    obtain ⟨h1, h2, h3, h4, h5, h6⟩ := h
    refine ⟨h1, h2, h3, h4, h5, ?_⟩
    rw [V.killL_length]
    exact h6.kill hE
  | ch cap xs =>
    cases ob <;> simp only [SpRel, Col.kill] at h ⊢ <;> first | exact h.elim | skip
    exact ⟨h.1, h.2.1, h.2.2.1, h.2.2.2.kill hE⟩
  | _ => cases ob <;> simp only [SpRel, Col.kill] at h ⊢ <;> first | exact h.elim | exact h
theorem Blk.mp_some [Pins] {b : Blk} {es : List (V × V)} (h : b.mp = some es) : b.cols = [.map es] := by
  unfold Blk.mp at h
  split at h
  · rename_i es' hc; cases h; exact hc
  · cases h
theorem Blk.sp_some [Pins] {b : Blk} {c : Col} (h : b.sp = some c) : b.cols = [c] ∧ c.plain = false := by
  unfold Blk.sp at h
  split at h
  · rename_i c' hc
    split at h
    · cases h
    · rename_i hp; cases h; exact ⟨hc, hp⟩
  · cases h
theorem Blk.sp_of [Pins] {b : Blk} {c : Col} (h : b.cols = [c]) (hp : c.plain = false) : b.sp = some c := by
  unfold Blk.sp; rw [h]; simp [hp]
theorem Blk.sp_mp [Pins] {b : Blk} {es : List (V × V)} (h : b.mp = some es) : b.sp = some (.map es) := Blk.sp_of (Blk.mp_some h) rfl
theorem Col.plain_kill [Pins] (j : Nat) (c : Col) : (c.kill j).plain = c.plain := by
  cases c with
  | it k n s l => simp only [Col.kill]; by_cases h : k = j <;> simp [h, Col.plain]
  | _ => rfl
theorem Col.plain_ren [Pins] (π : Nat → Option Nat) (c : Col) : (c.ren π).plain = c.plain := by
  cases c with
  | it k n s l => simp only [Col.ren]; cases h : π k <;> rfl
  | _ => rfl
theorem Blk.sp_kill [Pins] {b : Blk} {j : Nat} : (b.kill j).sp = b.sp.map (Col.kill j) := by
  unfold Blk.sp Blk.kill
  rcases b.cols with _ | ⟨c, _ | ⟨d, l⟩⟩
  · rfl
  · simp only [List.map_cons, List.map_nil, Col.plain_kill]
    cases c.plain <;> rfl
  · rfl
theorem Blk.sp_ren [Pins] {b : Blk} {π : Nat → Option Nat} : (b.ren π).sp = b.sp.map (Col.ren π) := by
  unfold Blk.sp Blk.ren
  rcases b.cols with _ | ⟨c, _ | ⟨d, l⟩⟩
  · rfl
  · simp only [List.map_cons, List.map_nil, Col.plain_ren]
    cases c.plain <;> rfl
  · rfl
theorem Blk.sp_plain [Pins] {cs : List Col} {et : TypeId} {ro mv : Bool} (h : cs.all Col.plain = true) : (⟨cs, et, ro, mv⟩ : Blk).sp = none := by
  unfold Blk.sp
  split
  · rename_i c hc
    simp only at hc
    subst hc
    simp at h
    simp [h]
  · rfl
/-- A related block's cells in another world in which its block is as it was. -/
theorem BlkRel.kept [Pins] {E E' : Wh} {w w' : World} {b : Blk} {e : BE} (h : BlkRel E w b e) (hE : ∀ k e, E k = some e → E' k = some e)
    (hw : e.cr ≠ 0 → w'.heap[e.blk]? = w.heap[e.blk]?) (hs : w.heap.size ≤ w'.heap.size) : BlkRel E' w' b e := by
  refine ⟨h.nc, h.rows, h.len, ?_, ?_, fun hc => Nat.lt_of_lt_of_le (h.lt hc) hs, h.room, h.max, ?_⟩
  · intro row fld col v hc hv
    obtain ⟨c, h1, h2, h3⟩ := h.cells row fld col v hc hv
    have hr : row < e.rows := by rw [← h.collen hc]; exact (List.getElem?_eq_some_iff.1 hv).1
    have := h.room
    exact ⟨c, by rw [World.cell?_of_block (w := w) (hw (by omega))]; exact h1, h2, h3.mono hE⟩
  · intro hro hcr hm
    obtain ⟨h1, cur, h2, h3⟩ := h.own hro hcr hm
    exact ⟨h1, cur, by rw [hw hcr]; exact h2, h3⟩
  · intro c hc
    obtain ⟨hcr, ob, h1, h2⟩ := h.mo c hc
    exact ⟨hcr, ob, by rw [hw hcr]; exact h1, h2.mono hE⟩
def upd (E : Wh) (k : Nat) (e : BE) : Wh := fun j => if j = k then some e else E j
@[simp] theorem upd_same (E : Wh) (k : Nat) (e : BE) : upd E k e k = some e := by simp [upd]
theorem upd_ne [Pins] {E : Wh} {k j : Nat} {e : BE} (h : j ≠ k) : upd E k e j = E j := by simp [upd, h]
theorem Sim.lt [Pins] {E : Wh} {m : Mem} {w : World} (h : Sim E m w) {k : Nat} {e : BE} (hk : E k = some e) : k < m.length := by
  obtain ⟨b, hb, _⟩ := h.blk k e hk
  exact (List.getElem?_eq_some_iff.1 hb).1
theorem upd_new [Pins] {E : Wh} {m : Mem} {w : World} (h : Sim E m w) (e : BE) : ∀ k x, E k = some x → upd E m.length e k = some x := by
  intro k x hk
  rw [upd_ne (by have := h.lt hk; omega)]; exact hk

theorem froz_set [Pins] {w w' : World} {b : Nat} (h : ∀ j, j ≠ b → w'.heap[j]? = w.heap[j]?) {c c' : Array Value} {t t' : TypeId} (h1 : w.heap[b]? = some (.cells c t (0, 0))) (h2 : w'.heap[b]? = some (.cells c' t' (0, 0))) :
    ∀ a, w'.frozen? a = w.frozen? a := by
  intro a
  by_cases ha : a.block = b
  · simp [World.frozen?, ha, h1, h2]
  · simp [World.frozen?, h a.block ha]
theorem froz_alloc [Pins] (w : World) (c : Array Value) (t : TypeId) : ∀ a, (w.alloc (.cells c t)).frozen? a = w.frozen? a := by
  intro a
  by_cases ha : a.block = w.heap.size
  · have h1 : (w.alloc (.cells c t)).heap[a.block]? = some (.cells c t) := by rw [ha, World.alloc]; simp
    have h2 : w.heap[a.block]? = none := by rw [ha]; simp
    unfold World.frozen?
    rw [h1, h2]
    simp
  · have : (w.alloc (.cells c t)).heap[a.block]? = w.heap[a.block]? := by
      rw [World.alloc]
      simp only [Array.getElem?_push]
      rw [if_neg ha]
    unfold World.frozen?
    rw [this]
/-- A new block. -/
theorem Step.new [Pins] {E : Wh} {m : Mem} {w w' : World} (h : Sim E m w) (b : Blk) (e : BE)
    (hos : w'.os = w.os) (htp : w'.tape = w.tape) (hout : w'.output = w.output) (hsz : w.heap.size ≤ w'.heap.size) (hold : ∀ j, j < w.heap.size → w'.heap[j]? = w.heap[j]?)
    (hb : BlkRel (upd E m.length e) w' b e) (hg : e.cr ≠ 0 → w.heap.size ≤ e.blk) : Step E m w (upd E m.length e) (m ++ [b]) w' := by
  have hE := upd_new h e
  have oldb : ∀ k x, k ≠ m.length → upd E m.length e k = some x → ∃ b0, m[k]? = some b0 ∧ (m ++ [b])[k]? = some b0 ∧ BlkRel E w b0 x := by
    intro k x hk hx
    rw [upd_ne hk] at hx
    obtain ⟨b0, h1, h2⟩ := h.blk k x hx
    exact ⟨b0, h1, by rw [List.getElem?_append_left (h.lt hx)]; exact h1, h2⟩
  refine Step.of h ?_ ?_ hos htp hout hsz (fun j hj _ => hold j hj) ?_ (by simp) ?_ ?_ (fun j hj h0 => by rw [upd_ne (by omega)]; exact h0)
  · intro k x hx
    by_cases hk : k = m.length
    · subst hk
      simp at hx; subst hx
      exact ⟨b, by simp, hb⟩
    · obtain ⟨b0, _, h2, h3⟩ := oldb k x hk hx
      exact ⟨b0, h2, h3.kept hE (fun hc => hold _ (h3.lt hc)) hsz⟩
  · intro k x bk k' x' hx hbk hro hcr hx' hcr' hne
    by_cases hk : k = m.length
    · subst hk
      simp at hx; subst hx
      obtain ⟨b0, _, _, h3⟩ := oldb k' x' (by omega) hx'
      have := h3.lt hcr'
      have := hg hcr
      omega
    · obtain ⟨b0, h1, h2, h3⟩ := oldb k x hk hx
      by_cases hk' : k' = m.length
      · subst hk'
        simp at hx'; subst hx'
        have := h3.lt hcr
        have := hg hcr'
        omega
      · obtain ⟨b0', h1', h2', h3'⟩ := oldb k' x' hk' hx'
        rw [h2] at hbk
        obtain rfl := Option.some.inj hbk
        rw [upd_ne hk] at hx
        rw [upd_ne hk'] at hx'
        exact h.apart k x b0 k' x' hx h1 hro hcr hx' hcr' hne
  · rintro j ⟨k, x, bk, hx, hbk, hro, hcr, rfl⟩ hj
    by_cases hk : k = m.length
    · subst hk
      simp at hx; subst hx
      have := hg hcr
      omega
    · obtain ⟨b0, h1, h2, h3⟩ := oldb k x hk hx
      rw [h2] at hbk
      obtain rfl := Option.some.inj hbk
      rw [upd_ne hk] at hx
      exact ⟨k, x, b0, hx, h1, hro, hcr, rfl⟩
  · intro k x hx hc hlt
    by_cases hk : k = m.length
    · subst hk
      simp at hx; subst hx
      have := hg hc
      omega
    · rw [upd_ne hk] at hx
      exact ⟨k, x, hx, hc, rfl⟩
  · intro k x hx
    obtain ⟨b0, h1, h2⟩ := h.blk k x hx
    exact ⟨x, b0, b0, h1, by rw [List.getElem?_append_left (h.lt hx)]; exact h1, hE k x hx, id, id, fun _ => rfl⟩

/-- A new block, wherever it is listed. -/
structure NewB [Pins] (E : Wh) (m : Mem) (w w' : World) (b : Blk) (e : BE) : Prop where
  os : w'.os = w.os
  tape : w'.tape = w.tape
  out : w'.output = w.output
  size : w.heap.size ≤ w'.heap.size
  hold : ∀ j, j < w.heap.size → w'.heap[j]? = w.heap[j]?
  blk : BlkRel (upd E m.length e) w' b e
  far : e.cr ≠ 0 → w.heap.size ≤ e.blk
theorem NewB.step [Pins] {E : Wh} {m : Mem} {w w' : World} {b : Blk} {e : BE} (h : Sim E m w) (hb : NewB E m w w' b e) : Step E m w (upd E m.length e) (m ++ [b]) w' :=
  Step.new h b e hb.os hb.tape hb.out hb.size hb.hold hb.blk hb.far
theorem mvN_ok [Pins] {E : Wh} {n kb : Nat} {e : BE} (hg : E kb = none) : ∀ k j, mvN n kb k = some j → ∀ x, upd E n e k = some x → upd E kb e j = some x := by
  intro k j hj x hx
  unfold mvN at hj
  split at hj
  · rename_i hk
    obtain rfl := Nat.eq_of_beq_eq_true hk
    cases hj
    simpa using hx
  · rename_i hk
    cases hj
    have hkn : k ≠ n := fun hh => by subst hh; simp at hk
    rw [upd_ne hkn] at hx
    rw [upd_ne (fun hh => by subst hh; rw [hg] at hx; cases hx)]
    exact hx
theorem BlkRel.renN [Pins] {E E' : Wh} {w : World} {b : Blk} {e : BE} {π : Nat → Option Nat} (h : BlkRel E w b e) (hE : ∀ k j, π k = some j → ∀ x, E k = some x → E' j = some x) : BlkRel E' w (b.ren π) e := by
  refine ⟨by rw [h.nc]; simp [Blk.ren], ?_, ?_, ?_, ?_, h.lt, h.room, h.max, ?_⟩
  · rw [h.rows]
    unfold Blk.rows Blk.ren
    cases b.cols with
    | nil => rfl
    | cons c cs => simp only [List.map_cons]; rw [← Col.list_len, ← Col.list_len, Col.list_ren, List.length_map]
  · intro c hcm
    simp only [Blk.ren, List.mem_map] at hcm
    obtain ⟨c0, h0, rfl⟩ := hcm
    rw [← h.len c0 h0, ← Col.list_len, Col.list_ren, List.length_map, Col.list_len]
  · intro row fld col v hcol hv
    simp only [Blk.ren, List.getElem?_map, Option.map_eq_some_iff] at hcol
    obtain ⟨c0, h0, rfl⟩ := hcol
    rw [Col.list_ren, List.getElem?_map, Option.map_eq_some_iff] at hv
    obtain ⟨v0, hv0, rfl⟩ := hv
    obtain ⟨c, h1, h2, h3⟩ := h.cells row fld c0 v0 h0 hv0
    exact ⟨c, h1, h2, h3.ren (fun k _ j hj x hx => hE k j hj x hx)⟩
  · intro hf hcr hm
    rw [Blk.sp_ren, Option.map_eq_none_iff] at hm
    exact h.own hf hcr hm
  · intro c hc
    rw [Blk.sp_ren, Option.map_eq_some_iff] at hc
    obtain ⟨c0, h0, rfl⟩ := hc
    obtain ⟨hcr, ob, h1, h2⟩ := h.mo c0 h0
    exact ⟨hcr, ob, h1, h2.ren hE⟩
/-- A block that was told already is laid now. -/
theorem Step.fill [Pins] {E0 E : Wh} {m0 m : Mem} {w0 w w' : World} {b : Blk} {e : BE} {kb : Nat} (h0 : Step E0 m0 w0 E m w) (hb : NewB E m w w' b e) (hge : m0.length ≤ kb) (hg : E kb = none)
    (hm : m[kb]? = some (b.ren (mvN m.length kb))) : Step E0 m0 w0 (upd E kb e) m w' := by
  have hS := h0.sim
  have hE : ∀ k x, E k = some x → upd E kb e k = some x := fun k x hx => by rw [upd_ne (fun hh => by subst hh; rw [hg] at hx; cases hx)]; exact hx
  have hnew : BlkRel (upd E kb e) w' (b.ren (mvN m.length kb)) e := hb.blk.renN (mvN_ok hg)
  have oldb : ∀ k x, k ≠ kb → upd E kb e k = some x → E k = some x := fun k x hk hx => by rw [upd_ne hk] at hx; exact hx
  refine ⟨⟨?_, ?_, fun j hp => ⟨(hS.tab j hp).1.of fun hlt => hb.hold j hlt, fun ⟨k, x, bk, hx, hbk, hro, hcr, hj⟩ => by
    have hlt := (hS.tab j hp).1.lt
    by_cases hk : k = kb
    · subst hk
      simp at hx; subst hx
      have := hb.far hcr
      omega
    · exact (hS.tab j hp).2 ⟨k, x, bk, oldb k x hk hx, hbk, hro, hcr, hj⟩⟩⟩, hb.os.trans h0.os, hb.tape.trans h0.tape, hb.out.trans h0.output, Nat.le_trans h0.size hb.size, ?_, ?_, h0.len, ?_, ?_, ?_⟩
  · intro k x hx
    by_cases hk : k = kb
    · subst hk
      simp at hx; subst hx
      exact ⟨_, hm, hnew⟩
    · obtain ⟨b0, h1, h2⟩ := hS.blk k x (oldb k x hk hx)
      exact ⟨b0, h1, h2.kept hE (fun hc => hb.hold _ (h2.lt hc)) hb.size⟩
  · intro k x bk k' x' hx hbk hro hcr hx' hcr' hne
    by_cases hk : k = kb
    · subst hk
      simp at hx; subst hx
      obtain ⟨b0, _, h2⟩ := hS.blk k' x' (oldb k' x' (fun hh => hne hh.symm) hx')
      have := h2.lt hcr'
      have := hb.far hcr
      omega
    · have hx1 := oldb k x hk hx
      obtain ⟨b0, h1, h2⟩ := hS.blk k x hx1
      by_cases hk' : k' = kb
      · subst hk'
        simp at hx'; subst hx'
        have := h2.lt hcr
        have := hb.far hcr'
        omega
      · exact hS.apart k x bk k' x' hx1 hbk hro hcr (oldb k' x' hk' hx') hcr' hne
  · intro j hj ho
    rw [hb.hold j (Nat.lt_of_lt_of_le hj h0.size)]
    exact h0.old j hj ho
  · rintro j ⟨k, x, bk, hx, hbk, hro, hcr, rfl⟩ hj
    by_cases hk : k = kb
    · subst hk
      simp at hx; subst hx
      have := hb.far hcr
      have := h0.size
      omega
    · exact h0.fresh _ ⟨k, x, bk, oldb k x hk hx, hbk, hro, hcr, rfl⟩ hj
  · intro k x hx hc hlt
    by_cases hk : k = kb
    · subst hk
      simp at hx; subst hx
      have := hb.far hc
      have := h0.size
      omega
    · exact h0.born k x (oldb k x hk hx) hc hlt
  · intro k x hx
    obtain ⟨x', b1, b2, g1, g2, g3, g4, g5, g6⟩ := h0.keep k x hx
    exact ⟨x', b1, b2, g1, g2, hE k x' g3, g4, g5, g6⟩
  · intro k hk hk0
    rw [upd_ne (by omega)]
    exact h0.gone k hk hk0

/-- A block of our own is written. -/
theorem Step.set [Pins] {E : Wh} {m : Mem} {w w' : World} (h : Sim E m w) {k : Nat} {e : BE} {b b' : Blk} (hk : E k = some e) (hb : m[k]? = some b) (hro : b.ro = false) (hcr : e.cr ≠ 0)
    (hos : w'.os = w.os) (htp : w'.tape = w.tape) (hout : w'.output = w.output) (hsz : w'.heap.size = w.heap.size) (hold : ∀ j, j ≠ e.blk → w'.heap[j]? = w.heap[j]?)
    (hb' : BlkRel E w' b' e) (hro' : b'.ro = false) (hmv : b'.mv = b.mv) : Step E m w E (m.set k b') w' := by
  have hlt := h.lt hk
  have at_ : ∀ j, j ≠ k → (m.set k b')[j]? = m[j]? := fun j hj => by rw [List.getElem?_set_ne (by omega)]
  have atk : (m.set k b')[k]? = some b' := by rw [List.getElem?_set_self hlt]
  refine Step.of h ?_ ?_ hos htp hout (by omega) ?_ ?_ (by simp) (fun j x hx hc _ => ⟨j, x, hx, hc, rfl⟩) ?_ (fun _ _ h0 => h0)
  · intro j x hx
    by_cases hj : j = k
    · subst hj
      rw [hk] at hx
      obtain rfl := Option.some.inj hx
      exact ⟨b', atk, hb'⟩
    · obtain ⟨b0, h1, h2⟩ := h.blk j x hx
      exact ⟨b0, by rw [at_ j hj]; exact h1, h2.kept (fun _ _ hh => hh) (fun hc => hold _ (fun hh => h.apart k e b j x hk hb hro hcr hx hc (by omega) hh.symm)) (by omega)⟩
  · intro j x bj j' x' hx hbj hroj hcrj hx' hcr' hne
    by_cases hj : j = k
    · subst hj
      rw [hk] at hx
      obtain rfl := Option.some.inj hx
      exact h.apart j e b j' x' hk hb hro hcrj hx' hcr' hne
    · rw [at_ j hj] at hbj
      exact h.apart j x bj j' x' hx hbj hroj hcrj hx' hcr' hne
  · intro j _ ho
    exact hold j fun hh => ho ⟨k, e, b, hk, hb, hro, hcr, hh.symm⟩
  · rintro j ⟨q, x, bq, hx, hbq, hroq, hcrq, rfl⟩ _
    by_cases hj : q = k
    · subst hj
      rw [hk] at hx
      obtain rfl := Option.some.inj hx
      exact ⟨q, e, b, hk, hb, hro, hcr, rfl⟩
    · rw [at_ q hj] at hbq
      exact ⟨q, x, bq, hx, hbq, hroq, hcrq, rfl⟩
  · intro j x hx
    by_cases hj : j = k
    · subst hj
      rw [hk] at hx
      obtain rfl := Option.some.inj hx
      exact ⟨e, b, b', hb, atk, hk, fun hh => (by rw [hro] at hh; cases hh), fun hh => by rw [hmv]; exact hh, fun _ => rfl⟩
    · obtain ⟨b0, h1, h2⟩ := h.blk j x hx
      exact ⟨x, b0, b0, h1, by rw [at_ j hj]; exact h1, hx, id, id, fun _ => rfl⟩

/-- The same block, told in other words. -/
theorem Step.same [Pins] {E : Wh} {m : Mem} {w : World} (h : Sim E m w) {k : Nat} {e : BE} {b b' : Blk} (hk : E k = some e) (hb : m[k]? = some b)
    (hb' : BlkRel E w b' e) (hro' : b'.ro = b.ro) (hmv : b'.mv = b.mv) : Step E m w E (m.set k b') w := by
  have hlt := h.lt hk
  have at_ : ∀ j, j ≠ k → (m.set k b')[j]? = m[j]? := fun j hj => by rw [List.getElem?_set_ne (by omega)]
  have atk : (m.set k b')[k]? = some b' := by rw [List.getElem?_set_self hlt]
  refine Step.of h ?_ ?_ rfl rfl rfl (Nat.le_refl _) (fun _ _ _ => rfl) ?_ (by simp) (fun j x hx hc _ => ⟨j, x, hx, hc, rfl⟩) ?_ (fun _ _ h0 => h0)
  · intro j x hx
    by_cases hj : j = k
    · subst hj
      rw [hk] at hx
      obtain rfl := Option.some.inj hx
      exact ⟨b', atk, hb'⟩
    · obtain ⟨b0, h1, h2⟩ := h.blk j x hx
      exact ⟨b0, by rw [at_ j hj]; exact h1, h2⟩
  · intro j x bj j' x' hx hbj hroj hcrj hx' hcr' hne
    by_cases hj : j = k
    · subst hj
      rw [atk] at hbj
      obtain rfl := Option.some.inj hbj
      exact h.apart j x b j' x' hx hb (by rw [← hro']; exact hroj) hcrj hx' hcr' hne
    · rw [at_ j hj] at hbj
      exact h.apart j x bj j' x' hx hbj hroj hcrj hx' hcr' hne
  · rintro j ⟨q, x, bq, hx, hbq, hroq, hcrq, rfl⟩ _
    by_cases hj : q = k
    · subst hj
      rw [atk] at hbq
      obtain rfl := Option.some.inj hbq
      exact ⟨q, x, b, hx, hb, by rw [← hro']; exact hroq, hcrq, rfl⟩
    · rw [at_ q hj] at hbq
      exact ⟨q, x, bq, hx, hbq, hroq, hcrq, rfl⟩
  · intro j x hx
    by_cases hj : j = k
    · subst hj
      exact ⟨x, b, b', hb, atk, hx, fun hh => by rw [hro']; exact hh, fun hh => by rw [hmv]; exact hh, fun _ => rfl⟩
    · obtain ⟨b0, h1, h2⟩ := h.blk j x hx
      exact ⟨x, b0, b0, h1, by rw [at_ j hj]; exact h1, hx, id, id, fun _ => rfl⟩
theorem Blk.kill_rows [Pins] (j : Nat) (b : Blk) : (b.kill j).rows = b.rows := by
  unfold Blk.rows Blk.kill
  cases b.cols with
  | nil => rfl
  | cons c cs =>
    simp only [List.map_cons]
    rw [← Col.list_len, ← Col.list_len, Col.list_kill, List.length_map]
/-- What pointed to 'j' is forgotten: a related block stays related wherever block 'j' has gone. -/
theorem BlkRel.kill [Pins] {E E' : Wh} {w w' : World} {b : Blk} {e : BE} {j : Nat} (h : BlkRel E w b e) (hE : ∀ k e, k ≠ j → E k = some e → E' k = some e)
    (hw : e.cr ≠ 0 → w'.heap[e.blk]? = w.heap[e.blk]?) (hs : w.heap.size ≤ w'.heap.size) : BlkRel E' w' (b.kill j) e := by
  refine ⟨by rw [h.nc]; simp [Blk.kill], by rw [h.rows, Blk.kill_rows], ?_, ?_, ?_, fun hc => Nat.lt_of_lt_of_le (h.lt hc) hs, h.room, h.max, ?_⟩
  · intro c hc
    simp only [Blk.kill, List.mem_map] at hc
    obtain ⟨c0, h0, rfl⟩ := hc
    rw [← h.len c0 h0, ← Col.list_len, Col.list_kill, List.length_map, Col.list_len]
  · intro row fld col v hc hv
    simp only [Blk.kill, List.getElem?_map, Option.map_eq_some_iff] at hc
    obtain ⟨c0, h0, rfl⟩ := hc
    rw [Col.list_kill, List.getElem?_map, Option.map_eq_some_iff] at hv
    obtain ⟨v0, hv0, rfl⟩ := hv
    obtain ⟨c, h1, h2, h3⟩ := h.cells row fld c0 v0 h0 hv0
    have hr : row < e.rows := by rw [← h.collen h0]; exact (List.getElem?_eq_some_iff.1 hv0).1
    have := h.room
    exact ⟨c, by rw [World.cell?_of_block (w := w) (hw (by omega))]; exact h1, h2, h3.kill hE⟩
  · intro hro hcr hm
    rw [Blk.sp_kill, Option.map_eq_none_iff] at hm
    obtain ⟨h1, cur, h2, h3⟩ := h.own hro hcr hm
    exact ⟨h1, cur, by rw [hw hcr]; exact h2, h3⟩
  · intro c hc
    rw [Blk.sp_kill, Option.map_eq_some_iff] at hc
    obtain ⟨c0, h0, rfl⟩ := hc
    obtain ⟨hcr, ob, h1, h2⟩ := h.mo c0 h0
    exact ⟨hcr, ob, by rw [hw hcr]; exact h1, h2.kill hE⟩
/-- A block of our own is appended to: it may have moved. -/
theorem Step.app [Pins] {E : Wh} {m : Mem} {w w' : World} (h : Sim E m w) {k : Nat} {e e' : BE} {b b' : Blk} (hk : E k = some e) (hb : m[k]? = some b) (hro : b.ro = false)
    (hos : w'.os = w.os) (htp : w'.tape = w.tape) (hout : w'.output = w.output) (hsz : w.heap.size ≤ w'.heap.size) (hold : ∀ j, j < w.heap.size → (e.cr = 0 ∨ j ≠ e.blk) → w'.heap[j]? = w.heap[j]?)
    (hb' : BlkRel (upd E k e') w' b' e') (hro' : b'.ro = false) (hmv : b'.mv = true) (hg : e'.cr ≠ 0 → w.heap.size ≤ e'.blk ∨ (e.cr ≠ 0 ∧ e'.blk = e.blk)) :
    Step E m w (upd E k e') ((m.map (Blk.kill k)).set k b') w' := by
  have hlt := h.lt hk
  have at_ : ∀ j, j ≠ k → ((m.map (Blk.kill k)).set k b')[j]? = (m[j]?).map (Blk.kill k) := fun j hj => by rw [List.getElem?_set_ne (by omega), List.getElem?_map]
  have atk : ((m.map (Blk.kill k)).set k b')[k]? = some b' := by rw [List.getElem?_set_self (by simpa using hlt)]
  have hE : ∀ j x, j ≠ k → E j = some x → upd E k e' j = some x := fun j x hj hx => by rw [upd_ne hj]; exact hx
  have othr : ∀ j x, j ≠ k → E j = some x → x.cr ≠ 0 → e.cr = 0 ∨ x.blk ≠ e.blk := fun j x hj hx hc => by
    by_cases hcr : e.cr = 0
    · exact .inl hcr
    · exact .inr fun hh => h.apart k e b j x hk hb hro hcr hx hc (by omega) hh.symm
  refine Step.of h ?_ ?_ hos htp hout hsz ?_ ?_ (by simp) ?_ ?_ (fun q _ h0 => by rw [upd_ne (fun hq => by subst hq; rw [hk] at h0; cases h0)]; exact h0)
  · intro j x hx
    by_cases hj : j = k
    · subst hj
      simp at hx; subst hx
      exact ⟨b', atk, hb'⟩
    · rw [upd_ne hj] at hx
      obtain ⟨b0, h1, h2⟩ := h.blk j x hx
      exact ⟨b0.kill k, by rw [at_ j hj, h1]; rfl, h2.kill hE (fun hc => hold _ (h2.lt hc) (othr j x hj hx hc)) hsz⟩
  · intro j x bj j' x' hx hbj hroj hcrj hx' hcr' hne
    by_cases hj : j = k
    · subst hj
      simp at hx; subst hx
      rw [upd_ne (by omega)] at hx'
      obtain ⟨b0, h1, h2⟩ := h.blk j' x' hx'
      have := h2.lt hcr'
      rcases hg hcrj with hg | ⟨hg1, hg2⟩
      · omega
      · rw [hg2]; exact h.apart j e b j' x' hk hb hro hg1 hx' hcr' hne
    · rw [upd_ne hj] at hx
      obtain ⟨b0, h1, h2⟩ := h.blk j x hx
      rw [at_ j hj, h1] at hbj
      simp at hbj; subst hbj
      by_cases hj' : j' = k
      · subst hj'
        simp at hx'; subst hx'
        have := h2.lt hcrj
        rcases hg hcr' with hg | ⟨hg1, hg2⟩
        · omega
        · rw [hg2]; exact h.apart j x b0 j' e hx h1 hroj hcrj hk hg1 hne
      · rw [upd_ne hj'] at hx'
        exact h.apart j x b0 j' x' hx h1 hroj hcrj hx' hcr' hne
  · intro j hj ho
    refine hold j hj ?_
    by_cases hcr : e.cr = 0
    · exact .inl hcr
    · exact .inr fun hh => ho ⟨k, e, b, hk, hb, hro, hcr, hh.symm⟩
  · rintro j ⟨q, x, bq, hx, hbq, hroq, hcrq, rfl⟩ hj
    by_cases hq : q = k
    · subst hq
      simp at hx; subst hx
      rcases hg hcrq with hg | ⟨hg1, hg2⟩
      · omega
      · exact ⟨q, e, b, hk, hb, hro, hg1, hg2.symm⟩
    · rw [upd_ne hq] at hx
      obtain ⟨b0, h1, h2⟩ := h.blk q x hx
      rw [at_ q hq, h1] at hbq
      simp at hbq; subst hbq
      exact ⟨q, x, b0, hx, h1, hroq, hcrq, rfl⟩
  · intro q x hx hc hlt
    by_cases hq : q = k
    · subst hq
      simp at hx; subst hx
      rcases hg hc with hg | ⟨hg1, hg2⟩
      · omega
      · exact ⟨q, e, hk, hg1, hg2.symm⟩
    · rw [upd_ne hq] at hx
      exact ⟨q, x, hx, hc, rfl⟩
  · intro j x hx
    by_cases hj : j = k
    · subst hj
      rw [hk] at hx
      obtain rfl := Option.some.inj hx
      exact ⟨e', b, b', hb, atk, by simp, fun hh => (by rw [hro] at hh; cases hh), fun _ => hmv, fun hh => by rw [hmv] at hh; cases hh⟩
    · obtain ⟨b0, h1, h2⟩ := h.blk j x hx
      exact ⟨x, b0, b0.kill k, h1, by rw [at_ j hj, h1]; rfl, hE j x hj hx, id, id, fun _ => rfl⟩
end Go.Ab
