/- The numeral of a whole number: the shelf's contract of strconv.Itoa, laid by the shelf's tool. -/
import Derived.Shelf.LaysM
import Derived.Shelf.Strconv.Itoa3
import Derived.Test.YtkbijhfikkjhpaaGreatDoorProg
import Derived.Lib.ItoaLen
import Derived.Test.YtkbijhfikkjhpaaGreatDoorAbExt
import Derived.Test.YtkbijhfikkjhpaaGreatDoorAbSee
import Derived.Test.YtkbijhfikkjhpaaGreatDoorAbLaw
import Derived.Test.YtkbijhfikkjhpaaGreatDoorAbFil
namespace Go.Proofs
open Go.Shelf
def Tryz.laysM171_ren : Go.Shelf.Ren := ⟨fun | 171 => 26 | 243 => 71 | 246 => 83 | 283 => 89 | 284 => 90 | 285 => 91 | 286 => 92 | 129 => 99 | 317 => 98 | 318 => 100 | 319 => 101 | 320 => 102 | 337 => 105 | 338 => 106 | n => n, fun | 3 => 3 | 9 => 9 | 2 => 2 | 4 => 4 | 171 => 83 | 0 => 0 | 53 => 84 | 37 => 51 | 5 => 5 | 173 => 87 | 212 => 91 | 51 => 92 | 20 => 20 | 213 => 93 | 46 => 82 | 232 => 98 | 233 => 99 | n => n, fun | 17 => 1 | 18 => 2 | 19 => 3 | n => n⟩
theorem Tryz.laysM171 : Go.Proofs.LaysM.n171 Tryz.prog Tryz.laysM171_ren := {
  mixed := by kernel_rfl
  f129 := Tryz.func99.trans (congrArg some (by kernel_rfl))
  f171 := Tryz.func26.trans (congrArg some (by kernel_rfl))
  f243 := Tryz.func71.trans (congrArg some (by kernel_rfl))
  f246 := Tryz.func83.trans (congrArg some (by kernel_rfl))
  f283 := Tryz.func89.trans (congrArg some (by kernel_rfl))
  f284 := Tryz.func90.trans (congrArg some (by kernel_rfl))
  f285 := Tryz.func91.trans (congrArg some (by kernel_rfl))
  f286 := Tryz.func92.trans (congrArg some (by kernel_rfl))
  f317 := Tryz.func98.trans (congrArg some (by kernel_rfl))
  f318 := Tryz.func100.trans (congrArg some (by kernel_rfl))
  f319 := Tryz.func101.trans (congrArg some (by kernel_rfl))
  f320 := Tryz.func102.trans (congrArg some (by kernel_rfl))
  f337 := Tryz.func105.trans (congrArg some (by kernel_rfl))
  f338 := Tryz.func106.trans (congrArg some (by kernel_rfl))
  t0 := Tryz.underlying0
  a0 := Tryz.isAgg0
  z0 := Tryz.sizeOf0
  v0 := Tryz.zeroValue0
  t2 := Tryz.underlying2
  a2 := Tryz.isAgg2
  z2 := Tryz.sizeOf2
  v2 := Tryz.zeroValue2
  t3 := Tryz.underlying3
  a3 := Tryz.isAgg3
  z3 := Tryz.sizeOf3
  v3 := Tryz.zeroValue3
  t4 := Tryz.underlying4
  a4 := Tryz.isAgg4
  z4 := Tryz.sizeOf4
  v4 := Tryz.zeroValue4
  t5 := Tryz.underlying5
  a5 := Tryz.isAgg5
  z5 := Tryz.sizeOf5
  v5 := Tryz.zeroValue5
  t9 := Tryz.underlying9
  a9 := Tryz.isAgg9
  z9 := Tryz.sizeOf9
  v9 := Tryz.zeroValue9
  t20 := Tryz.underlying20
  a20 := Tryz.isAgg20
  z20 := Tryz.sizeOf20
  v20 := Tryz.zeroValue20
  t37 := Tryz.underlying51
  a37 := Tryz.isAgg51
  z37 := Tryz.sizeOf51
  v37 := Tryz.zeroValue51
  t46 := Tryz.underlying82
  a46 := Tryz.isAgg82
  z46 := Tryz.sizeOf82
  v46 := Tryz.zeroValue82
  t51 := Tryz.underlying92
  a51 := Tryz.isAgg92
  z51 := Tryz.sizeOf92
  v51 := Tryz.zeroValue92
  t53 := Tryz.underlying84
  a53 := Tryz.isAgg84
  z53 := Tryz.sizeOf84
  v53 := Tryz.zeroValue84
  t171 := Tryz.underlying83
  a171 := Tryz.isAgg83
  z171 := Tryz.sizeOf83
  v171 := Tryz.zeroValue83
  t173 := Tryz.underlying87
  a173 := Tryz.isAgg87
  z173 := Tryz.sizeOf87
  v173 := Tryz.zeroValue87
  t212 := Tryz.underlying91
  a212 := Tryz.isAgg91
  z212 := Tryz.sizeOf91
  v212 := Tryz.zeroValue91
  t213 := Tryz.underlying93
  a213 := Tryz.isAgg93
  z213 := Tryz.sizeOf93
  t232 := Tryz.underlying98
  a232 := Tryz.isAgg98
  z232 := Tryz.sizeOf98
  v232 := Tryz.zeroValue98
  t233 := Tryz.underlying99
  a233 := Tryz.isAgg99
  z233 := Tryz.sizeOf99
  v233 := Tryz.zeroValue99
  g17 := by kernel_rfl
  g18 := by kernel_rfl
  g19 := by kernel_rfl
  i0 := by kernel_rfl
  i2 := by kernel_rfl
  i3 := by kernel_rfl
  i4 := by kernel_rfl
  i5 := by kernel_rfl
  i9 := by kernel_rfl
  i20 := by kernel_rfl
  i37 := by kernel_rfl
  i46 := by kernel_rfl
  i51 := by kernel_rfl
  i53 := by kernel_rfl
  i171 := by kernel_rfl
  i173 := by kernel_rfl
  i212 := by kernel_rfl
  i232 := by kernel_rfl
  i233 := by kernel_rfl
  m17 := by kernel_rfl
  m18 := by kernel_rfl
  m19 := by kernel_rfl }
open Go.RowKit Go.Sort Go.Lib in
theorem Tryz.strconv_Itoa (n : Int) (h0 : -9223372036854775808 ≤ n) (h1 : n ≤ 9223372036854775807) (w : World) (htab : Lib.TabIs Tryz.prog w "internal/strconv.uint64pow10" .u64 Lib.pow10Tab) :
    Calls Tryz.prog 26 #[.int .i64 n] w fun e w' => e = .returned (.string ⟨(Lib.itoa n).toArray⟩) ∧ ∃ k os, w' = grow (w.drewN k) os := Any.strconv_Itoa Tryz.laysM171 n h0 h1 w htab
end Go.Proofs
set_option linter.unusedVariables false
set_option linter.unusedSimpArgs false
set_option maxHeartbeats 4000000
set_option maxRecDepth 100000
namespace Go.Proofs.YtkbijhfikkjhpaaGreatDoor.fc
open Go Go.Ab
def tabName : String := "internal/strconv.uint64pow10"
theorem tabAt : Tryz.prog.globalNamed "internal/strconv.uint64pow10" = some 1 := by kernel_rfl
instance pins : Pins := ⟨fun j => j = 1, fun _ o => ∃ t f, o = .cells (Lib.pow10Tab.map fun z => Value.int .u64 z).toArray t f⟩
theorem tab_is {E : Wh} {m : Mem} {w : World} (h : Sim E m w) : Lib.TabIs Tryz.prog w "internal/strconv.uint64pow10" .u64 Lib.pow10Tab := by
  obtain ⟨⟨o, h1, t, f, rfl⟩, _⟩ := h.tab 1 rfl
  unfold Lib.TabIs World.var?
  rw [tabAt]
  simp only [Option.bind_some, h1]
def itoaI (n : Int) : List Int := bytesI ⟨(Lib.itoa n).toArray⟩
def pItoa : Prim := fun args m K =>
  match args, m with
  | [.I .i64 n], [] => K (.S (itoaI n)) []
  | _, _ => False
theorem pItoa_ok : PrimOk Tryz.prog 26 pItoa := by
  intro args m K E w cargs hS ha h
  unfold pItoa at h
  split at h
  · rename_i n
    simp only [VsRel, VRel] at ha
    obtain ⟨c0, r0, e0, ⟨rfl, hc⟩, rfl⟩ := ha
    obtain rfl : cargs = #[.int .i64 n] := by apply Array.ext'; simpa using e0
    have hc' : -9223372036854775808 ≤ n ∧ n ≤ 9223372036854775807 := by simpa [inR, IntKind.min, IntKind.max, IntKind.signed, IntKind.bits] using hc
    refine .inl ⟨⟨_, Tryz.func26, by kernel_rfl⟩, (Tryz.strconv_Itoa n hc'.1 hc'.2 w (tab_is hS)).mono ?_⟩
    rintro e w' ⟨rfl, k, os, rfl⟩
    have hno : ∀ q e, E q = some e → False := fun q e he => by
      obtain ⟨b, hb, _⟩ := hS.blk q e he
      simp at hb
    refine ⟨_, _, E, h, Step.of hS (fun q e he => (hno q e he).elim) (fun q e b q' e' he => (hno q e he).elim) rfl rfl rfl ?_ ?_ ?_ (Nat.le_refl _) (fun q e he => (hno q e he).elim) (fun q e he => (hno q e he).elim) (fun _ _ h => h), ?_⟩
    · simp [Sort.grow, World.drewN]
    · intro j hj _
      simp only [Sort.grow, World.drewN]
      rw [Array.getElem?_append_left hj]
    · rintro j ⟨q, e, b, he, _⟩
      exact (hno q e he).elim
    · simp only [VRel]
      refine ⟨_, rfl, rfl, ?_⟩
      have := Lib.itoa_length_le n hc'.1 hc'.2
      have e0 : (2 : Nat) ^ 47 ≤ 9223372036854775807 := by decide
      have e : (ByteArray.mk (Lib.itoa n).toArray).size = (Lib.itoa n).length := by simp [ByteArray.size]
      rw [e]
      omega
  · cases h
end Go.Proofs.YtkbijhfikkjhpaaGreatDoor.fc
set_option linter.unusedVariables false
set_option linter.unusedSimpArgs false
namespace Go.Ab
open Go
def isU8 (u : Value) : Prop := ∃ z : Int, u = .int .u8 z ∧ inR .u8 z = true
def intOf : Value → Int | .int _ z => z | _ => 0
theorem digits_u8 : ∀ (n t : Nat) (acc : Array Value), (∀ u ∈ acc.toList, isU8 u) → ∀ u ∈ (Extern.BytealgMakeNoZero.digits n t acc).toList, isU8 u
  | 0, t, acc, h => h
  | n + 1, t, acc, h => by
    rw [Extern.BytealgMakeNoZero.digits]
    refine digits_u8 n _ _ fun u hu => ?_
    simp only [Array.toList_push, List.mem_append, List.mem_singleton] at hu
    rcases hu with hu | rfl
    · exact h u hu
    · refine ⟨Int.ofNat (t % 256), rfl, ?_⟩
      have : t % 256 < 256 := Nat.mod_lt _ (by decide)
      simp [inR, IntKind.min, IntKind.max, IntKind.signed, IntKind.bits]
      omega
theorem run_makeNoZero8 [Pins] {P : Program} (w : World) (ps : Array TypeId) (t e : TypeId) (ht : P.underlying t = some (.slice e)) (n : Nat) (hn : n ≤ 281474976710656) :
    ∃ cs : Array Value, (Extern.BytealgMakeNoZero.makeNoZero ps #[t] #[.int .i64 n]).run P w = .ok (.slice (some ⟨w.heap.size, 0, none⟩) n cs.size) (w.drew.drew.alloc (.cells cs e)) ∧ n ≤ cs.size ∧ (n ≤ maxLen → cs.size ≤ maxLen) ∧ ∀ u ∈ cs.toList, isU8 u := by
  have hdef : Extern.BytealgMakeNoZero.makeNoZero ps #[t] #[.int .i64 n] =
      (do
        let .slice elem ← underlying t | stuck "bytealg.MakeNoZero: slice type expected"
        if (n : Int) < 0 || (n : Int) > 2 ^ 48 then runtimePanic (.error "makeslice: len out of range")
        let cap ← choose (.appendCap (n : Int).toNat 0 elem)
        askRoom cap
        let bytes ← choose (.extern "internal/bytealg.MakeNoZero.bytes" 0)
        let a ← newRow elem (Extern.BytealgMakeNoZero.digits cap bytes #[])
        pure (.slice (some a) (n : Int).toNat cap)) := rfl
  refine ⟨Extern.BytealgMakeNoZero.digits (grownCap w n 0 e) ((Question.extern "internal/bytealg.MakeNoZero.bytes" 0).cut (w.tape (w.drawn + 1) (.extern "internal/bytealg.MakeNoZero.bytes" 0))) #[], ?_, ?_, ?_, digits_u8 _ _ _ (by simp)⟩
  · rw [hdef]
    have h1 : ¬ (n : Int) < 0 := by omega
    have h2 : ¬ (281474976710656 : Int) < (n : Int) := by omega
    simp [run_underlying ht, h1, h2, Question.forced, newRow, Lib.size_digits, grownCap]
  · rw [Lib.size_digits]
    simpa using grownCap_ge w n 0 e
  · intro hm
    rw [Lib.size_digits]
    simpa using grownCap_le_maxLen w n 0 e hm
/-- MakeNoZero: some bytes. -/
def pMakeB (e : TypeId) : Prim := fun args m K =>
  match args with
  | [.I .i64 n] => (decide (0 ≤ n) && decide (n ≤ 140737488355328)) = true ∧ ∀ xs : List Int, xs.length = n.toNat → K (.sl m.length 0 none none) (m ++ [⟨[.ints .u8 xs], e, false, true⟩])
  | _ => False
theorem pMakeB_ok [Pins] {P : Program} {f : FuncId} {ps : Array TypeId} {t e : TypeId} (h : Stands P f (Extern.BytealgMakeNoZero.makeNoZero ps #[t])) (ht : P.underlying t = some (.slice e)) : PrimOk P f (pMakeB e) := by
  intro args m K E w cargs hS ha hg
  unfold pMakeB at hg
  split at hg
  · rename_i n
    obtain ⟨hb, hg⟩ := hg
    simp only [Bool.and_eq_true, decide_eq_true_eq] at hb
    simp only [VsRel, VRel] at ha
    obtain ⟨c0, r0, e0, ⟨rfl, hr⟩, rfl⟩ := ha
    obtain rfl : cargs = #[.int .i64 n] := by apply Array.ext'; simpa using e0
    obtain ⟨k, rfl⟩ : ∃ k : Nat, n = (k : Int) := ⟨n.toNat, by omega⟩
    obtain ⟨cs, hrun, hle, hmx, hone⟩ := run_makeNoZero8 (P := P) w ps t e ht k (by omega)
    have hlen : ((cs.toList.take k).map intOf).length = k := by simp; omega
    have hst : Step E m w (upd E m.length ⟨w.heap.size, 0, cs.size, 1, k⟩) (m ++ [⟨[.ints .u8 ((cs.toList.take k).map intOf)], e, false, true⟩]) (w.drew.drew.alloc (.cells cs e)) := by
      refine Step.new hS _ _ rfl rfl rfl (by simp) (fun j hj => heap_alloc_old w.drew.drew _ hj) ?_ (fun _ => Nat.le_refl _)
      refine ⟨rfl, by simp only [Blk.rows, Col.len, hlen], ?_, ?_, ?_, ?_, hle, hmx (by simp only [maxLen]; omega), fun es hes => by simp [Blk.sp, Col.plain] at hes⟩
      · intro c hc; simp only [List.mem_singleton] at hc; subst hc; simp only [Col.len, hlen]
      · intro row fld col v hcol hv
        cases fld with
        | succ n => simp at hcol
        | zero =>
          simp only [List.getElem?_cons_zero, Option.some.injEq] at hcol; subst hcol
          have hlt : row < k := by
            have := (List.getElem?_eq_some_iff.1 hv).1
            simp only [Col.list, List.length_map, List.length_take] at this
            omega
          have hlt2 : row < cs.size := by omega
          obtain ⟨z, hz, hzr⟩ := hone cs[row] (by simp)
          have hv2 : v = .I .u8 z := by
            simp only [Col.list, List.map_map, List.getElem?_map, List.getElem?_take] at hv
            rw [if_pos hlt] at hv
            have : cs.toList[row]? = some cs[row] := by simp [hlt2]
            rw [this, hz] at hv
            simp [intOf] at hv
            exact hv.symm
          subst hv2
          refine ⟨cs[row], ?_, by rw [hz]; rfl, by rw [hz]; exact ⟨rfl, hzr⟩⟩
          have := heap_alloc_new w.drew.drew (.cells cs e)
          unfold World.cell?
          simp only [World.alloc, World.drew] at this ⊢
          simp [hlt2]
      · intro _ _ _
        exact ⟨rfl, cs, heap_alloc_new w.drew.drew _, by simp⟩
      · intro _
        simp [World.alloc]
    exact .inr ⟨_, _, h.run hrun, _, _, _, hg _ (by rw [hlen]; rfl), hst, sl_new (e := ⟨w.heap.size, 0, cs.size, 1, k⟩) (upd_same _ _ _) rfl hle⟩
  · cases hg
end Go.Ab
