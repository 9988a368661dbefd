/- Law 03: what the operands of instructions may be, as plain functions. -/
import Derived.Test.YtaajhdkngiemlaaDoorAbSee
import Derived.Test.YtaajhdkngiemlaaDoorAbExt
set_option linter.unusedVariables false
set_option linter.unusedSimpArgs false
namespace Go.Proofs.YtaajhdkngiemlaaDoor.frm
open Go Go.Ab
def badC (c : Int) : Bool := decide (c < 33) || decide (c > 126) || ([40, 41, 44, 64, 36, 37, 42, 35, 59, 58, 34, 39] : List Int).contains c
def nameB (w : List Int) : Bool := decide (1 ≤ w.length) && decide (w.length ≤ 255) && w.all (fun c => !badC c)
def wideB (n : Int) : Bool := decide (n ≥ -2147483648) && decide (n < 2147483648)
def regB (k r b x s : Int) (p f : Bool) (n : Int) (w : List Int) (m : Int) : Bool :=
  k == 1 && b == 0 && x == 0 && s == 0 && !p && !f && n == 0 && w == [] && m == 0 && decide (0 ≤ r) && decide (r ≤ 15)
def immB (k r b x s : Int) (p f : Bool) (n : Int) (w : List Int) (m : Int) : Bool :=
  k == 2 && r == 0 && b == 0 && x == 0 && s == 0 && !p && !f && w == [] && m == 0
def noneB (k r b x s : Int) (p f : Bool) (n : Int) (w : List Int) (m : Int) : Bool :=
  k == 0 && r == 0 && b == 0 && x == 0 && s == 0 && !p && !f && n == 0 && w == [] && m == 0
def memB (k r b x s : Int) (p f : Bool) (n : Int) (w : List Int) (m : Int) : Bool :=
  k == 3 && wideB n && r == 0 &&
  (bif p then b == -1 && x == -1 && s == 0 && !f && (bif w == [] then m == 0 else nameB w && (m == 0 || ((m == 2 || m == 3) && n == 0)))
   else bif f then b == -1 && x == -1 && s == 0 && (bif w == [] then m == 0 else nameB w && m == 4)
   else decide (0 ≤ b) && decide (b ≤ 15) && (bif w == [] then m == 0 else nameB w && (m == 4 || m == 5)) &&
     (bif x == -1 then s == 0 else decide (0 ≤ x) && decide (x ≤ 15) && x != 4 && (s == 1 || s == 2 || s == 4 || s == 8)))
def tgtB (k r b x s : Int) (p f : Bool) (n : Int) (w : List Int) (m : Int) : Bool :=
  k == 4 && r == 0 && b == 0 && x == 0 && s == 0 && !p && !f && (bif w == [] then m == 0 && wideB n else n == 0 && nameB w && (m == 0 || m == 1))
def rmB (k r b x s : Int) (p f : Bool) (n : Int) (w : List Int) (m : Int) : Bool := regB k r b x s p f n w m || memB k r b x s p f n w m
theorem wid {x : Int} (h1 : -9223372036854775808 ≤ x) (h2 : x ≤ 9223372036854775807) : IntKind.wrap .i64 x = x := by
  simp [IntKind.wrap, IntKind.bits, IntKind.signed]; omega
theorem dt {p : Prop} [inst : Decidable p] (h : p) : decide p = true := decide_eq_true h
theorem df {p : Prop} [inst : Decidable p] (h : ¬ p) : decide p = false := decide_eq_false h
theorem cond_ind {c : Bool} {a b : Prop} (h1 : c = true → a) (h2 : c = false → b) : (bif c then a else b) := by cases c; exact h2 rfl; exact h1 rfl
theorem idxF_ge : ∀ (s : List Int) (c n : Int), 0 ≤ n → decide (idxF s c n ≥ 0) = s.contains c
  | [], c, n, _ => by simp [idxF]
  | x :: s, c, n, h => by
    have ih := idxF_ge s c (n + 1) (by omega)
    unfold idxF
    by_cases hx : x = c
    · subst hx; simp [h]
    · have h1 : (x == c) = false := by simpa using hx
      have h2 : ¬ c = x := fun hh => hx hh.symm
      rw [h1]
      simp only [ih, List.contains_cons]
      simp [h2]
abbrev insA (op isz ico : Int) (tk tr tb tx ts : Int) (tp tf : Bool) (tn : Int) (tw : List Int) (tm : Int) (fk fr fb fx fs : Int) (fp ff : Bool) (fn : Int) (fw : List Int) (fm : Int) (sh : Bool) : V := .agg [(.I .i64 op), (.I .i64 isz), (.I .i64 ico), (.I .i64 tk), (.I .i64 tr), (.I .i64 tb), (.I .i64 tx), (.I .i64 ts), (.B tp), (.B tf), (.I .i64 tn), (.S tw), (.I .i64 tm), (.I .i64 fk), (.I .i64 fr), (.I .i64 fb), (.I .i64 fx), (.I .i64 fs), (.B fp), (.B ff), (.I .i64 fn), (.S fw), (.I .i64 fm), (.B sh)]
end Go.Proofs.YtaajhdkngiemlaaDoor.frm
