/- The statement is proved: for every input the law answers true. No condition. -/
import Derived.Test.YtccahnafehfjlaaGreatPartC
import Derived.Test.YtccahnafehfjlaaGreatPartE
import Derived.Test.YtccahnafehfjlaaGreatPartF
open Go Go.E
namespace Go.Proofs.YtccahnafehfjlaaGreat
set_option maxRecDepth 100000
def i3 (a b c : Int) : List Slot := [.v (.int .i64 a), .v (.int .i64 b), .v (.int .i64 c)]
def inR (a b c : Int) : Bool := decide (a ≥ b) && decide (a ≤ c)
theorem in21_t (call : CallF) (n : Nat) (a b c : Int) (h : decide (a ≥ b) = true) : stepF Cf n call 21 (i3 a b c) = some (.bool (decide (a ≤ c)), i3 a b c) :=
  runO_ok (ans := [.go, .go, .go, .bit true, .go, .go, .go, .go, .go, .go]) (ps := [decide (a ≥ b) = true]) (by kernel_rfl) h
theorem in21_f (call : CallF) (n : Nat) (a b c : Int) (h : decide (a ≥ b) = false) : stepF Cf n call 21 (i3 a b c) = some (.bool false, i3 a b c) :=
  runO_ok (ans := [.go, .go, .go, .bit false, .go, .go, .go]) (ps := [decide (a ≥ b) = false]) (by kernel_rfl) h
theorem in21_ok (call : CallF) (n : Nat) (a b c : Int) : stepF Cf n call 21 (i3 a b c) = some (.bool (inR a b c), i3 a b c) := by
  unfold inR
  cases h : decide (a ≥ b) with
  | true => rw [Bool.true_and]; exact in21_t call n a b c h
  | false => rw [Bool.false_and]; exact in21_f call n a b c h
theorem in22_t (call : CallF) (n : Nat) (a b c : Int) (h : decide (a ≥ b) = true) : stepF Cf n call 22 (i3 a b c) = some (.bool (decide (a ≤ c)), i3 a b c) :=
  runO_ok (ans := [.go, .go, .go, .bit true, .go, .go, .go, .go, .go, .go]) (ps := [decide (a ≥ b) = true]) (by kernel_rfl) h
theorem in22_f (call : CallF) (n : Nat) (a b c : Int) (h : decide (a ≥ b) = false) : stepF Cf n call 22 (i3 a b c) = some (.bool false, i3 a b c) :=
  runO_ok (ans := [.go, .go, .go, .bit false, .go, .go, .go]) (ps := [decide (a ≥ b) = false]) (by kernel_rfl) h
theorem in22_ok (call : CallF) (n : Nat) (a b c : Int) : stepF Cf n call 22 (i3 a b c) = some (.bool (inR a b c), i3 a b c) := by
  unfold inR
  cases h : decide (a ≥ b) with
  | true => rw [Bool.true_and]; exact in22_t call n a b c h
  | false => rw [Bool.false_and]; exact in22_f call n a b c h
/-- A specification. -/
structure V6 where
  (p q r s t u : Int)
def V6.av (v : V6) : AV := .agg [.int .i64 v.p, .int .i64 v.q, .int .i64 v.r, .int .i64 v.s, .int .i64 v.t, .int .i64 v.u]
/-- Is it valid? -/
def V6.ok (v : V6) : Bool := inR v.p 1 1073741824 && (inR v.q 1 9 && (inR v.r 0 4398046511104 && (inR v.s 0 4398046511104 && (inR v.t 0 64 && inR v.u 0 128))))
theorem chk9_1 (call : CallF) (n : Nat) (v : V6) (h0 : call 21 (i3 v.p 1 1073741824) = some (.bool false, i3 v.p 1 1073741824)) : stepF Cf n call 9 [.v v.av] = some (.int .i64 2, [.v v.av]) :=
  runO_ok (ans := [.go, .go, .go, .go, .ret (.bool false) (i3 v.p 1 1073741824), .go, .go, .go, .go, .go, .go, .go, .go, .go, .go, .go, .go]) (ps := [call 21 (i3 v.p 1 1073741824) = some (.bool false, i3 v.p 1 1073741824)]) (by kernel_rfl) h0
theorem chk9_2 (call : CallF) (n : Nat) (v : V6) (h0 : call 21 (i3 v.p 1 1073741824) = some (.bool true, i3 v.p 1 1073741824)) (h1 : call 21 (i3 v.q 1 9) = some (.bool false, i3 v.q 1 9)) : stepF Cf n call 9 [.v v.av] = some (.int .i64 2, [.v v.av]) :=
  runO_ok (ans := [.go, .go, .go, .go, .ret (.bool true) (i3 v.p 1 1073741824), .go, .go, .go, .go, .ret (.bool false) (i3 v.q 1 9), .go, .go, .go, .go, .go, .go, .go, .go, .go, .go, .go]) (ps := [call 21 (i3 v.p 1 1073741824) = some (.bool true, i3 v.p 1 1073741824), call 21 (i3 v.q 1 9) = some (.bool false, i3 v.q 1 9)]) (by kernel_rfl) ⟨h0, h1⟩
theorem chk9_3 (call : CallF) (n : Nat) (v : V6) (h0 : call 21 (i3 v.p 1 1073741824) = some (.bool true, i3 v.p 1 1073741824)) (h1 : call 21 (i3 v.q 1 9) = some (.bool true, i3 v.q 1 9)) (h2 : call 21 (i3 v.r 0 4398046511104) = some (.bool false, i3 v.r 0 4398046511104)) : stepF Cf n call 9 [.v v.av] = some (.int .i64 2, [.v v.av]) :=
  runO_ok (ans := [.go, .go, .go, .go, .ret (.bool true) (i3 v.p 1 1073741824), .go, .go, .go, .go, .ret (.bool true) (i3 v.q 1 9), .go, .go, .go, .go, .go, .ret (.bool false) (i3 v.r 0 4398046511104), .go, .go, .go, .go, .go, .go, .go, .go, .go]) (ps := [call 21 (i3 v.p 1 1073741824) = some (.bool true, i3 v.p 1 1073741824), call 21 (i3 v.q 1 9) = some (.bool true, i3 v.q 1 9), call 21 (i3 v.r 0 4398046511104) = some (.bool false, i3 v.r 0 4398046511104)]) (by kernel_rfl) ⟨h0, h1, h2⟩
theorem chk9_4 (call : CallF) (n : Nat) (v : V6) (h0 : call 21 (i3 v.p 1 1073741824) = some (.bool true, i3 v.p 1 1073741824)) (h1 : call 21 (i3 v.q 1 9) = some (.bool true, i3 v.q 1 9)) (h2 : call 21 (i3 v.r 0 4398046511104) = some (.bool true, i3 v.r 0 4398046511104)) (h3 : call 21 (i3 v.s 0 4398046511104) = some (.bool false, i3 v.s 0 4398046511104)) : stepF Cf n call 9 [.v v.av] = some (.int .i64 2, [.v v.av]) :=
  runO_ok (ans := [.go, .go, .go, .go, .ret (.bool true) (i3 v.p 1 1073741824), .go, .go, .go, .go, .ret (.bool true) (i3 v.q 1 9), .go, .go, .go, .go, .go, .ret (.bool true) (i3 v.r 0 4398046511104), .go, .go, .go, .go, .go, .ret (.bool false) (i3 v.s 0 4398046511104), .go, .go, .go, .go, .go, .go, .go]) (ps := [call 21 (i3 v.p 1 1073741824) = some (.bool true, i3 v.p 1 1073741824), call 21 (i3 v.q 1 9) = some (.bool true, i3 v.q 1 9), call 21 (i3 v.r 0 4398046511104) = some (.bool true, i3 v.r 0 4398046511104), call 21 (i3 v.s 0 4398046511104) = some (.bool false, i3 v.s 0 4398046511104)]) (by kernel_rfl) ⟨h0, h1, h2, h3⟩
theorem chk9_5 (call : CallF) (n : Nat) (v : V6) (h0 : call 21 (i3 v.p 1 1073741824) = some (.bool true, i3 v.p 1 1073741824)) (h1 : call 21 (i3 v.q 1 9) = some (.bool true, i3 v.q 1 9)) (h2 : call 21 (i3 v.r 0 4398046511104) = some (.bool true, i3 v.r 0 4398046511104)) (h3 : call 21 (i3 v.s 0 4398046511104) = some (.bool true, i3 v.s 0 4398046511104)) (h4 : call 21 (i3 v.t 0 64) = some (.bool false, i3 v.t 0 64)) : stepF Cf n call 9 [.v v.av] = some (.int .i64 2, [.v v.av]) :=
  runO_ok (ans := [.go, .go, .go, .go, .ret (.bool true) (i3 v.p 1 1073741824), .go, .go, .go, .go, .ret (.bool true) (i3 v.q 1 9), .go, .go, .go, .go, .go, .ret (.bool true) (i3 v.r 0 4398046511104), .go, .go, .go, .go, .go, .ret (.bool true) (i3 v.s 0 4398046511104), .go, .go, .go, .go, .go, .ret (.bool false) (i3 v.t 0 64), .go, .go, .go, .go, .go]) (ps := [call 21 (i3 v.p 1 1073741824) = some (.bool true, i3 v.p 1 1073741824), call 21 (i3 v.q 1 9) = some (.bool true, i3 v.q 1 9), call 21 (i3 v.r 0 4398046511104) = some (.bool true, i3 v.r 0 4398046511104), call 21 (i3 v.s 0 4398046511104) = some (.bool true, i3 v.s 0 4398046511104), call 21 (i3 v.t 0 64) = some (.bool false, i3 v.t 0 64)]) (by kernel_rfl) ⟨h0, h1, h2, h3, h4⟩
theorem chk9_6 (call : CallF) (n : Nat) (v : V6) (h0 : call 21 (i3 v.p 1 1073741824) = some (.bool true, i3 v.p 1 1073741824)) (h1 : call 21 (i3 v.q 1 9) = some (.bool true, i3 v.q 1 9)) (h2 : call 21 (i3 v.r 0 4398046511104) = some (.bool true, i3 v.r 0 4398046511104)) (h3 : call 21 (i3 v.s 0 4398046511104) = some (.bool true, i3 v.s 0 4398046511104)) (h4 : call 21 (i3 v.t 0 64) = some (.bool true, i3 v.t 0 64)) (h5 : call 21 (i3 v.u 0 128) = some (.bool false, i3 v.u 0 128)) : stepF Cf n call 9 [.v v.av] = some (.int .i64 2, [.v v.av]) :=
  runO_ok (ans := [.go, .go, .go, .go, .ret (.bool true) (i3 v.p 1 1073741824), .go, .go, .go, .go, .ret (.bool true) (i3 v.q 1 9), .go, .go, .go, .go, .go, .ret (.bool true) (i3 v.r 0 4398046511104), .go, .go, .go, .go, .go, .ret (.bool true) (i3 v.s 0 4398046511104), .go, .go, .go, .go, .go, .ret (.bool true) (i3 v.t 0 64), .go, .go, .go, .go, .go, .ret (.bool false) (i3 v.u 0 128), .go, .go, .go]) (ps := [call 21 (i3 v.p 1 1073741824) = some (.bool true, i3 v.p 1 1073741824), call 21 (i3 v.q 1 9) = some (.bool true, i3 v.q 1 9), call 21 (i3 v.r 0 4398046511104) = some (.bool true, i3 v.r 0 4398046511104), call 21 (i3 v.s 0 4398046511104) = some (.bool true, i3 v.s 0 4398046511104), call 21 (i3 v.t 0 64) = some (.bool true, i3 v.t 0 64), call 21 (i3 v.u 0 128) = some (.bool false, i3 v.u 0 128)]) (by kernel_rfl) ⟨h0, h1, h2, h3, h4, h5⟩
theorem chk9_7 (call : CallF) (n : Nat) (v : V6) (h0 : call 21 (i3 v.p 1 1073741824) = some (.bool true, i3 v.p 1 1073741824)) (h1 : call 21 (i3 v.q 1 9) = some (.bool true, i3 v.q 1 9)) (h2 : call 21 (i3 v.r 0 4398046511104) = some (.bool true, i3 v.r 0 4398046511104)) (h3 : call 21 (i3 v.s 0 4398046511104) = some (.bool true, i3 v.s 0 4398046511104)) (h4 : call 21 (i3 v.t 0 64) = some (.bool true, i3 v.t 0 64)) (h5 : call 21 (i3 v.u 0 128) = some (.bool true, i3 v.u 0 128)) : stepF Cf n call 9 [.v v.av] = some (.int .i64 0, [.v v.av]) :=
  runO_ok (ans := [.go, .go, .go, .go, .ret (.bool true) (i3 v.p 1 1073741824), .go, .go, .go, .go, .ret (.bool true) (i3 v.q 1 9), .go, .go, .go, .go, .go, .ret (.bool true) (i3 v.r 0 4398046511104), .go, .go, .go, .go, .go, .ret (.bool true) (i3 v.s 0 4398046511104), .go, .go, .go, .go, .go, .ret (.bool true) (i3 v.t 0 64), .go, .go, .go, .go, .go, .ret (.bool true) (i3 v.u 0 128), .go, .go, .go]) (ps := [call 21 (i3 v.p 1 1073741824) = some (.bool true, i3 v.p 1 1073741824), call 21 (i3 v.q 1 9) = some (.bool true, i3 v.q 1 9), call 21 (i3 v.r 0 4398046511104) = some (.bool true, i3 v.r 0 4398046511104), call 21 (i3 v.s 0 4398046511104) = some (.bool true, i3 v.s 0 4398046511104), call 21 (i3 v.t 0 64) = some (.bool true, i3 v.t 0 64), call 21 (i3 v.u 0 128) = some (.bool true, i3 v.u 0 128)]) (by kernel_rfl) ⟨h0, h1, h2, h3, h4, h5⟩
theorem chk9_ok (call : CallF) (n : Nat) (v : V6) (h : ∀ a b c, call 21 (i3 a b c) = some (.bool (inR a b c), i3 a b c)) : stepF Cf n call 9 [.v v.av] = some (.int .i64 (if v.ok then 0 else 2), [.v v.av]) := by
  have h1 := h v.p 1 1073741824
  have h2 := h v.q 1 9
  have h3 := h v.r 0 4398046511104
  have h4 := h v.s 0 4398046511104
  have h5 := h v.t 0 64
  have h6 := h v.u 0 128
  unfold V6.ok
  cases e1 : inR v.p 1 1073741824 with
  | false =>
    rw [e1] at h1
    simp only [Bool.false_and, Bool.and_false, Bool.false_eq_true, if_false]
    exact chk9_1 call n v h1
  | true =>
  rw [e1] at h1
  cases e2 : inR v.q 1 9 with
  | false =>
    rw [e2] at h2
    simp only [Bool.false_and, Bool.and_false, Bool.false_eq_true, if_false]
    exact chk9_2 call n v h1 h2
  | true =>
  rw [e2] at h2
  cases e3 : inR v.r 0 4398046511104 with
  | false =>
    rw [e3] at h3
    simp only [Bool.false_and, Bool.and_false, Bool.false_eq_true, if_false]
    exact chk9_3 call n v h1 h2 h3
  | true =>
  rw [e3] at h3
  cases e4 : inR v.s 0 4398046511104 with
  | false =>
    rw [e4] at h4
    simp only [Bool.false_and, Bool.and_false, Bool.false_eq_true, if_false]
    exact chk9_4 call n v h1 h2 h3 h4
  | true =>
  rw [e4] at h4
  cases e5 : inR v.t 0 64 with
  | false =>
    rw [e5] at h5
    simp only [Bool.false_and, Bool.and_false, Bool.false_eq_true, if_false]
    exact chk9_5 call n v h1 h2 h3 h4 h5
  | true =>
  rw [e5] at h5
  cases e6 : inR v.u 0 128 with
  | false =>
    rw [e6] at h6
    simp only [Bool.false_and, Bool.and_false, Bool.false_eq_true, if_false]
    exact chk9_6 call n v h1 h2 h3 h4 h5 h6
  | true =>
  rw [e6] at h6
  exact chk9_7 call n v h1 h2 h3 h4 h5 h6
theorem chk10_1 (call : CallF) (n : Nat) (v : V6) (h0 : call 22 (i3 v.p 1 1073741824) = some (.bool false, i3 v.p 1 1073741824)) : stepF Cf n call 10 [.v v.av] = some (.int .i64 2, [.v v.av]) :=
  runO_ok (ans := [.go, .go, .go, .go, .ret (.bool false) (i3 v.p 1 1073741824), .go, .go, .go, .go, .go, .go, .go, .go, .go, .go, .go]) (ps := [call 22 (i3 v.p 1 1073741824) = some (.bool false, i3 v.p 1 1073741824)]) (by kernel_rfl) h0
theorem chk10_2 (call : CallF) (n : Nat) (v : V6) (h0 : call 22 (i3 v.p 1 1073741824) = some (.bool true, i3 v.p 1 1073741824)) (h1 : call 22 (i3 v.q 1 9) = some (.bool false, i3 v.q 1 9)) : stepF Cf n call 10 [.v v.av] = some (.int .i64 2, [.v v.av]) :=
  runO_ok (ans := [.go, .go, .go, .go, .ret (.bool true) (i3 v.p 1 1073741824), .go, .go, .go, .ret (.bool false) (i3 v.q 1 9), .go, .go, .go, .go, .go, .go, .go, .go, .go, .go]) (ps := [call 22 (i3 v.p 1 1073741824) = some (.bool true, i3 v.p 1 1073741824), call 22 (i3 v.q 1 9) = some (.bool false, i3 v.q 1 9)]) (by kernel_rfl) ⟨h0, h1⟩
theorem chk10_3 (call : CallF) (n : Nat) (v : V6) (h0 : call 22 (i3 v.p 1 1073741824) = some (.bool true, i3 v.p 1 1073741824)) (h1 : call 22 (i3 v.q 1 9) = some (.bool true, i3 v.q 1 9)) (h2 : call 22 (i3 v.r 0 4398046511104) = some (.bool false, i3 v.r 0 4398046511104)) : stepF Cf n call 10 [.v v.av] = some (.int .i64 2, [.v v.av]) :=
  runO_ok (ans := [.go, .go, .go, .go, .ret (.bool true) (i3 v.p 1 1073741824), .go, .go, .go, .ret (.bool true) (i3 v.q 1 9), .go, .go, .go, .go, .ret (.bool false) (i3 v.r 0 4398046511104), .go, .go, .go, .go, .go, .go, .go, .go]) (ps := [call 22 (i3 v.p 1 1073741824) = some (.bool true, i3 v.p 1 1073741824), call 22 (i3 v.q 1 9) = some (.bool true, i3 v.q 1 9), call 22 (i3 v.r 0 4398046511104) = some (.bool false, i3 v.r 0 4398046511104)]) (by kernel_rfl) ⟨h0, h1, h2⟩
theorem chk10_4 (call : CallF) (n : Nat) (v : V6) (h0 : call 22 (i3 v.p 1 1073741824) = some (.bool true, i3 v.p 1 1073741824)) (h1 : call 22 (i3 v.q 1 9) = some (.bool true, i3 v.q 1 9)) (h2 : call 22 (i3 v.r 0 4398046511104) = some (.bool true, i3 v.r 0 4398046511104)) (h3 : call 22 (i3 v.s 0 4398046511104) = some (.bool false, i3 v.s 0 4398046511104)) : stepF Cf n call 10 [.v v.av] = some (.int .i64 2, [.v v.av]) :=
  runO_ok (ans := [.go, .go, .go, .go, .ret (.bool true) (i3 v.p 1 1073741824), .go, .go, .go, .ret (.bool true) (i3 v.q 1 9), .go, .go, .go, .go, .ret (.bool true) (i3 v.r 0 4398046511104), .go, .go, .go, .go, .ret (.bool false) (i3 v.s 0 4398046511104), .go, .go, .go, .go, .go, .go]) (ps := [call 22 (i3 v.p 1 1073741824) = some (.bool true, i3 v.p 1 1073741824), call 22 (i3 v.q 1 9) = some (.bool true, i3 v.q 1 9), call 22 (i3 v.r 0 4398046511104) = some (.bool true, i3 v.r 0 4398046511104), call 22 (i3 v.s 0 4398046511104) = some (.bool false, i3 v.s 0 4398046511104)]) (by kernel_rfl) ⟨h0, h1, h2, h3⟩
theorem chk10_5 (call : CallF) (n : Nat) (v : V6) (h0 : call 22 (i3 v.p 1 1073741824) = some (.bool true, i3 v.p 1 1073741824)) (h1 : call 22 (i3 v.q 1 9) = some (.bool true, i3 v.q 1 9)) (h2 : call 22 (i3 v.r 0 4398046511104) = some (.bool true, i3 v.r 0 4398046511104)) (h3 : call 22 (i3 v.s 0 4398046511104) = some (.bool true, i3 v.s 0 4398046511104)) (h4 : call 22 (i3 v.t 0 64) = some (.bool false, i3 v.t 0 64)) : stepF Cf n call 10 [.v v.av] = some (.int .i64 2, [.v v.av]) :=
  runO_ok (ans := [.go, .go, .go, .go, .ret (.bool true) (i3 v.p 1 1073741824), .go, .go, .go, .ret (.bool true) (i3 v.q 1 9), .go, .go, .go, .go, .ret (.bool true) (i3 v.r 0 4398046511104), .go, .go, .go, .go, .ret (.bool true) (i3 v.s 0 4398046511104), .go, .go, .go, .go, .ret (.bool false) (i3 v.t 0 64), .go, .go, .go, .go]) (ps := [call 22 (i3 v.p 1 1073741824) = some (.bool true, i3 v.p 1 1073741824), call 22 (i3 v.q 1 9) = some (.bool true, i3 v.q 1 9), call 22 (i3 v.r 0 4398046511104) = some (.bool true, i3 v.r 0 4398046511104), call 22 (i3 v.s 0 4398046511104) = some (.bool true, i3 v.s 0 4398046511104), call 22 (i3 v.t 0 64) = some (.bool false, i3 v.t 0 64)]) (by kernel_rfl) ⟨h0, h1, h2, h3, h4⟩
theorem chk10_6 (call : CallF) (n : Nat) (v : V6) (h0 : call 22 (i3 v.p 1 1073741824) = some (.bool true, i3 v.p 1 1073741824)) (h1 : call 22 (i3 v.q 1 9) = some (.bool true, i3 v.q 1 9)) (h2 : call 22 (i3 v.r 0 4398046511104) = some (.bool true, i3 v.r 0 4398046511104)) (h3 : call 22 (i3 v.s 0 4398046511104) = some (.bool true, i3 v.s 0 4398046511104)) (h4 : call 22 (i3 v.t 0 64) = some (.bool true, i3 v.t 0 64)) (h5 : call 22 (i3 v.u 0 128) = some (.bool false, i3 v.u 0 128)) : stepF Cf n call 10 [.v v.av] = some (.int .i64 2, [.v v.av]) :=
  runO_ok (ans := [.go, .go, .go, .go, .ret (.bool true) (i3 v.p 1 1073741824), .go, .go, .go, .ret (.bool true) (i3 v.q 1 9), .go, .go, .go, .go, .ret (.bool true) (i3 v.r 0 4398046511104), .go, .go, .go, .go, .ret (.bool true) (i3 v.s 0 4398046511104), .go, .go, .go, .go, .ret (.bool true) (i3 v.t 0 64), .go, .go, .go, .go, .ret (.bool false) (i3 v.u 0 128), .go, .go]) (ps := [call 22 (i3 v.p 1 1073741824) = some (.bool true, i3 v.p 1 1073741824), call 22 (i3 v.q 1 9) = some (.bool true, i3 v.q 1 9), call 22 (i3 v.r 0 4398046511104) = some (.bool true, i3 v.r 0 4398046511104), call 22 (i3 v.s 0 4398046511104) = some (.bool true, i3 v.s 0 4398046511104), call 22 (i3 v.t 0 64) = some (.bool true, i3 v.t 0 64), call 22 (i3 v.u 0 128) = some (.bool false, i3 v.u 0 128)]) (by kernel_rfl) ⟨h0, h1, h2, h3, h4, h5⟩
theorem chk10_7 (call : CallF) (n : Nat) (v : V6) (h0 : call 22 (i3 v.p 1 1073741824) = some (.bool true, i3 v.p 1 1073741824)) (h1 : call 22 (i3 v.q 1 9) = some (.bool true, i3 v.q 1 9)) (h2 : call 22 (i3 v.r 0 4398046511104) = some (.bool true, i3 v.r 0 4398046511104)) (h3 : call 22 (i3 v.s 0 4398046511104) = some (.bool true, i3 v.s 0 4398046511104)) (h4 : call 22 (i3 v.t 0 64) = some (.bool true, i3 v.t 0 64)) (h5 : call 22 (i3 v.u 0 128) = some (.bool true, i3 v.u 0 128)) : stepF Cf n call 10 [.v v.av] = some (.int .i64 0, [.v v.av]) :=
  runO_ok (ans := [.go, .go, .go, .go, .ret (.bool true) (i3 v.p 1 1073741824), .go, .go, .go, .ret (.bool true) (i3 v.q 1 9), .go, .go, .go, .go, .ret (.bool true) (i3 v.r 0 4398046511104), .go, .go, .go, .go, .ret (.bool true) (i3 v.s 0 4398046511104), .go, .go, .go, .go, .ret (.bool true) (i3 v.t 0 64), .go, .go, .go, .go, .ret (.bool true) (i3 v.u 0 128), .go, .go]) (ps := [call 22 (i3 v.p 1 1073741824) = some (.bool true, i3 v.p 1 1073741824), call 22 (i3 v.q 1 9) = some (.bool true, i3 v.q 1 9), call 22 (i3 v.r 0 4398046511104) = some (.bool true, i3 v.r 0 4398046511104), call 22 (i3 v.s 0 4398046511104) = some (.bool true, i3 v.s 0 4398046511104), call 22 (i3 v.t 0 64) = some (.bool true, i3 v.t 0 64), call 22 (i3 v.u 0 128) = some (.bool true, i3 v.u 0 128)]) (by kernel_rfl) ⟨h0, h1, h2, h3, h4, h5⟩
theorem chk10_ok (call : CallF) (n : Nat) (v : V6) (h : ∀ a b c, call 22 (i3 a b c) = some (.bool (inR a b c), i3 a b c)) : stepF Cf n call 10 [.v v.av] = some (.int .i64 (if v.ok then 0 else 2), [.v v.av]) := by
  have h1 := h v.p 1 1073741824
  have h2 := h v.q 1 9
  have h3 := h v.r 0 4398046511104
  have h4 := h v.s 0 4398046511104
  have h5 := h v.t 0 64
  have h6 := h v.u 0 128
  unfold V6.ok
  cases e1 : inR v.p 1 1073741824 with
  | false =>
    rw [e1] at h1
    simp only [Bool.false_and, Bool.and_false, Bool.false_eq_true, if_false]
    exact chk10_1 call n v h1
  | true =>
  rw [e1] at h1
  cases e2 : inR v.q 1 9 with
  | false =>
    rw [e2] at h2
    simp only [Bool.false_and, Bool.and_false, Bool.false_eq_true, if_false]
    exact chk10_2 call n v h1 h2
  | true =>
  rw [e2] at h2
  cases e3 : inR v.r 0 4398046511104 with
  | false =>
    rw [e3] at h3
    simp only [Bool.false_and, Bool.and_false, Bool.false_eq_true, if_false]
    exact chk10_3 call n v h1 h2 h3
  | true =>
  rw [e3] at h3
  cases e4 : inR v.s 0 4398046511104 with
  | false =>
    rw [e4] at h4
    simp only [Bool.false_and, Bool.and_false, Bool.false_eq_true, if_false]
    exact chk10_4 call n v h1 h2 h3 h4
  | true =>
  rw [e4] at h4
  cases e5 : inR v.t 0 64 with
  | false =>
    rw [e5] at h5
    simp only [Bool.false_and, Bool.and_false, Bool.false_eq_true, if_false]
    exact chk10_5 call n v h1 h2 h3 h4 h5
  | true =>
  rw [e5] at h5
  cases e6 : inR v.u 0 128 with
  | false =>
    rw [e6] at h6
    simp only [Bool.false_and, Bool.and_false, Bool.false_eq_true, if_false]
    exact chk10_6 call n v h1 h2 h3 h4 h5 h6
  | true =>
  rw [e6] at h6
  exact chk10_7 call n v h1 h2 h3 h4 h5 h6
end Go.Proofs.YtccahnafehfjlaaGreat

open Go Go.E
namespace Go.E
/-- The bodies of the loops, in the text's order. -/
def loopsOf : ECode → List ECode
  | .seq a b => loopsOf a ++ loopsOf b
  | .cond _ a b => loopsOf a ++ loopsOf b
  | .block _ b => loopsOf b
  | .loop b => b :: loopsOf b
  | _ => []
def bodyOf : Option EFn → Nat → ECode
  | some f, i => (loopsOf f.body).getD i .skip
  | none, _ => .skip
end Go.E
namespace Go.Proofs.YtccahnafehfjlaaGreat
set_option maxRecDepth 100000
def mn0 (x : Int) : Int := if (4611686018427387904 : Int) < x then 4611686018427387904 else x
/-- The frame at the loop's head. -/
def f12 (xs : List AV) (acc i : Int) : List Slot := [.v (.sl 4 xs), .any, .v (.int .i64 0), .v (.int .i64 acc), .v (.int .i64 i)] ++ List.replicate 19 .any
noncomputable def b12 : ECode := bodyOf (Cf.code 12) 0
theorem r12_a (call : CallF) (n : Nat) (xs : List AV) (acc i : Int) (v : V4) (h1 : decide (i < (xs.length : Int)) = true) (h2 : 0 ≤ i) (h3 : xs[i.toNat]? = some v.av) (h4 : decide (mn0 (IntKind.wrap .i64 (acc + mn0 (mx0 v.s))) < 0) = false) :
    evalCode Cf 12 call n b12 (f12 xs acc i) = some (.normal, f12 xs (mn0 (IntKind.wrap .i64 (acc + mn0 (mx0 v.s)))) (IntKind.wrap .i64 (i + 1))) :=
  evalO_to (ans := [.go, .go, .go, .bit true, .go, .go, .go, .elt v.av, .go, .go, .go, .go, .go, .go, .go, .go, .bit false, .go, .go, .go]) (ps := [decide (i < (xs.length : Int)) = true, 0 ≤ i, xs[i.toNat]? = some v.av, decide (mn0 (IntKind.wrap .i64 (acc + mn0 (mx0 v.s))) < 0) = false]) (by kernel_rfl) ⟨h1, h2, h3, h4⟩
theorem r12_b (call : CallF) (n : Nat) (xs : List AV) (acc i : Int) (v : V4) (h1 : decide (i < (xs.length : Int)) = true) (h2 : 0 ≤ i) (h3 : xs[i.toNat]? = some v.av) (h4 : decide (mn0 (IntKind.wrap .i64 (acc + mn0 (mx0 v.s))) < 0) = true) :
    evalCode Cf 12 call n b12 (f12 xs acc i) = some (.normal, f12 xs 4611686018427387904 (IntKind.wrap .i64 (i + 1))) :=
  evalO_to (ans := [.go, .go, .go, .bit true, .go, .go, .go, .elt v.av, .go, .go, .go, .go, .go, .go, .go, .go, .bit true, .go, .go, .go, .go]) (ps := [decide (i < (xs.length : Int)) = true, 0 ≤ i, xs[i.toNat]? = some v.av, decide (mn0 (IntKind.wrap .i64 (acc + mn0 (mx0 v.s))) < 0) = true]) (by kernel_rfl) ⟨h1, h2, h3, h4⟩
/-- The frame at the end. -/
def e12 (xs : List AV) (acc i : Int) : List Slot := [.v (.sl 4 xs), .any, .v (.int .i64 0), .v (.int .i64 acc), .v (.int .i64 i), .v (.int .i64 i), .v (.sl 4 xs), .v (.int .i64 xs.length), .v (.bool false)] ++ List.replicate 15 .any
theorem r12_e (call : CallF) (n : Nat) (xs : List AV) (acc i : Int) (h1 : decide (i < (xs.length : Int)) = false) : evalCode Cf 12 call n b12 (f12 xs acc i) = some (.exit 0, e12 xs acc i) :=
  evalO_to (ans := [.go, .go, .go, .bit false]) (ps := [decide (i < (xs.length : Int)) = false]) (by kernel_rfl) h1
theorem r12_whole (call : CallF) (n : Nat) (xs : List AV) (acc i : Int) (h : evalCode Cf 12 call n (.loop b12) (f12 xs 0 0) = some (.exit 0, e12 xs acc i)) : stepF Cf n call 12 [.v (.sl 4 xs)] = some (.int .i64 acc, [.v (.sl 4 xs)]) :=
  runO_ok (ans := [.go, .go, .go, .run (.exit 0) (e12 xs acc i), .go, .go]) (ps := [evalCode Cf 12 call n (.loop b12) (f12 xs 0 0) = some (.exit 0, e12 xs acc i)]) (by kernel_rfl) h
/-- What a round makes of the sum. -/
def add12 (acc s : Int) : Int := if mn0 (IntKind.wrap .i64 (acc + mn0 (mx0 s))) < 0 then 4611686018427387904 else mn0 (IntKind.wrap .i64 (acc + mn0 (mx0 s)))
theorem add12_eq {acc s : Int} (h0 : 0 ≤ acc) (h1 : acc ≤ 4611686018427387904) : add12 acc s = if s > 4611686018427387904 - acc then 4611686018427387904 else acc + mx0 s := by
  obtain ⟨q1, q2, q3⟩ := mx0_le (s := s)
  have hm : 0 ≤ mn0 (mx0 s) ∧ mn0 (mx0 s) ≤ 4611686018427387904 ∧ (mn0 (mx0 s) = mx0 s ∨ (mn0 (mx0 s) = 4611686018427387904 ∧ 4611686018427387904 < mx0 s)) := by
    unfold mn0
    split <;> omega
  obtain ⟨m1, m2, m3⟩ := hm
  unfold add12
  generalize mn0 (mx0 s) = u at *
  by_cases hb : acc + u = 9223372036854775808
  · have hw : IntKind.wrap .i64 (acc + u) = -9223372036854775808 := by rw [hb]; rfl
    rw [hw, if_pos (by decide), if_pos (by omega)]
  · rw [wrap_in (by omega) (by omega)]
    unfold mn0
    split <;> split <;> split <;> omega
theorem scoreL_fold : ∀ (l : List Int) (acc : Int), 0 ≤ acc → acc ≤ 4611686018427387904 → l.foldl add12 acc = scoreL acc l
  | [], acc, _, _ => rfl
  | s :: l, acc, h0, h1 => by
    obtain ⟨q1, q2, q3⟩ := mx0_le (s := s)
    rw [List.foldl_cons, add12_eq h0 h1, scoreL]
    split
    · rw [scoreL_fold l _ (by omega) (by omega), scoreL_full]
    · exact scoreL_fold l _ (by omega) (by omega)
theorem rscore_ok (call : CallF) (n : Nat) (vs : List V4) (hn : vs.length < n) (hlen : vs.length ≤ 1000000) :
    stepF Cf n call 12 [.v (.sl 4 (vs.map V4.av))] = some (.int .i64 (scoreL 0 (vs.map V4.s)), [.v (.sl 4 (vs.map V4.av))]) := by
  refine r12_whole call n _ _ (vs.length : Int) ?_
  have key := loop_rounds (C := Cf) (fid := 12) (call := call) (n := n) (b := b12) (fun j => f12 (vs.map V4.av) (((vs.take j).map V4.s).foldl add12 0) (j : Int)) (m := vs.length) (out := .exit 0) (f' := e12 (vs.map V4.av) (scoreL 0 (vs.map V4.s)) vs.length) (by decide) hn ?_ ?_
  · exact key
  · intro j hj
    have hx : vs[j]? = some vs[j] := List.getElem?_eq_getElem hj
    have h1 : decide ((j : Int) < ((vs.map V4.av).length : Int)) = true := by simp [hj]
    have h3 : (vs.map V4.av)[(j : Int).toNat]? = some (vs[j]).av := by simp [hx]
    have hw : IntKind.wrap .i64 ((j : Int) + 1) = ((j + 1 : Nat) : Int) := by rw [wrap_in (by omega) (by omega)]; rfl
    have hf : ((vs.take (j + 1)).map V4.s).foldl add12 0 = add12 (((vs.take j).map V4.s).foldl add12 0) (vs[j]).s := by
      rw [List.take_add_one, hx]
      simp only [Option.toList_some, List.map_append, List.map_cons, List.map_nil, List.foldl_append, List.foldl_cons, List.foldl_nil]
    simp only [hf]
    generalize ((vs.take j).map V4.s).foldl add12 0 = acc
    cases hc : decide (mn0 (IntKind.wrap .i64 (acc + mn0 (mx0 (vs[j]).s))) < 0) with
    | false =>
      have := r12_a call n (vs.map V4.av) acc j vs[j] h1 (by omega) h3 hc
      rw [hw] at this
      rw [this]
      unfold add12
      rw [if_neg (by simpa using hc)]
    | true =>
      have := r12_b call n (vs.map V4.av) acc j vs[j] h1 (by omega) h3 hc
      rw [hw] at this
      rw [this]
      unfold add12
      rw [if_pos (by simpa using hc)]
  · rw [r12_e call n _ _ _ (by simp)]
    rw [List.take_length, scoreL_fold _ _ (by omega) (by omega)]
end Go.Proofs.YtccahnafehfjlaaGreat

open Go Go.E
namespace Go.Proofs.YtccahnafehfjlaaGreat
set_option maxRecDepth 100000
theorem rworse_ok (call : CallF) (n : Nat) (A B : List AV) (x y : Int) (oA oB : List Slot) (hA : call 12 [.v (.sl 4 A)] = some (.int .i64 x, oA)) (hB : call 12 [.v (.sl 4 B)] = some (.int .i64 y, oB)) :
    stepF Cf n call 14 [.v (.sl 4 A), .v (.sl 4 B)] = some (.bool (decide (y > x)), [.v (.sl 4 A), .v (.sl 4 B)]) :=
  runO_ok (ans := [.go, .go, .ret (.int .i64 y) oB, .go, .ret (.int .i64 x) oA, .go, .go]) (ps := [call 12 [.v (.sl 4 B)] = some (.int .i64 y, oB), call 12 [.v (.sl 4 A)] = some (.int .i64 x, oA)]) (by kernel_rfl) ⟨hB, hA⟩
def a3 (v : V6) (A B : List AV) : List Slot := [.v v.av, .v (.sl 4 A), .v (.sl 4 B)]
theorem law3_big (call : CallF) (n : Nat) (v : V6) (A B : List AV) (o7 : List Slot) (h7 : call 7 [.v (.sl 4 A), .v (.sl 4 B)] = some (.bool false, o7)) (h8 : call 8 [] = some (.bool true, [])) : stepF Cf n call 3 (a3 v A B) = some (.bool true, a3 v A B) :=
  runO_ok (ans := [.go, .go, .go, .go, .ret (.bool false) o7, .go, .ret (.bool true) [], .go]) (ps := [call 7 [.v (.sl 4 A), .v (.sl 4 B)] = some (.bool false, o7), call 8 [] = some (.bool true, [])]) (by kernel_rfl) ⟨h7, h8⟩
theorem law3_few (call : CallF) (n : Nat) (v : V6) (A B : List AV) (o7 o9 o10 o11 o12 o13 o14 : List Slot) (e x : Int) (w : Bool) (h7 : call 7 [.v (.sl 4 A), .v (.sl 4 B)] = some (.bool true, o7)) (h8 : call 8 [] = some (.bool true, []))
    (h9 : call 9 [.v v.av] = some (.int .i64 e, o9)) (h10 : call 10 [.v v.av] = some (.int .i64 e, o10)) (h11 : call 11 [.v (.sl 4 A)] = some (.int .i64 x, o11)) (h12 : call 12 [.v (.sl 4 A)] = some (.int .i64 x, o12))
    (h13 : call 13 [.v (.sl 4 A), .v (.sl 4 B)] = some (.bool w, o13)) (h14 : call 14 [.v (.sl 4 A), .v (.sl 4 B)] = some (.bool w, o14)) : stepF Cf n call 3 (a3 v A B) = some (.bool true, a3 v A B) :=
  runO_ok (ans := [.go, .go, .go, .go, .ret (.bool true) o7, .go, .ret (.bool true) [], .go, .go, .ret (.int .i64 e) o9, .go, .ret (.int .i64 e) o10, .bit true, .go, .go, .go, .ret (.int .i64 x) o11, .go, .ret (.int .i64 x) o12, .bit true, .go, .go, .go, .go,
      .ret (.bool w) o13, .go, .go, .ret (.bool w) o14, .bit true, .go, .go])
    (ps := [call 7 [.v (.sl 4 A), .v (.sl 4 B)] = some (.bool true, o7), call 8 [] = some (.bool true, []), call 9 [.v v.av] = some (.int .i64 e, o9), call 10 [.v v.av] = some (.int .i64 e, o10), (e == e) = true, call 11 [.v (.sl 4 A)] = some (.int .i64 x, o11), call 12 [.v (.sl 4 A)] = some (.int .i64 x, o12), (x == x) = true,
      call 13 [.v (.sl 4 A), .v (.sl 4 B)] = some (.bool w, o13), call 14 [.v (.sl 4 A), .v (.sl 4 B)] = some (.bool w, o14), (w == w) = true]) (by kernel_rfl) ⟨h7, h8, h9, h10, beq_self_eq_true e, h11, h12, beq_self_eq_true x, h13, h14, beq_self_eq_true w⟩
/-- What is known of calls, level by level. -/
noncomputable def M1 : CallF := stepF Cf 1000001 tab2
noncomputable def M2 : CallF := stepF Cf 1000001 M1
noncomputable def M3 : CallF := fun k args => if k = 8 then tab2 k args else if k = 7 ∨ k = 11 ∨ k = 12 then M1 k args else M2 k args
theorem M1_ok : CallOK Cf M1 := stepF_ok (code_ok prim_collect) tab2_ok 1000001
theorem M2_ok : CallOK Cf M2 := stepF_ok (code_ok prim_collect) M1_ok 1000001
theorem M3_ok : CallOK Cf M3 := by
  refine callOK_of fun {k args r} h => ?_
  unfold M3 at h
  split at h
  · exact ⟨_, tab2_ok, h⟩
  · split at h
    · exact ⟨_, M1_ok, h⟩
    · exact ⟨_, M2_ok, h⟩
theorem law3_true (n : Nat) (v : V6) (vs ws : List V4) : stepF Cf n M3 3 (a3 v (vs.map V4.av) (ws.map V4.av)) = some (.bool true, a3 v (vs.map V4.av) (ws.map V4.av)) := by
  have h8 : M3 8 [] = some (.bool true, []) := by
    unfold M3
    rw [if_pos rfl]
    kernel_rfl
  have h7 : M3 7 [.v (.sl 4 (vs.map V4.av)), .v (.sl 4 (ws.map V4.av))] = some (.bool (decide (((vs.map V4.av).length : Int) ≤ 300) && decide (((ws.map V4.av).length : Int) ≤ 300)), [.v (.sl 4 (vs.map V4.av)), .v (.sl 4 (ws.map V4.av))]) := by
    unfold M3
    rw [if_neg (by decide), if_pos (by decide)]
    exact few_ok tab2 1000001 _ _
  by_cases hfew : vs.length ≤ 300 ∧ ws.length ≤ 300
  · obtain ⟨k1, k2⟩ := hfew
    rw [show (decide (((vs.map V4.av).length : Int) ≤ 300) && decide (((ws.map V4.av).length : Int) ≤ 300)) = true by simp; omega] at h7
    have s1 : ∀ (us : List V4), us.length ≤ 300 → M1 11 [.v (.sl 4 (us.map V4.av))] = some (.int .i64 (scoreL 0 (us.map V4.s)), [.v (.sl 4 (us.map V4.av))]) := fun us hu => score_ok tab2 us (by omega)
    have s2 : ∀ (us : List V4), us.length ≤ 300 → M1 12 [.v (.sl 4 (us.map V4.av))] = some (.int .i64 (scoreL 0 (us.map V4.s)), [.v (.sl 4 (us.map V4.av))]) := fun us hu => rscore_ok tab2 1000001 us (by omega) (by omega)
    have h11 : M3 11 [.v (.sl 4 (vs.map V4.av))] = some (.int .i64 (scoreL 0 (vs.map V4.s)), [.v (.sl 4 (vs.map V4.av))]) := by
      unfold M3
      rw [if_neg (by decide), if_pos (by decide)]
      exact s1 vs k1
    have h12 : M3 12 [.v (.sl 4 (vs.map V4.av))] = some (.int .i64 (scoreL 0 (vs.map V4.s)), [.v (.sl 4 (vs.map V4.av))]) := by
      unfold M3
      rw [if_neg (by decide), if_pos (by decide)]
      exact s2 vs k1
    have h13 : M3 13 [.v (.sl 4 (vs.map V4.av)), .v (.sl 4 (ws.map V4.av))] = some (.bool (decide (scoreL 0 (ws.map V4.s) > scoreL 0 (vs.map V4.s))), [.v (.sl 4 (vs.map V4.av)), .v (.sl 4 (ws.map V4.av))]) := by
      unfold M3
      rw [if_neg (by decide), if_neg (by decide)]
      exact worse_ok M1 1000001 _ _ _ _ _ _ (s1 vs k1) (s1 ws k2)
    have h14 : M3 14 [.v (.sl 4 (vs.map V4.av)), .v (.sl 4 (ws.map V4.av))] = some (.bool (decide (scoreL 0 (ws.map V4.s) > scoreL 0 (vs.map V4.s))), [.v (.sl 4 (vs.map V4.av)), .v (.sl 4 (ws.map V4.av))]) := by
      unfold M3
      rw [if_neg (by decide), if_neg (by decide)]
      exact rworse_ok M1 1000001 _ _ _ _ _ _ (s2 vs k1) (s2 ws k2)
    have h9 : M3 9 [.v v.av] = some (.int .i64 (if v.ok then 0 else 2), [.v v.av]) := by
      unfold M3
      rw [if_neg (by decide), if_neg (by decide)]
      exact chk9_ok M1 1000001 v (fun a b c => in21_ok tab2 1000001 a b c)
    have h10 : M3 10 [.v v.av] = some (.int .i64 (if v.ok then 0 else 2), [.v v.av]) := by
      unfold M3
      rw [if_neg (by decide), if_neg (by decide)]
      exact chk10_ok M1 1000001 v (fun a b c => in22_ok tab2 1000001 a b c)
    exact law3_few M3 n v _ _ _ _ _ _ _ _ _ _ _ _ h7 h8 h9 h10 h11 h12 h13 h14
  · rw [show (decide (((vs.map V4.av).length : Int) ≤ 300) && decide (((ws.map V4.av).length : Int) ≤ 300)) = false by simp; omega] at h7
    exact law3_big M3 n v _ _ _ h7 h8
theorem isT_spec {m : Nat} {x : AV} (h : isT Tryz.prog m 23 x) : ∃ v : V6, x = v.av := by
  obtain ⟨xs, m', rfl, hl, hf⟩ := isT_struct Tryz.underlying23 h
  match xs, hl with
  | [a, b, c, d, e, f], _ =>
    obtain ⟨a, rfl, _⟩ := isT_int (hf 0 _ _ rfl rfl)
    obtain ⟨b, rfl, _⟩ := isT_int (hf 1 _ _ rfl rfl)
    obtain ⟨c, rfl, _⟩ := isT_int (hf 2 _ _ rfl rfl)
    obtain ⟨d, rfl, _⟩ := isT_int (hf 3 _ _ rfl rfl)
    obtain ⟨e, rfl, _⟩ := isT_int (hf 4 _ _ rfl rfl)
    obtain ⟨f, rfl, _⟩ := isT_int (hf 5 _ _ rfl rfl)
    exact ⟨⟨a, b, c, d, e, f⟩, rfl⟩
end Go.Proofs.YtccahnafehfjlaaGreat

open Go Go.E
namespace Go.Proofs.YtccahnafehfjlaaGreat
open Go.ChangeShapes Go.WideShapes Go.ChangeAt Go.RowKit
set_option maxRecDepth 100000
theorem checks_lifted (os : Os) (started : os.Started) (H : Type) (enc : TypeId × Value → H) :
    ReturnsInHanded {} Tryz.checked os 3 .any (Rows.rulesChecksSpec.pre6 enc Tryz.prog Tryz.f3 Rows.rulesChecksRow.domain false) (Rows.rulesChecksSpec.post enc Tryz.prog Tryz.f3 false true false false) := by
  refine law_lifted (s := Rows.rulesChecksSpec) started (by kernel_rfl) Tryz.func3 rfl (of_decide_eq_true (by kernel_rfl)) (by kernel_rfl) (by kernel_rfl) ?_
    (ChangeSpec.witness6 (enc := enc) (C := Tryz.checked) false ⟨#[], #[.agg #[.int .i64 0, .int .i64 0, .int .i64 0, .int .i64 0, .int .i64 0, .int .i64 0], .slice none 0 0, .slice none 0 0], []⟩ 8 (by kernel_rfl) (by kernel_rfl) (by kernel_rfl) (by kernel_rfl)) ?_
  · intro ds hl
    rw [Tryz.params3] at hl
    match ds, hl with
    | [a, b, c], _ => exact ⟨rfl, rfl, rfl⟩
  · intro xs h
    rw [Tryz.params3] at h
    obtain ⟨u, xs0, rfl, h0, x, xs1, rfl, h1, y, xs2, rfl, h2, h3⟩ := h
    have h3 : xs2 = [] := h3
    subst h3
    obtain ⟨v, rfl⟩ := isT_spec h0
    obtain ⟨vs, rfl⟩ := isT_vios h1
    obtain ⟨ws, rfl⟩ := isT_vios h2
    exact ⟨stepF Cf 0 M3, _, stepF_ok (code_ok prim_collect) M3_ok 0, law3_true 0 v vs ws⟩
theorem checks_holds : Rows.RulesChecksSaid :=
  OpenClaim.holds_of_wide 3 Tryz.f3 rfl rfl rfl rfl rfl rfl rfl ⟨rfl, rfl, rfl, rfl, rfl⟩ rfl rfl rfl rfl rfl (by kernel_rfl) Tryz.func3 (by kernel_rfl)
    (of_decide_eq_true (by kernel_rfl)) (by unfold Func.isWrapper; first | (rw [if_pos (by decide +kernel)]; kernel_rfl) | (rw [if_neg (by decide +kernel)]; exact ⟨rfl, rfl⟩))
    (fun os started H enc _ => checks_lifted os started H enc)
#print axioms checks_holds
end Go.Proofs.YtccahnafehfjlaaGreat
