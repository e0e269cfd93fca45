/- A part of a proof: an abstract machine for the given program, and what it says of it. No condition. -/
import Derived.Test.YtlghjmdkdkkkjaaGreatRows
import Derived.Test.YtlghjmdkdkkkjaaGreatPartC
import Derived.Test.YtlghjmdkdkkkjaaGreatPartD
open Go Go.E
namespace Go.E
/-- The bodies of the loops, in the text's order. -/
def loopsOf : ECode → List ECode
  | .seq a b => loopsOf a ++ loopsOf b
  | .cond _ a b => loopsOf a ++ loopsOf b
  | .block _ b => loopsOf b
  | .loop b => b :: loopsOf b
  | _ => []
def bodyOf : Option EFn → Nat → ECode
  | some f, i => (loopsOf f.body).getD i .skip
  | none, _ => .skip
/-- What is known of calls, from several sources. -/
theorem callOK_of {C : Cfg} {call : CallF} (h : ∀ {k : FuncId} {args : List Slot} {r : AV × List Slot}, call k args = some r → ∃ c, CallOK C c ∧ c k args = some r) : CallOK C call :=
  ⟨fun q => by obtain ⟨c, h1, h2⟩ := h q; exact h1.calls h2, fun q => by obtain ⟨c, h1, h2⟩ := h q; exact h1.body h2⟩
end Go.E
namespace Go.Proofs.YtlghjmdkdkkkjaaGreat
set_option maxRecDepth 100000
/-- A point. -/
abbrev pt (x y : Int) : AV := .agg [.int .i64 x, .int .i64 y]
abbrev w64 (x : Int) : Int := IntKind.wrap .i64 x
theorem minus_ok (call : CallF) (n : Nat) (a b c d : Int) : stepF Cf n call 74 [.v (pt a b), .v (pt c d)] = some (pt (w64 (a - c)) (w64 (b - d)), [.v (pt a b), .v (pt c d)]) := by kernel_rfl
theorem dot_ok (call : CallF) (n : Nat) (a b c d : Int) : stepF Cf n call 75 [.v (pt a b), .v (pt c d)] = some (.int .i64 (w64 (w64 (a * c) + w64 (b * d))), [.v (pt a b), .v (pt c d)]) := by kernel_rfl
theorem cross_ok (call : CallF) (n : Nat) (a b c d : Int) : stepF Cf n call 77 [.v (pt a b), .v (pt c d)] = some (.int .i64 (w64 (w64 (a * d) - w64 (b * c))), [.v (pt a b), .v (pt c d)]) := by kernel_rfl
/-- A point, and a list of them. -/
structure P2 where
  (x y : Int)
def P2.av (p : P2) : AV := pt p.x p.y
def f70 (xs : List AV) (i : Int) : List Slot := [.v (.sl 2 xs), .any, .v (.bool false), .any, .any, .v (.sl 2 xs), .v (.int .i64 xs.length), .v (.int .i64 i)] ++ List.replicate 22 .any
def e70 (xs : List AV) : List Slot := [.v (.sl 2 xs), .any, .v (.bool false)] ++ List.replicate 27 .any
noncomputable def b70 : ECode := bodyOf (Cf.code 70) 0
section
variable (call : CallF) (n : Nat) (xs : List AV) (i : Int) (p : P2) (h0 : decide (i < (xs.length : Int)) = true) (h1 : 0 ≤ i) (h2 : xs[i.toNat]? = some p.av)
include h0 h1 h2
theorem near_t (a : decide (p.x < -2097152) = false) (b : decide (p.x > 2097152) = false) (c : decide (p.y < -2097152) = false) (d : decide (p.y > 2097152) = false) : evalCode Cf 70 call n b70 (f70 xs i) = some (.normal, f70 xs (w64 (i + 1))) :=
  evalO_to (ans := [.bit true, .elt p.av, .go, .go, .go, .go, .go, .bit false, .go, .go, .go, .bit false, .go, .go, .go, .go, .bit false, .go, .go, .go, .go, .bit false, .go, .go, .go])
    (ps := [decide (i < (xs.length : Int)) = true, 0 ≤ i, xs[i.toNat]? = some p.av, decide (p.x < -2097152) = false, decide (p.x > 2097152) = false, decide (p.y < -2097152) = false, decide (p.y > 2097152) = false]) (by kernel_rfl) ⟨h0, h1, h2, a, b, c, d⟩
theorem near_1 (a : decide (p.x < -2097152) = true) : evalCode Cf 70 call n b70 (f70 xs i) = some (.ret, e70 xs) :=
  evalO_to (ans := [.bit true, .elt p.av, .go, .go, .go, .go, .go, .bit true, .go, .go, .go, .go, .go, .go, .go]) (ps := [decide (i < (xs.length : Int)) = true, 0 ≤ i, xs[i.toNat]? = some p.av, decide (p.x < -2097152) = true]) (by kernel_rfl) ⟨h0, h1, h2, a⟩
theorem near_2 (a : decide (p.x < -2097152) = false) (b : decide (p.x > 2097152) = true) : evalCode Cf 70 call n b70 (f70 xs i) = some (.ret, e70 xs) :=
  evalO_to (ans := [.bit true, .elt p.av, .go, .go, .go, .go, .go, .bit false, .go, .go, .go, .bit true, .go, .go, .go, .go, .go, .go]) (ps := [decide (i < (xs.length : Int)) = true, 0 ≤ i, xs[i.toNat]? = some p.av, decide (p.x < -2097152) = false, decide (p.x > 2097152) = true]) (by kernel_rfl) ⟨h0, h1, h2, a, b⟩
theorem near_3 (a : decide (p.x < -2097152) = false) (b : decide (p.x > 2097152) = false) (c : decide (p.y < -2097152) = true) : evalCode Cf 70 call n b70 (f70 xs i) = some (.ret, e70 xs) :=
  evalO_to (ans := [.bit true, .elt p.av, .go, .go, .go, .go, .go, .bit false, .go, .go, .go, .bit false, .go, .go, .go, .go, .bit true, .go, .go, .go, .go]) (ps := [decide (i < (xs.length : Int)) = true, 0 ≤ i, xs[i.toNat]? = some p.av, decide (p.x < -2097152) = false, decide (p.x > 2097152) = false, decide (p.y < -2097152) = true]) (by kernel_rfl) ⟨h0, h1, h2, a, b, c⟩
theorem near_4 (a : decide (p.x < -2097152) = false) (b : decide (p.x > 2097152) = false) (c : decide (p.y < -2097152) = false) (d : decide (p.y > 2097152) = true) : evalCode Cf 70 call n b70 (f70 xs i) = some (.ret, e70 xs) :=
  evalO_to (ans := [.bit true, .elt p.av, .go, .go, .go, .go, .go, .bit false, .go, .go, .go, .bit false, .go, .go, .go, .go, .bit false, .go, .go, .go, .go, .bit true, .go, .go])
    (ps := [decide (i < (xs.length : Int)) = true, 0 ≤ i, xs[i.toNat]? = some p.av, decide (p.x < -2097152) = false, decide (p.x > 2097152) = false, decide (p.y < -2097152) = false, decide (p.y > 2097152) = true]) (by kernel_rfl) ⟨h0, h1, h2, a, b, c, d⟩
end
def x70 (xs : List AV) (i : Int) : List Slot := [.v (.sl 2 xs), .any, .v (.bool false), .any, .any, .v (.sl 2 xs), .v (.int .i64 xs.length), .v (.int .i64 i), .v (.bool false)] ++ List.replicate 21 .any
theorem near_e (call : CallF) (n : Nat) (xs : List AV) (i : Int) (h0 : decide (i < (xs.length : Int)) = false) : evalCode Cf 70 call n b70 (f70 xs i) = some (.exit 0, x70 xs i) :=
  evalO_to (ans := [.bit false]) (ps := [decide (i < (xs.length : Int)) = false]) (by kernel_rfl) h0
theorem near_w (call : CallF) (n : Nat) (xs : List AV) (i : Int) (h : evalCode Cf 70 call n (.loop b70) (f70 xs 0) = some (.exit 0, x70 xs i)) : stepF Cf n call 70 [.v (.sl 2 xs)] = some (.bool true, [.v (.sl 2 xs)]) :=
  runO_ok (ans := [.go, .go, .go, .go, .run (.exit 0) (x70 xs i), .go]) (ps := [evalCode Cf 70 call n (.loop b70) (f70 xs 0) = some (.exit 0, x70 xs i)]) (by kernel_rfl) h
theorem near_r (call : CallF) (n : Nat) (xs : List AV) (h : evalCode Cf 70 call n (.loop b70) (f70 xs 0) = some (.ret, e70 xs)) : stepF Cf n call 70 [.v (.sl 2 xs)] = some (.bool false, [.v (.sl 2 xs)]) :=
  runO_ok (ans := [.go, .go, .go, .go, .run .ret (e70 xs)]) (ps := [evalCode Cf 70 call n (.loop b70) (f70 xs 0) = some (.ret, e70 xs)]) (by kernel_rfl) h
def P2.near (p : P2) : Bool := !decide (p.x < -2097152) && !decide (p.x > 2097152) && !decide (p.y < -2097152) && !decide (p.y > 2097152)
theorem wrap64 {x : Int} (h1 : -9223372036854775808 ≤ x) (h2 : x ≤ 9223372036854775807) : IntKind.wrap .i64 x = x := IntWalk.i64_in x ⟨h1, h2⟩
theorem near_loop (call : CallF) (n : Nat) (ps : List P2) (hl : ps.length ≤ 1000000) (hn : ps.length < n) : evalCode Cf 70 call n (.loop b70) (f70 (ps.map P2.av) 0) = (if ps.all P2.near then some (.exit 0, x70 (ps.map P2.av) ps.length) else some (.ret, e70 (ps.map P2.av))) := by
  rw [evalCode]
  have key : ∀ (d i m : Nat), i + d = ps.length → d < m → iter (evalCode Cf 70 call n b70) m (f70 (ps.map P2.av) (i : Int)) = (if (ps.drop i).all P2.near then some (.exit 0, x70 (ps.map P2.av) ps.length) else some (.ret, e70 (ps.map P2.av))) := by
    intro d
    induction d with
    | zero =>
      intro i m hi hm
      obtain ⟨m, rfl⟩ : ∃ m', m = m' + 1 := ⟨m - 1, by omega⟩
      have : i = ps.length := by omega
      subst this
      rw [iter, near_e call n _ _ (by simp)]
      simp
    | succ d ih =>
      intro i m hi hm
      obtain ⟨m, rfl⟩ : ∃ m', m = m' + 1 := ⟨m - 1, by omega⟩
      have hlt : i < ps.length := by omega
      have h0 : decide ((i : Int) < ((ps.map P2.av).length : Int)) = true := by simp [hlt]
      have h2 : (ps.map P2.av)[(i : Int).toNat]? = some (ps[i]).av := by simp [hlt]
      have hd : ps.drop i = ps[i] :: ps.drop (i + 1) := List.drop_eq_getElem_cons hlt
      have hw : IntKind.wrap .i64 ((i : Int) + 1) = ((i + 1 : Nat) : Int) := by rw [wrap64 (by omega) (by omega)]; rfl
      rw [iter, hd, List.all_cons]
      unfold P2.near
      cases a : decide ((ps[i]).x < -2097152) with
      | true => rw [near_1 call n _ _ ps[i] h0 (by omega) h2 a]; rfl
      | false =>
      cases b : decide ((ps[i]).x > 2097152) with
      | true => rw [near_2 call n _ _ ps[i] h0 (by omega) h2 a b]; rfl
      | false =>
      cases c : decide ((ps[i]).y < -2097152) with
      | true => rw [near_3 call n _ _ ps[i] h0 (by omega) h2 a b c]; rfl
      | false =>
      cases e : decide ((ps[i]).y > 2097152) with
      | true => rw [near_4 call n _ _ ps[i] h0 (by omega) h2 a b c e]; rfl
      | false =>
        rw [near_t call n _ _ ps[i] h0 (by omega) h2 a b c e]
        simp only [w64, hw]
        rw [ih (i + 1) m (by omega) (by omega)]
        rfl
  have := key ps.length 0 n (by omega) hn
  rw [List.drop_zero] at this
  exact this
theorem near_ok (call : CallF) (n : Nat) (ps : List P2) (hl : ps.length ≤ 1000000) (hn : ps.length < n) : stepF Cf n call 70 [.v (.sl 2 (ps.map P2.av))] = some (.bool (ps.all P2.near), [.v (.sl 2 (ps.map P2.av))]) := by
  have h := near_loop call n ps hl hn
  split at h
  · rename_i ha
    rw [ha]
    exact near_w call n _ _ h
  · rename_i ha
    rw [Bool.not_eq_true] at ha
    rw [ha]
    exact near_r call n _ h
/-- Points, read off. -/
def ptsOf : List AV → Option (List P2)
  | [] => some []
  | .agg [.int .i64 x, .int .i64 y] :: xs => match ptsOf xs with | some ps => some (⟨x, y⟩ :: ps) | none => none
  | _ => none
theorem ptsOf_eq : ∀ {xs : List AV} {ps : List P2}, ptsOf xs = some ps → xs = ps.map P2.av
  | [], ps, h => by simp only [ptsOf, Option.some.injEq] at h; subst h; rfl
  | x :: xs, ps, h => by
    unfold ptsOf at h
    split at h
    · rename_i h1; cases h1
    · rename_i x' y' xs' h1
      injection h1 with h1 h2
      subst h1 h2
      split at h
      · rename_i qs hq
        simp only [Option.some.injEq] at h
        subst h
        rw [ptsOf_eq hq]
        rfl
      · cases h
    · cases h
/-- What is known of the small functions of geometry. -/
def geo : CallF := fun k args =>
  match args with
  | [.v (.agg [.int .i64 a, .int .i64 b]), .v (.agg [.int .i64 c, .int .i64 d])] =>
    if k == 74 then some (pt (w64 (a - c)) (w64 (b - d)), args) else if k == 77 then some (.int .i64 (w64 (w64 (a * d) - w64 (b * c))), args) else if k == 75 then some (.int .i64 (w64 (w64 (a * c) + w64 (b * d))), args) else none
  | [.v (.sl 2 xs)] => if k == 70 then (match ptsOf xs with | some ps => if ps.length ≤ 100 then some (.bool (ps.all P2.near), args) else none | none => none) else none
  | _ => none
theorem geo_ok : CallOK Cf geo := by
  refine callOK_of fun {k args r} h => ⟨stepF Cf 1000 (fun _ _ => none), stepF_ok (code_ok prim_collect) none_ok 1000, ?_⟩
  unfold geo at h
  split at h
  · rename_i a b c d
    split at h
    · rename_i hk
      have hk : k = 74 := by simpa using hk
      subst hk
      rw [minus_ok]
      exact h
    · split at h
      · rename_i hk
        have hk : k = 77 := by simpa using hk
        subst hk
        rw [cross_ok]
        exact h
      · split at h
        · rename_i hk
          have hk : k = 75 := by simpa using hk
          subst hk
          rw [dot_ok]
          exact h
        · cases h
  · rename_i xs
    split at h
    · rename_i hk
      have hk : k = 70 := by simpa using hk
      subst hk
      split at h
      · rename_i ps hp
        split at h
        · rename_i hl
          have := ptsOf_eq hp
          subst this
          rw [near_ok _ _ _ (by omega) (by omega)]
          exact h
        · cases h
      · cases h
    · cases h
  · cases h
end Go.Proofs.YtlghjmdkdkkkjaaGreat

open Go Go.E
namespace Go.Proofs.YtlghjmdkdkkkjaaGreat
set_option maxRecDepth 100000
/-- A frame with few slots. -/
def sparse : Nat → Nat → List (Nat × Slot) → List Slot
  | 0, _, _ => []
  | n + 1, i, (j, s) :: l => if j == i then s :: sparse n (i + 1) l else .any :: sparse n (i + 1) ((j, s) :: l)
  | n + 1, i, [] => .any :: sparse n (i + 1) []
abbrev vi (x : Int) : Slot := .v (.int .i64 x)
abbrev vo (xs : List AV) : Slot := .v (.osl 2 xs)
/-! The program's moves. -/
noncomputable def b4o : ECode := bodyOf (Cf.code 4) 0
noncomputable def b4m : ECode := bodyOf (Cf.code 4) 1
noncomputable def b4i : ECode := bodyOf (Cf.code 4) 2
def F4o (xs : List AV) (g i : Int) : List Slot := sparse 56 0 [(0, vi g), (4, vo xs), (16, vi g), (17, vi i)]
def F4m (xs : List AV) (g i r y : Int) : List Slot := sparse 56 0 [(0, vi g), (4, vo xs), (6, vi r), (7, vi y), (16, vi g), (17, vi i)]
def F4i (xs : List AV) (g i r y s x : Int) : List Slot := sparse 56 0 [(0, vi g), (4, vo xs), (6, vi r), (7, vi y), (8, vi s), (9, vi x), (16, vi g), (17, vi i)]
def X4i (xs : List AV) (g i r y s x : Int) : List Slot := sparse 56 0 [(0, vi g), (4, vo xs), (6, vi r), (7, vi y), (8, vi s), (9, vi x), (16, vi g), (17, vi i), (42, vi x), (43, vi r), (44, .v (.bool false))]
def X4m (xs : List AV) (g i r y : Int) : List Slot := sparse 56 0 [(0, vi g), (4, vo xs), (6, vi r), (7, vi y), (16, vi g), (17, vi i), (24, vi y), (25, vi r), (26, .v (.bool false))]
def X4o (xs : List AV) (g i : Int) : List Slot := sparse 56 0 [(0, vi g), (4, vo xs), (16, vi g), (17, vi i), (18, .v (.bool false))]
section
variable (call : CallF) (n : Nat) (xs ys : List AV) (g i r y s x x' y' i' : Int)
theorem off_i (h : decide (x ≤ r) = true) (hl : (xs.length + 1) * byT Cf 30 ≤ 140737488355328) : evalCode Cf 4 call n b4i (F4i xs g i r y s x) = some (.normal, F4i (xs ++ [pt x y]) g i r y s (w64 (x + s))) :=
  evalO_to (ans := [.go, .go, .bit true, .go, .go, .go, .go, .go, .app, .go, .go, .go, .go, .go]) (ps := [decide (x ≤ r) = true, (xs.length + 1) * byT Cf 30 ≤ 140737488355328]) (by kernel_rfl) ⟨h, hl⟩
theorem off_ie (h : decide (x ≤ r) = false) : evalCode Cf 4 call n b4i (F4i xs g i r y s x) = some (.exit 4, X4i xs g i r y s x) :=
  evalO_to (ans := [.go, .go, .bit false]) (ps := [decide (x ≤ r) = false]) (by kernel_rfl) h
theorem off_m1 (h : decide (y ≤ r) = true) (h1 : (y == w64 (0 - r)) = true) (hi : evalCode Cf 4 call n (.loop b4i) (F4i xs g i r y 1 (w64 (0 - r))) = some (.exit 4, X4i ys g i r y 1 x')) : evalCode Cf 4 call n b4m (F4m xs g i r y) = some (.normal, F4m ys g i r (w64 (y + 1))) :=
  evalO_to (ans := [.go, .go, .bit true, .go, .go, .go, .go, .go, .go, .bit true, .go, .go, .go, .go, .go, .go, .run (.exit 4) (X4i ys g i r y 1 x'), .go, .go, .go])
    (ps := [decide (y ≤ r) = true, (y == w64 (0 - r)) = true, evalCode Cf 4 call n (.loop b4i) (F4i xs g i r y 1 (w64 (0 - r))) = some (.exit 4, X4i ys g i r y 1 x')]) (by kernel_rfl) ⟨h, h1, hi⟩
theorem off_m2 (h : decide (y ≤ r) = true) (h1 : (y == w64 (0 - r)) = false) (h2 : (y == r) = true) (hi : evalCode Cf 4 call n (.loop b4i) (F4i xs g i r y 1 (w64 (0 - r))) = some (.exit 4, X4i ys g i r y 1 x')) : evalCode Cf 4 call n b4m (F4m xs g i r y) = some (.normal, F4m ys g i r (w64 (y + 1))) :=
  evalO_to (ans := [.go, .go, .bit true, .go, .go, .go, .go, .go, .go, .bit false, .go, .go, .go, .bit true, .go, .go, .go, .go, .go, .run (.exit 4) (X4i ys g i r y 1 x'), .go, .go, .go])
    (ps := [decide (y ≤ r) = true, (y == w64 (0 - r)) = false, (y == r) = true, evalCode Cf 4 call n (.loop b4i) (F4i xs g i r y 1 (w64 (0 - r))) = some (.exit 4, X4i ys g i r y 1 x')]) (by kernel_rfl) ⟨h, h1, h2, hi⟩
theorem off_m3 (h : decide (y ≤ r) = true) (h1 : (y == w64 (0 - r)) = false) (h2 : (y == r) = false) (hi : evalCode Cf 4 call n (.loop b4i) (F4i xs g i r y (w64 (2 * r)) (w64 (0 - r))) = some (.exit 4, X4i ys g i r y (w64 (2 * r)) x')) : evalCode Cf 4 call n b4m (F4m xs g i r y) = some (.normal, F4m ys g i r (w64 (y + 1))) :=
  evalO_to (ans := [.go, .go, .bit true, .go, .go, .go, .go, .go, .go, .bit false, .go, .go, .go, .bit false, .go, .go, .go, .go, .run (.exit 4) (X4i ys g i r y (w64 (2 * r)) x'), .go, .go, .go])
    (ps := [decide (y ≤ r) = true, (y == w64 (0 - r)) = false, (y == r) = false, evalCode Cf 4 call n (.loop b4i) (F4i xs g i r y (w64 (2 * r)) (w64 (0 - r))) = some (.exit 4, X4i ys g i r y (w64 (2 * r)) x')]) (by kernel_rfl) ⟨h, h1, h2, hi⟩
theorem off_me (h : decide (y ≤ r) = false) : evalCode Cf 4 call n b4m (F4m xs g i r y) = some (.exit 2, X4m xs g i r y) :=
  evalO_to (ans := [.go, .go, .bit false]) (ps := [decide (y ≤ r) = false]) (by kernel_rfl) h
theorem off_o (h : decide (i < g) = true) (hm : evalCode Cf 4 call n (.loop b4m) (F4m xs g i (w64 (i + 1)) (w64 (0 - w64 (i + 1)))) = some (.exit 2, X4m ys g i (w64 (i + 1)) y')) : evalCode Cf 4 call n b4o (F4o xs g i) = some (.normal, F4o ys g (w64 (i + 1))) :=
  evalO_to (ans := [.bit true, .go, .go, .go, .go, .go, .go, .go, .go, .run (.exit 2) (X4m ys g i (w64 (i + 1)) y'), .go, .go])
    (ps := [decide (i < g) = true, evalCode Cf 4 call n (.loop b4m) (F4m xs g i (w64 (i + 1)) (w64 (0 - w64 (i + 1)))) = some (.exit 2, X4m ys g i (w64 (i + 1)) y')]) (by kernel_rfl) ⟨h, hm⟩
theorem off_oe (h : decide (i < g) = false) : evalCode Cf 4 call n b4o (F4o xs g i) = some (.exit 0, X4o xs g i) :=
  evalO_to (ans := [.bit false]) (ps := [decide (i < g) = false]) (by kernel_rfl) h
theorem off_w (h1 : decide (g < 0) = false) (h2 : decide (g > 64) = false) (ho : evalCode Cf 4 call n (.loop b4o) (F4o [] g 0) = some (.exit 0, X4o ys g i')) : stepF Cf n call 4 [vi g] = some (.tup [.sl 2 ys, .int .i64 0], [vi g]) :=
  runO_ok (ans := [.go, .go, .go, .bit false, .go, .go, .bit false, .go, .go, .go, .go, .run (.exit 0) (X4o ys g i'), .go, .go, .go]) (ps := [decide (g < 0) = false, decide (g > 64) = false, evalCode Cf 4 call n (.loop b4o) (F4o [] g 0) = some (.exit 0, X4o ys g i')]) (by kernel_rfl) ⟨h1, h2, ho⟩
theorem off_1 (h1 : decide (g < 0) = true) : stepF Cf n call 4 [vi g] = some (.tup [.sl 2 [], .int .i64 2], [vi g]) :=
  runO_ok (ans := [.go, .go, .go, .bit true, .go, .go, .go, .go]) (ps := [decide (g < 0) = true]) (by kernel_rfl) h1
theorem off_2 (h1 : decide (g < 0) = false) (h2 : decide (g > 64) = true) : stepF Cf n call 4 [vi g] = some (.tup [.sl 2 [], .int .i64 2], [vi g]) :=
  runO_ok (ans := [.go, .go, .go, .bit false, .go, .go, .bit true, .go, .go, .go]) (ps := [decide (g < 0) = false, decide (g > 64) = true]) (by kernel_rfl) ⟨h1, h2⟩
end
/-! The reference's. -/
noncomputable def b5o : ECode := bodyOf (Cf.code 5) 0
noncomputable def b5m : ECode := bodyOf (Cf.code 5) 1
noncomputable def b5i : ECode := bodyOf (Cf.code 5) 2
def F5o (xs : List AV) (g r : Int) : List Slot := sparse 47 0 [(0, vi g), (4, vo xs), (5, vi r)]
def F5m (xs : List AV) (g r y : Int) : List Slot := sparse 47 0 [(0, vi g), (4, vo xs), (5, vi r), (6, vi y)]
def F5i (xs : List AV) (g r y x : Int) : List Slot := sparse 47 0 [(0, vi g), (4, vo xs), (5, vi r), (6, vi y), (7, vi x)]
def X5i (xs : List AV) (g r y x : Int) : List Slot := sparse 47 0 [(0, vi g), (4, vo xs), (5, vi r), (6, vi y), (7, vi x), (28, vi x), (29, vi r), (30, .v (.bool false))]
def X5m (xs : List AV) (g r y : Int) : List Slot := sparse 47 0 [(0, vi g), (4, vo xs), (5, vi r), (6, vi y), (21, vi y), (22, vi r), (23, .v (.bool false))]
def X5o (xs : List AV) (g r : Int) : List Slot := sparse 47 0 [(0, vi g), (4, vo xs), (5, vi r), (14, vi r), (15, vi g), (16, .v (.bool false))]
/-- The absolute value. -/
def sz (x : Int) : Int := if w64 (0 - x) > x then w64 (0 - x) else x
def mxI (a b : Int) : Int := if b > a then b else a
section
variable (call : CallF) (n : Nat) (xs ys : List AV) (g r y x x' y' r' : Int) (o8 o9 : List Slot)
theorem size_ok : stepF Cf n call 8 [vi x] = some (.int .i64 (sz x), [vi x]) := by kernel_rfl
theorem ref_it (h : decide (x ≤ r) = true) (h8 : call 8 [vi x] = some (.int .i64 (sz x), o8)) (h9 : call 8 [vi y] = some (.int .i64 (sz y), o9)) (hc : (mxI (sz x) (sz y) == r) = true) (hl : (xs.length + 1) * byT Cf 30 ≤ 140737488355328) :
    evalCode Cf 5 call n b5i (F5i xs g r y x) = some (.normal, F5i (xs ++ [pt x y]) g r y (w64 (x + 1))) :=
  evalO_to (ans := [.go, .go, .bit true, .go, .ret (.int .i64 (sz x)) o8, .go, .ret (.int .i64 (sz y)) o9, .go, .go, .bit true, .go, .go, .go, .go, .go, .app, .go, .go, .go, .go])
    (ps := [decide (x ≤ r) = true, call 8 [vi x] = some (.int .i64 (sz x), o8), call 8 [vi y] = some (.int .i64 (sz y), o9), (mxI (sz x) (sz y) == r) = true, (xs.length + 1) * byT Cf 30 ≤ 140737488355328]) (by kernel_rfl) ⟨h, h8, h9, hc, hl⟩
theorem ref_if (h : decide (x ≤ r) = true) (h8 : call 8 [vi x] = some (.int .i64 (sz x), o8)) (h9 : call 8 [vi y] = some (.int .i64 (sz y), o9)) (hc : (mxI (sz x) (sz y) == r) = false) :
    evalCode Cf 5 call n b5i (F5i xs g r y x) = some (.normal, F5i xs g r y (w64 (x + 1))) :=
  evalO_to (ans := [.go, .go, .bit true, .go, .ret (.int .i64 (sz x)) o8, .go, .ret (.int .i64 (sz y)) o9, .go, .go, .bit false, .go, .go, .go])
    (ps := [decide (x ≤ r) = true, call 8 [vi x] = some (.int .i64 (sz x), o8), call 8 [vi y] = some (.int .i64 (sz y), o9), (mxI (sz x) (sz y) == r) = false]) (by kernel_rfl) ⟨h, h8, h9, hc⟩
theorem ref_ie (h : decide (x ≤ r) = false) : evalCode Cf 5 call n b5i (F5i xs g r y x) = some (.exit 4, X5i xs g r y x) :=
  evalO_to (ans := [.go, .go, .bit false]) (ps := [decide (x ≤ r) = false]) (by kernel_rfl) h
theorem ref_m (h : decide (y ≤ r) = true) (hi : evalCode Cf 5 call n (.loop b5i) (F5i xs g r y (w64 (0 - r))) = some (.exit 4, X5i ys g r y x')) : evalCode Cf 5 call n b5m (F5m xs g r y) = some (.normal, F5m ys g r (w64 (y + 1))) :=
  evalO_to (ans := [.go, .go, .bit true, .go, .go, .go, .run (.exit 4) (X5i ys g r y x'), .go, .go, .go])
    (ps := [decide (y ≤ r) = true, evalCode Cf 5 call n (.loop b5i) (F5i xs g r y (w64 (0 - r))) = some (.exit 4, X5i ys g r y x')]) (by kernel_rfl) ⟨h, hi⟩
theorem ref_me (h : decide (y ≤ r) = false) : evalCode Cf 5 call n b5m (F5m xs g r y) = some (.exit 2, X5m xs g r y) :=
  evalO_to (ans := [.go, .go, .bit false]) (ps := [decide (y ≤ r) = false]) (by kernel_rfl) h
theorem ref_o (h : decide (r ≤ g) = true) (hm : evalCode Cf 5 call n (.loop b5m) (F5m xs g r (w64 (0 - r))) = some (.exit 2, X5m ys g r y')) : evalCode Cf 5 call n b5o (F5o xs g r) = some (.normal, F5o ys g (w64 (r + 1))) :=
  evalO_to (ans := [.go, .go, .bit true, .go, .go, .go, .run (.exit 2) (X5m ys g r y'), .go, .go, .go])
    (ps := [decide (r ≤ g) = true, evalCode Cf 5 call n (.loop b5m) (F5m xs g r (w64 (0 - r))) = some (.exit 2, X5m ys g r y')]) (by kernel_rfl) ⟨h, hm⟩
theorem ref_oe (h : decide (r ≤ g) = false) : evalCode Cf 5 call n b5o (F5o xs g r) = some (.exit 0, X5o xs g r) :=
  evalO_to (ans := [.go, .go, .bit false]) (ps := [decide (r ≤ g) = false]) (by kernel_rfl) h
theorem ref_w (h1 : decide (g < 0) = false) (h2 : decide (g > 64) = false) (ho : evalCode Cf 5 call n (.loop b5o) (F5o [] g 1) = some (.exit 0, X5o ys g r')) : stepF Cf n call 5 [vi g] = some (.tup [.sl 2 ys, .int .i64 0], [vi g]) :=
  runO_ok (ans := [.go, .go, .go, .bit false, .go, .go, .bit false, .go, .go, .go, .run (.exit 0) (X5o ys g r'), .go, .go, .go]) (ps := [decide (g < 0) = false, decide (g > 64) = false, evalCode Cf 5 call n (.loop b5o) (F5o [] g 1) = some (.exit 0, X5o ys g r')]) (by kernel_rfl) ⟨h1, h2, ho⟩
theorem ref_1 (h1 : decide (g < 0) = true) : stepF Cf n call 5 [vi g] = some (.tup [.sl 2 [], .int .i64 2], [vi g]) :=
  runO_ok (ans := [.go, .go, .go, .bit true, .go, .go, .go, .go]) (ps := [decide (g < 0) = true]) (by kernel_rfl) h1
theorem ref_2 (h1 : decide (g < 0) = false) (h2 : decide (g > 64) = true) : stepF Cf n call 5 [vi g] = some (.tup [.sl 2 [], .int .i64 2], [vi g]) :=
  runO_ok (ans := [.go, .go, .go, .bit false, .go, .go, .bit true, .go, .go, .go]) (ps := [decide (g < 0) = false, decide (g > 64) = true]) (by kernel_rfl) ⟨h1, h2⟩
end
/-! Are two lists the same? -/
noncomputable def b6s : ECode := bodyOf (Cf.code 6) 0
def F6 (xs ys : List AV) (i : Int) : List Slot := sparse 26 0 [(0, .v (.sl 2 xs)), (1, .v (.sl 2 ys)), (4, .v (.bool false)), (5, vi i)]
def X6 (xs ys : List AV) (i : Int) : List Slot := sparse 26 0 [(0, .v (.sl 2 xs)), (1, .v (.sl 2 ys)), (4, .v (.bool false)), (5, vi i), (11, vi i), (12, .v (.sl 2 xs)), (13, vi xs.length), (14, .v (.bool false))]
section
variable (call : CallF) (n : Nat) (xs ys : List AV) (i i' : Int) (p : P2)
theorem same_r (h : decide (i < (xs.length : Int)) = true) (h0 : 0 ≤ i) (hx : xs[i.toNat]? = some p.av) (hy : ys[i.toNat]? = some p.av) (he : eqL [.int .i64 p.x, .int .i64 p.y] [.int .i64 p.x, .int .i64 p.y] = some true) : evalCode Cf 6 call n b6s (F6 xs ys i) = some (.normal, F6 xs ys (w64 (i + 1))) :=
  evalO_to (ans := [.go, .go, .go, .bit true, .go, .go, .elt p.av, .go, .go, .go, .elt p.av, .go, .eqb true, .go, .go, .go])
    (ps := [decide (i < (xs.length : Int)) = true, 0 ≤ i, xs[i.toNat]? = some p.av, 0 ≤ i, ys[i.toNat]? = some p.av, eqL [.int .i64 p.x, .int .i64 p.y] [.int .i64 p.x, .int .i64 p.y] = some true]) (by kernel_rfl) ⟨h, h0, hx, h0, hy, he⟩
theorem same_e (h : decide (i < (xs.length : Int)) = false) : evalCode Cf 6 call n b6s (F6 xs ys i) = some (.exit 0, X6 xs ys i) :=
  evalO_to (ans := [.go, .go, .go, .bit false]) (ps := [decide (i < (xs.length : Int)) = false]) (by kernel_rfl) h
theorem same_w (hl : ((xs.length : Int) != (ys.length : Int)) = false) (h : evalCode Cf 6 call n (.loop b6s) (F6 xs ys 0) = some (.exit 0, X6 xs ys i')) : stepF Cf n call 6 [.v (.sl 2 xs), .v (.sl 2 ys)] = some (.bool true, [.v (.sl 2 xs), .v (.sl 2 ys)]) :=
  runO_ok (ans := [.go, .go, .go, .go, .go, .bit false, .go, .run (.exit 0) (X6 xs ys i'), .go]) (ps := [((xs.length : Int) != (ys.length : Int)) = false, evalCode Cf 6 call n (.loop b6s) (F6 xs ys 0) = some (.exit 0, X6 xs ys i')]) (by kernel_rfl) ⟨hl, h⟩
end
/-- The law. -/
theorem law_off (call : CallF) (n : Nat) (g e : Int) (L : List AV) (o4 o5 o6 : List Slot) (h4 : call 4 [vi g] = some (.tup [.sl 2 L, .int .i64 e], o4)) (h5 : call 5 [vi g] = some (.tup [.sl 2 L, .int .i64 e], o5)) (h6 : call 6 [.v (.sl 2 L), .v (.sl 2 L)] = some (.bool true, o6)) (h7 : call 7 [] = some (.bool true, [])) :
    stepF Cf n call 3 [vi g] = some (.bool true, [vi g]) :=
  runO_ok (ans := [.go, .go, .ret (.tup [.sl 2 L, .int .i64 e]) o4, .go, .go, .go, .go, .go, .go, .ret (.tup [.sl 2 L, .int .i64 e]) o5, .go, .go, .go, .go, .go, .go, .go, .bit true, .go, .go, .go, .ret (.bool true) o6, .go, .go, .ret (.bool true) [], .go, .go])
    (ps := [call 4 [vi g] = some (.tup [.sl 2 L, .int .i64 e], o4), call 5 [vi g] = some (.tup [.sl 2 L, .int .i64 e], o5), (e == e) = true, call 6 [.v (.sl 2 L), .v (.sl 2 L)] = some (.bool true, o6), call 7 [] = some (.bool true, [])]) (by kernel_rfl) ⟨h4, h5, beq_self_eq_true e, h6, h7⟩
end Go.Proofs.YtlghjmdkdkkkjaaGreat

open Go Go.E
namespace Go.Proofs.YtlghjmdkdkkkjaaGreat
set_option maxRecDepth 100000
theorem by30 : byT Cf 30 = 16 := by kernel_rfl
theorem w_in {x : Int} (h1 : -1000000000 ≤ x) (h2 : x ≤ 1000000000) : w64 x = x := wrap64 (by omega) (by omega)
theorem len_flat {c : Nat} (f : Nat → List AV) (h : ∀ k, (f k).length ≤ c) : ∀ j, ((List.range j).flatMap f).length ≤ j * c
  | 0 => by simp
  | j + 1 => by
    have := len_flat f h j
    have h1 := h j
    rw [List.range_succ, List.flatMap_append, List.length_append, Nat.add_mul, Nat.one_mul]
    simp only [List.flatMap_cons, List.flatMap_nil, List.append_nil]
    omega
/-- A part of a row: m points, s apart. -/
def segL (r : Nat) (y s : Int) (m : Nat) : List AV := (List.range m).map fun (j : Nat) => pt (-(r : Int) + j * s) y
/-- What a row gives. -/
def rowL (r : Nat) (y : Int) : List AV := if y = -(r : Int) ∨ y = r then segL r y 1 (2 * r + 1) else segL r y (2 * r) 2
def ringL (r : Nat) : List AV := (List.range (2 * r + 1)).flatMap fun (k : Nat) => rowL r (-(r : Int) + k)
def allL (g : Nat) : List AV := (List.range g).flatMap fun k => ringL (k + 1)
theorem segL_len {r : Nat} {y s : Int} {m : Nat} : (segL r y s m).length = m := by simp [segL]
theorem rowL_len {r : Nat} {y : Int} : (rowL r y).length ≤ 2 * r + 2 := by
  unfold rowL
  split <;> rw [segL_len] <;> omega
theorem ringL_len {r : Nat} : (ringL r).length ≤ (2 * r + 1) * (2 * r + 2) := len_flat _ (fun _ => rowL_len) _
section
variable (call : CallF)
theorem in_loop (base : List AV) (g i y s : Int) (r m : Nat) (hr : r ≤ 64) (hr1 : 1 ≤ r) (hs : 0 < s) (hs2 : s ≤ 200) (hm : 1 ≤ m) (hm2 : m ≤ 130) (h1 : -(r : Int) + ((m - 1 : Nat) : Int) * s ≤ r) (h2 : (r : Int) < -(r : Int) + (m : Int) * s) (hb : base.length ≤ 1100000) :
    evalCode Cf 4 call 100000 (.loop b4i) (F4i base g i r y s (-(r : Int))) = some (.exit 4, X4i (base ++ segL r y s m) g i r y s (-(r : Int) + m * s)) := by
  have key := loop_rounds (C := Cf) (fid := 4) (call := call) (n := 100000) (b := b4i) (fun j => F4i (base ++ segL r y s j) g i r y s (-(r : Int) + j * s)) (m := m) (out := .exit 4) (f' := X4i (base ++ segL r y s m) g i r y s (-(r : Int) + m * s)) (by decide) (by omega) ?_ ?_
  · simpa [segL] using key
  · intro j hj
    have hle : (j : Int) * s ≤ ((m - 1 : Nat) : Int) * s := Int.mul_le_mul_of_nonneg_right (by omega) (by omega)
    have hj0 : 0 ≤ (j : Int) * s := Int.mul_nonneg (by omega) (by omega)
    have := off_i call 100000 (base ++ segL r y s j) g i r y s (-(r : Int) + j * s) (by simp; omega) (by rw [by30, List.length_append, segL_len]; omega)
    rw [this, w_in (by omega) (by omega)]
    have e1 : base ++ segL r y s j ++ [pt (-(r : Int) + j * s) y] = base ++ segL r y s (j + 1) := by
      simp [segL, List.range_succ]
    have e2 : -(r : Int) + j * s + s = -(r : Int) + ((j + 1 : Nat) : Int) * s := by
      rw [Int.natCast_add, Int.add_mul]
      simp only [Int.natCast_one, Int.one_mul]
      omega
    rw [e1, e2]
  · exact off_ie call 100000 _ g i r y s _ (by simp; omega)
theorem row_loop (base : List AV) (g i : Int) (r k : Nat) (hr : r ≤ 64) (hr1 : 1 ≤ r) (hk : k < 2 * r + 1) (hb : base.length ≤ 1100000) :
    evalCode Cf 4 call 100000 b4m (F4m base g i r (-(r : Int) + k)) = some (.normal, F4m (base ++ rowL r (-(r : Int) + k)) g i r (-(r : Int) + ((k + 1 : Nat) : Int))) := by
  have hw : w64 (0 - (r : Int)) = -(r : Int) := by rw [w_in (by omega) (by omega)]; omega
  have hy : decide (-(r : Int) + k ≤ r) = true := by simp; omega
  have hn : w64 (-(r : Int) + k + 1) = -(r : Int) + ((k + 1 : Nat) : Int) := by rw [w_in (by omega) (by omega)]; omega
  have full := in_loop call base g i (-(r : Int) + k) 1 r (2 * r + 1) hr hr1 (by omega) (by omega) (by omega) (by omega) (by omega) (by omega) hb
  by_cases h1 : -(r : Int) + k = -(r : Int)
  · have e : rowL r (-(r : Int) + k) = segL r (-(r : Int) + k) 1 (2 * r + 1) := by unfold rowL; rw [if_pos (.inl h1)]
    rw [e, ← hn]
    exact off_m1 call 100000 base _ g i r _ _ hy (by rw [hw]; simpa using h1) (by rw [hw]; exact full)
  · by_cases h2 : -(r : Int) + k = r
    · have e : rowL r (-(r : Int) + k) = segL r (-(r : Int) + k) 1 (2 * r + 1) := by unfold rowL; rw [if_pos (.inr h2)]
      rw [e, ← hn]
      exact off_m2 call 100000 base _ g i r _ _ hy (by rw [hw]; simpa using h1) (by simpa using h2) (by rw [hw]; exact full)
    · have e : rowL r (-(r : Int) + k) = segL r (-(r : Int) + k) (2 * r) 2 := by unfold rowL; rw [if_neg (by omega)]
      have two := in_loop call base g i (-(r : Int) + k) (2 * r) r 2 hr hr1 (by omega) (by omega) (by omega) (by omega) (by omega) (by omega) hb
      have hw2 : w64 (2 * (r : Int)) = 2 * (r : Int) := w_in (by omega) (by omega)
      rw [e, ← hn]
      have := off_m3 call 100000 base (base ++ segL r (-(r : Int) + k) (2 * r) 2) g i r (-(r : Int) + k) (-(r : Int) + (2 : Nat) * (2 * (r : Int))) hy (by rw [hw]; simpa using h1) (by simpa using h2) (by rw [hw, hw2]; exact two)
      exact this
theorem ring_loop (base : List AV) (g i : Int) (r : Nat) (hr : r ≤ 64) (hr1 : 1 ≤ r) (hb : base.length ≤ 1080000) :
    evalCode Cf 4 call 100000 (.loop b4m) (F4m base g i r (-(r : Int))) = some (.exit 2, X4m (base ++ ringL r) g i r (-(r : Int) + ((2 * r + 1 : Nat) : Int))) := by
  have key := loop_rounds (C := Cf) (fid := 4) (call := call) (n := 100000) (b := b4m) (fun j => F4m (base ++ (List.range j).flatMap fun (k : Nat) => rowL r (-(r : Int) + k)) g i r (-(r : Int) + j)) (m := 2 * r + 1) (out := .exit 2) (f' := X4m (base ++ ringL r) g i r (-(r : Int) + ((2 * r + 1 : Nat) : Int))) (by decide) (by omega) ?_ ?_
  · simpa using key
  · intro j hj
    have hl := len_flat (fun (k : Nat) => rowL r (-(r : Int) + k)) (fun _ => rowL_len) j
    have hl2 : j * (2 * r + 2) ≤ 129 * 130 := Nat.mul_le_mul (by omega) (by omega)
    rw [row_loop call _ g i r j hr hr1 hj (by rw [List.length_append]; omega)]
    rw [List.append_assoc, List.range_succ, List.flatMap_append]
    simp
  · exact off_me call 100000 _ g i r _ (by simp; omega)
theorem all_loop (g : Nat) (hg : g ≤ 64) : evalCode Cf 4 call 100000 (.loop b4o) (F4o [] g 0) = some (.exit 0, X4o (allL g) g g) := by
  have key := loop_rounds (C := Cf) (fid := 4) (call := call) (n := 100000) (b := b4o) (fun j => F4o ((List.range j).flatMap fun k => ringL (k + 1)) g j) (m := g) (out := .exit 0) (f' := X4o (allL g) g g) (by decide) (by omega) ?_ ?_
  · simpa using key
  · intro j hj
    have hl : ((List.range j).flatMap fun k => ringL (k + 1)).length ≤ 1080000 := by
      have : ∀ j, j ≤ 64 → ((List.range j).flatMap fun k => ringL (k + 1)).length ≤ j * (129 * 130) := by
        intro j
        induction j with
        | zero => simp
        | succ j ih =>
          intro hj
          have h1 := ih (by omega)
          have h2 := ringL_len (r := j + 1)
          have h3 : (2 * (j + 1) + 1) * (2 * (j + 1) + 2) ≤ 129 * 130 := Nat.mul_le_mul (by omega) (by omega)
          rw [List.range_succ, List.flatMap_append, List.length_append, Nat.add_mul, Nat.one_mul]
          simp only [List.flatMap_cons, List.flatMap_nil, List.append_nil]
          omega
      have := this j (by omega)
      have h4 : j * (129 * 130) ≤ 64 * (129 * 130) := Nat.mul_le_mul_right _ (by omega)
      omega
    have hw : w64 ((j : Int) + 1) = ((j + 1 : Nat) : Int) := by rw [w_in (by omega) (by omega)]; rfl
    have hw2 : w64 (0 - ((j + 1 : Nat) : Int)) = -((j + 1 : Nat) : Int) := by rw [w_in (by omega) (by omega)]; omega
    have := off_o call 100000 ((List.range j).flatMap fun k => ringL (k + 1)) _ g j _ (by simp; omega) (by rw [hw, hw2]; exact ring_loop call _ g j (j + 1) (by omega) (by omega) hl)
    rw [this, hw, List.range_succ, List.flatMap_append]
    simp
  · exact off_oe call 100000 _ g g (by simp)
theorem offsets_ok (g : Nat) (hg : g ≤ 64) : stepF Cf 100000 call 4 [vi g] = some (.tup [.sl 2 (allL g), .int .i64 0], [vi g]) :=
  off_w call 100000 _ g _ (by simp) (by simp; omega) (all_loop call g hg)
end
/-! The reference's. -/
def selL (r : Nat) (y x : Int) : List AV := if mxI (sz x) (sz y) == (r : Int) then [pt x y] else []
theorem sz_eq {x : Int} (h1 : -1000 ≤ x) (h2 : x ≤ 1000) : sz x = if 0 ≤ x then x else -x := by
  unfold sz
  rw [w_in (by omega) (by omega)]
  split <;> split <;> omega
theorem flat_single {α : Type} (f : Nat → α) : ∀ (l : List Nat), (l.flatMap fun k => [f k]) = l.map f
  | [] => rfl
  | a :: l => by simp [List.flatMap_cons, flat_single f l]
theorem flat_none {g : Nat → List AV} : ∀ {l : List Nat}, (∀ k ∈ l, g k = []) → l.flatMap g = []
  | [], _ => rfl
  | a :: l, h => by rw [List.flatMap_cons, h a (by simp), flat_none (fun k hk => h k (by simp [hk]))]; rfl
theorem flat_congr {f g : Nat → List AV} : ∀ {l : List Nat}, (∀ k ∈ l, f k = g k) → l.flatMap f = l.flatMap g
  | [], _ => rfl
  | a :: l, h => by rw [List.flatMap_cons, List.flatMap_cons, h a (by simp), flat_congr (fun k hk => h k (by simp [hk]))]
theorem row_eq (r : Nat) (hr : r ≤ 64) (hr1 : 1 ≤ r) (y : Int) (h1 : -(r : Int) ≤ y) (h2 : y ≤ r) : ((List.range (2 * r + 1)).flatMap fun (k : Nat) => selL r y (-(r : Int) + k)) = rowL r y := by
  by_cases hy : y = -(r : Int) ∨ y = r
  · unfold rowL
    rw [if_pos hy, segL, ← flat_single]
    refine flat_congr fun k hk => ?_
    rw [List.mem_range] at hk
    unfold selL
    rw [if_pos]
    · simp
    · rw [beq_iff_eq, sz_eq (by omega) (by omega), sz_eq (by omega) (by omega)]
      unfold mxI
      repeat' split
      all_goals omega
  · unfold rowL
    rw [if_neg hy]
    obtain ⟨q, rfl⟩ : ∃ q, r = q + 1 := ⟨r - 1, by omega⟩
    have hsplit : List.range (2 * (q + 1) + 1) = [0] ++ (List.range' 1 (2 * q + 1) ++ [2 * (q + 1)]) := by
      rw [List.range_eq_range', show 2 * (q + 1) + 1 = 1 + (2 * q + 1 + 1) by omega, ← List.range'_append_1]
      congr 1
      rw [← List.range'_append_1]
      congr 1
      simp
      omega
    rw [hsplit, List.flatMap_append, List.flatMap_append]
    have hmid : (List.range' 1 (2 * q + 1)).flatMap (fun (k : Nat) => selL (q + 1) y (-((q + 1 : Nat) : Int) + k)) = [] := by
      refine flat_none fun k hk => ?_
      rw [List.mem_range'_1] at hk
      unfold selL
      rw [if_neg]
      rw [beq_iff_eq, sz_eq (by omega) (by omega), sz_eq (by omega) (by omega)]
      unfold mxI
      repeat' split
      all_goals omega
    rw [hmid]
    have hend : ∀ k : Nat, k = 0 ∨ k = 2 * (q + 1) → selL (q + 1) y (-((q + 1 : Nat) : Int) + k) = [pt (-((q + 1 : Nat) : Int) + k) y] := by
      intro k hk
      unfold selL
      rw [if_pos]
      rw [beq_iff_eq, sz_eq (by omega) (by omega), sz_eq (by omega) (by omega)]
      unfold mxI
      repeat' split
      all_goals omega
    simp only [List.flatMap_cons, List.flatMap_nil, List.append_nil, List.nil_append]
    rw [hend 0 (.inl rfl), hend (2 * (q + 1)) (.inr rfl)]
    have e : ((2 * (q + 1) : Nat) : Int) = 2 * ((q + 1 : Nat) : Int) := by omega
    simp [segL, List.range_succ, e]
section
variable (call : CallF) (hsz : ∀ x : Int, ∃ o, call 8 [vi x] = some (.int .i64 (sz x), o))
include hsz
theorem rin_loop (base : List AV) (g y : Int) (r : Nat) (hr : r ≤ 64) (hb : base.length ≤ 1100000) :
    evalCode Cf 5 call 100000 (.loop b5i) (F5i base g r y (-(r : Int))) = some (.exit 4, X5i (base ++ (List.range (2 * r + 1)).flatMap fun (k : Nat) => selL r y (-(r : Int) + k)) g r y (-(r : Int) + ((2 * r + 1 : Nat) : Int))) := by
  have key := loop_rounds (C := Cf) (fid := 5) (call := call) (n := 100000) (b := b5i) (fun j => F5i (base ++ (List.range j).flatMap fun (k : Nat) => selL r y (-(r : Int) + k)) g r y (-(r : Int) + j)) (m := 2 * r + 1) (out := .exit 4)
    (f' := X5i (base ++ (List.range (2 * r + 1)).flatMap fun (k : Nat) => selL r y (-(r : Int) + k)) g r y (-(r : Int) + ((2 * r + 1 : Nat) : Int))) (by decide) (by omega) ?_ ?_
  · simpa using key
  · intro j hj
    obtain ⟨o8, h8⟩ := hsz (-(r : Int) + j)
    obtain ⟨o9, h9⟩ := hsz y
    have hsl : ∀ k, (selL r y (-(r : Int) + k)).length ≤ 1 := fun k => by unfold selL; split <;> simp
    have hl := len_flat (fun (k : Nat) => selL r y (-(r : Int) + k)) (fun k => hsl k) j
    have hn : w64 (-(r : Int) + j + 1) = -(r : Int) + ((j + 1 : Nat) : Int) := by rw [w_in (by omega) (by omega)]; omega
    cases hc : mxI (sz (-(r : Int) + j)) (sz y) == (r : Int) with
    | true =>
      have := ref_it call 100000 (base ++ (List.range j).flatMap fun (k : Nat) => selL r y (-(r : Int) + k)) g r y (-(r : Int) + j) o8 o9 (by simp; omega) h8 h9 hc (by rw [by30, List.length_append]; omega)
      rw [this, hn, List.append_assoc, List.range_succ, List.flatMap_append]
      have e : selL r y (-(r : Int) + j) = [pt (-(r : Int) + j) y] := by unfold selL; rw [if_pos hc]
      simp [e]
    | false =>
      have := ref_if call 100000 (base ++ (List.range j).flatMap fun (k : Nat) => selL r y (-(r : Int) + k)) g r y (-(r : Int) + j) o8 o9 (by simp; omega) h8 h9 hc
      rw [this, hn, List.range_succ, List.flatMap_append]
      have e : selL r y (-(r : Int) + j) = [] := by unfold selL; rw [if_neg (by simp [hc])]
      simp [e]
  · exact ref_ie call 100000 _ g r y _ (by simp; omega)
theorem rring_loop (base : List AV) (g : Int) (r : Nat) (hr : r ≤ 64) (hr1 : 1 ≤ r) (hb : base.length ≤ 1080000) :
    evalCode Cf 5 call 100000 (.loop b5m) (F5m base g r (-(r : Int))) = some (.exit 2, X5m (base ++ ringL r) g r (-(r : Int) + ((2 * r + 1 : Nat) : Int))) := by
  have key := loop_rounds (C := Cf) (fid := 5) (call := call) (n := 100000) (b := b5m) (fun j => F5m (base ++ (List.range j).flatMap fun (k : Nat) => rowL r (-(r : Int) + k)) g r (-(r : Int) + j)) (m := 2 * r + 1) (out := .exit 2) (f' := X5m (base ++ ringL r) g r (-(r : Int) + ((2 * r + 1 : Nat) : Int))) (by decide) (by omega) ?_ ?_
  · simpa using key
  · intro j hj
    have hl := len_flat (fun (k : Nat) => rowL r (-(r : Int) + k)) (fun _ => rowL_len) j
    have hl2 : j * (2 * r + 2) ≤ 129 * 130 := Nat.mul_le_mul (by omega) (by omega)
    have hw : w64 (0 - (r : Int)) = -(r : Int) := by rw [w_in (by omega) (by omega)]; omega
    have hn : w64 (-(r : Int) + j + 1) = -(r : Int) + ((j + 1 : Nat) : Int) := by rw [w_in (by omega) (by omega)]; omega
    have hin := rin_loop call hsz (base ++ (List.range j).flatMap fun (k : Nat) => rowL r (-(r : Int) + k)) g (-(r : Int) + j) r hr (by rw [List.length_append]; omega)
    rw [row_eq r hr hr1 _ (by omega) (by omega)] at hin
    have := ref_m call 100000 (base ++ (List.range j).flatMap fun (k : Nat) => rowL r (-(r : Int) + k)) _ g r (-(r : Int) + j) _ (by simp; omega) (by rw [hw]; exact hin)
    rw [this, hn, List.append_assoc, List.range_succ, List.flatMap_append]
    simp
  · exact ref_me call 100000 _ g r _ (by simp; omega)
theorem rall_loop (g : Nat) (hg : g ≤ 64) : evalCode Cf 5 call 100000 (.loop b5o) (F5o [] g 1) = some (.exit 0, X5o (allL g) g ((g : Int) + 1)) := by
  have key := loop_rounds (C := Cf) (fid := 5) (call := call) (n := 100000) (b := b5o) (fun j => F5o ((List.range j).flatMap fun k => ringL (k + 1)) g ((j : Int) + 1)) (m := g) (out := .exit 0) (f' := X5o (allL g) g ((g : Int) + 1)) (by decide) (by omega) ?_ ?_
  · simpa using key
  · intro j hj
    have hl : ((List.range j).flatMap fun k => ringL (k + 1)).length ≤ 1080000 := by
      have : ∀ j, j ≤ 64 → ((List.range j).flatMap fun k => ringL (k + 1)).length ≤ j * (129 * 130) := by
        intro j
        induction j with
        | zero => simp
        | succ j ih =>
          intro hj
          have h1 := ih (by omega)
          have h2 := ringL_len (r := j + 1)
          have h3 : (2 * (j + 1) + 1) * (2 * (j + 1) + 2) ≤ 129 * 130 := Nat.mul_le_mul (by omega) (by omega)
          rw [List.range_succ, List.flatMap_append, List.length_append, Nat.add_mul, Nat.one_mul]
          simp only [List.flatMap_cons, List.flatMap_nil, List.append_nil]
          omega
      have := this j (by omega)
      have h4 : j * (129 * 130) ≤ 64 * (129 * 130) := Nat.mul_le_mul_right _ (by omega)
      omega
    have hr : ((j : Int) + 1) = ((j + 1 : Nat) : Int) := by omega
    have hw : w64 (((j + 1 : Nat) : Int) + 1) = ((j + 1 : Nat) : Int) + 1 := w_in (by omega) (by omega)
    have hw2 : w64 (0 - ((j + 1 : Nat) : Int)) = -((j + 1 : Nat) : Int) := by rw [w_in (by omega) (by omega)]; omega
    rw [hr]
    have := ref_o call 100000 ((List.range j).flatMap fun k => ringL (k + 1)) _ g ((j + 1 : Nat) : Int) _ (by simp; omega) (by rw [hw2]; exact rring_loop call hsz _ g (j + 1) (by omega) (by omega) hl)
    rw [this, hw, List.range_succ, List.flatMap_append]
    simp
  · exact ref_oe call 100000 _ g _ (by simp; omega)
theorem roffsets_ok (g : Nat) (hg : g ≤ 64) : stepF Cf 100000 call 5 [vi g] = some (.tup [.sl 2 (allL g), .int .i64 0], [vi g]) :=
  ref_w call 100000 _ g _ (by simp) (by simp; omega) (rall_loop call hsz g hg)
end
/-! The lists are the same. -/
theorem same_ok (call : CallF) (n : Nat) (ps : List P2) (hn : ps.length < n) (hl : ps.length ≤ 10000000) : stepF Cf n call 6 [.v (.sl 2 (ps.map P2.av)), .v (.sl 2 (ps.map P2.av))] = some (.bool true, [.v (.sl 2 (ps.map P2.av)), .v (.sl 2 (ps.map P2.av))]) := by
  refine same_w call n _ _ (ps.length : Int) (by simp) ?_
  have key := loop_rounds (C := Cf) (fid := 6) (call := call) (n := n) (b := b6s) (fun j => F6 (ps.map P2.av) (ps.map P2.av) j) (m := ps.length) (out := .exit 0) (f' := X6 (ps.map P2.av) (ps.map P2.av) ps.length) (by decide) hn ?_ ?_
  · exact key
  · intro j hj
    have hx : (ps.map P2.av)[(j : Int).toNat]? = some (ps[j]).av := by simp [hj]
    rw [same_r call n _ _ j ps[j] (by simp [hj]) (by omega) hx hx (by simp [eqL, eqA])]
    rw [show w64 ((j : Int) + 1) = ((j + 1 : Nat) : Int) by rw [w_in (by omega) (by omega)]; rfl]
  · exact same_e call n _ _ _ (by simp)
theorem segL_pts (r : Nat) (y s : Int) (m : Nat) : ∃ ps : List P2, segL r y s m = ps.map P2.av := ⟨(List.range m).map fun (j : Nat) => ⟨-(r : Int) + j * s, y⟩, by simp [segL, P2.av]⟩
theorem rowL_pts (r : Nat) (y : Int) : ∃ ps : List P2, rowL r y = ps.map P2.av := by
  unfold rowL
  split
  · exact segL_pts ..
  · exact segL_pts ..
theorem flat_pts {f : Nat → List AV} (h : ∀ k, ∃ ps : List P2, f k = ps.map P2.av) : ∀ (l : List Nat), ∃ ps : List P2, l.flatMap f = ps.map P2.av
  | [] => ⟨[], rfl⟩
  | a :: l => by
    obtain ⟨ps, h1⟩ := h a
    obtain ⟨qs, h2⟩ := flat_pts h l
    exact ⟨ps ++ qs, by rw [List.flatMap_cons, h1, h2, List.map_append]⟩
theorem allL_pts (g : Nat) : ∃ ps : List P2, allL g = ps.map P2.av := flat_pts (fun _ => flat_pts (fun _ => rowL_pts ..) _) _
theorem allL_len (g : Nat) (hg : g ≤ 64) : (allL g).length ≤ 1100000 := by
  have : ∀ j, j ≤ 64 → ((List.range j).flatMap fun k => ringL (k + 1)).length ≤ j * (129 * 130) := by
    intro j
    induction j with
    | zero => simp
    | succ j ih =>
      intro hj
      have h1 := ih (by omega)
      have h2 := ringL_len (r := j + 1)
      have h3 : (2 * (j + 1) + 1) * (2 * (j + 1) + 2) ≤ 129 * 130 := Nat.mul_le_mul (by omega) (by omega)
      rw [List.range_succ, List.flatMap_append, List.length_append, Nat.add_mul, Nat.one_mul]
      simp only [List.flatMap_cons, List.flatMap_nil, List.append_nil]
      omega
  have h1 := this g hg
  have h4 : g * (129 * 130) ≤ 64 * (129 * 130) := Nat.mul_le_mul_right _ hg
  unfold allL
  omega
end Go.Proofs.YtlghjmdkdkkkjaaGreat

open Go Go.E
namespace Go.Proofs.YtlghjmdkdkkkjaaGreat
open Go.ChangeShapes Go.WideShapes Go.ChangeAt Go.RowKit
set_option maxRecDepth 100000
theorem ownG : ownKnob Tryz.prog.godebug = none := by kernel_rfl
theorem laidOutG : laidOutB Tryz.prog = true := by kernel_rfl
theorem isT_int {m : Nat} {x : AV} (h : isT Tryz.prog m 3 x) : ∃ n, x = .int .i64 n ∧ (Lit.int .i64 n).wf = true := by
  cases m with
  | zero => exact h.elim
  | succ m =>
    unfold isT at h
    rw [Tryz.underlying3] at h
    exact h
/-- A struct's fields, one by one. -/
theorem isT_struct {P : Program} {m : Nat} {t : TypeId} {x : AV} {fs : Array Field} (hu : P.underlying t = some (.struct fs)) (h : isT P m t x) : ∃ xs m', x = .agg xs ∧ xs.length = fs.toList.length ∧ ∀ (i : Nat) (g : Field) (y : AV), fs.toList[i]? = some g → xs[i]? = some y → isT P m' g.type y := by
  cases m with
  | zero => exact h.elim
  | succ m =>
    unfold isT at h
    rw [hu] at h
    obtain ⟨xs, h1, h2, h3⟩ := h
    exact ⟨xs, m, h1, h2, h3⟩
theorem isT_slice {P : Program} {m : Nat} {t e : TypeId} {x : AV} (hu : P.underlying t = some (.slice e)) (h : isT P m t x) : ∃ xs m', x = .sl (P.cellsOf e) xs ∧ xs.length ≤ maxLen ∧ ∀ y ∈ xs, isT P m' e y := by
  cases m with
  | zero => exact h.elim
  | succ m =>
    unfold isT at h
    rw [hu] at h
    obtain ⟨xs, h1, h2, h3⟩ := h
    exact ⟨xs, m, h1, h2, h3⟩
theorem all_map {α : Type} {f : α → AV} : ∀ {xs : List AV}, (∀ y ∈ xs, ∃ v, y = f v) → ∃ vs : List α, xs = vs.map f
  | [], _ => ⟨[], rfl⟩
  | x :: xs, h => by
    obtain ⟨v, rfl⟩ := h x (by simp)
    obtain ⟨vs, rfl⟩ := all_map (f := f) (xs := xs) (fun y hy => h y (by simp [hy]))
    exact ⟨v :: vs, rfl⟩
/-- A law's row, out of what the machine says. -/
theorem law_lifted {os : Os} {f : FuncId} {fn : Func} {s : ChangeSpec} {H : Type} {enc : TypeId × Value → H} {conds : List PathCond} (started : os.Started) (hin : Tryz.checked.prog.inits.idxOf? f = none) (hfn : Tryz.prog.funcs[f]? = some fn) (hv : s.vars = [])
    (hr : ∀ t ∈ fn.params.toList, Tryz.prog.readableRec t = true ∧ t < Tryz.prog.types.size) (hres : fn.resultTypes = #[4]) (hpl : fn.params.toList.all (plainT Tryz.prog 8) = true)
    (hspec : ∀ (ds : List (DataW H)), ds.length = fn.params.toList.length → (s.fn H ds).results = [.lit (.bool true)] ∧ (s.fn H ds).args = ds ∧ (s.fn H ds).vars = [])
    (hwit : ∃ (w : World) (tape : Tape) (i : Input), w.os = os ∧ World.Shaped Tryz.checked.prog (w.forCall tape i) ∧ i.vars = [] ∧ Input.okWide Tryz.checked.prog (w.forCall tape i) .any w.heap.size f i ∧ s.pre6 enc Tryz.checked.prog fn conds false (w.forCall tape i).memory i.args ∧ ({} : Assume).holds Tryz.checked.prog (lone (Frame.enter Tryz.checked.prog f i.args .normal) [] (w.forCall tape i)))
    (hE : ∀ xs, isTs Tryz.prog 8 fn.params.toList xs → ∃ call outs, CallOK Cf call ∧ call f (xs.map .v) = some (.bool true, outs)) :
    ReturnsInHanded {} Tryz.checked os f .any (s.pre6 enc Tryz.checked.prog fn conds false) (s.post enc Tryz.checked.prog fn false true false false) := by
  refine returnsInHanded_of_change (C := Tryz.checked) ownG started hin hfn hwit ?_
  intro W base args ds gs before hval hW _ _
  have hval' : ∀ (j : Nat) t v, fn.params.toList[j]? = some t → args.toList[j]? = some v → Value.okWide Tryz.prog W .any base t v := fun j t v h1 h2 => hval j t v (by simpa using h1) (by simpa using h2)
  have hA : DataW.TrodAll enc Tryz.prog W 0 (fun _ => true) true fn.params.toList args.toList ds hW.choose := hW.choose_spec.choose_spec.1
  obtain ⟨xs, h1, h2, h3⟩ := open_all hpl hval' hA
  obtain ⟨call, outs, k1, k2⟩ := hE xs h1
  refine (k1.calls k2 (fr_open h2 h3) (knows_sat W)).mono ?_
  rintro e W' ⟨v, rfl, K', S, O', hL⟩
  have hv' : v = .bool true := by
    have := hL.val
    have h4 : rel K' W' (.bool true) [v] S := this
    rw [rel] at h4
    simpa using h4
  subst hv'
  exact ⟨_, rfl, law_post laidOutG hv hr hres Tryz.underlying4 hW hspec (below_of_keeps hL.keeps)⟩
end Go.Proofs.YtlghjmdkdkkkjaaGreat
