/- A part of a proof: an abstract machine for the given program, and what it says of it. No condition. -/
import Derived.ProofKit
import Derived.Test.YtlghjmdkdkkkjaaGreatPartC
namespace Go.E
section
variable (C : Cfg)
def stepDA (fid : Nat) (call : CallF) (d : DOp) (f : Frame) : Ans → Option (Frame × List Prop)
  | .go => match stepD C fid call d f with | some f1 => some (f1, []) | none => none
  | .bit b => match stepD C fid call d f, d.op.dst with
    | some f1, some t => match get f1 t with | .v (.bool c) => some (f1.set t (.v (.bool b)), [c = b]) | _ => none
    | _, _ => none
  | .asis s => match stepD C fid call d f, d.op.dst with
    | some f1, some t => some (f1.set t s, [get f1 t = s])
    | _, _ => none
  | .ret r outs => match capt C d.op f, stepD C fid (konst r outs) d f with
    | some (g, as_), some f1 => some (f1, [call g as_ = some (r, outs)])
    | _, _ => none
  | .also a t s => match stepDA fid call d f a with
    | some (f1, ps) => some (f1.set t s, ps ++ [get f1 t = s])
    | none => none
  | a => match guardS d.guard f, quietA C fid d.op f a with
    | some true, some (cs, x, ps) => if (cs.all fun c => !d.uo.contains c && noRefTo f c) && fresh d f then some (putO (cs.foldl (fun f c => f.set c .any) f) d.op.dst x, ps) else none
    | _, _ => none
def popA : List Ans → Option (Ans × List Ans)
  | a :: ags => some (a, ags)
  | [] => none
def wholeOf : List Ans → Option (Out × Frame × List Ans)
  | .whole out f :: ags => some (out, f, ags)
  | _ => none
def loopOf : List Ans → Option (Out × Frame × List Ans)
  | .run out f :: ags => some (out, f, ags)
  | _ => none
def runA (fid : Nat) (call : CallF) : List (Oper × Guard) → List Ans → Frame → Option (Frame × List Ans × List Prop)
  | [], ags, f => some (f, ags, [])
  | (o, g) :: os, ags, f => match guardS g f with
    | none => none
    | some false => runA fid call os ags (putO f o.dst .non)
    | some true => match popA ags with
      | none => none
      | some (a, ags) => match stepA C fid call o f a with
        | none => none
        | some (f1, ps) => match runA fid call os ags f1 with
          | none => none
          | some (f2, as', qs) => some (f2, as', ps ++ qs)
def runDA (fid : Nat) (call : CallF) : List DOp → List Ans → Frame → Option (Frame × List Ans × List Prop)
  | [], ags, f => some (f, ags, [])
  | d :: ds, ags, f => match guardS d.guard f with
    | none => none
    | some false => match stepD C fid call d f with
      | none => none
      | some f1 => runDA fid call ds ags f1
    | some true => match popA ags with
      | none => none
      | some (a, ags) => match stepDA C fid call d f a with
        | none => none
        | some (f1, ps) => match runDA fid call ds ags f1 with
          | none => none
          | some (f2, as', qs) => some (f2, as', ps ++ qs)
abbrev PathR := Out × Frame × List Ans × List Prop
def evalO (fid : Nat) (call : CallF) (n : Nat) : ECode → List Ans → Frame → Option PathR
  | .skip, ags, f => some (.normal, f, ags, [])
  | .region ops, ags, f => match runA C fid call ops ags f with | some (f1, as', ps) => some (.normal, f1, as', ps) | none => none
  | .drawn ds ops, ags, f => match runDA C fid call ops ags (clear ds f) with | some (f1, as', ps) => some (.normal, f1, as', ps) | none => none
  | .clr _ _ _ _ _ _, _, _ => none
  | .seq a b, ags, f => match evalO fid call n a ags f with
    | some (.normal, f1, as1, ps) => match evalO fid call n b as1 f1 with
      | some (o, f2, as2, qs) => some (o, f2, as2, ps ++ qs)
      | none => none
    | r => r
  | .cond c a b, ags, f => match wholeOf ags with
    | some (out, f', ags) => some (out, f', ags, [evalCode C fid call n (.cond c a b) f = some (out, f')])
    | none => match lookO C f 0 c with
      | some (.bool true) => evalO fid call n a ags f
      | some (.bool false) => evalO fid call n b ags f
      | _ => none
  | .block id b, ags, f => match wholeOf ags with
    | some (out, f', ags) => some (out, f', ags, [evalCode C fid call n (.block id b) f = some (out, f')])
    | none => match evalO fid call n b ags f with
      | some (.exit i, f1, as1, ps) => if i == id then some (.normal, f1, as1, ps) else some (.exit i, f1, as1, ps)
      | r => r
  | .loop b, ags, f => match loopOf ags with
    | some (out, f', ags) => some (out, f', ags, [evalCode C fid call n (.loop b) f = some (out, f')])
    | none => none
  | .exit id, ags, f => some (.exit id, f, ags, [])
  | .ret, ags, f => some (.ret, f, ags, [])
  | .tidy m fs, ags, f => some (.normal, thinBy m 0 (frzAll fs f), ags, [])
  | .isSl _, _, _ => none
/-- A call's run along a path. -/
def runO (n : Nat) (call : CallF) (k : Nat) (args : List Slot) (ags : List Ans) : Option (AV × List Slot × List Prop) :=
  match C.prim k with
  | some _ => none
  | none => match C.code k with
    | none => none
    | some fn => if args.length > fn.ntmps then none else
      match evalO C k call n fn.body ags (args ++ List.replicate (fn.ntmps - args.length) .any) with
      | some (.normal, f, [], ps) => match resOf C f fn.results with
        | some ([y], f2) => some (if C.ret k then y else pz y, outsOf fn.written args.length f2, ps)
        | some (ys, f2) => some (.tup (if C.ret k then ys else pzL ys), outsOf fn.written args.length f2, ps)
        | none => none
      | some (.ret, f, [], ps) => match resOf C f fn.results with
        | some ([y], f2) => some (if C.ret k then y else pz y, outsOf fn.written args.length f2, ps)
        | some (ys, f2) => some (.tup (if C.ret k then ys else pzL ys), outsOf fn.written args.length f2, ps)
        | none => none
      | _ => none
end
section
variable {C : Cfg} {fid : Nat} {call : CallF}
theorem light_other {call' : CallF} {f : Frame} {og : Oper × Guard} : light C fid call f og = light C fid call' f og := by
  unfold light
  cases h : isCallV og.1 with
  | true => simp
  | false => rw [quiet_other (call' := call') h]
theorem stepD_capt {d : DOp} {f : Frame} {g : FuncId} {as_ : List Slot} (h : capt C d.op f = some (g, as_)) {r : AV} {outs : List Slot} (hc : call g as_ = some (r, outs)) : stepD C fid call d f = stepD C fid (konst r outs) d f := by
  obtain ⟨c, ho⟩ := capt_isCall h
  obtain ⟨h1, h2⟩ := capt_call (fid := fid) ho h hc
  unfold stepD
  rw [h1]
  have hl : ∀ f2, (light C fid call f2) = light C fid (konst r outs) f2 := fun f2 => funext fun og => light_other
  cases hq : quiet C fid (konst r outs) d.op f with
  | some q => rfl
  | none => rw [h2 hq]; simp only [hl]
theorem stepDA_ok {d : DOp} {f : Frame} : ∀ {a : Ans} {f' : Frame} {ps : List Prop}, stepDA C fid call d f a = some (f', ps) → (∀ p ∈ ps, p) → stepD C fid call d f = some f' := by
  intro a
  induction a with
  | go =>
    intro f' ps h hp
    rw [stepDA] at h
    split at h
    · rename_i f1 h1
      simp only [Option.some.injEq, Prod.mk.injEq] at h
      obtain ⟨rfl, rfl⟩ := h
      exact h1
    · cases h
  | bit b =>
    intro f' ps h hp
    rw [stepDA] at h
    split at h
    · rename_i f1 d h1 hd
      split at h
      · rename_i c hg
        simp only [Option.some.injEq, Prod.mk.injEq] at h
        obtain ⟨rfl, rfl⟩ := h
        rw [h1, set_get]
        rw [hg, all_one hp]
      · cases h
    · cases h
  | asis s =>
    intro f' ps h hp
    rw [stepDA] at h
    split at h
    · rename_i f1 d h1 hd
      simp only [Option.some.injEq, Prod.mk.injEq] at h
      obtain ⟨rfl, rfl⟩ := h
      rw [h1, set_get (all_one hp)]
    · cases h
  | ret r outs =>
    intro f' ps h hp
    rw [stepDA] at h
    split at h
    · rename_i g as_ f1 h1 h2
      simp only [Option.some.injEq, Prod.mk.injEq] at h
      obtain ⟨rfl, rfl⟩ := h
      rw [stepD_capt h1 (all_one hp)]
      exact h2
    · cases h
  | also a d s ih =>
    intro f' ps h hp
    rw [stepDA] at h
    split at h
    · rename_i f1 qs h1
      simp only [Option.some.injEq, Prod.mk.injEq] at h
      obtain ⟨rfl, rfl⟩ := h
      obtain ⟨k1, k2⟩ := all_app hp
      rw [ih h1 k1, set_get (all_one k2)]
    · cases h
  | _ =>
    intro f' ps h hp
    simp only [stepDA] at h
    split at h
    · rename_i cs x qs hg h1
      split at h
      · rename_i hc
        simp only [Option.some.injEq, Prod.mk.injEq] at h
        obtain ⟨rfl, rfl⟩ := h
        unfold stepD
        rw [hg, quietA_ok h1 hp]
        simp only
        rw [if_pos hc]
      · cases h
    · cases h
theorem runA_ok : ∀ {os : List (Oper × Guard)} {ags as' : List Ans} {f f' : Frame} {ps : List Prop}, runA C fid call os ags f = some (f', as', ps) → (∀ p ∈ ps, p) → runOps C fid call os f = some f'
  | [], ags, as', f, f', ps, h, hp => by
    simp only [runA, Option.some.injEq, Prod.mk.injEq] at h
    rw [runOps, h.1]
  | (o, g) :: os, ags, as', f, f', ps, h, hp => by
    rw [runA] at h
    rw [runOps, stepOp]
    split at h
    · cases h
    · rename_i hg
      rw [hg]
      exact runA_ok h hp
    · rename_i hg
      rw [hg]
      split at h
      · cases h
      · split at h
        · cases h
        · rename_i f1 qs h1
          split at h
          · cases h
          · rename_i f2 as2 rs h2
            simp only [Option.some.injEq, Prod.mk.injEq] at h
            obtain ⟨rfl, rfl, rfl⟩ := h
            obtain ⟨k1, k2⟩ := all_app hp
            simp only [stepA_ok h1 k1]
            exact runA_ok h2 k2
theorem runDA_ok : ∀ {os : List DOp} {ags as' : List Ans} {f f' : Frame} {ps : List Prop}, runDA C fid call os ags f = some (f', as', ps) → (∀ p ∈ ps, p) → runD C fid call os f = some f'
  | [], ags, as', f, f', ps, h, hp => by
    simp only [runDA, Option.some.injEq, Prod.mk.injEq] at h
    rw [runD, h.1]
  | d :: os, ags, as', f, f', ps, h, hp => by
    rw [runDA] at h
    rw [runD]
    split at h
    · cases h
    · split at h
      · cases h
      · rename_i f1 h1
        rw [h1]
        exact runDA_ok h hp
    · split at h
      · cases h
      · split at h
        · cases h
        · rename_i f1 qs h1
          split at h
          · cases h
          · rename_i f2 as2 rs h2
            simp only [Option.some.injEq, Prod.mk.injEq] at h
            obtain ⟨rfl, rfl, rfl⟩ := h
            obtain ⟨k1, k2⟩ := all_app hp
            simp only [stepDA_ok h1 k1]
            exact runDA_ok h2 k2
theorem evalO_ok {n : Nat} : ∀ {e : ECode} {ags as' : List Ans} {f f' : Frame} {out : Out} {ps : List Prop}, evalO C fid call n e ags f = some (out, f', as', ps) → (∀ p ∈ ps, p) → evalCode C fid call n e f = some (out, f') := by
  intro e
  induction e with
  | skip =>
    intro ags as' f f' out ps h hp
    simp only [evalO, Option.some.injEq, Prod.mk.injEq] at h
    obtain ⟨rfl, rfl, _⟩ := h
    rfl
  | region ops =>
    intro ags as' f f' out ps h hp
    rw [evalO] at h
    split at h
    · rename_i f1 as1 qs h1
      simp only [Option.some.injEq, Prod.mk.injEq] at h
      obtain ⟨rfl, rfl, rfl, rfl⟩ := h
      rw [evalCode, runA_ok h1 hp]
    · cases h
  | drawn ds ops =>
    intro ags as' f f' out ps h hp
    rw [evalO] at h
    split at h
    · rename_i f1 as1 qs h1
      simp only [Option.some.injEq, Prod.mk.injEq] at h
      obtain ⟨rfl, rfl, rfl, rfl⟩ := h
      rw [evalCode, runDA_ok h1 hp]
    · cases h
  | clr => intro ags as' f f' out ps h hp; simp [evalO] at h
  | seq a b iha ihb =>
    intro ags as' f f' out ps h hp
    rw [evalO] at h
    rw [evalCode]
    split at h
    · rename_i f1 as1 qs h1
      split at h
      · rename_i o2 f2 as2 rs h2
        simp only [Option.some.injEq, Prod.mk.injEq] at h
        obtain ⟨rfl, rfl, rfl, rfl⟩ := h
        obtain ⟨k1, k2⟩ := all_app hp
        rw [iha h1 k1]
        exact ihb h2 k2
      · cases h
    · rename_i hn
      rw [iha h hp]
      cases out with
      | normal => exact absurd h (hn _ _ _)
      | exit i => rfl
      | ret => rfl
  | cond c a b iha ihb =>
    intro ags as' f f' out ps h hp
    rw [evalO] at h
    split at h
    · simp only [Option.some.injEq, Prod.mk.injEq] at h
      obtain ⟨rfl, rfl, rfl, rfl⟩ := h
      exact all_one hp
    · rw [evalCode]
      split at h
      · rename_i hl; rw [hl]; exact iha h hp
      · rename_i hl; rw [hl]; exact ihb h hp
      · cases h
  | block id b ih =>
    intro ags as' f f' out ps h hp
    rw [evalO] at h
    split at h
    · simp only [Option.some.injEq, Prod.mk.injEq] at h
      obtain ⟨rfl, rfl, rfl, rfl⟩ := h
      exact all_one hp
    · rw [evalCode]
      split at h
      · rename_i i f1 as1 qs h1
        split at h
        · rename_i hi
          simp only [Option.some.injEq, Prod.mk.injEq] at h
          obtain ⟨rfl, rfl, rfl, rfl⟩ := h
          rw [ih h1 hp]
          simp only [hi, if_true]
        · rename_i hi
          simp only [Option.some.injEq, Prod.mk.injEq] at h
          obtain ⟨rfl, rfl, rfl, rfl⟩ := h
          rw [ih h1 hp]
          simp only
          rw [if_neg hi]
      · rename_i hn
        rw [ih h hp]
        cases out with
        | normal => rfl
        | exit i => exact absurd h (hn _ _ _ _)
        | ret => rfl
  | loop b ih =>
    intro ags as' f f' out ps h hp
    rw [evalO] at h
    split at h
    · simp only [Option.some.injEq, Prod.mk.injEq] at h
      obtain ⟨rfl, rfl, rfl, rfl⟩ := h
      exact all_one hp
    · cases h
  | exit id =>
    intro ags as' f f' out ps h hp
    simp only [evalO, Option.some.injEq, Prod.mk.injEq] at h
    obtain ⟨rfl, rfl, _⟩ := h
    rfl
  | ret =>
    intro ags as' f f' out ps h hp
    simp only [evalO, Option.some.injEq, Prod.mk.injEq] at h
    obtain ⟨rfl, rfl, _⟩ := h
    rfl
  | isSl t => intro ags as' f f' out ps h hp; simp [evalO] at h
  | tidy m fs =>
    intro ags as' f f' out ps h hp
    simp only [evalO, Option.some.injEq, Prod.mk.injEq] at h
    obtain ⟨rfl, rfl, _⟩ := h
    rfl
/-- A path's claims hold: so the call comes to this. -/
theorem runO_ok {n k : Nat} {args : List Slot} {ans : List Ans} {r : AV} {outs : List Slot} {ps : List Prop} (h : runO C n call k args ans = some (r, outs, ps)) (hp : conj ps) : stepF C n call k args = some (r, outs) := by
  have hp := conj_all hp
  unfold runO at h
  unfold stepF
  split at h
  · cases h
  · rename_i hpr
    rw [hpr]
    split at h
    · cases h
    · rename_i fn hc
      rw [hc]
      simp only
      split at h
      · cases h
      · rename_i hl
        rw [if_neg hl]
        split at h
        · rename_i f ps' he
          split at h
          · rename_i y f2 hr
            simp only [Option.some.injEq, Prod.mk.injEq] at h
            obtain ⟨rfl, rfl, rfl⟩ := h
            rw [evalO_ok he hp]
            simp only [hr]
          · rename_i ys f2 hn hr
            simp only [Option.some.injEq, Prod.mk.injEq] at h
            obtain ⟨rfl, rfl, rfl⟩ := h
            rw [evalO_ok he hp]
            simp only [hr]
          · cases h
        · rename_i f ps' he
          split at h
          · rename_i y f2 hr
            simp only [Option.some.injEq, Prod.mk.injEq] at h
            obtain ⟨rfl, rfl, rfl⟩ := h
            rw [evalO_ok he hp]
            simp only [hr]
          · rename_i ys f2 hn hr
            simp only [Option.some.injEq, Prod.mk.injEq] at h
            obtain ⟨rfl, rfl, rfl⟩ := h
            rw [evalO_ok he hp]
            simp only [hr]
          · cases h
        · cases h
theorem evalO_to {n : Nat} {e : ECode} {ans : List Ans} {f f' : Frame} {out : Out} {ps : List Prop} (h : evalO C fid call n e ans f = some (out, f', [], ps)) (hp : conj ps) : evalCode C fid call n e f = some (out, f') := evalO_ok h (conj_all hp)
/-- A loop whose rounds are known. -/
theorem iter_rounds {g : Frame → Option (Out × Frame)} (F : Nat → Frame) {m : Nat} {out : Out} {f' : Frame} (ho : out ≠ .normal) (hend : g (F m) = some (out, f')) : ∀ (d i n : Nat), i + d = m → d < n → (∀ j, i ≤ j → j < m → g (F j) = some (.normal, F (j + 1))) → iter g n (F i) = some (out, f')
  | 0, i, n, hi, hn, _ => by
    obtain ⟨n, rfl⟩ : ∃ n', n = n' + 1 := ⟨n - 1, by omega⟩
    have : i = m := by omega
    subst this
    rw [iter, hend]
    cases out <;> first | rfl | exact absurd rfl ho
  | d + 1, i, n, hi, hn, hr => by
    obtain ⟨n, rfl⟩ : ∃ n', n = n' + 1 := ⟨n - 1, by omega⟩
    rw [iter, hr i (by omega) (by omega)]
    exact iter_rounds F ho hend d (i + 1) n (by omega) (by omega) (fun j h1 h2 => hr j (by omega) h2)
theorem loop_rounds {n : Nat} {b : ECode} (F : Nat → Frame) {m : Nat} {out : Out} {f' : Frame} (ho : out ≠ .normal) (hn : m < n) (hr : ∀ j, j < m → evalCode C fid call n b (F j) = some (.normal, F (j + 1))) (hend : evalCode C fid call n b (F m) = some (out, f')) :
    evalCode C fid call n (.loop b) (F 0) = some (out, f') := by
  rw [evalCode]
  exact iter_rounds F ho hend m 0 n (by omega) hn (fun j _ h => hr j h)
end
end Go.E

namespace Go.E
open Go.ChangeShapes Go.WideShapes Go.ChangeAt Go.RowKit

/-- All that lies there is known. -/
def knows (w : World) : Kn := ⟨fun b o => w.cell? ⟨b, o, none⟩, fun _ => none⟩
theorem knows_sat (w : World) : Sat (knows w) w := ⟨fun _ _ _ h => h, fun _ _ h => by cases h⟩

/-- The fields lie one behind the other. -/
def layB (P : Program) : Nat → List Field → Nat → Bool
  | n, [], m => n == m
  | n, g :: gs, m => g.offset == n && layB P (n + P.cellsOf g.type) gs m
/-- A type of plain data. -/
def plainT (P : Program) : Nat → TypeId → Bool
  | 0, _ => false
  | m + 1, t => match P.underlying t with
    | some (.int _) => P.cellsOf t == 1
    | some .bool => P.cellsOf t == 1
    | some .string => P.cellsOf t == 1
    | some (.slice e) => plainT P m e && P.cellsOf e != 0 && P.cellsOf t == 1
    | some (.struct fs) => fs.toList.all (fun g => plainT P m g.type) && layB P 0 fs.toList (P.cellsOf t)
    | _ => false
/-- A tree of a plain type. -/
def isT (P : Program) : Nat → TypeId → AV → Prop
  | 0, _, _ => False
  | m + 1, t, x => match P.underlying t with
    | some (.int k) => ∃ n, x = .int k n ∧ (Lit.int k n).wf = true
    | some .bool => ∃ b, x = .bool b
    | some .string => ∃ s, x = .str s ∧ s.size ≤ maxLen
    | some (.slice e) => ∃ xs, x = .sl (P.cellsOf e) xs ∧ xs.length ≤ maxLen ∧ ∀ y ∈ xs, isT P m e y
    | some (.struct fs) => ∃ xs, x = .agg xs ∧ xs.length = fs.toList.length ∧ ∀ (i : Nat) (g : Field) (y : AV), fs.toList[i]? = some g → xs[i]? = some y → isT P m g.type y
    | _ => False

section
variable {P : Program} {w : World}
theorem relL_build {b st : Nat} {T : AV → Prop} : ∀ (n o : Nat), (∀ i, i < n → ∃ a cs, cs.length = st ∧ leaves a = st ∧ (∀ j, j < st → w.cell? ⟨b, o + i * st + j, none⟩ = cs[j]?) ∧ T a ∧ rel (knows w) w a cs Own.no) →
    ∃ xs ys, xs.length = n ∧ ys.length = n * st ∧ (∀ x ∈ xs, T x ∧ leaves x = st) ∧ (∀ (j : Nat) (v : Value), ys[j]? = some v → (knows w).cell b (o + j) = some v) ∧ relL (knows w) w xs ys Own.no
  | 0, o, _ => ⟨[], [], rfl, by simp, by simp, by simp, by rw [relL]⟩
  | n + 1, o, h => by
    obtain ⟨a, cs, h1, h2, h3, h4, h5⟩ := h 0 (by omega)
    obtain ⟨xs, ys, k1, k2, k3, k4, k5⟩ := relL_build n (o + st) (T := T) (b := b) (st := st) (fun i hi => by
      obtain ⟨a, cs, h1, h2, h3, h4, h5⟩ := h (i + 1) (by omega)
      refine ⟨a, cs, h1, h2, fun j hj => ?_, h4, h5⟩
      have := h3 j hj
      rw [Nat.add_mul, Nat.one_mul] at this
      rw [show o + st + i * st + j = o + (i * st + st) + j by omega]
      exact this)
    refine ⟨a :: xs, cs ++ ys, by simp [k1], by rw [List.length_append, h1, k2, Nat.add_mul, Nat.one_mul]; omega, ?_, fun j v hj => ?_, ?_⟩
    · intro x hx
      rcases List.mem_cons.1 hx with rfl | hx
      · exact ⟨h4, h2⟩
      · exact k3 x hx
    · rcases Nat.lt_or_ge j cs.length with hl | hl
      · rw [List.getElem?_append_left hl] at hj
        have := h3 j (by omega)
        rw [Nat.zero_mul, Nat.add_zero, hj] at this
        exact this
      · rw [List.getElem?_append_right hl] at hj
        have := k4 _ _ hj
        rw [show o + st + (j - cs.length) = o + j by omega] at this
        exact this
    · rw [relL]
      exact ⟨cs, ys, Own.no, Own.no, rfl, Own.le_refl _, Own.le_refl _, Own.no_disj _, h5, k5⟩
/-- A struct's fields. -/
theorem relL_fields {T : TypeId → AV → Prop} : ∀ (fs : List Field) (cs : List Value) (n m : Nat), layB P n fs m = true → cs.length = m → n ≤ m →
    (∀ (i : Nat) (g : Field), fs[i]? = some g → ∃ a, T g.type a ∧ leaves a = P.cellsOf g.type ∧ rel (knows w) w a ((cs.drop g.offset).take (P.cellsOf g.type)) Own.no) →
    ∃ xs, xs.length = fs.length ∧ leavesL xs = m - n ∧ (∀ (i : Nat) (g : Field) (y : AV), fs[i]? = some g → xs[i]? = some y → T g.type y) ∧ relL (knows w) w xs (cs.drop n) Own.no
  | [], cs, n, m, hl, hc, hn, _ => by
    have : n = m := by simpa [layB] using hl
    refine ⟨[], rfl, by rw [leavesL]; omega, by simp, ?_⟩
    rw [relL]
    exact List.drop_eq_nil_of_le (by omega)
  | g :: fs, cs, n, m, hl, hc, hn, h => by
    simp only [layB, Bool.and_eq_true, beq_iff_eq] at hl
    obtain ⟨hoff, hl⟩ := hl
    obtain ⟨a, h1, h2, h3⟩ := h 0 g rfl
    rw [hoff] at h3
    have hlen := rel_len h3
    rw [h2, List.length_take, List.length_drop, hc] at hlen
    have hle : n + P.cellsOf g.type ≤ m := by omega
    obtain ⟨xs, k1, k2, k3, k4⟩ := relL_fields (T := T) fs cs (n + P.cellsOf g.type) m hl hc hle (fun i g' hg => h (i + 1) g' (by simpa using hg))
    refine ⟨a :: xs, by simp [k1], by rw [leavesL, h2, k2]; omega, ?_, ?_⟩
    · intro i g' y hg hy
      cases i with
      | zero =>
        simp only [List.getElem?_cons_zero, Option.some.injEq] at hg hy
        subst hg hy
        exact h1
      | succ i => exact k3 i g' y (by simpa using hg) (by simpa using hy)
    · rw [relL]
      refine ⟨(cs.drop n).take (P.cellsOf g.type), cs.drop (n + P.cellsOf g.type), Own.no, Own.no, ?_, Own.le_refl _, Own.le_refl _, Own.no_disj _, h3, k4⟩
      rw [← List.drop_drop, List.take_append_drop]

theorem trod_rel {H : Type} {enc : TypeId × Value → H} {sp : Nat → Bool} {held : Bool} : ∀ (m : Nat) {n : Nat} {t : TypeId} {cs : List Value} {x : DataW H × List MemPlace}, plainT P m t = true → DataW.trod enc P w 0 sp held n t cs = some x →
    ∃ a, isT P m t a ∧ leaves a = P.cellsOf t ∧ rel (knows w) w a cs Own.no
  | 0, _, _, _, _, hp, _ => by simp [plainT] at hp
  | m + 1, n, t, cs, x, hp, h => by
    rw [plainT] at hp
    unfold isT
    split at hp
    · rename_i k hu
      simp only [beq_iff_eq] at hp
      obtain ⟨z, rfl, _, hw⟩ := DataW.trod_int hu h
      exact ⟨.int k z, ⟨z, rfl, hw⟩, by rw [hp, leaves]; nofun, by rw [rel]⟩
    · rename_i hu
      simp only [beq_iff_eq] at hp
      obtain ⟨b, rfl, _⟩ := DataW.trod_bool hu h
      exact ⟨.bool b, ⟨b, rfl⟩, by rw [hp, leaves]; nofun, by rw [rel]⟩
    · rename_i hu
      simp only [beq_iff_eq] at hp
      obtain ⟨s, rfl, _, hs⟩ := DataW.trod_string hu h
      exact ⟨.str s, ⟨s, rfl, hs⟩, by rw [hp, leaves]; nofun, by rw [rel]⟩
    · rename_i e hu
      simp only [Bool.and_eq_true, beq_iff_eq, bne_iff_ne] at hp
      have he : ∀ st xs, leaves (AV.sl st xs) = P.cellsOf t := fun st xs => by rw [hp.2, leaves]; nofun
      rcases DataW.trod_slice hu h with ⟨rfl, _⟩ | ⟨a, len, cap, elems, rest, n', rfl, rfl, _, _, hlc, hcm, hel, hget, _⟩
      · refine ⟨.sl (P.cellsOf e) [], ⟨[], rfl, by simp, by simp⟩, he _ _, ?_⟩
        rw [rel]
        exact ⟨none, 0, rfl, Nat.le_refl _, by simp, .inl rfl⟩
      · rcases Nat.eq_zero_or_pos len with hz | hz
        · subst hz
          refine ⟨.sl (P.cellsOf e) [], ⟨[], rfl, by simp, by simp⟩, he _ _, ?_⟩
          rw [rel]
          exact ⟨some a, cap, rfl, Nat.zero_le _, by simp, .inl rfl⟩
        · have each : ∀ i, i < len → ∃ y cs', cs'.length = P.cellsOf e ∧ leaves y = P.cellsOf e ∧ (∀ j, j < P.cellsOf e → w.cell? ((a.add (i * P.cellsOf e)).add j) = cs'[j]?) ∧ isT P m e y ∧ rel (knows w) w y cs' Own.no := by
            intro i hi
            have h1 := hget i hi
            obtain ⟨z, hz⟩ : ∃ z, elems[i]? = some z := ⟨elems[i], List.getElem?_eq_getElem (by omega)⟩
            rw [hz, Option.bind_eq_some_iff] at h1
            obtain ⟨cs', hcs, htr⟩ := h1
            obtain ⟨_, hlen, hcell⟩ := World.cells?_some hcs
            obtain ⟨y, k1, k2, k3⟩ := trod_rel m hp.1.1 htr
            exact ⟨y, cs', hlen, k2, hcell, k1, k3⟩
          have hsp : a.spot = none := by
            obtain ⟨y, cs', k1, _, k3, _⟩ := each 0 hz
            have := k3 0 (by omega)
            rw [Nat.zero_mul] at this
            simp only [Addr.add, if_true] at this
            obtain ⟨v, hv⟩ : ∃ v, cs'[0]? = some v := ⟨cs'[0], List.getElem?_eq_getElem (by omega)⟩
            rw [hv] at this
            unfold World.cell? at this
            split at this
            · cases hs : a.spot with
              | none => rfl
              | some q => rw [hs] at this; simp at this
            · cases this
          obtain ⟨ab, ao, ags⟩ := a
          simp only at hsp
          subst hsp
          have hadd : ∀ i j, ((⟨ab, ao, none⟩ : Addr).add i).add j = ⟨ab, ao + i + j, none⟩ := fun i j => by
            unfold Addr.add
            split
            · split <;> simp_all
            · split <;> simp_all
          obtain ⟨xs, ys, k1, k2, k3, k4, k5⟩ := relL_build (b := ab) (st := P.cellsOf e) (T := isT P m e) len ao (fun i hi => by
            obtain ⟨y, cs', q1, q2, q3, q4, q5⟩ := each i hi
            exact ⟨y, cs', q1, q2, fun j hj => by rw [← hadd]; exact q3 j hj, q4, q5⟩)
          refine ⟨.sl (P.cellsOf e) xs, ⟨xs, rfl, by omega, fun y hy => (k3 y hy).1⟩, he _ _, ?_⟩
          rw [rel]
          refine ⟨some ⟨ab, ao, none⟩, cap, by rw [k1], by omega, fun y hy => (k3 y hy).2, .inr ⟨ab, ao, ys, rfl, k4, k5⟩⟩
    · rename_i fs hu
      simp only [Bool.and_eq_true] at hp
      obtain ⟨xs, n', rfl, _, hlen, hxl, hget⟩ := DataW.trod_struct hu h
      obtain ⟨ys, k1, k2, k3, k4⟩ := relL_fields (w := w) (P := P) (T := isT P m) fs.toList cs 0 (P.cellsOf t) hp.2 hlen (Nat.zero_le _) (fun i g hg => by
        have hg' : fs[i]? = some g := by simpa using hg
        have hi : i < xs.length := by rw [hxl]; exact (Array.getElem?_eq_some_iff.1 hg').1
        have h1 := hget i g hg'
        rw [List.getElem?_eq_getElem hi] at h1
        have hpl : plainT P m g.type = true := List.all_eq_true.1 hp.1 g (List.mem_of_getElem? hg)
        obtain ⟨a, q1, q2, q3⟩ := trod_rel m hpl h1
        exact ⟨a, q1, q2, q3⟩)
      refine ⟨.agg ys, ⟨ys, rfl, k1, k3⟩, by rw [leaves]; omega, ?_⟩
      rw [rel]
      simpa using k4
    · cases hp

/-- Values of plain types, beside each other. -/
def isTs (P : Program) (m : Nat) : List TypeId → List AV → Prop
  | [], xs => xs = []
  | t :: ts, xs => ∃ x xs', xs = x :: xs' ∧ isT P m t x ∧ isTs P m ts xs'
theorem isT_noTup {m : Nat} {t : TypeId} {x : AV} (h : isT P m t x) : isTup x = false := by
  cases m with
  | zero => exact h.elim
  | succ m =>
    unfold isT at h
    split at h
    · obtain ⟨_, rfl, _⟩ := h; rfl
    · obtain ⟨_, rfl⟩ := h; rfl
    · obtain ⟨_, rfl, _⟩ := h; rfl
    · obtain ⟨_, rfl, _⟩ := h; rfl
    · obtain ⟨_, rfl, _⟩ := h; rfl
    · exact h.elim
theorem isT_agg {m : Nat} {t : TypeId} {x : AV} (h : isT P m t x) : (∃ fs, P.underlying t = some (.struct fs) ∧ ∃ xs, x = .agg xs) ∨ ((∀ xs, x ≠ .agg xs) ∧ (∀ fs, P.underlying t ≠ some (.struct fs)) ∧ ∀ n e, P.underlying t ≠ some (.array n e)) := by
  cases m with
  | zero => exact h.elim
  | succ m =>
    unfold isT at h
    split at h <;> rename_i hu
    · obtain ⟨_, rfl, _⟩ := h; exact .inr ⟨by simp, by simp [hu], by simp [hu]⟩
    · obtain ⟨_, rfl⟩ := h; exact .inr ⟨by simp, by simp [hu], by simp [hu]⟩
    · obtain ⟨_, rfl, _⟩ := h; exact .inr ⟨by simp, by simp [hu], by simp [hu]⟩
    · obtain ⟨_, rfl, _⟩ := h; exact .inr ⟨by simp, by simp [hu], by simp [hu]⟩
    · obtain ⟨xs, rfl, _⟩ := h; exact .inl ⟨_, hu, xs, rfl⟩
    · exact h.elim
theorem relV_open {H : Type} {enc : TypeId × Value → H} {m : Nat} {t : TypeId} {v : Value} {d : DataW H} {ps : List MemPlace} {b0 : Nat} (hp : plainT P m t = true) (hv : Value.okWide P w .any b0 t v) (h : DataW.Trod enc P w 0 (fun _ => true) true t v d ps) :
    ∃ x, isT P m t x ∧ relV (knows w) w x v Own.no := by
  obtain ⟨n, h⟩ := h
  obtain ⟨x, h1, h2, h3⟩ := trod_rel m hp h
  refine ⟨x, h1, ?_⟩
  rcases isT_agg h1 with ⟨fs, hu, xs, rfl⟩ | ⟨hx, hu1, hu2⟩
  · unfold Value.okWide at hv
    rw [hu] at hv
    obtain ⟨cs, rfl, _⟩ := hv
    rw [rel] at h3
    exact ⟨_, by simp [Value.cells], h3⟩
  · have hlen : leaves x = 1 := by cases x <;> first | (exact absurd rfl (hx _)) | simp [leaves]
    have hcs := rel_len h3
    have htup := isT_noTup h1
    have hvc : v.cells.toList = [v] := by
      cases v with
      | agg cs =>
        unfold Value.okWide at hv
        split at hv
        · rename_i fs hu; exact absurd hu (hu1 fs)
        · rename_i n e hu; exact absurd hu (hu2 n e)
        · simp [Cell.okWide, Cell.ok] at hv
      | tuple cs => simp [Value.cells]
      | _ => simp [Value.cells]
    rw [hvc] at h3
    unfold relV
    cases x <;> first | exact h3 | (exact absurd rfl (hx _)) | (exact absurd htup (by simp [isTup]))
theorem open_all {H : Type} {enc : TypeId × Value → H} {m : Nat} {b0 : Nat} : ∀ {ts : List TypeId} {vs : List Value} {ds : List (DataW H)} {ps : List MemPlace}, ts.all (plainT P m) = true → (∀ (j : Nat) t v, ts[j]? = some t → vs[j]? = some v → Value.okWide P w .any b0 t v) →
    DataW.TrodAll enc P w 0 (fun _ => true) true ts vs ds ps → ∃ xs, isTs P m ts xs ∧ xs.length = vs.length ∧ ∀ (j : Nat) x v, xs[j]? = some x → vs[j]? = some v → relV (knows w) w x v Own.no
  | [], vs, ds, ps, _, _, h => by
    obtain ⟨rfl, _⟩ := trodAll_nil h
    exact ⟨[], rfl, rfl, by simp⟩
  | t :: ts, vs, ds, ps, hp, hv, h => by
    obtain ⟨v, vs', d, ds', p, q, rfl, rfl, rfl, h1, h2⟩ := trodAll_cons h
    simp only [List.all_cons, Bool.and_eq_true] at hp
    obtain ⟨x, k1, k2⟩ := relV_open hp.1 (hv 0 t v rfl rfl) h1
    obtain ⟨xs, m1, m2, m3⟩ := open_all hp.2 (fun j t v ht hv' => hv (j + 1) t v (by simpa using ht) (by simpa using hv')) h2
    refine ⟨x :: xs, ⟨x, xs, rfl, k1, m1⟩, by simp [m2], fun j y u hy hu => ?_⟩
    cases j with
    | zero =>
      simp only [List.getElem?_cons_zero, Option.some.injEq] at hy hu
      subst hy hu
      exact k2
    | succ j => exact m3 j y u (by simpa using hy) (by simpa using hu)
theorem fr_open {xs : List AV} {args : Array Value} (hl : xs.length = args.toList.length) (h : ∀ (j : Nat) x v, xs[j]? = some x → args.toList[j]? = some v → relV (knows w) w x v Own.no) : FR (knows w) w (xs.map .v) args (fun _ => Own.no) := by
  refine ⟨by simpa using hl, fun t => ?_, fun _ _ _ => Own.no_disj _, fun _ => Free.no _, fun _ _ _ h => h.elim⟩
  unfold SlotR
  simp only [get, List.getD_eq_getElem?_getD, List.getElem?_map]
  cases hx : xs[t]? with
  | none => trivial
  | some x =>
    have ht : t < args.size := by
      have := (List.getElem?_eq_some_iff.1 hx).1
      rw [hl] at this
      simpa using this
    simp only [Option.map_some, Option.getD_some]
    have := h t x args[t] hx (by simp [ht])
    simpa [vals, Array.getD, ht] using this
theorem below_of_keeps {w w' : World} (h : Keeps (tot fun _ => Own.no) w w') : Below w.heap.size w w' :=
  ⟨h.rest.2.1, h.rest.1, h.rest.2.2, h.size, fun k hk => h.blk k hk fun o ⟨_, hn⟩ => hn⟩
theorem trodAll_below {H : Type} {enc : TypeId × Value → H} {W W' : World} (hl : laidOutB P = true) (hb : Below W.heap.size W W') : ∀ {ts : List TypeId} {vs : List Value} {ds : List (DataW H)} {ps : List MemPlace}, (∀ t ∈ ts, P.readableRec t = true ∧ t < P.types.size) →
    DataW.TrodAll enc P W 0 (fun _ => true) true ts vs ds ps → (∀ x ∈ ps, x.block < W.heap.size) → DataW.TrodAll enc P W' 0 (fun b => decide (b < W.heap.size)) true ts vs ds ps
  | [], _, _, _, _, h, _ => by
    obtain ⟨rfl, rfl, rfl⟩ := trodAll_nil h
    rfl
  | t :: ts, _, _, _, hr, h, hlt => by
    obtain ⟨v, vs', d, ds', p, q, rfl, rfl, rfl, h1, h2⟩ := trodAll_cons h
    refine ⟨p, q, h1.elim fun n hn => Below.trod hl (hr t (by simp)).1 (hr t (by simp)).2 ⟨n, hn⟩ hb (fun x hx => hlt x (by simp [hx])), trodAll_below hl hb (fun t' ht => hr t' (by simp [ht])) h2 (fun x hx => hlt x (by simp [hx])), rfl⟩
theorem trodAll_len {H : Type} {enc : TypeId × Value → H} {base : Nat} {sp : Nat → Bool} {held : Bool} : ∀ {ts : List TypeId} {vs : List Value} {ds : List (DataW H)} {ps : List MemPlace}, DataW.TrodAll enc P w base sp held ts vs ds ps → ds.length = ts.length
  | [], _, _, _, h => by
    obtain ⟨rfl, rfl, rfl⟩ := trodAll_nil h
    rfl
  | t :: ts, _, _, _, h => by
    obtain ⟨v, vs', d, ds', p, q, rfl, rfl, rfl, h1, h2⟩ := trodAll_cons h
    simp [trodAll_len h2]
/-- What a law's call leaves, where it answers true and keeps what was. -/
theorem law_post {H : Type} {enc : TypeId × Value → H} {f : Func} {s : ChangeSpec} {W W' : World} {args : Array Value} {ds gs : List (DataW H)} {before : List MemPlace} {tb : TypeId} (hl : laidOutB P = true) (hv : s.vars = [])
    (hr : ∀ t ∈ f.params.toList, P.readableRec t = true ∧ t < P.types.size) (hres : f.resultTypes = #[tb]) (htb : P.underlying tb = some .bool) (hW : DataW.Whole enc P f.params.toList s.vars false W args.toList ds gs before)
    (hfn : ∀ (ds : List (DataW H)), ds.length = f.params.toList.length → (s.fn H ds).results = [.lit (.bool true)] ∧ (s.fn H ds).args = ds ∧ (s.fn H ds).vars = []) (hb : Below W.heap.size W W') : s.post enc P f false true false false W args (.bool true) W' := by
  have hW' := hW
  obtain ⟨p, q, hA, hV, rfl, hfz, hnd⟩ := hW
  rw [hv] at hV
  obtain ⟨rfl, rfl⟩ := trodVars_none hV
  have hlen := trodAll_len hA
  obtain ⟨e1, e2, e3⟩ := hfn ds hlen
  refine ⟨ds, [], p ++ [], [], p, [], hW', ?_, ?_, ?_, Below.frame hb _, fun h => by cases h⟩
  · rw [List.append_nil, e1, hres]
    exact trodAll_mk1 ⟨1, by simp [DataW.trod, htb, Value.cells]⟩
  · rw [List.append_nil, e2]
    exact trodAll_below hl hb hr hA (fun x hx => by simpa using hW'.lt x (by simp [hx]))
  · rw [List.append_nil, e3, hv]
    rfl
end
end Go.E


