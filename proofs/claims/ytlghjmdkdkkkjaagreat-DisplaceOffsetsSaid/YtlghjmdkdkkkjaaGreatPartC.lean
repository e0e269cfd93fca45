/- A part of a proof: an abstract machine for the given program, and what it says of it. No condition. -/
import Derived.Orders
import Derived.Scope
import Derived.Lib.SliceRun
import Derived.Test.YtlghjmdkdkkkjaaGreatProg
import Derived.KernelRfl
import Derived.Shelf.SlIterI.Collect
import Derived.WalkKit
import Derived.Test.YtlghjmdkdkkkjaaGreatPartB
namespace Go.E
open Go.RowKit

/-- Alike but for slot d, to which none refers. -/
structure Off (d : Nat) (f1 f : Frame) : Prop where
  len : f1.length = f.length
  eq : ∀ u, u ≠ d → get f1 u = get f u
  nor : ∀ u, refersTo d (get f1 u) = false
/-- Slots stay, or refer to nothing; slot d stays, or is emptied. -/
structure Calm (d : Nat) (f f2 : Frame) : Prop where
  len : f2.length = f.length
  slot : ∀ u, get f2 u = get f u ∨ ∀ s, refersTo s (get f2 u) = false
  tame : get f2 d = get f d ∨ get f2 d = .any

theorem Calm.refl (d : Nat) (f : Frame) : Calm d f f := ⟨rfl, fun _ => .inl rfl, .inl rfl⟩
theorem Calm.trans {d : Nat} {f g h : Frame} (a : Calm d f g) (b : Calm d g h) : Calm d f h := ⟨b.len.trans a.len, fun u => by
  rcases b.slot u with e | e
  · rw [e]; exact a.slot u
  · exact .inr e, by
  rcases b.tame with e | e
  · rw [e]; exact a.tame
  · exact .inr e⟩
theorem Calm.set {d : Nat} {f : Frame} {s : Nat} {z : Slot} (hs : s ≠ d) (hz : ∀ s', refersTo s' z = false) : Calm d f (f.set s z) := ⟨by simp, fun u => by
  by_cases hu : u = s
  · subst hu
    right
    by_cases hlt : u < f.length
    · rw [get_set_self hlt]; exact hz
    · rw [get_big (by simpa using hlt)]; intro s; rfl
  · left; rw [get_set_ne hu], .inl (by rw [get_set_ne (Ne.symm hs)])⟩
theorem Calm.map {d : Nat} {f : Frame} {g : Slot → Slot} (hg : ∀ x, g x = x ∨ g x = .any) : Calm d f (f.map g) := by
  have h0 : g .any = .any := by rcases hg .any with e | e <;> exact e
  refine ⟨by simp, fun u => ?_, ?_⟩
  · rw [get_map h0]
    rcases hg (get f u) with e | e
    · exact .inl e
    · rw [e]; exact .inr fun _ => rfl
  · rw [get_map h0]; exact hg _
theorem killed_two (s : Nat) (p : List Nat) (x : Slot) : killed s p x = x ∨ killed s p x = .any := by rcases killed_ok s p x with e | ⟨e, _⟩ <;> simp [e]
theorem killedAll_two (s : Nat) (x : Slot) : killedAll s x = x ∨ killedAll s x = .any := by rcases killedAll_ok s x with e | ⟨e, _⟩ <;> simp [e]

section
variable {C : Cfg} {f f1 : Frame} {d : Nat}

theorem Off.len' (h : Off d f1 f) : True := trivial
theorem Off.set (h : Off d f1 f) {s : Nat} (hs : s ≠ d) (z : Slot) (hz : refersTo d z = false) : Off d (f1.set s z) (f.set s z) := by
  refine ⟨by simp [h.len], fun u hu => ?_, fun u => ?_⟩
  · by_cases hus : u = s
    · subst hus
      by_cases hlt : u < f1.length
      · rw [get_set_self hlt, get_set_self (by rw [← h.len]; exact hlt)]
      · rw [get_big (by simpa using hlt), get_big (by rw [List.length_set, ← h.len]; omega)]
    · rw [get_set_ne hus, get_set_ne hus, h.eq u hu]
  · by_cases hus : u = s
    · subst hus
      by_cases hlt : u < f1.length
      · rw [get_set_self hlt]; exact hz
      · rw [get_big (by simpa using hlt)]; rfl
    · rw [get_set_ne hus]; exact h.nor u
theorem Off.map (h : Off d f1 f) {g : Slot → Slot} (hg : ∀ x, g x = x ∨ g x = .any) : Off d (f1.map g) (f.map g) := by
  have h0 : g .any = .any := by rcases hg .any with e | e <;> exact e
  refine ⟨by simp [h.len], fun u hu => ?_, fun u => ?_⟩
  · rw [get_map h0, get_map h0, h.eq u hu]
  · rw [get_map h0]
    rcases hg (get f1 u) with e | e
    · rw [e]; exact h.nor u
    · rw [e]; rfl
theorem Off.kill (h : Off d f1 f) (s : Nat) (p : List Nat) : Off d (kill f1 s p) (kill f s p) := h.map (killed_two s p)
theorem Off.killAll (h : Off d f1 f) (s : Nat) : Off d (killAll f1 s) (killAll f s) := h.map (killedAll_two s)
theorem Off.putO (h : Off d f1 f) {t : Option Nat} (ht : t ≠ some d) (x : Slot) (hx : refersTo d x = false) : Off d (putO f1 t x) (putO f t x) := by
  cases t with
  | none => exact h
  | some t =>
    have ht' : t ≠ d := fun e => ht (by rw [e])
    show Off d (put f1 t x) (put f t x)
    unfold put
    split
    · exact (h.killAll t).set ht' x hx
    · exact h.set ht' x hx
theorem calm_putO {t : Option Nat} (ht : t ≠ some d) {x : Slot} (hx : ∀ s, refersTo s x = false) : Calm d f (putO f t x) := by
  cases t with
  | none => exact Calm.refl d f
  | some t =>
    have ht' : t ≠ d := fun e => ht (by rw [e])
    show Calm d f (put f t x)
    unfold put
    split
    · exact (Calm.map (killedAll_two t)).trans (Calm.set ht' hx)
    · exact Calm.set ht' hx

theorem Off.subAt (h : Off d f1 f) {s : Nat} (hs : s ≠ d) (p : List Nat) : subAt f1 s p = subAt f s p := by unfold Go.E.subAt; rw [h.eq s hs]
theorem Off.ne (h : Off d f1 f) {t s : Nat} (hr : refersTo s (get f1 t) = true) : s ≠ d := by
  rintro rfl
  rw [h.nor t] at hr
  cases hr
theorem Off.ne_loc (h : Off d f1 f) {t s : Nat} {p : List Nat} (hg : get f1 t = .loc s p) : s ≠ d := h.ne (t := t) (by rw [hg]; simp [refersTo])
theorem Off.ne_view (h : Off d f1 f) {t s : Nat} {p : List Nat} (hg : get f1 t = .view s p) : s ≠ d := h.ne (t := t) (by rw [hg]; simp [refersTo])
theorem Off.ne_clo (h : Off d f1 f) {t g : Nat} {cs : List Cap} (hg : get f1 t = .clo g cs) : ∀ c, Cap.slot c ∈ cs → c ≠ d := fun c hc => h.ne (t := t) (by
  rw [hg]
  simp only [refersTo, List.any_eq_true]
  exact ⟨_, hc, by simp⟩)
theorem Off.ne_ptr (h : Off d f1 f) {x : Operand} (hx : x ≠ .tmp d) {s : Nat} {p : List Nat} (hp : ptrOf f1 x = some (.at s p)) : s ≠ d := by
  obtain ⟨t, rfl, ht⟩ := ptrOf_refs hp
  rcases ht with rfl | ht
  · intro e; exact hx (by rw [e])
  · exact h.ne ht
theorem Off.ag (h : Off d f1 f) {L : List Nat} (hL : d ∉ L) : Ag L f1 f := ⟨fun u hu => h.eq u (fun e => hL (e ▸ hu)), fun _ _ s hs => by rw [h.eq s (h.ne hs)]⟩
theorem Off.updAt (h : Off d f1 f) {s : Nat} (hs : s ≠ d) {p : List Nat} {y : AV} {z : Slot} (hz : updAt f1 s p y = some z) : Go.E.updAt f s p y = some z := by
  unfold Go.E.updAt at hz ⊢
  rw [← h.eq s hs]
  exact hz
theorem updAt_calm {s : Nat} {p : List Nat} {y : AV} {z : Slot} (hz : updAt f s p y = some z) : ∀ s', refersTo s' z = false := by
  unfold updAt at hz
  split at hz
  · split at hz
    · injection hz with hz
      subst hz
      intro s'
      cases get f s <;> rfl
    · cases hz
  · cases hz
theorem Off.setAt (h : Off d f1 f) {s : Nat} (hs : s ≠ d) {p : List Nat} {y : AV} {f2 : Frame} (hz : setAt f1 s p y = some f2) : ∃ f', Go.E.setAt f s p y = some f' ∧ Off d f2 f' ∧ Calm d f1 f2 := by
  unfold Go.E.setAt at hz ⊢
  split at hz
  · rename_i z hz'
    injection hz with hz
    subst hz
    rw [h.updAt hs hz']
    exact ⟨_, rfl, (h.kill s p).set hs z (updAt_calm hz' d), (Calm.map (killed_two s p)).trans (Calm.set hs (updAt_calm hz'))⟩
  · cases hz
theorem Off.takeAt (h : Off d f1 f) {s : Nat} (hs : s ≠ d) {p : List Nat} {y : AV} {f2 : Frame} (hz : takeAt f1 s p = some (y, f2)) : ∃ f', Go.E.takeAt f s p = some (y, f') ∧ Off d f2 f' ∧ Calm d f1 f2 := by
  unfold Go.E.takeAt at hz ⊢
  rw [← h.subAt hs]
  split at hz
  · rename_i y0 hy
    split at hz
    · rename_i f3 hf3
      simp only [Option.some.injEq, Prod.mk.injEq] at hz
      obtain ⟨rfl, rfl⟩ := hz
      obtain ⟨f', h1, h2, h3⟩ := h.setAt hs hf3
      exact ⟨f', by (try rw [hy]); simp only [h1], h2, h3⟩
    · cases hz
  · cases hz
theorem Off.freezeCaps : ∀ {cs : List Cap} {f f1 f2 : Frame} {ys : List AV}, Off d f1 f → (∀ c, Cap.slot c ∈ cs → c ≠ d) → freezeCaps f1 cs = some (ys, f2) → ∃ f', Go.E.freezeCaps f cs = some (ys, f') ∧ Off d f2 f' ∧ Calm d f1 f2
  | [], f, f1, f2, ys, h, _, hz => by
    simp only [Go.E.freezeCaps, Option.some.injEq, Prod.mk.injEq] at hz
    obtain ⟨rfl, rfl⟩ := hz
    exact ⟨f, rfl, h, Calm.refl _ _⟩
  | .slot c :: cs, f, f1, f2, ys, h, hcs, hz => by
    rw [Go.E.freezeCaps] at hz
    split at hz
    · rename_i x hg
      have hc : c ≠ d := hcs c (List.mem_cons_self ..)
      split at hz
      · rename_i ys' f3 hf3
        simp only [Option.some.injEq, Prod.mk.injEq] at hz
        obtain ⟨rfl, rfl⟩ := hz
        obtain ⟨f', h1, h2, h3⟩ := Off.freezeCaps (h.set hc _ rfl) (fun c' hc' => hcs c' (List.mem_cons_of_mem _ hc')) hf3
        refine ⟨f', ?_, h2, (Calm.set hc (fun _ => rfl)).trans h3⟩
        rw [Go.E.freezeCaps, ← h.eq c hc, hg]
        simp only [h1]
      · cases hz
    · cases hz
  | .ro x :: cs, f, f1, f2, ys, h, hcs, hz => by
    rw [Go.E.freezeCaps] at hz
    split at hz
    · rename_i ys' f3 hf3
      simp only [Option.some.injEq, Prod.mk.injEq] at hz
      obtain ⟨rfl, rfl⟩ := hz
      obtain ⟨f', h1, h2, h3⟩ := Off.freezeCaps h (fun c' hc' => hcs c' (List.mem_cons_of_mem _ hc')) hf3
      refine ⟨f', ?_, h2, h3⟩
      rw [Go.E.freezeCaps]
      simp only [h1]
    · cases hz
theorem Off.byValS (h : Off d f1 f) {t : Nat} (ht : t ≠ d) {y : AV} {f2 : Frame} (hz : byValS f1 t = some (y, f2)) : ∃ f', Go.E.byValS f t = some (y, f') ∧ Off d f2 f' ∧ Calm d f1 f2 := by
  unfold Go.E.byValS at hz ⊢
  rw [← h.eq t ht]
  split at hz
  · rename_i x hg
    try rw [hg]
    try simp only
    split at hz
    · rename_i hp
      simp only [Option.some.injEq, Prod.mk.injEq] at hz
      obtain ⟨rfl, rfl⟩ := hz
      exact ⟨f, by rw [if_pos hp], h, Calm.refl _ _⟩
    · rename_i hp
      split at hz
      · cases hz
      rename_i htp
      simp only [Option.some.injEq, Prod.mk.injEq] at hz
      obtain ⟨rfl, rfl⟩ := hz
      exact ⟨_, by rw [if_neg hp, if_neg htp], h.set ht _ rfl, Calm.set ht (fun _ => rfl)⟩
  · rename_i x hg
    try rw [hg]
    simp only [Option.some.injEq, Prod.mk.injEq] at hz
    obtain ⟨rfl, rfl⟩ := hz
    exact ⟨_, rfl, h.set ht _ rfl, Calm.set ht (fun _ => rfl)⟩
  · rename_i s p hg
    try rw [hg]
    try simp only
    split at hz
    · rename_i x hgs
      have hs : s ≠ d := h.ne_loc hg
      rw [← h.eq s hs, hgs]
      try simp only
      split at hz
      · rename_i y0 hy0
        simp only [Option.some.injEq, Prod.mk.injEq] at hz
        obtain ⟨rfl, rfl⟩ := hz
        exact ⟨_, by first | rfl | (rw [hy0]), h.set hs _ rfl, Calm.set hs (fun _ => rfl)⟩
      · cases hz
    · cases hz
  · rename_i s p hg
    have hs : s ≠ d := h.ne_view hg
    try rw [hg]
    try simp only
    rw [← h.subAt hs]
    split at hz
    · rename_i st xs hy
      simp only [Option.some.injEq, Prod.mk.injEq] at hz
      obtain ⟨rfl, rfl⟩ := hz
      exact ⟨f, by first | rfl | (rw [hy]), h, Calm.refl _ _⟩
    · rename_i y0 hna hy
      split at hz
      · rename_i z hz'
        simp only [Option.some.injEq, Prod.mk.injEq] at hz
        obtain ⟨rfl, rfl⟩ := hz
        have h1 := h.updAt hs hz'
        refine ⟨_, ?_, h.set hs z (updAt_calm hz' d), Calm.set hs (updAt_calm hz')⟩
        try rw [hy]
        cases y0 <;> first | (exact absurd rfl (hna _ _)) | simp only [h1]
      · cases hz
    · cases hz
  · rename_i g cs hg
    try rw [hg]
    try simp only
    split at hz
    · rename_i ys f3 hf3
      simp only [Option.some.injEq, Prod.mk.injEq] at hz
      obtain ⟨rfl, rfl⟩ := hz
      obtain ⟨f', h1, h2, h3⟩ := Off.freezeCaps h (h.ne_clo hg) hf3
      exact ⟨f', by rw [h1], h2, h3⟩
    · cases hz
  · cases hz
  · cases hz
  · cases hz
theorem byValQ_op {ty : TypeId} {x : Operand} (hx : ∀ t, x ≠ .tmp t) (f g : Frame) : byValQ C f ty x = byValQ C g ty x := by
  cases x with
  | tmp t => exact absurd rfl (hx t)
  | _ => rfl
theorem moveQ_op' {ty : TypeId} {x : Operand} (hx : ∀ t, x ≠ .tmp t) (f g : Frame) : moveQ C f ty x = moveQ C g ty x := by
  cases x with
  | tmp t => exact absurd rfl (hx t)
  | _ => rfl
theorem Off.byVal (h : Off d f1 f) {ty : TypeId} {x : Operand} (hx : x ≠ .tmp d) {y : AV} {f2 : Frame} (hz : byVal C f1 ty x = some (y, f2)) : ∃ f', Go.E.byVal C f ty x = some (y, f') ∧ Off d f2 f' ∧ Calm d f1 f2 := by
  have key : (∀ t, x ≠ .tmp t) → (match byValQ C f1 ty x with | some (y, _) => some (y, f1) | none => none) = some (y, f2) → ∃ f', (match byValQ C f ty x with | some (y, _) => some (y, f) | none => none) = some (y, f') ∧ Off d f2 f' ∧ Calm d f1 f2 := by
    intro hx hz
    try rw [byValQ_op hx f f1]
    split at hz
    · rename_i y0 cs hq
      simp only [Option.some.injEq, Prod.mk.injEq] at hz
      obtain ⟨rfl, rfl⟩ := hz
      exact ⟨f, rfl, h, Calm.refl _ _⟩
    · cases hz
  cases x with
  | tmp t => exact h.byValS (fun e => hx (by rw [e])) hz
  | const v => exact key (fun t e => by cases e) hz
  | global v => exact key (fun t e => by cases e) hz
  | func v => exact key (fun t e => by cases e) hz
theorem Off.moveOut (h : Off d f1 f) {ty : TypeId} {x : Operand} (hx : x ≠ .tmp d) {y : AV} {f2 : Frame} (hz : moveOut C f1 ty x = some (y, f2)) : ∃ f', Go.E.moveOut C f ty x = some (y, f') ∧ Off d f2 f' ∧ Calm d f1 f2 := by
  have key : (∀ t, x ≠ .tmp t) → (match moveQ C f1 ty x with | some (y, _) => some (y, f1) | none => none) = some (y, f2) → ∃ f', (match moveQ C f ty x with | some (y, _) => some (y, f) | none => none) = some (y, f') ∧ Off d f2 f' ∧ Calm d f1 f2 := by
    intro hx hz
    try rw [moveQ_op' hx f f1]
    split at hz
    · rename_i y0 cs hq
      simp only [Option.some.injEq, Prod.mk.injEq] at hz
      obtain ⟨rfl, rfl⟩ := hz
      exact ⟨f, rfl, h, Calm.refl _ _⟩
    · cases hz
  cases x with
  | tmp t =>
    have ht : t ≠ d := fun e => hx (by rw [e])
    simp only [Go.E.moveOut] at hz ⊢
    rw [← h.eq t ht]
    split at hz
    · rename_i x hg
      try rw [hg]
      try simp only
      split at hz
      · rename_i hp
        simp only [Option.some.injEq, Prod.mk.injEq] at hz
        obtain ⟨rfl, rfl⟩ := hz
        exact ⟨f, by rw [if_pos hp], h, Calm.refl _ _⟩
      · rename_i hp
        simp only [Option.some.injEq, Prod.mk.injEq] at hz
        obtain ⟨rfl, rfl⟩ := hz
        exact ⟨_, by rw [if_neg hp], h.set ht _ rfl, Calm.set ht (fun _ => rfl)⟩
    · rename_i hnv
      obtain ⟨f', h1, h2, h3⟩ := h.byValS ht hz
      refine ⟨f', ?_, h2, h3⟩
      cases hg : get f1 t <;> first | (exact absurd hg (hnv _)) | exact h1
  | const v => exact key (fun t e => by cases e) hz
  | global v => exact key (fun t e => by cases e) hz
  | func v => exact key (fun t e => by cases e) hz

theorem Off.lentAt (h : Off d f1 f) {own : Nat → Bool} {i : Nat} {x : Operand} (hx : x ≠ .tmp d) : lentAt own f1 i x = lentAt own f i x := by
  cases x with
  | tmp t => simp only [Go.E.lentAt]; rw [h.eq t (fun e => hx (by rw [e]))]
  | _ => rfl
theorem Off.valsOf {own : Nat → Bool} : ∀ {l : List (TypeId × Operand)} {i : Nat} {f f1 f2 : Frame} {ys : List (Option AV)}, Off d f1 f → (∀ x ∈ l, x.2 ≠ .tmp d) → valsOf C own f1 i l = some (ys, f2) →
    ∃ f', Go.E.valsOf C own f i l = some (ys, f') ∧ Off d f2 f' ∧ Calm d f1 f2
  | [], i, f, f1, f2, ys, h, hx, hz => by
    simp only [Go.E.valsOf, Option.some.injEq, Prod.mk.injEq] at hz
    obtain ⟨rfl, rfl⟩ := hz
    exact ⟨f, rfl, h, Calm.refl _ _⟩
  | (ty, x) :: l, i, f, f1, f2, ys, h, hx, hz => by
    have hx0 : x ≠ .tmp d := hx _ (List.mem_cons_self ..)
    rw [Go.E.valsOf] at hz
    rw [Go.E.valsOf, ← h.lentAt hx0]
    split at hz
    · rename_i q hq
      split at hz
      · rename_i ys' f3 h3
        simp only [Option.some.injEq, Prod.mk.injEq] at hz
        obtain ⟨rfl, rfl⟩ := hz
        obtain ⟨f', k1, k2, k3⟩ := Off.valsOf h (fun y hy => hx y (List.mem_cons_of_mem _ hy)) h3
        exact ⟨f', by (try rw [hq]); simp only [k1], k2, k3⟩
      · cases hz
    · rename_i hq
      try rw [hq]
      try simp only
      split at hz
      · rename_i y f3 hm
        split at hz
        · rename_i ys' f4 h4
          simp only [Option.some.injEq, Prod.mk.injEq] at hz
          obtain ⟨rfl, rfl⟩ := hz
          have key : ∃ f', (if own i = true then Go.E.moveOut C f ty x else Go.E.byVal C f ty x) = some (y, f') ∧ Off d f3 f' ∧ Calm d f1 f3 := by
            split at hm
            · rename_i ho; rw [if_pos ho]; exact h.moveOut hx0 hm
            · rename_i ho; rw [if_neg ho]; exact h.byVal hx0 hm
          obtain ⟨f', k1, k2, k3⟩ := key
          obtain ⟨f'', m1, m2, m3⟩ := Off.valsOf k2 (fun y hy => hx y (List.mem_cons_of_mem _ hy)) h4
          exact ⟨f'', by rw [k1]; simp only [m1], m2, k3.trans m3⟩
        · cases hz
      · cases hz
theorem Off.lend (h : Off d f1 f) {x : Operand} (hx : x ≠ .tmp d) : lend f1 x = lend f x := by
  cases x with
  | tmp t =>
    simp only [Go.E.lend]
    rw [← h.eq t (fun e => hx (by rw [e]))]
    cases hg : get f1 t with
    | loc s p => simp only [h.subAt (h.ne_loc hg)]
    | view s p => simp only [h.subAt (h.ne_view hg)]
    | _ => rfl
  | _ => rfl
theorem Off.ne_lend (h : Off d f1 f) {x : Operand} (hx : x ≠ .tmp d) {a : Slot} {s : Nat} {p : List Nat} {y : AV} (hl : Go.E.lend f1 x = some (a, s, p, y)) : s ≠ d := by
  cases x with
  | tmp t =>
    simp only [Go.E.lend] at hl
    split at hl
    · simp only [Option.some.injEq, Prod.mk.injEq] at hl
      obtain ⟨_, rfl, _⟩ := hl
      exact fun e => hx (by rw [e])
    · rename_i s0 p0 hg
      split at hl
      · simp only [Option.some.injEq, Prod.mk.injEq] at hl
        obtain ⟨_, rfl, _⟩ := hl
        exact h.ne_loc hg
      · cases hl
    · rename_i s0 p0 hg
      split at hl
      · simp only [Option.some.injEq, Prod.mk.injEq] at hl
        obtain ⟨_, rfl, _⟩ := hl
        exact h.ne_view hg
      · cases hl
    · cases hl
  | _ => simp [Go.E.lend] at hl
theorem Off.fill (h : Off d f1 f) : ∀ {xs : List Operand} {ys : List (Option AV)}, (∀ x ∈ xs, x ≠ .tmp d) → fill f1 xs ys = fill f xs ys
  | [], [], _ => rfl
  | [], _ :: _, _ => rfl
  | _ :: _, [], _ => rfl
  | x :: xs, some y :: ys, hx => by
    rw [Go.E.fill, Go.E.fill, h.fill (fun y hy => hx y (List.mem_cons_of_mem _ hy))]
  | x :: xs, none :: ys, hx => by
    rw [Go.E.fill, Go.E.fill, h.lend (hx x (List.mem_cons_self ..)), h.fill (fun y hy => hx y (List.mem_cons_of_mem _ hy))]
theorem Off.backs (h : Off d f1 f) : ∀ {xs : List Operand} {ys : List (Option AV)} {rs : List Slot} {e1 e e2 : Frame}, Off d e1 e → (∀ x ∈ xs, x ≠ .tmp d) → backs f1 e1 xs ys rs = some e2 → ∃ e', Go.E.backs f e xs ys rs = some e' ∧ Off d e2 e' ∧ Calm d e1 e2
  | [], [], rs, e1, e, e2, he, _, hz => by
    simp only [Go.E.backs, Option.some.injEq] at hz
    subst hz
    exact ⟨e, by simp [Go.E.backs], he, Calm.refl _ _⟩
  | [], _ :: _, rs, e1, e, e2, he, _, hz => by simp [Go.E.backs] at hz
  | _ :: _, [], rs, e1, e, e2, he, _, hz => by simp [Go.E.backs] at hz
  | x :: xs, y :: ys, [], e1, e, e2, he, _, hz => by cases y <;> simp [Go.E.backs] at hz
  | x :: xs, some y :: ys, r :: rs, e1, e, e2, he, hx, hz => by
    rw [Go.E.backs] at hz
    obtain ⟨e', k1, k2, k3⟩ := h.backs he (fun y hy => hx y (List.mem_cons_of_mem _ hy)) hz
    exact ⟨e', by rw [Go.E.backs]; exact k1, k2, k3⟩
  | x :: xs, none :: ys, r :: rs, e1, e, e2, he, hx, hz => by
    rw [Go.E.backs] at hz
    rw [Go.E.backs, ← h.lend (hx x (List.mem_cons_self ..))]
    split at hz
    · rename_i a s p y hl
      try rw [hl]
      try simp only
      split at hz
      · rename_i y' hgv
        try rw [hgv]
        try simp only
        split at hz
        · rename_i hlv
          try rw [if_pos hlv]
          split at hz
          · rename_i e3 h3
            obtain ⟨e4, m1, m2, m3⟩ := he.setAt (h.ne_lend (hx x (List.mem_cons_self ..)) hl) h3
            obtain ⟨e', k1, k2, k3⟩ := h.backs m2 (fun y hy => hx y (List.mem_cons_of_mem _ hy)) hz
            exact ⟨e', by rw [m1]; exact k1, k2, m3.trans k3⟩
          · cases hz
        · cases hz
      · cases hz
    · cases hz
theorem Off.callA (h : Off d f1 f) {call : CallF} {t : Option Nat} (ht : t ≠ some d) {g : FuncId} {args : List (TypeId × Operand)} {caps : List AV} {f2 : Frame} (hx : ∀ x ∈ args, x.2 ≠ .tmp d) (hz : callA C call f1 t g args caps = some f2) :
    ∃ f', Go.E.callA C call f t g args caps = some f' ∧ Off d f2 f' ∧ Calm d f1 f2 := by
  have hx' : ∀ x ∈ args.map (·.2), x ≠ .tmp d := fun x hm => by
    obtain ⟨q, hq, rfl⟩ := List.mem_map.1 hm
    exact hx q hq
  unfold Go.E.callA at hz ⊢
  split at hz
  · cases hz
  rename_i ys f3 hv
  obtain ⟨f4, k1, k2, k3⟩ := Off.valsOf h hx hv
  try rw [k1]
  try simp only
  rw [← k2.fill hx']
  split at hz
  · cases hz
  rename_i ags ls hf
  try rw [hf]
  try simp only
  split at hz
  · cases hz
  rename_i r outs hr
  try rw [hr]
  try simp only
  split at hz
  · rename_i hc
    try rw [if_pos hc]
    simp only [Option.some.injEq] at hz
    subst hz
    exact ⟨_, rfl, h.putO ht _ rfl, calm_putO ht (fun _ => rfl)⟩
  · rename_i hc
    try rw [if_neg hc]
    split at hz
    · cases hz
    rename_i f5 hb
    simp only [Option.some.injEq] at hz
    subst hz
    obtain ⟨f6, m1, m2, m3⟩ := k2.backs k2 hx' hb
    try rw [m1]
    exact ⟨_, rfl, m2.putO ht _ rfl, (k3.trans m3).trans (calm_putO ht (fun _ => rfl))⟩

theorem capSlots_cells : ∀ {cs : List Cap} {ss : List Nat}, capSlots f cs = some ss → ∀ s ∈ ss, ∃ y, get f s = .cell y
  | [], ss, h, s, hs => by simp only [capSlots, Option.some.injEq] at h; subst h; cases hs
  | .slot c :: cs, ss, h, s, hs => by
    rw [capSlots] at h
    split at h
    · rename_i y hg
      split at h
      · rename_i ss' h'
        injection h with h
        subst h
        rcases List.mem_cons.1 hs with rfl | hs
        · exact ⟨y, hg⟩
        · exact capSlots_cells h' s hs
      · cases h
    · cases h
  | .ro x :: cs, ss, h, s, hs => by simp [capSlots] at h
theorem Off.capSlots (h : Off d f1 f) : ∀ {cs : List Cap} {ss : List Nat}, (∀ c, Cap.slot c ∈ cs → c ≠ d) → capSlots f1 cs = some ss → Go.E.capSlots f cs = some ss ∧ ∀ s ∈ ss, s ≠ d
  | [], ss, _, hz => by
    refine ⟨hz, ?_⟩
    simp only [Go.E.capSlots, Option.some.injEq] at hz
    subst hz
    simp
  | .slot c :: cs, ss, hcs, hz => by
    have hc : c ≠ d := hcs c (List.mem_cons_self ..)
    rw [Go.E.capSlots] at hz ⊢
    rw [← h.eq c hc]
    split at hz
    · rename_i y hg
      try rw [hg]
      try simp only
      split at hz
      · rename_i ss' h'
        obtain ⟨k1, k2⟩ := h.capSlots (fun c' hc' => hcs c' (List.mem_cons_of_mem _ hc')) h'
        injection hz with hz
        subst hz
        rw [k1]
        exact ⟨rfl, fun s hs => (List.mem_cons.1 hs).elim (fun e => e ▸ hc) (k2 s)⟩
      · cases hz
    · cases hz
  | .ro x :: cs, ss, _, hz => by simp [Go.E.capSlots] at hz

theorem loud_off (h : Off d f1 f) {fid : Nat} {call : CallF} {o : Oper} {f2 : Frame} (hd : d ∉ tmpsOf o) (hdst : o.dst ≠ some d) (hl : loud C fid call o f1 = some f2) :
    ∃ f', loud C fid call o f = some f' ∧ Off d f2 f' ∧ Calm d f1 f2 := by
  have hm : ∀ x ∈ o.op.operands.toList, x ≠ .tmp d := fun x hx e => hd (on_mem (o := o) hx d e)
  have hA : Ag (tmpsOf o) f1 f := h.ag hd
  have hO : ∀ {x : Operand}, x ∈ o.op.operands.toList → On (tmpsOf o) x := fun hx => on_mem hx
  unfold loud at hl ⊢
  cases ho : o.op with
  | assign z =>
    rw [ho] at hl hm
    cases z with
    | tmp t =>
      have ht : t ≠ d := fun e => hm (.tmp t) (by simp [Op.operands]) (by rw [e])
      simp only at hl ⊢
      rw [← h.eq t ht]
      split at hl
      · rename_i s p hg
        try rw [hg]
        try simp only
        split at hl
        · rename_i hr
          try rw [if_pos hr]
          split at hl
          · rename_i y f3 h3
            simp only [Option.some.injEq] at hl
            subst hl
            obtain ⟨f', k1, k2, k3⟩ := h.takeAt (h.ne_view hg) h3
            try rw [k1]
            exact ⟨_, rfl, k2.putO hdst _ rfl, k3.trans (calm_putO hdst (fun _ => rfl))⟩
          · cases hl
        · rename_i hr
          try rw [if_neg hr]
          split at hl
          · rename_i y f3 h3
            simp only [Option.some.injEq] at hl
            subst hl
            obtain ⟨f', k1, k2, k3⟩ := h.byValS ht h3
            try rw [k1]
            exact ⟨_, rfl, k2.putO hdst _ rfl, k3.trans (calm_putO hdst (fun _ => rfl))⟩
          · cases hl
      · cases hl
    | _ => simp at hl
  | pick c x y =>
    rw [ho] at hl hm hO
    simp only at hl ⊢
    rw [← hA.lookO (hO (by simp [Op.operands]))]
    split at hl
    · rename_i z hc
      try rw [hc]
      try simp only
      split at hl
      · rename_i r f3 h3
        simp only [Option.some.injEq] at hl
        subst hl
        obtain ⟨f', k1, k2, k3⟩ := h.byVal (hm _ (by cases z <;> simp [Op.operands])) h3
        try rw [k1]
        exact ⟨_, rfl, k2.putO hdst _ rfl, k3.trans (calm_putO hdst (fun _ => rfl))⟩
      · cases hl
    · cases hl
  | load t x =>
    rw [ho] at hl hm hO
    simp only at hl ⊢
    rw [← hA.ptrOf (hO (by simp [Op.operands]))]
    split at hl
    · rename_i s p hp
      have hs : s ≠ d := h.ne_ptr (hm x (by simp [Op.operands])) hp
      try rw [hp]
      try simp only
      rw [← h.subAt hs]
      split at hl
      · rename_i y hy
        try rw [hy]
        try simp only
        split at hl
        · rename_i hf
          try rw [if_pos hf]
          split at hl
          · rename_i z hz
            simp only [Option.some.injEq] at hl
            subst hl
            have k1 := h.updAt hs hz
            try rw [k1]
            exact ⟨_, rfl, (h.set hs z (updAt_calm hz d)).putO hdst _ rfl, (Calm.set hs (updAt_calm hz)).trans (calm_putO hdst (fun _ => rfl))⟩
          · cases hl
        · cases hl
      · cases hl
    · cases hl
  | store t x y =>
    rw [ho] at hl hm
    have hxm : x ≠ .tmp d := hm x (by simp [Op.operands])
    simp only at hl ⊢
    split at hl
    · rename_i r f3 h3
      obtain ⟨f', k1, k2, k3⟩ := h.moveOut (hm y (by simp [Op.operands])) h3
      try rw [k1]
      try simp only
      have e1 : ptrOf f3 x = ptrOf f' x := (k2.ag (L := tmpsOf o) hd).ptrOf (on_mem (by rw [ho]; simp [Op.operands]))
      rw [← e1]
      split at hl
      · rename_i s p hp
        try rw [hp]
        try simp only
        have hs : s ≠ d := k2.ne_ptr hxm hp
        rw [← k2.subAt hs]
        split at hl
        · rename_i z hz
          try rw [hz]
          try simp only
          split at hl
          · rename_i hc
            try rw [if_pos hc]
            split at hl
            · rename_i f4 h4
              simp only [Option.some.injEq] at hl
              subst hl
              obtain ⟨f5, m1, m2, m3⟩ := k2.setAt hs h4
              try rw [m1]
              exact ⟨_, rfl, m2.putO hdst _ rfl, (k3.trans m3).trans (calm_putO hdst (fun _ => rfl))⟩
            · cases hl
          · cases hl
        · cases hl
      · cases hl
    · cases hl
  | slice t x lo hi mx =>
    rw [ho] at hl hm hO
    simp only at hl ⊢
    split at hl
    · rename_i e hu
      try simp only
      split at hl
      · rename_i st xs f3 h3
        obtain ⟨f', k1, k2, k3⟩ := h.byVal (hm x (by simp [Op.operands])) h3
        have hA' := k2.ag (L := tmpsOf o) hd
        have e1 : ∀ n, optInt C f3 n lo = optInt C f' n lo := hA'.optInt (fun y e => hO (by simp [Op.operands, e]))
        have e2 : ∀ n, optInt C f3 n hi = optInt C f' n hi := hA'.optInt (fun y e => hO (by simp [Op.operands, e]))
        try rw [k1]
        try simp only
        rw [← e1, ← e2]
        split at hl
        · rename_i l u hlo hhi
          try rw [hlo, hhi]
          try simp only
          split at hl
          · rename_i hc
            try rw [if_pos hc]
            simp only [Option.some.injEq] at hl
            subst hl
            exact ⟨_, rfl, k2.putO hdst _ rfl, k3.trans (calm_putO hdst (fun _ => rfl))⟩
          · cases hl
        · cases hl
      · cases hl
    · cases hl
  | mapUpdate t m k x =>
    rw [ho] at hl hm hO
    cases m with
    | tmp m =>
      have ht : m ≠ d := fun e => hm (.tmp m) (by simp [Op.operands]) (by rw [e])
      simp only at hl ⊢
      split at hl
      · rename_i kt et hu
        try simp only
        rw [← h.eq m ht, ← hA.lookO (hO (x := k) (by simp [Op.operands])), ← hA.byValQ (hO (x := x) (by simp [Op.operands]))]
        split at hl
        · rename_i s p ky xy c2 hg hk hx
          try rw [hg, hk, hx]
          try simp only
          split at hl
          · cases hl
          rename_i hc
          try rw [if_neg hc]
          have hs : s ≠ d := h.ne_view hg
          rw [← h.subAt hs]
          split at hl
          · rename_i ks vs hy
            try rw [hy]
            try simp only
            split at hl
            · rename_i i hf
              try rw [hf]
              try simp only
              split at hl
              · rename_i z hz
                simp only [Option.some.injEq] at hl
                subst hl
                have k1 := h.updAt hs hz
                try rw [k1]
                exact ⟨_, rfl, (h.set hs z (updAt_calm hz d)).putO hdst _ rfl, (Calm.set hs (updAt_calm hz)).trans (calm_putO hdst (fun _ => rfl))⟩
              · cases hl
            · rename_i hf
              try rw [hf]
              try simp only
              split at hl
              · rename_i z hz
                simp only [Option.some.injEq] at hl
                subst hl
                have k1 := h.updAt hs hz
                try rw [k1]
                exact ⟨_, rfl, (h.set hs z (updAt_calm hz d)).putO hdst _ rfl, (Calm.set hs (updAt_calm hz)).trans (calm_putO hdst (fun _ => rfl))⟩
              · cases hl
            · cases hl
          · cases hl
        · cases hl
      · cases hl
    | _ => simp at hl
  | call c =>
    rw [ho] at hl hm hO
    have hargs : ∀ x ∈ c.args.toList, x ≠ .tmp d := fun x hx => hm x (by simp only [Op.operands, Call.operands, Array.toList_append]; exact List.mem_append_right _ hx)
    have hzip : ∀ {ts : List TypeId}, ∀ x ∈ ts.zip c.args.toList, x.2 ≠ .tmp d := fun x hx => hargs _ (mem_zip_snd hx)
    simp only at hl ⊢
    cases hb : c.callee with
    | builtin b =>
      rw [hb] at hl
      cases b with
      | append =>
        simp only at hl ⊢
        split at hl
        · rename_i tx y t u ha hts
          rw [ha] at hargs
          try rw [ha, hts]
          try simp only
          split at hl
          · rename_i e e' he he'
            split at hl
            · cases hl
            rename_i htu
            try rw [he, he']
            try simp only
            try rw [if_neg htu]
            rw [← h.eq tx (fun e => hargs (.tmp tx) (by simp) (by rw [e])), ← hA.lookO (hO (x := y) (by simp only [Op.operands, Call.operands, Array.toList_append]; exact List.mem_append_right _ (by rw [ha]; simp)))]
            split at hl
            · rename_i s p ya hg hy
              try rw [hg, hy]
              try simp only
              split at hl
              · rename_i sty ys bb f3 hsl h3
                obtain ⟨f', k1, k2, k3⟩ := h.takeAt (h.ne_view hg) h3
                try rw [hsl, k1]
                try simp only
                split at hl
                · cases hl
                rename_i hs
                try rw [if_neg hs]
                split at hl
                · rename_i r hr
                  try rw [hr]
                  simp only [Option.some.injEq] at hl
                  subst hl
                  exact ⟨_, rfl, k2.putO hdst _ rfl, k3.trans (calm_putO hdst (fun _ => rfl))⟩
                · cases hl
              · cases hl
            · cases hl
          · cases hl
        · cases hl
      | _ => simp at hl
    | invoke r m => rw [hb] at hl; simp at hl
    | value y =>
      rw [hb] at hl
      cases y with
      | func k =>
        simp only at hl ⊢
        split at hl
        · rename_i hc
          try rw [if_pos hc]
          exact h.callA hdst hzip hl
        · cases hl
      | tmp t =>
        have ht : t ≠ d := fun e => hm (.tmp t) (by simp [Op.operands, Call.operands, hb]) (by rw [e])
        simp only at hl ⊢
        rw [← h.eq t ht]
        split at hl
        · rename_i g caps hg
          try rw [hg]
          try simp only
          split at hl
          · cases hl
          rename_i hc
          try rw [if_neg hc]
          exact h.callA hdst hzip hl
        · rename_i g cs hg
          try rw [hg]
          try simp only
          split at hl
          · rename_i ss hss
            obtain ⟨kc1, kc2⟩ := h.capSlots (h.ne_clo hg) hss
            try rw [kc1]
            try simp only
            split at hl
            · cases hl
            rename_i hc
            try rw [if_neg hc]
            refine h.callA hdst (fun x hx => ?_) hl
            rcases List.mem_append.1 hx with hx | hx
            · exact hzip x hx
            · obtain ⟨s, hs, rfl⟩ := List.mem_map.1 hx
              intro e
              injection e with e
              exact kc2 s hs e
          · cases hl
        · cases hl
      | _ => simp at hl
  | _ => rw [ho] at hl; simp at hl

/-- A bound above all that a slot refers to. -/
def topRef : Slot → Nat
  | .loc s _ => s + 1
  | .view s _ => s + 1
  | .box s _ => s + 1
  | .clo _ cs => (cs.map fun c => match c with | .slot i => i + 1 | .ro _ => 0).foldl max 0
  | _ => 0
theorem foldl_max : ∀ (l : List Nat) (m : Nat), m ≤ l.foldl max m ∧ ∀ x ∈ l, x ≤ l.foldl max m
  | [], m => by simp
  | y :: l, m => by
    obtain ⟨h1, h2⟩ := foldl_max l (max m y)
    refine ⟨by simp only [List.foldl_cons]; omega, fun x hx => ?_⟩
    simp only [List.foldl_cons]
    rcases List.mem_cons.1 hx with rfl | hx
    · omega
    · exact h2 x hx
theorem refersTo_top {s : Nat} {x : Slot} (h : refersTo s x = true) : s < topRef x := by
  cases x with
  | loc t p => simp only [refersTo, beq_iff_eq] at h; simp [topRef]; omega
  | view t p => simp only [refersTo, beq_iff_eq] at h; simp [topRef]; omega
  | box t p => simp only [refersTo, beq_iff_eq] at h; simp [topRef]; omega
  | clo g cs =>
    simp only [refersTo, List.any_eq_true] at h
    obtain ⟨c, hc, h⟩ := h
    cases c with
    | slot i =>
      have h : i = s := by simpa using h
      subst h
      have := (foldl_max (cs.map fun c => match c with | .slot i => i + 1 | .ro _ => 0) 0).2 (i + 1) (List.mem_map.2 ⟨_, hc, rfl⟩)
      simp only [topRef]
      omega
    | ro y => cases h
  | _ => simp [refersTo] at h

/-- A loud operation makes no slot refer to another one. -/
theorem loud_calm {fid : Nat} {call : CallF} {o : Oper} {f2 : Frame} (hl : loud C fid call o f = some f2) : (∀ d, ¬ (d ∈ tmpsOf o) → o.dst ≠ some d → (∀ u, refersTo d (get f u) = false) → Calm d f f2) ∧ ∀ u, get f2 u = get f u ∨ ∀ s, refersTo s (get f2 u) = false := by
  obtain ⟨D, hD⟩ : ∃ D, D = (f.map topRef).foldl max 0 + (tmpsOf o).foldl max 0 + (o.dst.getD 0) + 1 := ⟨_, rfl⟩
  have h1 : D ∉ tmpsOf o := fun hm => by
    have := (foldl_max (tmpsOf o) 0).2 D hm
    omega
  have h2 : o.dst ≠ some D := fun e => by
    rw [e, Option.getD_some] at hD
    omega
  have h4 : ∀ u, refersTo D (get f u) = false := fun u => by
    cases hr : refersTo D (get f u) with
    | false => rfl
    | true =>
      have k1 := refersTo_top hr
      by_cases hu : u < f.length
      · have k2 := (foldl_max (f.map topRef) 0).2 (topRef (get f u)) (List.mem_map.2 ⟨get f u, by simp only [get, List.getD_eq_getElem?_getD, List.getElem?_eq_getElem hu, Option.getD_some]; exact List.getElem_mem hu, rfl⟩)
        omega
      · rw [get_big (by omega)] at k1; simp [topRef] at k1
  obtain ⟨_, _, _, h3⟩ := loud_off (d := D) (f1 := f) (f := f) ⟨rfl, fun _ _ => rfl, h4⟩ h1 h2 hl
  refine ⟨fun d k1 k2 k3 => ?_, h3.slot⟩
  obtain ⟨_, _, _, h5⟩ := loud_off (d := d) (f1 := f) (f := f) ⟨rfl, fun _ _ => rfl, k3⟩ k1 k2 hl
  exact h5
end
end Go.E

namespace Go.E
open Go.RowKit

section
variable {C : Cfg} {f g : Frame}

theorem Ag.mono {L L' : List Nat} (h : Ag L f g) (hl : ∀ x ∈ L', x ∈ L) : Ag L' f g := ⟨fun u hu => h.slot u (hl u hu), fun u hu => h.root u (hl u hu)⟩
theorem looks_tmps {o : Oper} {g : Guard} : ∀ x ∈ tmpsOf o, x ∈ looks o g := by
  intro x hx
  cases g with
  | none => exact hx
  | some p => exact List.mem_cons_of_mem _ hx

/-- What a quiet operation, guard and all, says. -/
def effD (C : Cfg) (fid : Nat) (call : CallF) (d : DOp) (f : Frame) : Option (List Nat × Slot) :=
  match guardS d.guard f with
  | some true => quiet C fid call d.op f
  | some false => some ([], .non)
  | none => none
theorem guardS_loc {o : Oper} {gd : Guard} (h : Ag (looks o gd) f g) : guardS gd f = guardS gd g := by
  cases gd with
  | none => rfl
  | some p =>
    obtain ⟨d, want⟩ := p
    simp only [guardS]
    rw [h.slot d (List.mem_cons_self ..)]
theorem effD_loc {fid : Nat} {call : CallF} {d : DOp} (h : Ag (looks d.op d.guard) f g) : effD C fid call d f = effD C fid call d g := by
  unfold effD
  rw [guardS_loc h, quiet_loc (h.mono looks_tmps)]
theorem effD_refs {fid : Nat} {call : CallF} {d : DOp} {cs : List Nat} {x : Slot} (h : effD C fid call d f = some (cs, x)) :
    (∀ s, refersTo s x = true → s ∈ looks d.op d.guard ∨ ∃ u ∈ looks d.op d.guard, refersTo s (get f u) = true) ∧ (∀ c ∈ cs, c ∈ looks d.op d.guard ∧ c ∈ tmpsOf d.op ∧ ∃ z, get f c = .v z) ∧ (cs = [] ∨ ∀ s, refersTo s x = false) := by
  unfold effD at h
  split at h
  · have q := quiet_refs h
    exact ⟨fun s hs => (q.refs s hs).imp (looks_tmps s) (fun ⟨u, hu, hr⟩ => ⟨u, looks_tmps u hu, hr⟩), fun c hc => ⟨looks_tmps c (q.cs c hc).1, (q.cs c hc).1, (q.cs c hc).2⟩, q.one⟩
  · simp only [Option.some.injEq, Prod.mk.injEq] at h
    obtain ⟨rfl, rfl⟩ := h
    exact ⟨fun s hs => by simp [refersTo] at hs, by simp, .inl rfl⟩
  · cases h

theorem noRefTo_iff {c : Nat} : noRefTo f c = true ↔ ∀ u, refersTo c (get f u) = false := by
  unfold noRefTo
  rw [List.all_eq_true]
  constructor
  · intro h u
    by_cases hu : u < f.length
    · have := h (get f u) (by simp only [get, List.getD_eq_getElem?_getD, List.getElem?_eq_getElem hu, Option.getD_some]; exact List.getElem_mem hu)
      simpa using this
    · rw [get_big (by omega)]; rfl
  · intro h x hx
    obtain ⟨i, hi, rfl⟩ := List.getElem_of_mem hx
    have := h i
    simp only [get, List.getD_eq_getElem?_getD, List.getElem?_eq_getElem hi, Option.getD_some] at this
    simp [this]

theorem killedAll_id {t : Nat} {x : Slot} (h : refersTo t x = false) : killedAll t x = x := by
  cases x with
  | loc s p => simp only [refersTo] at h; simp [killedAll, h]
  | box s p => simp only [refersTo] at h; simp [killedAll, h]
  | view s p => simp only [refersTo] at h; simp [killedAll, h]
  | clo k cs =>
    simp only [refersTo] at h
    simp only [killedAll]
    rw [if_neg]
    intro hh
    exact Bool.false_ne_true (h.symm.trans hh)
  | _ => rfl
theorem killAll_id {t : Nat} (h : ∀ u, refersTo t (get f u) = false) : killAll f t = f := by
  refine frame_ext (by simp [killAll]) fun u => ?_
  rw [killAll, get_map rfl, killedAll_id (h u)]

/-- A quiet operation's frame. -/
def resD (f : Frame) (cs : List Nat) (t : Option Nat) (x : Slot) : Frame := putO (dropAll f cs) t x
theorem resD_length (cs : List Nat) (t : Option Nat) (x : Slot) : (resD f cs t x).length = f.length := by rw [resD, putO_length, dropAll_length]
theorem get_resD {cs : List Nat} {t : Option Nat} {x : Slot} (h : ∀ s, t = some s → ∀ u, refersTo s (get f u) = false) (u : Nat) :
    get (resD f cs t x) u = if t = some u ∧ u < f.length then x else if u ∈ cs then .any else get f u := by
  have hd : ∀ s, t = some s → ∀ u, refersTo s (get (dropAll f cs) u) = false := fun s hs u => by
    rw [get_dropAll]
    split
    · rfl
    · exact h s hs u
  unfold resD
  cases t with
  | none =>
    rw [show putO (dropAll f cs) none x = dropAll f cs from rfl, get_dropAll]
    simp
  | some s =>
    have e : putO (dropAll f cs) (some s) x = (dropAll f cs).set s x := by
      show put (dropAll f cs) s x = _
      unfold put
      split
      · rw [killAll_id (hd s rfl)]
      · rfl
    rw [e]
    by_cases hu : u = s
    · subst hu
      by_cases hlt : u < f.length
      · rw [get_set_self (by rw [dropAll_length]; exact hlt)]; simp [hlt]
      · rw [get_big (by rw [List.length_set, dropAll_length]; omega), get_big (f := f) (by omega)]
        simp [hlt]
    · rw [get_set_ne hu, get_dropAll]
      have : ¬ (some s = some u ∧ u < f.length) := fun hh => hu (Option.some.inj hh.1).symm
      rw [if_neg this]

/-- What is known of a drawn region ahead of the run. -/
structure Static (ds : List DOp) : Prop where
  anc : ∀ (i : Nat) (d : DOp), ds[i]? = some d → ∀ j, d.anc.testBit j = true → j < ds.length → j < i
  edge : ∀ (i : Nat) (d : DOp), ds[i]? = some d → ∀ e ∈ d.op.after.toList, Region.binds .any e = true → d.anc.testBit e.on = true ∧ e.on < ds.length
  close : ∀ (i : Nat) (d : DOp) (j : Nat), ds[i]? = some d → j < ds.length → d.anc.testBit j = true → ∃ e ∈ d.op.after.toList, Region.binds .any e = true ∧ (e.on = j ∨ ∃ x, ds[e.on]? = some x ∧ x.anc.testBit j = true)
  dst : ∀ (i j : Nat) (d e : DOp) (t : Nat), ds[i]? = some d → ds[j]? = some e → d.op.dst = some t → e.op.dst = some t → i = j
  ord : ∀ (i : Nat) (d : DOp) (t k : Nat) (e : DOp), ds[i]? = some d → t ∈ looks d.op d.guard → ds[k]? = some e → e.op.dst = some t → d.anc.testBit k = true ∨ e.anc.testBit i = true
  uo : ∀ (i j : Nat) (d e : DOp), ds[i]? = some d → ds[j]? = some e → i ≠ j → (if j < i then d.anc.testBit j else e.anc.testBit i) = false → ∀ t ∈ looks e.op e.guard, d.uo.contains t = true
  lights : ∀ (i j : Nat) (d e : DOp), ds[i]? = some d → ds[j]? = some e → j < i → d.anc.testBit j = false → (e.op, e.guard) ∈ d.lights
  last : ∀ (i : Nat) (d : DOp), ds[i]? = some d → d.last = true → (∀ (j : Nat) (e : DOp), ds[j]? = some e → i < j → e.anc.testBit i = true) ∧ ∀ (j : Nat) (e : DOp), ds[j]? = some e → j < i → d.anc.testBit j = false → e.carried = false
  carried : ∀ (i : Nat) (d : DOp) (t : Nat), ds[i]? = some d → d.carried = false → d.op.dst = some t → ∀ (j : Nat) (e : DOp), ds[j]? = some e → t ∈ looks e.op e.guard → e.anc.testBit i = true

theorem idx_lt {ds : List DOp} {i : Nat} {d : DOp} (h : ds[i]? = some d) : i < ds.length := (List.getElem?_eq_some_iff.1 h).1

/-- A quiet step. -/
structure QS (C : Cfg) (fid : Nat) (call : CallF) (d : DOp) (f f1 : Frame) : Prop where
  ex : ∃ cs x, effD C fid call d f = some (cs, x) ∧ f1 = resD f cs d.op.dst x ∧ (∀ c ∈ cs, d.uo.contains c = false ∧ noRefTo f c = true) ∧ fresh d f = true
/-- A loud step. -/
structure LS (C : Cfg) (fid : Nat) (call : CallF) (d : DOp) (f f1 : Frame) : Prop where
  guard : guardS d.guard f = some true
  quiet : quiet C fid call d.op f = none
  loud : loud C fid call d.op f = some f1
  last : d.last = true

/-- The operations of R are yet to come. -/
structure Nv (ds : List DOp) (R : Nat → Prop) (f : Frame) : Prop where
  noref : ∀ (k : Nat) (d : DOp) (t : Nat), R k → ds[k]? = some d → d.op.dst = some t → d.carried = false → ∀ u, refersTo t (get f u) = false
  plain : ∀ (k : Nat) (d : DOp) (t : Nat), R k → ds[k]? = some d → d.op.dst = some t → ∀ s, refersTo s (get f t) = false

theorem QS.dstRef {ds : List DOp} {R : Nat → Prop} {fid : Nat} {call : CallF} {d : DOp} {f1 : Frame} {i : Nat} (hN : Nv ds R f) (hi : ds[i]? = some d) (hR : R i) (h : QS C fid call d f f1) : ∀ t, d.op.dst = some t → ∀ u, refersTo t (get f u) = false := by
  intro t ht
  obtain ⟨cs, x, _, _, _, hfr⟩ := h.ex
  cases hc : d.carried with
  | false => exact hN.noref i d t hR hi ht hc
  | true =>
    unfold fresh at hfr
    rw [hc, ht] at hfr
    exact noRefTo_iff.1 (by simpa using hfr)

variable {ds : List DOp} {R : Nat → Prop} {fid : Nat} {call : CallF}

theorem Nv.quiet (hS : Static ds) {i : Nat} {d : DOp} {f1 : Frame} (hN : Nv ds R f) (hi : ds[i]? = some d) (hR : R i) (hready : ∀ k, R k → k < ds.length → d.anc.testBit k = false) (h : QS C fid call d f f1) : Nv ds (fun k => R k ∧ k ≠ i) f1 := by
  have hdr := h.dstRef hN hi hR
  obtain ⟨cs, x, he, rfl, hcs, _⟩ := h.ex
  obtain ⟨q1, q2, _⟩ := effD_refs he
  constructor
  · rintro k e t ⟨hk, hki⟩ hek het hec u
    rw [get_resD hdr]
    split
    · cases hr : refersTo t x with
      | false => rfl
      | true =>
        rcases q1 t hr with hm | ⟨u', hu', hr'⟩
        · have := hS.carried k e t hek hec het i d hi hm
          rw [hready k hk (idx_lt hek)] at this
          cases this
        · rw [hN.noref k e t hk hek het hec u'] at hr'; cases hr'
    · split
      · rfl
      · exact hN.noref k e t hk hek het hec u
  · rintro k e t ⟨hk, hki⟩ hek het s
    rw [get_resD hdr]
    split
    · rename_i hh
      exact absurd (hS.dst k i e d t hek hi het hh.1) hki
    · split
      · rfl
      · exact hN.plain k e t hk hek het s
theorem Nv.loud {i : Nat} {d : DOp} {f1 : Frame} (hN : Nv ds R f) (h : LS C fid call d f f1) : Nv ds (fun k => R k ∧ k ≠ i) f1 := by
  have hc := (loud_calm h.loud).2
  constructor
  · rintro k e t ⟨hk, hki⟩ hek het hec u
    rcases hc u with e1 | e1
    · rw [e1]; exact hN.noref k e t hk hek het hec u
    · exact e1 t
  · rintro k e t ⟨hk, hki⟩ hek het s
    rcases hc t with e1 | e1
    · rw [e1]; exact hN.plain k e t hk hek het s
    · exact e1 s

theorem swap_qq (hS : Static ds) {i j : Nat} {di dj : DOp} {f1 f2 : Frame} (hj : ds[j]? = some dj) (hi : ds[i]? = some di) (hlt : j < i) (hun : di.anc.testBit j = false) (hN : Nv ds R f) (hRj : R j) (hRi : R i)
    (h1 : QS C fid call dj f f1) (h2 : QS C fid call di f1 f2) : ∃ f1', QS C fid call di f f1' ∧ QS C fid call dj f1' f2 := by
  have jl := idx_lt hj
  have il := idx_lt hi
  have hji : dj.anc.testBit i = false := by
    cases hb : dj.anc.testBit i with
    | false => rfl
    | true => exact absurd (hS.anc j dj hj i hb il) (by omega)
  have hjj : dj.anc.testBit j = false := by
    cases hb : dj.anc.testBit j with
    | false => rfl
    | true => exact absurd (hS.anc j dj hj j hb jl) (by omega)
  have hii : di.anc.testBit i = false := by
    cases hb : di.anc.testBit i with
    | false => rfl
    | true => exact absurd (hS.anc i di hi i hb il) (by omega)
  -- slots
  have tj_i : ∀ t, dj.op.dst = some t → t ∉ looks di.op di.guard := fun t ht hm => by
    rcases hS.ord i di t j dj hi hm hj ht with q | q
    · rw [hun] at q; cases q
    · rw [hji] at q; cases q
  have ti_j : ∀ t, di.op.dst = some t → t ∉ looks dj.op dj.guard := fun t ht hm => by
    rcases hS.ord j dj t i di hj hm hi ht with q | q
    · rw [hji] at q; cases q
    · rw [hun] at q; cases q
  have tj_j : ∀ t, dj.op.dst = some t → t ∉ looks dj.op dj.guard := fun t ht hm => by
    rcases hS.ord j dj t j dj hj hm hj ht with q | q <;> (rw [hjj] at q; cases q)
  have ti_i : ∀ t, di.op.dst = some t → t ∉ looks di.op di.guard := fun t ht hm => by
    rcases hS.ord i di t i di hi hm hi ht with q | q <;> (rw [hii] at q; cases q)
  have tij : ∀ t, dj.op.dst = some t → di.op.dst ≠ some t := fun t ht h => by have := hS.dst j i dj di t hj hi ht h; omega
  have uoj := hS.uo j i dj di hj hi (by omega) (by rw [if_neg (by omega)]; exact hun)
  have uoi := hS.uo i j di dj hi hj (by omega) (by rw [if_pos hlt]; exact hun)
  have nrj := h1.dstRef hN hj hRj
  obtain ⟨cj, xj, ej, rfl, kj, frj⟩ := h1.ex
  obtain ⟨ci, xi, ei, rfl, ki, fri⟩ := h2.ex
  obtain ⟨aj, bj, _⟩ := effD_refs ej
  have ncj : ∀ c ∈ cj, ∀ u, refersTo c (get f u) = false := fun c hc => noRefTo_iff.1 (kj c hc).2
  have cj_i : ∀ c ∈ cj, c ∉ looks di.op di.guard := fun c hc hm => by have := uoj c hm; rw [(kj c hc).1] at this; cases this
  have G1 := get_resD (cs := cj) (x := xj) nrj
  have slot_i : ∀ u ∈ looks di.op di.guard, get (resD f cj dj.op.dst xj) u = get f u := fun u hu => by
    rw [G1, if_neg (fun hh => tj_i u hh.1 hu), if_neg (fun hh => cj_i u hh hu)]
  have agi : Ag (looks di.op di.guard) f (resD f cj dj.op.dst xj) := ⟨fun u hu => (slot_i u hu).symm, fun u _ s hs => by
    rw [G1, if_neg (fun hh => by rw [nrj s hh.1 u] at hs; cases hs), if_neg (fun hh => by rw [ncj s hh u] at hs; cases hs)]⟩
  have ei' : effD C fid call di f = some (ci, xi) := by rw [effD_loc agi]; exact ei
  obtain ⟨ai, bi, _⟩ := effD_refs ei'
  have ci_j : ∀ c ∈ ci, c ∉ looks dj.op dj.guard := fun c hc hm => by have := uoi c hm; rw [(ki c hc).1] at this; cases this
  -- what nothing refers to, seen from f
  have back : ∀ c, (∀ u, refersTo c (get (resD f cj dj.op.dst xj) u) = false) → ∀ u, refersTo c (get f u) = false := fun c hc u => by
    have := hc u
    rw [G1] at this
    split at this
    · rename_i hh; exact hN.plain j dj u hRj hj hh.1 c
    · split at this
      · rename_i hh
        obtain ⟨_, _, z, hz⟩ := bj u hh
        rw [hz]; rfl
      · exact this
  have nci : ∀ c ∈ ci, ∀ u, refersTo c (get f u) = false := fun c hc => back c (noRefTo_iff.1 (ki c hc).2)
  have fri' : fresh di f = true := by
    unfold fresh at fri ⊢
    cases hc : di.carried with
    | false => rfl
    | true =>
      rw [hc] at fri
      cases ht : di.op.dst with
      | none => rfl
      | some t =>
        rw [ht] at fri
        simp only [Bool.not_true, Bool.false_or] at fri ⊢
        exact noRefTo_iff.2 (back t (noRefTo_iff.1 fri))
  have hQi : QS C fid call di f (resD f ci di.op.dst xi) := ⟨ci, xi, ei', rfl, fun c hc => ⟨(ki c hc).1, noRefTo_iff.2 (nci c hc)⟩, fri'⟩
  have nri := hQi.dstRef hN hi hRi
  have G2 := get_resD (cs := ci) (x := xi) nri
  have agj : Ag (looks dj.op dj.guard) f (resD f ci di.op.dst xi) := ⟨fun u hu => by rw [G2, if_neg (fun hh => ti_j u hh.1 hu), if_neg (fun hh => ci_j u hh hu)], fun u _ s hs => by
    rw [G2, if_neg (fun hh => by rw [nri s hh.1 u] at hs; cases hs), if_neg (fun hh => by rw [nci s hh u] at hs; cases hs)]⟩
  have ej' : effD C fid call dj (resD f ci di.op.dst xi) = some (cj, xj) := by rw [← effD_loc agj]; exact ej
  -- what nothing refers to, seen from the frame behind i
  have fwd : ∀ c, c ∉ looks di.op di.guard → (∀ u, refersTo c (get f u) = false) → ∀ u, refersTo c (get (resD f ci di.op.dst xi) u) = false := fun c hm hc u => by
    rw [G2]
    split
    · cases hr : refersTo c xi with
      | false => rfl
      | true =>
        rcases ai c hr with q | ⟨u', _, q⟩
        · exact absurd q hm
        · rw [hc u'] at q; cases q
    · split
      · rfl
      · exact hc u
  have nrj' : ∀ t, dj.op.dst = some t → ∀ u, refersTo t (get (resD f ci di.op.dst xi) u) = false := fun t ht => fwd t (tj_i t ht) (nrj t ht)
  have nri' : ∀ t, di.op.dst = some t → ∀ u, refersTo t (get (resD f cj dj.op.dst xj) u) = false := fun t ht u => by
    rw [G1]
    split
    · cases hr : refersTo t xj with
      | false => rfl
      | true =>
        rcases aj t hr with q | ⟨u', _, q⟩
        · exact absurd q (ti_j t ht)
        · rw [nri t ht u'] at q; cases q
    · split
      · rfl
      · exact nri t ht u
  refine ⟨_, hQi, cj, xj, ej', ?_, fun c hc => ⟨(kj c hc).1, noRefTo_iff.2 (fwd c (cj_i c hc) (ncj c hc))⟩, ?_⟩
  · refine frame_ext (by simp only [resD_length]) fun u => ?_
    rw [get_resD nri', get_resD nrj', G1, G2]
    simp only [resD_length]
    by_cases p1 : di.op.dst = some u
    · have p2 : dj.op.dst ≠ some u := fun hh => tij u hh p1
      have p3 : u ∉ cj := fun hh => ti_j u p1 (bj u hh).1
      simp [p1, p2, p3]
    · by_cases p2 : dj.op.dst = some u
      · have p3 : u ∉ ci := fun hh => tj_i u p2 (bi u hh).1
        simp [p1, p2, p3]
      · simp only [p1, p2, false_and, if_false]
        by_cases p3 : u ∈ ci <;> by_cases p4 : u ∈ cj <;> simp [p3, p4]
  · unfold fresh
    cases hc : dj.carried with
    | false => rfl
    | true =>
      cases ht : dj.op.dst with
      | none => rfl
      | some t => simp only [Bool.not_true, Bool.false_or]; exact noRefTo_iff.2 (nrj' t ht)
end

mutual
theorem eqAV_eq : ∀ {x y : AV}, eqAV x y = true → x = y
  | .undef, y, h => by cases y <;> simp [eqAV] at h; rfl
  | .int _ _, y, h => by cases y <;> simp [eqAV] at h; obtain ⟨rfl, rfl⟩ := h; rfl
  | .bool _, y, h => by cases y <;> simp [eqAV] at h; subst h; rfl
  | .str a, y, h => by
    cases y with
    | str b => obtain ⟨a⟩ := a; obtain ⟨b⟩ := b; have : a = b := by simpa [eqAV] using h
               subst this; rfl
    | _ => simp [eqAV] at h
  | .nilp, y, h => by cases y <;> simp [eqAV] at h; rfl
  | .nilf, y, h => by cases y <;> simp [eqAV] at h; rfl
  | .agg xs, y, h => by cases y <;> simp [eqAV] at h; rw [eqAVL_eq h]
  | .sl _ xs, y, h => by cases y <;> simp [eqAV] at h; obtain ⟨rfl, h⟩ := h; rw [eqAVL_eq h]
  | .osl _ xs, y, h => by cases y <;> simp [eqAV] at h; obtain ⟨rfl, h⟩ := h; rw [eqAVL_eq h]
  | .arr _ xs, y, h => by cases y <;> simp [eqAV] at h; obtain ⟨rfl, h⟩ := h; rw [eqAVL_eq h]
  | .ro x, y, h => by cases y <;> simp [eqAV] at h; rw [eqAV_eq h]
  | .fn _ xs, y, h => by cases y <;> simp [eqAV] at h; obtain ⟨rfl, h⟩ := h; rw [eqAVL_eq h]
  | .map a b, y, h => by cases y <;> simp [eqAV] at h; rw [eqAVL_eq h.1, eqAVL_eq h.2]
  | .rmap a b, y, h => by cases y <;> simp [eqAV] at h; rw [eqAVL_eq h.1, eqAVL_eq h.2]
  | .tup xs, y, h => by cases y <;> simp [eqAV] at h; rw [eqAVL_eq h]
theorem eqAVL_eq : ∀ {xs ys : List AV}, eqAVL xs ys = true → xs = ys
  | [], ys, h => by cases ys <;> simp [eqAVL] at h; rfl
  | x :: xs, ys, h => by
    cases ys with
    | nil => simp [eqAVL] at h
    | cons y ys => simp [eqAVL] at h; rw [eqAV_eq h.1, eqAVL_eq h.2]
end
theorem eqSlot_eq {x y : Slot} (h : eqSlot x y = true) : x = y := by
  cases x <;> cases y <;> simp [eqSlot] at h
  · rfl
  · rw [eqAV_eq h]
  · rw [h.1, h.2]
  · rw [h.1, h.2]
  · rw [h.1, h.2]
end Go.E

namespace Go.E
open Go.RowKit

section
variable {C : Cfg} {f g : Frame} {ds : List DOp} {R : Nat → Prop} {fid : Nat} {call : CallF}

theorem light_eq {f : Frame} {og : Oper × Guard} (h : light C fid call f og = true) : (∀ u ∈ tmpsOf og.1, isAny (get f u) = false) ∧ ∃ t, og.1.dst = some t ∧
    ((guardS og.2 f = some true ∧ isCallV og.1 = false ∧ quiet C fid call og.1 f = some ([], get f t)) ∨ (guardS og.2 f = some false ∧ get f t = .non)) := by
  unfold light at h
  rw [Bool.and_eq_true] at h
  refine ⟨fun u hu => by simpa using List.all_eq_true.1 h.1 u hu, ?_⟩
  have h := h.2
  split at h
  · rename_i t hg ht
    rw [Bool.and_eq_true] at h
    refine ⟨t, ht, .inl ⟨hg, by simpa using h.1, ?_⟩⟩
    have h2 := h.2
    split at h2
    · rename_i x hq
      rw [hq, eqSlot_eq h2]
    · cases h2
  · rename_i t hg ht
    exact ⟨t, ht, .inr ⟨hg, (eqSlot_eq h).symm⟩⟩
  · cases h

theorem light_dst {f : Frame} {og : Oper × Guard} (h : light C fid call f og = true) : ∃ t, og.1.dst = some t := by
  obtain ⟨_, t, ht, _⟩ := light_eq h
  exact ⟨t, ht⟩

theorem light_off {t : Nat} {f1 f2 : Frame} {og : Oper × Guard} (hO : Off t f2 f1) (hl : t ∉ looks og.1 og.2) (hd : og.1.dst ≠ some t) (h : light C fid call f2 og = true) : light C fid call f1 og = true := by
  have hA : Ag (looks og.1 og.2) f2 f1 := hO.ag hl
  obtain ⟨s, hs⟩ := light_dst h
  have hst : s ≠ t := fun e => hd (by rw [hs, e])
  have e1 : (tmpsOf og.1).all (fun t => !isAny (get f1 t)) = (tmpsOf og.1).all (fun t => !isAny (get f2 t)) := by
    rw [Bool.eq_iff_iff, List.all_eq_true, List.all_eq_true]
    constructor <;> intro hh u hu
    · rw [hO.eq u (fun e => hl (looks_tmps t (e ▸ hu)))]; exact hh u hu
    · rw [← hO.eq u (fun e => hl (looks_tmps t (e ▸ hu)))]; exact hh u hu
  unfold light at h ⊢
  rw [e1, ← guardS_loc hA, ← quiet_loc (hA.mono looks_tmps)]
  rw [hs] at h ⊢
  cases hg : guardS og.2 f2 with
  | none => rw [hg] at h; exact h
  | some b =>
    rw [hg] at h
    cases b with
    | true => simp only at h ⊢; rw [← hO.eq s hst]; exact h
    | false => simp only at h ⊢; rw [← hO.eq s hst]; exact h

theorem swap_ql (hS : Static ds) {i j : Nat} {di dj : DOp} {f1 f2 : Frame} (hj : ds[j]? = some dj) (hi : ds[i]? = some di) (hlt : j < i) (hun : di.anc.testBit j = false) (hN : Nv ds R f) (hRj : R j) (hRi : R i)
    (h1 : QS C fid call dj f f1) (h2 : LS C fid call di f1 f2) (hl : light C fid call f2 (dj.op, dj.guard) = true) :
    ∃ f1' t, LS C fid call di f f1' ∧ QS C fid call dj f1' f2 ∧ dj.op.dst = some t ∧ Off t f2 f1' := by
  have jl := idx_lt hj
  have il := idx_lt hi
  have hcar := (hS.last i di hi h2.last).2 j dj hj hlt hun
  have hji : dj.anc.testBit i = false := by
    cases hb : dj.anc.testBit i with
    | false => rfl
    | true => exact absurd (hS.anc j dj hj i hb il) (by omega)
  have hjj : dj.anc.testBit j = false := by
    cases hb : dj.anc.testBit j with
    | false => rfl
    | true => exact absurd (hS.anc j dj hj j hb jl) (by omega)
  obtain ⟨t, ht⟩ := light_dst hl
  have ht : dj.op.dst = some t := ht
  have tj_i : t ∉ looks di.op di.guard := fun hm => by
    rcases hS.ord i di t j dj hi hm hj ht with q | q
    · rw [hun] at q; cases q
    · rw [hji] at q; cases q
  have tj_j : t ∉ looks dj.op dj.guard := fun hm => by
    rcases hS.ord j dj t j dj hj hm hj ht with q | q <;> (rw [hjj] at q; cases q)
  have tij : di.op.dst ≠ some t := fun h => by have := hS.dst j i dj di t hj hi ht h; omega
  have uoj := hS.uo j i dj di hj hi (by omega) (by rw [if_neg (by omega)]; exact hun)
  have nrj := h1.dstRef hN hj hRj
  obtain ⟨cj, xj, ej, rfl, kj, frj⟩ := h1.ex
  obtain ⟨aj, bj, oj⟩ := effD_refs ej
  have G1 := get_resD (cs := cj) (x := xj) nrj
  -- nothing is consumed
  have hc0 : cj = [] := by
    cases hcj : cj with
    | nil => rfl
    | cons c cs' =>
      exfalso
      have hc : c ∈ cj := by rw [hcj]; exact List.mem_cons_self ..
      obtain ⟨b1, b2, z, hz⟩ := bj c hc
      have hct : c ≠ t := fun e => tj_j (e ▸ b1)
      have hci : c ∉ looks di.op di.guard := fun hm => by have := uoj c hm; rw [(kj c hc).1] at this; cases this
      have hcd : di.op.dst ≠ some c := fun hd => by
        rcases hS.ord j dj c i di hj b1 hi hd with q | q
        · rw [hji] at q; cases q
        · rw [hun] at q; cases q
      have hnr : ∀ u, refersTo c (get (resD f cj dj.op.dst xj) u) = false := fun u => by
        rw [G1]
        split
        · rcases oj with q | q
          · rw [hcj] at q; cases q
          · exact q c
        · split
          · rfl
          · exact noRefTo_iff.1 (kj c hc).2 u
      have htame := ((loud_calm h2.loud).1 c (fun hm => hci (looks_tmps c hm)) hcd hnr).tame
      have hany : get (resD f cj dj.op.dst xj) c = .any := by
        rw [G1, if_neg (fun hh => hct (by rw [ht] at hh; exact (Option.some.inj hh.1).symm)), if_pos hc]
      have hany2 : get f2 c = .any := by
        rcases htame with q | q
        · rw [q]; exact hany
        · exact q
      have := (light_eq hl).1 c b2
      rw [hany2] at this
      simp [isAny] at this
  subst hc0
  have G1' : ∀ u, u ≠ t → get (resD f [] dj.op.dst xj) u = get f u := fun u hu => by
    rw [G1, if_neg (fun hh => hu (by rw [ht] at hh; exact (Option.some.inj hh.1).symm)), if_neg (by simp)]
  have nt1 : ∀ u, refersTo t (get (resD f [] dj.op.dst xj) u) = false := fun u => by
    rw [G1]
    split
    · cases hr : refersTo t xj with
      | false => rfl
      | true =>
        rcases aj t hr with q | ⟨u', _, q⟩
        · exact absurd q tj_j
        · rw [nrj t ht u'] at q; cases q
    · rw [if_neg (by simp)]; exact nrj t ht u
  have hO : Off t (resD f [] dj.op.dst xj) f := ⟨resD_length _ _ _, G1', nt1⟩
  have hAi : Ag (looks di.op di.guard) (resD f [] dj.op.dst xj) f := hO.ag tj_i
  obtain ⟨f1', l1, l2, l3⟩ := loud_off hO (fun hm => tj_i (looks_tmps t hm)) tij h2.loud
  have hLS : LS C fid call di f f1' := ⟨by rw [← guardS_loc hAi]; exact h2.guard, by rw [← quiet_loc (hAi.mono looks_tmps)]; exact h2.quiet, l1, h2.last⟩
  have hAj : Ag (looks dj.op dj.guard) f2 f1' := l2.ag tj_j
  -- what j says behind i
  obtain ⟨_, t', ht', hlt'⟩ := light_eq hl
  have htt : t' = t := by have : dj.op.dst = some t' := ht'; rw [ht] at this; exact (Option.some.inj this).symm
  subst htt
  have ej2 : effD C fid call dj f1' = some ([], get f2 t') := by
    rw [← effD_loc hAj]
    unfold effD
    rcases hlt' with ⟨hg, _, hq⟩ | ⟨hg, hq⟩
    · have hg : guardS dj.guard f2 = some true := hg
      have hq : quiet C fid call dj.op f2 = some ([], get f2 t') := hq
      rw [hg]; exact hq
    · have hg : guardS dj.guard f2 = some false := hg
      rw [hg, hq]
  have nt2 : ∀ s, dj.op.dst = some s → ∀ u, refersTo s (get f1' u) = false := fun s hs u => by
    rw [ht] at hs
    injection hs with hs
    subst hs
    by_cases hu : u = t'
    · subst hu
      rcases (loud_calm l1).2 u with q | q
      · rw [q]; exact hN.plain j dj u hRj hj ht u
      · exact q u
    · rw [← l2.eq u hu]; exact l2.nor u
  refine ⟨f1', t', hLS, ⟨[], get f2 t', ej2, ?_, by simp, by unfold fresh; rw [hcar]; rfl⟩, ht, l2⟩
  refine frame_ext (by rw [resD_length]; exact l2.len) fun u => ?_
  rw [get_resD nt2, ht]
  by_cases hu : u = t'
  · subst hu
    by_cases hlen : u < f1'.length
    · simp [hlen]
    · rw [get_big (f := f2) (by rw [l2.len]; omega), get_big (f := f1') (by omega)]; simp
  · rw [if_neg (fun hh => hu (Option.some.inj hh.1).symm), if_neg (by simp)]
    exact l2.eq u hu
end
end Go.E

namespace Go.E
open Go.RowKit

section
variable {C : Cfg} {f g : Frame} {ds : List DOp} {fid : Nat} {call : CallF}

/-- A run of what is left, with what its loud operations ask of those before them. -/
inductive RunOK (C : Cfg) (fid : Nat) (call : CallF) (ds : List DOp) : List Nat → Frame → List Nat → Frame → Prop
  | nil {pre : List Nat} {f : Frame} : RunOK C fid call ds pre f [] f
  | quiet {pre : List Nat} {f f1 f' : Frame} {i : Nat} {d : DOp} {R : List Nat} : ds[i]? = some d → QS C fid call d f f1 → RunOK C fid call ds (pre ++ [i]) f1 R f' → RunOK C fid call ds pre f (i :: R) f'
  | loud {pre : List Nat} {f f1 f' : Frame} {i : Nat} {d : DOp} {R : List Nat} : ds[i]? = some d → LS C fid call d f f1 → (∀ j ∈ pre, ∀ e, ds[j]? = some e → d.anc.testBit j = false → light C fid call f1 (e.op, e.guard) = true) →
      RunOK C fid call ds (pre ++ [i]) f1 R f' → RunOK C fid call ds pre f (i :: R) f'

theorem RunOK.mono {pre pre' : List Nat} {f f' : Frame} {R : List Nat} (h : RunOK C fid call ds pre f R f') (hp : ∀ x ∈ pre', x ∈ pre) : RunOK C fid call ds pre' f R f' := by
  induction h generalizing pre' with
  | nil => exact .nil
  | quiet h1 h2 _ ih => exact .quiet h1 h2 (ih fun x hx => by
      rcases List.mem_append.1 hx with hx | hx
      · exact List.mem_append_left _ (hp x hx)
      · exact List.mem_append_right _ hx)
  | loud h1 h2 h3 _ ih => exact .loud h1 h2 (fun j hj => h3 j (hp j hj)) (ih fun x hx => by
      rcases List.mem_append.1 hx with hx | hx
      · exact List.mem_append_left _ (hp x hx)
      · exact List.mem_append_right _ hx)

/-- One step of either kind. -/
inductive Step (C : Cfg) (fid : Nat) (call : CallF) (ds : List DOp) (pre : List Nat) (i : Nat) (d : DOp) (f f1 : Frame) : Prop
  | quiet : QS C fid call d f f1 → Step C fid call ds pre i d f f1
  | loud : LS C fid call d f f1 → (∀ j ∈ pre, ∀ e, ds[j]? = some e → d.anc.testBit j = false → light C fid call f1 (e.op, e.guard) = true) → Step C fid call ds pre i d f f1

/-- What is ready comes first. -/
theorem front (hS : Static ds) {i : Nat} {di : DOp} (hi : ds[i]? = some di) : ∀ {B1 : List Nat} {pre : List Nat} {f f' : Frame} {B2 : List Nat}, RunOK C fid call ds pre f (B1 ++ i :: B2) f' →
    (∀ j ∈ B1, j < i ∧ di.anc.testBit j = false) → B1.Pairwise (· < ·) → (∀ p ∈ pre, ∀ j ∈ B1, p < j) → Nv ds (fun k => k ∈ B1 ∨ k = i) f →
    ∃ f1, Step C fid call ds pre i di f f1 ∧ RunOK C fid call ds (pre ++ [i]) f1 (B1 ++ B2) f'
  | [], pre, f, f', B2, h, _, _, _, _ => by
    cases h with
    | quiet h1 h2 h3 => rw [hi] at h1; injection h1 with h1; subst h1; exact ⟨_, .quiet h2, h3⟩
    | loud h1 h2 h3 h4 => rw [hi] at h1; injection h1 with h1; subst h1; exact ⟨_, .loud h2 h3, h4⟩
  | j :: B1, pre, f, f', B2, h, hB, hP, hpre, hN => by
    obtain ⟨hlt, hun⟩ := hB j (List.mem_cons_self ..)
    rw [List.cons_append] at h
    cases h with
    | @loud _ _ _ _ _ dj _ h1 h2 h3 h4 =>
      have := (hS.last j dj h1 h2.last).1 i di hi hlt
      rw [hun] at this
      cases this
    | @quiet _ _ f1 _ _ dj _ h1 h2 h3 =>
      have hN1 : Nv ds (fun k => k ∈ B1 ∨ k = i) f1 := by
        have := hN.quiet hS h1 (.inl (List.mem_cons_self ..)) (fun k hk hkl => by
          cases hb : dj.anc.testBit k with
          | false => rfl
          | true =>
            have hkj := hS.anc j dj h1 k hb hkl
            rcases hk with hk | rfl
            · rcases List.mem_cons.1 hk with rfl | hk
              · omega
              · have := List.rel_of_pairwise_cons hP hk
                omega
            · omega) h2
        refine ⟨fun k d t hk => this.noref k d t ⟨hk.imp (List.mem_cons_of_mem _) id, ?_⟩, fun k d t hk => this.plain k d t ⟨hk.imp (List.mem_cons_of_mem _) id, ?_⟩⟩ <;>
        · rcases hk with hk | rfl
          · have := List.rel_of_pairwise_cons hP hk
            omega
          · omega
      obtain ⟨f2, k1, k2⟩ := front hS hi h3 (fun x hx => hB x (List.mem_cons_of_mem _ hx)) (List.Pairwise.of_cons hP) (fun p hp x hx => by
        rcases List.mem_append.1 hp with hp | hp
        · exact hpre p hp x (List.mem_cons_of_mem _ hx)
        · simp only [List.mem_singleton] at hp
          subst hp
          exact List.rel_of_pairwise_cons hP hx) hN1
      have hperm : ∀ x ∈ pre ++ [i] ++ [j], x ∈ pre ++ [j] ++ [i] := fun x hx => by
        simp only [List.mem_append, List.mem_singleton] at hx ⊢
        rcases hx with (hx | hx) | hx
        · exact .inl (.inl hx)
        · exact .inr hx
        · exact .inl (.inr hx)
      cases k1 with
      | quiet q =>
        obtain ⟨f1', m1, m2⟩ := swap_qq hS h1 hi hlt hun hN (.inl (List.mem_cons_self ..)) (.inr rfl) h2 q
        exact ⟨f1', .quiet m1, .quiet h1 m2 (k2.mono hperm)⟩
      | loud q ql =>
        obtain ⟨f1', t, m1, m2, m3, m4⟩ := swap_ql hS h1 hi hlt hun hN (.inl (List.mem_cons_self ..)) (.inr rfl) h2 q (ql j (by simp) dj h1 hun)
        refine ⟨f1', .loud m1 (fun p hp e he hpe => ?_), .quiet h1 m2 (k2.mono hperm)⟩
        have hpj : p < j := hpre p hp j (List.mem_cons_self ..)
        have hcar := (hS.last i di hi q.last).2 j dj h1 hlt hun
        refine light_off m4 (fun hm => ?_) (fun hd => ?_) (ql p (List.mem_append_left _ hp) e he hpe)
        · have := hS.carried j dj t h1 hcar m3 p e he hm
          have := hS.anc p e he j this (idx_lt h1)
          omega
        · have := hS.dst p j e dj t he h1 hd m3
          omega
end
end Go.E

namespace Go.E
open Go.RowKit

section
variable {C : Cfg} {K : Kn} {w : World} {f f1 f' : Frame} {a : Act} {O : Nat → Own} {ds : List DOp} {fid : Nat} {call : CallF} {ops : Array Oper}

theorem guard_sound {o : Oper} {gd : Guard} {b : Bool} (hg : guardOf ops o = some gd) (h : FR K w f a.tmps O) (hb : guardS gd f = some b) : Region.wanted o (yielded ops a.tmps) = b := by
  unfold guardOf at hg
  unfold Region.wanted
  cases ho : o.guard with
  | none =>
    rw [ho] at hg
    simp only [Option.some.injEq] at hg
    subst hg
    simp only [guardS, Option.some.injEq] at hb
    rw [← hb]
  | some p =>
    obtain ⟨j, want⟩ := p
    rw [ho] at hg
    simp only at hg
    split at hg
    · rename_i d hd
      simp only [Option.some.injEq] at hg
      subst hg
      simp only [guardS] at hb
      split at hb
      · rename_i c hgd
        injection hb with hb
        have hv := bool_of (h.val hgd)
        have : a.tmps[d]? = some (.bool c) := by
          simp only [vals, Array.getD_eq_getD_getElem?] at hv
          cases hx : a.tmps[d]? with
          | none => rw [hx] at hv; simp [undef] at hv
          | some v => rw [hx] at hv; simp only [Option.getD_some] at hv; rw [hv]
        simp only [yielded, hd, Option.bind_some, this]
        rw [← hb]
        cases c <;> cases want <;> rfl
      · rename_i hgd
        injection hb with hb
        have hsl := h.slot d
        unfold SlotR at hsl
        rw [hgd] at hsl
        have hsl : vals a.tmps d = undef := hsl
        have : yielded ops a.tmps j = none := by
          simp only [yielded, hd, Option.bind_some]
          simp only [vals, Array.getD_eq_getD_getElem?] at hsl
          cases hx : a.tmps[d]? with
          | none => rfl
          | some v => rw [hx] at hsl; simp only [Option.getD_some] at hsl; rw [hsl]; rfl
        simp only [this, ← hb]
        rfl
      · cases hb
    · cases hg

/-- Temporaries that are not written stay. -/
structure TK (a a' : Array Value) (W : Nat → Prop) : Prop where
  size : a'.size = a.size
  same : ∀ t, ¬ W t → vals a' t = vals a t
theorem TK.refl (a : Array Value) (W : Nat → Prop) : TK a a W := ⟨rfl, fun _ _ => rfl⟩
theorem TK.trans {a b c : Array Value} {W : Nat → Prop} (h : TK a b W) (k : TK b c W) : TK a c W := ⟨k.size.trans h.size, fun t ht => (k.same t ht).trans (h.same t ht)⟩
theorem TK.mono {a b : Array Value} {W W' : Nat → Prop} (h : TK a b W) (hw : ∀ t, W t → W' t) : TK a b W' := ⟨h.size, fun t ht => h.same t fun x => ht (hw t x)⟩
theorem TK.put (a : Act) (d : Option Nat) (v : Value) : TK a.tmps (a.put d v).tmps (fun t => d = some t) := by
  refine ⟨?_, fun t ht => ?_⟩
  · cases d with
    | none => rfl
    | some d => simp [Act.put]
  · cases d with
    | none => rfl
    | some d => exact vals_set_ne (fun e => ht (by rw [e]))

theorem putA_put (a : Act) (d : Option Nat) (v : Value) : (a.put d v).tmps = putA a.tmps d v ∧ (a.put d v).defers = a.defers := by cases d <;> exact ⟨rfl, rfl⟩

/-- One step, seen by the machine. -/
theorem step_wp (hE : ∀ t, C.eqT t = true → EqT C.P t) (hC : CallOK C call) {pre : List Nat} {i : Nat} {d : DOp} {Q : Exit → Act → World → Prop} {next : Act → World → Prop} (ho : ops[i]? = some d.op) (hg : guardOf ops d.op = some d.guard)
    (h : FR K w f a.tmps O) (hs : Sat K w) (hst : Step C fid call ds pre i d f f1)
    (hn : ∀ a' w' K' O', FR K' w' f1 a'.tmps O' → Goes K w O K' w' O' → a'.defers = a.defers → TK a.tmps a'.tmps (fun t => d.op.dst = some t) → next a' w') : wpOp C.P ops Q i next a w := by
  have fin : ∀ {v : Value} {w' : World}, LPost K w O f1 a.tmps d.op.dst v w' → next (a.put d.op.dst v) w' := by
    rintro v w' ⟨K', O', k1, k2⟩
    obtain ⟨e1, e2⟩ := putA_put a d.op.dst v
    exact hn _ _ K' O' (by rw [e1]; exact k1) k2 e2 (TK.put a d.op.dst v)
  unfold wpOp
  rw [ho]
  simp only
  cases hst with
  | quiet q =>
    obtain ⟨cs, x, he, rfl, _, _⟩ := q.ex
    unfold effD at he
    split at he
    · rename_i hgd
      rw [guard_sound hg h hgd, if_pos rfl]
      left
      refine (quiet_sound hE hC h hs he) next Q fun v w' hp => fin ?_
      obtain ⟨K', O', k1, k2⟩ := h.quiet hs hp d.op.dst
      exact ⟨K', O', k1, k2⟩
    · rename_i hgd
      rw [guard_sound hg h hgd]
      simp only [Bool.false_eq_true, if_false]
      simp only [Option.some.injEq, Prod.mk.injEq] at he
      obtain ⟨rfl, rfl⟩ := he
      exact fin (h.put_no (x := .non) (Goes.refl hs) rfl d.op.dst)
    · cases he
  | loud q _ =>
    rw [guard_sound hg h q.guard, if_pos rfl]
    left
    exact (loud_sound hE hC h hs q.loud) next Q fun v w' hp => fin hp

/-- A drawn region, in whatever order. -/
theorem drawn_any (hE : ∀ t, C.eqT t = true → EqT C.P t) (hC : CallOK C call) (hS : Static ds) (hops : ∀ (i : Nat) (d : DOp), ds[i]? = some d → ops[i]? = some d.op ∧ guardOf ops d.op = some d.guard) (hlen : ds.length = ops.size) {Q : Exit → Act → World → Prop} :
    ∀ {n : Nat} {R : List Nat} {listed : Array Bool} {a : Act} {w : World} {K : Kn} {O : Nat → Own} {f : Frame}, R.length = n → RunOK C fid call ds [] f R f' → R.Pairwise (· < ·) → (∀ i, i ∈ R ↔ i < ops.size ∧ listed.getD i true = false) → listed.size = ops.size →
      (∀ (i : Nat) (d : DOp), ds[i]? = some d → i ∉ R → ∀ j, j < ds.length → d.anc.testBit j = true → j ∉ R) → Nv ds (· ∈ R) f → FR K w f a.tmps O → Sat K w →
      (∀ a' w' K' O', FR K' w' f' a'.tmps O' → Goes K w O K' w' O' → a'.defers = a.defers → TK a.tmps a'.tmps (fun t => t ∈ dstsOf ds) → Q .normal a' w') → wpAny C.P .any ops Q n listed a w
  | 0, R, listed, a, w, K, O, f, hn, hrun, hP, hR, hsz, hcl, hN, h, hs, hQ => by
    have : R = [] := List.length_eq_zero_iff.1 hn
    subst this
    cases hrun
    refine ⟨?_, hQ a w K O h (Goes.refl hs) rfl (TK.refl _ _)⟩
    unfold Region.ready
    rw [List.filter_eq_nil_iff]
    intro i hi hh
    simp only [Bool.and_eq_true, Bool.not_eq_true'] at hh
    have := (hR i).2 ⟨List.mem_range.1 hi, hh.1⟩
    cases this
  | n + 1, R, listed, a, w, K, O, f, hn, hrun, hP, hR, hsz, hcl, hN, h, hs, hQ => by
    have hlisted : ∀ i, i < ops.size → i ∉ R → listed.getD i false = true := fun i hi hni => by
      have h1 : listed.getD i true ≠ false := fun e => hni ((hR i).2 ⟨hi, e⟩)
      have hi' : i < listed.size := by omega
      simp only [Array.getD_eq_getD_getElem?, Array.getElem?_eq_getElem hi', Option.getD_some] at h1 ⊢
      simpa using h1
    constructor
    · intro hempty
      exfalso
      match R, hn with
      | r :: R', _ =>
        have hr := (hR r).1 (List.mem_cons_self ..)
        have hmin : ∀ x ∈ r :: R', r ≤ x := fun x hx => by
          rcases List.mem_cons.1 hx with rfl | hx
          · exact Nat.le_refl _
          · exact Nat.le_of_lt (List.rel_of_pairwise_cons hP hx)
        have hd : ds[r]? = some ds[r] := List.getElem?_eq_getElem (by omega)
        obtain ⟨ho, _⟩ := hops r _ hd
        have : r ∈ Region.ready .any ops listed := by
          unfold Region.ready
          rw [List.mem_filter]
          refine ⟨List.mem_range.2 hr.1, ?_⟩
          rw [hr.2, ho]
          simp only [Bool.not_false, Bool.true_and, Option.map_some, Option.getD_some]
          rw [Array.all_eq_true_iff_forall_mem]
          intro e he
          by_cases hb : Region.binds .any e = true
          · obtain ⟨k1, k2⟩ := hS.edge r _ hd e (by simpa using he) hb
            have := hS.anc r _ hd e.on k1 k2
            rw [hb, hlisted e.on (by omega) (fun hm => by have := hmin e.on hm; omega)]
            rfl
          · simp [hb]
        rw [hempty] at this
        cases this
    · intro i hi
      unfold Region.ready at hi
      rw [List.mem_filter] at hi
      obtain ⟨hi1, hi2⟩ := hi
      simp only [Bool.and_eq_true, Bool.not_eq_true'] at hi2
      have hisz := List.mem_range.1 hi1
      have hiR : i ∈ R := (hR i).2 ⟨hisz, hi2.1⟩
      have hd : ds[i]? = some ds[i] := List.getElem?_eq_getElem (by omega)
      generalize ds[i] = di at hd
      obtain ⟨ho, hg⟩ := hops i di hd
      rw [ho] at hi2
      simp only [Option.map_some, Option.getD_some] at hi2
      have hedges := Array.all_eq_true_iff_forall_mem.1 hi2.2
      have hgone : ∀ j, j < ops.size → listed.getD j false = true → j ∉ R := fun j hj hl hm => by
        have h1 := ((hR j).1 hm).2
        have hj' : j < listed.size := by omega
        simp only [Array.getD_eq_getD_getElem?, Array.getElem?_eq_getElem hj', Option.getD_some] at h1 hl
        rw [h1] at hl
        cases hl
      have hready : ∀ k, k ∈ R → k < ds.length → di.anc.testBit k = false := fun k hk hkl => by
        cases hb : di.anc.testBit k with
        | false => rfl
        | true =>
          obtain ⟨e, he, hbe, hj⟩ := hS.close i di k hd hkl hb
          have hl := hedges e (by simpa using he)
          rw [hbe] at hl
          simp only [Bool.not_true, Bool.false_or] at hl
          have hon : e.on < ops.size := by have := (hS.edge i di hd e he hbe).2; omega
          have hnon := hgone e.on hon hl
          rcases hj with rfl | ⟨x, hx, hxk⟩
          · exact absurd hk hnon
          · exact absurd hk (hcl e.on x hx hnon k hkl hxk)
      obtain ⟨B1, B2, rfl⟩ := List.append_of_mem hiR
      have hP1 : B1.Pairwise (· < ·) := (List.pairwise_append.1 hP).1
      have hlt1 : ∀ j ∈ B1, j < i := fun j hj => (List.pairwise_append.1 hP).2.2 j hj i (List.mem_cons_self ..)
      have hlt2 : ∀ j ∈ B2, i < j := fun j hj => List.rel_of_pairwise_cons (List.pairwise_append.1 hP).2.1 hj
      obtain ⟨f1, k1, k2⟩ := front hS hd hrun (fun j hj => ⟨hlt1 j hj, hready j (List.mem_append_left _ hj) (by have := hlt1 j hj; omega)⟩) hP1 (by simp)
        ⟨fun k d t hk => hN.noref k d t (hk.elim (List.mem_append_left _) (fun e => by rw [e]; exact hiR)), fun k d t hk => hN.plain k d t (hk.elim (List.mem_append_left _) (fun e => by rw [e]; exact hiR))⟩
      have hmem : ∀ k, k ∈ B1 ++ B2 ↔ k ∈ B1 ++ i :: B2 ∧ k ≠ i := fun k => by
        simp only [List.mem_append, List.mem_cons]
        constructor
        · rintro (hk | hk)
          · exact ⟨.inl hk, by have := hlt1 k hk; omega⟩
          · exact ⟨.inr (.inr hk), by have := hlt2 k hk; omega⟩
        · rintro ⟨hk | rfl | hk, hne⟩
          · exact .inl hk
          · exact absurd rfl hne
          · exact .inr hk
      have hN1 : Nv ds (· ∈ B1 ++ B2) f1 := by
        have : Nv ds (fun k => k ∈ B1 ++ i :: B2 ∧ k ≠ i) f1 := by
          cases k1 with
          | quiet q => exact hN.quiet hS hd hiR hready q
          | loud q _ => exact hN.loud q
        exact ⟨fun k d t hk => this.noref k d t ((hmem k).1 hk), fun k d t hk => this.plain k d t ((hmem k).1 hk)⟩
      refine step_wp hE hC ho hg h hs k1 fun a' w' K' O' q1 q2 q3 q4 => ?_
      refine drawn_any hE hC hS hops hlen (n := n) (R := B1 ++ B2) ?_ (k2.mono (by simp)) ?_ (fun k => ?_) (by simpa using hsz) (fun k d hkd hk j hj hjb => ?_) hN1 q1 q2.sat (fun a2 w2 K2 O2 r1 r2 r3 r4 => hQ a2 w2 K2 O2 r1 (q2.trans r2) (r3.trans q3) ((q4.mono fun t ht => List.mem_filterMap.2 ⟨di, List.mem_of_getElem? hd, ht⟩).trans r4))
      · simp only [List.length_append, List.length_cons] at hn ⊢; omega
      · rw [List.pairwise_append] at hP ⊢
        exact ⟨hP.1, List.Pairwise.of_cons hP.2.1, fun x hx y hy => hP.2.2 x hx y (List.mem_cons_of_mem _ hy)⟩
      · rw [hmem, hR k]
        by_cases hki : k = i
        · subst hki
          simp [Array.getD_eq_getD_getElem?, hsz, hisz]
        · simp [Array.getD_eq_getD_getElem?, Array.getElem?_setIfInBounds_ne (Ne.symm hki), hki]
      · intro hm
        have hmR := ((hmem j).1 hm).1
        by_cases hki : k = i
        · subst hki
          rw [hd] at hkd
          injection hkd with hkd
          subst hkd
          rw [hready j hmR hj] at hjb
          cases hjb
        · exact hcl k d hkd (fun hh => hk ((hmem k).2 ⟨hh, hki⟩)) j hj hjb hmR
end
end Go.E

namespace Go.E
open Go.RowKit

theorem guardsOf_get {ops : Array Oper} : ∀ {os : List Oper} {l : List (Oper × Guard)}, guardsOf ops os = some l → l.length = os.length ∧ ∀ (i : Nat) (o : Oper) (g : Guard), l[i]? = some (o, g) → os[i]? = some o ∧ guardOf ops o = some g
  | [], l, h => by simp only [guardsOf, Option.some.injEq] at h; subst h; simp
  | o :: os, l, h => by
    rw [guardsOf] at h
    split at h
    · rename_i g gs hg hgs
      simp only [Option.some.injEq] at h
      subst h
      obtain ⟨h1, h2⟩ := guardsOf_get hgs
      refine ⟨by simp [h1], fun i o' g' hi => ?_⟩
      cases i with
      | zero =>
        simp only [List.getElem?_cons_zero, Option.some.injEq, Prod.mk.injEq] at hi
        obtain ⟨rfl, rfl⟩ := hi
        exact ⟨rfl, hg⟩
      | succ i => simpa using h2 i o' g' (by simpa using hi)
    · cases h

def mkOne (all : List (Oper × Guard)) (anc : Array Nat) (i : Nat) (o : Oper) (g : Guard) : DOp :=
  let un := all.zipIdx.filter fun (_, j) => j != i && !(if j < i then (anc.getD i 0).testBit j else (anc.getD j 0).testBit i)
  { op := o, guard := g, anc := anc.getD i 0,
    uo := un.flatMap fun ((o', g'), _) => looks o' g',
    lights := (un.filter fun (_, j) => j < i).map (·.1),
    last := (all.zipIdx.all fun (_, j) => j ≤ i || (anc.getD j 0).testBit i) && (un.all fun ((o', _), j) => !(j < i) || !carriedBy all anc j o'),
    carried := carriedBy all anc i o }
theorem mkDOps_get {all : List (Oper × Guard)} {anc : Array Nat} {i : Nat} {d : DOp} : (mkDOps all anc)[i]? = some d ↔ ∃ o g, all[i]? = some (o, g) ∧ d = mkOne all anc i o g := by
  have e : mkDOps all anc = all.zipIdx.map fun p => mkOne all anc p.2 p.1.1 p.1.2 := rfl
  rw [e, List.getElem?_map, List.getElem?_zipIdx]
  cases h : all[i]? with
  | none => simp
  | some p =>
    obtain ⟨o, g⟩ := p
    simp only [Option.map_some, Option.some.injEq, Nat.zero_add, Prod.mk.injEq]
    constructor
    · rintro rfl; exact ⟨o, g, ⟨rfl, rfl⟩, rfl⟩
    · rintro ⟨o', g', ⟨rfl, rfl⟩, rfl⟩; rfl
theorem mkDOps_length {all : List (Oper × Guard)} {anc : Array Nat} : (mkDOps all anc).length = all.length := by
  have e : mkDOps all anc = all.zipIdx.map fun p => mkOne all anc p.2 p.1.1 p.1.2 := rfl
  rw [e]; simp

theorem mem_ix {α : Type} {l : List α} {i : Nat} {x : α} (h : l[i]? = some x) : (x, i) ∈ l.zipIdx := List.mem_zipIdx_iff_getElem?.2 h

theorem static_of {all : List (Oper × Guard)} {anc : Array Nat} (hok : okD (mkDOps all anc) = true) : Static (mkDOps all anc) := by
  unfold okD at hok
  rw [Bool.and_eq_true, Bool.and_eq_true, Bool.and_eq_true, Bool.and_eq_true] at hok
  obtain ⟨⟨⟨⟨h1, h2⟩, h3⟩, h4⟩, h5⟩ := hok
  rw [List.all_eq_true] at h1 h2 h3 h4 h5
  have un : ∀ {i j : Nat} {o o' : Oper} {g g' : Guard}, all[i]? = some (o, g) → all[j]? = some (o', g') → i ≠ j → (if j < i then (anc.getD i 0).testBit j else (anc.getD j 0).testBit i) = false →
      ((o', g'), j) ∈ all.zipIdx.filter fun (_, j) => j != i && !(if j < i then (anc.getD i 0).testBit j else (anc.getD j 0).testBit i) := by
    intro i j o o' g g' hi hj hij hun
    rw [List.mem_filter]
    refine ⟨mem_ix hj, ?_⟩
    simp only [hun, Bool.not_false, Bool.and_true, bne_iff_ne, ne_eq]
    exact fun e => hij e.symm
  refine ⟨?_, ?_, ?_, ?_, ?_, ?_, ?_, ?_, ?_⟩
  · intro i d hd j hj hjl
    have he : (mkDOps all anc)[j]? = some (mkDOps all anc)[j] := List.getElem?_eq_getElem hjl
    have := List.all_eq_true.1 (h1 (d, i) (mem_ix hd)) (_, j) (mem_ix he)
    simpa [hj] using this
  · intro i d hd e he hb
    have := List.all_eq_true.1 (h2 (d, i) (mem_ix hd)) e he
    simp only [hb, Bool.not_true, Bool.false_or, Bool.and_eq_true, decide_eq_true_eq] at this
    exact this
  · intro i d j hd hjl hj
    have he : (mkDOps all anc)[j]? = some (mkDOps all anc)[j] := List.getElem?_eq_getElem hjl
    have := List.all_eq_true.1 (h4 (d, i) (mem_ix hd)) (_, j) (mem_ix he)
    simp only [hj, Bool.not_true, Bool.false_or] at this
    obtain ⟨e, he, hh⟩ := List.any_eq_true.1 this
    simp only [Bool.and_eq_true, Bool.or_eq_true, beq_iff_eq] at hh
    refine ⟨e, he, hh.1, hh.2.imp id fun q => ?_⟩
    obtain ⟨⟨x, k⟩, hx, hk⟩ := List.any_eq_true.1 q
    simp only [Bool.and_eq_true, beq_iff_eq] at hk
    have := List.mem_zipIdx_iff_getElem?.1 hx
    rw [hk.1] at this
    exact ⟨x, this, hk.2⟩
  · intro i j d e t hd he hdt het
    have := List.all_eq_true.1 (h3 (d, i) (mem_ix hd)) (e, j) (mem_ix he)
    simp only [hdt, het] at this
    simpa using this
  · intro i d t k e hd ht he het
    have := List.all_eq_true.1 (List.all_eq_true.1 (h5 (d, i) (mem_ix hd)) t ht) (e, k) (mem_ix he)
    simp only [het, bne_self_eq_false, Bool.false_or, Bool.or_eq_true] at this
    exact this
  · intro i j d e hd he hij hun t ht
    obtain ⟨o, g, a1, rfl⟩ := mkDOps_get.1 hd
    obtain ⟨o', g', b1, rfl⟩ := mkDOps_get.1 he
    have hm := un a1 b1 hij hun
    show (List.flatMap _ _).contains t = true
    rw [List.contains_iff_mem]
    exact List.mem_flatMap.2 ⟨_, hm, ht⟩
  · intro i j d e hd he hlt hun
    obtain ⟨o, g, a1, rfl⟩ := mkDOps_get.1 hd
    obtain ⟨o', g', b1, rfl⟩ := mkDOps_get.1 he
    have hm := un a1 b1 (by omega) (by rw [if_pos hlt]; exact hun)
    exact List.mem_map.2 ⟨_, List.mem_filter.2 ⟨hm, by simpa using hlt⟩, rfl⟩
  · intro i d hd hlast
    obtain ⟨o, g, a1, rfl⟩ := mkDOps_get.1 hd
    have hlast : ((all.zipIdx.all fun (_, j) => j ≤ i || (anc.getD j 0).testBit i) && ((all.zipIdx.filter fun (_, j) => j != i && !(if j < i then (anc.getD i 0).testBit j else (anc.getD j 0).testBit i)).all fun ((o', _), j) => !(j < i) || !carriedBy all anc j o')) = true := hlast
    rw [Bool.and_eq_true, List.all_eq_true, List.all_eq_true] at hlast
    constructor
    · intro j e he hij
      obtain ⟨o', g', b1, rfl⟩ := mkDOps_get.1 he
      have := hlast.1 _ (mem_ix b1)
      simp only [Bool.or_eq_true, decide_eq_true_eq] at this
      rcases this with q | q
      · omega
      · exact q
    · intro j e he hji hun
      obtain ⟨o', g', b1, rfl⟩ := mkDOps_get.1 he
      have hm := un a1 b1 (by omega) (by rw [if_pos hji]; exact hun)
      have := hlast.2 _ hm
      show carriedBy all anc j o' = false
      simpa [hji] using this
  · intro i d t hd hc hdt j e he ht
    obtain ⟨o, g, a1, rfl⟩ := mkDOps_get.1 hd
    obtain ⟨o', g', b1, rfl⟩ := mkDOps_get.1 he
    have hc : carriedBy all anc i o = false := hc
    have hdt : o.dst = some t := hdt
    unfold carriedBy at hc
    rw [hdt] at hc
    simp only [List.any_eq_false] at hc
    have := hc _ (mem_ix b1)
    have ht : t ∈ looks o' g' := ht
    show (anc.getD j 0).testBit i = true
    simpa [ht] using this

section
variable {C : Cfg} {K : Kn} {w : World} {f g f' : Frame} {a : Array Value} {O : Nat → Own} {ds : List DOp} {fid : Nat} {call : CallF}

theorem stepD_ok {d : DOp} {f1 : Frame} (h : stepD C fid call d f = some f1) : QS C fid call d f f1 ∨ (LS C fid call d f f1 ∧ ∀ p ∈ d.lights, light C fid call f1 p = true) := by
  unfold stepD at h
  split at h
  · cases h
  · rename_i hg
    split at h
    · rename_i hf
      injection h with h
      subst h
      exact .inl ⟨[], .non, by unfold effD; rw [hg], rfl, by simp, hf⟩
    · cases h
  · rename_i hg
    split at h
    · rename_i cs x hq
      split at h
      · rename_i hc
        injection h with h
        subst h
        rw [Bool.and_eq_true, List.all_eq_true] at hc
        refine .inl ⟨cs, x, by unfold effD; rw [hg]; exact hq, rfl, fun c hcm => ?_, hc.2⟩
        have := hc.1 c hcm
        simpa using this
      · cases h
    · rename_i hq
      split at h
      · cases h
      rename_i hl
      split at h
      · rename_i f2 hld
        split at h
        · rename_i hli
          injection h with h
          subst h
          exact .inr ⟨⟨hg, hq, hld, by simpa using hl⟩, List.all_eq_true.1 hli⟩
        · cases h
      · cases h

theorem run_ok (hS : Static ds) : ∀ {m k : Nat} {f f' : Frame}, k + m = ds.length → runD C fid call (ds.drop k) f = some f' → RunOK C fid call ds (List.range k) f (List.range' k m) f'
  | 0, k, f, f', hk, h => by
    rw [List.drop_of_length_le (by omega)] at h
    simp only [runD, Option.some.injEq] at h
    subst h
    exact .nil
  | m + 1, k, f, f', hk, h => by
    have hlt : k < ds.length := by omega
    have hd : ds[k]? = some ds[k] := List.getElem?_eq_getElem hlt
    rw [List.drop_eq_getElem_cons hlt, runD] at h
    split at h
    · rename_i f1 h1
      have ih := run_ok hS (m := m) (k := k + 1) (by omega) h
      rw [List.range_succ] at ih
      rw [List.range'_succ]
      rcases stepD_ok h1 with q | ⟨q, ql⟩
      · exact .quiet hd q ih
      · exact .loud hd q (fun j hj e he hun => ql _ (hS.lights k j _ e hd he (List.mem_range.1 hj) hun)) ih
    · cases h

/-- Slots may be emptied. -/
theorem FR.thin (h : FR K w f a O) (hl : g.length = f.length) (hg : ∀ u, get g u = get f u ∨ get g u = .any) : ∃ O', FR K w g a O' ∧ ∀ u, (O' u).le (O u) := by
  let ls := (List.range f.length).filter fun u => isAny (get g u)
  have e : dropAll f ls = g := by
    refine frame_ext (by rw [dropAll_length, hl]) fun u => ?_
    rw [get_dropAll]
    by_cases hu : u ∈ ls
    · rw [if_pos hu]
      have := (List.mem_filter.1 hu).2
      cases hx : get g u <;> rw [hx] at this <;> simp [isAny] at this
    · rw [if_neg hu]
      rcases hg u with q | q
      · exact q.symm
      · by_cases hlt : u < f.length
        · exact absurd (List.mem_filter.2 ⟨List.mem_range.2 hlt, by rw [q]; rfl⟩) hu
        · rw [get_big (by omega), q]
  have := h.drop_all ls
  rw [e] at this
  refine ⟨_, this, fun u => ?_⟩
  by_cases hu : u ∈ ls
  · simp only [if_pos hu]; exact Own.no_le _
  · simp only [if_neg hu]; exact Own.le_refl _

theorem cleared_two (ks : List Nat) (d : Nat) (x : Slot) : cleared ks d x = x ∨ cleared ks d x = .any := by
  unfold cleared
  split
  · exact .inr rfl
  · cases x with
    | loc s p => simp only; split <;> simp
    | box s p => simp only; split <;> simp
    | view s p => simp only; split <;> simp
    | clo g cs => simp only; split <;> simp
    | _ => exact .inl rfl
theorem cleared_any (ks : List Nat) (d : Nat) : cleared ks d .any = .any := by rcases cleared_two ks d .any with e | e <;> exact e
theorem clearWith_get (ks : List Nat) : ∀ (l : List Nat) (f : Frame), (clearWith ks l f).length = f.length ∧ ∀ u, get (clearWith ks l f) u = cleared ks (l.getD u 0) (get f u)
  | [], f => by
    refine ⟨by simp [clearWith], fun u => ?_⟩
    rw [clearWith, get_map (cleared_any ks 0)]
    simp
  | d :: l, [] => by
    refine ⟨rfl, fun u => ?_⟩
    rw [clearWith, get_big (f := []) (by simp), cleared_any]
  | d :: l, x :: f => by
    obtain ⟨h1, h2⟩ := clearWith_get ks l f
    refine ⟨by simp [clearWith, h1], fun u => ?_⟩
    rw [clearWith]
    cases u with
    | zero => simp [get]
    | succ u => simpa [get] using h2 u
theorem get_clear (ks : List Nat) (f : Frame) (u : Nat) : get (clear ks f) u = cleared ks (ks.getD u 0) (get f u) := (clearWith_get ks ks f).2 u

theorem kinds_get {t : Nat} (h : ∃ d ∈ ds, d.op.dst = some t) : (kindsOf ds).getD t 0 = if ds.any fun d => d.op.dst == some t && d.carried then 2 else 1 := by
  obtain ⟨d, hd, ht⟩ := h
  have hm : t ∈ dstsOf ds := List.mem_filterMap.2 ⟨d, hd, ht⟩
  have hle : t ≤ natMax (dstsOf ds) := (foldl_max (dstsOf ds) 0).2 t hm
  unfold kindsOf
  rw [List.getD_eq_getElem?_getD, List.getElem?_map, List.getElem?_range (by omega)]
  simp only [Option.map_some, Option.getD_some]
  rw [if_pos (List.any_eq_true.2 ⟨d, hd, by simp [ht]⟩)]

theorem nv_clear (hS : Static ds) : Nv ds (· ∈ List.range' 0 ds.length) (clear (kindsOf ds) f) := by
  constructor
  · rintro k d t _ hd ht hc u
    have hk : (kindsOf ds).getD t 0 = 1 := by
      rw [kinds_get ⟨d, List.mem_of_getElem? hd, ht⟩, if_neg]
      intro hh
      obtain ⟨e, he, hq⟩ := List.any_eq_true.1 hh
      simp only [Bool.and_eq_true, beq_iff_eq] at hq
      obtain ⟨j, hj, rfl⟩ := List.getElem_of_mem he
      have := hS.dst k j d _ t hd (List.getElem?_eq_getElem hj) ht hq.1
      subst this
      rw [List.getElem?_eq_getElem hj] at hd
      injection hd with hd
      rw [hd, hc] at hq
      cases hq.2
    rw [get_clear]
    unfold cleared
    split
    · rfl
    · cases hx : get f u with
      | loc s p =>
        simp only
        split
        · rfl
        · rename_i hh
          simp only [Bool.or_eq_true, beq_iff_eq, not_or] at hh
          simp only [refersTo, beq_eq_false_iff_ne, ne_eq]
          rintro rfl
          exact hh.2 hk
      | box s p =>
        simp only
        split
        · rfl
        · rename_i hh
          simp only [Bool.or_eq_true, beq_iff_eq, not_or] at hh
          simp only [refersTo, beq_eq_false_iff_ne, ne_eq]
          rintro rfl
          exact hh.2 hk
      | view s p =>
        simp only
        split
        · rfl
        · rename_i hh
          simp only [Bool.or_eq_true, beq_iff_eq, not_or] at hh
          simp only [refersTo, beq_eq_false_iff_ne, ne_eq]
          rintro rfl
          exact hh.2 hk
      | clo q cs =>
        simp only
        split
        · rfl
        · rename_i hh
          simp only [Bool.or_eq_true, not_or, Bool.not_eq_true] at hh
          simp only [refersTo]
          rw [List.any_eq_false]
          intro c hcm
          have := (List.any_eq_false.1 hh.2) c hcm
          cases c with
          | slot i =>
            simp only [beq_iff_eq] at this ⊢
            rintro rfl
            exact this hk
          | ro y => simp
      | _ => rfl
  · rintro k d t _ hd ht s
    rw [get_clear, kinds_get ⟨d, List.mem_of_getElem? hd, ht⟩]
    split
    · unfold cleared
      rw [if_neg (by simp)]
      cases hx : get f t <;> simp [refersTo]
    · unfold cleared
      rw [if_pos (by simp)]
      rfl
end
end Go.E

namespace Go.E
open Go.RowKit

section
variable {C : Cfg} {K : Kn} {w : World} {f f2 : Frame} {a : Act} {O : Nat → Own}

theorem clr_kill (f : Frame) (s : Nat) (x : Slot) : (kill (f.set s .any) s []).set s x = (kill f s []).set s x := by
  unfold kill
  rw [List.map_set, List.set_set]

/-- The values behind a place become zero values. -/
theorem clr_ok (h : FR K w f a.tmps O) (hs : Sat K w) {o3 o4 : Oper} {t : TypeId} {ta tb tc : Nat} {cl : Call} (h3 : o3.op = .slice t (.tmp ta) (some (.tmp tb)) none none) (h4 : o4.op = .call cl) (hcl : cl.callee = .builtin .clear)
    (hargs : cl.args.toList = [.tmp tc]) (hts : cl.argTypes.toList = [t]) (hA : clrA C t ta tb tc f = some f2) :
    ∃ rv, (execOp a.eval o3).run C.P w = .ok (.value rv) w ∧ ∃ v w2, (execOp (a.put (some tc) rv).eval o4).run C.P w = .ok (.value v) w2 ∧ ∃ K' O', FR K' w2 f2 (a.put (some tc) rv).tmps O' ∧ Goes K w O K' w2 O' := by
  unfold clrA at hA
  split at hA
  case h_2 => cases hA
  rename_i s k n e hga hlb he
  split at hA
  case h_2 => cases hA
  rename_i st xs z hgs hz
  split at hA
  case isFalse => cases hA
  rename_i hc
  simp only [Bool.and_eq_true, beq_iff_eq, bne_iff_ne, ne_eq, decide_eq_true_eq] at hc
  obtain ⟨⟨⟨⟨hst, hst0⟩, hlz⟩, hn0, hn1⟩, htc⟩ := hc
  have hu := elemT_eq he
  have hsc : s ≠ tc := fun e => by
    subst e
    rcases Nat.lt_or_ge s f.length with q | q
    · rw [get_set_self q] at hgs; cases hgs
    · rw [get_big (by simpa using q)] at hgs; cases hgs
  have hgs0 : get f s = .v (.arr st xs) := by rw [get_set_ne hsc] at hgs; exact hgs
  have hsub : subAt f s [] = some (.arr st xs) := by simp [subAt, hgs0, rootOf, sub]
  have hva : vals a.tmps ta = vals a.tmps s := by
    have hsl := h.slot ta
    unfold SlotR at hsl
    rw [hga] at hsl
    rcases hsl _ hsub with ⟨_, _, e⟩ | ⟨_, b, o, k1, _⟩
    · exact e
    · rw [hgs0] at k1
      obtain ⟨_, _, _, _, _, _, _, e, _⟩ := k1
      cases e
  have hrel : rel K w (.arr st xs) [vals a.tmps s] (O s) := h.val hgs0
  have hrel0 := hrel
  rw [rel] at hrel
  -- the bounds
  have hlo : optInt C f 0 (some (.tmp tb)) = some n := by
    simp only [optInt, lookO, hlb]
  have hhi : optInt C f xs.length none = some (xs.length : Int) := rfl
  have hnn : (n.toNat : Int) = n := Int.toNat_of_nonneg hn0
  have hZ := run_sizeOf (C := C) (w := w) (t := e) (szT_some (by rw [← hst]; exact hst0))
  -- afterwards: the frame without the temporary
  have hput : ∀ rv, (a.put (some tc) rv).tmps = putA a.tmps (some tc) rv := fun rv => rfl
  have hfr : ∀ rv, ∃ K1 O1, FR K1 w (f.set tc .any) (a.put (some tc) rv).tmps O1 ∧ Goes K w O K1 w O1 := fun rv => by
    have := h.put_no (K := K) (w := w) (O := O) (Goes.refl hs) (x := .any) (v := rv) trivial (some tc)
    exact this
  have hvs : ∀ rv, vals (a.put (some tc) rv).tmps s = vals a.tmps s := fun rv => by
    rw [hput]; exact vals_set_ne hsc
  have hvc : ∀ rv, vals (a.put (some tc) rv).tmps tc = rv := fun rv => by
    rw [hput]; exact vals_set_self (by have := h.len; omega)
  have hB : ∀ cap, xs.length ≤ cap → (Instr.sliceBounds true xs.length cap (some (ev a.tmps (.tmp tb))) none none).run C.P w = .ok (n.toNat, xs.length, cap) w := fun cap hcap => by
    have := bounds_run (C := C) (w := w) (isS := true) (len := xs.length) (cap := cap) h hlo hhi hn0 hn1 (by omega)
    simpa using this
  have hslice : ∀ ad cap, vals a.tmps s = .slice ad xs.length cap → xs.length ≤ cap → (execOp a.eval o3).run C.P w = .ok (.value (.slice (if cap = n.toNat then ad else ad.map (·.add (n.toNat * szT C e))) (xs.length - n.toNat) (cap - n.toNat))) w := fun ad cap hv hcap => by
    have hv' : ev a.tmps (.tmp ta) = .slice ad xs.length cap := by
      show vals a.tmps ta = _
      rw [hva, hv]
    simp [execOp, h3, eval_ev, hv', Instr.sliceAt, Instr.slice, run_underlying hu, hB cap hcap, hZ]
  have hargs' : cl.args = #[.tmp tc] := by rw [← Array.toArray_toList (xs := cl.args), hargs]
  have hts' : cl.argTypes = #[t] := by rw [← Array.toArray_toList (xs := cl.argTypes), hts]
  have hclear : ∀ rv w2, (Builtin.clear_ #[t] o4.type #[rv]).run C.P w = .ok (.tuple #[]) w2 → (execOp (a.put (some tc) rv).eval o4).run C.P w = .ok (.value (.tuple #[])) w2 := fun rv w2 hr => by
    refine exec_builtin h4 hcl fun consts => ?_
    have hrv : ev (a.put (some tc) rv).tmps (.tmp tc) = rv := hvc rv
    rw [builtin]
    simp only [hargs', hts', List.map_toArray, List.map_cons, List.map_nil, hrv, Sem.run_bind, hr, Result.andThen_ok, Sem.run_pure]
  have hsetAt : f2 = (kill (f.set tc .any) s []).set s (.v (.arr st (xs.take n.toNat ++ List.replicate (xs.length - n.toNat) z))) := by
    unfold setAt updAt at hA
    rw [hgs] at hA
    simp only [rootOf, upd, setRoot, Option.some.injEq] at hA
    exact hA.symm
  have hnil : ∀ ad cap ty, (Builtin.clear_ #[t] ty #[.slice ad 0 cap]).run C.P w = .ok (.tuple #[]) w := fun ad cap ty => by
    cases ad <;> simp [Builtin.clear_, run_underlying hu]
  -- the frame afterwards
  have fin : ∀ rv w2, (∀ K1 O1, FR K1 w (f.set tc .any) (a.put (some tc) rv).tmps O1 → Sat K1 w → Keeps (O1 s) w w2 ∧ relV K1 w2 (.arr st (xs.take n.toNat ++ List.replicate (xs.length - n.toNat) z)) (vals a.tmps s) (O1 s)) →
      ∃ K' O', FR K' w2 f2 (a.put (some tc) rv).tmps O' ∧ Goes K w O K' w2 O' := fun rv w2 hh => by
    obtain ⟨K1, O1, k1, k2⟩ := hfr rv
    obtain ⟨g1, g2⟩ := hh K1 O1 k1 k2.sat
    have hdis : ∀ u, (O1 s).disj ((fun u => if u = s then Own.no else O1 u) u) := fun u => by
      by_cases hu : u = s
      · simp only [if_pos hu]; exact Own.disj_no _
      · simp only [if_neg hu]; exact k1.disj s u (Ne.symm hu)
    have h0 := (k1.drop s).world (Kn.le_refl K1) g1.met (fun u => g1.agree (hdis u) ((k1.drop s).lt u)) (k1.drop s).free g1.size
    have hb := k1.back_own h0 hgs rfl (fun u hu => .inl (get_set_ne hu)) (y' := .arr st (xs.take n.toNat ++ List.replicate (xs.length - n.toNat) z)) (Sy' := O1 s) (by rw [hvs]; exact g2) (k1.free s) (fun b o hb => Nat.lt_of_lt_of_le (k1.lt s b o hb) g1.size) (fun t _ => hdis t)
    rw [clr_kill, ← hsetAt] at hb
    refine ⟨K1, _, hb, k2.trans ⟨k2.sat.keep (k1.free s) g1, Kn.grows_refl K1 _, g1.mono (le_tot O1 s), ?_⟩⟩
    rintro b o ⟨u, hu⟩
    by_cases hus : u = s
    · simp only [if_pos hus] at hu; exact .inl ⟨s, hu⟩
    · simp only [if_neg hus] at hu; exact .inl ⟨u, hu⟩
  have hval : ∀ rv K1 O1, FR K1 w (f.set tc .any) (a.put (some tc) rv).tmps O1 → rel K1 w (.arr st xs) [vals a.tmps s] (O1 s) := fun rv K1 O1 k1 => by
    have : relV K1 w (.arr st xs) _ _ := k1.val hgs
    rw [hvs] at this
    exact this
  rcases hrel with ⟨rfl, ad, hv⟩ | ⟨b, c, cur, et, ys, S2, hv, hb, hcur, hlc, hcm, h0st, hlv, hbS, hS2, hS2d, hys, hrl⟩
  · -- nothing there
    injection hv with hv
    have hn : n.toNat = 0 := by simp at hn1; omega
    refine ⟨_, hslice ad 0 hv (by simp), _, w, hclear _ w ?_, fin _ w fun K1 O1 k1 hs1 => ⟨Keeps.refl _ _, ?_⟩⟩
    · simp only [List.length_nil, Nat.zero_sub]
      exact hnil _ _ _
    · have := hval _ K1 O1 k1
      rw [show (List.take n.toNat ([] : List AV) ++ List.replicate (([] : List AV).length - n.toNat) z) = [] by simp]
      exact this
  · injection hv with hv
    by_cases hm : xs.length - n.toNat = 0
    · refine ⟨_, hslice _ c hv hlc, _, w, hclear _ w ?_, fin _ w fun K1 O1 k1 hs1 => ⟨Keeps.refl _ _, ?_⟩⟩
      · rw [hm]
        exact hnil _ _ _
      · have := hval _ K1 O1 k1
        rw [hm, List.replicate_zero, List.append_nil, List.take_of_length_le (by omega)]
        exact this
    · -- zero values are written
      have hcn : ¬ c = n.toNat := by omega
      have hrun := hslice _ c hv hlc
      rw [if_neg hcn] at hrun
      obtain ⟨zv, z1, z2, z3, i, hi, hiz⟩ := zeroA_sound (K := K) (w := w) hz
      obtain ⟨cz, y1, y2, y3⟩ := relV_cells z2 (by intro ys e'; subst e'; simp [isTup] at z3)
      have hzs : zv.cells.size = st := by rw [← hlz, ← rel_len y1, ← y3]; simp
      obtain ⟨zs, hzs'⟩ : ∃ zs, zs = (List.replicate (xs.length - n.toNat) cz).flatten := ⟨_, rfl⟩
      have hzl : zs.length = (xs.length - n.toNat) * st := by rw [hzs', List.length_flatten]; simp [rel_len y1, hlz]
      have hzc : (Builtin.zeroCells zv.cells (xs.length - n.toNat)).toList = zs := by
        have := madeCells_list (z := zv.cells) (n := xs.length - n.toNat)
        rw [y3] at this
        rw [hzs', ← this]
        rfl
      have hmul : n.toNat * st + (xs.length - n.toNat) * st = xs.length * st := by rw [← Nat.add_mul]; congr 1; omega
      have hfit : n.toNat * st + zs.length ≤ cur.size := by
        rw [hzl, hmul, hcur]
        exact Nat.mul_le_mul_right _ hlc
      obtain ⟨q1, q2⟩ := setRow_rng hb (n.toNat * st) zs hfit
      obtain ⟨p1, p2, p3⟩ := setRow_keeps hb (n.toNat * st) zs hfit
      generalize hw2 : w.setRow b (cur.toList.take (n.toNat * st) ++ zs ++ cur.toList.drop (n.toNat * st + zs.length)).toArray = w2 at q1 q2 p1 p2
      have hone : ∀ v ∈ zs, v.oneCell' = true := by
        intro v hv'
        rw [hzs'] at hv'
        obtain ⟨l, hl, hvl⟩ := List.mem_flatten.1 hv'
        rw [List.eq_of_mem_replicate hl] at hvl
        exact rel_one y1 v hvl
      have hstore := run_storeCells_at C.P b (n.toNat * st) et zs 0 cur w hb (by simpa using hfit) hone
      rw [Nat.add_zero, hw2] at hstore
      refine ⟨_, hrun, _, w2, hclear _ w2 ?_, fin _ w2 fun K1 O1 k1 hs1 => ?_⟩
      · obtain ⟨m', hm'⟩ : ∃ m', xs.length - n.toNat = m' + 1 := ⟨xs.length - n.toNat - 1, by omega⟩
        rw [hm']
        rw [hm'] at hzc
        have hst2 : (storeCells ⟨b, n.toNat * szT C e, none⟩ (Builtin.zeroCells zv.cells (m' + 1)).toList).run C.P w = .ok () w2 := by
          rw [hzc, ← hst]; exact hstore
        simp [Builtin.clear_, run_underlying hu, z1, Addr.add_lit, hst2]
      · have hr1 := hval _ K1 O1 k1
        rw [rel] at hr1
        rcases hr1 with ⟨e0, _⟩ | ⟨b1, c1, cur1, et1, ys1, S1, hv1, hb1, hcur1, hlc1, hcm1, _, hlv1, hbS1, hS1, hS1d, hys1, hrl1⟩
        · rw [e0] at hm; simp at hm
        · injection hv1 with hv1
          rw [hv] at hv1
          injection hv1 with e1 e2 e3
          injection e1 with e1
          injection e1 with e1
          subst e1
          subst e3
          rw [hb] at hb1
          injection hb1 with hb1
          injection hb1 with e4 e5
          subst e4
          subst e5
          have hle : (rng b (n.toNat * st) zs.length).le (O1 s) := fun b' o' q => hbS1 b' o' q.1
          refine ⟨q1.mono hle, ?_⟩
          show rel K1 w2 _ _ _
          have hsp : xs = xs.take n.toNat ++ xs.drop n.toNat := (List.take_append_drop _ _).symm
          rw [hsp] at hrl1
          obtain ⟨d1, d2, rfl, m1, m2⟩ := relL_split hrl1
          have hd1 : d1.length = n.toNat * st := by
            rw [relL_len m1, leavesL_const (fun q hq => hlv1 q (List.mem_of_mem_take hq)), List.length_take, Nat.min_eq_left (by omega)]
          have hS1a : Agree S1 w w2 := q1.agree (fun b' o' x y => hS1d b' o' y x.1) (fun b' o' x => k1.lt s b' o' (hS1 b' o' x))
          have hnew : relL K1 w2 (xs.take n.toNat ++ List.replicate (xs.length - n.toNat) z) (d1 ++ zs) S1 := by
            obtain ⟨zv', _, z2', _, i', hi', hiz'⟩ := zeroA_sound (K := K1) (w := w2) hz
            rw [hi] at hi'
            injection hi' with hi'
            subst hi'
            rw [hiz] at hiz'
            injection hiz' with hiz'
            subst hiz'
            obtain ⟨cz', w1', _, w3'⟩ := relV_cells z2' (by intro ys e'; subst e'; simp [isTup] at z3)
            rw [y3] at w3'
            subst w3'
            rw [hzs']
            exact relL_append (relL_mono (Kn.le_refl K1) q1.met m1 hS1a (Own.le_refl _)) (relL_replicate w1' _) (Own.disj_no _) (Own.le_refl _) (Own.no_le _)
          rw [rel]
          refine .inr ⟨b, c, _, et, d1 ++ zs, S1, ?_, p2, by rw [p3, hcur], ?_, hcm, h0st, ?_, hbS1, hS1, hS1d, fun j v hj => ?_, hnew⟩
          · rw [hv]; simp; omega
          · simp; omega
          · intro q hq
            rcases List.mem_append.1 hq with hq | hq
            · exact hlv1 q (List.mem_of_mem_take hq)
            · rw [List.eq_of_mem_replicate hq]; exact hlz
          · rw [List.getElem?_toArray, List.append_assoc]
            rcases Nat.lt_or_ge j d1.length with hj1 | hj1
            · rw [List.getElem?_append_left hj1] at hj
              rw [List.getElem?_append_left (by rw [List.length_take, Array.length_toList]; omega), List.getElem?_take, if_pos (by omega), Array.getElem?_toList]
              exact hys1 j v (by rw [List.getElem?_append_left hj1]; exact hj)
            · rw [List.getElem?_append_right hj1] at hj
              have hj2 := (List.getElem?_eq_some_iff.1 hj).1
              have hmin : min (n.toNat * st) cur.toList.length = n.toNat * st := Nat.min_eq_left (by rw [Array.length_toList]; omega)
              rw [List.getElem?_append_right (by rw [List.length_take, Array.length_toList]; omega), List.length_take, hmin, ← hd1, List.getElem?_append_left hj2]
              exact hj
end
end Go.E

namespace Go.E
open Go.RowKit

def exitOf : Out → Exit
  | .normal => .normal
  | .exit i => .exit i
  | .ret => .ret

section
variable {C : Cfg} {fid : Nat} {call : CallF}

theorem region_pre (hE : ∀ t, C.eqT t = true → EqT C.P t) (hC : CallOK C call) {ops : Array Oper} {Q : Exit → Act → World → Prop} {L : List Nat} {os' : List Oper} : ∀ {os : List Oper} {gs : List (Oper × Guard)} {k : Nat} {f f' : Frame} {a : Act} {w : World} {K : Kn} {O : Nat → Own},
    ops.toList.drop k = os ++ os' → guardsOf ops os = some gs → runOps C fid call gs f = some f' → FR K w f a.tmps O → Sat K w →
    (∀ a' w' K' O', FR K' w' f' a'.tmps O' → Goes K w O K' w' O' → a'.defers = a.defers → TK a.tmps a'.tmps (fun t => t ∈ gs.filterMap (·.1.dst)) → wpOps C.P ops Q L a' w') → wpOps C.P ops Q (List.range' k os.length ++ L) a w
  | [], gs, k, f, f', a, w, K, O, hd, hg, hr, h, hs, hQ => by
    simp only [guardsOf, Option.some.injEq] at hg
    subst hg
    simp only [runOps, Option.some.injEq] at hr
    subst hr
    exact hQ a w K O h (Goes.refl hs) rfl (TK.refl _ _)
  | o :: os, gs, k, f, f', a, w, K, O, hd, hg, hr, h, hs, hQ => by
    have ho : ops[k]? = some o := by
      have : (ops.toList.drop k)[0]? = some o := by rw [hd]; rfl
      rw [List.getElem?_drop, Nat.add_zero, Array.getElem?_toList] at this
      exact this
    have hd' : ops.toList.drop (k + 1) = os ++ os' := by rw [← List.drop_drop, hd]; rfl
    rw [guardsOf] at hg
    split at hg
    · rename_i gd gs' hgd hgs
      simp only [Option.some.injEq] at hg
      subst hg
      rw [runOps] at hr
      split at hr
      · rename_i f1 h1
        rw [List.length_cons, List.range'_succ, List.cons_append, wpOps]
        rw [ho]
        simp only
        have next : ∀ {v : Value} {w' : World}, LPost K w O f1 a.tmps o.dst v w' → wpOps C.P ops Q (List.range' (k + 1) os.length ++ L) (a.put o.dst v) w' := by
          rintro v w' ⟨K', O', k1, k2⟩
          obtain ⟨e1, e2⟩ := putA_put a o.dst v
          refine region_pre hE hC hd' hgs hr (by rw [e1]; exact k1) k2.sat fun a2 w2 K2 O2 r1 r2 r3 r4 => hQ a2 w2 K2 O2 r1 (k2.trans r2) (r3.trans e2) ?_
          refine TK.trans ((TK.put a o.dst v).mono fun t ht => ?_) (r4.mono fun t ht => ?_)
          · exact List.mem_filterMap.2 ⟨(o, gd), List.mem_cons_self .., ht⟩
          · obtain ⟨q, hq, hqt⟩ := List.mem_filterMap.1 ht
            exact List.mem_filterMap.2 ⟨q, List.mem_cons_of_mem _ hq, hqt⟩
        unfold stepOp at h1
        split at h1
        · rename_i hgt
          rw [guard_sound hgd h hgt, if_pos rfl]
          left
          exact (evalOp_sound hE hC h hs h1) _ Q fun v w' hp => next hp
        · rename_i hgt
          rw [guard_sound hgd h hgt]
          simp only [Bool.false_eq_true, if_false]
          injection h1 with h1
          subst h1
          exact next (h.put_no (x := .non) (Goes.refl hs) rfl o.dst)
        · cases h1
      · cases hr
    · cases hg

theorem region_ops (hE : ∀ t, C.eqT t = true → EqT C.P t) (hC : CallOK C call) {ops : Array Oper} {Q : Exit → Act → World → Prop} {os : List Oper} {gs : List (Oper × Guard)} {k : Nat} {f f' : Frame} {a : Act} {w : World} {K : Kn} {O : Nat → Own}
    (hd : ops.toList.drop k = os) (hg : guardsOf ops os = some gs) (hr : runOps C fid call gs f = some f') (h : FR K w f a.tmps O) (hs : Sat K w)
    (hQ : ∀ a' w' K' O', FR K' w' f' a'.tmps O' → Goes K w O K' w' O' → a'.defers = a.defers → TK a.tmps a'.tmps (fun t => t ∈ gs.filterMap (·.1.dst)) → Q .normal a' w') : wpOps C.P ops Q (List.range' k os.length) a w := by
  have := region_pre (L := []) (os' := []) (Q := Q) hE hC (by rw [List.append_nil]; exact hd) hg hr h hs (fun a' w' K' O' h1 h2 h3 h4 => by rw [wpOps]; exact hQ a' w' K' O' h1 h2 h3 h4)
  rwa [List.append_nil] at this

theorem FR.drew {K : Kn} {w : World} {f : Frame} {a : Array Value} {O : Nat → Own} (h : FR K w f a O) : FR K { w with drawn := w.drawn + 1 } f a O :=
  h.world (Kn.le_refl K) (fun _ cs _ _ hb => ⟨cs, hb, rfl⟩) (fun _ => ⟨fun _ _ _ => rfl, fun _ _ => rfl⟩) h.free (Nat.le_refl _)
theorem Sat.drew {K : Kn} {w : World} (h : Sat K w) : Sat K { w with drawn := w.drawn + 1 } := ⟨h.cell, h.map⟩
theorem Keeps.drew (S : Own) (w : World) : Keeps S w { w with drawn := w.drawn + 1 } := ⟨fun _ cs _ _ hb => ⟨cs, hb, rfl⟩, Nat.le_refl _, fun _ _ _ _ => rfl, fun _ _ _ => rfl, rfl, rfl, rfl⟩

/-- A loop whose rounds are counted. -/
theorem wp_loop_down {P : Program} {c : Code} {Q : Exit → Act → World → Prop} (J : Nat → Act → World → Prop)
    (round : ∀ m a w, J m a w → c.wp P (Exit.then (fun a' w' => ∃ m', m' < m ∧ J m' a' w') Q) a w) {m : Nat} {a : Act} {w : World} (h0 : J m a w) : (Code.loop c).wp P Q a w := by
  intro b k cs
  have key : ∀ n a w, J n a w → ∃ e a' w', Q e a' w' ∧ Arrives P (lone (b.at a (.code c :: .inLoop c :: k)) cs w) b k cs e a' w' := by
    intro n
    induction n using Nat.strongRecOn with
    | _ n ih =>
      intro a w hI
      obtain ⟨e, a1, w1, hq, harr⟩ := round n a w hI b (.inLoop c :: k) cs
      cases e with
      | normal =>
        obtain ⟨m', hlt, hI1⟩ := hq
        obtain ⟨e2, a2, w2, hq2, harr2⟩ := ih m' hlt a1 w1 hI1
        exact ⟨e2, a2, w2, hq2, .of_steps (Steps.trans harr (.one step_inLoop)) harr2⟩
      | exit id => exact ⟨_, a1, w1, hq, .pass (x := .inLoop c) rfl (fun _ _ => .inl (by simp)) harr⟩
      | goto l => exact ⟨_, a1, w1, hq, .pass (x := .inLoop c) rfl (fun _ _ => .inl (by simp)) harr⟩
      | ret => exact ⟨_, a1, w1, hq, .pass (x := .inLoop c) rfl (fun _ _ => .inl (by simp)) harr⟩
      | panic ch => exact ⟨_, a1, w1, hq, .pass (x := .inLoop c) rfl (fun _ _ => .inl (by simp)) harr⟩
      | outgrown => exact ⟨_, a1, w1, hq, .pass (x := .inLoop c) rfl (fun _ _ => .inl (by simp)) harr⟩
  obtain ⟨e, a', w', hq, harr⟩ := key m a w h0
  exact ⟨e, a', w', hq, .of_steps (.one step_loop) harr⟩

/-- What code comes to. -/
def Comes' (K : Kn) (w : World) (O : Nat → Own) (f' : Frame) (a : Act) (W : Nat → Prop) (a' : Act) (w' : World) : Prop :=
  ∃ K' O', FR K' w' f' a'.tmps O' ∧ Goes K w O K' w' O' ∧ a'.defers = a.defers ∧ TK a.tmps a'.tmps W
theorem Comes'.trans {K : Kn} {w : World} {O : Nat → Own} {f1 f2 : Frame} {a : Act} {W W' : Nat → Prop} {a1 : Act} {w1 : World} {a2 : Act} {w2 : World} {K1 : Kn} {O1 : Nat → Own} (h : Goes K w O K1 w1 O1) (hd : a1.defers = a.defers) (ht : TK a.tmps a1.tmps W)
    (k : Comes' K1 w1 O1 f2 a1 W' a2 w2) (hw : ∀ t, W' t → W t) : Comes' K w O f2 a W a2 w2 := by
  obtain ⟨K2, O2, k1, k2, k3, k4⟩ := k
  exact ⟨K2, O2, k1, h.trans k2, k3.trans hd, ht.trans (k4.mono hw)⟩

theorem clrOf_eq {ops : Array Oper} {l : List (Oper × Guard)} {t ta tb tc : Nat} {d : Option Nat} (h : clrOf ops = some (l, t, ta, tb, tc, d)) :
    ∃ o1 o2 o3 o4 cl, ops.toList = [o1, o2] ++ [o3, o4] ∧ guardsOf ops [o1, o2] = some l ∧ o3.guard = none ∧ o4.guard = none ∧ o3.dst = some tc ∧ o4.dst = d ∧ o3.op = .slice t (.tmp ta) (some (.tmp tb)) none none ∧ o4.op = .call cl ∧ cl.callee = .builtin .clear ∧
      cl.args.toList = [.tmp tc] ∧ cl.argTypes.toList = [t] := by
  unfold clrOf at h
  split at h
  · rename_i o1 o2 o3 o4 ho
    split at h
    · rename_i c t' a' b' cl g3 g4 d3 p3 p4
      split at h
      · rename_i c' t2 l' q1 q2 q3 q4
        split at h
        · rename_i hc
          simp only [Bool.and_eq_true, beq_iff_eq] at hc
          obtain ⟨rfl, rfl⟩ := hc
          simp only [Option.some.injEq, Prod.mk.injEq] at h
          obtain ⟨rfl, rfl, rfl, rfl, rfl, rfl⟩ := h
          exact ⟨o1, o2, o3, o4, cl, ho, q4, g3, g4, d3, rfl, p3, p4, q1, q2, q3⟩
        · cases h
      · cases h
    · cases h
  · cases h

theorem clr_sound (hE : ∀ t, C.eqT t = true → EqT C.P t) (hC : CallOK C call) {ops : Array Oper} {l : List (Oper × Guard)} {t ta tb tc : Nat} {d : Option Nat} {f f1 f2 : Frame} {a : Act} {w : World} {K : Kn} {O : Nat → Own} {Q : Exit → Act → World → Prop}
    (hclr : clrOf ops = some (l, t, ta, tb, tc, d)) (h1 : runOps C fid call l f = some f1) (h2 : clrA C t ta tb tc f1 = some f2) (h : FR K w f a.tmps O) (hs : Sat K w)
    (hQ : ∀ a' w', Comes' K w O (putO f2 d .any) a (fun t' => t' ∈ writesOf (.clr l t ta tb tc d)) a' w' → Q .normal a' w') : wpOps C.P ops Q (List.range ops.size) a w := by
  obtain ⟨o1, o2, o3, o4, cl, ho, hl, g3, g4, d3, d4, p3, p4, q1, q2, q3⟩ := clrOf_eq hclr
  have hsz : ops.size = 4 := by rw [← Array.length_toList, ho]; rfl
  have hget : ∀ i o, ([o1, o2] ++ [o3, o4])[i]? = some o → ops[i]? = some o := fun i o hi => by rw [← Array.getElem?_toList, ho]; exact hi
  have e4 : List.range ops.size = List.range' 0 ([o1, o2] : List Oper).length ++ [2, 3] := by rw [hsz]; rfl
  rw [e4]
  refine region_pre (os' := [o3, o4]) hE hC (by rw [List.drop_zero]; exact ho) hl h1 h hs fun a1 w1 K1 O1 k1 k2 k3 k4 => ?_
  obtain ⟨rv, r1, v, w2, r2, K2, O2, r3, r4⟩ := clr_ok k1 k2.sat p3 p4 q1 q2 q3 h2
  have hw3 : ∀ {b : Act}, Region.wanted o3 (yielded ops b.tmps) = true := fun {b} => by simp [Region.wanted, g3]
  have hw4 : ∀ {b : Act}, Region.wanted o4 (yielded ops b.tmps) = true := fun {b} => by simp [Region.wanted, g4]
  rw [wpOps, hget 2 o3 rfl]
  simp only
  rw [hw3, if_pos rfl]
  left
  refine Does.value (R := fun v' w' => v' = rv ∧ w' = w1) r1 ⟨rfl, rfl⟩ _ Q ?_
  intro v' w' hvw
  rw [hvw.1, hvw.2]
  rw [d3, wpOps, hget 3 o4 rfl]
  simp only
  rw [hw4, if_pos rfl]
  left
  refine Does.value (R := fun v' w' => v' = v ∧ w' = w2) r2 ⟨rfl, rfl⟩ _ Q ?_
  intro v' w' hvw
  rw [hvw.1, hvw.2]
  rw [wpOps, d4]
  obtain ⟨K3, O3, s1, s2⟩ := r3.put_no (Goes.refl r4.sat) (x := .any) (v := v) trivial d
  obtain ⟨m1, m2⟩ := putA_put a1 (some tc) rv
  obtain ⟨n1, n2⟩ := putA_put (a1.put (some tc) rv) d v
  refine hQ _ _ ⟨K3, O3, by rw [n1]; exact s1, (k2.trans r4).trans s2, n2.trans (m2.trans k3), ?_⟩
  refine TK.trans (k4.mono fun t' ht => List.mem_append_left _ ht) (TK.trans ((TK.put a1 (some tc) rv).mono fun t' ht => ?_) ((TK.put _ d v).mono fun t' ht => ?_))
  · injection ht with ht
    subst ht
    exact List.mem_append_right _ (List.mem_cons_self ..)
  · subst ht
    exact List.mem_append_right _ (List.mem_cons_of_mem _ (by simp))

theorem frzAt_sound {f : Frame} {a : Array Value} {w : World} {K : Kn} {O : Nat → Own} (h : FR K w f a O) (hs : Sat K w) (s : Nat) (p : List Nat) : ∃ K' O', Froze K w a O K' (frzAt f s p) O' := by
  unfold frzAt
  split
  · rename_i x hg
    split
    · exact ⟨K, O, Froze.refl h hs⟩
    · rename_i hc
      simp only [Bool.or_eq_true, not_or, Bool.not_eq_true] at hc
      obtain ⟨K', O', k1, _⟩ := h.own_freeze hs hg hc.2
      exact ⟨K', O', k1⟩
  · rename_i x hg
    split
    · rename_i y hy
      split
      · rename_i z hz
        obtain ⟨K', O', _, _, _, k1, _⟩ := h.place_freeze hs hy (.inr ⟨x, hg⟩) hz
        exact ⟨K', O', k1⟩
      · exact ⟨K, O, Froze.refl h hs⟩
    · exact ⟨K, O, Froze.refl h hs⟩
  · split
    · rename_i y hy
      split
      · rename_i z hz
        obtain ⟨K', O', _, _, _, k1, _⟩ := h.place_freeze hs hy (.inl (by simp)) hz
        exact ⟨K', O', k1⟩
      · exact ⟨K, O, Froze.refl h hs⟩
    · exact ⟨K, O, Froze.refl h hs⟩
  · exact ⟨K, O, Froze.refl h hs⟩
theorem frzAll_sound {a : Array Value} {w : World} : ∀ (l : List (Nat × List Nat)) {f : Frame} {K : Kn} {O : Nat → Own}, FR K w f a O → Sat K w → ∃ K' O', Froze K w a O K' (frzAll l f) O'
  | [], f, K, O, h, hs => ⟨K, O, Froze.refl h hs⟩
  | (s, p) :: l, f, K, O, h, hs => by
    obtain ⟨K1, O1, k1⟩ := frzAt_sound h hs s p
    obtain ⟨K2, O2, k2⟩ := frzAll_sound l k1.fr k1.sat
    exact ⟨K2, O2, k1.trans k2⟩
theorem thinBy_get (m : Nat) : ∀ (f : Frame) (i : Nat), (thinBy m i f).length = f.length ∧ ∀ u, get (thinBy m i f) u = get f u ∨ get (thinBy m i f) u = .any
  | [], i => ⟨rfl, fun u => .inl rfl⟩
  | x :: f, i => by
    obtain ⟨h1, h2⟩ := thinBy_get m f (i + 1)
    refine ⟨by simp [thinBy, h1], fun u => ?_⟩
    cases u with
    | zero =>
      simp only [thinBy, get, List.getD_cons_zero]
      split
      · exact .inl rfl
      · exact .inr rfl
    | succ u =>
      have := h2 u
      simpa only [thinBy, get, List.getD_cons_succ] using this
theorem Comes'.tidy {K : Kn} {w : World} {O : Nat → Own} {f' : Frame} {a : Act} {W : Nat → Prop} {a' : Act} {w' : World} (h : Comes' K w O f' a W a' w') (m : Nat) (fs : List (Nat × List Nat)) : Comes' K w O (thinBy m 0 (frzAll fs f')) a W a' w' := by
  obtain ⟨K1, O1, k1, k2, k3, k4⟩ := h
  obtain ⟨K2, O2, r1⟩ := frzAll_sound fs k1 k2.sat
  obtain ⟨O3, t1, t2⟩ := r1.fr.thin (thinBy_get m (frzAll fs f') 0).1 (thinBy_get m (frzAll fs f') 0).2
  have hgo : Goes K1 w' O1 K2 w' O3 := ⟨r1.sat, r1.grows.mono (Own.le_or_l _ _), Keeps.refl _ _, Own.le_trans (Own.le_trans (tot_mono t2) (tot_mono r1.le)) (Own.le_or_l _ _)⟩
  exact ⟨K2, O3, t1, k2.trans hgo, k3, k4⟩
theorem hinted_eval {H : Hint} {k n : Nat} {e : ECode} {f f' : Frame} {out : Out} (h : evalCode C fid call n (hinted H k e) f = some (out, f')) :
    ∃ f1, evalCode C fid call n e f = some (out, f1) ∧ writesOf (hinted H k e) = writesOf e ∧ ((out ≠ .normal ∧ f' = f1) ∨ f' = f1 ∨ ∃ m fs, f' = thinBy m 0 (frzAll fs f1)) := by
  unfold hinted at h ⊢
  split at h
  · rename_i hk; exact ⟨f', h, rfl, .inr (.inl rfl)⟩
  · rename_i m fs hk
    rw [evalCode] at h
    refine (fun (x : ∃ f1, evalCode C fid call n e f = some (out, f1) ∧ ((out ≠ .normal ∧ f' = f1) ∨ f' = f1 ∨ ∃ m fs, f' = thinBy m 0 (frzAll fs f1))) => ?_) ?_
    · obtain ⟨f1, x1, x2⟩ := x
      exact ⟨f1, x1, by simp [writesOf], x2⟩
    · cases h1 : evalCode C fid call n e f with
      | none => rw [h1] at h; cases h
      | some r =>
        obtain ⟨o1, f1⟩ := r
        rw [h1] at h
        cases o1 with
        | normal =>
          simp only [evalCode, Option.some.injEq, Prod.mk.injEq] at h
          obtain ⟨rfl, rfl⟩ := h
          exact ⟨f1, rfl, .inr (.inr ⟨m, fs, rfl⟩)⟩
        | exit i =>
          simp only [Option.some.injEq, Prod.mk.injEq] at h
          obtain ⟨rfl, rfl⟩ := h
          exact ⟨f1, rfl, .inl ⟨by simp, rfl⟩⟩
        | ret =>
          simp only [Option.some.injEq, Prod.mk.injEq] at h
          obtain ⟨rfl, rfl⟩ := h
          exact ⟨f1, rfl, .inl ⟨by simp, rfl⟩⟩
theorem hinting_eval {H : Hint} {k n : Nat} {e : ECode} {f f' : Frame} {out : Out} (h : evalCode C fid call n (hinting H k e) f = some (out, f')) :
    ∃ f1, evalCode C fid call n e f1 = some (out, f') ∧ writesOf (hinting H k e) = writesOf e ∧ (f1 = f ∨ ∃ m fs, f1 = thinBy m 0 (frzAll fs f)) := by
  unfold hinting at h ⊢
  split at h
  · rename_i hk; exact ⟨f, h, rfl, .inl rfl⟩
  · rename_i m fs hk
    rw [evalCode] at h
    simp only [evalCode] at h
    exact ⟨_, h, by simp [writesOf], .inr ⟨m, fs, rfl⟩⟩
theorem Comes'.hinted {K : Kn} {w : World} {O : Nat → Own} {f1 f' : Frame} {a : Act} {W : Nat → Prop} {a' : Act} {w' : World} {out : Out} (h : Comes' K w O f1 a W a' w') (hf : (out ≠ .normal ∧ f' = f1) ∨ f' = f1 ∨ ∃ m fs, f' = thinBy m 0 (frzAll fs f1)) : Comes' K w O f' a W a' w' := by
  rcases hf with ⟨_, rfl⟩ | rfl | ⟨m, fs, rfl⟩
  · exact h
  · exact h
  · exact h.tidy m fs
theorem FR.hinting {K : Kn} {w : World} {O : Nat → Own} {f f1 : Frame} {a : Act} (h : FR K w f a.tmps O) (hs : Sat K w) (hf : f1 = f ∨ ∃ m fs, f1 = thinBy m 0 (frzAll fs f)) : ∃ K1 O1, FR K1 w f1 a.tmps O1 ∧ Goes K w O K1 w O1 := by
  rcases hf with rfl | ⟨m, fs, rfl⟩
  · exact ⟨K, O, h, Goes.refl hs⟩
  · obtain ⟨K1, O1, k1, k2, _, _⟩ := Comes'.tidy (a := a) (W := fun _ => True) ⟨K, O, h, Goes.refl hs, rfl, TK.refl _ _⟩ m fs
    exact ⟨K1, O1, k1, k2⟩

/-- What holds of code holds of the same with hints. -/
abbrev CoreOK (C : Cfg) (fid : Nat) (call : CallF) (n : Nat) (c : Code) (e : ECode) : Prop := ∀ (f f' : Frame) (out : Out) (a : Act) (w : World) (K : Kn) (O : Nat → Own) (Q : Exit → Act → World → Prop), evalCode C fid call n e f = some (out, f') → FR K w f a.tmps O → Sat K w → (∀ a' w', Comes' K w O f' a (fun t => t ∈ writesOf e) a' w' → Q (exitOf out) a' w') → c.wp C.P Q a w
theorem wrapA {H : Hint} {k n : Nat} {c : Code} {e : ECode} (core : CoreOK C fid call n c e) : CoreOK C fid call n c (hinted H k e) := by
  intro f f' out a w K O Q hev h hs hQ
  obtain ⟨f1, e1, e2, e3⟩ := hinted_eval hev
  refine core _ _ _ _ _ _ _ _ e1 h hs fun a' w' hh => hQ a' w' ?_
  rw [e2]
  exact hh.hinted e3
theorem wrapB {H : Hint} {k n : Nat} {c : Code} {e : ECode} (core : CoreOK C fid call n c e) : CoreOK C fid call n c (hinting H k e) := by
  intro f f' out a w K O Q hev h hs hQ
  obtain ⟨f1, e1, e2, e3⟩ := hinting_eval hev
  obtain ⟨K1, O1, k1, k2⟩ := h.hinting hs e3
  refine core _ _ _ _ _ _ _ _ e1 k1 k2.sat fun a' w' hh => hQ a' w' ?_
  rw [e2]
  obtain ⟨K3, O3, m1, m2, m3, m4⟩ := hh
  exact ⟨K3, O3, m1, k2.trans m2, m3, m4⟩

theorem mkDOpsH_eq {cm lm : Nat} {l : List (Oper × Guard)} {anc : Array Nat} (h : flagsOK cm lm (mkDOps l anc) = true) : mkDOpsH cm lm l anc = mkDOps l anc := by
  have e : mkDOps l anc = l.zipIdx.map fun p => mkOne l anc p.2 p.1.1 p.1.2 := rfl
  have e2 : mkDOpsH cm lm l anc = l.zipIdx.map fun p => { mkOne l anc p.2 p.1.1 p.1.2 with last := lm.testBit p.2, carried := cm.testBit p.2 } := rfl
  rw [e2, e]
  refine List.map_congr_left fun p hp => ?_
  obtain ⟨x, i⟩ := p
  obtain ⟨k, hk⟩ := List.getElem?_of_mem hp
  rw [List.getElem?_zipIdx] at hk
  simp only [Option.map_eq_some_iff, Prod.mk.injEq, Nat.zero_add] at hk
  obtain ⟨y, hy, rfl, rfl⟩ := hk
  have hd : (mkDOps l anc)[k]? = some (mkOne l anc k y.1 y.2) := by
    rw [e, List.getElem?_map, List.getElem?_zipIdx, hy]
    simp
  have hm : (mkOne l anc k y.1 y.2, k) ∈ (mkDOps l anc).zipIdx := by
    rw [List.mem_iff_getElem?]
    exact ⟨k, by rw [List.getElem?_zipIdx, hd]; simp⟩
  have := List.all_eq_true.1 h _ hm
  simp only [Bool.and_eq_true, beq_iff_eq] at this
  simp only
  rw [← this.1, ← this.2]
theorem drawnOf_eq {H : Hint} {id : Nat} {l : List (Oper × Guard)} {anc : Array Nat} (h : (match H.drawn id with
      | none => true
      | some (ks, cm, lm) => ks == kindsOf (mkDOps l anc) && flagsOK cm lm (mkDOps l anc)) = true) : drawnOf H id l anc = .drawn (kindsOf (mkDOps l anc)) (mkDOps l anc) := by
  unfold drawnOf
  split
  · rfl
  · rename_i ks cm lm hd
    rw [hd] at h
    simp only [Bool.and_eq_true, beq_iff_eq] at h
    rw [mkDOpsH_eq h.2, h.1]
theorem code_sound (hE : ∀ t, C.eqT t = true → EqT C.P t) (hC : CallOK C call) (hM : C.P.follows .mixedOrders = true) {H : Hint} {n : Nat} : ∀ (c : Code) {cur : Nat} {e : ECode} {f f' : Frame} {out : Out} {a : Act} {w : World} {K : Kn} {O : Nat → Own} {Q : Exit → Act → World → Prop},
    compile H cur c = some e → okC H c = true → evalCode C fid call n e f = some (out, f') → FR K w f a.tmps O → Sat K w → (∀ a' w', Comes' K w O f' a (fun t => t ∈ writesOf e) a' w' → Q (exitOf out) a' w') → c.wp C.P Q a w
  | .skip, cur, e, f, f', out, a, w, K, O, Q, hc, hk, hev, h, hs, hQ => by
    simp only [compile, Option.some.injEq] at hc
    subst hc
    simp only [evalCode, Option.some.injEq, Prod.mk.injEq] at hev
    obtain ⟨rfl, rfl⟩ := hev
    exact wp_skip (hQ a w ⟨K, O, h, Goes.refl hs, rfl, TK.refl _ _⟩)
  | .label l, cur, e, f, f', out, a, w, K, O, Q, hc, hk, hev, h, hs, hQ => by
    simp only [compile, Option.some.injEq] at hc
    subst hc
    simp only [evalCode, Option.some.injEq, Prod.mk.injEq] at hev
    obtain ⟨rfl, rfl⟩ := hev
    exact wp_label (hQ a w ⟨K, O, h, Goes.refl hs, rfl, TK.refl _ _⟩)
  | .region id ops false, cur, e, f, f', out, a, w, K, O, Q, hc, hk, hev, h, hs, hQ => by
    rw [compile] at hc
    split at hc
    · rename_i l t ta tb tc d hclr
      simp only [Option.some.injEq] at hc
      subst hc
      rw [evalCode] at hev
      split at hev
      · rename_i f1 h1
        split at hev
        · rename_i f2 h2
          simp only [Option.some.injEq, Prod.mk.injEq] at hev
          obtain ⟨rfl, rfl⟩ := hev
          refine wp_region ?_
          exact clr_sound hE hC hclr h1 h2 h hs hQ
        · cases hev
      · cases hev
    · split at hc
      · rename_i l hl
        simp only [Option.some.injEq] at hc
        subst hc
        refine wrapB (wrapA (c := .region id ops false) (e := .region l) ?_) _ _ _ _ _ _ _ _ hev h hs hQ
        intro f f' out a w K O Q hev h hs hQ
        rw [evalCode] at hev
        split at hev
        · rename_i f1 h1
          simp only [Option.some.injEq, Prod.mk.injEq] at hev
          obtain ⟨rfl, rfl⟩ := hev
          refine wp_region ?_
          have := region_ops (Q := Q) hE hC (k := 0) rfl hl h1 h hs fun a' w' K' O' r1 r2 r3 r4 => hQ a' w' ⟨K', O', r1, r2, r3, r4⟩
          rw [List.drop_zero, Array.length_toList] at this
          rw [List.range_eq_range']
          exact this
        · cases hev
      · cases hc
  | .region id ops true, cur, e, f, f', out, a, w, K, O, Q, hc, hk, hev, h, hs, hQ => by
    rw [compile] at hc
    split at hc
    · rename_i l hl
      simp only [Option.some.injEq] at hc
      subst hc
      simp only [okC, hl, Bool.and_eq_true] at hk
      obtain ⟨hok, hk⟩ := hk
      rw [drawnOf_eq hk] at hev hQ
      · skip
        refine wrapB (wrapA (c := .region id ops true) (e := .drawn (kindsOf (mkDOps l (Region.before ops))) (mkDOps l (Region.before ops))) ?_) _ _ _ _ _ _ _ _ hev h hs hQ
        intro f f' out a w K O Q hev h hs hQ
        rw [evalCode] at hev
        split at hev
        · rename_i f1 h1
          simp only [Option.some.injEq, Prod.mk.injEq] at hev
          obtain ⟨rfl, rfl⟩ := hev
          have hS := static_of hok
          obtain ⟨g1, g2⟩ := guardsOf_get hl
          have hlen : (mkDOps l (Region.before ops)).length = ops.size := by rw [mkDOps_length, g1, Array.length_toList]
          have hrun := run_ok hS (m := (mkDOps l (Region.before ops)).length) (k := 0) (by omega) (by rw [List.drop_zero]; exact h1)
          obtain ⟨O1, t1, t2⟩ := FR.thin h.drew ((clearWith_get (kindsOf (mkDOps l (Region.before ops))) (kindsOf (mkDOps l (Region.before ops))) f).1) (fun u => by
            have := get_clear (kindsOf (mkDOps l (Region.before ops))) f u
            have e2 := cleared_two (kindsOf (mkDOps l (Region.before ops))) ((kindsOf (mkDOps l (Region.before ops))).getD u 0) (get f u)
            rw [← this] at e2
            exact e2)
          have hgo : Goes K w O K { w with drawn := w.drawn + 1 } O1 := ⟨hs.drew, Kn.grows_refl K _, Keeps.drew _ _, Own.le_trans (tot_mono t2) (Own.le_or_l _ _)⟩
          refine wp_region_any hM (drawn_any hE hC hS (fun i d hd => ?_) hlen (R := List.range' 0 (mkDOps l (Region.before ops)).length) (by rw [List.length_range', hlen]) (hrun.mono (by simp)) ?_ (fun i => ?_) (by simp) (fun i d hd hi j hj hb => ?_) (nv_clear hS) t1 hs.drew (fun a' w' K' O' r1 r2 r3 r4 => hQ a' w' ⟨K', O', r1, hgo.trans r2, r3, r4⟩))
          · obtain ⟨o, g, q1, rfl⟩ := mkDOps_get.1 hd
            obtain ⟨q2, q3⟩ := g2 i o g q1
            exact ⟨by rw [← Array.getElem?_toList]; exact q2, q3⟩
          · rw [← List.range_eq_range']; exact List.pairwise_lt_range
          · rw [List.mem_range'_1, hlen, Nat.zero_add]
            constructor
            · rintro ⟨_, hi⟩; exact ⟨hi, by simp [Array.getD_eq_getD_getElem?, hi]⟩
            · rintro ⟨hi, _⟩; exact ⟨Nat.zero_le _, hi⟩
          · exact absurd (List.mem_range'_1.2 ⟨Nat.zero_le _, by have := idx_lt hd; omega⟩) hi
        · cases hev
    · cases hc
  | .seq x y, cur, e, f, f', out, a, w, K, O, Q, hc, hk, hev, h, hs, hQ => by
    rw [compile] at hc
    split at hc
    · rename_i ex ey hx hy
      simp only [Option.some.injEq] at hc
      subst hc
      simp only [okC, Bool.and_eq_true] at hk
      rw [evalCode] at hev
      have hW1 : ∀ t, t ∈ writesOf ex → t ∈ writesOf (.seq ex ey) := fun t ht => List.mem_append_left _ ht
      have hW2 : ∀ t, t ∈ writesOf ey → t ∈ writesOf (.seq ex ey) := fun t ht => List.mem_append_right _ ht
      cases h1 : evalCode C fid call n ex f with
      | none => rw [h1] at hev; cases hev
      | some r =>
        obtain ⟨o1, f1⟩ := r
        rw [h1] at hev
        cases o1 with
        | normal =>
          refine wp_seq (code_sound hE hC hM x hx hk.1 h1 h hs ?_)
          rintro a1 w1 ⟨K1, O1, k1, k2, k3, k4⟩
          exact code_sound hE hC hM y hy hk.2 hev k1 k2.sat fun a2 w2 hh => hQ a2 w2 (Comes'.trans (f1 := f1) k2 k3 (k4.mono hW1) hh hW2)
        | exit i =>
          simp only [Option.some.injEq, Prod.mk.injEq] at hev
          obtain ⟨rfl, rfl⟩ := hev
          refine wp_seq (code_sound hE hC hM x hx hk.1 h1 h hs ?_)
          rintro a1 w1 ⟨K1, O1, k1, k2, k3, k4⟩
          exact hQ a1 w1 ⟨K1, O1, k1, k2, k3, k4.mono hW1⟩
        | ret =>
          simp only [Option.some.injEq, Prod.mk.injEq] at hev
          obtain ⟨rfl, rfl⟩ := hev
          refine wp_seq (code_sound hE hC hM x hx hk.1 h1 h hs ?_)
          rintro a1 w1 ⟨K1, O1, k1, k2, k3, k4⟩
          exact hQ a1 w1 ⟨K1, O1, k1, k2, k3, k4.mono hW1⟩
    · cases hc
  | .cond c x y, cur, e, f, f', out, a, w, K, O, Q, hc, hk, hev, h, hs, hQ => by
    rw [compile] at hc
    split at hc
    · rename_i ex ey hx hy
      simp only [Option.some.injEq] at hc
      subst hc
      simp only [okC, Bool.and_eq_true] at hk
      rw [evalCode] at hev
      split at hev
      · rename_i hb
        obtain ⟨S, _, hv⟩ := lookO_sound h hb
        refine wp_cond_true (by rw [eval_ev]; exact bool_of hv) (code_sound hE hC hM x hx hk.1 hev h hs ?_)
        rintro a1 w1 ⟨K1, O1, k1, k2, k3, k4⟩
        exact hQ a1 w1 ⟨K1, O1, k1, k2, k3, k4.mono fun t ht => List.mem_append_left _ ht⟩
      · rename_i hb
        obtain ⟨S, _, hv⟩ := lookO_sound h hb
        refine wp_cond_false (by rw [eval_ev]; exact bool_of hv) (code_sound hE hC hM y hy hk.2 hev h hs ?_)
        rintro a1 w1 ⟨K1, O1, k1, k2, k3, k4⟩
        exact hQ a1 w1 ⟨K1, O1, k1, k2, k3, k4.mono fun t ht => List.mem_append_right _ ht⟩
      · cases hev
    · cases hc
  | .block id b, cur, e, f, f', out, a, w, K, O, Q, hc, hk, hev, h, hs, hQ => by
    rw [compile] at hc
    split at hc
    · rename_i eb hb
      simp only [Option.some.injEq] at hc
      subst hc
      simp only [okC] at hk
      refine wrapA (c := .block id b) (e := .block id eb) ?_ _ _ _ _ _ _ _ _ hev h hs hQ
      intro f f' out a w K O Q hev h hs hQ
      rw [evalCode] at hev
      cases h1 : evalCode C fid call n eb f with
      | none => rw [h1] at hev; cases hev
      | some r =>
        obtain ⟨o1, f1⟩ := r
        rw [h1] at hev
        refine wp_block (code_sound hE hC hM b hb hk h1 h hs fun a1 w1 hh => ?_)
        cases o1 with
        | normal =>
          simp only [Option.some.injEq, Prod.mk.injEq] at hev
          obtain ⟨rfl, rfl⟩ := hev
          exact hQ a1 w1 hh
        | exit i =>
          simp only at hev
          split at hev
          · rename_i hi
            have hi : i = id := by simpa using hi
            simp only [Option.some.injEq, Prod.mk.injEq] at hev
            obtain ⟨rfl, rfl⟩ := hev
            show (if i = id then Q .normal a1 w1 else Q (.exit i) a1 w1)
            rw [if_pos hi]
            exact hQ a1 w1 hh
          · rename_i hi
            have hi : ¬ i = id := by simpa using hi
            simp only [Option.some.injEq, Prod.mk.injEq] at hev
            obtain ⟨rfl, rfl⟩ := hev
            show (if i = id then Q .normal a1 w1 else Q (.exit i) a1 w1)
            rw [if_neg hi]
            exact hQ a1 w1 hh
        | ret =>
          simp only [Option.some.injEq, Prod.mk.injEq] at hev
          obtain ⟨rfl, rfl⟩ := hev
          exact hQ a1 w1 hh
    · cases hc
  | .loop b, cur, e, f, f', out, a, w, K, O, Q, hc, hk, hev, h, hs, hQ => by
    rw [compile] at hc
    split at hc
    · rename_i eb hb
      simp only [Option.some.injEq] at hc
      subst hc
      simp only [okC] at hk
      refine wrapB (c := .loop b) (e := .loop (hinted H (4 * cur + 1) eb)) ?_ _ _ _ _ _ _ _ _ hev h hs hQ
      intro f f' out a w K O Q hev h hs hQ
      rw [evalCode] at hev
      refine wp_loop_down (m := n) (fun m a1 w1 => ∃ K1 O1 f1, FR K1 w1 f1 a1.tmps O1 ∧ Goes K w O K1 w1 O1 ∧ a1.defers = a.defers ∧ TK a.tmps a1.tmps (fun t => t ∈ writesOf (hinted H (4 * cur + 1) eb)) ∧ iter (evalCode C fid call n (hinted H (4 * cur + 1) eb)) m f1 = some (out, f')) ?_ ⟨K, O, f, h, Goes.refl hs, rfl, TK.refl _ _, hev⟩
      rintro m a1 w1 ⟨K1, O1, f1, k1, k2, k3, k4, k5⟩
      cases m with
      | zero => simp [iter] at k5
      | succ m =>
        rw [iter] at k5
        cases h1 : evalCode C fid call n (hinted H (4 * cur + 1) eb) f1 with
        | none => rw [h1] at k5; cases k5
        | some r =>
          obtain ⟨o1, f2⟩ := r
          rw [h1] at k5
          refine wrapA (c := b) (e := eb) (fun _ _ _ _ _ _ _ _ hev h hs hQ => code_sound hE hC hM b hb hk hev h hs hQ) _ _ _ _ _ _ _ _ h1 k1 k2.sat fun a2 w2 hh => ?_
          obtain ⟨K2, O2, m1, m2, m3, m4⟩ := Comes'.trans (f1 := f2) k2 k3 k4 hh (fun t ht => ht)
          cases o1 with
          | normal => exact ⟨m, Nat.lt_succ_self m, K2, O2, f2, m1, m2, m3, m4, k5⟩
          | exit i =>
            simp only [Option.some.injEq, Prod.mk.injEq] at k5
            obtain ⟨rfl, rfl⟩ := k5
            exact hQ a2 w2 ⟨K2, O2, m1, m2, m3, m4⟩
          | ret =>
            simp only [Option.some.injEq, Prod.mk.injEq] at k5
            obtain ⟨rfl, rfl⟩ := k5
            exact hQ a2 w2 ⟨K2, O2, m1, m2, m3, m4⟩
    · cases hc
  | .scope b, cur, e, f, f', out, a, w, K, O, Q, hc, hk, hev, h, hs, hQ => by
    rw [compile] at hc
    refine wp_scope_straight (code_sound hE hC hM b hc (by simpa only [okC] using hk) hev h hs fun a1 w1 hh => ?_)
    cases out <;> exact hQ a1 w1 hh
  | .exit id, cur, e, f, f', out, a, w, K, O, Q, hc, hk, hev, h, hs, hQ => by
    simp only [compile, Option.some.injEq] at hc
    subst hc
    simp only [evalCode, Option.some.injEq, Prod.mk.injEq] at hev
    obtain ⟨rfl, rfl⟩ := hev
    exact wp_exit (hQ a w ⟨K, O, h, Goes.refl hs, rfl, TK.refl _ _⟩)
  | .ret, cur, e, f, f', out, a, w, K, O, Q, hc, hk, hev, h, hs, hQ => by
    simp only [compile, Option.some.injEq] at hc
    subst hc
    simp only [evalCode, Option.some.injEq, Prod.mk.injEq] at hev
    obtain ⟨rfl, rfl⟩ := hev
    exact wp_ret (hQ a w ⟨K, O, h, Goes.refl hs, rfl, TK.refl _ _⟩)
  | .rangeFunc _ _ _ _, cur, e, f, f', out, a, w, K, O, Q, hc, _, _, _, _, _ => by simp [compile] at hc
  | .goto _, cur, e, f, f', out, a, w, K, O, Q, hc, _, _, _, _, _ => by simp [compile] at hc
  | .refuse _, cur, e, f, f', out, a, w, K, O, Q, hc, _, _, _, _, _ => by simp [compile] at hc
end
end Go.E

namespace Go.E
open Go.RowKit

section
variable {C : Cfg} {K : Kn} {w : World} {f g : Frame} {a : Array Value} {O : Nat → Own}

theorem CapsR_congr {f g : Frame} {a b : Nat → Value} (hf : ∀ u, get g u = get f u) (ha : ∀ u, b u = a u) : ∀ {cs : List Cap} {vs : List Value}, CapsR K w f a cs vs → CapsR K w g b cs vs
  | [], _, h => h
  | c :: cs, _, h => by
    obtain ⟨v, vs', rfl, h1, h2⟩ := h
    refine ⟨v, vs', rfl, ?_, CapsR_congr hf ha h2⟩
    cases c with
    | slot c => intro x hx; rw [hf] at hx; rw [ha]; exact h1 x hx
    | ro x => exact h1
theorem SlotR_congr {f g : Frame} {a b : Nat → Value} {t : Nat} {S : Own} (hf : ∀ u, get g u = get f u) (ha : ∀ u, b u = a u) (h : SlotR K w f a t S) : SlotR K w g b t S := by
  have hsub : ∀ s p, subAt g s p = subAt f s p := fun s p => by unfold subAt; rw [hf]
  unfold SlotR at h ⊢
  rw [hf]
  cases hg : get f t with
  | any => trivial
  | non => rw [hg] at h; rw [ha]; exact h
  | v x => rw [hg] at h; rw [ha]; exact h
  | cell x => rw [hg] at h; rw [ha]; exact h
  | loc s p => rw [hg] at h; simp only [hsub, hf, ha]; exact h
  | box s p => rw [hg] at h; simp only [hsub, hf, ha]; exact h
  | view s p => rw [hg] at h; simp only [hsub, hf, ha]; exact h
  | clo q cs => rw [hg] at h; obtain ⟨vs, h1, h2⟩ := h; exact ⟨vs, by rw [ha]; exact h1, CapsR_congr hf ha h2⟩

/-- More slots, of which nothing is said. -/
theorem FR.extend (h : FR K w f a O) (n : Nat) : FR K w (f ++ List.replicate n .any) (a ++ Array.replicate n undef) O := by
  have hf : ∀ u, get (f ++ List.replicate n .any) u = get f u := fun u => by
    simp only [get, List.getD_eq_getElem?_getD]
    rcases Nat.lt_or_ge u f.length with hu | hu
    · rw [List.getElem?_append_left hu]
    · rw [List.getElem?_append_right hu, List.getElem?_eq_none hu, List.getElem?_replicate]
      split <;> rfl
  have ha : ∀ u, vals (a ++ Array.replicate n undef) u = vals a u := fun u => by
    simp only [vals, Array.getD_eq_getD_getElem?]
    rcases Nat.lt_or_ge u a.size with hu | hu
    · rw [Array.getElem?_append_left hu]
    · rw [Array.getElem?_append_right hu, Array.getElem?_eq_none hu, Array.getElem?_replicate]
      split <;> rfl
  exact ⟨by simp [h.len], fun t => SlotR_congr hf ha (h.slot t), h.disj, h.free, h.lt⟩

theorem outsOf_get : ∀ (bs : List Bool) (n : Nat) (f : Frame), n ≤ f.length → (outsOf bs n f).length = n ∧ ∀ u, get (outsOf bs n f) u = if u < n then (if bs.getD u false then .any else get f u) else .any
  | bs, 0, f, _ => by
    have : outsOf bs 0 f = [] := by unfold outsOf; rfl
    rw [this]
    exact ⟨rfl, fun u => by simp [get]⟩
  | bs, n + 1, [], h => by simp at h
  | [], n + 1, x :: f, h => by
    obtain ⟨h1, h2⟩ := outsOf_get [] n f (by simpa using h)
    refine ⟨by simp [outsOf, h1], fun u => ?_⟩
    cases u with
    | zero => simp [outsOf, get]
    | succ u =>
      have := h2 u
      simp only [get, List.getD_eq_getElem?_getD] at this
      simp [outsOf, get, List.getD_eq_getElem?_getD, this]
  | b :: bs, n + 1, x :: f, h => by
    obtain ⟨h1, h2⟩ := outsOf_get bs n f (by simpa using h)
    refine ⟨by simp [outsOf, h1], fun u => ?_⟩
    cases u with
    | zero => simp [outsOf, get]
    | succ u =>
      have := h2 u
      simp only [get, List.getD_eq_getElem?_getD] at this
      simp [outsOf, get, List.getD_eq_getElem?_getD, this]

/-- What the caller may look at again. -/
theorem FR.outs (h : FR K w f a O) {bs : List Bool} {vs : Array Value} {n : Nat} (hn : n ≤ f.length) (hv : vs.size = n) (hs : ∀ t, t < n → bs.getD t false = false → vals vs t = vals a t) :
    FR K w (outsOf bs n f) vs (fun t => if t < n ∧ bs.getD t false = false then O t else Own.no) := by
  obtain ⟨hl, hg⟩ := outsOf_get bs n f hn
  have hk : ∀ u, (get (outsOf bs n f) u = .any) ∨ (u < n ∧ bs.getD u false = false ∧ get (outsOf bs n f) u = get f u) := fun u => by
    rw [hg]
    by_cases hu : u < n
    · rw [if_pos hu]
      cases hb : bs.getD u false with
      | true => left; simp
      | false => right; exact ⟨hu, rfl, by simp⟩
    · rw [if_neg hu]; exact .inl rfl
  have hsub : ∀ {s p y}, subAt (outsOf bs n f) s p = some y → subAt f s p = some y ∧ s < n ∧ bs.getD s false = false ∧ get (outsOf bs n f) s = get f s := fun {s p y} hy => by
    rcases hk s with e | ⟨h1, h2, h3⟩
    · unfold subAt at hy; rw [e] at hy; cases hy
    · refine ⟨?_, h1, h2, h3⟩
      unfold subAt at hy ⊢
      rw [h3] at hy
      exact hy
  refine ⟨by rw [hl, hv], fun t => ?_, fun s t hst => ?_, fun t => ?_, fun t b o hb => ?_⟩
  · unfold SlotR
    rcases hk t with e | ⟨h1, h2, h3⟩
    · rw [e]; trivial
    · have hsl := h.slot t
      unfold SlotR at hsl
      rw [h3]
      have hvt := hs t h1 h2
      simp only [if_pos (And.intro h1 h2)]
      cases hx : get f t with
      | any => trivial
      | non => rw [hx] at hsl; rw [hvt]; exact hsl
      | v x => rw [hx] at hsl; rw [hvt]; exact hsl
      | cell x => rw [hx] at hsl; rw [hvt]; exact hsl
      | loc s p =>
        rw [hx] at hsl
        rintro ⟨y, hy⟩
        obtain ⟨k1, k2, k3, k4⟩ := hsub hy
        rw [hvt, k4, hs s k2 k3]
        exact hsl ⟨y, k1⟩
      | box s p =>
        rw [hx] at hsl
        rintro ⟨y, hy⟩
        obtain ⟨k1, k2, k3, k4⟩ := hsub hy
        rw [hvt, k4, hs s k2 k3]
        exact hsl ⟨y, k1⟩
      | view s p =>
        rw [hx] at hsl
        intro y hy
        obtain ⟨k1, k2, k3, k4⟩ := hsub hy
        rw [hvt, k4, hs s k2 k3]
        exact hsl y k1
      | clo q cs =>
        rw [hx] at hsl
        obtain ⟨us, e1, e2⟩ := hsl
        refine ⟨us, by rw [hvt]; exact e1, CapsR_frame e2 ?_⟩
        rintro c hc i x rfl hi
        rcases hk i with e | ⟨k1, k2, k3⟩
        · rw [e] at hi; cases hi
        · rw [k3] at hi
          exact ⟨⟨x, hi⟩, hs i k1 k2⟩
  · by_cases h1 : s < n ∧ bs.getD s false = false
    · by_cases h2 : t < n ∧ bs.getD t false = false
      · rw [if_pos h1, if_pos h2]; exact h.disj s t hst
      · rw [if_neg h2]; exact Own.disj_no _
    · rw [if_neg h1]; exact Own.no_disj _
  · split
    · exact h.free t
    · exact Free.no _
  · split at hb
    · exact h.lt t b o hb
    · exact hb.elim

def resVal (tmps : Array Value) : ResultVar → Sem Value
  | .tmp t => pure (tmps.getD t undef)
  | .cell x t => do loadVar t (← asAddr (tmps.getD x undef))

theorem resOf_sound : ∀ {rs : List (ResultVar × TypeId)} {K : Kn} {f f' : Frame} {O : Nat → Own} {ys : List AV}, FR K w f a O → Sat K w → resOf C f rs = some (ys, f') →
    ∃ K' O' vs S, Froze K w a O K' f' O' ∧ ((rs.map (·.1)).mapM (resVal a)).run C.P w = .ok vs w ∧ relA K' w ys vs S ∧ S.le (tot O) ∧ Free K' S ∧ (∀ u, S.disj (O' u)) ∧ ∀ y ∈ ys, isTup y = false
  | [], K, f, f', O, ys, h, hs, hr => by
    simp only [resOf, Option.some.injEq, Prod.mk.injEq] at hr
    obtain ⟨rfl, rfl⟩ := hr
    exact ⟨K, O, [], Own.no, Froze.refl h hs, by simp, rfl, Own.no_le _, Free.no _, fun _ => Own.no_disj _, by simp⟩
  | (.tmp t, ty) :: rs, K, f, f', O, ys, h, hs, hr => by
    rw [resOf] at hr
    split at hr
    · rename_i y f1 hm
      split at hr
      · cases hr
      rename_i ht
      split at hr
      · rename_i ys' f2 hr2
        simp only [Option.some.injEq, Prod.mk.injEq] at hr
        obtain ⟨rfl, rfl⟩ := hr
        obtain ⟨K1, O1, S1, k1, k2, k3, k4, k5⟩ := moveOut_sound h hs hm
        obtain ⟨K2, O2, vs, S2, m1, m2, m3, m4, m5, m6, m7⟩ := resOf_sound k1.fr k1.sat hr2
        have hd : S1.disj (tot O1) := fun b o hb ⟨u, hu⟩ => k5 u b o hb hu
        refine ⟨K2, O2, vals a t :: vs, S1.or S2, k1.trans m1, ?_, ⟨_, _, S1, S2, rfl, Own.le_or_l _ _, Own.le_or_r _ _, hd.mono (Own.le_refl _) m4, relV_mono m1.grows.le (Meta.refl w) k2 (Agree.refl _ _) (Own.le_refl _), m3⟩,
          Own.or_le k3 (Own.le_trans m4 (tot_mono k1.le)), (k4.grows m1.grows hd.symm).or m5, fun u => Own.disj_or ((k5 u).mono (Own.le_refl _) (m1.le u)) (m6 u), fun z hz => ?_⟩
        · simp only [List.map_cons, List.mapM_cons, resVal, Sem.run_bind, Sem.run_pure, Result.andThen_ok, m2]
          rfl
        · rcases List.mem_cons.1 hz with rfl | hz
          · simpa using ht
          · exact m7 z hz
      · cases hr
    · cases hr
  | (.cell t ty, ty') :: rs, K, f, f', O, ys, h, hs, hr => by
    rw [resOf] at hr
    split at hr
    · rename_i y hg
      split at hr
      · rename_i hfit
        split at hr
        · rename_i ys' f2 hr2
          simp only [Option.some.injEq, Prod.mk.injEq] at hr
          obtain ⟨rfl, rfl⟩ := hr
          obtain ⟨b, o, h1, h2⟩ := h.cellR hg
          obtain ⟨v, S1, e1, e2, e3, _⟩ := obj_load (C := C) hfit h2
          obtain ⟨K2, O2, vs, S2, m1, m2, m3, m4, m5, m6, m7⟩ := resOf_sound (h.drop t) hs hr2
          have hle : ∀ u, (if u = t then Own.no else O u).le (O u) := Own.if_no_le O t
          have hdu : ∀ u, S1.disj (if u = t then Own.no else O u) := fun u => by
            by_cases hu : u = t
            · rw [if_pos hu]; exact Own.disj_no _
            · rw [if_neg hu]; exact (h.disj t u (Ne.symm hu)).mono e3 (Own.le_refl _)
          have hd : S1.disj (tot fun u => if u = t then Own.no else O u) := fun b o hb ⟨u, hu⟩ => hdu u b o hb hu
          refine ⟨K2, O2, v :: vs, S1.or S2, ⟨m1.fr, m1.sat, m1.grows.mono (tot_mono hle), fun u => Own.le_trans (m1.le u) (hle u)⟩, ?_, ⟨_, _, S1, S2, rfl, Own.le_or_l _ _, Own.le_or_r _ _, hd.mono (Own.le_refl _) m4, relV_mono m1.grows.le (Meta.refl w) e2 (Agree.refl _ _) (Own.le_refl _), m3⟩,
            Own.or_le (Own.le_trans e3 (le_tot O t)) (Own.le_trans m4 (tot_mono hle)), (((h.free t).mono e3).grows m1.grows hd.symm).or m5, fun u => Own.disj_or ((hdu u).mono (Own.le_refl _) (m1.le u)) (m6 u), fun z hz => ?_⟩
          · have ha : a.getD t undef = .pointer (some ⟨b, o, none⟩) := h1
            simp only [List.map_cons, List.mapM_cons, resVal, ha, asAddr, Sem.run_bind, Sem.run_pure, Result.andThen_ok, e1, m2]
          · rcases List.mem_cons.1 hz with rfl | hz
            · exact (fitsT_eq hfit).2.2.2
            · exact m7 z hz
        · cases hr
      · cases hr
    · cases hr

theorem run_results {fn : Func} {tmps : Array Value} {vs : List Value} (h : ((fn.results.toList).mapM (resVal tmps)).run C.P w = .ok vs w) :
    (results fn tmps).run C.P w = .ok (match vs with | [v] => v | _ => .tuple vs.toArray) w := by
  have e : results fn tmps = (do let vs ← fn.results.mapM (resVal tmps); pure (if h : vs.size = 1 then vs[0] else .tuple vs)) := rfl
  rw [e, Array.mapM_eq_mapM_toList]
  simp only [Sem.run_bind, map_eq_pure_bind, h, Result.andThen_ok, Sem.run_pure]
  congr 1
  match vs with
  | [] => rfl
  | [v] => rfl
  | _ :: _ :: _ => rfl

theorem relT_of_relA : ∀ {xs : List AV} {vs : List Value} {S : Own}, relA K w xs vs S → (∀ y ∈ xs, isTup y = false) → relV.relT K w xs vs S
  | [], vs, S, h, _ => by rw [relV.relT]; exact h
  | x :: xs, vs, S, h, ht => by
    obtain ⟨v, vs', S1, S2, rfl, h1, h2, h3, h4, h5⟩ := h
    obtain ⟨cs, k1, k2, _⟩ := relV_cells h4 (fun ys e => by have := ht x (List.mem_cons_self ..); rw [e] at this; cases this)
    rw [relV.relT]
    exact ⟨v, vs', S1, S2, rfl, h1, h2, h3, ⟨cs, k1, k2⟩, relT_of_relA h5 (fun y hy => ht y (List.mem_cons_of_mem _ hy))⟩
end

/-- A function that is not walked: what the machine says of it is so. -/
structure PrimOK (C : Cfg) : Prop where
  prim : ∀ {call : CallF} {k : Nat} {g : CallF → List Slot → Option (AV × List Slot)}, C.prim k = some g → CallOK C call → ∀ {ags : List Slot} {r : AV} {outs : List Slot}, g call ags = some (r, outs) →
    (∀ {K : Kn} {w : World} {vs : Array Value} {O : Nat → Own}, FR K w ags vs O → Sat K w → Calls C.P k vs w fun e w' => ∃ v, e = .returned v ∧ ∃ K' S O', Left K w vs O r outs v w' K' S O') ∧
    ∃ fn, C.P.funcs[k]? = some fn ∧ fn.body.isNone = false ∧ (fn.name == "runtime.NumGoroutine") = false

/-- The machine's code fits a function of the program. -/
structure CodeFit (C : Cfg) (k : Nat) (F : Func) (fn : EFn) : Prop where
  name : (F.name == "runtime.NumGoroutine") = false
  ntmps : fn.ntmps = F.ntmps
  results : fn.results = F.results.toList.zip F.resultTypes.toList
  size : (F.results.size != F.resultTypes.size) = false
  written : fn.written = boolsOf (writesOf fn.body)
  core : ∃ c, F.body = some c ∧ ∀ (call : CallF) (n : Nat), CallOK C call → ∀ (f f' : Frame) (out : Out) (a : Act) (w : World) (K : Kn) (O : Nat → Own) (Q : Exit → Act → World → Prop), f.length = F.ntmps → evalCode C k call n fn.body f = some (out, f') → FR K w f a.tmps O → Sat K w → (∀ a' w', Comes' K w O f' a (fun t => t ∈ writesOf fn.body) a' w' → Q (exitOf out) a' w') → c.wp C.P Q a w
/-- The machine's functions are the program's. -/
structure CodeOK (C : Cfg) : Prop where
  eqT : ∀ t, C.eqT t = true → EqT C.P t
  mixed : C.P.follows .mixedOrders = true
  code : ∀ {k : Nat} {fn : EFn}, C.code k = some fn → ∃ F, C.P.funcs[k]? = some F ∧ CodeFit C k F fn
  prim : PrimOK C
theorem fit_of_compile {C : Cfg} {k : Nat} {F : Func} {H : Hint} {fn : EFn} (hE : ∀ t, C.eqT t = true → EqT C.P t) (hM : C.P.follows .mixedOrders = true) (hcomp : compileF H F = some fn) (hkE : okF H F = true) : CodeFit C k F fn := by
  unfold okF at hkE
  unfold compileF at hcomp
  split at hcomp
  · cases hcomp
  rename_i c hbody
  rw [hbody] at hkE
  simp only at hkE
  split at hcomp
  · cases hcomp
  rename_i hname
  simp only [Bool.or_eq_true, not_or, Bool.not_eq_true] at hname
  split at hcomp
  · cases hcomp
  rename_i e hce
  injection hcomp with hcomp
  subst hcomp
  exact ⟨hname.1, rfl, rfl, hname.2, rfl, c, hbody, fun call n ih _ _ _ _ _ _ _ _ _ hev h hs hQ => code_sound hE ih hM c hce hkE hev h hs hQ⟩

theorem boolsOf_get {l : List Nat} {t : Nat} (h : t ∈ l) : (boolsOf l).getD t false = true := by
  have hle : t ≤ natMax l := (foldl_max l 0).2 t h
  unfold boolsOf
  rw [List.getD_eq_getElem?_getD, List.getElem?_map, List.getElem?_range (by omega)]
  simpa using h

theorem stepF_ok {C : Cfg} (hOK : CodeOK C) {call : CallF} (ih : CallOK C call) (n : Nat) : CallOK C (stepF C n call) := by
    have key : ∀ {k : FuncId} {ags : List Slot} {r : AV} {outs : List Slot}, stepF C n call k ags = some (r, outs) →
      (∀ {K : Kn} {w : World} {vs : Array Value} {O : Nat → Own}, FR K w ags vs O → Sat K w → Calls C.P k vs w fun e w' => ∃ v, e = .returned v ∧ ∃ K' S O', Left K w vs O r outs v w' K' S O') ∧
      ∃ fn, C.P.funcs[k]? = some fn ∧ fn.body.isNone = false ∧ (fn.name == "runtime.NumGoroutine") = false := by
      intro k ags r outs h
      unfold stepF at h
      cases hp : C.prim k with
      | some g => rw [hp] at h; exact hOK.prim.prim hp ih h
      | none =>
        rw [hp] at h
        simp only at h
        cases hcd : C.code k with
        | none => rw [hcd] at h; cases h
        | some fn =>
          rw [hcd] at h
          simp only at h
          obtain ⟨F, hF, hfit⟩ := hOK.code hcd
          obtain ⟨c, hbody, hcore⟩ := hfit.core
          have hname2 := hfit.size
          simp only [bne_eq_false_iff_eq] at hname2
          have hname : (F.name == "runtime.NumGoroutine") = false ∧ F.results.size = F.resultTypes.size := ⟨hfit.name, hname2⟩
          rw [hfit.ntmps, hfit.results, hfit.written] at h
          have hcore2 := hcore call n ih
          generalize fn.body = e at h hcore2
          refine ⟨?_, F, hF, by rw [hbody]; rfl, hname.1⟩
          intro K w vs O hFR hs
          split at h
          · cases h
          rename_i hlen
          -- the body
          have fin : ∀ {out : Out} {f2 : Frame}, (out = .normal ∨ out = .ret) → evalCode C k call n e (ags ++ List.replicate (F.ntmps - ags.length) .any) = some (out, f2) →
              (match resOf C f2 (F.results.toList.zip F.resultTypes.toList) with
                | some ([y], f3) => some (if C.ret k then y else pz y, outsOf (boolsOf (writesOf e)) ags.length f3)
                | some (ys, f3) => some (.tup (if C.ret k then ys else pzL ys), outsOf (boolsOf (writesOf e)) ags.length f3)
                | none => none) = some (r, outs) →
              Calls C.P k vs w fun e w' => ∃ v, e = .returned v ∧ ∃ K' S O', Left K w vs O r outs v w' K' S O' := by
            intro out f2 hout hev hres
            have hvs : vs.size = ags.length := hFR.len.symm
            have h0 := hFR.extend (F.ntmps - ags.length)
            refine calls_of_wp hF hbody ?_
            rw [hvs]
            refine hcore2 _ _ _ { tmps := vs ++ Array.replicate (F.ntmps - ags.length) undef, defers := [] } _ _ _ _ (by simp only [List.length_append, List.length_replicate]; omega) hev h0 hs ?_
            rintro a' w' ⟨K1, O1, k1, k2, k3, k4⟩
            -- the results
            have main : ∀ {ys : List AV} {f3 : Frame}, resOf C f2 (F.results.toList.zip F.resultTypes.toList) = some (ys, f3) → ∀ {r : AV} {outs : List Slot}, outs = outsOf (boolsOf (writesOf e)) ags.length f3 →
                (r = (match ys with | [y] => if C.ret k then y else pz y | ys => .tup (if C.ret k then ys else pzL ys))) →
                bodyPost C.P F (fun e w' => ∃ v, e = .returned v ∧ ∃ K' S O', Left K w vs O r outs v w' K' S O') .ret a' w' := by
              rintro ys f3 hr r outs rfl rfl
              obtain ⟨K2, O2, us, S, m1, m2, m3, m4, m5, m6, m7⟩ := resOf_sound k1 k2.sat hr
              have hzip : (F.results.toList.zip F.resultTypes.toList).map (·.1) = F.results.toList := by
                have hsz : F.results.toList.length = F.resultTypes.toList.length := by simpa using hname.2
                rw [List.map_fst_zip (by omega)]
              rw [hzip] at m2
              refine ⟨k3, _, run_results m2, _, rfl, ?_⟩
              have hlenf : ags.length ≤ f3.length := by
                rw [m1.fr.len, k4.size]
                simp only [Array.size_append, hvs]
                omega
              have hgo := k2.trans m1.goes
              have hout2 := m1.fr.outs (bs := boolsOf (writesOf e)) (vs := vs) (n := ags.length) hlenf hvs (fun t ht hb => by
                have hnw : t ∉ writesOf e := fun hm => by rw [boolsOf_get hm] at hb; cases hb
                rw [k4.same t hnw]
                simp only [vals, Array.getD_eq_getD_getElem?]
                rw [Array.getElem?_append_left (by omega)])
              have hO2 : ∀ t, (if t < ags.length ∧ (boolsOf (writesOf e)).getD t false = false then O2 t else Own.no).le (O2 t) := fun t => by
                split
                · exact Own.le_refl _
                · exact Own.no_le _
              have hOt : (tot fun t => if t < ags.length ∧ (boolsOf (writesOf e)).getD t false = false then O2 t else Own.no).le ((tot O).or (new w)) := Own.le_trans (tot_mono hO2) hgo.own
              have hSo : S.le ((tot O).or (new w)) := Own.le_trans m4 k2.own
              have hSlt : ∀ b o, S b o → b < w'.heap.size := fun b o hb => by
                obtain ⟨u, hu⟩ := m4 b o hb
                exact k1.lt u b o hu
              -- the value
              have val : ∀ {x : AV} {v : Value}, relV K2 w' x v S → (isTup x = true → ∃ xs, x = .tup xs) → ∃ K3, K2.grows K3 S ∧ Sat K3 w' ∧ relV K3 w' (pz x) v Own.no := fun hx _ => freezeV hx m5 m1.sat
              have build : ∀ {x : AV} {v : Value}, relV K2 w' x v S → ∃ K' S' O', Left K w vs O (if C.ret k then x else pz x) (outsOf (boolsOf (writesOf e)) ags.length f3) v w' K' S' O' := by
                intro x v hx
                by_cases hret : C.ret k = true
                · rw [if_pos hret]
                  exact ⟨K2, S, _, ⟨hgo.sat, hgo.grows, hgo.keeps, hx, hSo, m5, hSlt, hout2, hOt, fun t => (m6 t).mono (Own.le_refl _) (hO2 t)⟩⟩
                · rw [if_neg hret]
                  obtain ⟨K3, g1, g2, g3⟩ := freezeV hx m5 m1.sat
                  have hw : FR K3 w' f3 a'.tmps O2 := m1.fr.grow g1.le (fun t => (m1.fr.free t).grows g1 (m6 t))
                  have hout3 := hw.outs (bs := boolsOf (writesOf e)) (vs := vs) (n := ags.length) hlenf hvs (fun t ht hb => by
                    have hnw : t ∉ writesOf e := fun hm => by rw [boolsOf_get hm] at hb; cases hb
                    rw [k4.same t hnw]
                    simp only [vals, Array.getD_eq_getD_getElem?]
                    rw [Array.getElem?_append_left (by omega)])
                  exact ⟨K3, Own.no, _, ⟨g2, hgo.grows.trans (g1.mono hSo), hgo.keeps, g3, Own.no_le _, Free.no _, fun _ _ h => h.elim, hout3, hOt, fun t => Own.no_disj _⟩⟩
              match ys, us, m3, m7 with
              | [], us, m3, m7 =>
                have : us = [] := m3
                subst this
                have := build (x := .tup []) (v := .tuple #[]) ⟨[], rfl, by rw [relV.relT]⟩
                by_cases hret : C.ret k = true
                · simpa [hret] using this
                · simpa [hret, pz, pzL] using this
              | [y], us, m3, m7 =>
                obtain ⟨v, vs', S1, S2, rfl, h1, h2, h3, h4, h5⟩ := m3
                have : vs' = [] := h5
                subst this
                exact build (relV_le h4 h1)
              | y :: y2 :: ys', us, m3, m7 =>
                have hT := relT_of_relA m3 m7
                obtain ⟨v, vs', S1, S2, rfl, h1, h2, h3, h4, h5⟩ := m3
                obtain ⟨v2, vs2, S3, S4, rfl, _⟩ := h5
                have := build (x := .tup (y :: y2 :: ys')) (v := .tuple (v :: v2 :: vs2).toArray) ⟨_, rfl, hT⟩
                by_cases hret : C.ret k = true
                · simpa [hret] using this
                · simpa [hret, pz] using this
            have both : bodyPost C.P F (fun e w' => ∃ v, e = .returned v ∧ ∃ K' S O', Left K w vs O r outs v w' K' S O') .ret a' w' := by
              split at hres
              · rename_i y f3 hr
                simp only [Option.some.injEq, Prod.mk.injEq] at hres
                exact main hr hres.2.symm (by rw [← hres.1])
              · rename_i ys f3 hne hr
                simp only [Option.some.injEq, Prod.mk.injEq] at hres
                refine main hr hres.2.symm ?_
                rw [← hres.1]
                match ys, hne with
                | [], _ => rfl
                | [y], hne => exact absurd rfl (hne y)
                | _ :: _ :: _, _ => rfl
              · cases hres
            rcases hout with rfl | rfl
            · exact both
            · exact both
          cases hev : evalCode C k call n e (ags ++ List.replicate (F.ntmps - ags.length) .any) with
          | none => rw [hev] at h; cases h
          | some q =>
            obtain ⟨out, f2⟩ := q
            rw [hev] at h
            cases out with
            | exit i => cases h
            | normal => exact fin (.inl rfl) hev h
            | ret => exact fin (.inr rfl) hev h
    exact ⟨fun h => (key h).1, fun h => (key h).2⟩

theorem none_ok {C : Cfg} : CallOK C (fun _ _ => none) := ⟨fun h => (by cases h), fun h => (by cases h)⟩
theorem evalT_ok {C : Cfg} (hOK : CodeOK C) {tab : CallF} (ht : CallOK C tab) : ∀ n, CallOK C (evalT C tab n)
  | 0 => ht
  | n + 1 => by
    have ih := stepF_ok hOK (evalT_ok hOK ht n) n
    have key : ∀ {g : FuncId} {ags : List Slot} {r : AV} {outs : List Slot}, evalT C tab (n + 1) g ags = some (r, outs) → tab g ags = some (r, outs) ∨ stepF C n (evalT C tab n) g ags = some (r, outs) := by
      intro g ags r outs h
      rw [evalT] at h
      cases hq : tab g ags with
      | some q => rw [hq] at h; exact .inl h
      | none => rw [hq] at h; exact .inr h
    exact ⟨fun h => (key h).elim (fun q => ht.calls q) (fun q => ih.calls q), fun h => (key h).elim (fun q => ht.body q) (fun q => ih.body q)⟩
theorem evalF_ok {C : Cfg} (hOK : CodeOK C) (n : Nat) : CallOK C (evalF C n) := evalT_ok hOK none_ok n

theorem eqFrame_eq : ∀ {f g : Frame}, eqFrame f g = true → f = g
  | [], [], _ => rfl
  | [], _ :: _, h => by simp [eqFrame] at h
  | _ :: _, [], h => by unfold eqFrame at h; simp at h
  | x :: f, y :: g, h => by
    unfold eqFrame at h
    split at h
    · rename_i e1 e2; cases e1
    · rename_i x' f' y' g' e1 e2
      injection e1 with e1 e1'
      injection e2 with e2 e2'
      subst e1 e1' e2 e2'
      simp only [Bool.and_eq_true] at h
      rw [eqAV_eq h.1, eqFrame_eq h.2]
    · rename_i x' f' y' g' _ e1 e2
      injection e1 with e1 e1'
      injection e2 with e2 e2'
      subst e1 e1' e2 e2'
      simp only [Bool.and_eq_true] at h
      rw [eqSlot_eq h.1, eqFrame_eq h.2]
    · cases h
theorem addTab_ok {C : Cfg} {k : Nat} {args : List Slot} {r : AV × List Slot} {tab call : CallF} (ht : CallOK C tab) (hc : CallOK C call) (h : call k args = some r) : CallOK C (addTab k args r tab) := by
  have key : ∀ {g : FuncId} {ags : List Slot} {q : AV × List Slot}, addTab k args r tab g ags = some q → tab g ags = some q ∨ call g ags = some q := by
    intro g ags q hq
    unfold addTab at hq
    split at hq
    · rename_i hk
      split at hq
      · rename_i ha
        have hk : g = k := by simpa using hk
        rw [hk, eqFrame_eq ha, ← hq]
        exact .inr h
      · exact .inl hq
    · exact .inl hq
  exact ⟨fun h => (key h).elim (fun q => ht.calls q) (fun q => hc.calls q), fun h => (key h).elim (fun q => ht.body q) (fun q => hc.body q)⟩
end Go.E

namespace Go.E
open Go.RowKit
/-! slices.Clone: a test against nil, whose arms come to the same. -/
structure CloneOps where
  (a0 b0 b1 c0 d0 d1 d2 d3 : Oper)
  (i0 i1 i2 i3 : Nat)
  (t : TypeId)
def CloneOps.code (q : CloneOps) : Code :=
  .seq (.region q.i0 #[q.a0] false) (.seq (.seq (.region q.i1 #[q.b0, q.b1] false) (.cond (.tmp 4) (.seq (.region q.i2 #[q.c0] false) .ret) .skip)) (.seq (.region q.i3 #[q.d0, q.d1, q.d2, q.d3] false) .ret))
/-- The operations are Clone's. -/
def CloneOps.ok (q : CloneOps) : Bool :=
  (match q.a0.op, q.b0.op, q.b1.op, q.c0.op with
    | .assign (.const (.slice none 0 0)), .move (.tmp 0), .binOp .eql t (.tmp 3) (.const (.slice none 0 0)) _, .assign (.const (.slice none 0 0)) => t == q.t
    | _, _, _, _ => false) &&
  (match q.d0.op, q.d1.op, q.d2.op, q.d3.op with
    | .buildSlice t n ps, .move (.tmp 0), .call cl, .assign (.tmp 7) => t == q.t && n == 0 && ps.isEmpty && (match cl.callee with | .builtin .append => true | _ => false) &&
      (match cl.args.toList with | [.tmp 5, .tmp 6] => true | _ => false) && cl.argTypes.toList == [q.t, q.t]
    | _, _, _, _ => false) &&
  q.a0.dst == some 2 && q.b0.dst == some 3 && q.b1.dst == some 4 && q.c0.dst == some 2 && q.d0.dst == some 5 && q.d1.dst == some 6 && q.d2.dst == some 7 && q.d3.dst == some 2 &&
  q.a0.guard.isNone && q.b0.guard.isNone && q.b1.guard.isNone && q.c0.guard.isNone && q.d0.guard.isNone && q.d1.guard.isNone && q.d2.guard.isNone && q.d3.guard.isNone
def cloneOps (c : Code) : Option CloneOps :=
  match c with
  | .seq (.region i0 q0 false) (.seq (.seq (.region i1 q1 false) (.cond (.tmp 4) (.seq (.region i2 q2 false) .ret) .skip)) (.seq (.region i3 q3 false) .ret)) =>
    match q0.toList, q1.toList, q2.toList, q3.toList with
    | [a0], [b0, b1], [c0], [d0, d1, d2, d3] => some ⟨a0, b0, b1, c0, d0, d1, d2, d3, i0, i1, i2, i3, match b1.op with | .binOp _ t _ _ _ => t | _ => 0⟩
    | _, _, _, _ => none
  | _ => none
def CloneOps.e (q : CloneOps) : ECode :=
  .seq (.isSl 0) (.seq (.region [(q.a0, none)]) (.seq (.region [(q.b0, none)]) (.seq (.tidy 1 []) (.seq (.region [(q.d0, none), (q.d1, none), (q.d2, none), (q.d3, none)]) (.seq (.tidy 5 []) (.seq .ret (.region [(q.b1, none)])))))))
def cloneFn (fn : Func) : Option EFn :=
  match fn.body with
  | some c => match cloneOps c with
    | some q => if q.ok && fn.name != "runtime.NumGoroutine" && fn.results.size == fn.resultTypes.size && fn.ntmps == 8 then some { body := q.e, ntmps := fn.ntmps, results := fn.results.toList.zip fn.resultTypes.toList, written := boolsOf (writesOf q.e) } else none
    | none => none
  | none => none
theorem cloneOps_eq {c : Code} {q : CloneOps} (h : cloneOps c = some q) : c = q.code := by
  unfold cloneOps at h
  split at h
  · split at h
    · rename_i h0 h1 h2 h3
      simp only [Option.some.injEq] at h
      subst h
      have e : ∀ {α : Type} {x : Array α} {l : List α}, x.toList = l → x = l.toArray := fun {α x l} h => by rw [← h]
      rw [e h0, e h1, e h2, e h3]
      rfl
    · cases h
  · cases h
section
variable {C : Cfg} {call : CallF} {k : Nat}
theorem appendA_nil {ex : Bool} {e : TypeId} {y r : AV} {st1 sty : Nat} (hy : y = .arr st1 [] ∨ y = .osl st1 []) (h : appendA C ex e y [] sty = some r) : ∃ st', r = .arr st' [] ∨ r = .osl st' [] := by
  unfold appendA at h
  simp only at h
  split at h
  · cases h
  · split at h
    · cases h
    · rcases hy with rfl | rfl
      · simp only [List.append_nil] at h
        split at h
        · cases h
        · split at h
          · cases h
          · split at h
            · injection h with h; exact ⟨_, .inl h.symm⟩
            · split at h
              · injection h with h; exact ⟨_, .inr h.symm⟩
              · injection h with h; exact ⟨_, .inl h.symm⟩
      · simp only [List.append_nil] at h
        split at h
        · cases h
        · split at h
          · cases h
          · injection h with h; exact ⟨_, .inr h.symm⟩
/-- The last region leaves the list, whichever way it owns it. -/
theorem clone_last {q : CloneOps} (hq : q.ok = true) {f f' : Frame} {st : Nat} {xs : List AV} (h0 : get f 0 = .v (.sl st xs)) (h : runOps C k call [(q.d0, none), (q.d1, none), (q.d2, none), (q.d3, none)] f = some f') (hx : xs = []) (hl : f.length = 8) :
    ∃ (g1 g3 g4 g5 g6 g7 : Slot) (st' : Nat), f' = [.v (.sl st []), g1, .v (.arr st' []), g3, g4, g5, g6, g7] ∨ f' = [.v (.sl st []), g1, .v (.osl st' []), g3, g4, g5, g6, g7] := by
  subst hx
  obtain ⟨x0, x1, x2, x3, x4, x5, x6, x7, rfl⟩ : ∃ x0 x1 x2 x3 x4 x5 x6 x7, f = [x0, x1, x2, x3, x4, x5, x6, x7] := by
    match f, hl with
    | [x0, x1, x2, x3, x4, x5, x6, x7], _ => exact ⟨_, _, _, _, _, _, _, _, rfl⟩
  have h0 : x0 = .v (.sl st []) := h0
  subst h0
  simp only [CloneOps.ok, Bool.and_eq_true, beq_iff_eq] at hq
  obtain ⟨⟨⟨⟨⟨⟨⟨⟨⟨⟨⟨⟨⟨⟨⟨⟨⟨_, hops⟩, _⟩, _⟩, _⟩, _⟩, e5⟩, e6⟩, e7⟩, e2⟩, _⟩, _⟩, _⟩, _⟩, _⟩, _⟩, _⟩, _⟩ := hq
  split at hops
  case h_2 => cases hops
  rename_i t n ps cl o0 o1 o2 o3
  simp only [Bool.and_eq_true, beq_iff_eq] at hops
  obtain ⟨⟨⟨⟨⟨ht, hn⟩, hps⟩, hcal⟩, hargs⟩, htys⟩ := hops
  subst ht hn
  have hps : ps.toList = [] := by
    have := Array.isEmpty_iff.1 hps
    rw [this]
  split at hcal
  case h_2 => cases hcal
  rename_i hcal'
  split at hargs
  case h_2 => cases hargs
  rename_i hargs'
  -- the first
  rw [runOps, stepOp] at h
  simp only [guardS, evalOp] at h
  have s1 : ∀ {z}, quiet C k call q.d0 [.v (.sl st []), x1, x2, x3, x4, x5, x6, x7] = z → (∃ st', z = some ([], .v (.arr st' [])) ∨ z = some ([], .v (.osl st' []))) ∨ z = none := by
    intro z hz
    subst hz
    unfold quiet
    rw [o0]
    simp only [hps, List.map_nil, List.range_zero, beq_self_eq_true, if_true]
    cases he : elemT C q.t with
    | none => exact .inr rfl
    | some e =>
      simp only [byValsQ, movesQ, pzL, List.all_nil, if_true]
      split
      · exact .inr rfl
      · split
        · exact .inl ⟨_, .inl rfl⟩
        · exact .inl ⟨_, .inr rfl⟩
  have l1 : loud C k call q.d0 [.v (.sl st []), x1, x2, x3, x4, x5, x6, x7] = none := by
    unfold loud
    rw [o0]
  generalize hz1 : quiet C k call q.d0 [.v (.sl st []), x1, x2, x3, x4, x5, x6, x7] = z1 at h
  have rest : ∀ {y : AV} {st1 : Nat}, (y = .arr st1 [] ∨ y = .osl st1 []) → runOps C k call [(q.d1, none), (q.d2, none), (q.d3, none)] (put [.v (.sl st []), x1, x2, x3, x4, x5, x6, x7] 5 (.v y)) = some f' → ∃ (g1 g3 g4 g5 g6 g7 : Slot) (st' : Nat), f' = [.v (.sl st []), g1, .v (.arr st' []), g3, g4, g5, g6, g7] ∨ f' = [.v (.sl st []), g1, .v (.osl st' []), g3, g4, g5, g6, g7] := by
    intro y st1 hy h
    have hP : isP y = false := by rcases hy with rfl | rfl <;> rfl
    obtain ⟨y1, y2, y3, y4, y6, y7, hput⟩ : ∃ y1 y2 y3 y4 y6 y7, put [.v (.sl st []), x1, x2, x3, x4, x5, x6, x7] 5 (.v y) = [.v (.sl st []), y1, y2, y3, y4, .v y, y6, y7] := by
      unfold put
      rw [show isRoot (.v y) = true by simp [isRoot, hP]]
      exact ⟨_, _, _, _, _, _, rfl⟩
    rw [hput] at h
    -- the second
    have s2 : quiet C k call q.d1 [.v (.sl st []), y1, y2, y3, y4, .v y, y6, y7] = some ([], .v (.sl st [])) := by
      unfold quiet
      rw [o1]
      rfl
    rw [runOps, stepOp] at h
    simp only [guardS, evalOp, s2, e6, List.foldl_nil, putO] at h
    have hput2 : put [.v (.sl st []), y1, y2, y3, y4, .v y, y6, y7] 6 (.v (.sl st [])) = [.v (.sl st []), y1, y2, y3, y4, .v y, .v (.sl st []), y7] := rfl
    rw [hput2] at h
    -- the third
    rw [runOps, stepOp] at h
    simp only [guardS, evalOp] at h
    have s3 : ∀ {z}, quiet C k call q.d2 [.v (.sl st []), y1, y2, y3, y4, .v y, .v (.sl st []), y7] = z → (∃ st', z = some ([5], .v (.arr st' [])) ∨ z = some ([5], .v (.osl st' []))) ∨ z = none := by
      intro z hz
      subst hz
      unfold quiet
      rw [o2]
      simp only [hcal', hargs', htys]
      cases he : elemT C q.t with
      | none => exact .inr rfl
      | some e =>
        have hm : moveQ C [.v (.sl st []), y1, y2, y3, y4, .v y, .v (.sl st []), y7] q.t (.tmp 5) = some (y, [5]) := by
          unfold moveQ
          simp only [show get [Slot.v (.sl st []), y1, y2, y3, y4, .v y, .v (.sl st []), y7] 5 = .v y from rfl, hP, Bool.false_eq_true, if_false]
        have hl : lookO C [.v (.sl st []), y1, y2, y3, y4, .v y, .v (.sl st []), y7] q.t (.tmp 6) = some (.sl st []) := rfl
        simp only [bne_self_eq_false, Bool.false_eq_true, if_false, hm, hl, slOf]
        have hsame : sameT (.tmp 5) (.tmp 6) = false := rfl
        simp only [hsame, Bool.false_eq_true, if_false]
        cases ha : appendA C (C.exc k (q.d2.dst.getD 0)) e y [] st with
        | none => exact .inr rfl
        | some r =>
          obtain ⟨st', hr⟩ := appendA_nil hy ha
          rcases hr with rfl | rfl
          · exact .inl ⟨_, .inl rfl⟩
          · exact .inl ⟨_, .inr rfl⟩
    have l3 : loud C k call q.d2 [.v (.sl st []), y1, y2, y3, y4, .v y, .v (.sl st []), y7] = none := by
      unfold loud
      rw [o2]
      simp only [hcal', hargs', htys]
      cases he : elemT C q.t with
      | none => rfl
      | some e => simp only [bne_self_eq_false, Bool.false_eq_true, if_false, show get [Slot.v (.sl st []), y1, y2, y3, y4, .v y, .v (.sl st []), y7] 5 = .v y from rfl]
    generalize hz3 : quiet C k call q.d2 [.v (.sl st []), y1, y2, y3, y4, .v y, .v (.sl st []), y7] = z3 at h
    have last : ∀ {u : AV} {st2 : Nat}, (u = .arr st2 [] ∨ u = .osl st2 []) → runOps C k call [(q.d3, none)] (put [.v (.sl st []), y1, y2, y3, y4, .any, .v (.sl st []), y7] 7 (.v u)) = some f' → ∃ (g1 g3 g4 g5 g6 g7 : Slot) (st' : Nat), f' = [.v (.sl st []), g1, .v (.arr st' []), g3, g4, g5, g6, g7] ∨ f' = [.v (.sl st []), g1, .v (.osl st' []), g3, g4, g5, g6, g7] := by
      intro u st2 hu h
      have hP : isP u = false := by rcases hu with rfl | rfl <;> rfl
      obtain ⟨w1, w2, w3, w4, hput⟩ : ∃ w1 w2 w3 w4, put [.v (.sl st []), y1, y2, y3, y4, .any, .v (.sl st []), y7] 7 (.v u) = [.v (.sl st []), w1, w2, w3, w4, .any, .v (.sl st []), .v u] := by
        unfold put
        rw [show isRoot (.v u) = true by simp [isRoot, hP]]
        exact ⟨_, _, _, _, rfl⟩
      rw [hput] at h
      have s4 : quiet C k call q.d3 [.v (.sl st []), w1, w2, w3, w4, .any, .v (.sl st []), .v u] = some ([7], .v u) := by
        unfold quiet
        rw [o3]
        have hg : get [Slot.v (.sl st []), w1, w2, w3, w4, .any, .v (.sl st []), .v u] 7 = .v u := rfl
        simp only [hg, moveQ, hP, Bool.false_eq_true, if_false]
      rw [runOps, stepOp] at h
      simp only [guardS, evalOp, s4, e2, List.foldl_cons, List.foldl_nil, putO, runOps, Option.some.injEq] at h
      subst h
      have hs : [Slot.v (.sl st []), w1, w2, w3, w4, .any, .v (.sl st []), .v u].set 7 .any = [Slot.v (.sl st []), w1, w2, w3, w4, .any, .v (.sl st []), .any] := rfl
      rw [hs]
      unfold put
      rw [show isRoot (.v u) = true by simp [isRoot, hP]]
      rcases hu with rfl | rfl
      · exact ⟨_, _, _, _, _, _, st2, .inl rfl⟩
      · exact ⟨_, _, _, _, _, _, st2, .inr rfl⟩
    rcases s3 hz3 with ⟨st', rfl | rfl⟩ | rfl
    · simp only [e7, List.foldl_cons, List.foldl_nil, putO] at h
      exact last (.inl rfl) h
    · simp only [e7, List.foldl_cons, List.foldl_nil, putO] at h
      exact last (.inr rfl) h
    · simp only [l3] at h
      cases h
  rcases s1 hz1 with ⟨st', rfl | rfl⟩ | rfl
  · simp only [e5, List.foldl_nil, putO] at h
    exact rest (.inl rfl) h
  · simp only [e5, List.foldl_nil, putO] at h
    exact rest (.inr rfl) h
  · simp only [l1] at h
    cases h
theorem reg_wp (hE : ∀ t, C.eqT t = true → EqT C.P t) (hC : CallOK C call) {id : Nat} {ops : Array Oper} {gs : List (Oper × Guard)} {f f1 : Frame} {a : Act} {w : World} {K : Kn} {O : Nat → Own} {Q : Exit → Act → World → Prop} (hg : guardsOf ops ops.toList = some gs)
    (hr : runOps C k call gs f = some f1) (h : FR K w f a.tmps O) (hs : Sat K w) (hQ : ∀ a' w', Comes' K w O f1 a (fun t => t ∈ gs.filterMap (·.1.dst)) a' w' → Q .normal a' w') : (Code.region id ops false).wp C.P Q a w := by
  refine wp_region ?_
  have := region_ops (Q := Q) hE hC (k := 0) rfl hg hr h hs fun a' w' K' O' r1 r2 r3 r4 => hQ a' w' ⟨K', O', r1, r2, r3, r4⟩
  rw [List.drop_zero, Array.length_toList] at this
  rw [List.range_eq_range']
  exact this
theorem region_ev {n : Nat} {l : List (Oper × Guard)} {f : Frame} {r : Out × Frame} (h : evalCode C k call n (.region l) f = some r) : r.1 = .normal ∧ runOps C k call l f = some r.2 := by
  rw [evalCode] at h
  split at h
  · rename_i f1 h1
    simp only [Option.some.injEq] at h
    subst h
    exact ⟨rfl, h1⟩
  · cases h
theorem seq_ev {n : Nat} {x y : ECode} {f : Frame} {r : Out × Frame} (h : evalCode C k call n (.seq x y) f = some r) : (∃ f1, evalCode C k call n x f = some (.normal, f1) ∧ evalCode C k call n y f1 = some r) ∨ (r.1 ≠ .normal ∧ evalCode C k call n x f = some r) := by
  rw [evalCode] at h
  cases h1 : evalCode C k call n x f with
  | none => rw [h1] at h; cases h
  | some r1 =>
    obtain ⟨o, f1⟩ := r1
    rw [h1] at h
    cases o with
    | normal => exact .inl ⟨f1, rfl, h⟩
    | exit i => simp only [Option.some.injEq] at h; exact .inr ⟨by rw [← h]; simp, by rw [h]⟩
    | ret => simp only [Option.some.injEq] at h; exact .inr ⟨by rw [← h]; simp, by rw [h]⟩
/-- Either arm of the test leaves what the machine says. -/
theorem clone_core (hE : ∀ t, C.eqT t = true → EqT C.P t) {q : CloneOps} (hq : q.ok = true) {e : TypeId} (hu : C.P.underlying q.t = some (.slice e)) (hC : CallOK C call) (n : Nat) {f f' : Frame} {out : Out} {a : Act} {w : World} {K : Kn} {O : Nat → Own} {Q : Exit → Act → World → Prop}
    (hlen : f.length = 8) (hev : evalCode C k call n q.e f = some (out, f')) (h : FR K w f a.tmps O) (hs : Sat K w) (hQ : ∀ a' w', Comes' K w O f' a (fun t => t ∈ writesOf q.e) a' w' → Q (exitOf out) a' w') : q.code.wp C.P Q a w := by
  have hq' := hq
  simp only [CloneOps.ok, Bool.and_eq_true, beq_iff_eq, Option.isNone_iff_eq_none] at hq
  obtain ⟨⟨⟨⟨⟨⟨⟨⟨⟨⟨⟨⟨⟨⟨⟨⟨⟨hop0, _⟩, da0⟩, db0⟩, db1⟩, dc0⟩, dd0⟩, dd1⟩, dd2⟩, dd3⟩, ga0⟩, gb0⟩, gb1⟩, gc0⟩, gd0⟩, gd1⟩, gd2⟩, gd3⟩ := hq
  split at hop0
  case h_2 => cases hop0
  rename_i t yt p0 p1 p2 p3
  simp only [beq_iff_eq] at hop0
  subst hop0
  -- what the machine's run is made of
  unfold CloneOps.e at hev
  obtain ⟨fz0, hz, hev⟩ := (seq_ev hev).resolve_right fun x => by
    have := x.2
    simp only [evalCode] at this
    split at this
    · simp only [Option.some.injEq, Prod.mk.injEq] at this; exact x.1 this.1.symm
    · cases this
  simp only [evalCode] at hz
  split at hz
  case h_2 => cases hz
  rename_i st xs hg0
  simp only [Option.some.injEq, Prod.mk.injEq, true_and] at hz
  subst hz
  obtain ⟨f0, e0, hev⟩ := (seq_ev hev).resolve_right fun x => x.1 (region_ev x.2).1
  have e0 := (region_ev e0).2
  obtain ⟨f1, e1, hev⟩ := (seq_ev hev).resolve_right fun x => x.1 (region_ev x.2).1
  have e1 := (region_ev e1).2
  obtain ⟨f2, e2, hev⟩ := (seq_ev hev).resolve_right fun x => by
    have := x.2
    simp only [evalCode, Option.some.injEq] at this
    exact x.1 (by rw [← this])
  simp only [evalCode, Option.some.injEq, Prod.mk.injEq, true_and, frzAll] at e2
  obtain ⟨f3, e3, hev⟩ := (seq_ev hev).resolve_right fun x => x.1 (region_ev x.2).1
  have e3 := (region_ev e3).2
  simp only [evalCode, Option.some.injEq, Prod.mk.injEq, frzAll] at hev
  obtain ⟨rfl, rfl⟩ := hev
  -- the frames
  obtain ⟨x0, x1, x2, x3, x4, x5, x6, x7, rfl⟩ : ∃ x0 x1 x2 x3 x4 x5 x6 x7, f = [x0, x1, x2, x3, x4, x5, x6, x7] := by
    match f, hlen with
    | [x0, x1, x2, x3, x4, x5, x6, x7], _ => exact ⟨_, _, _, _, _, _, _, _, rfl⟩
  have hg0 : x0 = .v (.sl st xs) := hg0
  subst hg0
  have q0 : quiet C k call q.a0 [.v (.sl st xs), x1, x2, x3, x4, x5, x6, x7] = some ([], .v (.arr (strideT C q.a0.type) [])) := by
    unfold quiet
    rw [p0]
    rfl
  rw [runOps, stepOp] at e0
  simp only [guardS, evalOp, q0, da0, List.foldl_nil, putO, runOps, Option.some.injEq] at e0
  obtain ⟨y1, y3, y4, y5, y6, y7, hf0⟩ : ∃ y1 y3 y4 y5 y6 y7, f0 = [.v (.sl st xs), y1, .v (.arr (strideT C q.a0.type) []), y3, y4, y5, y6, y7] := by
    rw [← e0]
    exact ⟨_, _, _, _, _, _, rfl⟩
  subst hf0
  have q1 : quiet C k call q.b0 [.v (.sl st xs), y1, .v (.arr (strideT C q.a0.type) []), y3, y4, y5, y6, y7] = some ([], .v (.sl st xs)) := by
    unfold quiet
    rw [p1]
    rfl
  rw [runOps, stepOp] at e1
  simp only [guardS, evalOp, q1, db0, List.foldl_nil, putO, runOps, Option.some.injEq] at e1
  have hf1 : f1 = [.v (.sl st xs), y1, .v (.arr (strideT C q.a0.type) []), .v (.sl st xs), y4, y5, y6, y7] := by
    rw [← e1]
    rfl
  subst hf1
  have hf2 : f2 = [.v (.sl st xs), .any, .any, .any, .any, .any, .any, .any] := by
    rw [← e2]
    rfl
  subst hf2
  have r0 : runOps C k call [(q.a0, none)] [.v (.sl st xs), x1, x2, x3, x4, x5, x6, x7] = some [.v (.sl st xs), y1, .v (.arr (strideT C q.a0.type) []), y3, y4, y5, y6, y7] := by
    rw [runOps, stepOp]
    simp only [guardS, evalOp, q0, da0, List.foldl_nil, putO, runOps, e0]
  have r1 : runOps C k call [(q.b0, none)] [.v (.sl st xs), y1, .v (.arr (strideT C q.a0.type) []), y3, y4, y5, y6, y7] = some [.v (.sl st xs), y1, .v (.arr (strideT C q.a0.type) []), .v (.sl st xs), y4, y5, y6, y7] := by
    rw [runOps, stepOp]
    simp only [guardS, evalOp, q1, db0, List.foldl_nil, putO, runOps, e1]
  -- the code's run
  have hW : ∀ u, u = 2 ∨ u = 3 ∨ u = 4 ∨ u = 5 ∨ u = 6 ∨ u = 7 → u ∈ writesOf q.e := by
    intro u hu
    simp only [CloneOps.e, writesOf, List.filterMap_cons, List.filterMap_nil, da0, db0, db1, dd0, dd1, dd2, dd3, List.nil_append, List.cons_append, List.mem_cons]
    omega
  unfold CloneOps.code
  refine wp_seq (reg_wp hE hC (gs := [(q.a0, none)]) (by simp [guardsOf, guardOf, ga0]) r0 h hs ?_)
  rintro a1 w1 ⟨K1, O1, h1, g1, d1, t1⟩
  refine wp_seq (wp_seq (wp_region ?_))
  have hsz : (#[q.b0, q.b1] : Array Oper).size = 2 := rfl
  rw [hsz, show List.range 2 = List.range' 0 ([q.b0] : List Oper).length ++ [1] from rfl]
  refine region_pre (os' := [q.b1]) hE hC (by rfl) (gs := [(q.b0, none)]) (by simp [guardsOf, guardOf, gb0]) r1 h1 g1.sat fun a2 w2 K2 O2 h2 g2 d2 t2 => ?_
  -- the list's value
  obtain ⟨ad, c, hv3, hx⟩ : ∃ (ad : Option Addr) (c : Nat), vals a2.tmps 3 = .slice ad xs.length c ∧ (ad = none → xs = []) := by
    have hr : relV K2 w2 (.sl st xs) (vals a2.tmps 3) (O2 3) := h2.val (t := 3) rfl
    have hr : rel K2 w2 (.sl st xs) [vals a2.tmps 3] (O2 3) := hr
    rw [rel] at hr
    obtain ⟨ad, c, k1, _, _, k4⟩ := hr
    injection k1 with k1
    refine ⟨ad, c, k1, fun ha => ?_⟩
    subst ha
    rcases k4 with k4 | ⟨b, o, ys, k5, _⟩
    · exact k4
    · cases k5
  have hrun : (execOp a2.eval q.b1).run C.P w2 = .ok (.value (.bool ad.isNone)) w2 := by
    simp only [execOp, p2, eval_ev]
    have e3 : ev a2.tmps (.tmp 3) = .slice ad xs.length c := hv3
    have e4 : ev a2.tmps (.const (.slice none 0 0)) = .slice none 0 0 := rfl
    rw [e3, e4]
    simp only [eqGuard, Sem.run_bind, Bool.not_true, Bool.false_eq_true, if_false, Sem.run_pure, Result.andThen_ok, Go.Lib.run_eql_slice_nil w2 q.t e ad _ _ _ _ hu]
  have hw1 : ∀ {b : Act}, Region.wanted q.b1 (yielded #[q.b0, q.b1] b.tmps) = true := fun {b} => by simp [Region.wanted, gb1]
  rw [wpOps, show (#[q.b0, q.b1] : Array Oper)[1]? = some q.b1 from rfl]
  simp only
  rw [hw1, if_pos rfl]
  left
  refine Does.value (R := fun v' w' => v' = .bool ad.isNone ∧ w' = w2) hrun ⟨rfl, rfl⟩ _ _ ?_
  intro v' w' hvw
  rw [hvw.1, hvw.2]
  rw [db1, wpOps]
  obtain ⟨K3, O3, s1, s2⟩ := h2.put_no (Goes.refl g2.sat) (x := .v (.bool ad.isNone)) (v := .bool ad.isNone) (by show rel _ _ _ _ _; rw [rel]) (some 4)
  obtain ⟨m1, m2⟩ := putA_put a2 (some 4) (.bool ad.isNone)
  rw [← m1] at s1
  have hfr : putO [Slot.v (.sl st xs), y1, .v (.arr (strideT C q.a0.type) []), .v (.sl st xs), y4, y5, y6, y7] (some 4) (.v (.bool ad.isNone)) = [Slot.v (.sl st xs), y1, .v (.arr (strideT C q.a0.type) []), .v (.sl st xs), .v (.bool ad.isNone), y5, y6, y7] := rfl
  rw [hfr] at s1
  have hcond : (a2.put (some 4) (.bool ad.isNone)).eval (.tmp 4) = .bool ad.isNone := by
    rw [eval_ev]
    exact bool_of (s1.val (t := 4) rfl)
  obtain ⟨O4, s3, s4⟩ := FR.thin (g := [Slot.v (.sl st xs), .any, .any, .any, .any, .any, .any, .any]) s1 rfl (fun u => by
    match u with
    | 0 => exact .inl rfl
    | 1 | 2 | 3 | 4 | 5 | 6 | 7 => exact .inr rfl
    | u + 8 => exact .inr rfl)
  have gall : Goes K w O K3 w2 O4 := (g1.trans g2).trans (s2.trans ⟨s2.sat, Kn.grows_refl K3 _, Keeps.refl _ _, Own.le_trans (tot_mono s4) (Own.le_or_l _ _)⟩)
  have tall : TK a.tmps (a2.put (some 4) (.bool ad.isNone)).tmps (fun u => u ∈ writesOf q.e) := by
    refine TK.trans (t1.mono fun u hu => ?_) (TK.trans (t2.mono fun u hu => ?_) ((TK.put a2 (some 4) _).mono fun u hu => ?_))
    · simp only [List.filterMap_cons, da0, List.filterMap_nil, List.mem_singleton] at hu
      exact hW u (by omega)
    · simp only [List.filterMap_cons, db0, List.filterMap_nil, List.mem_singleton] at hu
      exact hW u (by omega)
    · injection hu with hu
      exact hW u (by omega)
  have dall : (a2.put (some 4) (.bool ad.isNone)).defers = a.defers := m2.trans (d2.trans d1)
  generalize a2.put (some 4) (.bool ad.isNone) = a3 at *
  cases ad with
  | none =>
    have hx0 := hx rfl
    subst hx0
    obtain ⟨z1, z3, z4, z5, z6, z7, st', hf3⟩ := clone_last hq' rfl e3 rfl rfl
    refine wp_cond_true hcond (wp_seq (wp_region ?_))
    rw [show (#[q.c0] : Array Oper).size = 1 from rfl, show List.range 1 = [0] from rfl, wpOps, show (#[q.c0] : Array Oper)[0]? = some q.c0 from rfl]
    have hw2 : ∀ {b : Act}, Region.wanted q.c0 (yielded #[q.c0] b.tmps) = true := fun {b} => by simp [Region.wanted, gc0]
    simp only
    rw [hw2, if_pos rfl]
    left
    have hrun2 : (execOp a3.eval q.c0).run C.P w2 = .ok (.value (.slice none 0 0)) w2 := by
      simp only [execOp, p3, eval_ev]
      rfl
    refine Does.value (R := fun v' w' => v' = .slice none 0 0 ∧ w' = w2) hrun2 ⟨rfl, rfl⟩ _ _ ?_
    intro v' w' hvw
    rw [hvw.1, hvw.2]
    rw [dc0, wpOps]
    refine wp_ret (hQ _ _ ?_)
    obtain ⟨m3, m4⟩ := putA_put a3 (some 2) (.slice none 0 0)
    have fin : ∀ {y : AV}, relV K3 w2 y (.slice none 0 0) Own.no → putO [Slot.v (.sl st []), .any, .any, .any, .any, .any, .any, .any] (some 2) (.v y) = thinBy 5 0 f3 → Comes' K w O (thinBy 5 0 f3) a (fun u => u ∈ writesOf q.e) (a3.put (some 2) (.slice none 0 0)) w2 := by
      intro y hy hp
      obtain ⟨K5, O5, n1, n2⟩ := s3.put_no (Goes.refl s2.sat) (x := .v y) (v := .slice none 0 0) hy (some 2)
      rw [hp, ← m3] at n1
      refine ⟨K5, O5, n1, gall.trans n2, m4.trans dall, TK.trans tall ((TK.put a3 (some 2) _).mono fun u hu => ?_)⟩
      injection hu with hu
      exact hW u (by omega)
    rcases hf3 with rfl | rfl
    · exact fin (y := .arr st' []) (by show rel _ _ _ _ _; rw [rel]; exact .inl ⟨rfl, none, rfl⟩) rfl
    · exact fin (y := .osl st' []) (by show rel _ _ _ _ _; rw [rel]; exact .inl ⟨rfl, none, rfl⟩) rfl
  | some ad =>
    refine wp_cond_false hcond (wp_skip ?_)
    refine wp_seq (reg_wp hE hC (gs := [(q.d0, none), (q.d1, none), (q.d2, none), (q.d3, none)]) (by simp [guardsOf, guardOf, gd0, gd1, gd2, gd3]) e3 s3 s2.sat ?_)
    rintro a4 w4 ⟨K4, O5, n1, n2, n3, n4⟩
    refine wp_ret (hQ a4 w4 (Comes'.tidy (fs := []) ⟨K4, O5, n1, gall.trans n2, n3.trans dall, TK.trans tall (n4.mono fun u hu => ?_)⟩ 5))
    simp only [List.filterMap_cons, dd0, dd1, dd2, dd3, List.filterMap_nil, List.mem_cons, List.not_mem_nil, or_false] at hu
    exact hW u (by omega)
theorem fit_clone (hE : ∀ t, C.eqT t = true → EqT C.P t) {F : Func} {fn : EFn} (h : cloneFn F = some fn) (hu : ∀ c q, F.body = some c → cloneOps c = some q → ∃ e, C.P.underlying q.t = some (.slice e)) : CodeFit C k F fn := by
  unfold cloneFn at h
  split at h
  · rename_i c hb
    split at h
    · rename_i q hq
      split at h
      · rename_i hc
        simp only [Bool.and_eq_true, bne_iff_ne, beq_iff_eq] at hc
        injection h with h
        subst h
        obtain ⟨e, he⟩ := hu c q hb hq
        refine ⟨by simp [hc.1.1.2], rfl, rfl, by simp [hc.1.2], rfl, c, hb, fun call n ih f f' out a w K O Q hl hev hF hs hQ => ?_⟩
        rw [cloneOps_eq hq]
        exact clone_core hE hc.1.1.1 he ih n (hl.trans hc.2) hev hF hs hQ
      · cases h
    · cases h
  · cases h
end
end Go.E

namespace Go.Proofs.YtlghjmdkdkkkjaaGreat
/-- Of each drawn region (function k, region j): the kinds of its slots, what is carried, what may be loud. Printed by program. -/
def drawnH (k j : Nat) : Option (List Nat × Nat × Nat) := if Nat.blt k 136 then (if Nat.blt k 63 then (if Nat.blt k 38 then (if Nat.blt k 17 then (if Nat.blt k 15 then (if k == 6 then (if j == 6 then some ([0, 0, 0, 0, 0, 0, 0, 0, 0, 0, 0, 0, 0, 0, 0, 0, 0, 1, 1, 1, 1, 1, 1, 1, 1, 1], 0, 480) else none) else none) else (if Nat.blt k 16 then (if k == 15 then (if Nat.blt j 10 then (if j == 2 then some ([0, 0, 0, 0, 0, 0, 0, 0, 0, 0, 0, 0, 0, 0, 0, 0, 0, 0, 0, 0, 0, 1, 1, 1, 1, 1, 1, 1, 1, 1, 1], 0, 1015) else none) else (if j == 10 then some ([0, 0, 0, 0, 0, 0, 0, 0, 0, 0, 0, 0, 0, 0, 0, 0, 0, 0, 0, 0, 0, 0, 0, 0, 0, 0, 0, 0, 0, 0, 0, 0, 0, 0, 0, 0, 0, 0, 0, 0, 0, 0, 0, 0, 0, 0, 0, 0, 0, 0, 0, 0, 0, 0, 1, 1, 1, 1, 1, 1, 1, 1, 1, 1, 1, 1, 1, 1, 1, 1, 1, 1, 1, 1, 1, 1, 1, 1, 1, 1, 1, 1, 1], 0, 1071644672) else none)) else none) else (if k == 16 then (if Nat.blt j 5 then (if j == 1 then some ([0, 0, 0, 1, 0, 0, 1, 1, 1, 1, 1, 1, 1, 1, 1, 1, 1, 1, 1, 1, 1, 1, 1], 0, 393216) else none) else (if Nat.blt j 10 then (if j == 5 then some ([0, 0, 0, 0, 0, 0, 0, 0, 0, 0, 0, 0, 0, 0, 0, 0, 0, 0, 0, 0, 0, 0, 0, 0, 0, 0, 0, 0, 0, 0, 1, 1, 1, 1, 1, 1, 1, 1, 1, 1, 1, 1, 1, 1], 0, 32640) else none) else (if j == 10 then some ([0, 0, 0, 0, 0, 0, 0, 0, 0, 0, 0, 0, 0, 0, 0, 0, 0, 0, 0, 0, 0, 0, 0, 0, 0, 0, 0, 0, 0, 0, 0, 0, 0, 0, 0, 0, 0, 0, 0, 0, 0, 0, 0, 0, 0, 0, 0, 0, 0, 0, 0, 1, 1, 1, 1, 1, 1, 1, 1, 1, 1, 1, 1], 0, 8160) else none))) else none))) else (if Nat.blt k 31 then (if Nat.blt k 18 then (if k == 17 then (if j == 12 then some ([0, 0, 0, 0, 0, 0, 0, 0, 0, 0, 0, 0, 0, 0, 0, 0, 0, 0, 0, 0, 0, 0, 0, 0, 0, 0, 0, 0, 0, 0, 0, 0, 0, 0, 0, 0, 0, 0, 0, 0, 0, 0, 0, 0, 0, 0, 0, 0, 0, 0, 0, 0, 0, 0, 0, 0, 0, 0, 0, 0, 0, 0, 0, 0, 0, 0, 0, 0, 0, 0, 0, 0, 0, 0, 0, 1, 1, 1, 1, 1, 1, 1, 1, 1, 1, 1, 1, 1, 1], 0, 29152) else none) else none) else (if k == 18 then (if j == 3 then some ([0, 0, 0, 0, 0, 1, 1, 1, 0, 0, 0, 0, 0, 0, 0, 0, 0, 0, 0, 0, 0, 0, 0, 0, 0, 0, 0, 0, 0, 0, 0, 0, 1, 1, 1, 1, 1, 1, 1, 1, 1, 1], 0, 7280) else none) else none)) else (if Nat.blt k 36 then (if k == 31 then (if j == 14 then some ([0, 0, 0, 0, 0, 0, 0, 0, 0, 0, 0, 0, 0, 0, 0, 0, 0, 0, 0, 0, 0, 0, 0, 0, 0, 0, 0, 0, 0, 0, 0, 0, 0, 0, 0, 0, 0, 0, 0, 0, 0, 0, 1, 1, 1, 1, 1, 1, 1, 1, 1], 0, 1016) else none) else none) else (if k == 36 then (if j == 1 then some ([0, 0, 0, 1, 1, 1, 1, 1, 1, 1, 1, 1, 1, 1, 1, 1], 0, 7711) else none) else none)))) else (if Nat.blt k 51 then (if Nat.blt k 48 then (if k == 38 then (if j == 1 then some ([0, 0, 0, 1, 1, 1, 1, 1, 1, 1, 1, 1, 1, 1, 1, 1, 1, 1, 1, 1, 1, 1, 1], 0, 1032192) else none) else none) else (if Nat.blt k 49 then (if k == 48 then (if Nat.blt j 16 then (if j == 10 then some ([0, 0, 0, 0, 1, 1, 1, 0, 0, 0, 0, 0, 0, 0, 0, 0, 0, 0, 0, 0, 0, 0, 0, 0, 0, 0, 0, 0, 0, 0, 0, 0, 0, 0, 0, 0, 1, 1], 0, 28) else none) else (if Nat.blt j 18 then (if j == 16 then some ([0, 0, 0, 0, 1, 1, 1, 0, 0, 0, 0, 0, 0, 0, 0, 0, 0, 0, 0, 0, 0, 0, 0, 0, 0, 0, 0, 0, 0, 0, 0, 0, 0, 0, 0, 0, 0, 0, 0, 0, 0, 0, 0, 0, 0, 0, 0, 0, 0, 0, 0, 0, 1, 1, 1, 1, 1, 1], 0, 448) else none) else (if j == 18 then some ([0, 0, 0, 0, 1, 1, 1, 0, 0, 0, 0, 0, 0, 0, 0, 0, 0, 0, 0, 0, 0, 0, 0, 0, 0, 0, 0, 0, 0, 0, 0, 0, 0, 0, 0, 0, 0, 0, 0, 0, 0, 0, 0, 0, 0, 0, 0, 0, 0, 0, 0, 0, 0, 0, 0, 0, 0, 0, 0, 1, 1, 1, 1, 1], 0, 230) else none))) else none) else (if k == 49 then (if Nat.blt j 5 then (if j == 1 then some ([0, 0, 0, 0, 0, 1, 0, 0, 0, 0, 0, 0, 0, 0, 1, 1, 1, 1, 1, 1, 1, 1, 1], 0, 1008) else none) else (if Nat.blt j 15 then (if j == 5 then some ([0, 0, 0, 0, 0, 0, 0, 0, 1, 1, 0, 0, 0, 0, 0, 0, 0, 0, 0, 0, 0, 0, 0, 0, 0, 0, 0, 0, 0, 0, 0, 0, 0, 1, 1, 1, 1, 1, 1, 1, 1, 1, 1, 1, 1], 0, 12288) else none) else (if j == 15 then some ([0, 0, 0, 0, 0, 0, 0, 0, 0, 0, 0, 0, 0, 1, 0, 0, 0, 0, 0, 0, 0, 0, 0, 0, 0, 0, 0, 0, 0, 0, 0, 0, 0, 0, 0, 0, 0, 0, 0, 0, 0, 0, 0, 0, 0, 0, 0, 0, 0, 0, 0, 0, 0, 0, 0, 0, 0, 0, 0, 0, 0, 0, 0, 0, 0, 0, 0, 0, 0, 0, 1, 1, 1, 1, 1, 1, 1, 1, 1, 1, 1], 0, 6144) else none))) else none))) else (if Nat.blt k 60 then (if Nat.blt k 59 then (if k == 51 then (if j == 4 then some ([0, 0, 0, 0, 0, 0, 0, 0, 0, 1, 1, 1, 1, 1, 1, 1, 1, 1, 1, 1, 1, 1, 1], 0, 15879) else none) else none) else (if k == 59 then (if Nat.blt j 4 then (if j == 1 then some ([0, 0, 0, 0, 0, 1, 1, 1, 1, 1, 1, 1], 0, 112) else none) else (if j == 4 then some ([0, 0, 0, 0, 1, 0, 0, 0, 0, 0, 0, 0, 0, 0, 1, 1, 1, 1, 1, 1, 1, 1, 1, 1, 1, 1, 1, 1, 1], 0, 65024) else none)) else none)) else (if Nat.blt k 62 then (if k == 60 then (if j == 3 then some ([0, 0, 0, 0, 0, 0, 0, 1, 1, 1, 0, 0, 0, 0, 0, 0, 0, 0, 0, 0, 0, 0, 0, 0, 0, 0, 1, 1, 1, 1, 1, 1, 1, 1, 1], 0, 30720) else none) else none) else (if k == 62 then (if Nat.blt j 27 then (if j == 1 then some ([0, 0, 0, 1, 0, 0, 0, 0, 0, 0, 0, 0, 0, 0, 0, 1, 1, 1, 1, 1, 1], 0, 192) else none) else (if Nat.blt j 34 then (if j == 27 then some ([0, 0, 0, 0, 0, 0, 0, 0, 0, 0, 0, 0, 0, 0, 0, 0, 0, 0, 0, 0, 0, 0, 0, 0, 0, 0, 0, 0, 0, 0, 0, 0, 0, 0, 0, 0, 0, 0, 0, 0, 0, 0, 0, 0, 0, 0, 0, 0, 0, 0, 0, 0, 0, 0, 0, 0, 0, 0, 0, 0, 0, 0, 0, 0, 0, 0, 0, 0, 0, 0, 0, 0, 0, 0, 0, 0, 0, 0, 0, 0, 0, 0, 0, 0, 0, 0, 0, 0, 0, 0, 0, 0, 0, 0, 0, 1, 1, 1, 1, 1, 1], 0, 192) else none) else (if j == 34 then some ([0, 0, 0, 0, 0, 0, 0, 0, 0, 0, 0, 0, 0, 0, 0, 0, 0, 0, 0, 0, 0, 0, 0, 0, 0, 0, 0, 0, 0, 0, 0, 0, 0, 0, 0, 0, 0, 0, 0, 0, 0, 0, 0, 0, 0, 0, 0, 0, 0, 0, 0, 0, 0, 0, 0, 0, 0, 0, 0, 0, 0, 0, 0, 0, 0, 0, 0, 0, 0, 0, 0, 0, 0, 0, 0, 0, 0, 0, 0, 0, 0, 0, 0, 0, 0, 0, 0, 0, 0, 0, 0, 0, 0, 0, 0, 0, 0, 0, 0, 0, 0, 0, 0, 0, 0, 0, 0, 0, 0, 0, 0, 0, 0, 0, 0, 0, 0, 1, 1, 1, 1, 1, 1, 1, 1, 1, 1, 1, 1, 1], 0, 16128) else none))) else none))))) else (if Nat.blt k 93 then (if Nat.blt k 79 then (if Nat.blt k 71 then (if k == 63 then (if j == 21 then some ([0, 0, 0, 0, 0, 0, 0, 0, 0, 0, 0, 0, 0, 0, 0, 0, 0, 0, 0, 0, 0, 0, 0, 0, 0, 0, 0, 0, 0, 0, 0, 0, 0, 0, 0, 0, 0, 0, 0, 0, 0, 0, 0, 0, 0, 0, 0, 0, 0, 0, 0, 0, 0, 0, 0, 0, 0, 0, 0, 0, 0, 0, 0, 0, 0, 0, 0, 0, 0, 0, 0, 0, 0, 0, 0, 0, 0, 0, 0, 0, 0, 0, 1, 1, 1, 1, 1, 1, 1, 1, 1, 1], 0, 960) else none) else none) else (if Nat.blt k 72 then (if k == 71 then (if j == 1 then some ([0, 0, 0, 0, 0, 0, 1, 1, 1, 1, 1, 1, 1, 1, 1, 1, 1, 1, 1, 1, 1, 1, 1, 1, 1], 0, 516592) else none) else none) else (if k == 72 then (if j == 6 then some ([0, 0, 0, 0, 0, 0, 0, 0, 0, 0, 0, 0, 0, 0, 0, 0, 0, 0, 0, 0, 0, 0, 0, 0, 0, 0, 0, 0, 0, 1, 1, 1, 1, 1, 1, 1, 1, 1, 1, 1, 1, 1], 0, 7943) else none) else none))) else (if Nat.blt k 91 then (if Nat.blt k 84 then (if k == 79 then (if j == 6 then some ([0, 0, 0, 0, 0, 0, 1, 1, 0, 0, 0, 0, 0, 0, 0, 0, 0, 0, 0, 0, 0, 0, 0, 0, 0, 0, 0, 0, 1, 1, 1, 1, 1, 1], 0, 192) else none) else none) else (if k == 84 then (if j == 4 then some ([0, 0, 0, 0, 0, 0, 0, 0, 0, 1, 1, 1, 1, 1, 1, 1, 1, 1, 1, 1, 1, 1, 1], 0, 15879) else none) else none)) else (if Nat.blt k 92 then (if k == 91 then (if j == 9 then some ([0, 0, 0, 0, 0, 0, 0, 0, 0, 1, 0, 0, 0, 0, 0, 0, 0, 0, 0, 0, 0, 0, 0, 0, 0, 0, 0, 0, 0, 0, 1, 1, 1, 1, 1, 1, 1, 1, 1, 1, 1, 1], 0, 12288) else none) else none) else (if k == 92 then (if j == 12 then some ([0, 0, 0, 0, 0, 0, 0, 0, 0, 0, 0, 0, 0, 0, 0, 0, 0, 0, 0, 0, 0, 0, 0, 0, 0, 0, 0, 0, 0, 0, 0, 0, 0, 0, 0, 0, 0, 0, 0, 0, 0, 0, 0, 0, 1, 1, 1, 1, 1, 1, 1, 1, 1, 1, 1, 1, 1, 1], 0, 32256) else none) else none)))) else (if Nat.blt k 124 then (if Nat.blt k 107 then (if Nat.blt k 100 then (if k == 93 then (if j == 15 then some ([0, 0, 0, 0, 0, 0, 0, 0, 0, 0, 0, 0, 2, 0, 0, 0, 0, 0, 0, 0, 0, 0, 0, 0, 0, 0, 0, 0, 0, 0, 0, 0, 0, 0, 0, 0, 0, 0, 0, 0, 0, 0, 0, 0, 1, 1, 1, 1, 1, 1, 1, 1, 1, 1, 1, 1, 1, 1, 1, 1, 1, 1, 1, 1, 1, 1, 1, 1, 1, 1, 1], 134217728, 267911168) else none) else none) else (if k == 100 then (if j == 6 then some ([0, 0, 0, 0, 0, 0, 0, 0, 0, 0, 0, 0, 0, 0, 0, 0, 1, 1, 1, 1, 1, 1, 1, 1, 1], 0, 480) else none) else none)) else (if Nat.blt k 118 then (if k == 107 then (if j == 2 then some ([2, 2, 0, 0, 0, 0, 0, 1, 1, 1, 1], 48, 48) else none) else none) else (if k == 118 then (if Nat.blt j 15 then (if j == 11 then some ([0, 0, 0, 0, 0, 0, 0, 0, 0, 1, 0, 0, 0, 0, 0, 0, 0, 0, 0, 0, 0, 0, 0, 0, 0, 0, 0, 0, 0, 0, 0, 0, 0, 1, 1, 1, 1, 1, 1, 1, 1, 1, 1, 1, 1, 1, 1], 0, 32256) else none) else (if j == 15 then some ([0, 0, 0, 0, 0, 0, 0, 0, 0, 0, 0, 1, 0, 0, 0, 0, 0, 0, 0, 0, 0, 0, 0, 0, 0, 0, 0, 0, 0, 0, 0, 0, 0, 0, 0, 0, 0, 0, 0, 0, 0, 0, 0, 0, 0, 0, 0, 0, 0, 0, 0, 0, 0, 1, 1, 1, 1, 1, 1, 1, 1, 1, 1, 1, 1, 1, 1, 1, 1], 0, 196608) else none)) else none))) else (if Nat.blt k 133 then (if Nat.blt k 132 then (if k == 124 then (if Nat.blt j 13 then (if j == 11 then some ([0, 0, 0, 0, 0, 0, 0, 2, 0, 0, 0, 0, 0, 0, 0, 0, 0, 0, 0, 0, 0, 0, 0, 0, 0, 0, 0, 0, 0, 0, 0, 0, 0, 0, 0, 0, 0, 0, 0, 0, 0, 0, 0, 0, 0, 0, 0, 0, 1, 1, 1, 1, 1, 1, 1, 1, 1], 512, 1016) else none) else (if j == 13 then some ([0, 0, 0, 0, 0, 0, 0, 2, 0, 0, 0, 0, 0, 0, 0, 0, 0, 0, 0, 0, 0, 0, 0, 0, 0, 0, 0, 0, 0, 0, 0, 0, 0, 0, 0, 0, 0, 0, 0, 0, 0, 0, 0, 0, 0, 0, 0, 0, 0, 0, 0, 0, 0, 0, 0, 0, 0, 0, 0, 0, 0, 1, 1, 1, 1, 1, 1, 1, 1, 1, 1, 1, 1, 1], 8192, 16352) else none)) else none) else (if k == 132 then (if j == 3 then some ([0, 0, 0, 0, 0, 0, 1, 0, 0, 0, 0, 0, 0, 1, 1, 1, 1, 1, 1, 1], 0, 240) else none) else none)) else (if Nat.blt k 135 then (if k == 133 then (if Nat.blt j 2 then (if j == 1 then some ([0, 0, 0, 0, 0, 0, 0, 1, 1, 0, 0, 1, 1, 1, 1, 1, 1, 1, 1, 1, 1, 1, 1, 1, 1, 1, 1, 1, 1, 1, 1], 0, 3145728) else none) else (if j == 2 then some ([0, 0, 0, 0, 0, 0, 0, 0, 0, 1, 1, 0, 0, 0, 0, 0, 0, 0, 0, 0, 0, 0, 0, 0, 0, 0, 0, 0, 0, 0, 0, 1, 1, 1, 1, 1, 1], 0, 192) else none)) else none) else (if k == 135 then (if Nat.blt j 4 then (if j == 3 then some ([0, 0, 0, 0, 0, 0, 0, 0, 0, 0, 0, 0, 0, 0, 0, 0, 0, 0, 0, 0, 0, 0, 0, 0, 1, 1, 1, 1, 1, 1, 1, 1, 1, 1, 1, 1, 1, 1, 1, 1, 1, 1, 1, 1, 1, 1, 1, 1], 0, 66846720) else none) else (if j == 4 then some ([0, 0, 0, 0, 0, 0, 0, 0, 0, 0, 0, 0, 0, 0, 0, 0, 0, 0, 0, 0, 0, 0, 0, 0, 0, 0, 0, 0, 0, 0, 0, 0, 0, 0, 0, 0, 0, 0, 0, 0, 0, 0, 0, 0, 0, 0, 0, 0, 1, 1, 1, 1, 1, 1, 1, 1, 1, 1, 1, 1, 1, 1, 1, 1, 1, 1, 1, 1, 1, 1, 1, 1], 0, 66846720) else none)) else none)))))) else (if Nat.blt k 168 then (if Nat.blt k 156 then (if Nat.blt k 144 then (if Nat.blt k 139 then (if k == 136 then (if j == 17 then some ([0, 0, 0, 0, 0, 0, 0, 0, 0, 0, 0, 0, 0, 0, 0, 0, 0, 0, 0, 0, 0, 0, 0, 0, 0, 0, 0, 0, 0, 0, 0, 0, 0, 0, 0, 0, 0, 0, 0, 0, 0, 0, 0, 0, 0, 0, 0, 0, 0, 0, 0, 0, 0, 0, 0, 0, 0, 0, 0, 0, 0, 0, 0, 0, 0, 0, 0, 0, 0, 0, 0, 0, 0, 0, 0, 0, 0, 0, 0, 0, 0, 1, 1, 1, 1, 1, 1, 1, 1, 1, 1, 1, 1, 1, 1, 1, 1, 1], 0, 130055) else none) else none) else (if Nat.blt k 143 then (if k == 139 then (if j == 1 then some ([0, 0, 0, 1, 1, 1, 1, 1, 1, 1, 1, 1, 1, 1, 1, 1, 1, 1, 1, 1, 1, 1, 1, 1, 1, 1, 1, 1, 1, 1, 1, 1, 1], 0, 1048377464) else none) else none) else (if k == 143 then (if Nat.blt j 13 then (if j == 11 then some ([0, 0, 0, 0, 0, 0, 0, 0, 0, 1, 1, 0, 0, 0, 0, 0, 0, 0, 0, 0, 0, 0, 0, 0, 0, 0, 0, 0, 0, 0, 0, 0, 0, 0, 1, 1, 1, 1, 1, 1, 1, 1], 0, 960) else none) else (if j == 13 then some ([0, 0, 0, 0, 0, 0, 0, 0, 0, 0, 0, 0, 0, 0, 0, 0, 0, 0, 0, 0, 0, 0, 0, 0, 0, 0, 0, 0, 0, 0, 0, 0, 0, 0, 0, 0, 0, 0, 0, 0, 0, 0, 0, 0, 0, 0, 0, 0, 1, 1, 1, 1, 1, 1, 1, 1, 1, 1, 1, 1, 1, 1, 1, 1], 0, 63518) else none)) else none))) else (if Nat.blt k 148 then (if Nat.blt k 147 then (if k == 144 then (if j == 1 then some ([0, 0, 0, 0, 0, 0, 0, 1, 1, 1, 1, 1, 1, 1], 0, 64) else none) else none) else (if k == 147 then (if Nat.blt j 4 then (if j == 3 then some ([0, 0, 0, 0, 0, 0, 0, 1, 1, 0, 0, 0, 0, 0, 0, 0, 0, 0, 0, 0, 0, 0, 0, 0, 0, 1, 1, 1, 1, 1, 1], 0, 896) else none) else (if Nat.blt j 5 then (if j == 4 then some ([0, 0, 0, 0, 0, 0, 0, 0, 0, 0, 0, 0, 0, 0, 0, 0, 0, 0, 0, 0, 0, 0, 0, 0, 0, 0, 0, 0, 0, 0, 0, 1, 1, 1, 1, 1], 0, 28) else none) else (if j == 5 then some ([0, 0, 0, 0, 0, 0, 1, 0, 0, 0, 0, 0, 0, 0, 0, 0, 0, 0, 0, 0, 0, 0, 0, 0, 0, 0, 0, 0, 0, 0, 0, 0, 0, 0, 0, 0, 1, 1, 1, 1, 1], 0, 60) else none))) else none)) else (if Nat.blt k 155 then (if k == 148 then (if j == 17 then some ([0, 0, 0, 0, 0, 0, 0, 0, 0, 0, 0, 0, 0, 0, 0, 0, 0, 0, 0, 0, 0, 0, 0, 0, 0, 0, 0, 0, 0, 0, 0, 0, 0, 0, 0, 0, 0, 0, 0, 0, 0, 0, 0, 0, 0, 0, 0, 0, 0, 0, 0, 0, 0, 0, 0, 0, 0, 0, 0, 0, 0, 0, 0, 0, 0, 0, 0, 0, 0, 0, 0, 0, 0, 1, 1, 1, 1, 1, 1, 1, 1, 1, 1, 1, 1, 1, 1, 1], 0, 32263) else none) else none) else (if k == 155 then (if Nat.blt j 6 then (if j == 4 then some ([0, 0, 0, 0, 0, 0, 0, 0, 0, 0, 0, 0, 0, 0, 0, 0, 0, 0, 1, 1, 1, 1, 1, 1, 1, 1, 1, 1, 1, 1, 1, 1, 1, 1, 1], 0, 130062) else none) else (if j == 6 then some ([0, 0, 0, 0, 0, 0, 0, 0, 0, 0, 0, 0, 0, 0, 0, 0, 0, 0, 0, 0, 0, 0, 0, 0, 0, 0, 0, 0, 0, 0, 0, 0, 0, 0, 0, 0, 0, 1, 1, 1, 1, 1, 1, 1, 1, 1, 1, 1, 1, 1, 1, 1, 1], 0, 260096) else none)) else none)))) else (if Nat.blt k 161 then (if Nat.blt k 159 then (if Nat.blt k 157 then (if k == 156 then (if j == 10 then some ([0, 0, 0, 0, 0, 0, 0, 0, 0, 0, 0, 0, 0, 0, 0, 0, 0, 0, 0, 0, 0, 0, 0, 0, 0, 0, 0, 0, 0, 0, 0, 0, 0, 0, 0, 0, 1, 1, 1, 1, 1, 1, 1, 1, 1, 1, 1, 1, 1, 1, 1, 1, 1, 1], 0, 1040384) else none) else none) else (if k == 157 then (if j == 10 then some ([0, 0, 0, 0, 0, 0, 0, 0, 0, 0, 0, 0, 0, 0, 0, 0, 0, 0, 0, 0, 0, 0, 0, 0, 0, 0, 0, 0, 0, 0, 0, 0, 0, 0, 0, 0, 0, 0, 0, 0, 0, 0, 0, 0, 0, 0, 0, 0, 0, 1, 1, 1, 1, 1, 1, 1, 1, 1, 1, 1, 1, 1, 1, 1, 1, 1, 1], 0, 1040384) else none) else none)) else (if Nat.blt k 160 then (if k == 159 then (if j == 3 then some ([0, 0, 0, 0, 0, 0, 0, 0, 0, 0, 0, 0, 0, 0, 0, 0, 1, 1, 1, 1, 1, 1, 1, 1, 1, 1, 1, 1, 1, 1], 0, 65024) else none) else none) else (if k == 160 then (if Nat.blt j 17 then (if Nat.blt j 11 then (if j == 5 then some ([0, 0, 0, 0, 0, 0, 0, 0, 0, 0, 0, 0, 0, 0, 0, 0, 0, 0, 0, 1, 1, 1, 1, 1, 1, 1, 1, 1, 1, 1, 1, 1, 1, 1, 1, 1, 1], 0, 261134) else none) else (if Nat.blt j 16 then (if j == 11 then some ([0, 0, 0, 0, 0, 0, 0, 0, 0, 0, 0, 0, 0, 0, 0, 0, 0, 0, 0, 0, 0, 0, 0, 0, 0, 0, 0, 0, 0, 0, 0, 0, 0, 0, 0, 0, 0, 0, 0, 0, 0, 0, 0, 0, 0, 0, 1, 1, 1, 1, 1, 1, 1, 1, 1, 1, 1, 1, 1, 1, 1, 1], 0, 260096) else none) else (if j == 16 then some ([0, 0, 0, 0, 0, 0, 0, 0, 0, 0, 0, 0, 0, 0, 0, 0, 0, 0, 0, 0, 0, 0, 0, 0, 0, 0, 0, 0, 0, 0, 0, 0, 0, 0, 0, 0, 0, 0, 0, 0, 0, 0, 0, 0, 0, 0, 0, 0, 0, 0, 0, 0, 0, 0, 0, 0, 0, 0, 0, 0, 0, 0, 0, 0, 0, 0, 0, 0, 0, 0, 0, 0, 1, 1, 1, 1, 1, 1, 1, 1, 1, 1, 1, 1, 1], 0, 8128) else none))) else (if Nat.blt j 22 then (if j == 17 then some ([0, 0, 0, 0, 0, 0, 0, 0, 0, 0, 0, 0, 0, 0, 0, 0, 0, 0, 0, 0, 0, 0, 0, 0, 0, 0, 0, 0, 0, 0, 0, 0, 0, 0, 0, 0, 0, 0, 0, 0, 0, 0, 0, 0, 0, 0, 0, 0, 0, 0, 0, 0, 0, 0, 0, 0, 0, 0, 0, 0, 0, 0, 0, 0, 0, 0, 0, 0, 0, 0, 0, 0, 0, 0, 0, 0, 0, 0, 0, 0, 0, 0, 0, 0, 0, 1, 1, 1, 1, 1, 1, 1, 1, 1, 1, 1, 1, 1, 1, 1, 1], 0, 260096) else none) else (if Nat.blt j 23 then (if j == 22 then some ([0, 0, 0, 0, 0, 0, 0, 0, 0, 0, 0, 0, 0, 0, 0, 0, 0, 0, 0, 0, 0, 0, 0, 0, 0, 0, 0, 0, 0, 0, 0, 0, 0, 0, 0, 0, 0, 0, 0, 0, 0, 0, 0, 0, 0, 0, 0, 0, 0, 0, 0, 0, 0, 0, 0, 0, 0, 0, 0, 0, 0, 0, 0, 0, 0, 0, 0, 0, 0, 0, 0, 0, 0, 0, 0, 0, 0, 0, 0, 0, 0, 0, 0, 0, 0, 0, 0, 0, 0, 0, 0, 0, 0, 0, 0, 0, 0, 0, 0, 0, 0, 0, 0, 0, 0, 0, 0, 0, 0, 0, 0, 0, 1, 1, 1, 1, 1, 1, 1, 1, 1, 1, 1, 1, 1], 0, 8128) else none) else (if j == 23 then some ([0, 0, 0, 0, 0, 0, 0, 0, 0, 0, 0, 0, 0, 0, 0, 0, 0, 0, 0, 0, 0, 0, 0, 0, 0, 0, 0, 0, 0, 0, 0, 0, 0, 0, 0, 0, 0, 0, 0, 0, 0, 0, 0, 0, 0, 0, 0, 0, 0, 0, 0, 0, 0, 0, 0, 0, 0, 0, 0, 0, 0, 0, 0, 0, 0, 0, 0, 0, 0, 0, 0, 0, 0, 0, 0, 0, 0, 0, 0, 0, 0, 0, 0, 0, 0, 0, 0, 0, 0, 0, 0, 0, 0, 0, 0, 0, 0, 0, 0, 0, 0, 0, 0, 0, 0, 0, 0, 0, 0, 0, 0, 0, 0, 0, 0, 0, 0, 0, 0, 0, 0, 0, 0, 0, 0, 1, 1, 1, 1, 1, 1, 1, 1, 1, 1, 1, 1, 1, 1, 1, 1], 0, 260096) else none)))) else none))) else (if Nat.blt k 164 then (if Nat.blt k 162 then (if k == 161 then (if Nat.blt j 5 then (if Nat.blt j 3 then (if j == 1 then some ([0, 0, 0, 0, 0, 0, 0, 0, 0, 0, 0, 0, 0, 1, 1, 1, 1, 1, 1, 1, 1, 1, 1, 1, 1, 1, 1], 0, 65024) else none) else (if j == 3 then some ([0, 0, 0, 0, 0, 0, 0, 0, 0, 0, 0, 0, 0, 0, 0, 0, 0, 0, 0, 0, 0, 0, 0, 0, 0, 0, 0, 0, 0, 0, 0, 1, 1, 1, 1, 1, 1, 1, 1, 1, 1, 1, 1, 1, 1, 1, 1, 1], 0, 130062) else none)) else (if Nat.blt j 8 then (if j == 5 then some ([0, 0, 0, 0, 0, 0, 0, 0, 0, 0, 0, 0, 0, 0, 0, 0, 0, 0, 0, 0, 0, 0, 0, 0, 0, 0, 0, 0, 0, 0, 0, 0, 0, 0, 0, 0, 0, 0, 0, 0, 0, 0, 0, 0, 0, 0, 0, 0, 0, 0, 1, 1, 1, 1, 1, 1, 1, 1, 1, 1, 1, 1, 1, 1, 1, 1], 0, 64526) else none) else (if j == 8 then some ([0, 0, 0, 0, 0, 0, 0, 0, 0, 0, 0, 0, 0, 0, 0, 0, 0, 0, 0, 0, 0, 0, 0, 0, 0, 0, 0, 0, 0, 0, 0, 0, 0, 0, 0, 0, 0, 0, 0, 0, 0, 0, 0, 0, 0, 0, 0, 0, 0, 0, 0, 0, 0, 0, 0, 0, 0, 0, 0, 0, 0, 0, 0, 0, 0, 0, 0, 0, 0, 0, 0, 1, 1, 1, 1, 1, 1, 1, 1, 1, 1, 1, 1, 1, 1], 0, 65024) else none))) else none) else (if k == 162 then (if Nat.blt j 10 then (if Nat.blt j 5 then (if Nat.blt j 3 then (if j == 1 then some ([0, 0, 0, 0, 0, 0, 0, 0, 0, 0, 0, 0, 0, 0, 1, 1, 1, 1, 1, 1, 1, 1, 1, 1, 1, 1, 1, 1], 0, 65024) else none) else (if j == 3 then some ([0, 0, 0, 0, 0, 0, 0, 0, 0, 0, 0, 0, 0, 0, 0, 0, 0, 0, 0, 0, 0, 0, 0, 0, 0, 0, 0, 0, 0, 0, 0, 0, 1, 1, 1, 1, 1, 1, 1, 1, 1, 1, 1, 1, 1, 1, 1, 1], 0, 64526) else none)) else (if Nat.blt j 8 then (if j == 5 then some ([0, 0, 0, 0, 0, 0, 0, 0, 0, 0, 0, 0, 0, 0, 0, 0, 0, 0, 0, 0, 0, 0, 0, 0, 0, 0, 0, 0, 0, 0, 0, 0, 0, 0, 0, 0, 0, 0, 0, 0, 0, 0, 0, 0, 0, 0, 0, 0, 0, 0, 1, 1, 1, 1, 1, 1, 1, 1, 1, 1, 1, 1, 1, 1, 1, 1, 1], 0, 130062) else none) else (if j == 8 then some ([0, 0, 0, 0, 0, 0, 0, 0, 0, 0, 0, 0, 0, 0, 0, 0, 0, 0, 0, 0, 0, 0, 0, 0, 0, 0, 0, 0, 0, 0, 0, 0, 0, 0, 0, 0, 0, 0, 0, 0, 0, 0, 0, 0, 0, 0, 0, 0, 0, 0, 0, 0, 0, 0, 0, 0, 0, 0, 0, 0, 0, 0, 0, 0, 0, 0, 0, 0, 0, 0, 0, 0, 1, 1, 1, 1, 1, 1, 1, 1, 1, 1, 1, 1, 1, 1], 0, 65024) else none))) else (if Nat.blt j 15 then (if Nat.blt j 13 then (if j == 10 then some ([0, 0, 0, 0, 0, 0, 0, 0, 0, 0, 0, 0, 0, 0, 0, 0, 0, 0, 0, 0, 0, 0, 0, 0, 0, 0, 0, 0, 0, 0, 0, 0, 0, 0, 0, 0, 0, 0, 0, 0, 0, 0, 0, 0, 0, 0, 0, 0, 0, 0, 0, 0, 0, 0, 0, 0, 0, 0, 0, 0, 0, 0, 0, 0, 0, 0, 0, 0, 0, 0, 0, 0, 0, 0, 0, 0, 0, 0, 0, 0, 0, 0, 0, 0, 0, 0, 0, 1, 1, 1, 1, 1, 1, 1, 1, 1, 1, 1, 1, 1, 1], 0, 65024) else none) else (if j == 13 then some ([0, 0, 0, 0, 0, 0, 0, 0, 0, 0, 0, 0, 0, 0, 0, 0, 0, 0, 0, 0, 0, 0, 0, 0, 0, 0, 0, 0, 0, 0, 0, 0, 0, 0, 0, 0, 0, 0, 0, 0, 0, 0, 0, 0, 0, 0, 0, 0, 0, 0, 0, 0, 0, 0, 0, 0, 0, 0, 0, 0, 0, 0, 0, 0, 0, 0, 0, 0, 0, 0, 0, 0, 0, 0, 0, 0, 0, 0, 0, 0, 0, 0, 0, 0, 0, 0, 0, 0, 0, 0, 0, 0, 0, 0, 0, 0, 0, 0, 0, 0, 0, 0, 0, 0, 0, 1, 1, 1, 1, 1, 1, 1, 1, 1, 1, 1, 1, 1, 1, 1, 1], 0, 64526) else none)) else (if Nat.blt j 18 then (if j == 15 then some ([0, 0, 0, 0, 0, 0, 0, 0, 0, 0, 0, 0, 0, 0, 0, 0, 0, 0, 0, 0, 0, 0, 0, 0, 0, 0, 0, 0, 0, 0, 0, 0, 0, 0, 0, 0, 0, 0, 0, 0, 0, 0, 0, 0, 0, 0, 0, 0, 0, 0, 0, 0, 0, 0, 0, 0, 0, 0, 0, 0, 0, 0, 0, 0, 0, 0, 0, 0, 0, 0, 0, 0, 0, 0, 0, 0, 0, 0, 0, 0, 0, 0, 0, 0, 0, 0, 0, 0, 0, 0, 0, 0, 0, 0, 0, 0, 0, 0, 0, 0, 0, 0, 0, 0, 0, 0, 0, 0, 0, 0, 0, 0, 0, 0, 0, 0, 0, 0, 0, 0, 0, 0, 0, 1, 1, 1, 1, 1, 1, 1, 1, 1, 1, 1, 1, 1, 1, 1, 1, 1], 0, 130062) else none) else (if Nat.blt j 21 then (if j == 18 then some ([0, 0, 0, 0, 0, 0, 0, 0, 0, 0, 0, 0, 0, 0, 0, 0, 0, 0, 0, 0, 0, 0, 0, 0, 0, 0, 0, 0, 0, 0, 0, 0, 0, 0, 0, 0, 0, 0, 0, 0, 0, 0, 0, 0, 0, 0, 0, 0, 0, 0, 0, 0, 0, 0, 0, 0, 0, 0, 0, 0, 0, 0, 0, 0, 0, 0, 0, 0, 0, 0, 0, 0, 0, 0, 0, 0, 0, 0, 0, 0, 0, 0, 0, 0, 0, 0, 0, 0, 0, 0, 0, 0, 0, 0, 0, 0, 0, 0, 0, 0, 0, 0, 0, 0, 0, 0, 0, 0, 0, 0, 0, 0, 0, 0, 0, 0, 0, 0, 0, 0, 0, 0, 0, 0, 0, 0, 0, 0, 0, 0, 0, 0, 0, 0, 0, 0, 0, 0, 0, 0, 0, 0, 0, 0, 0, 1, 1, 1, 1, 1, 1, 1, 1, 1, 1, 1, 1, 1, 1], 0, 65024) else none) else (if j == 21 then some ([0, 0, 0, 0, 0, 0, 0, 0, 0, 0, 0, 0, 0, 0, 0, 0, 0, 0, 0, 0, 0, 0, 0, 0, 0, 0, 0, 0, 0, 0, 0, 0, 0, 0, 0, 0, 0, 0, 0, 0, 0, 0, 0, 0, 0, 0, 0, 0, 0, 0, 0, 0, 0, 0, 0, 0, 0, 0, 0, 0, 0, 0, 0, 0, 0, 0, 0, 0, 0, 0, 0, 0, 0, 0, 0, 0, 0, 0, 0, 0, 0, 0, 0, 0, 0, 0, 0, 0, 0, 0, 0, 0, 0, 0, 0, 0, 0, 0, 0, 0, 0, 0, 0, 0, 0, 0, 0, 0, 0, 0, 0, 0, 0, 0, 0, 0, 0, 0, 0, 0, 0, 0, 0, 0, 0, 0, 0, 0, 0, 0, 0, 0, 0, 0, 0, 0, 0, 0, 0, 0, 0, 0, 0, 0, 0, 0, 0, 0, 0, 0, 0, 0, 0, 0, 0, 0, 0, 0, 0, 0, 0, 0, 0, 1, 1, 1, 1, 1, 1, 1, 1, 1, 1, 1, 1, 1, 1], 0, 65024) else none))))) else none)) else (if Nat.blt k 165 then (if k == 164 then (if Nat.blt j 3 then (if j == 2 then some ([0, 0, 0, 0, 0, 0, 0, 0, 0, 0, 1, 1], 0, 12) else none) else (if j == 3 then some ([0, 0, 0, 0, 0, 0, 0, 0, 0, 0, 0, 0, 1, 1], 0, 12) else none)) else none) else (if k == 165 then (if j == 1 then some ([0, 0, 0, 0, 1, 1, 1, 1, 1, 1, 1, 1, 1, 1, 1, 1, 1], 0, 8064) else none) else none))))) else (if Nat.blt k 179 then (if Nat.blt k 172 then (if Nat.blt k 169 then (if k == 168 then (if Nat.blt j 6 then (if j == 4 then some ([0, 0, 0, 0, 0, 0, 0, 0, 0, 0, 0, 0, 0, 0, 0, 0, 1, 1, 1, 1, 1, 1, 1, 1, 1, 1, 1, 1, 1, 1, 1], 0, 32270) else none) else (if j == 6 then some ([0, 0, 0, 0, 0, 0, 0, 0, 0, 0, 0, 0, 0, 0, 0, 0, 0, 0, 0, 0, 0, 0, 0, 0, 0, 0, 0, 0, 0, 0, 0, 0, 0, 1, 1, 1, 1, 1, 1, 1, 1, 1, 1, 1, 1, 1, 1, 1, 1], 0, 260096) else none)) else none) else (if Nat.blt k 170 then (if k == 169 then (if j == 10 then some ([0, 0, 0, 0, 0, 0, 0, 0, 0, 0, 0, 0, 0, 0, 0, 0, 0, 0, 0, 0, 0, 0, 0, 0, 0, 0, 0, 0, 0, 0, 0, 0, 0, 1, 1, 1, 1, 1, 1, 1, 1, 1, 1, 1, 1, 1, 1, 1, 1, 1, 1], 0, 1040384) else none) else none) else (if k == 170 then (if j == 10 then some ([0, 0, 0, 0, 0, 0, 0, 0, 0, 0, 0, 0, 0, 0, 0, 0, 0, 0, 0, 0, 0, 0, 0, 0, 0, 0, 0, 0, 0, 0, 0, 0, 0, 0, 0, 0, 0, 0, 0, 0, 0, 0, 0, 0, 0, 0, 0, 1, 1, 1, 1, 1, 1, 1, 1, 1, 1, 1, 1, 1, 1, 1, 1, 1, 1], 0, 1040384) else none) else none))) else (if Nat.blt k 175 then (if Nat.blt k 173 then (if k == 172 then (if j == 3 then some ([0, 0, 0, 0, 0, 0, 0, 0, 0, 0, 0, 0, 0, 0, 1, 1, 1, 1, 1, 1, 1, 1, 1, 1, 1, 1, 1, 1], 0, 65024) else none) else none) else (if k == 173 then (if Nat.blt j 17 then (if Nat.blt j 11 then (if j == 5 then some ([0, 0, 0, 0, 0, 0, 0, 0, 0, 0, 0, 0, 0, 0, 0, 0, 0, 1, 1, 1, 1, 1, 1, 1, 1, 1, 1, 1, 1, 1, 1, 1, 1], 0, 65038) else none) else (if Nat.blt j 16 then (if j == 11 then some ([0, 0, 0, 0, 0, 0, 0, 0, 0, 0, 0, 0, 0, 0, 0, 0, 0, 0, 0, 0, 0, 0, 0, 0, 0, 0, 0, 0, 0, 0, 0, 0, 0, 0, 0, 0, 0, 0, 0, 0, 0, 0, 1, 1, 1, 1, 1, 1, 1, 1, 1, 1, 1, 1, 1, 1, 1, 1], 0, 260096) else none) else (if j == 16 then some ([0, 0, 0, 0, 0, 0, 0, 0, 0, 0, 0, 0, 0, 0, 0, 0, 0, 0, 0, 0, 0, 0, 0, 0, 0, 0, 0, 0, 0, 0, 0, 0, 0, 0, 0, 0, 0, 0, 0, 0, 0, 0, 0, 0, 0, 0, 0, 0, 0, 0, 0, 0, 0, 0, 0, 0, 0, 0, 0, 0, 0, 0, 0, 0, 0, 0, 0, 0, 1, 1, 1, 1, 1, 1, 1, 1, 1, 1, 1], 0, 2016) else none))) else (if Nat.blt j 22 then (if j == 17 then some ([0, 0, 0, 0, 0, 0, 0, 0, 0, 0, 0, 0, 0, 0, 0, 0, 0, 0, 0, 0, 0, 0, 0, 0, 0, 0, 0, 0, 0, 0, 0, 0, 0, 0, 0, 0, 0, 0, 0, 0, 0, 0, 0, 0, 0, 0, 0, 0, 0, 0, 0, 0, 0, 0, 0, 0, 0, 0, 0, 0, 0, 0, 0, 0, 0, 0, 0, 0, 0, 0, 0, 0, 0, 0, 0, 0, 0, 0, 0, 1, 1, 1, 1, 1, 1, 1, 1, 1, 1, 1, 1, 1, 1, 1, 1], 0, 260096) else none) else (if Nat.blt j 23 then (if j == 22 then some ([0, 0, 0, 0, 0, 0, 0, 0, 0, 0, 0, 0, 0, 0, 0, 0, 0, 0, 0, 0, 0, 0, 0, 0, 0, 0, 0, 0, 0, 0, 0, 0, 0, 0, 0, 0, 0, 0, 0, 0, 0, 0, 0, 0, 0, 0, 0, 0, 0, 0, 0, 0, 0, 0, 0, 0, 0, 0, 0, 0, 0, 0, 0, 0, 0, 0, 0, 0, 0, 0, 0, 0, 0, 0, 0, 0, 0, 0, 0, 0, 0, 0, 0, 0, 0, 0, 0, 0, 0, 0, 0, 0, 0, 0, 0, 0, 0, 0, 0, 0, 0, 0, 0, 0, 0, 0, 1, 1, 1, 1, 1, 1, 1, 1, 1, 1, 1], 0, 2016) else none) else (if j == 23 then some ([0, 0, 0, 0, 0, 0, 0, 0, 0, 0, 0, 0, 0, 0, 0, 0, 0, 0, 0, 0, 0, 0, 0, 0, 0, 0, 0, 0, 0, 0, 0, 0, 0, 0, 0, 0, 0, 0, 0, 0, 0, 0, 0, 0, 0, 0, 0, 0, 0, 0, 0, 0, 0, 0, 0, 0, 0, 0, 0, 0, 0, 0, 0, 0, 0, 0, 0, 0, 0, 0, 0, 0, 0, 0, 0, 0, 0, 0, 0, 0, 0, 0, 0, 0, 0, 0, 0, 0, 0, 0, 0, 0, 0, 0, 0, 0, 0, 0, 0, 0, 0, 0, 0, 0, 0, 0, 0, 0, 0, 0, 0, 0, 0, 0, 0, 0, 0, 1, 1, 1, 1, 1, 1, 1, 1, 1, 1, 1, 1, 1, 1, 1, 1], 0, 260096) else none)))) else none)) else (if Nat.blt k 176 then (if k == 175 then (if Nat.blt j 5 then (if Nat.blt j 3 then (if j == 1 then some ([0, 0, 0, 0, 0, 0, 0, 0, 0, 0, 0, 1, 1, 1, 1, 1, 1, 1, 1, 1, 1, 1, 1, 1, 1], 0, 65024) else none) else (if j == 3 then some ([0, 0, 0, 0, 0, 0, 0, 0, 0, 0, 0, 0, 0, 0, 0, 0, 0, 0, 0, 0, 0, 0, 0, 0, 0, 0, 0, 0, 0, 1, 1, 1, 1, 1, 1, 1, 1, 1, 1, 1, 1, 1, 1, 1], 0, 32270) else none)) else (if Nat.blt j 8 then (if j == 5 then some ([0, 0, 0, 0, 0, 0, 0, 0, 0, 0, 0, 0, 0, 0, 0, 0, 0, 0, 0, 0, 0, 0, 0, 0, 0, 0, 0, 0, 0, 0, 0, 0, 0, 0, 0, 0, 0, 0, 0, 0, 0, 0, 0, 0, 0, 0, 1, 1, 1, 1, 1, 1, 1, 1, 1, 1, 1, 1, 1, 1], 0, 15886) else none) else (if j == 8 then some ([0, 0, 0, 0, 0, 0, 0, 0, 0, 0, 0, 0, 0, 0, 0, 0, 0, 0, 0, 0, 0, 0, 0, 0, 0, 0, 0, 0, 0, 0, 0, 0, 0, 0, 0, 0, 0, 0, 0, 0, 0, 0, 0, 0, 0, 0, 0, 0, 0, 0, 0, 0, 0, 0, 0, 0, 0, 0, 0, 0, 0, 0, 0, 0, 0, 1, 1, 1, 1, 1, 1, 1, 1, 1, 1, 1, 1, 1, 1], 0, 65024) else none))) else none) else (if k == 176 then (if Nat.blt j 10 then (if Nat.blt j 5 then (if Nat.blt j 3 then (if j == 1 then some ([0, 0, 0, 0, 0, 0, 0, 0, 0, 0, 0, 0, 1, 1, 1, 1, 1, 1, 1, 1, 1, 1, 1, 1, 1, 1], 0, 65024) else none) else (if j == 3 then some ([0, 0, 0, 0, 0, 0, 0, 0, 0, 0, 0, 0, 0, 0, 0, 0, 0, 0, 0, 0, 0, 0, 0, 0, 0, 0, 0, 0, 0, 0, 1, 1, 1, 1, 1, 1, 1, 1, 1, 1, 1, 1, 1, 1], 0, 15886) else none)) else (if Nat.blt j 8 then (if j == 5 then some ([0, 0, 0, 0, 0, 0, 0, 0, 0, 0, 0, 0, 0, 0, 0, 0, 0, 0, 0, 0, 0, 0, 0, 0, 0, 0, 0, 0, 0, 0, 0, 0, 0, 0, 0, 0, 0, 0, 0, 0, 0, 0, 0, 0, 0, 0, 1, 1, 1, 1, 1, 1, 1, 1, 1, 1, 1, 1, 1, 1, 1], 0, 32270) else none) else (if j == 8 then some ([0, 0, 0, 0, 0, 0, 0, 0, 0, 0, 0, 0, 0, 0, 0, 0, 0, 0, 0, 0, 0, 0, 0, 0, 0, 0, 0, 0, 0, 0, 0, 0, 0, 0, 0, 0, 0, 0, 0, 0, 0, 0, 0, 0, 0, 0, 0, 0, 0, 0, 0, 0, 0, 0, 0, 0, 0, 0, 0, 0, 0, 0, 0, 0, 0, 0, 1, 1, 1, 1, 1, 1, 1, 1, 1, 1, 1, 1, 1, 1], 0, 65024) else none))) else (if Nat.blt j 15 then (if Nat.blt j 13 then (if j == 10 then some ([0, 0, 0, 0, 0, 0, 0, 0, 0, 0, 0, 0, 0, 0, 0, 0, 0, 0, 0, 0, 0, 0, 0, 0, 0, 0, 0, 0, 0, 0, 0, 0, 0, 0, 0, 0, 0, 0, 0, 0, 0, 0, 0, 0, 0, 0, 0, 0, 0, 0, 0, 0, 0, 0, 0, 0, 0, 0, 0, 0, 0, 0, 0, 0, 0, 0, 0, 0, 0, 0, 0, 0, 0, 0, 0, 0, 0, 0, 0, 0, 0, 1, 1, 1, 1, 1, 1, 1, 1, 1, 1, 1, 1, 1, 1], 0, 65024) else none) else (if j == 13 then some ([0, 0, 0, 0, 0, 0, 0, 0, 0, 0, 0, 0, 0, 0, 0, 0, 0, 0, 0, 0, 0, 0, 0, 0, 0, 0, 0, 0, 0, 0, 0, 0, 0, 0, 0, 0, 0, 0, 0, 0, 0, 0, 0, 0, 0, 0, 0, 0, 0, 0, 0, 0, 0, 0, 0, 0, 0, 0, 0, 0, 0, 0, 0, 0, 0, 0, 0, 0, 0, 0, 0, 0, 0, 0, 0, 0, 0, 0, 0, 0, 0, 0, 0, 0, 0, 0, 0, 0, 0, 0, 0, 0, 0, 0, 0, 0, 0, 0, 0, 1, 1, 1, 1, 1, 1, 1, 1, 1, 1, 1, 1, 1, 1], 0, 15886) else none)) else (if Nat.blt j 18 then (if j == 15 then some ([0, 0, 0, 0, 0, 0, 0, 0, 0, 0, 0, 0, 0, 0, 0, 0, 0, 0, 0, 0, 0, 0, 0, 0, 0, 0, 0, 0, 0, 0, 0, 0, 0, 0, 0, 0, 0, 0, 0, 0, 0, 0, 0, 0, 0, 0, 0, 0, 0, 0, 0, 0, 0, 0, 0, 0, 0, 0, 0, 0, 0, 0, 0, 0, 0, 0, 0, 0, 0, 0, 0, 0, 0, 0, 0, 0, 0, 0, 0, 0, 0, 0, 0, 0, 0, 0, 0, 0, 0, 0, 0, 0, 0, 0, 0, 0, 0, 0, 0, 0, 0, 0, 0, 0, 0, 0, 0, 0, 0, 0, 0, 0, 0, 0, 0, 1, 1, 1, 1, 1, 1, 1, 1, 1, 1, 1, 1, 1, 1, 1], 0, 32270) else none) else (if Nat.blt j 21 then (if j == 18 then some ([0, 0, 0, 0, 0, 0, 0, 0, 0, 0, 0, 0, 0, 0, 0, 0, 0, 0, 0, 0, 0, 0, 0, 0, 0, 0, 0, 0, 0, 0, 0, 0, 0, 0, 0, 0, 0, 0, 0, 0, 0, 0, 0, 0, 0, 0, 0, 0, 0, 0, 0, 0, 0, 0, 0, 0, 0, 0, 0, 0, 0, 0, 0, 0, 0, 0, 0, 0, 0, 0, 0, 0, 0, 0, 0, 0, 0, 0, 0, 0, 0, 0, 0, 0, 0, 0, 0, 0, 0, 0, 0, 0, 0, 0, 0, 0, 0, 0, 0, 0, 0, 0, 0, 0, 0, 0, 0, 0, 0, 0, 0, 0, 0, 0, 0, 0, 0, 0, 0, 0, 0, 0, 0, 0, 0, 0, 0, 0, 0, 0, 0, 0, 0, 0, 0, 1, 1, 1, 1, 1, 1, 1, 1, 1, 1, 1, 1, 1, 1], 0, 65024) else none) else (if j == 21 then some ([0, 0, 0, 0, 0, 0, 0, 0, 0, 0, 0, 0, 0, 0, 0, 0, 0, 0, 0, 0, 0, 0, 0, 0, 0, 0, 0, 0, 0, 0, 0, 0, 0, 0, 0, 0, 0, 0, 0, 0, 0, 0, 0, 0, 0, 0, 0, 0, 0, 0, 0, 0, 0, 0, 0, 0, 0, 0, 0, 0, 0, 0, 0, 0, 0, 0, 0, 0, 0, 0, 0, 0, 0, 0, 0, 0, 0, 0, 0, 0, 0, 0, 0, 0, 0, 0, 0, 0, 0, 0, 0, 0, 0, 0, 0, 0, 0, 0, 0, 0, 0, 0, 0, 0, 0, 0, 0, 0, 0, 0, 0, 0, 0, 0, 0, 0, 0, 0, 0, 0, 0, 0, 0, 0, 0, 0, 0, 0, 0, 0, 0, 0, 0, 0, 0, 0, 0, 0, 0, 0, 0, 0, 0, 0, 0, 0, 0, 0, 0, 0, 0, 0, 0, 1, 1, 1, 1, 1, 1, 1, 1, 1, 1, 1, 1, 1, 1], 0, 65024) else none))))) else none)))) else (if Nat.blt k 187 then (if Nat.blt k 185 then (if Nat.blt k 181 then (if k == 179 then (if Nat.blt j 5 then (if j == 3 then some ([0, 0, 0, 0, 0, 0, 0, 0, 0, 0, 0, 0, 0, 0, 0, 0, 0, 0, 0, 1, 1, 1, 1, 1, 1, 1, 1, 1, 1, 1, 1, 1, 1, 1, 1, 1, 1, 1, 1, 1, 1], 0, 4177948) else none) else (if Nat.blt j 6 then (if j == 5 then some ([0, 0, 0, 0, 0, 0, 0, 0, 0, 0, 0, 0, 0, 0, 0, 0, 0, 0, 0, 0, 0, 0, 0, 0, 0, 0, 0, 0, 0, 0, 0, 0, 0, 0, 0, 0, 0, 0, 0, 0, 0, 0, 0, 1, 1, 1, 1, 1, 1, 1, 1, 1, 1, 1, 1, 1, 1, 1, 1], 0, 65024) else none) else (if j == 6 then some ([0, 0, 0, 0, 0, 0, 0, 0, 0, 0, 0, 0, 0, 0, 0, 0, 0, 0, 0, 0, 0, 0, 0, 0, 0, 0, 0, 0, 0, 0, 0, 0, 0, 0, 0, 0, 0, 0, 0, 0, 0, 0, 0, 0, 0, 0, 0, 0, 0, 0, 0, 0, 0, 0, 0, 0, 0, 0, 0, 1, 1, 1, 1, 1, 1, 1, 1, 1, 1, 1, 1, 1, 1, 1, 1, 1, 1, 1, 1, 1, 1], 0, 16711680) else none))) else none) else (if k == 181 then (if Nat.blt j 2 then (if j == 1 then some ([0, 0, 0, 1, 1, 1, 1, 1, 1, 1, 1, 1], 0, 1016) else none) else (if Nat.blt j 3 then (if j == 2 then some ([0, 0, 0, 0, 0, 0, 0, 0, 0, 0, 0, 0, 1, 1, 1, 1, 1, 1, 1, 1, 1], 0, 1016) else none) else (if j == 3 then some ([0, 0, 0, 0, 0, 0, 0, 0, 0, 0, 0, 0, 0, 0, 0, 0, 0, 0, 0, 0, 0, 1, 1, 1, 1, 1, 1, 1, 1, 1], 0, 1016) else none))) else none)) else (if Nat.blt k 186 then (if k == 185 then (if Nat.blt j 6 then (if j == 4 then some ([0, 0, 0, 0, 0, 0, 0, 0, 0, 0, 0, 0, 0, 0, 0, 0, 0, 0, 1, 1, 1, 1, 1, 1, 1, 1, 1, 1, 1, 1, 1, 1, 1, 1, 1], 0, 130062) else none) else (if j == 6 then some ([0, 0, 0, 0, 0, 0, 0, 0, 0, 0, 0, 0, 0, 0, 0, 0, 0, 0, 0, 0, 0, 0, 0, 0, 0, 0, 0, 0, 0, 0, 0, 0, 0, 0, 0, 0, 0, 1, 1, 1, 1, 1, 1, 1, 1, 1, 1, 1, 1, 1, 1, 1, 1], 0, 260096) else none)) else none) else (if k == 186 then (if Nat.blt j 17 then (if Nat.blt j 11 then (if j == 5 then some ([0, 0, 0, 0, 0, 0, 0, 0, 0, 0, 0, 0, 0, 0, 0, 0, 0, 0, 0, 0, 0, 0, 0, 0, 0, 0, 0, 0, 0, 0, 0, 0, 0, 0, 0, 0, 0, 0, 0, 0, 1, 1, 1, 1, 1, 1, 1, 1, 1, 1, 1], 0, 1984) else none) else (if j == 11 then some ([0, 0, 0, 0, 0, 0, 0, 0, 0, 0, 0, 0, 0, 0, 0, 0, 0, 0, 0, 0, 0, 0, 0, 0, 0, 0, 0, 0, 0, 0, 0, 0, 0, 0, 0, 0, 0, 0, 0, 0, 0, 0, 0, 0, 0, 0, 0, 0, 0, 0, 0, 0, 0, 0, 0, 0, 0, 0, 0, 0, 0, 1, 1, 1, 1, 1, 1, 1, 1, 1, 1, 1, 1, 1, 1, 1, 1], 0, 260096) else none)) else (if Nat.blt j 23 then (if j == 17 then some ([0, 0, 0, 0, 0, 0, 0, 0, 0, 0, 0, 0, 0, 0, 0, 0, 0, 0, 0, 0, 0, 0, 0, 0, 0, 0, 0, 0, 0, 0, 0, 0, 0, 0, 0, 0, 0, 0, 0, 0, 0, 0, 0, 0, 0, 0, 0, 0, 0, 0, 0, 0, 0, 0, 0, 0, 0, 0, 0, 0, 0, 0, 0, 0, 0, 0, 0, 0, 0, 0, 0, 0, 0, 0, 0, 0, 0, 0, 0, 0, 0, 0, 0, 0, 0, 0, 0, 0, 0, 0, 0, 0, 1, 1, 1, 1, 1, 1, 1, 1, 1, 1, 1, 1], 0, 4032) else none) else (if Nat.blt j 35 then (if j == 23 then some ([0, 0, 0, 0, 0, 0, 0, 0, 0, 0, 0, 0, 0, 0, 0, 0, 0, 0, 0, 0, 0, 0, 0, 0, 0, 0, 0, 0, 0, 0, 0, 0, 0, 0, 0, 0, 0, 0, 0, 0, 0, 0, 0, 0, 0, 0, 0, 0, 0, 0, 0, 0, 0, 0, 0, 0, 0, 0, 0, 0, 0, 0, 0, 0, 0, 0, 0, 0, 0, 0, 0, 0, 0, 0, 0, 0, 0, 0, 0, 0, 0, 0, 0, 0, 0, 0, 0, 0, 0, 0, 0, 0, 0, 0, 0, 0, 0, 0, 0, 0, 0, 0, 0, 0, 0, 0, 0, 0, 0, 0, 0, 0, 0, 1, 1, 1, 1, 1, 1, 1, 1, 1, 1, 1, 1, 1, 1, 1, 1], 0, 260096) else none) else (if j == 35 then some ([0, 0, 0, 0, 0, 0, 0, 0, 0, 0, 0, 0, 0, 0, 0, 0, 0, 0, 0, 0, 0, 0, 0, 0, 0, 0, 0, 0, 0, 0, 0, 0, 0, 0, 0, 0, 0, 0, 0, 0, 0, 0, 0, 0, 0, 0, 0, 0, 0, 0, 0, 0, 0, 0, 0, 0, 0, 0, 0, 0, 0, 0, 0, 0, 0, 0, 0, 0, 0, 0, 0, 0, 0, 0, 0, 0, 0, 0, 0, 0, 0, 0, 0, 0, 0, 0, 0, 0, 0, 0, 0, 0, 0, 0, 0, 0, 0, 0, 0, 0, 0, 0, 0, 0, 0, 0, 0, 0, 0, 0, 0, 0, 0, 0, 0, 0, 0, 0, 0, 0, 0, 0, 0, 0, 0, 0, 0, 0, 0, 0, 0, 0, 0, 0, 0, 0, 0, 0, 0, 0, 0, 0, 0, 0, 0, 0, 0, 0, 0, 0, 0, 0, 0, 0, 0, 0, 0, 0, 1, 1, 1, 1, 1, 1, 1, 1, 1, 1, 1, 1, 1, 1], 0, 16128) else none)))) else none))) else (if Nat.blt k 192 then (if Nat.blt k 190 then (if k == 187 then (if Nat.blt j 5 then (if j == 3 then some ([0, 0, 0, 0, 0, 0, 0, 0, 0, 0, 0, 0, 0, 0, 0, 0, 0, 1, 1, 1, 1, 1, 1, 1, 1, 1, 1, 1, 1, 1, 1, 1, 1, 1, 1, 1, 1], 0, 1040412) else none) else (if Nat.blt j 6 then (if j == 5 then some ([0, 0, 0, 0, 0, 0, 0, 0, 0, 0, 0, 0, 0, 0, 0, 0, 0, 0, 0, 0, 0, 0, 0, 0, 0, 0, 0, 0, 0, 0, 0, 0, 0, 0, 0, 0, 0, 0, 0, 1, 1, 1, 1, 1, 1, 1, 1, 1, 1, 1, 1, 1, 1], 0, 16128) else none) else (if j == 6 then some ([0, 0, 0, 0, 0, 0, 0, 0, 0, 0, 0, 0, 0, 0, 0, 0, 0, 0, 0, 0, 0, 0, 0, 0, 0, 0, 0, 0, 0, 0, 0, 0, 0, 0, 0, 0, 0, 0, 0, 0, 0, 0, 0, 0, 0, 0, 0, 0, 0, 0, 0, 0, 0, 1, 1, 1, 1, 1, 1, 1, 1, 1, 1, 1, 1, 1, 1, 1, 1, 1, 1, 1, 1, 1, 1], 0, 16711680) else none))) else none) else (if k == 190 then (if j == 1 then some ([0, 0, 0, 0, 0, 0, 0, 0, 0, 0, 0, 0, 1, 1, 1, 1, 1, 1, 1, 1, 1, 1, 1], 0, 1984) else none) else none)) else (if Nat.blt k 193 then (if k == 192 then (if j == 1 then some ([0, 0, 0, 0, 0, 0, 0, 0, 0, 0, 1, 1, 1, 1, 1, 1, 1, 1, 1], 0, 480) else none) else none) else (if k == 193 then (if j == 3 then some ([0, 0, 0, 0, 0, 0, 0, 0, 0, 0, 0, 0, 0, 0, 0, 0, 1, 1, 1, 1, 1, 1, 1, 1, 1, 1, 1, 1, 1, 1, 1, 1, 1, 1, 1, 1, 1, 1], 0, 16711680) else none) else none))))))
end Go.Proofs.YtlghjmdkdkkkjaaGreat

open Go Go.E
namespace Go.Proofs.YtlghjmdkdkkkjaaGreat
def ownL : List Nat := [45, 96, 98, 119, 125, 136, 145, 148, 155, 156, 157, 158, 159, 160, 161, 162, 166, 168, 169, 170, 171, 172, 173, 175, 176, 179, 180, 182, 183, 185, 186, 187, 188, 189, 190, 191, 192, 193]
/-- Collect of Values. -/
def collectE (as_ : List Slot) : Option (AV × List Slot) :=
  match as_ with
  | [.v (.fn g [.ro (.sl st xs)])] => if g == 129 && st == 1 && !xs.isEmpty && xs.all (fun x => match x with | .int .i64 _ => true | _ => false) && decide (xs.length ≤ 1000000) then some (.arr 1 xs, [.any]) else none
  | _ => none
def primK (k : Nat) : Option (CallF → List Slot → Option (AV × List Slot)) :=
  if k == 128 then some fun _ as_ => collectE as_ else none
/-- The functions that are called, but for slices.Clone. -/
def needs : List Nat := [3, 4, 5, 6, 7, 8, 9, 10, 11, 12, 13, 14, 15, 16, 17, 18, 19, 20, 21, 22, 23, 24, 25, 26, 28, 29, 30, 31, 32, 33, 34, 35, 36, 37, 38, 40, 45, 46, 47, 48, 49, 50, 51, 52, 54, 55, 56, 57, 58, 59, 60, 61, 62, 63, 67, 68, 69, 70, 71, 72, 73, 74, 75, 76, 77, 78, 79, 80, 81, 82, 83, 84, 85, 86, 87, 88, 89, 90, 91, 92, 93, 94, 95, 96, 97, 98, 99, 100, 103, 104, 107, 108, 109, 110, 111, 112, 113, 114, 115, 116, 117, 118, 119, 120, 121, 122, 123, 124, 125, 126, 127, 130, 132, 134, 135, 136, 137, 138, 139, 140, 141, 142, 143, 144, 145, 146, 147, 148, 149, 155, 166, 167, 168, 174, 185]
def clones : List Nat := [39, 41, 42, 43, 44]
/-- What is tidied: by function and place. -/
def tidyH (k j : Nat) : Option (Nat × List (Nat × List Nat)) := if k == 70 then (if j == 1 then some (229, []) else if j == 22 then some (5, []) else if j == 0 then some (1, []) else none) else if k == 4 then (if j == 1 then some (196625, [(4, [])]) else if j == 9 then some (196817, [(4, [])]) else if j == 17 then some (197585, [(4, [])]) else if j == 16 then some (196817, []) else if j == 8 then some (196625, []) else if j == 0 then some (17, []) else none) else if k == 5 then (if j == 1 then some (49, [(4, [])]) else if j == 9 then some (113, [(4, [])]) else if j == 17 then some (241, [(4, [])]) else if j == 16 then some (113, []) else if j == 8 then some (49, []) else if j == 0 then some (17, []) else none) else if k == 6 then (if j == 1 then some (51, []) else if j == 0 then some (3, []) else none) else none
def hints (k : Nat) : Hint := ⟨tidyH k, drawnH k⟩
noncomputable def Cf : Cfg := { P := Go.Proofs.Tryz.prog, code := fun k => if clones.contains k then (Go.Proofs.Tryz.prog.funcs[k]?).bind cloneFn else if needs.contains k then (Go.Proofs.Tryz.prog.funcs[k]?).bind (compileF (hints k)) else none, exc := fun k _ => k == 9 || k == 15 || k == 16 || k == 39 || k == 41 || k == 42 || k == 43 || k == 44 || k == 62 || k == 92 || k == 118 || k == 124, own := fun k i => i == 0 && ownL.contains k, ret := fun k => k == 39 || k == 41 || k == 42 || k == 43 || k == 44 || k == 96 || k == 118, prim := primK, eqT := fun t => t == 30 || t == 99 }
theorem eq30 : EqT Tryz.prog 30 := ⟨by kernel_rfl, by kernel_rfl, fun fs h i g hg => by
  rw [Tryz.underlying30] at h
  injection h with h
  injection h with h
  subst h
  rcases i with _ | _ | i <;> simp at hg <;> subst hg <;> simp⟩
theorem eq99 : EqT Tryz.prog 99 := ⟨by kernel_rfl, by kernel_rfl, fun fs h i g hg => by
  rw [Tryz.underlying99] at h
  injection h with h
  injection h with h
  subst h
  rcases i with _ | _ | i <;> simp at hg <;> subst hg <;> simp⟩
/-- The static facts of a function's code. -/
noncomputable def okK (k : Nat) : Bool := match Tryz.prog.funcs[k]? with | some F => okF (hints k) F | none => true
set_option maxRecDepth 1000000 in
theorem okK_all : needs.all okK = true := by kernel_rfl
/-- A clone's slice type. -/
noncomputable def okClone (k : Nat) : Bool := match Tryz.prog.funcs[k]? with | some F => (match F.body with | some c => (match cloneOps c with | some q => (match Tryz.prog.underlying q.t with | some (.slice _) => true | _ => false) | none => false) | none => false) | none => false
set_option maxRecDepth 1000000 in
theorem okClone_all : clones.all okClone = true := by kernel_rfl
theorem eq_all (t : Nat) (h : Cf.eqT t = true) : EqT Cf.P t := by
  have : t = 30 ∨ t = 99 := by
    have h' : (t == 30 || t == 99) = true := h
    simp only [Bool.or_eq_true, beq_iff_eq] at h'
    omega
  rcases this with rfl | rfl
  · exact eq30
  · exact eq99
set_option maxRecDepth 100000 in
theorem mixedG : Cf.P.follows .mixedOrders = true := by
  show Tryz.prog.follows .mixedOrders = true
  kernel_rfl
theorem codeG {k : Nat} {fn : EFn} (h : Cf.code k = some fn) : ∃ F, Tryz.prog.funcs[k]? = some F ∧ CodeFit Cf k F fn := by
  have hc : (if clones.contains k then (Go.Proofs.Tryz.prog.funcs[k]?).bind cloneFn else if needs.contains k then (Tryz.prog.funcs[k]?).bind (compileF (hints k)) else none) = some fn := h
  split at hc
  · rename_i hn
    have hk := List.all_eq_true.1 okClone_all k (List.elem_iff.1 hn)
    unfold okClone at hk
    generalize Tryz.prog.funcs[k]? = x at hc hk
    obtain ⟨F, h1, h2⟩ := Option.bind_eq_some_iff.1 hc
    subst h1
    refine ⟨F, rfl, fit_clone eq_all h2 fun c q hb hq => ?_⟩
    simp only [hb, hq] at hk
    split at hk
    · rename_i e he
      exact ⟨e, he⟩
    · cases hk
  · split at hc
    · rename_i hn
      have hk := List.all_eq_true.1 okK_all k (List.elem_iff.1 hn)
      unfold okK at hk
      generalize Tryz.prog.funcs[k]? = x at hc hk
      obtain ⟨F, h1, h2⟩ := Option.bind_eq_some_iff.1 hc
      subst h1
      exact ⟨F, rfl, fit_of_compile eq_all mixedG h2 hk⟩
    · cases hc
theorem code_ok (hp : PrimOK Cf) : CodeOK Cf where
  eqT := eq_all
  mixed := mixedG
  code h := codeG h
  prim := hp
end Go.Proofs.YtlghjmdkdkkkjaaGreat

namespace Go.Proofs
open Go.RowKit Go.Maps Go.Sort Go.Shelf
/-! slices.Collect(slices.Values(l)): what was known of memory stays known between the rounds. -/
section
variable {P : Program} {ρ : Ren}
set_option maxRecDepth 100000 in
set_option maxHeartbeats 2000000 in
/-- AppendSeq against an iterator that gives these, so memory below is left alone. -/
theorem appendSeq_of (L : SlLaysZI.n11 P ρ) (F : Fence) (n : Nat) (h11 : F.fn (ρ.f 11)) (hro : F.round = none) (hn : 2 ≤ n) (g : Nat) (lb : Array Value) (hFg : F.fn g) (eg : ∀ args w, (callFunc g args).run P w = .ok (.enter g args) w)
    (zs : List Int) (hN : zs.length ≤ maxLen) (hNb : zs.length * 8 ≤ 140737488355328) (w : World)
    (hseq : ∀ (l : Nat) (J : List Int → World → Prop) (W : World), (∀ pre W', J pre W' → Below w.heap.size w W') →
      (∀ pre x W1, J pre W1 → pre.length < zs.length → YieldAt F (n - 1 - 1) P l #[encZ x] W1 fun e W' => e = .returned (.bool true) ∧ J (pre ++ [x]) W' ∧ KeepsWalks W1 W') → J [] W →
      CallsIn F (n - 1) P g (#[.func (.yield l) #[] #[]] ++ lb) W fun e W' => (∃ v, e = .returned v) ∧ J zs W') :
    CallsIn F n P (ρ.f 11) #[.slice none 0 0, .func (.func g) #[] lb] w fun e w' => ∃ v : Value, e = .returned v ∧ w'.ownsRow w.heap.size (ρ.t 26) 1 v zs.length (zs.map encZ) ∧ Below w.heap.size w w' := by
  have h1 : 1 ≤ n := by omega
  have t0 := L.t0; have a0 := L.a0; have z0 := L.z0; have v0 := L.v0; have t24 := L.t24; have a24 := L.a24; have z24 := L.z24; have v24 := L.v24
  have t28 := L.t28; have a28 := L.a28; have z28 := L.z28; have v28 := L.v28
  have hne : ρ.t 24 ≠ ρ.t 26 := fun e => by have h := L.t24; rw [e, L.t26] at h; cases h
  have u0 := run_underlying L.t0; have u24 := run_underlying L.t24; have u28 := run_underlying L.t28
  obtain ⟨_, _, FG⟩ := L.f11
  refine callsIn_of_wp_marks FG rfl h11 ?_ hro
  simp only [SlBodyZ.n11_ntmps ρ, List.size_toArray, List.length_cons, List.length_nil, Nat.reduceAdd, Nat.reduceSub, Array.replicate_succ, Array.replicate_zero, List.push_toArray, List.append_toArray, List.nil_append, List.cons_append]
  gi_wp2
  refine wpIn_rangeFunc ?_
  intro fn hfn
  rw [hro]
  -- the box, the deferred calls, the loop's record
  obtain ⟨W0, hW0⟩ : ∃ W0, w.alloc (.cells #[.slice none 0 0] (ρ.t 24)) = W0 := ⟨_, rfl⟩
  have hs0 : W0.heap.size = w.heap.size + 1 := by rw [← hW0]; simp
  have hbox : W0.heap[w.heap.size]? = some (.cells #[.slice none 0 0] (ρ.t 24) (0, 0)) := by rw [← hW0]; exact World.alloc_heap_new w _
  have hb0 : Below w.heap.size w W0 := by rw [← hW0]; exact (Below.refl _ w).alloc (Nat.le_refl _) _
  rw [hW0]
  obtain ⟨W1, hW1⟩ : ∃ W1, (W0.alloc (.deferred (some []))).alloc (.loop (AnyZI.apRec ρ fn (.func (.func g) #[] lb) w.heap.size W0.heap.size .ready none)) = W1 := ⟨_, rfl⟩
  have hold : ∀ k, k < W0.heap.size → W1.heap[k]? = W0.heap[k]? := fun k hk => by
    rw [← hW1]; exact (Below.heap_alloc _ _ k (by simp; omega)).trans (Below.heap_alloc _ _ k hk)
  have hb1 : Below w.heap.size w W1 := by rw [← hW1]; exact (hb0.alloc hb0.size _).alloc (by have := hb0.size; simp; omega) _
  have hs1 : W1.heap.size = W0.heap.size + 2 := by rw [← hW1]; simp
  have hstart : AnyZI.ApAt ρ w fn (.func (.func g) #[] lb) w.heap.size (W0.heap.size + 1) W0.heap.size [] W1 := by
    refine ⟨⟨_, (hold w.heap.size (by omega)).trans hbox, ⟨rfl, .inl ⟨rfl, rfl⟩⟩, by simp⟩, ?_, ?_, hb1⟩
    · rw [← hW1]
      have := World.alloc_heap_new (W0.alloc (.deferred (some []))) (.loop (AnyZI.apRec ρ fn (.func (.func g) #[] lb) w.heap.size W0.heap.size .ready none))
      rwa [World.size_alloc] at this
    · rw [← hW1]
      exact (Below.heap_alloc _ _ _ (by simp)).trans (World.alloc_heap_new W0 _)
  refine ⟨W0.heap.size + 1, [{ target := .collected W0.heap.size, args := #[] }], W1, { target := .fn (.func g) lb, args := #[.func (.yield (W0.heap.size + 1)) #[] #[]] }, W1, g,
    #[.func (.yield (W0.heap.size + 1)) #[] #[]] ++ lb, W1, ?_, ?_, ?_, ?_, fun _ => h1, ?_⟩
  · rw [← hW1]; exact run_enterLoop_outer _ _ _ _ _
  · simp [resolve, go_sem]
  · intro f' hf'; simp [Target.leads] at hf'; subst hf'; exact hFg
  · simp [invoke, go_sem, eg]
  refine (hseq (W0.heap.size + 1) (AnyZI.ApAt ρ w fn (.func (.func g) #[] lb) w.heap.size (W0.heap.size + 1) W0.heap.size) W1 (fun pre W' hJ => hJ.below)
    (fun pre x W hJ hl => AnyZI.apYield { L with } F (n - 1 - 1) w fn hfn _ w.heap.size (W0.heap.size + 1) W0.heap.size (by omega) (by omega) (by omega) (Nat.le_refl _) (by omega) zs.length hN hNb pre x W hJ hl) hstart).mono ?_
  rintro e W2 ⟨⟨vv, rfl⟩, h2⟩
  obtain ⟨v, hv, hrow, hnil⟩ := h2.box
  have hend := run_endLoop (P := P) h2.L (by simp [AnyZI.apRec])
  obtain ⟨W3, hW3⟩ : ∃ W3, W2.putObj (W0.heap.size + 1) (.loop { AnyZI.apRec ρ fn (.func (.func g) #[] lb) w.heap.size W0.heap.size .ready none with state := .exhausted }) = W3 := ⟨_, rfl⟩
  rw [hW3] at hend
  have hg3 : W2.grownBy W3 (some (W0.heap.size + 1)) := by rw [← hW3]; exact grownBy_putObj_a _ _ _
  have hv3 : W3.heap[w.heap.size]? = some (.cells #[v] (ρ.t 24) (0, 0)) := by rw [← hW3]; exact (World.putObj_heap_other (by omega)).trans hv
  have hK3 : W3.heap[W0.heap.size]? = some (.deferred (some [])) := by rw [← hW3]; exact (World.putObj_heap_other (by omega)).trans h2.K
  have hrow3 := hrow.kept hg3 (ownsRow_ne_a hrow h2.L (fun cur e => by first | cases e | exact hne (Obj.cells.inj e).2.1))
  have hb3 : Below w.heap.size w W3 := h2.below.grown hg3 h2.below.size (fun k e => by cases e; omega)
  obtain ⟨hc3, hf3⟩ := cell_of_box_a hv3
  clear hW3
  refine ⟨none, W3, hend, ?_⟩
  gi_wp2
  rw [← hs0]
  refine ⟨by simp, .inl ⟨_, _, rfl, run_takeDeferred hK3, ?_⟩⟩
  exact ⟨_, results_tmp rfl _ _ _, v, rfl, hrow3.kept (grownBy_putObj_a _ _ _) (ownsRow_ne_a hrow3 hK3 (fun cur e => by first | cases e | exact hne (Obj.cells.inj e).2.1)), hb3.grown (grownBy_putObj_a _ _ _) hb3.size (fun k e => by cases e; omega)⟩
end
def i64Of : Value → Int
  | .int _ n => n
  | _ => 0
theorem getD_snoc (zs : List Int) (k : Nat) (h : k < zs.length) : zs.take k ++ [zs.getD k 0] = zs.take (k + 1) := by
  rw [List.take_add_one, List.getElem?_eq_getElem h]
  simp [List.getD, h]
set_option maxRecDepth 100000 in
set_option maxHeartbeats 1000000 in
/-- Values' closure, over a list that stays as it is. -/
theorem values_in (n l : Nat) (hn : 1 ≤ n) (J : List Int → World → Prop) (w W : World) (b o b2 o2 c : Nat) (zs : List Int) (hlen : zs.length ≤ 1000000)
    (hsl : W.cell? ⟨b, o, none⟩ = some (.slice (some ⟨b2, o2, none⟩) zs.length c)) (hb2 : b2 < w.heap.size) (hz : ∀ j, j < zs.length → w.cell? ⟨b2, o2 + j, none⟩ = some (.int .i64 (zs.getD j 0)))
    (hB : ∀ pre W', J pre W' → Below w.heap.size w W')
    (hY : ∀ pre x W1, J pre W1 → pre.length < zs.length → YieldAt Fence.wide (n - 1) Tryz.prog l #[encZ x] W1 fun e W' => e = .returned (.bool true) ∧ J (pre ++ [x]) W' ∧ KeepsWalks W1 W') (h0 : J [] W) :
    CallsIn Fence.wide n Tryz.prog 129 #[.func (.yield l) #[] #[], .pointer (some ⟨b, o, none⟩)] W fun e W' => (∃ v, e = .returned v) ∧ J zs W' := by
  refine callsIn_of_wp Tryz.func129 rfl trivial ?_ rfl
  simp only [Tryz.ntmps129, List.size_toArray, List.length_cons, List.length_nil, Nat.reduceAdd, Nat.reduceSub, Array.replicate_succ, Array.replicate_zero, List.push_toArray, List.append_toArray, List.nil_append, List.cons_append]
  gi_wp2
  gi_loopw [7] (fun i wr => ∃ k : Nat, i = .int .i64 k ∧ k ≤ zs.length ∧ J (zs.take k) wr) (fun i _ => zs.length - (i64Of i).toNat)
  case atStart => exact ⟨0, rfl, Nat.zero_le _, by simpa using h0⟩
  case round =>
    obtain ⟨k, rfl, hk, hJ⟩ := hrel
    by_cases hlt : k < zs.length
    · have hcell0 : wr.cell? ⟨b2, o2 + k, none⟩ = some (.int .i64 (zs.getD k 0)) := ((hB _ _ hJ).cell (p := ⟨b2, o2 + k, none⟩) hb2).trans (hz k hlt)
      have hsn := getD_snoc zs k hlt
      obtain ⟨x, hxe⟩ : ∃ x, zs.getD k 0 = x := ⟨_, rfl⟩
      rw [hxe] at hcell0 hsn
      have hcell : wr.cell? ⟨b2, o2 + k, none⟩ = some (.int .i64 x) := hcell0
      obtain ⟨fn, tmps, assign, body, hy, hR⟩ := hY (zs.take k) x wr hJ (by rw [List.length_take]; omega)
      clear hxe hcell0
      dsimp only [encZ] at hy
      have hd : decide ((k : Int) < (zs.length : Int)) = true := by simpa using hlt
      gi_wp2
      refine hR.mono ?_
      rintro e W3 ⟨rfl, hJ3, hk3⟩
      rw [hsn] at hJ3
      gi_wp2
      go_roundw
      case rel => exact ⟨k + 1, by simp, hlt, hJ3⟩
      case measure => simp [i64Of]; omega
    · have hd : decide ((k : Int) < (zs.length : Int)) = false := by simp; omega
      have hkz : zs.take k = zs := List.take_of_length_le (by omega)
      rw [hkz] at hJ
      gi_wp2
      go_end0
      exact ⟨⟨_, rfl⟩, hJ⟩
end Go.Proofs

namespace Go.Proofs
open Go.RowKit Go.Maps Go.Sort Go.Shelf
def renC : Ren := { f := fun x => if x = 8 then 128 else 150, t := fun x => if x = 24 then 34 else if x = 26 then 3 else if x = 28 then 139 else if x = 33 then 28 else 0, g := fun x => x }
theorem laysC : SlLaysZI.n8 Tryz.prog renC where
  mixed := by kernel_rfl
  f8 := ⟨"slices.Collect[int]", by decide, by kernel_rfl⟩
  f11 := ⟨"slices.AppendSeq[[]int,int]", by decide, by kernel_rfl⟩
  t0 := Tryz.underlying0
  a0 := Tryz.isAgg0
  z0 := Tryz.sizeOf0
  v0 := Tryz.zeroValue0
  t24 := Tryz.underlying34
  a24 := Tryz.isAgg34
  z24 := Tryz.sizeOf34
  v24 := Tryz.zeroValue34
  t26 := Tryz.underlying3
  a26 := Tryz.isAgg3
  z26 := Tryz.sizeOf3
  v26 := Tryz.zeroValue3
  t28 := Tryz.underlying139
  a28 := Tryz.isAgg139
  z28 := Tryz.sizeOf139
  v28 := Tryz.zeroValue139
  i26 := by kernel_rfl

set_option maxHeartbeats 1000000 in
set_option maxRecDepth 100000 in
/-- Collect of Values of a list. -/
theorem collectN (W : World) (b o b2 o2 c : Nat) (zs : List Int) (hlen : zs.length ≤ 1000000) (hsl : W.cell? ⟨b, o, none⟩ = some (.slice (some ⟨b2, o2, none⟩) zs.length c)) (hb2 : b2 < W.heap.size)
    (hz : ∀ j, j < zs.length → W.cell? ⟨b2, o2 + j, none⟩ = some (.int .i64 (zs.getD j 0))) :
    Calls Tryz.prog 128 #[.func (.func 129) #[] #[.pointer (some ⟨b, o, none⟩)]] W fun e w' => ∃ v : Value, e = .returned v ∧ w'.ownsRow W.heap.size 3 1 v zs.length (zs.map encZ) ∧ Below W.heap.size W w' := by
  have hlt : ∀ {w : World} {b o : Nat} {v : Value}, w.cell? ⟨b, o, none⟩ = some v → b < w.heap.size := fun {w b o v} h => by
    rcases Nat.lt_or_ge b w.heap.size with g | g
    · exact g
    · simp [World.cell?, Array.getElem?_eq_none g] at h
  refine (callsIn_wide (n := 4)).1 ?_
  refine callsIn_of_wp Tryz.func128 rfl trivial ?_ rfl
  simp only [Tryz.ntmps128, List.size_toArray, List.length_cons, List.length_nil, Nat.reduceAdd, Nat.reduceSub, Array.replicate_succ, Array.replicate_zero, List.push_toArray, List.append_toArray, List.nil_append, List.cons_append]
  gi_wp2
  refine ⟨trivial, (appendSeq_of (ρ := renC) { laysC with } Fence.wide 3 trivial rfl (by omega) 129 #[.pointer (some ⟨b, o, none⟩)] trivial (enters_of Tryz.func129 (by kernel_rfl) rfl) zs (by unfold maxLen; omega) (by omega) W (fun l J W1 hJ hY h0 => values_in 2 l (by omega) J W W1 b o b2 o2 c zs hlen (((hJ _ _ h0).cell (p := ⟨b, o, none⟩) (hlt hsl)).trans hsl) hb2 hz hJ hY h0)).mono ?_⟩
  rintro e w' ⟨v, rfl, hrow, hb⟩
  gi_wp2
  go_ret
  exact ⟨v, rfl, hrow, hb⟩
end Go.Proofs

namespace Go.E
open Go.RowKit

theorem below_keeps {w w' : World} (h : Below w.heap.size w w') (S : Own) : Keeps S w w' := by
  refine ⟨fun b cs e fr hb => ⟨cs, ?_, rfl⟩, h.size, fun b o hb _ => ?_, fun b hb _ => h.block b hb, h.tape, h.os, h.output⟩
  · rw [h.block b ?_]
    · exact hb
    · rcases Nat.lt_or_ge b w.heap.size with g | g
      · exact g
      · rw [Array.getElem?_eq_none g] at hb; cases hb
  · simp only [World.cell?, h.block b hb]
/-- A list of whole numbers. -/
theorem ints_of {K : Kn} {w : World} : ∀ {xs : List AV} {ys : List Value} {S : Own}, (xs.all fun x => match x with | .int .i64 _ => true | _ => false) = true → relL K w xs ys S → ∃ zs : List Int, xs = zs.map (AV.int .i64) ∧ ys = zs.map (Value.int .i64)
  | [], ys, S, _, h => by rw [relL] at h; exact ⟨[], rfl, h⟩
  | x :: xs, ys, S, hx, h => by
    rw [List.all_cons, Bool.and_eq_true] at hx
    rw [relL] at h
    obtain ⟨c1, c2, S1, S2, rfl, _, _, _, h1, h2⟩ := h
    obtain ⟨zs, rfl, rfl⟩ := ints_of hx.2 h2
    cases x with
    | int k n =>
      cases k <;> first | (have := hx.1; simp at this; done) | skip
      rw [rel] at h1
      subst h1
      exact ⟨n :: zs, rfl, rfl⟩
    | _ => have := hx.1; simp at this
theorem relL_ints {K : Kn} {w : World} : ∀ (zs : List Int), relL K w (zs.map (AV.int .i64)) (zs.map (Value.int .i64)) Own.no
  | [] => by rw [List.map_nil, List.map_nil, relL]
  | z :: zs => by
    rw [List.map_cons, List.map_cons, relL]
    exact ⟨[.int .i64 z], zs.map (Value.int .i64), Own.no, Own.no, rfl, Own.le_refl _, Own.le_refl _, Own.no_disj _, by rw [rel], relL_ints zs⟩

theorem prim_collect : PrimOK Go.Proofs.YtlghjmdkdkkkjaaGreat.Cf := ⟨by
  intro call k g hg hC args r outs hr
  have hg' : Go.Proofs.YtlghjmdkdkkkjaaGreat.primK k = some g := hg
  unfold Go.Proofs.YtlghjmdkdkkkjaaGreat.primK at hg'
  split at hg'
  case isFalse => cases hg'
  rename_i hk
  have hk : k = 128 := by simpa using hk
  subst hk
  injection hg' with hg'
  subst hg'
  unfold Go.Proofs.YtlghjmdkdkkkjaaGreat.collectE at hr
  simp only at hr
  split at hr
  case h_2 => cases hr
  rename_i g st xs
  split at hr
  case isFalse => cases hr
  rename_i hgs
  simp only [Bool.and_eq_true, beq_iff_eq, Bool.not_eq_true', decide_eq_true_eq] at hgs
  obtain ⟨⟨⟨⟨rfl, rfl⟩, hne⟩, hint⟩, hlen⟩ := hgs
  simp only [Option.some.injEq, Prod.mk.injEq] at hr
  obtain ⟨rfl, rfl⟩ := hr
  refine ⟨?_, _, Go.Proofs.Tryz.func128, by kernel_rfl, by kernel_rfl⟩
  intro K w vs O h hs
  have hv : relV K w _ _ _ := h.val (t := 0) (x := .fn 129 [.ro (.sl 1 xs)]) rfl
  have hv' : rel K w (.fn 129 [.ro (.sl 1 xs)]) [vals vs 0] (O 0) := hv
  rw [rel] at hv'
  obtain ⟨us, e1, e2⟩ := hv'
  injection e1 with e1
  rw [relE] at e2
  obtain ⟨u, us', cs, e3, e4, e5, e6⟩ := e2
  rw [relE] at e6
  subst e6
  have e5 : cs = [u] := e5
  subst e5
  rw [rel] at e4
  obtain ⟨b, o, ys, e7, e8, e9⟩ := e4
  injection e7 with e7
  rw [rel] at e9
  obtain ⟨ad, c, e10, _, _, e11⟩ := e9
  subst e10
  rcases e11 with e11 | ⟨b2, o2, ys2, rfl, e12, e13⟩
  · subst e11; cases hne
  obtain ⟨zs, rfl, rfl⟩ := ints_of hint e13
  rw [List.length_map] at hlen
  have hz0 : 0 < zs.length := by
    cases zs with
    | nil => cases hne
    | cons _ _ => simp
  have hsl := hs.cell _ _ _ (e8 0 _ rfl)
  rw [List.length_map] at hsl
  have hcell : ∀ j, j < zs.length → w.cell? ⟨b2, o2 + j, none⟩ = some (.int .i64 (zs.getD j 0)) := fun j hj => by
    have := hs.cell _ _ _ (e12 j (.int .i64 (zs.getD j 0)) (by rw [List.getElem?_map, List.getElem?_eq_getElem hj]; simp [List.getD, hj]))
    exact this
  have hb2 : b2 < w.heap.size := by
    have := hcell 0 hz0
    rcases Nat.lt_or_ge b2 w.heap.size with g | g
    · exact g
    · simp [World.cell?, Array.getElem?_eq_none g] at this
  have hus : us = #[.pointer (some ⟨b, o, none⟩)] := by rw [← Array.toList_inj, e3, e7]
  have hvs : vs = #[.func (.func 129) #[] #[.pointer (some ⟨b, o, none⟩)]] := by
    have hl : vs.size = 1 := h.len.symm
    have hv0 : vals vs 0 = vs[0] := by simp [vals, Array.getD, hl]
    apply Array.ext (by simpa using hl)
    intro i h1 h2
    have : i = 0 := by omega
    subst this
    simp only [List.getElem_toArray, List.getElem_cons_zero]
    rw [← hv0, e1, hus]
  rw [hvs]
  refine Calls.mono (Go.Proofs.collectN w b o b2 o2 c zs hlen hsl hb2 hcell) ?_
  rintro e w' ⟨v, rfl, hrow, hb⟩
  have hk := below_keeps hb (tot O)
  have hk0 := below_keeps hb Own.no
  rcases hrow.2 with ⟨_, h0⟩ | ⟨gb, cap, cur, rfl, hge, hgb, h1, h2, h3, h4⟩
  · omega
  have hlt : gb < w'.heap.size := (Array.getElem?_eq_some_iff.1 hgb).1
  have hn : (blk gb).le (new w) := fun b' o' q => by rw [q]; exact hge
  refine ⟨_, rfl, K, blk gb, fun _ => Own.no, ⟨hs.keep (Free.no K) hk0, Kn.grows_refl K _, hk, ?_, Own.le_trans hn (Own.le_or_r _ _), (Free.new hs).mono hn, fun b' o' q => by rw [q]; exact hlt, ?_, ?_, fun t => Own.disj_no _⟩⟩
  · show rel K w' _ _ _
    rw [rel]
    refine .inr ⟨gb, cap, cur, _, zs.map (Value.int .i64), Own.no, by rw [List.length_map], hgb, by simpa using h3, by simpa using h1, h2, by omega, ?_, Own.le_refl _, Own.no_le _, Own.no_disj _, ?_, relL_ints zs⟩
    · intro x hx
      obtain ⟨z, _, rfl⟩ := List.mem_map.1 hx
      rfl
    · intro j v hj
      have h4' : cur.toList.take (zs.length * 1) = zs.map (Value.int .i64) := h4
      rw [← h4', List.getElem?_take] at hj
      split at hj
      · rwa [Array.getElem?_toList] at hj
      · cases hj
  · refine ⟨rfl, fun t => ?_, fun _ _ _ => Own.no_disj _, fun _ => Free.no K, fun _ _ _ q => q.elim⟩
    unfold SlotR
    rcases t with _ | t
    · trivial
    · rw [get_big (by simp)]; trivial
  · rintro b' o' ⟨t, ht⟩
    exact ht.elim⟩
end Go.E

namespace Go.E
/-! Runs along one path: where a run would be stuck at what is not known, an answer says what it comes to, and a claim is noted. -/
inductive Ans where
  | go
  | bit (b : Bool)
  | asis (s : Slot)
  | ret (r : AV) (outs : List Slot)
  | elt (y : AV)
  | loc
  | nz
  | eqb (b : Bool)
  | sub (y : AV)
  | upd (z : AV)
  | cut
  | app
  | mk
  | val (x : AV)
  | run (out : Out) (f : Frame)
  | whole (out : Out) (f : Frame)
  | also (a : Ans) (d : Nat) (s : Slot)
  deriving Inhabited

/-- The arguments that a call's callee gets. -/
def captL (C : Cfg) (f : Frame) (g : FuncId) (args : List (TypeId × Operand)) (caps : List AV) : Option (FuncId × List Slot) :=
  match valsOf C (C.own g) f 0 args with
  | none => none
  | some (ys, f1) => match fill f1 (args.map (·.2)) ys with
    | none => none
    | some (as_, _) => some (g, as_ ++ caps.map .v)
def captQ (C : Cfg) (f : Frame) (g : FuncId) (c : Call) (caps : List AV) : Option (FuncId × List Slot) :=
  if noOwn (C.own g) 0 c.args.size && c.argTypes.size == c.args.size then
    match byValsQ C f (c.argTypes.toList.zip c.args.toList) with
    | some (as_, _) => some (g, as_.map .v ++ caps.map .v)
    | none => captL C f g (c.argTypes.toList.zip c.args.toList) caps
  else captL C f g (c.argTypes.toList.zip c.args.toList) caps
def capt (C : Cfg) (o : Oper) (f : Frame) : Option (FuncId × List Slot) :=
  match o.op with
  | .call c => match c.callee with
    | .value (.func g) => captQ C f g c []
    | .value (.tmp t) => match get f t with
      | .v (.fn g caps) => captQ C f g c caps
      | .clo g cs => match capSlots f cs with
        | some ss => captL C f g (c.argTypes.toList.zip c.args.toList ++ ss.map fun s => (0, .tmp s)) []
        | none => none
      | _ => none
    | _ => none
  | _ => none
/-- Whatever is called answers this. -/
def konst (r : AV) (outs : List Slot) : CallF := fun _ _ => some (r, outs)

section
variable {C : Cfg} {fid : Nat} {call : CallF} {o : Oper} {f : Frame}
theorem callA_capt {d : Option Nat} {g : FuncId} {args : List (TypeId × Operand)} {caps : List AV} {g' : FuncId} {as_ : List Slot} {r : AV} {outs : List Slot} (h : captL C f g args caps = some (g', as_)) (hc : call g' as_ = some (r, outs)) :
    callA C call f d g args caps = callA C (konst r outs) f d g args caps := by
  unfold captL at h
  unfold callA
  split at h
  · cases h
  · rename_i ys f1 h1
    split at h
    · cases h
    · rename_i as' ls h2
      simp only [Option.some.injEq, Prod.mk.injEq] at h
      obtain ⟨rfl, rfl⟩ := h
      rw [h1]
      simp only [h2, hc, konst]
theorem quiet_other {call' : CallF} (h : isCallV o = false) : quiet C fid call o f = quiet C fid call' o f := by
  unfold isCallV at h
  unfold quiet
  cases ho : o.op with
  | call c =>
    rw [ho] at h
    simp only at h ⊢
    cases hcl : c.callee with
    | builtin b => cases b <;> rfl
    | value x => rw [hcl] at h; cases h
    | invoke _ _ => rfl
  | move x => cases x <;> rfl
  | assign x => cases x <;> rfl
  | nilCheck x => cases x <;> rfl
  | extract x i => cases x <;> rfl
  | makeFunc x a b => cases x <;> rfl
  | makeMap t x => cases x <;> rfl
  | mapUpdate t m k x => cases m <;> rfl
  | _ => rfl
theorem loud_other {call' : CallF} (h : isCallV o = false) : loud C fid call o f = loud C fid call' o f := by
  unfold isCallV at h
  unfold loud
  cases ho : o.op with
  | call c =>
    rw [ho] at h
    simp only at h ⊢
    cases hcl : c.callee with
    | builtin b => cases b <;> rfl
    | value x => rw [hcl] at h; cases h
    | invoke _ _ => rfl
  | move x => cases x <;> rfl
  | assign x => cases x <;> rfl
  | nilCheck x => cases x <;> rfl
  | extract x i => cases x <;> rfl
  | makeFunc x a b => cases x <;> rfl
  | makeMap t x => cases x <;> rfl
  | mapUpdate t m k x => cases m <;> rfl
  | _ => rfl
theorem capt_call {c : Call} (ho : o.op = .call c) {g : FuncId} {as_ : List Slot} (h : capt C o f = some (g, as_)) {r : AV} {outs : List Slot} (hc : call g as_ = some (r, outs)) :
    quiet C fid call o f = quiet C fid (konst r outs) o f ∧ (quiet C fid (konst r outs) o f = none → loud C fid call o f = loud C fid (konst r outs) o f) := by
  unfold capt at h
  rw [ho] at h
  simp only at h
  have hq : ∀ {g0 : FuncId} {caps : List AV}, captQ C f g0 c caps = some (g, as_) →
      ((if noOwn (C.own g0) 0 c.args.size && c.argTypes.size == c.args.size then
        match byValsQ C f (c.argTypes.toList.zip c.args.toList) with
        | some (as_, cs) => match call g0 (as_.map .v ++ caps.map .v) with | some (r, _) => some (cs, Slot.v r) | none => none
        | none => none
      else none) = (if noOwn (C.own g0) 0 c.args.size && c.argTypes.size == c.args.size then
        match byValsQ C f (c.argTypes.toList.zip c.args.toList) with
        | some (as_, cs) => match konst r outs g0 (as_.map .v ++ caps.map .v) with | some (r, _) => some (cs, Slot.v r) | none => none
        | none => none
      else none)) ∧ ((if noOwn (C.own g0) 0 c.args.size && c.argTypes.size == c.args.size then
        match byValsQ C f (c.argTypes.toList.zip c.args.toList) with
        | some (as_, cs) => match konst r outs g0 (as_.map .v ++ caps.map .v) with | some (r, _) => some (cs, Slot.v r) | none => none
        | none => none
      else none) = none → captL C f g0 (c.argTypes.toList.zip c.args.toList) caps = some (g, as_)) := by
    intro g0 caps h
    unfold captQ at h
    by_cases hcnd : (noOwn (C.own g0) 0 c.args.size && c.argTypes.size == c.args.size) = true
    · simp only [if_pos hcnd] at h ⊢
      cases hb : byValsQ C f (c.argTypes.toList.zip c.args.toList) with
      | none => simp only [hb] at h ⊢; exact ⟨trivial, fun _ => h⟩
      | some p =>
        obtain ⟨as', cs⟩ := p
        simp only [hb, Option.some.injEq, Prod.mk.injEq] at h ⊢
        obtain ⟨rfl, rfl⟩ := h
        simp only [hc, konst]
        exact ⟨trivial, fun q => by cases q⟩
    · simp only [if_neg hcnd] at h ⊢
      exact ⟨trivial, fun _ => h⟩
  unfold quiet loud
  rw [ho]
  simp only
  split at h
  · rename_i g0 hcl
    obtain ⟨q1, q2⟩ := hq h
    simp only [List.map_nil, List.append_nil] at q1 q2
    simp only [hcl]
    refine ⟨q1, fun hn => ?_⟩
    split
    · exact callA_capt (q2 hn) hc
    · rfl
  · rename_i t hcl
    simp only [hcl]
    split at h
    · rename_i g0 caps hg
      obtain ⟨q1, q2⟩ := hq h
      simp only [hg]
      refine ⟨q1, fun hn => ?_⟩
      split
      · rfl
      · exact callA_capt (q2 hn) hc
    · rename_i g0 cs hg
      simp only [hg]
      refine ⟨trivial, fun _ => ?_⟩
      split at h
      · rename_i ss hss
        simp only [hss]
        split
        · rfl
        · exact callA_capt h hc
      · cases h
    · cases h
  · cases h
theorem capt_isCall {g : FuncId} {as_ : List Slot} (h : capt C o f = some (g, as_)) : ∃ c, o.op = .call c := by
  unfold capt at h
  split at h
  · exact ⟨_, by assumption⟩
  · cases h
theorem evalOp_capt {g : FuncId} {as_ : List Slot} (h : capt C o f = some (g, as_)) {r : AV} {outs : List Slot} (hc : call g as_ = some (r, outs)) : evalOp C fid call o f = evalOp C fid (konst r outs) o f := by
  obtain ⟨c, ho⟩ := capt_isCall h
  obtain ⟨h1, h2⟩ := capt_call (fid := fid) ho h hc
  unfold evalOp
  rw [h1]
  split
  · rfl
  · rename_i hn
    exact h2 hn
end
end Go.E

namespace Go.E
/-- All of these claims. -/
def conj : List Prop → Prop
  | [] => True
  | [p] => p
  | p :: q :: ps => p ∧ conj (q :: ps)
theorem conj_all : ∀ {ps : List Prop}, conj ps → ∀ p ∈ ps, p
  | [], _, p, hp => by simp at hp
  | [q], h, p, hp => by simp only [List.mem_singleton] at hp; subst hp; exact h
  | q :: r :: ps, h, p, hp => by
    rcases List.mem_cons.1 hp with rfl | hp
    · exact h.1
    · exact conj_all h.2 p hp
theorem all_app {ps qs : List Prop} (h : ∀ p ∈ ps ++ qs, p) : (∀ p ∈ ps, p) ∧ ∀ p ∈ qs, p := ⟨fun p hp => h p (List.mem_append_left _ hp), fun p hp => h p (List.mem_append_right _ hp)⟩
theorem all_one {p : Prop} (h : ∀ q ∈ [p], q) : p := h p (by simp)
theorem all_two {p q : Prop} (h : ∀ r ∈ [p, q], r) : p ∧ q := ⟨h p (by simp), h q (by simp)⟩
theorem all_three {p q r : Prop} (h : ∀ s ∈ [p, q, r], s) : p ∧ q ∧ r := ⟨h p (by simp), h q (by simp), h r (by simp)⟩

def byteAt (s : ByteArray) (n : Nat) : Int := match s[n]? with | some b => (b.toNat : Int) | none => 0
/-- A map with a value more. -/
def mapPut (k x : AV) (ks vs : List AV) : Option AV :=
  match findK k ks 0 with
  | some (some i) => some (.map (ks.set i k) (vs.set i x))
  | some none => some (.map (ks ++ [k]) (vs ++ [x]))
  | none => none
def appA (C : Cfg) (ex : Bool) (e : TypeId) (x : AV) (ys : List AV) (sty : Nat) : Option (AV × List Prop) :=
  if szT C e == 0 || byT C e == 0 || !zeroOk C e then none else
  if !(sty == szT C e || ys.isEmpty) then none else
  match x with
  | .arr sx xs => if !(sx == szT C e) then none else
    if ex then some (.arr (szT C e) (xs ++ ys), [(xs.length + ys.length) * byT C e ≤ 140737488355328]) else some (.osl (szT C e) (xs ++ ys), [(xs.length + ys.length) * byT C e ≤ 140737488355328, isPL xs = true])
  | .osl sx xs => if !(sx == szT C e) then none else some (.osl (szT C e) (xs ++ ys), [(xs.length + ys.length) * byT C e ≤ 140737488355328])
  | _ => none
theorem appA_ok {C : Cfg} {ex : Bool} {e : TypeId} {x : AV} {ys : List AV} {sty : Nat} {r : AV} {ps : List Prop} (h : appA C ex e x ys sty = some (r, ps)) (hp : ∀ p ∈ ps, p) : appendA C ex e x ys sty = some r := by
  unfold appA at h
  unfold appendA
  simp only
  split at h
  · cases h
  · rename_i h1
    rw [if_neg h1]
    split at h
    · cases h
    · rename_i h2
      rw [if_neg h2]
      split at h
      · rename_i sx xs
        split at h
        · cases h
        · rename_i h3
          simp only [if_neg h3]
          split at h
          · rename_i hex
            simp only [Option.some.injEq, Prod.mk.injEq] at h
            obtain ⟨rfl, rfl⟩ := h
            have := all_one hp
            rw [if_neg (by omega), if_pos hex]
          · rename_i hex
            simp only [Option.some.injEq, Prod.mk.injEq] at h
            obtain ⟨rfl, rfl⟩ := h
            obtain ⟨k1, k2⟩ := all_two hp
            rw [if_neg (by omega), if_neg hex, if_pos k2]
      · rename_i sx xs
        split at h
        · cases h
        · rename_i h3
          simp only [if_neg h3]
          simp only [Option.some.injEq, Prod.mk.injEq] at h
          obtain ⟨rfl, rfl⟩ := h
          have := all_one hp
          rw [if_neg (by omega)]
      · cases h

section
variable (C : Cfg)
/-- A quiet operation, with an answer. -/
def quietA (fid : Nat) (o : Oper) (f : Frame) : Ans → Option (List Nat × Slot × List Prop)
  | .elt y => match o.op with
    | .indexAddr t x i => match lookO C f t x, lookO C f 0 i with
      | some (.sl st xs), some (.int _ j) => if st == strideT C t && st != 0 then some ([], .v (.ro y), [0 ≤ j, xs[j.toNat]? = some y]) else none
      | some (.osl st xs), some (.int _ j) => if st == strideT C t && st != 0 then some ([], .v (.ro y), [0 ≤ j, xs[j.toNat]? = some y]) else none
      | _, _ => none
    | _ => none
  | .loc => match o.op with
    | .indexAddr t (.tmp tx) i => match lookO C f t (.tmp tx), lookO C f 0 i with
      | some (.arr st xs), some (.int _ j) => if st == strideT C t && st != 0 then
          (match get f tx with
           | .view s p => some ([], .loc s (p ++ [j.toNat]), [0 ≤ j, j.toNat < xs.length])
           | .v _ => some ([], .loc tx [j.toNat], [0 ≤ j, j.toNat < xs.length])
           | _ => none) else none
      | _, _ => none
    | .index t x i => match lookO C f t x, lookO C f 0 i, C.P.underlying t with
      | some (.str s), some (.int _ j), some .string => some ([], .v (.int .u8 (byteAt s j.toNat)), [0 ≤ j, j.toNat < s.size])
      | _, _, _ => none
    | _ => none
  | .nz => match o.op with
    | .binOp op t x y _ => match lookO C f t x, lookO C f t y with
      | some (.int k a), some (.int k' b) => match op with
        | .quo => if k = k' then some ([], .v (.int k (k.wrap (a.tdiv b))), [b ≠ 0]) else none
        | .rem => if k = k' then some ([], .v (.int k (a.tmod b)), [b ≠ 0]) else none
        | .shl => some ([], .v (.int k (k.wrap (a * 2 ^ min b.toNat k.bits))), [0 ≤ b])
        | .shr => some ([], .v (.int k (a.fdiv (2 ^ min b.toNat k.bits))), [0 ≤ b])
        | _ => none
      | _, _ => none
    | _ => none
  | .eqb b => match o.op with
    | .binOp op t x y _ => match lookO C f t x, lookO C f t y with
      | some (.agg xs), some (.agg ys) => if okBin C t (.agg xs) then
          match op with
          | .eql => some ([], .v (.bool b), [eqL xs ys = some b])
          | .neq => some ([], .v (.bool !b), [eqL xs ys = some b])
          | _ => none
        else none
      | _, _ => none
    | _ => none
  | .sub y => match o.op with
    | .load t a => match ptrOf f a with
      | some (.at s p) => match rootOf (get f s) with
        | some x => if fitsT C t y then
          if isP y then some ([], .v y, [Go.E.sub x p = some y]) else
          match y with
          | .osl _ _ => some ([], .view s p, [Go.E.sub x p = some y])
          | .arr _ _ => some ([], .view s p, [Go.E.sub x p = some y])
          | .map _ _ => some ([], .view s p, [Go.E.sub x p = some y])
          | _ => if isF y then some ([], .v (pz y), [Go.E.sub x p = some y]) else none
          else none
        | none => none
      | _ => none
    | .nilCheck (.tmp t) => match get f t with
      | .loc s p => match rootOf (get f s) with
        | some x => some ([], .loc s p, [Go.E.sub x p = some y])
        | none => none
      | _ => none
    | .fieldAddr t a i => match ptrOf f a, y with
      | some (.at s p), .agg xs => match rootOf (get f s) with
        | some x => if okField C t i xs then some ([], .loc s (p ++ [i]), [Go.E.sub x p = some (.agg xs)]) else none
        | none => none
      | _, _ => none
    | _ => none
  | .cut => match o.op with
    | .slice t x lo hi none => match C.P.underlying t with
      | some .string => match lookO C f t x with
        | some (.str s) => match optInt C f 0 lo, optInt C f s.size hi with
          | some l, some h => some ([], .v (.str (s.extract l.toNat h.toNat)), [0 ≤ l, l ≤ h, h ≤ s.size])
          | _, _ => none
        | _ => none
      | some (.slice _) => match byValQ C f t x with
        | some (.sl st xs, cs) => match optInt C f 0 lo, optInt C f xs.length hi with
          | some l, some h => if st == strideT C t && st != 0 then some (cs, .v (.sl st ((xs.take h.toNat).drop l.toNat)), [0 ≤ l, l ≤ h, h ≤ xs.length]) else none
          | _, _ => none
        | _ => none
      | _ => none
    | _ => none
  | .app => match o.op with
    | .call c => match c.callee with
      | .builtin .append => match c.args.toList, c.argTypes.toList with
        | [x, y], [t, u] => match elemT C t, elemT C u with
          | some e, some _ => if t != u then none else match moveQ C f t x, lookO C f u y with
            | some (b, cs), some ya => match slOf ya with
              | some (sty, ys) => if sameT x y then none else
                match appA C (C.exc fid ((o.dst).getD 0)) e b ys sty with
                | some (r, ps) => some (cs, .v r, ps)
                | none => none
              | none => none
            | _, _ => none
          | _, _ => none
        | _, _ => none
      | _ => none
    | _ => none
  | .mk => match o.op with
    | .makeSlice t n c => match lookO C f 0 n, lookO C f 0 c, elemT C t with
      | some (.int .i64 a), some (.int .i64 b), some e => if szT C e != 0 && byT C e != 0 then
          match zeroA C e with
          | some z => if leaves z == szT C e then some ([], .v (.arr (szT C e) (List.replicate a.toNat z)), [a = b, 0 ≤ a, a.toNat * byT C e ≤ 140737488355328]) else none
          | none => none
        else none
      | _, _, _ => none
    | _ => none
  | .val r => match o.op with
    | .lookup t m k ok => match C.P.underlying t with
      | some (.map kt et) => match lookO C f t m, lookO C f kt k, zeroA C et with
        | some (.map ks vs), some y, some z => if okKey C kt y then some ([], .v r, [lookupA ok z y ks vs = some r]) else none
        | some (.rmap ks vs), some y, some z => if okKey C kt y then some ([], .v r, [lookupA ok z y ks vs = some r]) else none
        | _, _, _ => none
      | _ => none
    | _ => none
  | _ => none

/-- A loud operation, with an answer. -/
def loudA (fid : Nat) (o : Oper) (f : Frame) : Ans → Option (Frame × List Prop)
  | .upd z => match o.op with
    | .store t a x => match moveOut C f t x with
      | some (y, f1) => match ptrOf f1 a with
        | some (.at s p) => match rootOf (get f1 s) with
          | some r => if fitsT C t y then some (putO ((kill f1 s p).set s (setRoot (get f1 s) z)) o.dst .any, [∃ y0, Go.E.sub r p = some y0 ∧ leaves y0 = szT C t, Go.E.upd r p y = some z]) else none
          | none => none
        | _ => none
      | none => none
    | .mapUpdate t (.tmp m) k x => match C.P.underlying t with
      | some (.map kt et) => match get f m, lookO C f kt k, byValQ C f et x with
        | .view s p, some ky, some (xy, c2) =>
          if !(okKey C kt ky && isP ky && c2.isEmpty && !isTup xy) then none else
          match subAt f s p with
          | some (.map ks vs) => match updAt f s p z with
            | some s' => some (putO (f.set s s') o.dst .any, [mapPut ky xy ks vs = some z])
            | none => none
          | _ => none
        | _, _, _ => none
      | _ => none
    | _ => none
  | .cut => match o.op with
    | .slice t x lo hi none => match C.P.underlying t with
      | some (.slice _) => match byVal C f t x with
        | some (.sl st xs, f1) => match optInt C f1 0 lo, optInt C f1 xs.length hi with
          | some l, some h => if st == strideT C t && st != 0 then some (putO f1 o.dst (.v (.sl st ((xs.take h.toNat).drop l.toNat))), [0 ≤ l, l ≤ h, h ≤ xs.length]) else none
          | _, _ => none
        | _ => none
      | _ => none
    | _ => none
  | .app => match o.op with
    | .call c => match c.callee with
      | .builtin .append => match c.args.toList, c.argTypes.toList with
        | [.tmp tx, y], [t, u] => match elemT C t, elemT C u with
          | some e, some _ => if t != u then none else match get f tx, lookO C f u y with
            | .view s p, some ya => match slOf ya, takeAt f s p with
              | some (sty, ys), some (b, f1) => if sameT (.tmp tx) y then none else
                match appA C (C.exc fid ((o.dst).getD 0)) e b ys sty with
                | some (r, ps) => some (putO f1 o.dst (.v r), ps)
                | none => none
              | _, _ => none
            | _, _ => none
          | _, _ => none
        | _, _ => none
      | _ => none
    | _ => none
  | _ => none

def stepA (fid : Nat) (call : CallF) (o : Oper) (f : Frame) : Ans → Option (Frame × List Prop)
  | .go => match evalOp C fid call o f with | some f1 => some (f1, []) | none => none
  | .bit b => match evalOp C fid call o f, o.dst with
    | some f1, some d => match get f1 d with | .v (.bool c) => some (f1.set d (.v (.bool b)), [c = b]) | _ => none
    | _, _ => none
  | .asis s => match evalOp C fid call o f, o.dst with
    | some f1, some d => some (f1.set d s, [get f1 d = s])
    | _, _ => none
  | .ret r outs => match capt C o f, evalOp C fid (konst r outs) o f with
    | some (g, as_), some f1 => some (f1, [call g as_ = some (r, outs)])
    | _, _ => none
  | .also a d s => match stepA fid call o f a with
    | some (f1, ps) => some (f1.set d s, ps ++ [get f1 d = s])
    | none => none
  | a => match quietA C fid o f a with
    | some (cs, x, ps) => some (putO (cs.foldl (fun f c => f.set c .any) f) o.dst x, ps)
    | none => match quiet C fid call o f with
      | some _ => none
      | none => loudA C fid o f a
end
end Go.E

namespace Go.E
section
variable {C : Cfg} {fid : Nat} {call : CallF} {o : Oper} {f : Frame} {cs : List Nat} {x : Slot} {ps : List Prop}
theorem idxA_of {k : IntKind} {j : Int} {n : Nat} (h0 : 0 ≤ j) (h1 : j.toNat < n) : idxA (.int k j) n = some j.toNat := by
  simp only [idxA]
  rw [if_pos ⟨h0, by omega⟩]
theorem lt_of_get {α} {xs : List α} {n : Nat} {y : α} (h : xs[n]? = some y) : n < xs.length := (List.getElem?_eq_some_iff.1 h).1
theorem qa_elt {y : AV} (h : quietA C fid o f (.elt y) = some (cs, x, ps)) (hp : ∀ p ∈ ps, p) : quiet C fid call o f = some (cs, x) := by
  rw [quietA] at h
  split at h
  · rename_i t a i ho
    unfold quiet
    rw [ho]
    simp only
    split at h
    · rename_i st xs k j h1 h2
      split at h
      · rename_i hst
        simp only [Option.some.injEq, Prod.mk.injEq] at h
        obtain ⟨rfl, rfl, rfl⟩ := h
        obtain ⟨k1, k2⟩ := all_two hp
        simp only [h1, h2, idxA_of k1 (lt_of_get k2), hst, if_true, k2]
      · cases h
    · rename_i st xs k j h1 h2
      split at h
      · rename_i hst
        simp only [Option.some.injEq, Prod.mk.injEq] at h
        obtain ⟨rfl, rfl, rfl⟩ := h
        obtain ⟨k1, k2⟩ := all_two hp
        simp only [h1, h2, idxA_of k1 (lt_of_get k2), hst, if_true, k2]
      · cases h
    · cases h
  · cases h
theorem qa_loc (h : quietA C fid o f .loc = some (cs, x, ps)) (hp : ∀ p ∈ ps, p) : quiet C fid call o f = some (cs, x) := by
  rw [quietA] at h
  split at h
  · rename_i t tx i ho
    unfold quiet
    rw [ho]
    simp only
    split at h
    · rename_i st xs k j h1 h2
      split at h
      · rename_i hst
        split at h
        · rename_i s p hg
          simp only [Option.some.injEq, Prod.mk.injEq] at h
          obtain ⟨rfl, rfl, rfl⟩ := h
          obtain ⟨k1, k2⟩ := all_two hp
          simp only [h1, h2, idxA_of k1 k2, hst, if_true, hg]
        · rename_i z hg
          simp only [Option.some.injEq, Prod.mk.injEq] at h
          obtain ⟨rfl, rfl, rfl⟩ := h
          obtain ⟨k1, k2⟩ := all_two hp
          simp only [h1, h2, idxA_of k1 k2, hst, if_true, hg]
        · cases h
      · cases h
    · cases h
  · rename_i t a i ho
    unfold quiet
    rw [ho]
    simp only
    split at h
    · rename_i s k j h1 h2 h3
      simp only [Option.some.injEq, Prod.mk.injEq] at h
      obtain ⟨rfl, rfl, rfl⟩ := h
      obtain ⟨k1, k2⟩ := all_two hp
      have hb : s[j.toNat]? = some s[j.toNat] := by simp [k2]
      simp only [h1, h2, h3, idxA_of k1 k2, hb, byteAt]
    · cases h
  · cases h
theorem qa_nz (h : quietA C fid o f .nz = some (cs, x, ps)) (hp : ∀ p ∈ ps, p) : quiet C fid call o f = some (cs, x) := by
  rw [quietA] at h
  split at h
  · rename_i op t a b _ ho
    unfold quiet
    rw [ho]
    simp only
    split at h
    · rename_i k m k' n h1 h2
      simp only [h1, h2, okBin, if_true]
      split at h
      · split at h
        · rename_i hk
          subst hk
          simp only [Option.some.injEq, Prod.mk.injEq] at h
          obtain ⟨rfl, rfl, rfl⟩ := h
          have := all_one hp
          simp [binA, this]
        · cases h
      · split at h
        · rename_i hk
          subst hk
          simp only [Option.some.injEq, Prod.mk.injEq] at h
          obtain ⟨rfl, rfl, rfl⟩ := h
          have := all_one hp
          simp [binA, this]
        · cases h
      · simp only [Option.some.injEq, Prod.mk.injEq] at h
        obtain ⟨rfl, rfl, rfl⟩ := h
        have := all_one hp
        simp only [binA]
        rw [if_neg (by omega)]
      · simp only [Option.some.injEq, Prod.mk.injEq] at h
        obtain ⟨rfl, rfl, rfl⟩ := h
        have := all_one hp
        simp only [binA]
        rw [if_neg (by omega)]
      · cases h
    · cases h
  · cases h
theorem qa_eqb {b : Bool} (h : quietA C fid o f (.eqb b) = some (cs, x, ps)) (hp : ∀ p ∈ ps, p) : quiet C fid call o f = some (cs, x) := by
  rw [quietA] at h
  split at h
  · rename_i op t a c _ ho
    unfold quiet
    rw [ho]
    simp only
    split at h
    · rename_i xs ys h1 h2
      simp only [h1, h2]
      split at h
      · rename_i hok
        simp only [hok, if_true]
        split at h
        · simp only [Option.some.injEq, Prod.mk.injEq] at h
          obtain ⟨rfl, rfl, rfl⟩ := h
          have := all_one hp
          simp [binA, this]
        · simp only [Option.some.injEq, Prod.mk.injEq] at h
          obtain ⟨rfl, rfl, rfl⟩ := h
          have := all_one hp
          simp [binA, this]
        · cases h
      · cases h
    · cases h
  · cases h
theorem subAt_of {s : Nat} {p : List Nat} {r y : AV} (h : rootOf (get f s) = some r) (hs : sub r p = some y) : subAt f s p = some y := by
  unfold subAt
  rw [h]
  exact hs
theorem qa_sub {y : AV} (h : quietA C fid o f (.sub y) = some (cs, x, ps)) (hp : ∀ p ∈ ps, p) : quiet C fid call o f = some (cs, x) := by
  rw [quietA] at h
  split at h
  · rename_i t a ho
    unfold quiet
    rw [ho]
    simp only
    split at h
    · rename_i s p hpt
      simp only [hpt]
      split at h
      · rename_i r hr
        split at h
        · rename_i hf
          split at h
          · rename_i hP
            simp only [Option.some.injEq, Prod.mk.injEq] at h
            obtain ⟨rfl, rfl, rfl⟩ := h
            simp only [subAt_of hr (all_one hp), hf, if_true, hP]
          · rename_i hP
            split at h
            · simp only [Option.some.injEq, Prod.mk.injEq] at h
              obtain ⟨rfl, rfl, rfl⟩ := h
              simp only [subAt_of hr (all_one hp), hf, if_true, if_neg hP]
            · simp only [Option.some.injEq, Prod.mk.injEq] at h
              obtain ⟨rfl, rfl, rfl⟩ := h
              simp only [subAt_of hr (all_one hp), hf, if_true, if_neg hP]
            · simp only [Option.some.injEq, Prod.mk.injEq] at h
              obtain ⟨rfl, rfl, rfl⟩ := h
              simp only [subAt_of hr (all_one hp), hf, if_true, if_neg hP]
            · rename_i n1 n2 n3
              split at h
              · rename_i hF
                simp only [Option.some.injEq, Prod.mk.injEq] at h
                obtain ⟨rfl, rfl, rfl⟩ := h
                rw [subAt_of hr (all_one hp)]
                simp only
                rw [if_pos hf, if_neg hP]
                cases y with
                | osl st xs => exact (n1 _ _ rfl).elim
                | arr st xs => exact (n2 _ _ rfl).elim
                | map ks vs => exact (n3 _ _ rfl).elim
                | _ => simp only [if_pos hF]
              · cases h
        · cases h
      · cases h
    · cases h
  · rename_i t ho
    unfold quiet
    rw [ho]
    simp only
    split at h
    · rename_i s p hg
      split at h
      · rename_i r hr
        simp only [Option.some.injEq, Prod.mk.injEq] at h
        obtain ⟨rfl, rfl, rfl⟩ := h
        simp only [hg, subAt_of hr (all_one hp)]
      · cases h
    · cases h
  · rename_i t a i ho
    unfold quiet
    rw [ho]
    simp only
    split at h
    · rename_i s p xs hpt
      split at h
      · rename_i r hr
        split at h
        · rename_i hk
          simp only [Option.some.injEq, Prod.mk.injEq] at h
          obtain ⟨rfl, rfl, rfl⟩ := h
          simp only [hpt, subAt_of hr (all_one hp), if_pos hk]
        · cases h
      · cases h
    · cases h
  · cases h
theorem qa_cut (h : quietA C fid o f .cut = some (cs, x, ps)) (hp : ∀ p ∈ ps, p) : quiet C fid call o f = some (cs, x) := by
  rw [quietA] at h
  split at h
  · rename_i t a lo hi ho
    unfold quiet
    rw [ho]
    simp only
    split at h
    · rename_i hu
      simp only [hu]
      split at h
      · rename_i s hs
        simp only [hs]
        split at h
        · rename_i l u hl hu
          simp only [Option.some.injEq, Prod.mk.injEq] at h
          obtain ⟨rfl, rfl, rfl⟩ := h
          simp only [hl, hu, if_pos (all_three hp)]
        · cases h
      · cases h
    · rename_i e hu
      simp only [hu]
      split at h
      · rename_i st xs cs' hb
        simp only [hb]
        split at h
        · rename_i l u hl hu
          split at h
          · rename_i hst
            simp only [Option.some.injEq, Prod.mk.injEq] at h
            obtain ⟨rfl, rfl, rfl⟩ := h
            have h3 := all_three hp
            simp only [hl, hu]
            rw [if_pos (by simp only [hst, h3, Bool.true_and, decide_true, and_self])]
          · cases h
        · cases h
      · cases h
    · cases h
  · cases h
theorem qa_app (h : quietA C fid o f .app = some (cs, x, ps)) (hp : ∀ p ∈ ps, p) : quiet C fid call o f = some (cs, x) := by
  rw [quietA] at h
  split at h
  · rename_i c ho
    unfold quiet
    rw [ho]
    simp only
    split at h
    · rename_i hc
      simp only [hc]
      split at h
      · rename_i a b t u ha ht
        simp only [ha, ht]
        split at h
        · rename_i e e' he hu
          simp only [he, hu]
          split at h
          · cases h
          · rename_i htu
            simp only [if_neg htu]
            split at h
            · rename_i bv cs' ya hm hl
              simp only [hm, hl]
              split at h
              · rename_i sty ys hsl
                simp only [hsl]
                split at h
                · cases h
                · rename_i hsame
                  simp only [if_neg hsame]
                  split at h
                  · rename_i r qs happ
                    simp only [Option.some.injEq, Prod.mk.injEq] at h
                    obtain ⟨rfl, rfl, rfl⟩ := h
                    simp only [appA_ok happ hp]
                  · cases h
              · cases h
            · cases h
        · cases h
      · cases h
    · cases h
  · cases h
theorem qa_mk (h : quietA C fid o f .mk = some (cs, x, ps)) (hp : ∀ p ∈ ps, p) : quiet C fid call o f = some (cs, x) := by
  rw [quietA] at h
  split at h
  · rename_i t n c ho
    unfold quiet
    rw [ho]
    simp only
    split at h
    · rename_i a b e h1 h2 h3
      simp only [h1, h2, h3]
      split at h
      · rename_i hne
        simp only [Bool.and_eq_true] at hne
        split at h
        · rename_i z hz
          split at h
          · rename_i hl
            simp only [Option.some.injEq, Prod.mk.injEq] at h
            obtain ⟨rfl, rfl, rfl⟩ := h
            obtain ⟨k1, k2, k3⟩ := all_three hp
            subst k1
            simp only [beq_self_eq_true, k2, k3, decide_true, hne, Bool.and_self, if_true, hz, hl]
          · cases h
        · cases h
      · cases h
    · cases h
  · cases h
theorem qa_val {r : AV} (h : quietA C fid o f (.val r) = some (cs, x, ps)) (hp : ∀ p ∈ ps, p) : quiet C fid call o f = some (cs, x) := by
  rw [quietA] at h
  split at h
  · rename_i t m k ok ho
    unfold quiet
    rw [ho]
    simp only
    split at h
    · rename_i kt et hu
      simp only [hu]
      split at h
      · rename_i ks vs y z h1 h2 h3
        split at h
        · rename_i hk
          simp only [Option.some.injEq, Prod.mk.injEq] at h
          obtain ⟨rfl, rfl, rfl⟩ := h
          simp only [h1, h2, h3, hk, if_true, all_one hp]
        · cases h
      · rename_i ks vs y z h1 h2 h3
        split at h
        · rename_i hk
          simp only [Option.some.injEq, Prod.mk.injEq] at h
          obtain ⟨rfl, rfl, rfl⟩ := h
          simp only [h1, h2, h3, hk, if_true, all_one hp]
        · cases h
      · cases h
    · cases h
  · cases h
theorem quietA_ok {a : Ans} (h : quietA C fid o f a = some (cs, x, ps)) (hp : ∀ p ∈ ps, p) : quiet C fid call o f = some (cs, x) := by
  cases a with
  | elt y => exact qa_elt h hp
  | loc => exact qa_loc h hp
  | nz => exact qa_nz h hp
  | eqb b => exact qa_eqb h hp
  | sub y => exact qa_sub h hp
  | cut => exact qa_cut h hp
  | app => exact qa_app h hp
  | mk => exact qa_mk h hp
  | val r => exact qa_val h hp
  | _ => simp [quietA] at h
theorem updAt_of {s : Nat} {p : List Nat} {r y z : AV} (h : rootOf (get f s) = some r) (hs : upd r p y = some z) : setAt f s p y = some ((kill f s p).set s (setRoot (get f s) z)) := by
  unfold setAt updAt
  rw [h]
  simp only [hs]
theorem la_upd {f' : Frame} {z : AV} (h : loudA C fid o f (.upd z) = some (f', ps)) (hp : ∀ p ∈ ps, p) : loud C fid call o f = some f' := by
  rw [loudA] at h
  split at h
  · rename_i t a v ho
    unfold loud
    rw [ho]
    simp only
    split at h
    · rename_i y f1 hm
      simp only [hm]
      split at h
      · rename_i s p hpt
        simp only [hpt]
        split at h
        · rename_i r hr
          split at h
          · rename_i hf
            simp only [Option.some.injEq, Prod.mk.injEq] at h
            obtain ⟨rfl, rfl⟩ := h
            obtain ⟨⟨y0, k1, k2⟩, k3⟩ := all_two hp
            rw [subAt_of hr k1]
            simp only
            rw [if_pos (by rw [k2, hf]; simp), updAt_of hr k3]
          · cases h
        · cases h
      · cases h
    · cases h
  · rename_i t m k v ho
    unfold loud
    rw [ho]
    simp only
    split at h
    · rename_i kt et hu
      simp only [hu]
      split at h
      · rename_i s p ky xy c2 h1 h2 h3
        simp only [h1, h2, h3]
        split at h
        · cases h
        · rename_i hc
          simp only [if_neg hc]
          split at h
          · rename_i ks vs hsub
            simp only [hsub]
            split at h
            · rename_i s' hupd
              simp only [Option.some.injEq, Prod.mk.injEq] at h
              obtain ⟨rfl, rfl⟩ := h
              have hm := all_one hp
              unfold mapPut at hm
              split at hm
              · rename_i i hf
                simp only [Option.some.injEq] at hm
                subst hm
                simp only [hf, hupd]
              · rename_i hf
                simp only [Option.some.injEq] at hm
                subst hm
                simp only [hf, hupd]
              · cases hm
            · cases h
          · cases h
      · cases h
    · cases h
  · cases h
theorem la_cut {f' : Frame} (h : loudA C fid o f .cut = some (f', ps)) (hp : ∀ p ∈ ps, p) : loud C fid call o f = some f' := by
  rw [loudA] at h
  split at h
  · rename_i t a lo hi ho
    unfold loud
    rw [ho]
    simp only
    split at h
    · rename_i e hu
      simp only [hu]
      split at h
      · rename_i st xs f1 hb
        simp only [hb]
        split at h
        · rename_i l u hl hu
          split at h
          · rename_i hst
            simp only [Option.some.injEq, Prod.mk.injEq] at h
            obtain ⟨rfl, rfl⟩ := h
            have h3 := all_three hp
            simp only [hl, hu]
            rw [if_pos (by simp only [hst, h3, Bool.true_and, decide_true, and_self])]
          · cases h
        · cases h
      · cases h
    · cases h
  · cases h
theorem la_app {f' : Frame} (h : loudA C fid o f .app = some (f', ps)) (hp : ∀ p ∈ ps, p) : loud C fid call o f = some f' := by
  rw [loudA] at h
  split at h
  · rename_i c ho
    unfold loud
    rw [ho]
    simp only
    split at h
    · rename_i hc
      simp only [hc]
      split at h
      · rename_i tx b t u ha ht
        simp only [ha, ht]
        split at h
        · rename_i e e' he hu
          simp only [he, hu]
          split at h
          · cases h
          · rename_i htu
            simp only [if_neg htu]
            split at h
            · rename_i s p ya hg hl
              simp only [hg, hl]
              split at h
              · rename_i sty ys bv f1 hsl htk
                simp only [hsl, htk]
                split at h
                · cases h
                · rename_i hsame
                  simp only [if_neg hsame]
                  split at h
                  · rename_i r qs happ
                    simp only [Option.some.injEq, Prod.mk.injEq] at h
                    obtain ⟨rfl, rfl⟩ := h
                    simp only [appA_ok happ hp]
                  · cases h
              · cases h
            · cases h
        · cases h
      · cases h
    · cases h
  · cases h
theorem loudA_ok {a : Ans} {f' : Frame} (h : loudA C fid o f a = some (f', ps)) (hp : ∀ p ∈ ps, p) : loud C fid call o f = some f' := by
  cases a with
  | upd z => exact la_upd h hp
  | cut => exact la_cut h hp
  | app => exact la_app h hp
  | _ => simp [loudA] at h
theorem set_get {d : Nat} {s : Slot} (h : get f d = s) : f.set d s = f := by
  apply List.ext_getElem?
  intro i
  by_cases hi : d = i
  · subst hi
    rcases Nat.lt_or_ge d f.length with hl | hl
    · rw [List.getElem?_set_self hl]
      unfold get at h
      rw [List.getD_eq_getElem?_getD, List.getElem?_eq_getElem hl] at h
      rw [List.getElem?_eq_getElem hl, ← h]
      rfl
    · rw [List.getElem?_eq_none (by simpa using hl), List.getElem?_eq_none hl]
  · rw [List.getElem?_set_ne hi]
theorem stepA_ok : ∀ {a : Ans} {f' : Frame} {ps : List Prop}, stepA C fid call o f a = some (f', ps) → (∀ p ∈ ps, p) → evalOp C fid call o f = some f' := by
  intro a
  induction a with
  | go =>
    intro f' ps h hp
    rw [stepA] at h
    split at h
    · rename_i f1 h1
      simp only [Option.some.injEq, Prod.mk.injEq] at h
      obtain ⟨rfl, rfl⟩ := h
      exact h1
    · cases h
  | bit b =>
    intro f' ps h hp
    rw [stepA] at h
    split at h
    · rename_i f1 d h1 hd
      split at h
      · rename_i c hg
        simp only [Option.some.injEq, Prod.mk.injEq] at h
        obtain ⟨rfl, rfl⟩ := h
        rw [h1, set_get]
        rw [hg, all_one hp]
      · cases h
    · cases h
  | asis s =>
    intro f' ps h hp
    rw [stepA] at h
    split at h
    · rename_i f1 d h1 hd
      simp only [Option.some.injEq, Prod.mk.injEq] at h
      obtain ⟨rfl, rfl⟩ := h
      rw [h1, set_get (all_one hp)]
    · cases h
  | ret r outs =>
    intro f' ps h hp
    rw [stepA] at h
    split at h
    · rename_i g as_ f1 h1 h2
      simp only [Option.some.injEq, Prod.mk.injEq] at h
      obtain ⟨rfl, rfl⟩ := h
      rw [evalOp_capt h1 (all_one hp)]
      exact h2
    · cases h
  | also a d s ih =>
    intro f' ps h hp
    rw [stepA] at h
    split at h
    · rename_i f1 qs h1
      simp only [Option.some.injEq, Prod.mk.injEq] at h
      obtain ⟨rfl, rfl⟩ := h
      obtain ⟨k1, k2⟩ := all_app hp
      rw [ih h1 k1, set_get (all_one k2)]
    · cases h
  | _ =>
    intro f' ps h hp
    simp only [stepA] at h
    split at h
    · rename_i cs x qs h1
      simp only [Option.some.injEq, Prod.mk.injEq] at h
      obtain ⟨rfl, rfl⟩ := h
      unfold evalOp
      rw [quietA_ok h1 hp]
    · split at h
      · cases h
      · rename_i hq
        unfold evalOp
        rw [hq]
        exact loudA_ok h hp
end
end Go.E
