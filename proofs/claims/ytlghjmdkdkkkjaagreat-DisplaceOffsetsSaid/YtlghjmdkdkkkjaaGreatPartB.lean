/- A part of a proof: an abstract machine for the given program, and what it says of it. No condition. -/
import Derived.Laws.Rows
import Derived.Laws.NewBlocks
import Derived.Laws.AppendOwn
import Derived.Laws.CopyRow
import Derived.Laws.MakeOwn
import Derived.Laws.StructEq
import Derived.Test.YtlghjmdkdkkkjaaGreatPartA
namespace Go.E
open Go.RowKit

section
variable {C : Cfg} {K : Kn} {w : World} {f : Frame} {a : Act} {O : Nat → Own} {fid : Nat} {call : CallF} {o : Oper} {cs : List Nat} {z : Slot}

theorem relE_len {K : Kn} {w : World} : ∀ {xs : List AV} {vs : List Value}, relE K w xs vs → vs.length = xs.length
  | [], _, h => by rw [relE] at h; subst h; rfl
  | x :: xs, _, h => by
    rw [relE] at h
    obtain ⟨v, vs', cs, rfl, _, _, h⟩ := h
    simp [relE_len h]
theorem run_getObj_map {b : Nat} {es : Array MapEntry} {c : Nat} (h : w.heap[b]? = some (Obj.map es c)) : (getObj b).run C.P w = .ok (Obj.map es c) w := by
  simp [getObj, Sem.run, h]

theorem run_len {t : TypeId} {A : AV} {v : Value} {n : Nat} {S : Own} (hs : Sat K w) (h : relV K w A v S) (hl : lenA (C.P.underlying t) A = some n) (ts : Array TypeId) (ht : ts[0]? = some t) (ty : TypeId) (args : Array Value) (hv : args[0]? = some v) :
    (Builtin.len_ ts ty args).run C.P w = .ok (.int .i64 n) w := by
  unfold lenA at hl
  split at hl
  · rename_i e st xs hu
    injection hl with hl; subst hl
    have h' : rel K w _ _ _ := h
    rw [rel] at h'
    obtain ⟨a, c, hv', _⟩ := h'
    injection hv' with hv'; subst hv'
    simp [Builtin.len_, ht, hv, run_underlying hu, goInt]
  · rename_i e st xs hu
    injection hl with hl; subst hl
    have h' : rel K w _ _ _ := h
    rw [rel] at h'
    rcases h' with ⟨rfl, a, hv'⟩ | ⟨_, _, _, _, _, hv', _⟩ <;> (injection hv' with hv'; subst hv'; simp [Builtin.len_, ht, hv, run_underlying hu, goInt])
  · rename_i e st xs hu
    injection hl with hl; subst hl
    have h' : rel K w _ _ _ := h
    rw [rel] at h'
    rcases h' with ⟨rfl, a, hv'⟩ | ⟨_, _, _, _, _, _, hv', _⟩ <;> (injection hv' with hv'; subst hv'; simp [Builtin.len_, ht, hv, run_underlying hu, goInt])
  · rename_i s hu
    injection hl with hl; subst hl
    have := str_of h
    subst this
    simp [Builtin.len_, ht, hv, run_underlying hu, goInt]
  · rename_i kt et ks vs hu
    injection hl with hl; subst hl
    have h' : rel K w _ _ _ := h
    rw [rel] at h'
    obtain ⟨b, es, c, hv', h1, h2, h3, h4⟩ := h'
    injection hv' with hv'; subst hv'
    have hn := relE_len h3
    simp only [List.length_map, Array.length_toList] at hn
    simp [Builtin.len_, ht, hv, run_underlying hu, run_getObj_map h1, goInt, hn]
  · rename_i kt et ks vs hu
    injection hl with hl; subst hl
    have h' : rel K w _ _ _ := h
    rw [rel] at h'
    rcases h' with ⟨rfl, rfl, hv'⟩ | ⟨b, es, hv', h1, h3, h4⟩
    · injection hv' with hv'; subst hv'
      simp [Builtin.len_, ht, hv, run_underlying hu, goInt]
    · injection hv' with hv'; subst hv'
      obtain ⟨c, h1⟩ := hs.map _ _ h1
      have hn := relE_len h3
      simp only [List.length_map, Array.length_toList] at hn
      simp [Builtin.len_, ht, hv, run_underlying hu, run_getObj_map h1, goInt, hn]
  · cases hl

/-- How a builtin is run. -/
theorem exec_builtin {c : Call} {b : Builtin} (ho : o.op = .call c) (hb : c.callee = .builtin b) {v : Value} {w' : World}
    (h : ∀ consts, (builtin b c.argTypes o.type consts (c.args.map (ev a.tmps))).run C.P w = .ok (.value v) w') : (execOp a.eval o).run C.P w = .ok (.value v) w' := by
  simp only [execOp, ho, eval_ev, resolve, hb]
  exact h _

theorem arr_one {α : Type} {xs : Array α} {x : α} (h : xs.toList = [x]) : xs = #[x] := by rw [← Array.toList_inj]; exact h
theorem arr_two {α : Type} {xs : Array α} {x y : α} (h : xs.toList = [x, y]) : xs = #[x, y] := by rw [← Array.toList_inj]; exact h

theorem foldMM_run (h : FR K w f a.tmps O) {mx : Bool} : ∀ {l : List Operand} {A R : AV} {v : Value} {S : Own}, relV K w A v S → foldMM C mx f A l = some R → (∃ k n, A = .int k n) →
    ∃ r, ((l.map (ev a.tmps)).foldlM (if mx then Builtin.max2 else Builtin.min2) v).run C.P w = .ok r w ∧ relV K w R r Own.no
  | [], A, R, v, S, hA, hf, ⟨k, n, e⟩ => by
    subst e
    simp only [foldMM, Option.some.injEq] at hf
    subst hf
    rw [int_of hA]
    exact ⟨_, rfl, of_int⟩
  | x :: l, A, R, v, S, hA, hf, ⟨k, n, e⟩ => by
    subst e
    rw [foldMM] at hf
    split at hf
    · rename_i B hB
      split at hf
      · rename_i R' hR
        unfold minmaxA at hR
        split at hR
        · rename_i k1 n1 k2 n2 e1
          injection e1 with e1 e2
          subst e1 e2
          injection hR with hR
          subst hR
          obtain ⟨S', _, hb⟩ := lookO_sound h hB
          obtain ⟨r, h1, h2⟩ := foldMM_run h (S := Own.no) of_int hf ⟨_, _, rfl⟩
          refine ⟨r, ?_, h2⟩
          rw [int_of hA]
          simp only [List.map_cons, List.foldlM_cons, int_of hb, Sem.run_bind]
          cases mx <;> exact h1
        · cases hR
      · cases hf
    · cases hf

theorem q_makeFunc {g : FuncId} {first caps : Array Operand} (ho : o.op = .makeFunc (.func g) first caps) (h : FR K w f a.tmps O) (hs : Sat K w) (hq : quiet C fid call o f = some (cs, z)) : Does C.P o a w (Post K w f a.tmps O cs z) := by
  unfold quiet at hq
  rw [ho] at hq
  simp only at hq
  split at hq
  · rename_i h0
    have hfst : first = #[] := by
      have : first.size = 0 := by simpa using h0
      exact Array.eq_empty_of_size_eq_zero this
    split at hq
    · rename_i cs' hc
      simp only [Option.some.injEq, Prod.mk.injEq] at hq
      obtain ⟨rfl, rfl⟩ := hq
      refine Does.value (v := .func (.func g) #[] (caps.map (ev a.tmps))) (w' := w) ?_ (.inr (.inl ⟨rfl, rfl, rfl, (caps.map (ev a.tmps)).toList, by rw [Array.toArray_toList], ?_⟩))
      · simp [execOp, ho, eval_ev, Instr.makeFunc, hfst]
      · rw [Array.toList_map]
        generalize caps.toList = l at hc
        induction l generalizing cs' with
        | nil => simp only [capsOf, Option.some.injEq] at hc; subst hc; rfl
        | cons x l ih =>
          rw [capsOf] at hc
          split at hc
          · rename_i y hy
            split at hc
            · rename_i ys hys
              injection hc with hc
              subst hc
              refine ⟨ev a.tmps x, l.map (ev a.tmps), rfl, ?_, ih _ hys⟩
              unfold capOf at hy
              split at hy
              · rename_i t
                split at hy
                · injection hy with hy; subst hy; intro _ _; rfl
                · rename_i y' hg
                  injection hy with hy; subst hy
                  have := relV_P (x := .ro y') rfl (h.val hg)
                  exact this
                · cases hy
              · cases hy
            · cases hc
          · cases hc
    · cases hq
  · cases hq

/-- A new block. -/
theorem made_new (ob : Obj) : (w.alloc ob).heap[w.heap.size]? = some ob := heap_alloc_new w ob
theorem made_old (ob : Obj) {b : Nat} (h : b < w.heap.size) : (w.alloc ob).heap[b]? = w.heap[b]? := heap_alloc_old w ob b h
theorem made_size (ob : Obj) : (w.alloc ob).heap.size = w.heap.size + 1 := Array.size_push ..
theorem made_keeps (S : Own) (ob : Obj) : Keeps S w (w.alloc ob) := by
  refine ⟨fun b cur e fr hb => ⟨cur, ?_, rfl⟩, by rw [made_size]; omega, fun b o' hb _ => ?_, fun b hb _ => made_old ob hb, rfl, rfl, rfl⟩
  · have : b < w.heap.size := by
      rcases Nat.lt_or_ge b w.heap.size with g | g
      · exact g
      · simp [Array.getElem?_eq_none g] at hb
    rw [made_old ob this]; exact hb
  · simp only [World.cell?, made_old ob hb]
/-- A tree in a new block of its own. -/
theorem made_obj (h : FR K w f a.tmps O) (hs : Sat K w) {y : AV} {v : Value} {S : Own} {e : TypeId} (hr : relV K w y v S) (ht : isTup y = false) (hS : S.le (ownOf O cs)) :
    Post K w f a.tmps O cs (.cell y) (.pointer (some ⟨w.heap.size, 0, none⟩)) (w.alloc (.cells v.cells e)) := by
  obtain ⟨ds, h1, h2, h3⟩ := relV_cells hr (by intro ys e; subst e; simp [isTup] at ht)
  have hk := made_keeps (w := w) Own.no (.cells v.cells e)
  have hlt : ∀ b o', S b o' → b < w.heap.size := fun b o' x => by obtain ⟨c, _, k⟩ := hS b o' x; exact h.lt c b o' k
  refine .inl ⟨K, S.or (blk w.heap.size), ⟨hs.keep (Free.no K) hk, Kn.grows_refl K _, made_keeps _ _, ?_, ((h.freeOf cs).mono hS).or ?_, ?_⟩, w.heap.size, 0, rfl, ds, S, ?_, ?_, ?_, Own.le_or_l _ _, ?_⟩
  · exact Own.or_le (Own.le_trans hS (Own.le_or_l _ _)) (fun b o' x => .inr (Nat.le_of_eq x.symm))
  · exact (Free.new hs).mono (fun b o' x => Nat.le_of_eq x.symm)
  · rintro b o' (x | x)
    · exact Nat.lt_of_lt_of_le (hlt b o' x) hk.size
    · rw [x, made_size]; omega
  · exact rel_mono (Kn.le_refl K) hk.met h1 (hk.agree (Own.no_disj _) hlt) (Own.le_refl _)
  · refine ⟨v.cells, e, made_new _, by rw [← h3]; simp, fun j u hj => ?_⟩
    rw [Nat.zero_add, ← Array.getElem?_toList, h3]
    exact hj
  · rintro b o' ⟨rfl, _, _⟩; exact .inr rfl
  · rintro b o' x ⟨rfl, _, _⟩; exact absurd (hlt _ _ x) (Nat.lt_irrefl _)

theorem q_box {e : TypeId} {x : Operand} (ho : o.op = .box e x) (h : FR K w f a.tmps O) (hs : Sat K w) (hq : quiet C fid call o f = some (cs, z)) : Does C.P o a w (Post K w f a.tmps O cs z) := by
  unfold quiet at hq
  rw [ho] at hq
  simp only at hq
  split at hq
  · rename_i s p hpl
    split at hq
    · rename_i y hy
      split at hq
      · simp only [Option.some.injEq, Prod.mk.injEq] at hq
        obtain ⟨rfl, rfl⟩ := hq
        obtain ⟨b, o', h1, h2⟩ : ∃ b o', ev a.tmps x = .pointer (some ⟨b, o', none⟩) ∧ AtS w (get f s) (vals a.tmps s) p b o' := by
          refine ptrOf_at h (x := x) ?_ hy
          unfold placeOf at hpl
          split at hpl
          · rename_i t
            split at hpl
            · rename_i hg
              simp only [Option.some.injEq, Prod.mk.injEq] at hpl
              obtain ⟨rfl, rfl⟩ := hpl
              simp only [ptrOf, hg]
            · rename_i hg
              simp only [Option.some.injEq, Prod.mk.injEq] at hpl
              obtain ⟨rfl, rfl⟩ := hpl
              simp only [ptrOf, hg]
            · cases hpl
          · cases hpl
        refine Does.value (v := .pointer (some ⟨w.heap.size, 0, none⟩)) (w' := w.alloc (.cells #[.pointer (some ⟨b, o', none⟩)] e)) ?_ ?_
        · simp [execOp, ho, eval_ev, h1, Instr.box, newVar, newRow, Value.cells]
        · have hk := made_keeps (w := w) Own.no (.cells #[.pointer (some ⟨b, o', none⟩)] e)
          have hnew : Free K (blk w.heap.size) := (Free.new hs).mono (fun b o' x => Nat.le_of_eq x.symm)
          have hg2 := Kn.addRng_grows (K := K) (cur := #[.pointer (some ⟨b, o', none⟩)]) hnew (b := w.heap.size) (o := 0) (n := 1) (fun b o' q => q.1)
          refine .inr (.inr ⟨rfl, rfl, K.addRng w.heap.size 0 1 #[.pointer (some ⟨b, o', none⟩)], ⟨Kn.addRng_sat (hs.keep (Free.no _) hk) (made_new _), hg2.mono fun b o' x => .inr (Nat.le_of_eq x.symm), hk, Own.no_le _, Free.no _, fun _ _ h => h.elim⟩, fun _ => ⟨w.heap.size, 0, b, o', rfl, ?_, ?_⟩⟩)
          · exact Kn.addRng_cell (K := K) (b := w.heap.size) (o := 0) (n := 1) (j := 0) (by simp) (by omega)
          · obtain ⟨x0, hx0, _⟩ := subAt_root hy
            exact AtS_stable ((h.slot s).root hx0) (hk.agree (Own.no_disj _) (h.lt s)) h2
      · cases hq
    · cases hq
  · split at hq
    · rename_i y cs' hm
      split at hq
      · cases hq
      · rename_i ht
        simp only [Option.some.injEq, Prod.mk.injEq] at hq
        obtain ⟨rfl, rfl⟩ := hq
        obtain ⟨S, h1, h2, _⟩ := moveQ_sound h hm
        refine Does.value ?_ (made_obj (e := e) h hs h1 (by simpa using ht) h2)
        simp [execOp, ho, eval_ev, Instr.box, newVar, newRow]
    · cases hq

mutual
theorem matchZ_sound {K : Kn} {w : World} : ∀ (x : AV) {cs rest : List Value}, matchZ x cs = some rest → ∃ c1, cs = c1 ++ rest ∧ rel K w x c1 Own.no
  | .agg xs, cs, rest, h => by
    rw [matchZ] at h
    obtain ⟨c1, h1, h2⟩ := matchZL_sound (K := K) (w := w) xs h
    exact ⟨c1, h1, by rw [rel]; exact h2⟩
  | .int k n, cs, rest, h => by
    unfold matchZ at h
    split at h <;> rename_i e1 <;> first | cases e1 | skip
    · split at h
      · rename_i hh; obtain ⟨rfl, rfl⟩ := hh; injection h with h; subst h; exact ⟨[_], rfl, by rw [rel]⟩
      · cases h
    · cases h
  | .bool b, cs, rest, h => by
    unfold matchZ at h
    split at h <;> rename_i e1 <;> first | cases e1 | skip
    · split at h
      · rename_i hh; subst hh; injection h with h; subst h; exact ⟨[_], rfl, by rw [rel]⟩
      · cases h
    · cases h
  | .str b, cs, rest, h => by
    unfold matchZ at h
    split at h <;> rename_i e1 <;> first | cases e1 | skip
    · split at h
      · rename_i u cs' hh
        injection h with h
        subst h
        have : b = u := by
          obtain ⟨⟨b⟩⟩ := b
          obtain ⟨⟨u⟩⟩ := u
          have h1 : b.length = 0 := hh.1
          have h2 : u.length = 0 := hh.2
          rw [List.eq_nil_of_length_eq_zero h1, List.eq_nil_of_length_eq_zero h2]
        subst this
        exact ⟨[_], rfl, by rw [rel]⟩
      · cases h
    · cases h
  | .nilp, cs, rest, h => by
    unfold matchZ at h
    split at h <;> rename_i e1 <;> first | cases e1 | skip
    · injection h with h; subst h; exact ⟨[_], rfl, by rw [rel]⟩
    · cases h
  | .nilf, cs, rest, h => by
    unfold matchZ at h
    split at h <;> rename_i e1 <;> first | cases e1 | skip
    · injection h with h; subst h; exact ⟨[_], rfl, by rw [rel]⟩
    · cases h
  | .arr st xs, cs, rest, h => by
    unfold matchZ at h
    split at h <;> rename_i e1 <;> first | cases e1 | skip
    · injection h with h; subst h; exact ⟨[_], rfl, by rw [rel]; exact .inl ⟨rfl, _, rfl⟩⟩
    · cases h
  | .rmap ks vs, cs, rest, h => by
    unfold matchZ at h
    split at h <;> rename_i e1 <;> first | cases e1 | skip
    · injection h with h; subst h; exact ⟨[_], rfl, by rw [rel]; exact .inl ⟨rfl, rfl, rfl⟩⟩
    · cases h
  | .undef, cs, rest, h => by simp [matchZ] at h
  | .sl _ _, cs, rest, h => by simp [matchZ] at h
  | .osl _ _, cs, rest, h => by simp [matchZ] at h
  | .ro _, cs, rest, h => by simp [matchZ] at h
  | .fn _ _, cs, rest, h => by simp [matchZ] at h
  | .map _ _, cs, rest, h => by simp [matchZ] at h
  | .tup _, cs, rest, h => by simp [matchZ] at h
theorem matchZL_sound {K : Kn} {w : World} : ∀ (xs : List AV) {cs rest : List Value}, matchZ.matchZL xs cs = some rest → ∃ c1, cs = c1 ++ rest ∧ relL K w xs c1 Own.no
  | [], cs, rest, h => by
    simp only [matchZ.matchZL, Option.some.injEq] at h
    exact ⟨[], h, by rw [relL]⟩
  | x :: xs, cs, rest, h => by
    rw [matchZ.matchZL] at h
    split at h
    · rename_i cs' h1
      obtain ⟨c1, rfl, k1⟩ := matchZ_sound (K := K) (w := w) x h1
      obtain ⟨c2, rfl, k2⟩ := matchZL_sound (K := K) (w := w) xs h
      exact ⟨c1 ++ c2, by simp, by rw [relL]; exact ⟨c1, c2, Own.no, Own.no, rfl, Own.le_refl _, Own.le_refl _, Own.no_disj _, k1, k2⟩⟩
    · cases h
end

theorem zeroA_sound {t : TypeId} {x : AV} (h : zeroA C t = some x) : ∃ v, (zeroValue t).run C.P w = .ok v w ∧ relV K w x v Own.no ∧ isTup x = false ∧ ∃ i, C.P.info? t = some i ∧ i.zero = some v := by
  unfold zeroA at h
  split at h
  · rename_i z v hz hv
    cases hi : C.P.info? t with
    | none => simp [hi] at hv
    | some i =>
      simp only [hi, Option.bind_some] at hv
      split at h
      · rename_i hm
        split at h
        · rename_i hag
          injection h with h
          subst h
          obtain ⟨c1, h1, h2⟩ := matchZ_sound (K := K) (w := w) z hm
          rw [List.append_nil] at h1
          refine ⟨v, by simp [zeroValue, typeInfo, hi, hv], relV_of_cells h2 ?_, ?_, i, rfl, hv⟩
          · cases z with
            | agg xs =>
              cases v with
              | agg c => rw [← h1]; rfl
              | _ => simp [isAgg, isAggV] at hag
            | tup xs => rw [rel] at h2; exact h2.elim
            | _ =>
              show c1 = [v]
              rw [← h1]
              cases v <;> first | rfl | (simp [isAgg, isAggV] at hag)
          · cases z with
            | tup xs => rw [rel] at h2; exact h2.elim
            | _ => rfl
        · cases h
      · cases h
  · cases h

theorem q_alloc {e : TypeId} (ho : o.op = .alloc e) (h : FR K w f a.tmps O) (hs : Sat K w) (hq : quiet C fid call o f = some (cs, z)) : Does C.P o a w (Post K w f a.tmps O cs z) := by
  unfold quiet at hq
  rw [ho] at hq
  simp only at hq
  split at hq
  · rename_i y hz
    simp only [Option.some.injEq, Prod.mk.injEq] at hq
    obtain ⟨rfl, rfl⟩ := hq
    obtain ⟨v, h1, h2, h3, _⟩ := zeroA_sound (K := K) (w := w) hz
    refine Does.value ?_ (made_obj (e := e) h hs h2 h3 (Own.no_le _))
    simp [execOp, ho, Instr.alloc, h1, newVar, newRow]
  · cases hq
end
end Go.E

namespace Go.E
open Go.RowKit

section
variable {C : Cfg} {K : Kn} {w : World} {f : Frame} {a : Act} {O : Nat → Own} {fid : Nat} {call : CallF} {o : Oper} {cs : List Nat} {z : Slot}

theorem q_len {c : Call} (ho : o.op = .call c) (hb : c.callee = .builtin .len) (h : FR K w f a.tmps O) (hs : Sat K w) (hq : quiet C fid call o f = some (cs, z)) : Does C.P o a w (Post K w f a.tmps O cs z) := by
  unfold quiet at hq
  rw [ho] at hq
  simp only [hb] at hq
  split at hq
  · rename_i x t h1 h2
    have e1 := arr_one h1
    have e2 := arr_one h2
    split at hq
    · rename_i A hA
      split at hq
      · rename_i n hn
        simp only [Option.some.injEq, Prod.mk.injEq] at hq
        obtain ⟨rfl, rfl⟩ := hq
        obtain ⟨S, _, hr⟩ := lookO_sound h hA
        refine Does.value (exec_builtin ho hb fun consts => ?_) (.flat hs of_int _)
        rw [builtin]
        simp only [Sem.run_bind]
        rw [run_len hs hr hn c.argTypes (by rw [e2]; rfl) o.type _ (by rw [e1]; simp)]
        rfl
      · cases hq
    · cases hq
  · cases hq

theorem foldMM_int {mx : Bool} : ∀ {l : List Operand} {A R : AV}, foldMM C mx f A l = some R → (l = [] ∧ R = A) ∨ ∃ k n, A = .int k n
  | [], A, R, h => by simp only [foldMM, Option.some.injEq] at h; exact .inl ⟨rfl, h.symm⟩
  | x :: l, A, R, h => by
    rw [foldMM] at h
    split at h
    · split at h
      · rename_i R' hR
        unfold minmaxA at hR
        split at hR
        · exact .inr ⟨_, _, rfl⟩
        · cases hR
      · cases h
    · cases h

theorem q_max {c : Call} (ho : o.op = .call c) (hb : c.callee = .builtin .max) (h : FR K w f a.tmps O) (hs : Sat K w) (hq : quiet C fid call o f = some (cs, z)) : Does C.P o a w (Post K w f a.tmps O cs z) := by
  unfold quiet at hq
  rw [ho] at hq
  simp only [hb] at hq
  split at hq
  · rename_i x xs h1
    split at hq
    · rename_i A hA
      split at hq
      · rename_i R hR
        split at hq
        · rename_i k n
          simp only [Option.some.injEq, Prod.mk.injEq] at hq
          obtain ⟨rfl, rfl⟩ := hq
          obtain ⟨S, _, hr⟩ := lookO_sound h hA
          obtain ⟨r, k1, k2⟩ := foldMM_run (mx := true) h hr hR ⟨_, _, rfl⟩
          refine Does.value (exec_builtin ho hb fun consts => ?_) (.flat hs k2 _)
          rw [builtin]
          simp only [Sem.run_bind, Builtin.max_, Array.toList_map, h1, List.map_cons]
          rw [if_pos rfl] at k1
          rw [k1]
          rfl
        · cases hq
      · cases hq
    · cases hq
  · cases hq
theorem q_min {c : Call} (ho : o.op = .call c) (hb : c.callee = .builtin .min) (h : FR K w f a.tmps O) (hs : Sat K w) (hq : quiet C fid call o f = some (cs, z)) : Does C.P o a w (Post K w f a.tmps O cs z) := by
  unfold quiet at hq
  rw [ho] at hq
  simp only [hb] at hq
  split at hq
  · rename_i x xs h1
    split at hq
    · rename_i A hA
      split at hq
      · rename_i R hR
        split at hq
        · rename_i k n
          simp only [Option.some.injEq, Prod.mk.injEq] at hq
          obtain ⟨rfl, rfl⟩ := hq
          obtain ⟨S, _, hr⟩ := lookO_sound h hA
          obtain ⟨r, k1, k2⟩ := foldMM_run (mx := false) h hr hR ⟨_, _, rfl⟩
          refine Does.value (exec_builtin ho hb fun consts => ?_) (.flat hs k2 _)
          rw [builtin]
          simp only [Sem.run_bind, Builtin.min_, Array.toList_map, h1, List.map_cons]
          rw [if_neg (by simp)] at k1
          rw [k1]
          rfl
        · cases hq
      · cases hq
    · cases hq
  · cases hq

/-! ### Maps -/
theorem asV_cell1 {x : AV} {u : Value} {S : Own} (h : rel K w x [u] S) (hx : ∀ xs, x ≠ .agg xs) : asV x [u] u := by
  cases x <;> first | rfl | (exact absurd rfl (hx _))
theorem run_equal_key (hE : ∀ t, C.eqT t = true → EqT C.P t) {t : TypeId} {x y : AV} {u v : Value} {b : Bool} {S S' : Own} (h : eqK x y = some b) (hk : okKey C t x = true) (hx : relV K w x u S) (hy : relV K w y v S') :
    (Op.equal t u v).run C.P w = .ok b w := by
  unfold eqK at h
  split at h
  · rename_i xs ys
    obtain ⟨cs, rfl, hx⟩ := hx
    obtain ⟨ds, rfl, hy⟩ := hy
    exact run_equal_agg hE (by simpa [okKey] using hk) h hx hy
  · rename_i hna
    have hxf : flat1 C t x = true := by
      unfold okKey at hk
      split at hk
      · rename_i xs
        rcases eqA_cases h with ⟨_, _, _, e, _⟩ | ⟨_, _, e, _⟩ | ⟨_, _, e, _⟩ <;> cases e
      · exact hk
    have hx' : rel K w x [u] S := by
      rcases eqA_cases h with ⟨_, _, _, rfl, _⟩ | ⟨_, _, rfl, _⟩ | ⟨_, _, rfl, _⟩ <;> exact hx
    have hy' : rel K w y [v] S' := by
      rcases eqA_cases h with ⟨_, _, _, _, rfl, _⟩ | ⟨_, _, _, rfl, _⟩ | ⟨_, _, _, rfl, _⟩ <;> exact hy
    exact run_equalIn_flat (d := 9999) h hxf hx' hy'

theorem relE_cons {x : AV} {xs : List AV} {vs : List Value} (h : relE K w (x :: xs) vs) : ∃ v vs', vs = v :: vs' ∧ relV K w x v Own.no ∧ relE K w xs vs' := by
  rw [relE] at h
  obtain ⟨v, vs', cs, rfl, h1, h2, h3⟩ := h
  refine ⟨v, vs', rfl, relV_of_cells h1 ?_, h3⟩
  cases x <;> exact h2
theorem relE_get : ∀ {xs : List AV} {vs : List Value} {i : Nat} {x : AV}, relE K w xs vs → xs[i]? = some x → ∃ v, vs[i]? = some v ∧ relV K w x v Own.no
  | [], _, _, _, _, h => by simp at h
  | y :: xs, vs, 0, x, h, hx => by
    obtain ⟨v, vs', rfl, h1, h2⟩ := relE_cons h
    simp only [List.getElem?_cons_zero, Option.some.injEq] at hx
    subst hx
    exact ⟨v, rfl, h1⟩
  | y :: xs, vs, i + 1, x, h, hx => by
    obtain ⟨v, vs', rfl, h1, h2⟩ := relE_cons h
    simp only [List.getElem?_cons_succ] at hx
    obtain ⟨u, k1, k2⟩ := relE_get h2 hx
    exact ⟨u, by simpa using k1, k2⟩

/-- What a search finds. -/
def hitAt (es : List MapEntry) (i : Nat) : Option Nat → Option (Nat × Value)
  | some j => (es[j - i]?).map fun e => (j, e.val)
  | none => none
theorem hitAt_cons {e : MapEntry} {es : List MapEntry} {i : Nat} {r : Option Nat} (h : ∀ j, r = some j → i + 1 ≤ j ∧ j - (i + 1) < es.length) : hitAt es (i + 1) r = hitAt (e :: es) i r := by
  cases r with
  | none => rfl
  | some j =>
    obtain ⟨a1, a2⟩ := h j rfl
    simp only [hitAt]
    rw [show j - i = (j - (i + 1)) + 1 by omega, List.getElem?_cons_succ]

theorem findAsking_run (hE : ∀ t, C.eqT t = true → EqT C.P t) {t : TypeId} {k : AV} {u : Value} {S : Own} (hk : okKey C t k = true) (hu : relV K w k u S) : ∀ {es : List MapEntry} {ks : List AV} {i : Nat} {r : Option Nat},
    relE K w ks (es.map (·.key)) → findK k ks i = some r → (Instr.findAsking t u es i).run C.P w = .ok (hitAt es i r) w ∧ (∀ j, r = some j → i ≤ j ∧ j - i < es.length)
  | [], ks, i, r, h, hf => by
    cases ks with
    | nil => simp only [findK, Option.some.injEq] at hf; subst hf; exact ⟨by simp [Instr.findAsking, hitAt], by simp⟩
    | cons x ks => rw [relE] at h; obtain ⟨v, vs', cs, e, _⟩ := h; cases e
  | e :: es, ks, i, r, h, hf => by
    cases ks with
    | nil => rw [relE] at h; cases h
    | cons x ks =>
    obtain ⟨v, vs', hv, h1, h2⟩ := relE_cons h
    simp only [List.map_cons, List.cons.injEq] at hv
    obtain ⟨rfl, rfl⟩ := hv
    rw [findK] at hf
    split at hf
    · rename_i hk'
      injection hf with hf
      subst hf
      refine ⟨?_, fun j hj => by injection hj with hj; subst hj; exact ⟨Nat.le_refl _, by simp⟩⟩
      simp [Instr.findAsking, run_equal_key hE hk' hk hu h1, hitAt]
    · rename_i hk'
      obtain ⟨k1, k2⟩ := findAsking_run hE hk hu h2 hf
      refine ⟨?_, fun j hj => by obtain ⟨a1, a2⟩ := k2 j hj; exact ⟨by omega, by simp only [List.length_cons]; omega⟩⟩
      simp only [Instr.findAsking, Sem.run_bind, run_equal_key hE hk' hk hu h1, Result.andThen_ok, Bool.false_eq_true, if_false, k1]
      rw [hitAt_cons k2]
    · cases hf

theorem findNow_ok (hE : ∀ t, C.eqT t = true → EqT C.P t) {t : TypeId} {d : TypeDesc} {k : AV} {u : Value} {S : Own} (hd : C.P.underlying t = some d) (hk : okKey C t k = true) (hu : relV K w k u S) : ∀ {es : List MapEntry} {ks : List AV} {i : Nat} {r : Option Nat} {r' : Option (Nat × Value)},
    relE K w ks (es.map (·.key)) → findK k ks i = some r → Instr.findNow d u es i = some r' → r' = (hitAt es i r) ∧ (∀ j, r = some j → i ≤ j ∧ j - i < es.length)
  | [], ks, i, r, r', h, hf, hn => by
    cases ks with
    | nil => simp only [findK, Option.some.injEq] at hf; subst hf; simp only [Instr.findNow, Option.some.injEq] at hn; subst hn; exact ⟨rfl, by simp⟩
    | cons x ks => rw [relE] at h; obtain ⟨v, vs', cs, e, _⟩ := h; cases e
  | e :: es, ks, i, r, r', h, hf, hn => by
    cases ks with
    | nil => rw [relE] at h; cases h
    | cons x ks =>
    obtain ⟨v, vs', hv, h1, h2⟩ := relE_cons h
    simp only [List.map_cons, List.cons.injEq] at hv
    obtain ⟨rfl, rfl⟩ := hv
    have hsame : ∀ b b', eqK k x = some b → Instr.sameNow d u e.key = some b' → b' = b := by
      intro b b' hb hb'
      unfold eqK at hb
      split at hb
      · rename_i xs ys
        obtain ⟨cs, rfl, _⟩ := hu
        cases d <;> simp [Instr.sameNow] at hb'
      · rcases eqA_cases hb with ⟨k1, m, n, rfl, rfl, rfl⟩ | ⟨m, n, rfl, rfl, rfl⟩ | ⟨m, n, rfl, rfl, rfl⟩
        · rw [int_of hu, int_of h1] at hb'
          cases d <;> simp [Instr.sameNow] at hb'
          exact hb'.symm
        · rw [bool_of hu, bool_of h1] at hb'
          cases d <;> simp [Instr.sameNow] at hb'
          exact hb'.symm
        · rw [str_of hu, str_of h1] at hb'
          cases d <;> simp [Instr.sameNow] at hb'
          rw [← hb', beq_toListBytes]
    rw [Instr.findNow] at hn
    rw [findK] at hf
    split at hf
    · rename_i hk'
      injection hf with hf
      subst hf
      split at hn
      · injection hn with hn; subst hn
        exact ⟨by simp [hitAt], fun j hj => by injection hj with hj; subst hj; exact ⟨Nat.le_refl _, by simp⟩⟩
      · rename_i hs; cases hsame _ _ hk' hs
      · cases hn
    · rename_i hk'
      split at hn
      · rename_i hs; cases hsame _ _ hk' hs
      · obtain ⟨k1, k2⟩ := findNow_ok hE hd hk hu h2 hf hn
        refine ⟨?_, fun j hj => by obtain ⟨a1, a2⟩ := k2 j hj; exact ⟨by omega, by simp only [List.length_cons]; omega⟩⟩
        rw [k1, hitAt_cons k2]
      · cases hn
    · cases hf

theorem okKey_und {t : TypeId} {k : AV} (hk : okKey C t k = true) : ∃ d, C.P.underlying t = some d := by
  unfold okKey okAgg flat1 at hk
  cases hu : C.P.underlying t with
  | none => split at hk <;> simp only [hu] at hk <;> first | (split at hk <;> cases hk) | (simp at hk)
  | some d => exact ⟨d, rfl⟩
theorem findKey_run (hE : ∀ t, C.eqT t = true → EqT C.P t) {t : TypeId} {k : AV} {u : Value} {S : Own} (hk : okKey C t k = true) (hu : relV K w k u S) {es : List MapEntry} {ks : List AV} {r : Option Nat}
    (h : relE K w ks (es.map (·.key))) (hf : findK k ks 0 = some r) : (Instr.findKey t u es).run C.P w = .ok (hitAt es 0 r) w ∧ (∀ j, r = some j → j < es.length) := by
  obtain ⟨d, hd⟩ := okKey_und hk
  unfold Instr.findKey
  rw [Sem.run_bind, run_underlying hd, Result.andThen_ok]
  cases hn : Instr.findNow d u es 0 with
  | some r' =>
    obtain ⟨k1, k2⟩ := findNow_ok hE hd hk hu h hf hn
    refine ⟨?_, fun j hj => by obtain ⟨a1, a2⟩ := k2 j hj; omega⟩
    rw [k1]
    rfl
  | none =>
    obtain ⟨k1, k2⟩ := findAsking_run hE hk hu h hf
    refine ⟨?_, fun j hj => by obtain ⟨a1, a2⟩ := k2 j hj; omega⟩
    rw [k1]

theorem checkKey_flat {e : Bool} {n : Nat} {t : TypeId} {x : AV} {u : Value} {S : Own} (hf : flat1 C t x = true) (hx : rel K w x [u] S) : (Instr.checkKey e (n + 1) t u).run C.P w = .ok () w := by
  obtain ⟨v, hv, _, hc⟩ := flat1_cell hf hx
  injection hv with hv
  subst hv
  rcases hc with ⟨k1, n1, k', e1, rfl, hk⟩ | ⟨b, e1, rfl, hk⟩ | ⟨s, e1, rfl, hk⟩ <;> simp [Instr.checkKey, run_underlying hk]
theorem fields_ok : ∀ {fs : List Field} {xs : List AV} {pre cs : List Value} {S : Own}, flatFits C fs xs = true → relL K w xs cs S → (∀ (i : Nat) (g : Field), fs[i]? = some g → g.offset = pre.length + i ∧ g.name ≠ "_") →
    ∀ g ∈ fs, g.name ≠ "_" ∧ ∃ u x S', (part g.type (pre ++ cs).toArray g.offset).run C.P w = .ok u w ∧ flat1 C g.type x = true ∧ rel K w x [u] S'
  | [], xs, pre, cs, S, hf, hx, hg, g, hm => by cases hm
  | g :: fs, xs, pre, cs, S, hf, hx, hg, g', hm => by
    cases xs with
    | nil => simp [flatFits] at hf
    | cons x xs =>
    simp only [flatFits, Bool.and_eq_true] at hf
    obtain ⟨hf1, hf2⟩ := hf
    rw [relL] at hx
    obtain ⟨c1, c2, S1, S2, rfl, _, _, _, hx1, hx2⟩ := hx
    obtain ⟨u, rfl, hag, _⟩ := flat1_cell hf1 hx1
    obtain ⟨ho, hn⟩ := hg 0 g rfl
    rw [Nat.add_zero] at ho
    rcases List.mem_cons.1 hm with rfl | hm
    · refine ⟨hn, u, x, S1, ?_, hf1, hx1⟩
      unfold part
      rw [Sem.run_bind, run_isAgg hag, Result.andThen_ok, ho]
      simp
    · have ih := fields_ok (pre := pre ++ [u]) hf2 hx2 (fun i g' hg' => by
        obtain ⟨k4, k5⟩ := hg (i + 1) g' (by simpa using hg')
        exact ⟨by rw [k4]; simp; omega, k5⟩) g' hm
      simpa using ih
theorem checkKey_run (hE : ∀ t, C.eqT t = true → EqT C.P t) {e : Bool} {t : TypeId} {k : AV} {u : Value} {S : Own} (hk : okKey C t k = true) (hu : relV K w k u S) : (Instr.checkKey e 10000 t u).run C.P w = .ok () w := by
  unfold okKey at hk
  split at hk
  · rename_i xs
    obtain ⟨cs, rfl, hx⟩ := hu
    unfold okAgg at hk
    simp only [Bool.and_eq_true] at hk
    obtain ⟨h1, h2⟩ := hk
    split at h2
    · rename_i fs hd
      rw [show (10000 : Nat) = 9998 + 1 + 1 from rfl, Instr.checkKey]
      simp only [Sem.run_bind, run_underlying hd, Result.andThen_ok]
      rw [← Array.forIn_toList]
      have hall := fields_ok (w := w) (pre := []) h2 hx (fun i g hg => by simpa using (hE t h1).fields fs hd i g hg)
      generalize fs.toList = l at hall
      induction l with
      | nil => simp
      | cons g l ih =>
        obtain ⟨hn, u, x, S', p1, p2, p3⟩ := hall g (List.mem_cons_self ..)
        have ih' := ih fun g hg => hall g (List.mem_cons_of_mem _ hg)
        rw [List.nil_append] at p1
        simp only [List.forIn_cons, if_pos hn, Sem.run_bind, p1, Result.andThen_ok, checkKey_flat (e := e) (n := 9998) p2 p3, Sem.run_pure]
        exact ih'
    · cases h2
  · rename_i hna
    have hr : rel K w k [u] S := by
      unfold flat1 at hk
      split at hk <;> first | exact hu | cases hk
    exact checkKey_flat (n := 9999) hk hr

theorem pair_of {x y : AV} {u v : Value} (h : relV K w x u Own.no) (hx : ∀ xs, x ≠ .tup xs) (h' : relV K w y v Own.no) (hy : ∀ xs, y ≠ .tup xs) : relV K w (.tup [x, y]) (.tuple #[u, v]) Own.no := by
  obtain ⟨c1, a1, a2, _⟩ := relV_cells h hx
  obtain ⟨c2, b1, b2, _⟩ := relV_cells h' hy
  refine ⟨[u, v], rfl, ?_⟩
  rw [relV.relT]
  refine ⟨u, [v], Own.no, Own.no, rfl, Own.le_refl _, Own.le_refl _, Own.no_disj _, ⟨c1, a1, a2⟩, ?_⟩
  rw [relV.relT]
  exact ⟨v, [], Own.no, Own.no, rfl, Own.le_refl _, Own.le_refl _, Own.no_disj _, ⟨c2, b1, b2⟩, by rw [relV.relT]⟩
theorem relE_notup : ∀ {xs : List AV} {vs : List Value} {x : AV}, relE K w xs vs → x ∈ xs → ∀ ys, x ≠ .tup ys
  | [], _, _, _, h => by cases h
  | y :: xs, vs, x, h, hx => by
    intro ys e
    subst e
    rw [relE] at h
    obtain ⟨v, vs', cs, rfl, h1, h2, h3⟩ := h
    rcases List.mem_cons.1 hx with rfl | hx
    · rw [rel] at h1; exact h1
    · exact relE_notup h3 hx ys rfl

theorem grows_no {K K' : Kn} (h : K.grows K' Own.no) : K'.le K := ⟨fun b o v x => (h.cell b o v x).elim id (fun y => y.elim), fun b es x => (h.map b es x).elim id (fun y => (y 0).elim)⟩
/-- What owns nothing is persistent already. -/
theorem relV_pz_no {x : AV} {v : Value} (hs : Sat K w) (h : relV K w x v Own.no) : relV K w (pz x) v Own.no := by
  obtain ⟨K', g1, _, g3⟩ := freezeV h (Free.no K) hs
  exact relV_mono (grows_no g1) (Meta.refl w) g3 (Agree.no _ _) (Own.le_refl _)

theorem run_lookup (hE : ∀ t, C.eqT t = true → EqT C.P t) (hs : Sat K w) {t kt et : TypeId} {x u : Value} {ok : Bool} {y zr R : AV} {ks vs : List AV} {es : Array MapEntry} {S : Own} (ht : C.P.underlying t = some (.map kt et))
    (hx : (x = .map none ∧ es = #[]) ∨ ∃ b c, x = .map (some b) ∧ w.heap[b]? = some (Obj.map es c)) (hu : relV K w y u S) (hk : okKey C kt y = true) (hz : zeroA C et = some zr) (hR : lookupA ok zr y ks vs = some R)
    (hks : relE K w ks (es.toList.map (·.key))) (hvs : relE K w vs (es.toList.map (·.val))) : ∃ v, (Instr.lookup t x u ok).run C.P w = .ok v w ∧ relV K w R v Own.no := by
  obtain ⟨zv, hz1, hz2, hz3, _⟩ := zeroA_sound (K := K) (w := w) hz
  have hlen : ks.length = vs.length := by
    have h1 := relE_len hks
    have h2 := relE_len hvs
    simp only [List.length_map] at h1 h2
    omega
  have main : ∀ r, findK y ks 0 = some r → (Instr.lookup t x u ok).run C.P w = ((match hitAt es.toList 0 r with | some (_, v) => pure (v, true) | none => do pure (← zeroValue et, false) : Sem (Value × Bool)) >>= fun p => pure (if ok then .tuple #[p.1, .bool p.2] else p.1)).run C.P w := by
    intro r hr
    obtain ⟨k1, _⟩ := findKey_run hE hk hu hks hr
    unfold Instr.lookup
    rw [Sem.run_bind, run_underlying ht, Result.andThen_ok]
    rcases hx with ⟨rfl, rfl⟩ | ⟨b, c, rfl, hb⟩
    · simp only [Sem.run_bind, Sem.run_pure, Result.andThen_ok, checkKey_run hE hk hu, k1]
      cases hitAt [] 0 r <;> simp [hz1]
    · simp only [Sem.run_bind, Sem.run_pure, Result.andThen_ok, run_getObj_map hb, checkKey_run hE hk hu, k1]
      cases hitAt es.toList 0 r <;> simp [hz1]
  unfold lookupA at hR
  split at hR
  · rename_i i hf
    rw [main _ hf]
    split at hR
    · rename_i u' hu'
      split at hR
      · rename_i hp
        obtain ⟨v, hv, hr⟩ := relE_get hvs hu'
        have hnt := relE_notup hvs (List.mem_of_getElem? hu')
        simp only [List.getElem?_map] at hv
        cases hes : es.toList[i]? with
        | none => simp [hes] at hv
        | some e =>
          simp only [hes, Option.map_some, Option.some.injEq] at hv
          subst hv
          injection hR with hR
          subst hR
          refine ⟨if ok then .tuple #[e.val, .bool true] else e.val, by simp only [hitAt, Nat.sub_zero, hes, Option.map_some, Sem.run_bind, Sem.run_pure, Result.andThen_ok], ?_⟩
          cases ok
          · exact hr
          · exact pair_of hr hnt of_bool (by simp)
      · cases hR
    · cases hR
  · rename_i hf
    rw [main _ hf]
    injection hR with hR
    subst hR
    have hpz : relV K w (pz zr) zv Own.no := relV_pz_no hs hz2
    refine ⟨if ok then .tuple #[zv, .bool false] else zv, by simp only [hitAt, Sem.run_bind, Sem.run_pure, Result.andThen_ok, hz1], ?_⟩
    cases ok
    · exact hpz
    · refine pair_of hpz ?_ of_bool (by simp)
      intro xs e
      cases zr <;> simp [pz] at e
      simp [isTup] at hz3
  · cases hR

theorem q_lookup (hE : ∀ t, C.eqT t = true → EqT C.P t) {t : TypeId} {m k : Operand} {ok : Bool} (ho : o.op = .lookup t m k ok) (h : FR K w f a.tmps O) (hs : Sat K w) (hq : quiet C fid call o f = some (cs, z)) : Does C.P o a w (Post K w f a.tmps O cs z) := by
  unfold quiet at hq
  rw [ho] at hq
  simp only at hq
  split at hq
  · rename_i kt et hu
    have fin : ∀ {y zr R : AV} {ks vs : List AV} {es : Array MapEntry}, lookO C f kt k = some y → okKey C kt y = true → zeroA C et = some zr → lookupA ok zr y ks vs = some R →
        ((ev a.tmps m = .map none ∧ es = #[]) ∨ ∃ b c, ev a.tmps m = .map (some b) ∧ w.heap[b]? = some (Obj.map es c)) →
        relE K w ks (es.toList.map (·.key)) → relE K w vs (es.toList.map (·.val)) → Does C.P o a w (Post K w f a.tmps O [] (.v R)) := by
      intro y zr R ks vs es hy hk hz hR hx hks hvs
      obtain ⟨S, _, hyr⟩ := lookO_sound h hy
      obtain ⟨v, h1, h2⟩ := run_lookup hE hs hu hx hyr hk hz hR hks hvs
      refine Does.value (v := v) (w' := w) ?_ (.flat hs h2 _)
      simp [execOp, ho, eval_ev, h1]
    split at hq
    · rename_i ks vs y zr hm hy hz
      split at hq
      · rename_i hk
        split at hq
        · rename_i R hR
          simp only [Option.some.injEq, Prod.mk.injEq] at hq
          obtain ⟨rfl, rfl⟩ := hq
          obtain ⟨S, _, hr⟩ := lookO_sound h hm
          have h' : rel K w _ _ _ := hr
          rw [rel] at h'
          obtain ⟨b, es, c, hv', h1, h2, h3, h4⟩ := h'
          injection hv' with hv'
          exact fin hy hk hz hR (.inr ⟨b, c, hv', h1⟩) h3 h4
        · cases hq
      · cases hq
    · rename_i ks vs y zr hm hy hz
      split at hq
      · rename_i hk
        split at hq
        · rename_i R hR
          simp only [Option.some.injEq, Prod.mk.injEq] at hq
          obtain ⟨rfl, rfl⟩ := hq
          obtain ⟨S, _, hr⟩ := lookO_sound h hm
          have h' : rel K w _ _ _ := hr
          rw [rel] at h'
          rcases h' with ⟨rfl, rfl, hv'⟩ | ⟨b, es, hv', h1, h3, h4⟩
          · injection hv' with hv'
            exact fin (es := #[]) hy hk hz hR (.inl ⟨hv', rfl⟩) (by rw [relE]; rfl) (by rw [relE]; rfl)
          · injection hv' with hv'
            obtain ⟨c, h1⟩ := hs.map _ _ h1
            exact fin hy hk hz hR (.inr ⟨b, c, hv', h1⟩) h3 h4
        · cases hq
      · cases hq
    · cases hq
  · cases hq
end
end Go.E

namespace Go.E
open Go.RowKit

section
variable {C : Cfg} {K : Kn} {w : World}

theorem zeroOk_eq {e : TypeId} (h : zeroOk C e = true) : ∃ i z, C.P.info? e = some i ∧ i.zero = some z ∧ z.cells.size = szT C e ∧ i.size = szT C e := by
  unfold zeroOk at h
  split at h
  · rename_i z hz
    cases hi : C.P.info? e with
    | none => simp [hi] at hz
    | some i =>
      simp only [hi, Option.bind_some] at hz
      exact ⟨i, z, rfl, hz, by simpa using h, by simp [szT, hi]⟩
  · cases h

theorem drew_keeps {S : Own} {w' : World} (h : Keeps S w.drew w') : Keeps S w w' := ⟨h.met, h.size, h.cell, h.blk, h.rest⟩

theorem setRow_keeps {b : Nat} {cur : Array Value} {e : TypeId} (hg : w.heap[b]? = some (.cells cur e (0, 0))) (n : Nat) (vs : List Value) (hfit : n + vs.length ≤ cur.size) :
    Keeps (tail b n) w (w.setRow b (cur.toList.take n ++ vs ++ cur.toList.drop (n + vs.length)).toArray) ∧
    (w.setRow b (cur.toList.take n ++ vs ++ cur.toList.drop (n + vs.length)).toArray).heap[b]? = some (.cells (cur.toList.take n ++ vs ++ cur.toList.drop (n + vs.length)).toArray e (0, 0)) ∧
    (cur.toList.take n ++ vs ++ cur.toList.drop (n + vs.length)).toArray.size = cur.size := by
  have hsz : (cur.toList.take n ++ vs ++ cur.toList.drop (n + vs.length)).toArray.size = cur.size := by
    simp only [List.size_toArray, List.length_append, List.length_take, List.length_drop, Array.length_toList]
    omega
  have hh := setRow_heap w b cur (cur.toList.take n ++ vs ++ cur.toList.drop (n + vs.length)).toArray e (0, 0) hg
  refine ⟨⟨?_, Nat.le_of_eq (setRow_size ..).symm, ?_, ?_, rfl, rfl, rfl⟩, hh, hsz⟩
  · intro b' cs e' fr hb'
    by_cases hb : b' = b
    · subst hb
      rw [hg] at hb'
      injection hb' with hb'
      injection hb' with h1 h2 h3
      subst h1 h2 h3
      exact ⟨_, hh, hsz⟩
    · exact ⟨cs, by rw [setRow_other w b b' _ hb]; exact hb', rfl⟩
  · intro b' o' _ hn
    by_cases hb : b' = b
    · subst hb
      rw [cell_of_heap hh, cell_of_heap hg]
      have ho : o' < n := by
        rcases Nat.lt_or_ge o' n with h1 | h1
        · exact h1
        · exact absurd ⟨rfl, h1⟩ hn
      rw [List.getElem?_toArray, List.append_assoc, List.getElem?_append_left (by rw [List.length_take, Array.length_toList]; omega), List.getElem?_take, if_pos ho, Array.getElem?_toList]
    · simp only [World.cell?, setRow_other w b b' _ hb]
  · intro b' _ hn
    have hb : b' ≠ b := fun e => hn n ⟨e, Nat.le_refl _⟩
    exact setRow_other w b b' _ hb

/-- What append does. -/
theorem append_run (T : Nat → Prop) {t e ty : TypeId} {st n m : Nat} {v x : Value} {cx cy : List Value} (he : C.P.underlying t = some (.slice e)) (hz : zeroOk C e = true) (hst : szT C e = st) (h0 : st ≠ 0)
    (hb : (n = 0 ∧ ∃ a, v = .slice a 0 0) ∨ ∃ b c cur e', T b ∧ v = .slice (some ⟨b, 0, none⟩) n c ∧ w.heap[b]? = some (Obj.cells cur e' (0, 0)) ∧ cur.size = c * st ∧ n ≤ c ∧ c ≤ maxLen ∧ ∀ (j : Nat) (u : Value), cx[j]? = some u → cur[j]? = some u)
    (hcx : cx.length = n * st) (hcy : cy.length = m * st) (hone : ∀ u ∈ cy, u.oneCell' = true)
    (hn : (m = 0 ∧ ∃ a c, x = .slice a 0 c) ∨ ∃ b o c, x = .slice (some ⟨b, o, none⟩) m c ∧ ∀ (j : Nat) (u : Value), cy[j]? = some u → w.cell? ⟨b, o + j, none⟩ = some u)
    (hby : (n + m) * byT C e ≤ 140737488355328) (hml : n + m ≤ maxLen) :
    ∃ r w', (Builtin.append_ #[t, t] ty #[v, x]).run C.P w = .ok r w' ∧
      ((n = 0 ∧ m = 0 ∧ w' = w ∧ ∃ a, r = .slice a 0 0) ∨ ∃ bb cap cur e', r = .slice (some ⟨bb, 0, none⟩) (n + m) cap ∧ w'.heap[bb]? = some (Obj.cells cur e' (0, 0)) ∧ cur.size = cap * st ∧ n + m ≤ cap ∧ cap ≤ maxLen ∧
        (∀ (j : Nat) (u : Value), (cx ++ cy)[j]? = some u → cur[j]? = some u) ∧ ((T bb ∧ Keeps (tail bb (n * st)) w w') ∨ (bb = w.heap.size ∧ Keeps Own.no w w'))) := by
  obtain ⟨i, z, hi, hz1, hz2, hz3⟩ := zeroOk_eq hz
  rw [hst] at hz2 hz3
  have hbytes : byT C e = i.bytes := by simp [byT, hi]
  rw [hbytes] at hby
  by_cases hm : m = 0
  · subst hm
    have hx : ∃ a c, x = .slice a 0 c := by
      rcases hn with ⟨_, h⟩ | ⟨b, o, c, h, _⟩
      · exact h
      · exact ⟨_, c, h⟩
    obtain ⟨a, c, rfl⟩ := hx
    have hcy0 : cy = [] := List.eq_nil_of_length_eq_zero (by simpa using hcy)
    subst hcy0
    have hrun : ∀ {base : Option Addr} {cap : Nat}, n ≤ cap → (Builtin.append_ #[t, t] ty #[.slice base n cap, .slice a 0 c]).run C.P w = .ok (.slice base n cap) w := by
      intro base cap hle
      cases base <;> cases a <;> simp [Builtin.append_, run_underlying he, sizeOf, typeInfo, hi, Builtin.lenOf, hle, Builtin.firstCells, loadCells, loadCellsFrom, storeCells]
    rcases hb with ⟨rfl, a', rfl⟩ | ⟨b, cap, cur, e', hT, rfl, h1, h2, h3, h4, h5⟩
    · exact ⟨_, _, hrun (Nat.le_refl _), .inl ⟨rfl, rfl, rfl, a', rfl⟩⟩
    · exact ⟨_, _, hrun h3, .inr ⟨b, cap, cur, e', rfl, h1, h2, h3, h4, by simpa using h5, .inl ⟨hT, Keeps.refl _ _⟩⟩⟩
  · obtain ⟨b', o', c', rfl, hcell⟩ := hn.resolve_left (fun h => hm h.1)
    have hcell' : ∀ (j : Nat) (u : Value), cy[j]? = some u → w.cell? ((⟨b', o', none⟩ : Addr).add j) = some u := fun j u hj => by rw [Addr.add_lit]; exact hcell j u hj
    have hl : cy.length = m * i.size := by rw [hcy, hz3]
    have hmx : n + m ≤ 9223372036854775807 := by simp only [maxLen] at hml; omega
    have grown : ∀ (old : Nat) (cx' : List Value), cx'.length = n * st → (∀ (j : Nat) (u : Value), cx[j]? = some u → cx'[j]? = some u) → ∃ bb cap cur e', (Value.slice (some ⟨w.heap.size, 0, none⟩) (n + m) (grownCap w (n + m) old e)) = .slice (some ⟨bb, 0, none⟩) (n + m) cap ∧
        (w.drew.alloc (.cells (cx'.toArray ++ cy.toArray ++ Builtin.zeroCells z.cells (grownCap w (n + m) old e - (n + m))) e)).heap[bb]? = some (Obj.cells cur e' (0, 0)) ∧ cur.size = cap * st ∧ n + m ≤ cap ∧ cap ≤ maxLen ∧
        (∀ (j : Nat) (u : Value), (cx ++ cy)[j]? = some u → cur[j]? = some u) ∧ ((T bb ∧ Keeps (tail bb (n * st)) w (w.drew.alloc (.cells (cx'.toArray ++ cy.toArray ++ Builtin.zeroCells z.cells (grownCap w (n + m) old e - (n + m))) e))) ∨
          (bb = w.heap.size ∧ Keeps Own.no w (w.drew.alloc (.cells (cx'.toArray ++ cy.toArray ++ Builtin.zeroCells z.cells (grownCap w (n + m) old e - (n + m))) e)))) := by
      intro old cx' hcx' hsame
      have hge := grownCap_ge w (n + m) old e
      refine ⟨w.heap.size, _, _, e, rfl, heap_alloc_new w.drew _, ?_, hge, grownCap_le_maxLen w (n + m) old e hml, ?_, .inr ⟨rfl, drew_keeps (made_keeps (w := w.drew) Own.no _)⟩⟩
      · simp only [Array.size_append, List.size_toArray, size_zeroCells, hz2, hcx', hcy, ← Nat.add_mul]
        congr 1
        omega
      · intro j u hj
        have e1 : cx' = cx := by
          apply List.ext_getElem?
          intro k
          by_cases hk : k < cx.length
          · rw [List.getElem?_eq_getElem hk]
            exact hsame k _ (List.getElem?_eq_getElem hk)
          · rw [List.getElem?_eq_none (by omega), List.getElem?_eq_none (by omega)]
        subst e1
        have hlt := (List.getElem?_eq_some_iff.1 hj).1
        rw [Array.getElem?_append_left (by simpa using hlt), ← hj]
        simp
    rcases hb with ⟨rfl, a', rfl⟩ | ⟨b, cap, cur, e', hT, rfl, h1, h2, h3, h4, h5⟩
    · have hcx0 : cx = [] := List.eq_nil_of_length_eq_zero (by simpa using hcx)
      subst hcx0
      obtain ⟨bb, cap, cur, e', g1, g⟩ := grown 0 [] (by simp) (by simp)
      simp only [Nat.zero_add] at g1 g hby hmx ⊢
      cases a' with
      | none =>
        have hr := run_append_nil (P := C.P) w t ty e i z he hi hz1 ⟨b', o', none⟩ m c' cy hl hcell' (by omega) (by omega) (by omega)
        refine ⟨_, _, hr, .inr ⟨bb, cap, cur, e', g1, ?_⟩⟩
        simpa using g
      | some a' =>
        have hr := run_append_grow (P := C.P) w t ty e i z he hi hz1 a' 0 0 [] (by simp) (by simp) ⟨b', o', none⟩ m c' cy hl hcell' (by omega) (by omega) (growslice_fits (by omega) (by simpa using hby))
        simp only [Nat.zero_add] at hr
        refine ⟨_, _, hr, .inr ⟨bb, cap, cur, e', g1, ?_⟩⟩
        simpa using g
    · by_cases hroom : n + m ≤ cap
      · have hfit : n * st + cy.length ≤ cur.size := by rw [hcy, h2, ← Nat.add_mul]; exact Nat.mul_le_mul_right _ hroom
        obtain ⟨k1, k2, k3⟩ := setRow_keeps h1 (n * st) cy hfit
        have hf := run_firstCells_some (P := C.P) w i.size m ⟨b', o', none⟩ m c' cy hl hcell'
        have hst' := run_storeCells_at C.P b (n * st) e' cy 0 cur w h1 (by simpa using hfit) hone
        simp only [Nat.add_zero] at hst'
        refine ⟨_, _, ?_, .inr ⟨b, cap, _, e', rfl, k2, by rw [k3, h2], hroom, h4, ?_, .inl ⟨hT, k1⟩⟩⟩
        · subst hz3
          simp [Builtin.append_, run_underlying he, sizeOf, typeInfo, hi, Builtin.lenOf, hroom, hf, Addr.add_lit, hst']
        · intro j u hj
          have hlt := (List.getElem?_eq_some_iff.1 hj).1
          simp only [List.length_append] at hlt
          rw [List.getElem?_toArray, List.getElem?_append_left (by simp only [List.length_append, List.length_take, Array.length_toList]; omega)]
          by_cases hjx : j < cx.length
          · rw [List.getElem?_append_left hjx] at hj
            rw [List.getElem?_append_left (by simp only [List.length_take, Array.length_toList]; omega), List.getElem?_take, if_pos (by omega), Array.getElem?_toList]
            exact h5 j u hj
          · rw [List.getElem?_append_right (by omega)] at hj
            rw [List.getElem?_append_right (by simp only [List.length_take, Array.length_toList]; omega)]
            simp only [List.length_take, Array.length_toList]
            rw [show j - min (n * st) cur.size = j - cx.length by omega]
            exact hj
      · obtain ⟨bb, cap', cur', e2, g1, g⟩ := grown cap cx hcx (fun _ _ h => h)
        have holds : ∀ (j : Nat) (u : Value), cx[j]? = some u → w.cell? ((⟨b, 0, none⟩ : Addr).add j) = some u := fun j u hj => by rw [Addr.add_lit, Nat.zero_add, cell_of_heap h1]; exact h5 j u hj
        have hr := run_append_grow (P := C.P) w t ty e i z he hi hz1 ⟨b, 0, none⟩ n cap cx (by rw [hcx, hz3]) holds ⟨b', o', none⟩ m c' cy hl hcell' (by omega) (by omega) (growslice_fits (by omega) hby)
        exact ⟨_, _, hr, .inr ⟨bb, cap', cur', e2, g1, g⟩⟩
end
end Go.E

namespace Go.E
open Go.RowKit

section
variable {C : Cfg} {K : Kn} {w : World} {f : Frame} {a : Act} {O : Nat → Own} {fid : Nat} {call : CallF} {o : Oper} {cs : List Nat} {z : Slot}

theorem news_of {ya : AV} {x : Value} {S : Own} {sty : Nat} {ys : List AV} (hs : Sat K w) (h : relV K w ya x S) (hsl : slOf ya = some (sty, ys)) :
    ∃ cy, relL K w ys cy Own.no ∧ (∀ y ∈ ys, leaves y = sty) ∧ ((ys.length = 0 ∧ ∃ a c, x = .slice a 0 c) ∨ ∃ b o c, x = .slice (some ⟨b, o, none⟩) ys.length c ∧ ∀ (j : Nat) (u : Value), cy[j]? = some u → w.cell? ⟨b, o + j, none⟩ = some u) := by
  have hslc : ∀ {st : Nat} {xs : List AV} {S : Own}, rel K w (.sl st xs) [x] S → ∃ cy, relL K w xs cy Own.no ∧ (∀ y ∈ xs, leaves y = st) ∧ ((xs.length = 0 ∧ ∃ a c, x = .slice a 0 c) ∨ ∃ b o c, x = .slice (some ⟨b, o, none⟩) xs.length c ∧ ∀ (j : Nat) (u : Value), cy[j]? = some u → w.cell? ⟨b, o + j, none⟩ = some u) := by
    intro st xs S h
    rw [rel] at h
    obtain ⟨a, c, h1, h2, h3, h4⟩ := h
    injection h1 with h1
    rcases h4 with rfl | ⟨b, o', ys, rfl, h5, h6⟩
    · exact ⟨[], by rw [relL], by simp, .inl ⟨rfl, a, c, h1⟩⟩
    · exact ⟨ys, h6, h3, .inr ⟨b, o', c, h1, fun j u hj => hs.cell _ _ _ (h5 j u hj)⟩⟩
  unfold slOf at hsl
  split at hsl
  · simp only [Option.some.injEq, Prod.mk.injEq] at hsl
    obtain ⟨rfl, rfl⟩ := hsl
    exact hslc (S := S) h
  · simp only [Option.some.injEq, Prod.mk.injEq] at hsl
    obtain ⟨rfl, rfl⟩ := hsl
    exact hslc (S := Own.no) (osl_sl (S := S) h)
  · split at hsl
    · rename_i hp
      simp only [Option.some.injEq, Prod.mk.injEq] at hsl
      obtain ⟨rfl, rfl⟩ := hsl
      have h' : rel K w _ _ _ := h
      rw [rel] at h'
      rcases h' with ⟨rfl, a, e⟩ | ⟨b, c, cur, e, ys, S2, h1, h2, h3, h4, h5, h6, h7, h8, h9, h10, h11, h12⟩
      · injection e with e
        exact ⟨[], by rw [relL], by simp, .inl ⟨rfl, a, 0, e⟩⟩
      · injection h1 with h1
        exact ⟨ys, relL_P hp h12, h7, .inr ⟨b, 0, c, h1, fun j u hj => by rw [Nat.zero_add, cell_of_heap h2]; exact h11 j u hj⟩⟩
    · cases hsl
  · cases hsl

/-- The effect of an append, whichever way it went. -/
theorem append_post {e t ty : TypeId} {ex : Bool} {base r : AV} {ys : List AV} {sty : Nat} {v x : Value} {S S' S0 : Own} {ya : AV} (hs : Sat K w) (hfree : Free K S0) (hlt : ∀ b o, S0 b o → b < w.heap.size)
    (hS0 : S.le S0) (hbase : relV K w base v S) (hya : relV K w ya x S') (hsl : slOf ya = some (sty, ys)) (hu : C.P.underlying t = some (.slice e)) (hr : appendA C ex e base ys sty = some r) :
    ∃ rv w' K' S', (Builtin.append_ #[t, t] ty #[v, x]).run C.P w = .ok rv w' ∧ Eff K K' S0 w w' S' ∧ relV K' w' r rv S' := by
  obtain ⟨cy, hy1, hy2, hn⟩ := news_of hs hya hsl
  unfold appendA at hr
  simp only at hr
  split at hr
  · cases hr
  rename_i hc1
  simp only [Bool.or_eq_true, beq_iff_eq, Bool.not_eq_true', not_or, Bool.not_eq_false] at hc1
  obtain ⟨⟨hst0, hby0⟩, hzo⟩ := hc1
  split at hr
  · cases hr
  rename_i hc2
  have hsty : ys = [] ∨ sty = szT C e := by
    by_cases h1 : sty = szT C e
    · exact .inr h1
    · left
      cases ys with
      | nil => rfl
      | cons y ys => exact absurd (by simp [h1]) hc2
  have hy2' : ∀ y ∈ ys, leaves y = szT C e := by
    rcases hsty with rfl | rfl
    · simp
    · exact hy2
  have hcy : cy.length = ys.length * szT C e := by rw [relL_len hy1, leavesL_const hy2']
  have hone := relL_one hy1
  have hml : ∀ n, ¬ (n + ys.length) * byT C e > 140737488355328 → (n + ys.length) * byT C e ≤ 140737488355328 ∧ n + ys.length ≤ maxLen := by
    intro n hh
    have h1 : (n + ys.length) * byT C e ≤ 140737488355328 := by omega
    refine ⟨h1, ?_⟩
    have h2 : n + ys.length ≤ (n + ys.length) * byT C e := Nat.le_mul_of_pos_right _ (by omega)
    simp only [maxLen]
    omega
  have heff0 : ∀ S1 : Own, Eff K K S1 w w Own.no := fun S1 => Eff.none S1 hs
  have hbb : ∀ {w' : World} {bb : Nat} {ob : Obj}, w'.heap[bb]? = some ob → bb < w'.heap.size := by
    intro w' bb ob h
    rcases Nat.lt_or_ge bb w'.heap.size with g | g
    · exact g
    · simp [Array.getElem?_eq_none g] at h
  split at hr
  · -- an array
    rename_i sx xs
    split at hr
    · cases hr
    rename_i hsx
    have hsx : sx = szT C e := by simpa using hsx
    subst hsx
    split at hr
    · cases hr
    rename_i hbulk
    obtain ⟨hby, hml⟩ := hml _ hbulk
    have hb' : rel K w _ _ _ := hbase
    rw [rel] at hb'
    have hbase' : ∃ cx S2, relL K w xs cx S2 ∧ S2.le S ∧ (∀ y ∈ xs, leaves y = szT C e) ∧ ((xs.length = 0 ∧ ∃ a, v = .slice a 0 0) ∨ ∃ b c cur e', ((blk b).le S ∧ S2.disj (blk b)) ∧ v = .slice (some ⟨b, 0, none⟩) xs.length c ∧ w.heap[b]? = some (Obj.cells cur e' (0, 0)) ∧ cur.size = c * szT C e ∧ xs.length ≤ c ∧ c ≤ maxLen ∧ ∀ (j : Nat) (u : Value), cx[j]? = some u → cur[j]? = some u) := by
      rcases hb' with ⟨rfl, a, hv⟩ | ⟨b, c, cur, e', ys', S2, h1, h2, h3, h4, h5, h6, h7, h8, h9, h10, h11, h12⟩
      · injection hv with hv
        exact ⟨[], Own.no, by rw [relL], Own.no_le _, by simp, .inl ⟨rfl, a, hv⟩⟩
      · injection h1 with h1
        exact ⟨ys', S2, h12, h9, h7, .inr ⟨b, c, cur, e', ⟨h8, h10⟩, h1, h2, h3, h4, h5, h11⟩⟩
    obtain ⟨cx, S2, k1, k2, k3, k4⟩ := hbase'
    have hcx : cx.length = xs.length * szT C e := by rw [relL_len k1, leavesL_const k3]
    obtain ⟨rv, w', hrun, hres⟩ := append_run (fun b => (blk b).le S ∧ S2.disj (blk b)) (ty := ty) hu hzo rfl hst0 k4 hcx hcy hone hn hby hml
    have hall : ∀ y ∈ xs ++ ys, leaves y = szT C e := fun y hy => (List.mem_append.1 hy).elim (k3 y) (hy2' y)
    rcases hres with ⟨hx0, hy0, hw, a, rfl⟩ | ⟨bb, cap, cur, e', rfl, g1, g2, g3, g4, g5, g6⟩
    · have e1 : xs = [] := List.eq_nil_of_length_eq_zero hx0
      have e2 : ys = [] := List.eq_nil_of_length_eq_zero hy0
      have hw' := hw.symm
      subst e1 e2 hw'
      refine ⟨_, _, K, Own.no, hrun, heff0 _, ?_⟩
      have h0 : ∀ q : AV, (q = .arr (szT C e) [] ∨ q = .osl (szT C e) []) → relV K w q (.slice a 0 0) Own.no := by
        rintro q (rfl | rfl)
        · show rel K w _ _ _; rw [rel]; exact .inl ⟨rfl, a, rfl⟩
        · show rel K w _ _ _; rw [rel]; exact .inl ⟨rfl, a, rfl⟩
      refine h0 r ?_
      split at hr
      · injection hr with hr; exact .inl hr.symm
      · split at hr <;> injection hr with hr
        · exact .inr hr.symm
        · exact .inl hr.symm
    · -- what is known of the block
      have hkeep : Keeps S0 w w' ∧ (blk bb).le (S0.or (new w)) ∧ Free K (blk bb) ∧ S2.disj (blk bb) ∧ Agree S2 w w' := by
        have hl2 : ∀ b o, S2 b o → b < w.heap.size := fun b o q => hlt b o (hS0 b o (k2 b o q))
        rcases g6 with ⟨⟨h1, h2⟩, hk⟩ | ⟨rfl, hk⟩
        · have ht : (tail bb (xs.length * szT C e)).le (blk bb) := fun b o q => q.1
          exact ⟨hk.mono (Own.le_trans ht (Own.le_trans h1 hS0)), Own.le_trans (Own.le_trans h1 hS0) (Own.le_or_l _ _), hfree.mono (Own.le_trans h1 hS0), h2, hk.agree (h2.symm.mono ht (Own.le_refl _)) hl2⟩
        · exact ⟨hk.mono (Own.no_le _), fun b o q => .inr (Nat.le_of_eq q.symm), (Free.new hs).mono (fun b o q => Nat.le_of_eq q.symm), fun b o q q' => absurd (hl2 b o q) (by rw [q']; exact Nat.lt_irrefl _), hk.agree (Own.no_disj _) hl2⟩
      obtain ⟨m1, m2, m3, m4, m5⟩ := hkeep
      have hs' : Sat K w' := hs.keep hfree m1
      have hLx : relL K w' xs cx S2 := relL_mono (Kn.le_refl K) m1.met k1 m5 (Own.le_refl _)
      have hLy : relL K w' ys cy Own.no := relL_mono (Kn.le_refl K) m1.met hy1 (Agree.no _ _) (Own.le_refl _)
      have harr : Eff K K S0 w w' (S2.or (blk bb)) ∧ relV K w' (.arr (szT C e) (xs ++ ys)) (.slice (some ⟨bb, 0, none⟩) (xs.length + ys.length) cap) (S2.or (blk bb)) := by
        refine ⟨⟨hs', Kn.grows_refl K _, m1, Own.or_le (Own.le_trans (Own.le_trans k2 hS0) (Own.le_or_l _ _)) m2, (hfree.mono (Own.le_trans k2 hS0)).or m3, ?_⟩, ?_⟩
        · rintro b o (q | q)
          · exact Nat.lt_of_lt_of_le (hlt b o (hS0 b o (k2 b o q))) m1.size
          · rw [q]; exact hbb g1
        · show rel K w' _ _ _
          rw [rel]
          refine .inr ⟨bb, cap, cur, e', cx ++ cy, S2, by rw [List.length_append], g1, g2, by rw [List.length_append]; exact g3, g4, by omega, hall, Own.le_or_r _ _, Own.le_or_l _ _, m4, g5, relL_append hLx hLy (Own.disj_no _) (Own.le_refl _) (Own.no_le _)⟩
      split at hr
      · injection hr with hr; subst hr
        exact ⟨_, _, K, _, hrun, harr.1, harr.2⟩
      · split at hr
        · rename_i hP
          injection hr with hr; subst hr
          have hP' : relL K w' (xs ++ ys) (cx ++ cy) Own.no := relL_append (relL_P hP hLx) hLy (Own.disj_no _) (Own.le_refl _) (Own.no_le _)
          have hg := Kn.addRng_grows (K := K) (cur := cur) m3 (b := bb) (o := 0) (n := (xs.length + ys.length) * szT C e) (fun b o q => q.1)
          refine ⟨_, _, K.addRng bb 0 ((xs.length + ys.length) * szT C e) cur, tail bb ((xs.length + ys.length) * szT C e), hrun, ⟨Kn.addRng_sat hs' g1, hg.mono m2, m1, fun b o q => m2 b o q.1, ?_, fun b o q => by rw [q.1]; exact hbb g1⟩, ?_⟩
          · constructor
            · intro b o q
              simp only [Kn.addRng]
              rw [if_neg (by have := q.2; omega)]
              exact m3.cell b o q.1
            · intro b o q
              exact m3.map b o q.1
          · show rel _ w' _ _ _
            rw [rel]
            refine .inr ⟨bb, cap, cur, e', cx ++ cy, by rw [List.length_append], g1, g2, by rw [List.length_append]; exact g3, g4, by omega, hall, by rw [List.length_append]; exact Own.le_refl _, fun j u hj => ?_, relL_mono hg.le (Meta.refl w') hP' (Agree.no _ _) (Own.le_refl _)⟩
            have hj2 := (List.getElem?_eq_some_iff.1 hj).1
            rw [List.length_append, hcx, hcy, ← Nat.add_mul] at hj2
            have := Kn.addRng_cell (K := K) (b := bb) (o := 0) (n := (xs.length + ys.length) * szT C e) (cur := cur) (j := j) (v := u) (by rw [Nat.zero_add]; exact g5 j u hj) hj2
            rwa [Nat.zero_add] at this
        · injection hr with hr; subst hr
          exact ⟨_, _, K, _, hrun, harr.1, harr.2⟩
  · -- a slice whose block is appended to
    rename_i sx xs
    split at hr
    · cases hr
    rename_i hsx
    have hsx : sx = szT C e := by simpa using hsx
    subst hsx
    split at hr
    · cases hr
    rename_i hbulk
    obtain ⟨hby, hml⟩ := hml _ hbulk
    injection hr with hr
    subst hr
    have hb' : rel K w _ _ _ := hbase
    rw [rel] at hb'
    have hbase' : ∃ cx, relL K w xs cx Own.no ∧ (∀ y ∈ xs, leaves y = szT C e) ∧ ((xs.length = 0 ∧ ∃ a, v = .slice a 0 0) ∨ ∃ b c cur e', ((tail b (xs.length * szT C e)).le S ∧ ∀ (j : Nat) (u : Value), cx[j]? = some u → K.cell b j = some u) ∧ v = .slice (some ⟨b, 0, none⟩) xs.length c ∧ w.heap[b]? = some (Obj.cells cur e' (0, 0)) ∧ cur.size = c * szT C e ∧ xs.length ≤ c ∧ c ≤ maxLen ∧ ∀ (j : Nat) (u : Value), cx[j]? = some u → cur[j]? = some u) := by
      rcases hb' with ⟨rfl, a, hv⟩ | ⟨b, c, cur, e', ys', h1, h2, h3, h4, h5, h6, h7, h8, h9, h10⟩
      · injection hv with hv
        exact ⟨[], by rw [relL], by simp, .inl ⟨rfl, a, hv⟩⟩
      · injection h1 with h1
        exact ⟨ys', h10, h7, .inr ⟨b, c, cur, e', ⟨h8, h9⟩, h1, h2, h3, h4, h5, fun j u hj => by rw [← cell_of_heap h2]; exact hs.cell _ _ _ (h9 j u hj)⟩⟩
    obtain ⟨cx, k1, k3, k4⟩ := hbase'
    have hcx : cx.length = xs.length * szT C e := by rw [relL_len k1, leavesL_const k3]
    obtain ⟨rv, w', hrun, hres⟩ := append_run (fun b => (tail b (xs.length * szT C e)).le S ∧ ∀ (j : Nat) (u : Value), cx[j]? = some u → K.cell b j = some u) (ty := ty) hu hzo rfl hst0 k4 hcx hcy hone hn hby hml
    have hall : ∀ y ∈ xs ++ ys, leaves y = szT C e := fun y hy => (List.mem_append.1 hy).elim (k3 y) (hy2' y)
    rcases hres with ⟨hx0, hy0, hw, a, rfl⟩ | ⟨bb, cap, cur, e', rfl, g1, g2, g3, g4, g5, g6⟩
    · have e1 : xs = [] := List.eq_nil_of_length_eq_zero hx0
      have e2 : ys = [] := List.eq_nil_of_length_eq_zero hy0
      have hw' := hw.symm
      subst e1 e2 hw'
      exact ⟨_, _, K, Own.no, hrun, heff0 _, by show rel K w _ _ _; rw [rel]; exact .inl ⟨rfl, a, rfl⟩⟩
    · have hlen : (cx ++ cy).length = (xs.length + ys.length) * szT C e := by rw [List.length_append, hcx, hcy, ← Nat.add_mul]
      -- what is known afterwards
      have key : ∃ K', K.grows K' (S0.or (new w)) ∧ Keeps S0 w w' ∧ Sat K' w' ∧ (tail bb ((xs.length + ys.length) * szT C e)).le (S0.or (new w)) ∧ Free K' (tail bb ((xs.length + ys.length) * szT C e)) ∧ ∀ (j : Nat) (u : Value), (cx ++ cy)[j]? = some u → K'.cell bb j = some u := by
        have hle : xs.length * szT C e ≤ (xs.length + ys.length) * szT C e := Nat.mul_le_mul_right _ (by omega)
        have hcase : ∃ n0, n0 ≤ xs.length * szT C e ∧ Keeps S0 w w' ∧ (tail bb n0).le (S0.or (new w)) ∧ Free K (tail bb n0) ∧ ∀ (j : Nat) (u : Value), j < n0 → (cx ++ cy)[j]? = some u → K.cell bb j = some u := by
          rcases g6 with ⟨⟨h1, h2⟩, hk⟩ | ⟨rfl, hk⟩
          · refine ⟨xs.length * szT C e, Nat.le_refl _, hk.mono (Own.le_trans h1 hS0), Own.le_trans (Own.le_trans h1 hS0) (Own.le_or_l _ _), hfree.mono (Own.le_trans h1 hS0), fun j u hj hu => ?_⟩
            rw [List.getElem?_append_left (by omega)] at hu
            exact h2 j u hu
          · exact ⟨0, Nat.zero_le _, hk.mono (Own.no_le _), fun b o q => .inr (Nat.le_of_eq q.1.symm), (Free.new hs).mono (fun b o q => Nat.le_of_eq q.1.symm), fun j u hj => absurd hj (Nat.not_lt_zero _)⟩
        obtain ⟨n0, q1, q2, q3, q4, q5⟩ := hcase
        have hs' : Sat K w' := hs.keep hfree q2
        have hrg : (rng bb n0 ((xs.length + ys.length) * szT C e - n0)).le (tail bb n0) := fun b o q => ⟨q.1, q.2.1⟩
        refine ⟨K.addRng bb n0 ((xs.length + ys.length) * szT C e - n0) cur, (Kn.addRng_grows (q4.mono hrg) (Own.le_refl _)).mono (Own.le_trans hrg q3), q2, Kn.addRng_sat hs' g1, Own.le_trans (fun b o q => ⟨q.1, by have := q.2; omega⟩) q3, ?_, ?_⟩
        · constructor
          · intro b o q
            simp only [Kn.addRng]
            rw [if_neg (by have := q.2; omega)]
            exact q4.cell b o ⟨q.1, by have := q.2; omega⟩
          · intro b o q
            exact q4.map b o ⟨q.1, by have := q.2; omega⟩
        · intro j u hj
          have hj2 := (List.getElem?_eq_some_iff.1 hj).1
          rw [hlen] at hj2
          simp only [Kn.addRng]
          by_cases hjn : j < n0
          · rw [if_neg (by omega)]
            exact q5 j u hjn hj
          · rw [if_pos ⟨trivial, by omega, by omega⟩]
            exact g5 j u hj
      obtain ⟨K', p1, p2, p3, p4, p5, p6⟩ := key
      have hL : relL K' w' (xs ++ ys) (cx ++ cy) Own.no := relL_append (relL_mono p1.le p2.met k1 (Agree.no _ _) (Own.le_refl _)) (relL_mono p1.le p2.met hy1 (Agree.no _ _) (Own.le_refl _)) (Own.disj_no _) (Own.le_refl _) (Own.no_le _)
      refine ⟨_, _, K', tail bb ((xs.length + ys.length) * szT C e), hrun, ⟨p3, p1, p2, p4, p5, fun b o q => by rw [q.1]; exact hbb g1⟩, ?_⟩
      show rel _ w' _ _ _
      rw [rel]
      exact .inr ⟨bb, cap, cur, e', cx ++ cy, by rw [List.length_append], g1, g2, by rw [List.length_append]; exact g3, g4, by omega, hall, by rw [List.length_append]; exact Own.le_refl _, p6, hL⟩
  · cases hr

theorem q_append {c : Call} (ho : o.op = .call c) (hb : c.callee = .builtin .append) (h : FR K w f a.tmps O) (hs : Sat K w) (hq : quiet C fid call o f = some (cs, z)) : Does C.P o a w (Post K w f a.tmps O cs z) := by
  unfold quiet at hq
  rw [ho] at hq
  simp only [hb] at hq
  split at hq
  · rename_i x y t u h1 h2
    have e1 := arr_two h1
    have e2 := arr_two h2
    split at hq
    · rename_i e e' he he'
      split at hq
      · cases hq
      rename_i htu
      have htu : t = u := by simpa using htu
      subst htu
      split at hq
      · rename_i bA cs' ya hx hy
        split at hq
        · rename_i sty ys hsl
          split at hq
          · cases hq
          split at hq
          · rename_i r hr
            simp only [Option.some.injEq, Prod.mk.injEq] at hq
            obtain ⟨rfl, rfl⟩ := hq
            obtain ⟨S, a1, a2, _⟩ := moveQ_sound h hx
            obtain ⟨S', _, b1⟩ := lookO_sound h hy
            obtain ⟨rv, w', K', S2, k1, k2, k3⟩ := append_post (ty := o.type) hs (h.freeOf _) (fun b o' ⟨c, _, q⟩ => h.lt c b o' q) a2 a1 b1 hsl (elemT_eq he) hr
            refine Does.value (v := rv) (w' := w') (exec_builtin ho hb fun consts => ?_) (.inl ⟨K', S2, k2, k3⟩)
            rw [builtin]
            simp only [Sem.run_bind, e1, e2]
            rw [show Array.map (ev a.tmps) #[x, y] = #[ev a.tmps x, ev a.tmps y] by simp, k1]
            rfl
          · cases hq
        · cases hq
      · cases hq
    · cases hq
  · cases hq
end
end Go.E

namespace Go.E
open Go.RowKit

section
variable {C : Cfg} {K : Kn} {w : World} {f : Frame} {a : Act} {O : Nat → Own} {fid : Nat} {call : CallF} {o : Oper} {cs : List Nat} {z : Slot}

theorem q_makeMap {t : TypeId} (ho : o.op = .makeMap t none) (h : FR K w f a.tmps O) (hs : Sat K w) (hq : quiet C fid call o f = some (cs, z)) : Does C.P o a w (Post K w f a.tmps O cs z) := by
  unfold quiet at hq
  rw [ho] at hq
  simp only at hq
  split at hq
  · rename_i kt et hu
    simp only [Option.some.injEq, Prod.mk.injEq] at hq
    obtain ⟨rfl, rfl⟩ := hq
    have hk := made_keeps (w := w) Own.no (.map #[] 0)
    refine Does.value (v := .map (some w.heap.size)) (w' := w.alloc (.map #[] 0)) ?_ (.inl ⟨K, blk w.heap.size, ⟨hs.keep (Free.no K) hk, Kn.grows_refl K _, made_keeps _ _, fun b o' x => .inr (Nat.le_of_eq x.symm), (Free.new hs).mono (fun b o' x => Nat.le_of_eq x.symm), fun b o' x => by rw [x, made_size]; omega⟩, ?_⟩)
    · simp [execOp, ho, eval_ev, Instr.makeMap]
    · show rel K _ _ _ _
      rw [rel]
      exact ⟨w.heap.size, #[], 0, rfl, made_new _, Own.le_refl _, by rw [relE]; rfl, by rw [relE]; rfl⟩
  · cases hq

/-- Values in a row of cells. -/
theorem relL_replicate {x : AV} {cs : List Value} (h : rel K w x cs Own.no) : ∀ n, relL K w (List.replicate n x) (List.replicate n cs).flatten Own.no
  | 0 => by simp [relL]
  | n + 1 => by
    rw [List.replicate_succ, List.replicate_succ, List.flatten_cons, relL]
    exact ⟨cs, _, Own.no, Own.no, rfl, Own.le_refl _, Own.le_refl _, Own.no_disj _, h, relL_replicate h n⟩

/-- A row of cells of its own. -/
theorem made_arr (h : FR K w f a.tmps O) (hs : Sat K w) {xs : List AV} {ds : List Value} {S : Own} {e : TypeId} {st : Nat} (hr : relL K w xs ds S) (hS : S.le (ownOf O cs)) (h0 : 0 < st) (hx : ∀ x ∈ xs, leaves x = st) {cur : Array Value} (hc : cur.toList = ds) (hml : xs.length ≤ maxLen) :
    Post K w f a.tmps O cs (.v (.arr st xs)) (.slice (some ⟨w.heap.size, 0, none⟩) xs.length xs.length) (w.alloc (.cells cur e)) := by
  have hk := made_keeps (w := w) Own.no (.cells cur e)
  have hlt : ∀ b o', S b o' → b < w.heap.size := fun b o' x => by obtain ⟨c, _, k⟩ := hS b o' x; exact h.lt c b o' k
  refine .inl ⟨K, S.or (blk w.heap.size), ⟨hs.keep (Free.no K) hk, Kn.grows_refl K _, made_keeps _ _, ?_, ((h.freeOf cs).mono hS).or ?_, ?_⟩, ?_⟩
  · exact Own.or_le (Own.le_trans hS (Own.le_or_l _ _)) (fun b o' x => .inr (Nat.le_of_eq x.symm))
  · exact (Free.new hs).mono (fun b o' x => Nat.le_of_eq x.symm)
  · rintro b o' (x | x)
    · exact Nat.lt_of_lt_of_le (hlt b o' x) hk.size
    · rw [x, made_size]; omega
  · show rel K _ _ _ _
    rw [rel]
    refine .inr ⟨w.heap.size, xs.length, cur, e, ds, S, rfl, made_new _, ?_, Nat.le_refl _, hml, h0, hx, Own.le_or_r _ _, Own.le_or_l _ _, fun b o' x x' => absurd (hlt b o' x) (by rw [x']; exact Nat.lt_irrefl _), fun j v hj => by rw [← Array.getElem?_toList, hc]; exact hj, ?_⟩
    · rw [← Array.length_toList, hc, relL_len hr, leavesL_const hx]
    · exact relL_mono (Kn.le_refl K) hk.met hr (hk.agree (Own.no_disj _) hlt) (Own.le_refl _)

theorem flatten_get {cs : List Value} : ∀ {n j : Nat}, j < n * cs.length → (List.replicate n cs).flatten[j]? = cs[j % cs.length]?
  | 0, j, h => by simp at h
  | n + 1, j, h => by
    rw [List.replicate_succ, List.flatten_cons]
    by_cases hj : j < cs.length
    · rw [List.getElem?_append_left hj, Nat.mod_eq_of_lt hj]
    · rw [List.getElem?_append_right (by omega), flatten_get (by rw [Nat.add_mul] at h; omega), show j % cs.length = (j - cs.length) % cs.length from Nat.mod_eq_sub_mod (by omega)]
theorem madeCells_list {z : Array Value} {n : Nat} : (madeCells z (n * z.size)).toList = (List.replicate n z.toList).flatten := by
  apply List.ext_getElem?
  intro j
  by_cases hj : j < n * z.size
  · have hz : 0 < z.size := by
      rcases Nat.eq_zero_or_pos z.size with e | e
      · rw [e] at hj; simp at hj
      · exact e
    rw [flatten_get (by simpa using hj)]
    have hm : j % z.size < z.size := Nat.mod_lt _ hz
    simp [madeCells, hj, hm]
  · rw [List.getElem?_eq_none (by simp [size_madeCells]; omega), List.getElem?_eq_none (by simp; omega)]

theorem q_makeSlice {t : TypeId} {n c : Operand} (ho : o.op = .makeSlice t n c) (h : FR K w f a.tmps O) (hs : Sat K w) (hq : quiet C fid call o f = some (cs, z)) : Does C.P o a w (Post K w f a.tmps O cs z) := by
  unfold quiet at hq
  rw [ho] at hq
  simp only at hq
  split at hq
  · rename_i m m' e hn hc he
    split at hq
    · rename_i hg
      simp only [Bool.and_eq_true, beq_iff_eq, decide_eq_true_eq, bne_iff_ne, ne_eq] at hg
      obtain ⟨⟨⟨⟨rfl, hm0⟩, hb⟩, hz0⟩, hb0⟩ := hg
      split at hq
      · rename_i zr hz
        by_cases hzl : leaves zr = szT C e
        case neg => simp [hzl] at hq
        simp only [hzl, beq_self_eq_true, if_true, Option.some.injEq, Prod.mk.injEq] at hq
        obtain ⟨rfl, rfl⟩ := hq
        obtain ⟨S, _, hr⟩ := lookO_sound h hn
        obtain ⟨S', _, hr'⟩ := lookO_sound h hc
        obtain ⟨zv, z1, z2, z3, i, hi, hiz⟩ := zeroA_sound (K := K) (w := w) hz
        have hmn : (m.toNat : Int) = m := Int.toNat_of_nonneg hm0
        have hbi : byT C e = i.bytes := by simp [byT, hi]
        have hsi : szT C e = i.size := by simp [szT, hi]
        obtain ⟨cz, y1, y2, y3⟩ := relV_cells z2 (by intro ys e'; subst e'; simp [isTup] at z3)
        have hle1 : m.toNat ≤ m.toNat * byT C e := Nat.le_mul_of_pos_right _ (Nat.pos_of_ne_zero hb0)
        have hrun := run_make (P := C.P) w t e i zv (elemT_eq he) hi hiz .i64 .i64 m m hm0 (Int.le_refl _) (by
          rw [← hmn, ← hbi, Int.mul_comm, ← Int.natCast_mul]; omega) (by omega)
        have hzc : zv.cells.size = i.size := by
          rw [← hsi, ← hzl, ← rel_len y1, ← y3]; simp
        refine Does.value (v := .slice (some ⟨w.heap.size, 0, none⟩) (List.replicate m.toNat zr).length (List.replicate m.toNat zr).length) (w' := w.alloc (.cells (madeCells zv.cells (m.toNat * i.size)) e)) ?_ ?_
        · simp only [execOp, ho, eval_ev, int_of hr, int_of hr', Sem.run_bind, hrun, List.length_replicate]
          rfl
        · refine made_arr h hs (relL_replicate y1 m.toNat) (Own.no_le _) (Nat.pos_of_ne_zero hz0) (fun x hx => by rw [List.eq_of_mem_replicate hx]; exact hzl) ?_ (by simp only [List.length_replicate, maxLen]; omega)
          rw [← hzc, madeCells_list, y3]
      · cases hq
    · cases hq
  · cases hq
end
end Go.E

namespace Go.E
open Go.RowKit

/-- Cells laid over cells. -/
theorem lay_list : ∀ (l : List Value) (k off : Nat) (pre mid post : List Value), mid.length = l.length → pre.length = off + k →
    (l.zipIdx k).foldl (fun (cs : Array Value) (p : Value × Nat) => cs.setIfInBounds (off + p.2) p.1) (pre ++ (mid ++ post)).toArray = (pre ++ (l ++ post)).toArray
  | [], k, off, pre, mid, post, hm, _ => by
    have : mid = [] := List.eq_nil_of_length_eq_zero hm
    subst this
    rfl
  | c :: l, k, off, pre, mid, post, hm, hp => by
    cases mid with
    | nil => simp at hm
    | cons m mid =>
    simp only [List.zipIdx_cons, List.foldl_cons]
    have e : (pre ++ (m :: mid ++ post)).toArray.setIfInBounds (off + k) c = ((pre ++ [c]) ++ (mid ++ post)).toArray := by
      rw [List.setIfInBounds_toArray, ← hp, List.set_append_right _ _ (Nat.le_refl _)]
      simp
    rw [e, lay_list l (k + 1) off (pre ++ [c]) mid post (by simpa using hm) (by simp; omega)]
    simp
theorem lay_cells (v : Value) (off : Nat) (pre mid post : List Value) (hm : mid.length = v.cells.size) (hp : pre.length = off) :
    v.cells.zipIdx.foldl (fun (cs : Array Value) (p : Value × Nat) => cs.setIfInBounds (off + p.2) p.1) (pre ++ (mid ++ post)).toArray = (pre ++ (v.cells.toList ++ post)).toArray := by
  rw [← Array.foldl_toList, Array.toList_zipIdx]
  exact lay_list v.cells.toList 0 off pre mid post (by simpa using hm) (by simpa using hp)

theorem fill_rows {size : Nat} : ∀ (l : List (Nat × Value)) (k : Nat) (pre rest : List Value), l.map (·.1) = List.range' k l.length → (∀ p ∈ l, p.2.cells.size = size) → pre.length = k * size → rest.length = l.length * size →
    Instr.fill (fun i => some (i * size, size)) (pre ++ rest).toArray l = some (pre ++ l.flatMap (·.2.cells.toList)).toArray
  | [], k, pre, rest, _, _, _, hr => by
    have : rest = [] := List.eq_nil_of_length_eq_zero (by simpa using hr)
    subst this
    simp [Instr.fill]
  | (i, v) :: l, k, pre, rest, hi, hs, hp, hr => by
    simp only [List.map_cons, List.length_cons, List.range'_succ, List.cons.injEq] at hi
    obtain ⟨rfl, hi⟩ := hi
    have hv := hs (i, v) (List.mem_cons_self ..)
    simp only at hv
    simp only [List.length_cons, Nat.add_mul, Nat.one_mul] at hr
    have hsplit : rest = rest.take size ++ rest.drop size := (List.take_append_drop _ _).symm
    have hlen : (rest.take size).length = v.cells.size := by rw [List.length_take, hv]; omega
    simp only [Instr.fill]
    have hsz : (pre ++ rest).toArray.size = i * size + rest.length := by simp [hp]
    rw [if_neg (by rw [hsz, hv]; simp; omega)]
    rw [hsplit]
    have := lay_cells v (i * size) pre (rest.take size) (rest.drop size) hlen hp
    rw [this]
    have ih := fill_rows l (i + 1) (pre ++ v.cells.toList) (rest.drop size) hi (fun p hp => hs p (List.mem_cons_of_mem _ hp)) (by simp [hp, hv, Nat.add_mul]) (by rw [List.length_drop]; omega)
    rw [show pre ++ (v.cells.toList ++ rest.drop size) = (pre ++ v.cells.toList) ++ rest.drop size by simp, ih]
    simp

section
variable {C : Cfg} {K : Kn} {w : World} {f : Frame} {a : Act} {O : Nat → Own} {fid : Nat} {call : CallF} {o : Oper} {cs : List Nat} {z : Slot}

/-- Values one after another are a row of cells. -/
theorem relA_cells : ∀ {xs : List AV} {vs : List Value} {S : Own}, relA K w xs vs S → (∀ x ∈ xs, isTup x = false) → relL K w xs (vs.flatMap (·.cells.toList)) S
  | [], vs, S, h, _ => by
    have : vs = [] := h
    subst this
    rw [relL]
    rfl
  | x :: xs, vs, S, h, ht => by
    obtain ⟨v, vs', S1, S2, rfl, h1, h2, h3, h4, h5⟩ := h
    obtain ⟨c, k1, k2, k3⟩ := relV_cells h4 (by intro ys e; subst e; have := ht _ (List.mem_cons_self ..); simp [isTup] at this)
    rw [List.flatMap_cons, k3, relL]
    exact ⟨c, _, S1, S2, rfl, h1, h2, h3, k1, relA_cells h5 fun y hy => ht y (List.mem_cons_of_mem _ hy)⟩
theorem relA_sizes {st : Nat} : ∀ {xs : List AV} {vs : List Value} {S : Own}, relA K w xs vs S → (∀ x ∈ xs, isTup x = false ∧ leaves x = st) → ∀ v ∈ vs, v.cells.size = st
  | [], vs, S, h, _ => by
    have : vs = [] := h
    subst this
    simp
  | x :: xs, vs, S, h, ht => by
    obtain ⟨v, vs', S1, S2, rfl, h1, h2, h3, h4, h5⟩ := h
    obtain ⟨hx1, hx2⟩ := ht x (List.mem_cons_self ..)
    obtain ⟨c, k1, k2, k3⟩ := relV_cells h4 (by intro ys e; subst e; simp [isTup] at hx1)
    intro u hu
    rcases List.mem_cons.1 hu with rfl | hu
    · rw [← Array.length_toList, k3, rel_len k1, hx2]
    · exact relA_sizes h5 (fun y hy => ht y (List.mem_cons_of_mem _ hy)) u hu
theorem relA_length : ∀ {xs : List AV} {vs : List Value} {S : Own}, relA K w xs vs S → vs.length = xs.length
  | [], vs, S, h => by have : vs = [] := h; subst this; rfl
  | x :: xs, vs, S, h => by obtain ⟨v, vs', S1, S2, rfl, h1, h2, h3, h4, h5⟩ := h; simp [relA_length h5]

/-- A row of cells of its own, of persistent values. -/
theorem made_arr' {K' : Kn} (hg : K.grows K' (ownOf O cs)) (hs : Sat K' w) {xs : List AV} {ds : List Value} {e : TypeId} {st : Nat} (hr : relL K' w xs ds Own.no) (h0 : 0 < st) (hx : ∀ x ∈ xs, leaves x = st) {cur : Array Value} (hc : cur.toList = ds) (hml : xs.length ≤ maxLen) :
    Post K w f a.tmps O cs (.v (.arr st xs)) (.slice (some ⟨w.heap.size, 0, none⟩) xs.length xs.length) (w.alloc (.cells cur e)) ∧
    Post K w f a.tmps O cs (.v (.osl st xs)) (.slice (some ⟨w.heap.size, 0, none⟩) xs.length xs.length) (w.alloc (.cells cur e)) := by
  have hk := made_keeps (w := w) Own.no (.cells cur e)
  have hsz : cur.size = xs.length * st := by rw [← Array.length_toList, hc, relL_len hr, leavesL_const hx]
  have hnew : Free K' (blk w.heap.size) := (Free.new hs).mono (fun b o' x => Nat.le_of_eq x.symm)
  have hr' : relL K' (w.alloc (.cells cur e)) xs ds Own.no := relL_mono (Kn.le_refl K') hk.met hr (Agree.no _ _) (Own.le_refl _)
  have hcur : ∀ (j : Nat) (v : Value), ds[j]? = some v → cur[j]? = some v := fun j v hj => by rw [← Array.getElem?_toList, hc]; exact hj
  refine ⟨.inl ⟨K', blk w.heap.size, ⟨hs.keep (Free.no _) hk, hg.mono (Own.le_or_l _ _), made_keeps _ _, fun b o' x => .inr (Nat.le_of_eq x.symm), hnew, fun b o' x => by rw [x, made_size]; omega⟩, ?_⟩, ?_⟩
  · show rel K' _ _ _ _
    rw [rel]
    exact .inr ⟨w.heap.size, xs.length, cur, e, ds, Own.no, rfl, made_new _, hsz, Nat.le_refl _, hml, h0, hx, Own.le_refl _, Own.no_le _, Own.no_disj _, hcur, hr'⟩
  · have hg2 := Kn.addRng_grows (K := K') (cur := cur) hnew (b := w.heap.size) (o := 0) (n := xs.length * st) (fun b o' q => q.1)
    refine .inl ⟨K'.addRng w.heap.size 0 (xs.length * st) cur, tail w.heap.size (xs.length * st), ⟨Kn.addRng_sat (hs.keep (Free.no _) hk) (made_new _), (hg.mono (Own.le_or_l _ _)).trans (hg2.mono fun b o' x => .inr (Nat.le_of_eq x.symm)), made_keeps _ _, fun b o' x => .inr (Nat.le_of_eq x.1.symm), ?_, fun b o' x => by rw [x.1, made_size]; omega⟩, ?_⟩
    · constructor
      · intro b o' q
        simp only [Kn.addRng]
        rw [if_neg (by have := q.2; omega)]
        exact hnew.cell b o' q.1
      · intro b o' q
        exact hnew.map b o' q.1
    · show rel _ _ _ _ _
      rw [rel]
      refine .inr ⟨w.heap.size, xs.length, cur, e, ds, rfl, made_new _, hsz, Nat.le_refl _, hml, h0, hx, Own.le_refl _, fun j v hj => ?_, relL_mono hg2.le (Meta.refl _) hr' (Agree.no _ _) (Own.le_refl _)⟩
      have hj2 := (List.getElem?_eq_some_iff.1 hj).1
      rw [relL_len hr, leavesL_const hx] at hj2
      have := Kn.addRng_cell (K := K') (b := w.heap.size) (o := 0) (n := xs.length * st) (cur := cur) (j := j) (v := v) (by rw [Nat.zero_add]; exact hcur j v hj) hj2
      rwa [Nat.zero_add] at this

theorem q_buildSlice {t : TypeId} {n : Nat} {ps : Array (Nat × Operand)} (ho : o.op = .buildSlice t n ps) (h : FR K w f a.tmps O) (hs : Sat K w) (hq : quiet C fid call o f = some (cs, z)) : Does C.P o a w (Post K w f a.tmps O cs z) := by
  unfold quiet at hq
  rw [ho] at hq
  simp only at hq
  split at hq
  · cases hq
  · rename_i e he
    split at hq
    · rename_i hi
      have hi : ps.toList.map (·.1) = List.range n := by simpa using hi
      split at hq
      · rename_i ys cs' hv
        split at hq
        · cases hq
        · rename_i hc1
          simp only [Bool.or_eq_true, beq_iff_eq, Bool.not_eq_true', not_or, Bool.not_eq_false, decide_eq_true_eq] at hc1
          obtain ⟨⟨hbig, hz0⟩, hzo⟩ := hc1
          split at hq
          · rename_i hall
            simp only [List.all_eq_true, Bool.and_eq_true, beq_iff_eq, Bool.not_eq_true'] at hall
            obtain ⟨K', g1, g2, g3⟩ := byValsQ_sound h hs hv
            simp only [List.map_map] at g3
            have hvs : List.map ((fun x => ev a.tmps x.2) ∘ fun x : Nat × Operand => (e, x.2)) ps.toList = (ps.toList.map fun p => (p.1, ev a.tmps p.2)).map (·.2) := by simp
            rw [hvs] at g3
            have hn : ys.length = n := by
              have h1 := relA_length g3
              have h2 := congrArg List.length hi
              simp only [List.length_map, List.length_range] at h1 h2
              omega
            have hsizes := relA_sizes g3 (fun y hy => ⟨(hall y hy).2, (hall y hy).1⟩)
            have hL := relA_cells g3 (fun y hy => (hall y hy).2)
            obtain ⟨i, zv, hi1, hi2, hi3, hi4⟩ := zeroOk_eq hzo
            have hlen : ps.toList.length = n := by have h2 := congrArg List.length hi; simpa using h2
            have hrest : ∀ X : Array Value, X.size = n * szT C e → Instr.fill (fun i => some (i * szT C e, szT C e)) X (ps.toList.map fun p => (p.1, ev a.tmps p.2)) = some ((ps.toList.map fun p => (p.1, ev a.tmps p.2)).map (·.2) |>.flatMap (·.cells.toList)).toArray := by
              intro X hX
              have := fill_rows (size := szT C e) (ps.toList.map fun p => (p.1, ev a.tmps p.2)) 0 [] X.toList (by rw [List.length_map, hlen, ← List.range_eq_range', ← hi]; simp) (fun p hp => hsizes p.2 (List.mem_map_of_mem hp)) (by simp) (by simp [hlen, hX])
              simpa [List.flatMap_map] using this
            have hrun : ∃ cur : Array Value, cur.toList = ((ps.toList.map fun p => (p.1, ev a.tmps p.2)).map (·.2)).flatMap (·.cells.toList) ∧ (execOp a.eval o).run C.P w = .ok (.value (.slice (some ⟨w.heap.size, 0, none⟩) n n)) (w.alloc (.cells cur e)) := by
              refine ⟨_, rfl, ?_⟩
              have hzv : (zeroValue e).run C.P w = .ok zv w := by simp [zeroValue, typeInfo, hi1, hi2]
              have hfill : ∀ zs : Array Value, Instr.fill (fun i => some (i * szT C e, szT C e)) ((Array.range (n * szT C e)).map (fun x => zs[x % zs.size]!)) (ps.map fun (i, x) => (i, ev a.tmps x)).toList = some ((ps.toList.map fun p => (p.1, ev a.tmps p.2)).map (·.2) |>.flatMap (·.cells.toList)).toArray := by
                intro zs
                rw [Array.toList_map]
                exact hrest _ (by simp)
              have hb2 : ¬ (16777216 < n * szT C e) := by omega
              simp only [execOp, ho, eval_ev, Instr.buildSlice, Sem.run_bind, run_underlying (elemT_eq he), Result.andThen_ok, run_sizeOf (szT_some hz0)]
              rw [if_neg (by simpa using hb2)]
              by_cases hz' : n * szT C e = 0
              · have hn0 : n = 0 := by
                  rcases Nat.eq_zero_or_pos n with g | g
                  · exact g
                  · exact absurd hz' (Nat.mul_ne_zero (by omega) hz0)
                have hps : ps = #[] := by
                  rw [← Array.toList_inj]
                  exact List.eq_nil_of_length_eq_zero (by rw [hlen, hn0])
                subst hps
                subst hn0
                simp [Instr.fill, newRow, Array.range_zero']
              · simp only [hz', if_false, Sem.run_pure, Sem.run_bind, Result.andThen_ok, hzv]
                rw [hfill zv.cells]
                simp only [newRow, Sem.run_bind, run_newObj, Result.andThen_ok, Sem.run_pure]
                rfl
            obtain ⟨cur, hcur, hrun⟩ := hrun
            have hml : ys.length ≤ maxLen := by
              have : n ≤ n * szT C e := Nat.le_mul_of_pos_right _ (Nat.pos_of_ne_zero hz0)
              simp only [maxLen]
              omega
            have hmade := made_arr' (f := f) (a := a) (O := O) (cs := cs') (e := e) g1 g2 hL (Nat.pos_of_ne_zero hz0) (fun y hy => (hall y hy).1) hcur hml
            rw [hn] at hmade
            split at hq <;> simp only [Option.some.injEq, Prod.mk.injEq] at hq <;> obtain ⟨rfl, rfl⟩ := hq
            · exact Does.value hrun hmade.1
            · exact Does.value hrun hmade.2
          · cases hq
      · cases hq
    · cases hq
end
end Go.E

namespace Go.E
open Go.RowKit

section
variable {C : Cfg} {K : Kn} {w : World} {f : Frame} {a : Act} {O : Nat → Own} {fid : Nat} {call : CallF} {o : Oper} {cs : List Nat} {z : Slot}

theorem take_set_leaves {y zi : AV} : ∀ {zs : List AV} {i : Nat} (j : Nat), zs[i]? = some zi → leaves y = leaves zi → leavesL ((zs.set i y).take j) = leavesL (zs.take j)
  | [], _, _, h, _ => by simp at h
  | x :: zs, 0, j, h, hl => by
    simp only [List.getElem?_cons_zero, Option.some.injEq] at h
    subst h
    cases j with
    | zero => rfl
    | succ j => simp [leavesL, hl]
  | x :: zs, i + 1, j, h, hl => by
    simp only [List.getElem?_cons_succ] at h
    cases j with
    | zero => rfl
    | succ j => simp [leavesL, take_set_leaves (zs := zs) j h hl]

/-- A struct's parts laid into its zero value. -/
theorem fill_parts {place : Nat → Option (Nat × Nat)} : ∀ (l : List (Nat × Value)) (ys zs zs' : List AV) (cz : List Value) (S1 S2 : Own), relL K w zs cz S1 → relA K w ys (l.map (·.2)) S2 → (∀ y ∈ ys, isTup y = false) → S1.disj S2 →
    setAll zs ((l.map (·.1)).zip ys) = some zs' → (∀ (i : Nat) (zi : AV), zs[i]? = some zi → place i = some (leavesL (zs.take i), leaves zi)) →
    ∃ cz', Instr.fill place cz.toArray l = some cz'.toArray ∧ relL K w zs' cz' (S1.or S2)
  | [], ys, zs, zs', cz, S1, S2, hz, hy, ht, hd, hs, hp => by
    simp only [List.map_nil, List.zip_nil_left, setAll, Option.some.injEq] at hs
    subst hs
    exact ⟨cz, rfl, relL_le hz (Own.le_or_l _ _)⟩
  | (i, v) :: l, ys, zs, zs', cz, S1, S2, hz, hy, ht, hd, hs, hp => by
    cases ys with
    | nil => have : List.map (fun x : Nat × Value => x.2) ((i, v) :: l) = [] := hy; cases this
    | cons y ys =>
    obtain ⟨v0, vs', T1, T2, hv, t1, t2, t3, t4, t5⟩ := hy
    simp only [List.map_cons, List.cons.injEq] at hv
    obtain ⟨rfl, rfl⟩ := hv
    simp only [List.map_cons, List.zip_cons_cons, setAll] at hs
    split at hs
    · rename_i zi hzi
      split at hs
      · rename_i hle
        have hle : leaves zi = leaves y := by simpa using hle
        obtain ⟨c1, c2, c3, Sz, Sr, rfl, g1, g2, g3, g4, g5, _, g7⟩ := relL_lens hz hzi
        obtain ⟨c2', k1, k2, k3⟩ := relV_cells t4 (by intro q e; subst e; have := ht _ (List.mem_cons_self ..); simp [isTup] at this)
        have hl1 := rel_len g2
        have hl2 := rel_len k1
        have hvs : v.cells.size = c2'.length := by rw [← Array.length_toList, k3]
        have hnew := g7 (Kn.le_refl K) (Meta.refl w) (Agree.refl _ _) k1 ((hd.symm.mono t1 g4))
        have hpl := hp i zi hzi
        have hfill : Instr.fill place (c1 ++ (c2 ++ c3)).toArray ((i, v) :: l) = Instr.fill place (c1 ++ (c2' ++ c3)).toArray l := by
          simp only [Instr.fill, hpl]
          rw [if_neg (by simp [hvs]; omega)]
          rw [← g1, lay_cells v c1.length c1 c2 c3 (by omega) rfl, k3]
        rw [hfill]
        obtain ⟨cz', m1, m2⟩ := fill_parts (place := place) l ys (zs.set i y) zs' _ (T1.or Sr) T2 hnew t5 (fun q hq => ht q (List.mem_cons_of_mem _ hq)) (Own.disj_or t3 (hd.mono g4 t2)) hs (by
          intro j zj hj
          rw [take_set_leaves j hzi hle.symm]
          by_cases hij : j = i
          · subst hij
            rw [List.getElem?_set_self (List.getElem?_eq_some_iff.1 hzi).1] at hj
            injection hj with hj
            subst hj
            rw [hpl, hle]
          · rw [List.getElem?_set_ne (Ne.symm hij)] at hj
            exact hp j zj hj)
        exact ⟨cz', m1, relL_le m2 (Own.or_le (Own.or_le (Own.le_trans t1 (Own.le_or_r _ _)) (Own.le_trans g4 (Own.le_or_l _ _))) (Own.le_trans t2 (Own.le_or_r _ _)))⟩
      · cases hs
    · cases hs

theorem offsOk_place : ∀ {n : Nat} {gs : List Field} {zs : List AV}, offsOk C n gs zs = true → gs.length = zs.length ∧ (∀ g ∈ gs, (C.P.info? g.type).isSome = true) ∧ ∀ (i : Nat) (zi : AV), zs[i]? = some zi → (gs.map fun g => (g.offset, szT C g.type))[i]? = some (n + leavesL (zs.take i), leaves zi)
  | n, [], [], h => ⟨rfl, by simp, by simp⟩
  | n, [], _ :: _, h => by simp [offsOk] at h
  | n, _ :: _, [], h => by simp [offsOk] at h
  | n, g :: gs, z :: zs, h => by
    simp only [offsOk, Bool.and_eq_true, beq_iff_eq] at h
    obtain ⟨⟨⟨h1, h2⟩, h3⟩, h4⟩ := h
    obtain ⟨k1, k2, k3⟩ := offsOk_place h4
    refine ⟨by simp [k1], ?_, ?_⟩
    · intro g' hg'
      rcases List.mem_cons.1 hg' with rfl | hg'
      · exact h3
      · exact k2 g' hg'
    · intro i zi hi
      cases i with
      | zero =>
        simp only [List.getElem?_cons_zero, Option.some.injEq] at hi
        subst hi
        simp [h1, h2, leavesL]
      | succ i =>
        simp only [List.getElem?_cons_succ] at hi
        have := k3 i zi hi
        simp only [List.map_cons, List.getElem?_cons_succ, List.take_succ_cons, leavesL]
        rw [this]
        simp
        omega
theorem run_places : ∀ {gs : List Field}, (∀ g ∈ gs, (C.P.info? g.type).isSome = true) → (gs.mapM fun g => (do pure (g.offset, ← sizeOf g.type) : Sem (Nat × Nat))).run C.P w = .ok (gs.map fun g => (g.offset, szT C g.type)) w
  | [], _ => by simp
  | g :: gs, h => by
    have ih := run_places fun g' hg' => h g' (List.mem_cons_of_mem _ hg')
    simp only [List.mapM_cons, Sem.run_bind, run_sizeOf (h g (List.mem_cons_self ..)), Result.andThen_ok, Sem.run_pure, ih, List.map_cons]

theorem q_build {t : TypeId} {ps : Array (Nat × Operand)} (ho : o.op = .build t ps) (h : FR K w f a.tmps O) (hs : Sat K w) (hq : quiet C fid call o f = some (cs, z)) : Does C.P o a w (Post K w f a.tmps O cs z) := by
  unfold quiet at hq
  rw [ho] at hq
  simp only at hq
  split at hq
  · rename_i fs hu
    split at hq
    · rename_i zs hz
      split at hq
      · rename_i ys cs' hm
        split at hq
        · rename_i hc
          simp only [Bool.and_eq_true, List.all_eq_true, Bool.not_eq_true'] at hc
          obtain ⟨hoff, hnt⟩ := hc
          split at hq
          · rename_i zs' hset
            simp only [Option.some.injEq, Prod.mk.injEq] at hq
            obtain ⟨rfl, rfl⟩ := hq
            obtain ⟨S, a1, a2⟩ := movesQ_sound h hm
            obtain ⟨zv, z1, ⟨cz, rfl, z2⟩, _⟩ := zeroA_sound (K := K) (w := w) hz
            obtain ⟨p1, p2, p3⟩ := offsOk_place hoff
            have hvs : List.map (fun x => ev a.tmps x.2) (List.map (fun x : Nat × Operand => ((Option.map (fun x => x.type) fs[x.1]?).getD 0, x.2)) ps.toList) = (ps.toList.map fun p => (p.1, ev a.tmps p.2)).map (·.2) := by simp
            have a1' : relA K w ys ((ps.toList.map fun p => (p.1, ev a.tmps p.2)).map (·.2)) S := by rw [← hvs]; exact a1
            obtain ⟨cz', m1, m2⟩ := fill_parts (place := fun i => (fs.toList.map fun g => (g.offset, szT C g.type))[i]?) (ps.toList.map fun p => (p.1, ev a.tmps p.2)) ys zs zs' cz Own.no S z2 a1' hnt (Own.no_disj _)
              (by rw [← hset]; simp [Function.comp_def]) (fun i zi hi => by have := p3 i zi hi; rw [Nat.zero_add] at this; exact this)
            refine Does.value (v := .agg cz'.toArray) (w' := w) ?_ (.keep hs (S := Own.no.or S) ⟨cz', rfl, m2⟩ (Own.or_le (Own.no_le _) a2) h)
            have hpl : (fs.mapM fun g => (do pure (g.offset, ← sizeOf g.type) : Sem (Nat × Nat))).run C.P w = .ok (fs.toList.map fun g => (g.offset, szT C g.type)).toArray w := by
              rw [Array.mapM_eq_mapM_toList, Sem.run_map, run_places p2]
              rfl
            simp only [execOp, ho, eval_ev, Instr.build, Sem.run_bind, z1, Result.andThen_ok, run_underlying hu, hpl]
            have hf2 : Instr.fill (fun x => (List.map (fun g => (g.offset, szT C g.type)) fs.toList).toArray[x]?) (Value.agg cz.toArray).cells (ps.map fun (i, x) => (i, ev a.tmps x)).toList = some cz'.toArray := by
              rw [Array.toList_map]
              simpa [Value.cells] using m1
            rw [hf2]
            rfl
          · cases hq
        · cases hq
      · cases hq
    · cases hq
  · cases hq
end
end Go.E

namespace Go.E
open Go.RowKit

section
variable {C : Cfg} {K : Kn} {w : World} {f : Frame} {a : Act} {O : Nat → Own} {fid : Nat} {call : CallF} {o : Oper} {cs : List Nat} {z : Slot}

theorem optInt_run (h : FR K w f a.tmps O) {d : Int} {x : Option Operand} {n : Int} (hx : optInt C f d x = some n) : (x = none ∧ n = d) ∨ ∃ y k, x = some y ∧ ev a.tmps y = .int k n := by
  unfold optInt at hx
  split at hx
  · injection hx with hx; exact .inl ⟨rfl, hx.symm⟩
  · rename_i y
    split at hx
    · rename_i k m hy
      injection hx with hx
      subst hx
      obtain ⟨S, _, hr⟩ := lookO_sound h hy
      exact .inr ⟨y, k, rfl, int_of hr⟩
    · cases hx
theorem bound_run {k : IntKind} {i : Int} {y : Nat} {code : BoundsCode} (h0 : 0 ≤ i) (h1 : i ≤ y) : (Instr.sliceBound (.int k i) y code).run C.P w = .ok i.toNat w := by
  simp [Instr.sliceBound, asIntOf, h0, h1]
theorem bounds_run (h : FR K w f a.tmps O) {isS : Bool} {len cap : Nat} {lo hi : Option Operand} {l u : Int} (hl : optInt C f 0 lo = some l) (hu : optInt C f len hi = some u) (h0 : 0 ≤ l) (h1 : l ≤ u) (h2 : u ≤ cap) :
    (Instr.sliceBounds isS len cap (lo.map (ev a.tmps)) (hi.map (ev a.tmps)) none).run C.P w = .ok (l.toNat, u.toNat, cap) w := by
  have hb : u ≤ (u.toNat : Int) := by omega
  rcases optInt_run h hl with ⟨rfl, rfl⟩ | ⟨x, k, rfl, hx⟩ <;> rcases optInt_run h hu with ⟨rfl, rfl⟩ | ⟨y, k', rfl, hy⟩
  · simp [Instr.sliceBounds]
  · simp [Instr.sliceBounds, hy, bound_run (Int.le_trans h0 h1) h2]
  · simp [Instr.sliceBounds, hx, bound_run h0 h1]
  · simp [Instr.sliceBounds, hx, hy, bound_run (Int.le_trans h0 h1) h2, bound_run h0 (show l ≤ (u.toNat : Int) by omega)]

theorem relL_split : ∀ {xs ys : List AV} {cs : List Value} {S : Own}, relL K w (xs ++ ys) cs S → ∃ c1 c2, cs = c1 ++ c2 ∧ relL K w xs c1 S ∧ relL K w ys c2 S
  | [], ys, cs, S, h => ⟨[], cs, rfl, by rw [relL], h⟩
  | x :: xs, ys, cs, S, h => by
    rw [List.cons_append, relL] at h
    obtain ⟨c1, c2, S1, S2, rfl, h1, h2, h3, h4, h5⟩ := h
    obtain ⟨d1, d2, rfl, k1, k2⟩ := relL_split h5
    exact ⟨c1 ++ d1, d2, by simp, by rw [relL]; exact ⟨c1, d1, S1, S2, rfl, h1, h2, h3, h4, k1⟩, relL_le k2 h2⟩

theorem q_slice {t : TypeId} {x : Operand} {lo hi mx : Option Operand} (ho : o.op = .slice t x lo hi mx) (h : FR K w f a.tmps O) (hs : Sat K w) (hq : quiet C fid call o f = some (cs, z)) : Does C.P o a w (Post K w f a.tmps O cs z) := by
  unfold quiet at hq
  rw [ho] at hq
  simp only at hq
  split at hq
  · rename_i hu
    split at hq
    · rename_i s hx
      split at hq
      · rename_i l u hl hh
        split at hq
        · rename_i hc
          simp only [Option.some.injEq, Prod.mk.injEq] at hq
          obtain ⟨rfl, rfl⟩ := hq
          obtain ⟨S, _, hr⟩ := lookO_sound h hx
          refine Does.value (v := .string (s.extract l.toNat u.toNat)) (w' := w) ?_ (.flat hs of_str _)
          simp [execOp, ho, eval_ev, str_of hr, Instr.sliceAt, Instr.slice, run_underlying hu, bounds_run (C := C) (w := w) h hl hh hc.1 hc.2.1 hc.2.2]
        · cases hq
      · cases hq
    · cases hq
  · rename_i e hu
    split at hq
    · cases hq
    · split at hq
      · rename_i st xs cs' hx
        split at hq
        · rename_i l u hl hh
          split at hq
          · rename_i hc
            simp only [Bool.and_eq_true, decide_eq_true_eq] at hc
            obtain ⟨hc1, h0, h1, h2⟩ := hc
            obtain ⟨e', he, hse, hst0⟩ := strideT_eq (C := C) (t := t) (st := st) (by simpa using hc1)
            rw [hu] at he
            injection he with he
            injection he with he
            subst he
            simp only [Option.some.injEq, Prod.mk.injEq] at hq
            obtain ⟨rfl, rfl⟩ := hq
            obtain ⟨K', g1, g2, g3⟩ := byValQ_sound h hs hx
            have g3' : rel K' w _ _ _ := g3
            rw [rel] at g3'
            obtain ⟨ad, c, k1, k2, k3, k4⟩ := g3'
            injection k1 with k1
            refine Does.value (v := .slice (if c = l.toNat then ad else ad.map (·.add (l.toNat * szT C e))) (u.toNat - l.toNat) (c - l.toNat)) (w' := w) ?_ (.frozen g1 g2 ?_)
            · have hB := bounds_run (C := C) (w := w) (isS := true) (cap := c) h hl hh h0 h1 (by omega)
              have hZ := run_sizeOf (C := C) (w := w) (t := e) (szT_some (by rw [hse]; exact hst0))
              simp [execOp, ho, eval_ev, k1, Instr.sliceAt, Instr.slice, run_underlying hu, hB, hZ]
            · show rel K' w _ _ _
              have hlen : ((xs.take u.toNat).drop l.toNat).length = u.toNat - l.toNat := by simp; omega
              rw [rel]
              refine ⟨_, c - l.toNat, by rw [hlen], by rw [hlen]; omega, fun q hq => k3 q (List.mem_of_mem_take (List.mem_of_mem_drop hq)), ?_⟩
              rcases k4 with rfl | ⟨b, o', ys, rfl, k5, k6⟩
              · left; simp
              · by_cases hcl : c = l.toNat
                · left
                  have : xs.length ≤ l.toNat := by omega
                  simp
                  omega
                · right
                  rw [if_neg hcl]
                  have e1 : xs = xs.take l.toNat ++ ((xs.drop l.toNat).take (u.toNat - l.toNat) ++ (xs.drop l.toNat).drop (u.toNat - l.toNat)) := by
                    rw [List.take_append_drop, List.take_append_drop]
                  rw [e1] at k6
                  obtain ⟨c1, c2, rfl, m1, m2⟩ := relL_split k6
                  obtain ⟨d1, d2, rfl, m3, m4⟩ := relL_split m2
                  have hlen1 : c1.length = l.toNat * st := by
                    rw [relL_len m1, leavesL_const (fun q hq => k3 q (List.mem_of_mem_take hq)), List.length_take, Nat.min_eq_left (by omega)]
                  refine ⟨b, o' + l.toNat * st, d1, by simp [Addr.add_lit, hse], fun j v hj => ?_, by rw [List.drop_take]; exact m3⟩
                  rw [Nat.add_assoc]
                  refine k5 _ _ ?_
                  rw [← hlen1, List.getElem?_append_right (by omega), Nat.add_sub_cancel_left, List.getElem?_append_left (List.getElem?_eq_some_iff.1 hj).1]
                  exact hj
          · cases hq
        · cases hq
      · cases hq
  · cases hq
end
end Go.E

namespace Go.E
open Go.RowKit

/-- What a call leaves. -/
structure Left (K : Kn) (w : World) (vs : Array Value) (O : Nat → Own) (r : AV) (outs : List Slot) (v : Value) (w' : World) (K' : Kn) (S : Own) (O' : Nat → Own) : Prop where
  sat : Sat K' w'
  grows : K.grows K' ((tot O).or (new w))
  keeps : Keeps (tot O) w w'
  val : relV K' w' r v S
  own : S.le ((tot O).or (new w))
  free : Free K' S
  lt : ∀ b o, S b o → b < w'.heap.size
  outs : FR K' w' outs vs O'
  outsOwn : (tot O').le ((tot O).or (new w))
  disj : ∀ t, S.disj (O' t)

/-- The machine's calls are the program's. -/
structure CallOK (C : Cfg) (call : CallF) : Prop where
  calls : ∀ {g : FuncId} {ags : List Slot} {r : AV} {outs : List Slot}, call g ags = some (r, outs) → ∀ {K : Kn} {w : World} {vs : Array Value} {O : Nat → Own}, FR K w ags vs O → Sat K w →
    Calls C.P g vs w fun e w' => ∃ v, e = .returned v ∧ ∃ K' S O', Left K w vs O r outs v w' K' S O'
  body : ∀ {g : FuncId} {ags : List Slot} {r : AV} {outs : List Slot}, call g ags = some (r, outs) → ∃ fn, C.P.funcs[g]? = some fn ∧ fn.body.isNone = false ∧ (fn.name == "runtime.NumGoroutine") = false

section
variable {C : Cfg} {K : Kn} {w : World} {f : Frame} {a : Act} {O : Nat → Own} {fid : Nat} {call : CallF} {o : Oper} {cs : List Nat} {z : Slot}

theorem run_callFunc {g : FuncId} {fn : Func} {args : Array Value} (h1 : C.P.funcs[g]? = some fn) (h2 : fn.body.isNone = false) (h3 : (fn.name == "runtime.NumGoroutine") = false) : (callFunc g args).run C.P w = .ok (.enter g args) w := by
  simp only [callFunc, Sem.run_bind, run_program, Result.andThen_ok, h1, h2, h3, Bool.false_eq_true, if_false, Sem.run_pure]

theorem exec_call {c : Call} {g : FuncId} {x : Operand} {caps : Array Value} {fn : Func} (ho : o.op = .call c) (hc : c.callee = .value x) (hx : ev a.tmps x = .func (.func g) #[] caps) (h1 : C.P.funcs[g]? = some fn) (h2 : fn.body.isNone = false) (h3 : (fn.name == "runtime.NumGoroutine") = false) :
    (execOp a.eval o).run C.P w = .ok (.enter g (c.args.map (ev a.tmps) ++ caps)) w := by
  simp only [execOp, ho, eval_ev, resolve, hc, hx, Deferred.ofValue, Sem.run_bind, Sem.run_pure, Result.andThen_ok, invoke, Array.empty_append]
  exact run_callFunc h1 h2 h3

/-- Persistent values as a frame. -/
theorem relA_frame : ∀ {xs : List AV} {vs : List Value}, relA K w xs vs Own.no → FR K w (xs.map .v) vs.toArray (fun _ => Own.no) := by
  intro xs vs h
  have hg : ∀ {xs : List AV} {vs : List Value}, relA K w xs vs Own.no → vs.length = xs.length ∧ ∀ (t : Nat) (x : AV), xs[t]? = some x → ∃ v, vs[t]? = some v ∧ relV K w x v Own.no := by
    intro xs
    induction xs with
    | nil => intro vs h; have : vs = [] := h; subst this; exact ⟨rfl, by simp⟩
    | cons x xs ih =>
      rintro vs ⟨v, vs', S1, S2, rfl, h1, h2, h3, h4, h5⟩
      obtain ⟨k1, k2⟩ := ih (relA_mono (Kn.le_refl K) (Meta.refl w) h5 (Agree.refl _ _) h2)
      refine ⟨by simp [k1], fun t y ht => ?_⟩
      cases t with
      | zero =>
        simp only [List.getElem?_cons_zero, Option.some.injEq] at ht
        subst ht
        exact ⟨v, rfl, relV_le h4 h1⟩
      | succ t => simpa using k2 t y (by simpa using ht)
  obtain ⟨h1, h2⟩ := hg h
  refine ⟨by simp [h1], fun t => ?_, fun _ _ _ => Own.no_disj _, fun _ => Free.no K, fun _ _ _ h => h.elim⟩
  unfold SlotR
  by_cases ht : t < xs.length
  · have hx : xs[t]? = some xs[t] := List.getElem?_eq_getElem ht
    obtain ⟨v, k1, k2⟩ := h2 t _ hx
    have e1 : get (xs.map .v) t = .v xs[t] := by simp [get, List.getD_eq_getElem?_getD, ht]
    have e2 : vals vs.toArray t = v := by simp [vals, k1]
    rw [e1, e2]
    exact k2
  · rw [get_big (by simpa using ht)]
    trivial

/-- A call of persistent values. -/
theorem call_post (hC : CallOK C call) (h : FR K w f a.tmps O) (hs : Sat K w) {g : FuncId} {xs : List AV} {vs : List Value} {r : AV} {outs : List Slot} {K1 : Kn} (hg : K.grows K1 (ownOf O cs)) (hs1 : Sat K1 w) (hA : relA K1 w xs vs Own.no) (hr : call g (xs.map .v) = some (r, outs)) :
    Calls C.P g vs.toArray w fun e w' => ∃ v, e = .returned v ∧ Post K w f a.tmps O cs (.v r) v w' := by
  refine Calls.mono (hC.calls hr (relA_frame hA) hs1) ?_
  rintro e w' ⟨v, rfl, K', S, O', hL⟩
  have ht : (tot fun _ : Nat => Own.no).le Own.no := fun b o ⟨_, x⟩ => x
  have hle : ((tot fun _ : Nat => Own.no).or (new w)).le ((ownOf O cs).or (new w)) := Own.or_le (Own.le_trans ht (Own.no_le _)) (Own.le_or_r _ _)
  exact ⟨v, rfl, .inl ⟨K', S, ⟨hL.sat, (hg.mono (Own.le_or_l _ _)).trans (hL.grows.mono hle), hL.keeps.mono (Own.le_trans ht (Own.no_le _)), Own.le_trans hL.own hle, hL.free, hL.lt⟩, hL.val⟩⟩
end
end Go.E

namespace Go.E
open Go.RowKit
section
variable {C : Cfg} {K : Kn} {w : World} {f : Frame} {a : Act} {O : Nat → Own} {fid : Nat} {call : CallF} {o : Oper} {cs : List Nat} {z : Slot}

theorem zip_snd {α β γ : Type} (g : β → γ) : ∀ {xs : List α} {ys : List β}, xs.length = ys.length → (xs.zip ys).map (fun p => g p.2) = ys.map g
  | [], [], _ => rfl
  | [], _ :: _, h => by simp at h
  | _ :: _, [], h => by simp at h
  | x :: xs, y :: ys, h => by simp [zip_snd g (xs := xs) (ys := ys) (by simpa using h)]

theorem q_callF (hC : CallOK C call) {c : Call} {g : FuncId} (ho : o.op = .call c) (hc : c.callee = .value (.func g)) (h : FR K w f a.tmps O) (hs : Sat K w) (hq : quiet C fid call o f = some (cs, z)) : Does C.P o a w (Post K w f a.tmps O cs z) := by
  unfold quiet at hq
  rw [ho] at hq
  simp only [hc] at hq
  split at hq
  · rename_i hg
    simp only [Bool.and_eq_true, beq_iff_eq] at hg
    split at hq
    · rename_i xs cs' hv
      split at hq
      · rename_i r outs hr
        simp only [Option.some.injEq, Prod.mk.injEq] at hq
        obtain ⟨rfl, rfl⟩ := hq
        obtain ⟨K1, g1, g2, g3⟩ := byValsQ_sound h hs hv
        rw [zip_snd (ev a.tmps) (by simpa using hg.2)] at g3
        obtain ⟨fn, b1, b2, b3⟩ := hC.body hr
        refine Does.enter (exec_call (caps := #[]) ho hc rfl b1 b2 b3) ?_
        have := call_post (f := f) (a := a) (O := O) hC h hs g1 g2 g3 hr
        have e : c.args.map (ev a.tmps) ++ #[] = (c.args.toList.map (ev a.tmps)).toArray := by rw [← Array.toList_inj]; simp
        rw [e]
        exact this
      · cases hq
    · cases hq
  · cases hq
end
end Go.E

namespace Go.E
open Go.RowKit
section
variable {C : Cfg} {K : Kn} {w : World} {f : Frame} {a : Act} {O : Nat → Own} {fid : Nat} {call : CallF} {o : Oper} {cs : List Nat} {z : Slot}

theorem relE_relA : ∀ {xs : List AV} {vs : List Value}, relE K w xs vs → relA K w xs vs Own.no
  | [], _, h => by rw [relE] at h; exact h
  | x :: xs, _, h => by
    obtain ⟨v, vs', rfl, h1, h2⟩ := relE_cons h
    exact ⟨v, vs', Own.no, Own.no, rfl, Own.le_refl _, Own.le_refl _, Own.no_disj _, h1, relE_relA h2⟩
theorem relA_append_no : ∀ {xs ys : List AV} {us vs : List Value}, relA K w xs us Own.no → relA K w ys vs Own.no → relA K w (xs ++ ys) (us ++ vs) Own.no
  | [], _, _, _, h, h' => by have : _ = [] := h; subst this; exact h'
  | x :: xs, ys, _, vs, h, h' => by
    obtain ⟨v, vs', S1, S2, rfl, h1, h2, h3, h4, h5⟩ := h
    exact ⟨v, vs' ++ vs, Own.no, Own.no, rfl, Own.le_refl _, Own.le_refl _, Own.no_disj _, relV_le h4 h1, relA_append_no (relA_mono (Kn.le_refl K) (Meta.refl w) h5 (Agree.refl _ _) h2) h'⟩

theorem fn_of {g : FuncId} {caps : List AV} {v : Value} {S : Own} (h : relV K w (.fn g caps) v S) : ∃ vs : Array Value, v = .func (.func g) #[] vs ∧ relE K w caps vs.toList := by
  have h : rel K w _ _ _ := h
  rw [rel] at h
  obtain ⟨vs, h1, h2⟩ := h
  injection h1 with h1
  exact ⟨vs, h1, h2⟩

theorem q_callV (hC : CallOK C call) {c : Call} {t : Nat} (ho : o.op = .call c) (hc : c.callee = .value (.tmp t)) (h : FR K w f a.tmps O) (hs : Sat K w) (hq : quiet C fid call o f = some (cs, z)) : Does C.P o a w (Post K w f a.tmps O cs z) := by
  unfold quiet at hq
  rw [ho] at hq
  simp only [hc] at hq
  split at hq
  · rename_i g caps hgt
    split at hq
    · rename_i hg
      simp only [Bool.and_eq_true, beq_iff_eq] at hg
      split at hq
      · rename_i xs cs' hv
        split at hq
        · rename_i r outs hr
          simp only [Option.some.injEq, Prod.mk.injEq] at hq
          obtain ⟨rfl, rfl⟩ := hq
          obtain ⟨K1, g1, g2, g3⟩ := byValsQ_sound h hs hv
          rw [zip_snd (ev a.tmps) (by simpa using hg.2)] at g3
          obtain ⟨fn, b1, b2, b3⟩ := hC.body hr
          obtain ⟨vs, e1, e2⟩ := fn_of (h.val hgt)
          refine Does.enter (exec_call (caps := vs) ho hc e1 b1 b2 b3) ?_
          have g4 := relA_append_no g3 (relE_relA (relE_mono g1.le (Meta.refl w) e2))
          have hr' : call g ((xs ++ caps).map .v) = some (r, outs) := by rw [List.map_append]; exact hr
          have := call_post (f := f) (a := a) (O := O) hC h hs g1 g2 g4 hr'
          have e : c.args.map (ev a.tmps) ++ vs = (c.args.toList.map (ev a.tmps) ++ vs.toList).toArray := by rw [← Array.toList_inj]; simp
          rw [e]
          exact this
        · cases hq
      · cases hq
    · cases hq
  · cases hq
end
end Go.E

namespace Go.E
open Go.RowKit

/-- Nothing but what is known has turned, and what is owned got less. -/
structure Froze (K : Kn) (w : World) (a : Array Value) (O : Nat → Own) (K' : Kn) (f' : Frame) (O' : Nat → Own) : Prop where
  fr : FR K' w f' a O'
  sat : Sat K' w
  grows : K.grows K' (tot O)
  le : ∀ u, (O' u).le (O u)

theorem Froze.refl {K : Kn} {w : World} {f : Frame} {a : Array Value} {O : Nat → Own} (h : FR K w f a O) (hs : Sat K w) : Froze K w a O K f O :=
  ⟨h, hs, Kn.grows_refl K _, fun _ => Own.le_refl _⟩
theorem tot_mono {O O' : Nat → Own} (h : ∀ u, (O' u).le (O u)) : (tot O').le (tot O) := fun b o ⟨t, x⟩ => ⟨t, h t b o x⟩
theorem Froze.trans {K K1 K2 : Kn} {w : World} {a : Array Value} {O O1 O2 : Nat → Own} {f1 f2 : Frame} (h : Froze K w a O K1 f1 O1) (k : Froze K1 w a O1 K2 f2 O2) : Froze K w a O K2 f2 O2 :=
  ⟨k.fr, k.sat, h.grows.trans (k.grows.mono (tot_mono h.le)), fun u => Own.le_trans (k.le u) (h.le u)⟩

section
variable {C : Cfg} {K : Kn} {w : World} {f : Frame} {a : Array Value} {O : Nat → Own}

theorem set_vals (t : Nat) : a.setIfInBounds t (vals a t) = a := by
  apply Array.ext
  · simp
  · intro i h1 h2
    by_cases e : t = i
    · subst e; simp [vals, Array.getD_eq_getD_getElem?, h2]
    · exact Array.getElem_setIfInBounds_ne h2 e

theorem FR.grow {K' : Kn} (h : FR K w f a O) (hg : K.le K') (hf : ∀ t, Free K' (O t)) : FR K' w f a O :=
  h.world hg (Meta.refl w) (fun _ => Agree.refl _ _) hf (Nat.le_refl _)

theorem Own.if_no_le (O : Nat → Own) (t u : Nat) : (if u = t then Own.no else O u).le (O u) := by
  split
  · exact Own.no_le _
  · exact Own.le_refl _

/-- A slot becomes one that owns less. -/
theorem FR.turn {K' : Kn} (h : FR K w f a O) {t : Nat} {x : Slot} {S : Own} (hx : rootish x = false) (hg : K.grows K' (O t)) (hS : S.le (O t)) (hf : Free K' S)
    (hself : selfR K' w x (vals a t) S) : FR K' w (f.set t x) a (fun u => if u = t then S else O u) := by
  have h1 := (h.drop t).grow hg.le (fun u => by
    by_cases hu : u = t
    · simp only [if_pos hu]; exact Free.no K'
    · simp only [if_neg hu]; exact (h.free u).grows hg (h.disj t u (Ne.symm hu)))
  have h2 := h1.set_slot (t := t) (x := x) (v := vals a t) (S := S) (fun e => by rw [hx] at e; cases e) hf (fun b o y => h.lt t b o (hS b o y))
    (fun u hu => by simp only [if_neg hu]; exact (h.disj t u (Ne.symm hu)).mono hS (Own.le_refl _))
    (fun ht => selfR_slot hself (get_set_self ht) (vals_set_self (by simpa [h.len] using ht)))
  rw [set_vals, List.set_set] at h2
  refine cast ?_ h2
  congr 1
  funext u
  by_cases hu : u = t <;> simp [hu]

theorem obj_freeze {x : AV} {b o : Nat} {S : Own} (h : obj K w x b o S) (hf : Free K S) (hs : Sat K w) :
    ∃ K' ys, K.grows K' S ∧ Sat K' w ∧ (∀ (j : Nat) (v : Value), ys[j]? = some v → K'.cell b (o + j) = some v) ∧ rel K' w (pz x) ys Own.no := by
  obtain ⟨cs, S1, h1, ⟨cur, e, h2, h3, h4⟩, h5, h6, h7⟩ := h
  obtain ⟨K1, S2, g1, g2, g3, g4, g5, g6⟩ := freeze h1 (hf.mono h6) hs
  have hl := rel_len h1
  have hf1 : Free K1 (rng b o (leaves x)) := (hf.mono h5).grows g1 h7
  have k1 := Kn.addRng_grows (K := K1) (b := b) (o := o) (n := leaves x) (cur := cur) hf1 (Own.le_refl _)
  refine ⟨K1.addRng b o (leaves x) cur, cs, (g1.mono h6).trans (k1.mono h5), Kn.addRng_sat g2 h2, fun j v hj => ?_, rel_mono k1.le (Meta.refl w) g3 (Agree.no _ _) (Own.le_refl _)⟩
  have : j < cs.length := (List.getElem?_eq_some_iff.1 hj).1
  exact Kn.addRng_cell (h4 j v hj) (by omega)

theorem ro_of {x : AV} {b o : Nat} {ys : List Value} {K' : Kn} (h : ∀ (j : Nat) (v : Value), ys[j]? = some v → K'.cell b (o + j) = some v) (hr : rel K' w x ys Own.no) :
    relV K' w (.ro x) (.pointer (some ⟨b, o, none⟩)) Own.no := by
  show rel K' w _ _ _
  rw [rel]
  exact ⟨b, o, ys, rfl, h, hr⟩

theorem FR.box_freeze (h : FR K w f a O) (hs : Sat K w) {t : Nat} {x : AV} (hg : get f t = .cell x) :
    ∃ K' O' b o ys, Froze K w a O K' (f.set t (.v (.ro (pz x)))) O' ∧ vals a t = .pointer (some ⟨b, o, none⟩) ∧ obj K w x b o (O t) ∧
      (∀ (j : Nat) (v : Value), ys[j]? = some v → K'.cell b (o + j) = some v) ∧ rel K' w (pz x) ys Own.no := by
  obtain ⟨b, o, h1, h2⟩ := h.cellR hg
  obtain ⟨K', ys, g1, g2, g3, g4⟩ := obj_freeze h2 (h.free t) hs
  refine ⟨K', _, b, o, ys, ⟨h.turn (S := Own.no) rfl g1 (Own.no_le _) (Free.no _) ?_, g2, g1.mono (le_tot O t), Own.if_no_le O t⟩, h1, h2, g3, g4⟩
  rw [h1]
  exact ro_of g3 g4

theorem sub_pz : ∀ (p : List Nat) {x y : AV}, sub (pz x) p = some y → ∃ y0, sub x p = some y0 ∧ y = pz y0 := by
  intro p
  induction p with
  | nil => intro x y h; rw [sub_nil] at h; injection h with h; exact ⟨x, sub_nil x, h.symm⟩
  | cons i p ih =>
    intro x y h
    have key : ∀ (xs : List AV) (i : Nat), (pzL xs)[i]? = (xs[i]?).map pz := by
      intro xs
      induction xs with
      | nil => simp [pzL]
      | cons x xs ihx => intro i; cases i <;> simp [pzL, ihx]
    cases x with
    | agg xs =>
      simp only [pz, sub, key] at h
      cases hi : xs[i]? with
      | none => simp [hi] at h
      | some zi =>
        simp only [hi, Option.map_some] at h
        obtain ⟨y0, k1, k2⟩ := ih h
        exact ⟨y0, by simp only [sub, hi]; exact k1, k2⟩
    | _ => simp [pz, sub] at h

/-- A part of what is known for good. -/
theorem known_sub : ∀ (p : List Nat) {x y : AV} {b o b2 o2 : Nat} {ys : List Value}, (∀ (j : Nat) (v : Value), ys[j]? = some v → K.cell b (o + j) = some v) → rel K w (pz x) ys Own.no →
    sub (pz x) p = some y → At w p x b o b2 o2 → ∃ ys', (∀ (j : Nat) (v : Value), ys'[j]? = some v → K.cell b2 (o2 + j) = some v) ∧ rel K w y ys' Own.no
  | [], x, y, b, o, b2, o2, ys, hk, hr, hs, ha => by
    rw [sub_nil] at hs
    injection hs with hs
    subst hs
    obtain ⟨rfl, rfl⟩ := ha
    exact ⟨ys, hk, hr⟩
  | i :: p, x, y, b, o, b2, o2, ys, hk, hr, hs, ha => by
    cases x with
    | agg xs =>
      rw [At] at ha
      obtain ⟨z, hz, ha⟩ := ha
      have key : ∀ (xs : List AV) (i : Nat), (pzL xs)[i]? = (xs[i]?).map pz := by
        intro xs
        induction xs with
        | nil => simp [pzL]
        | cons x xs ihx => intro i; cases i <;> simp [pzL, ihx]
      have hz' : (pzL xs)[i]? = some (pz z) := by rw [key, hz]; rfl
      have htake : leavesL ((pzL xs).take i) = leavesL (xs.take i) := by
        have : ∀ (xs : List AV) (i : Nat), (pzL xs).take i = pzL (xs.take i) := by
          intro xs
          induction xs with
          | nil => simp [pzL]
          | cons x xs ihx => intro i; cases i <;> simp [pzL, ihx]
        rw [this, leavesL_pz]
      simp only [pz, sub, hz'] at hs
      simp only [pz] at hr
      rw [rel] at hr
      obtain ⟨c1, c2, c3, Sz, Sr, e1, e2, e3, e4, _⟩ := relL_lens hr hz'
      subst e1
      refine known_sub p (o := o + leavesL (xs.take i)) (ys := c2) (fun j v hj => ?_) (rel_le e3 e4) hs ha
      have := hk (c1.length + j) v (by rw [List.getElem?_append_right (by omega), Nat.add_sub_cancel_left, List.getElem?_append_left (List.getElem?_eq_some_iff.1 hj).1]; exact hj)
      rwa [e2, htake, ← Nat.add_assoc] at this
    | _ => simp [pz, sub] at hs

theorem FR.caps_freeze : ∀ {cs : List Cap} {K : Kn} {f f' : Frame} {O : Nat → Own} {ys : List AV} {vs : List Value}, FR K w f a O → Sat K w → CapsR K w f (vals a) cs vs → freezeCaps f cs = some (ys, f') →
    ∃ K' O', Froze K w a O K' f' O' ∧ relE K' w ys vs
  | [], K, f, f', O, ys, vs, h, hs, hc, hf => by
    simp only [freezeCaps, Option.some.injEq, Prod.mk.injEq] at hf
    obtain ⟨rfl, rfl⟩ := hf
    have : vs = [] := hc
    subst this
    exact ⟨K, O, Froze.refl h hs, by rw [relE]⟩
  | .slot c :: cs, K, f, f', O, ys, vs, h, hs, hc, hf => by
    obtain ⟨v, vs', rfl, h1, h2⟩ := hc
    rw [freezeCaps] at hf
    split at hf
    · rename_i x hg
      split at hf
      · rename_i ys' f2 hf2
        simp only [Option.some.injEq, Prod.mk.injEq] at hf
        obtain ⟨rfl, rfl⟩ := hf
        obtain ⟨K1, O1, b, o, zs, k1, k2, k3, k4, k5⟩ := h.box_freeze hs hg
        have hv : v = vals a c := h1 x hg
        have hc2 : CapsR K1 w (f.set c (.v (.ro (pz x)))) (vals a) cs vs' := by
          refine CapsR_frame (CapsR_mono k1.grows.le (Meta.refl w) h2) ?_
          rintro cc _ i y rfl hi
          by_cases e : i = c
          · subst e
            by_cases hlt : i < f.length
            · rw [get_set_self hlt] at hi; cases hi
            · rw [get_big (by simpa using hlt)] at hi; cases hi
          · rw [get_set_ne e] at hi
            exact ⟨⟨y, hi⟩, rfl⟩
        obtain ⟨K2, O2, m1, m2⟩ := FR.caps_freeze k1.fr k1.sat hc2 hf2
        refine ⟨K2, O2, k1.trans m1, ?_⟩
        rw [relE]
        refine ⟨v, vs', [v], rfl, ?_, rfl, m2⟩
        rw [hv, k2]
        exact rel_mono m1.grows.le (Meta.refl w) (ro_of k4 k5) (Agree.no _ _) (Own.le_refl _)
      · cases hf
    · cases hf
  | .ro x :: cs, K, f, f', O, ys, vs, h, hs, hc, hf => by
    obtain ⟨v, vs', rfl, h1, h2⟩ := hc
    rw [freezeCaps] at hf
    split at hf
    · rename_i ys' f2 hf2
      simp only [Option.some.injEq, Prod.mk.injEq] at hf
      obtain ⟨rfl, rfl⟩ := hf
      obtain ⟨K2, O2, m1, m2⟩ := FR.caps_freeze h hs h2 hf2
      refine ⟨K2, O2, m1, ?_⟩
      rw [relE]
      exact ⟨v, vs', [v], rfl, rel_mono m1.grows.le (Meta.refl w) h1 (Agree.no _ _) (Own.le_refl _), rfl, m2⟩
    · cases hf

/-- A slot's own tree is frozen where it stands. -/
theorem FR.own_freeze (h : FR K w f a O) (hs : Sat K w) {t : Nat} {x : AV} (hg : get f t = .v x) (ht : isTup x = false) :
    ∃ K' O', Froze K w a O K' (f.set t (.v (fz x))) O' ∧ relV K' w (pz x) (vals a t) Own.no := by
  obtain ⟨cs, c1, c2, _⟩ := relV_cells (h.val hg) (fun ys e => by rw [e] at ht; cases ht)
  obtain ⟨K', S', g1, g2, g3, g4, g5, g6⟩ := freeze c1 (h.free t) hs
  have hself : selfR K' w (.v (fz x)) (vals a t) S' := relV_of_cells g6 (fz_isAgg _ _ _ c2)
  refine ⟨K', fun u => if u = t then S' else O u, ⟨?_, g2, g1.mono (le_tot O t), fun u => ?_⟩, relV_of_cells g3 (pz_isAgg _ _ _ c2)⟩
  · by_cases hr : rootish (get f t) = true
    · refine h.set_same hr ?_ (fun y e => by cases e) (fun _ _ => rfl) g1.le (Meta.refl w) (Nat.le_refl _) hself (fun _ _ => Agree.refl _ _)
        (fun u hu => (h.free u).grows g1 (h.disj t u (Ne.symm hu))) g5 (fun b o y => h.lt t b o (g4 b o y)) (fun u hu => (h.disj t u (Ne.symm hu)).mono g4 (Own.le_refl _))
      intro q z' hz'
      rw [hg] at hr
      have hq : ∀ {st : Nat} {ys : List AV}, subOf (.v (.osl st ys)) q = some z' → q = [] ∧ z' = .osl st ys := by
        intro st ys e
        cases q with
        | nil => simp only [subOf, rootOf, sub, Option.some.injEq] at e; exact ⟨rfl, e.symm⟩
        | cons i q => simp [subOf, rootOf, sub] at e
      cases x with
      | arr st xs =>
        obtain ⟨rfl, rfl⟩ := hq hz'
        refine ⟨.arr st xs, by simp only [subAt, hg, rootOf, sub], (fun _ ys e => by cases e), ?_, fun _ _ => rfl⟩
        intro b o e
        rw [hg] at e
        obtain ⟨_, _, _, _, _, _, _, e, _⟩ := e
        cases e
      | osl st xs =>
        obtain ⟨rfl, rfl⟩ := hq hz'
        refine ⟨.osl st xs, by simp only [subAt, hg, rootOf, sub], (fun _ ys e => by cases e), ?_, fun _ _ => rfl⟩
        intro b o e
        exact (by rw [hg] at e; exact e.elim)
      | map ks vs => simp [fz, subOf, rootOf] at hz'
      | _ => simp [rootish] at hr
    · refine h.turn ?_ g1 g4 g5 hself
      rw [hg] at hr
      cases x <;> first | rfl | (exact absurd rfl hr)
  · by_cases hu : u = t
    · subst hu; simp only [if_true]; exact g4
    · simp only [if_neg hu]; exact Own.le_refl _

/-- A place's tree is frozen where it stands. -/
theorem FR.place_freeze (h : FR K w f a O) (hs : Sat K w) {s : Nat} {p : List Nat} {y : AV} {z : Slot} (hy : subAt f s p = some y) (hp : p ≠ [] ∨ ∃ x, get f s = .cell x) (hz : updAt f s p (fz y) = some z) :
    ∃ K' O' b o cs, Froze K w a O K' (f.set s z) O' ∧ AtS w (get f s) (vals a s) p b o ∧ Mem w b o cs ∧ rel K' w (pz y) cs Own.no ∧ rel K w y cs (O s) := by
  obtain ⟨b, o, Sy, Sr, hL⟩ := h.lens hy hp
  obtain ⟨cs, S1, h1, h2, h3, h4, h5⟩ := hL.obj
  have hfy : Free K Sy := (h.free s).mono hL.le
  obtain ⟨K', S', g1, g2, g3, g4, g5, g6⟩ := freeze h1 (hfy.mono h4) hs
  have hfr : Free K' (rng b o (leaves y)) := (hfy.mono h3).grows g1 h5
  have ho : obj K' w (fz y) b o (S'.or (rng b o (leaves y))) :=
    ⟨cs, S', g6, h2, by rw [leaves_fz]; exact Own.le_or_r _ _, Own.le_or_l _ _, by rw [leaves_fz]; exact h5.mono g4 (Own.le_refl _)⟩
  have hle : (S'.or (rng b o (leaves y))).le Sy := Own.or_le (Own.le_trans g4 h4) h3
  refine ⟨K', _, b, o, cs, ⟨h.steady_at hL hy hp hz ?_ (leaves_fz y) (fun _ _ => rfl) g1.le (Meta.refl w) (Nat.le_refl _) ho hle (Agree.refl _ _) (fun _ _ => Agree.refl _ _)
    (fun u hu => (h.free u).grows g1 ((h.disj s u (Ne.symm hu)).mono (Own.le_trans h4 hL.le) (Own.le_refl _))) (g5.or hfr) ?_, g2, g1.mono (Own.le_trans (Own.le_trans h4 hL.le) (le_tot O s)), fun u => ?_⟩, hL.at_, h2, g3, rel_le h1 (Own.le_trans h4 hL.le)⟩
  · intro r z' hz'
    obtain ⟨z0, k1, k2, k3⟩ := steady_fz (w := w) y r z' hz'
    exact ⟨z0, k1, k2, k3⟩
  · exact ((h.free s).mono hL.rest).grows g1 (hL.disj.mono h4 (Own.le_refl _))
  · by_cases hu : u = s
    · subst hu; simp only [if_true]; exact Own.or_le (Own.le_trans hle hL.le) hL.rest
    · simp only [if_neg hu]; exact Own.le_refl _

theorem byValS_sound (h : FR K w f a O) (hs : Sat K w) {t : Nat} {y : AV} {f' : Frame} (hm : byValS f t = some (y, f')) :
    ∃ K' O', Froze K w a O K' f' O' ∧ relV K' w y (vals a t) Own.no := by
  unfold byValS at hm
  split at hm
  · rename_i x hg
    split at hm
    · rename_i hp
      simp only [Option.some.injEq, Prod.mk.injEq] at hm
      obtain ⟨rfl, rfl⟩ := hm
      exact ⟨K, O, Froze.refl h hs, relV_P hp (h.val hg)⟩
    · split at hm
      · cases hm
      · rename_i ht
        simp only [Option.some.injEq, Prod.mk.injEq] at hm
        obtain ⟨rfl, rfl⟩ := hm
        exact h.own_freeze hs hg (by simpa using ht)
  · rename_i x hg
    simp only [Option.some.injEq, Prod.mk.injEq] at hm
    obtain ⟨rfl, rfl⟩ := hm
    obtain ⟨K', O', b, o, ys, k1, k2, _, k4, k5⟩ := h.box_freeze hs hg
    exact ⟨K', O', k1, by rw [k2]; exact ro_of k4 k5⟩
  · rename_i s p hg
    split at hm
    · rename_i x hgs
      split at hm
      · rename_i y0 hy0
        simp only [Option.some.injEq, Prod.mk.injEq] at hm
        obtain ⟨rfl, rfl⟩ := hm
        obtain ⟨K', O', b, o, ys, k1, k2, _, k4, k5⟩ := h.box_freeze hs hgs
        obtain ⟨z0, e1, e2⟩ := sub_pz p hy0
        have hsl := h.slot t
        unfold SlotR at hsl
        rw [hg] at hsl
        obtain ⟨b2, o2, m1, m2⟩ := hsl ⟨z0, by simp only [subAt, hgs, rootOf]; exact e1⟩
        rw [hgs, k2] at m2
        obtain ⟨b', o', m3, m4⟩ := m2
        injection m3 with m3
        injection m3 with m3
        injection m3 with m5 m6
        subst m5 m6
        obtain ⟨zs, n1, n2⟩ := known_sub p k4 k5 hy0 m4
        exact ⟨K', O', k1, by rw [m1]; exact ro_of n1 n2⟩
      · cases hm
    · cases hm
  · rename_i s p hg
    split at hm
    · rename_i st xs hy
      simp only [Option.some.injEq, Prod.mk.injEq] at hm
      obtain ⟨rfl, rfl⟩ := hm
      obtain ⟨S, _, hr⟩ := h.view hg hy
      exact ⟨K, O, Froze.refl h hs, osl_sl hr⟩
    · rename_i y0 _ hy
      split at hm
      · rename_i z hz
        simp only [Option.some.injEq, Prod.mk.injEq] at hm
        obtain ⟨rfl, rfl⟩ := hm
        have hsl := h.slot t
        unfold SlotR at hsl
        rw [hg] at hsl
        rcases hsl _ hy with ⟨rfl, e1, e2⟩ | ⟨hna, b, o, e1, e2⟩
        · have hz' : z = .v (fz y0) := by
            unfold updAt at hz
            rw [e1] at hz
            cases hro : rootOf (.v y0) with
            | none => rw [hro] at hz; cases hz
            | some x0 =>
              rw [hro] at hz
              simp only [upd_nil, setRoot, Option.some.injEq] at hz
              exact hz.symm
          subst hz'
          have ht : isTup y0 = false := by
            cases y0 <;> first | rfl | (unfold subAt at hy; rw [e1] at hy; simp [rootOf] at hy)
          obtain ⟨K', O', k1, k2⟩ := h.own_freeze hs e1 ht
          exact ⟨K', O', k1, by rw [e2]; exact k2⟩
        · have hp := AtS_ne e1
          obtain ⟨K', O', b', o', cs, k1, k2, k3, k4, k5⟩ := h.place_freeze hs hy hp hz
          obtain ⟨rfl, rfl⟩ := AtS_unique e1 k2
          have hl := rel_len k5
          have hl1 : leaves y0 = 1 := by cases y0 <;> first | rfl | (exact absurd rfl (hna _)) | (rw [rel] at k5; exact k5.elim)
          rw [hl1] at hl
          obtain ⟨v0, rfl⟩ : ∃ v0, cs = [v0] := by
            match cs, hl with
            | [v0], _ => exact ⟨v0, rfl⟩
          have hc := k3.cell (j := 0) (v := v0) rfl
          rw [Nat.add_zero, e2] at hc
          injection hc with hc
          subst hc
          refine ⟨K', O', k1, relV_of_cells k4 ?_⟩
          cases y0 <;> first | rfl | (exact absurd rfl (hna _))
      · cases hm
    · cases hm
  · rename_i g cs hg
    split at hm
    · rename_i ys f2 hf2
      simp only [Option.some.injEq, Prod.mk.injEq] at hm
      obtain ⟨rfl, rfl⟩ := hm
      have hsl := h.slot t
      unfold SlotR at hsl
      rw [hg] at hsl
      obtain ⟨vs, e1, e2⟩ := hsl
      obtain ⟨K', O', k1, k2⟩ := FR.caps_freeze h hs e2 hf2
      refine ⟨K', O', k1, ?_⟩
      rw [e1]
      show rel K' w _ _ _
      rw [rel]
      exact ⟨vs.toArray, rfl, by simpa using k2⟩
    · cases hm
  · cases hm
  · cases hm
  · cases hm
end
end Go.E

namespace Go.E
open Go.RowKit

section
variable {C : Cfg} {K : Kn} {w : World} {f : Frame} {a : Array Value} {O : Nat → Own}

theorem moveQ_op {ty : TypeId} {x : Operand} {y : AV} {cs : List Nat} (hx : ∀ t, x ≠ .tmp t) (hm : moveQ C f ty x = some (y, cs)) : relV K w y (ev a x) Own.no := by
  unfold moveQ at hm
  split at hm
  · exact absurd rfl (hx _)
  · split at hm
    · rename_i z hz
      simp only [Option.some.injEq, Prod.mk.injEq] at hm
      obtain ⟨rfl, rfl⟩ := hm
      exact constA_sound hz
    · cases hm
  · simp only [Option.some.injEq, Prod.mk.injEq] at hm
    obtain ⟨rfl, rfl⟩ := hm
    exact fn_nil
  · cases hm

theorem byVal_sound (h : FR K w f a O) (hs : Sat K w) {ty : TypeId} {x : Operand} {y : AV} {f' : Frame} (hm : byVal C f ty x = some (y, f')) :
    ∃ K' O', Froze K w a O K' f' O' ∧ relV K' w y (ev a x) Own.no := by
  have key : (∀ t, x ≠ .tmp t) → (match byValQ C f ty x with | some (y, _) => some (y, f) | none => none) = some (y, f') → ∃ K' O', Froze K w a O K' f' O' ∧ relV K' w y (ev a x) Own.no := by
    intro hx hm
    split at hm
    · rename_i y0 cs hq
      simp only [Option.some.injEq, Prod.mk.injEq] at hm
      obtain ⟨rfl, rfl⟩ := hm
      unfold byValQ at hq
      split at hq
      · rename_i z c h1
        simp only [Option.some.injEq, Prod.mk.injEq] at hq
        obtain ⟨rfl, rfl⟩ := hq
        exact ⟨K, O, Froze.refl h hs, relV_pz_no hs (moveQ_op hx h1)⟩
      · cases hq
    · cases hm
  cases x with
  | tmp t => exact byValS_sound h hs hm
  | _ => exact key (fun t e => by cases e) hm

theorem moveOut_sound (h : FR K w f a O) (hs : Sat K w) {ty : TypeId} {x : Operand} {y : AV} {f' : Frame} (hm : moveOut C f ty x = some (y, f')) :
    ∃ K' O' S, Froze K w a O K' f' O' ∧ relV K' w y (ev a x) S ∧ S.le (tot O) ∧ Free K' S ∧ ∀ u, S.disj (O' u) := by
  have fin : (∃ K' O', Froze K w a O K' f' O' ∧ relV K' w y (ev a x) Own.no) → ∃ K' O' S, Froze K w a O K' f' O' ∧ relV K' w y (ev a x) S ∧ S.le (tot O) ∧ Free K' S ∧ ∀ u, S.disj (O' u) := by
    rintro ⟨K', O', h1, h2⟩
    exact ⟨K', O', Own.no, h1, h2, Own.no_le _, Free.no _, fun _ => Own.no_disj _⟩
  have key : (∀ t, x ≠ .tmp t) → (match moveQ C f ty x with | some (y, _) => some (y, f) | none => none) = some (y, f') → ∃ K' O', Froze K w a O K' f' O' ∧ relV K' w y (ev a x) Own.no := by
    intro hx hm
    split at hm
    · rename_i y0 cs hq
      simp only [Option.some.injEq, Prod.mk.injEq] at hm
      obtain ⟨rfl, rfl⟩ := hm
      exact ⟨K, O, Froze.refl h hs, moveQ_op hx hq⟩
    · cases hm
  cases x with
  | tmp t =>
    simp only [moveOut] at hm
    split at hm
    · rename_i x hg
      split at hm
      · rename_i hp
        simp only [Option.some.injEq, Prod.mk.injEq] at hm
        obtain ⟨rfl, rfl⟩ := hm
        exact fin ⟨K, O, Froze.refl h hs, relV_P hp (h.val hg)⟩
      · simp only [Option.some.injEq, Prod.mk.injEq] at hm
        obtain ⟨rfl, rfl⟩ := hm
        refine ⟨K, _, O t, ⟨h.drop t, hs, Kn.grows_refl K _, Own.if_no_le O t⟩, h.val hg, le_tot O t, h.free t, fun u => ?_⟩
        by_cases hu : u = t
        · simp only [if_pos hu]; exact Own.disj_no _
        · simp only [if_neg hu]; exact h.disj t u (Ne.symm hu)
    · exact fin (byValS_sound h hs hm)
  | _ => exact fin (key (fun t e => by cases e) hm)

/-- A place gets another tree. -/
theorem FR.set_place {K' : Kn} {w' : World} {f' : Frame} (h : FR K w f a O) {s : Nat} {p : List Nat} {y y' : AV} {b o : Nat} {Sy Sr Sy' : Own}
    (hL : Lens K w f (vals a) s p y (O s) b o Sy Sr) (hy : subAt f s p = some y) (hp : p ≠ [] ∨ ∃ x, get f s = .cell x) (hf' : setAt f s p y' = some f') (hl : leaves y' = leaves y)
    (hk : K.le K') (hm : Meta w w') (hsz : w.heap.size ≤ w'.heap.size) (ho : obj K' w' y' b o Sy') (hd : Sy'.disj Sr) (hr : Agree Sr w w') (ha : ∀ t, t ≠ s → Agree (O t) w w')
    (hfree : ∀ t, t ≠ s → Free K' (O t)) (hf1 : Free K' Sy') (hf2 : Free K' Sr) (hlt : ∀ b o, Sy' b o → b < w'.heap.size) (hdis : ∀ t, t ≠ s → Sy'.disj (O t)) :
    FR K' w' f' a (fun u => if u = s then Sy'.or Sr else O u) := by
  obtain ⟨x, hx, hxy⟩ := subAt_root hy
  refine h.set_at (Sy := Sy) hy hp hf' hl hL.at_ hk hm hsz ⟨x, hx, hxy, fun q y2 b2 o2 => hL.cell x q y2 b2 o2 hx, hL.upd x hx hk hm hr ho hl hd⟩ hr ha hfree (hf1.or hf2) ?_ ?_
  · rintro b o (hb | hb)
    · exact hlt b o hb
    · exact Nat.lt_of_lt_of_le (h.lt s b o (hL.rest b o hb)) hsz
  · intro t ht
    exact Own.disj_or (hdis t ht) ((h.disj s t (Ne.symm ht)).mono hL.rest (Own.le_refl _))

theorem one_cell {y : AV} {cs : List Value} {S : Own} (h : rel K w y cs S) (hna : ∀ ys, y ≠ .agg ys) : ∃ v, cs = [v] ∧ leaves y = 1 := by
  have hl := rel_len h
  have hl1 : leaves y = 1 := by cases y <;> first | rfl | (exact absurd rfl (hna _)) | (rw [rel] at h; exact h.elim)
  rw [hl1] at hl
  match cs, hl with
  | [v0], _ => exact ⟨v0, rfl, hl1⟩

/-- What a view shows is taken out of its place. -/
theorem takeAt_sound (h : FR K w f a O) {t s : Nat} {p : List Nat} {y : AV} {f' : Frame} (hg : get f t = .view s p) (hm : takeAt f s p = some (y, f')) :
    ∃ O' S, FR K w f' a O' ∧ (∀ u, (O' u).le (O u)) ∧ relV K w y (vals a t) S ∧ S.le (tot O) ∧ Free K S ∧ (∀ u, S.disj (O' u)) := by
  unfold takeAt at hm
  split at hm
  · rename_i y0 hy
    split at hm
    · rename_i f1 hf1
      simp only [Option.some.injEq, Prod.mk.injEq] at hm
      obtain ⟨rfl, rfl⟩ := hm
      have hsl := h.slot t
      unfold SlotR at hsl
      rw [hg] at hsl
      rcases hsl _ hy with ⟨rfl, e1, e2⟩ | ⟨hna, b, o, e1, e2⟩
      · have hv := h.val e1
        have hro : ∃ x, rootOf (.v y0) = some x := by
          unfold subAt at hy
          rw [e1] at hy
          cases hro : rootOf (.v y0) with
          | none => rw [hro] at hy; cases hy
          | some x => exact ⟨x, rfl⟩
        have hone : (vals a s).oneCell' = true := by
          obtain ⟨x, hro⟩ := hro
          have hv' : rel K w y0 [vals a s] (O s) := by cases y0 <;> first | exact hv | (simp [rootOf] at hro)
          exact rel_one hv' _ (List.mem_cons_self ..)
        have hf : f1 = (kill f s []).set s (.v .undef) := by
          obtain ⟨x, hro⟩ := hro
          unfold setAt updAt at hf1
          rw [e1, hro] at hf1
          simp only [upd_nil, setRoot, Option.some.injEq] at hf1
          exact hf1.symm
        subst hf
        refine ⟨_, O s, (h.kill_at s []).turn (S := Own.no) rfl (Kn.grows_refl K _) (Own.no_le _) (Free.no K) ?_, Own.if_no_le O s, by rw [e2]; exact hv, le_tot O s, h.free s, fun u => ?_⟩
        · show rel K w _ _ _
          rw [rel]
          exact ⟨_, rfl, hone⟩
        · by_cases hu : u = s
          · simp only [if_pos hu]; exact Own.disj_no _
          · simp only [if_neg hu]; exact h.disj s u (Ne.symm hu)
      · have hp := AtS_ne e1
        obtain ⟨b', o', Sy, Sr, hL⟩ := h.lens hy hp
        obtain ⟨rfl, rfl⟩ := AtS_unique e1 hL.at_
        obtain ⟨cs, S1, h1, h2, h3, h4, h5⟩ := hL.obj
        obtain ⟨v, rfl, hl1⟩ := one_cell h1 hna
        have hc := h2.cell (j := 0) (v := v) rfl
        rw [Nat.add_zero, e2] at hc
        injection hc with hc
        subst hc
        have hone : (vals a t).oneCell' = true := rel_one h1 _ (List.mem_cons_self ..)
        rw [hl1] at h3 h5
        have ho : obj K w .undef b o (rng b o 1) := ⟨[vals a t], Own.no, by rw [rel]; exact ⟨_, rfl, hone⟩, h2, Own.le_refl _, Own.no_le _, Own.no_disj _⟩
        have hSy : Sy.le (O s) := hL.le
        refine ⟨_, S1, h.set_place hL hy hp hf1 (by rw [hl1]; rfl) (Kn.le_refl K) (Meta.refl w) (Nat.le_refl _) ho (hL.disj.mono h3 (Own.le_refl _)) (Agree.refl _ _) (fun _ _ => Agree.refl _ _)
          (fun u _ => h.free u) ((h.free s).mono (Own.le_trans h3 hSy)) ((h.free s).mono hL.rest) (fun b o hb => h.lt s b o (hSy b o (h3 b o hb)))
          (fun u hu => (h.disj s u (Ne.symm hu)).mono (Own.le_trans h3 hSy) (Own.le_refl _)), fun u => ?_, relV_of_cells h1 ?_, Own.le_trans (Own.le_trans h4 hSy) (le_tot O s), (h.free s).mono (Own.le_trans h4 hSy), fun u => ?_⟩
        · by_cases hu : u = s
          · subst hu; simp only [if_true]; exact Own.or_le (Own.le_trans h3 hSy) hL.rest
          · simp only [if_neg hu]; exact Own.le_refl _
        · cases y0 <;> first | rfl | (exact absurd rfl (hna _))
        · by_cases hu : u = s
          · subst hu; simp only [if_true]; exact Own.disj_or' h5 (hL.disj.mono h4 (Own.le_refl _))
          · simp only [if_neg hu]; exact (h.disj s u (Ne.symm hu)).mono (Own.le_trans h4 hSy) (Own.le_refl _)
    · cases hm
  · cases hm

theorem Froze.goes {K' : Kn} {f' : Frame} {O' : Nat → Own} (h : Froze K w a O K' f' O') : Goes K w O K' w O' :=
  ⟨h.sat, h.grows.mono (Own.le_or_l _ _), Keeps.refl _ _, Own.le_trans (tot_mono h.le) (Own.le_or_l _ _)⟩

/-- After a loud operation. -/
def LPost (K : Kn) (w : World) (O : Nat → Own) (f' : Frame) (a : Array Value) (d : Option Nat) (v : Value) (w' : World) : Prop :=
  ∃ K' O', FR K' w' f' (putA a d v) O' ∧ Goes K w O K' w' O'

theorem FR.put_goes {K1 : Kn} {w1 : World} {f1 : Frame} {O1 : Nat → Own} (h : FR K1 w1 f1 a O1) (hg : Goes K w O K1 w1 O1) {x : Slot} {v : Value} {S : Own} (hx : selfR K1 w1 x v S) (hf : Free K1 S)
    (hl : ∀ b o, S b o → b < w1.heap.size) (hd : ∀ u, S.disj (O1 u)) (hS : S.le ((tot O).or (new w))) (d : Option Nat) : LPost K w O (putO f1 d x) a d v w1 := by
  cases d with
  | none => exact ⟨K1, O1, h, hg⟩
  | some d =>
    refine ⟨K1, _, h.put_self hf hl (fun u _ => hd u) hx, hg.sat, hg.grows, hg.keeps, ?_⟩
    rintro b o ⟨t, ht⟩
    by_cases hu : t = d
    · simp only [if_pos hu] at ht; exact hS b o ht
    · simp only [if_neg hu] at ht; exact hg.own b o ⟨t, ht⟩
theorem FR.put_no {K1 : Kn} {w1 : World} {f1 : Frame} {O1 : Nat → Own} (h : FR K1 w1 f1 a O1) (hg : Goes K w O K1 w1 O1) {x : Slot} {v : Value} (hx : selfR K1 w1 x v Own.no) (d : Option Nat) : LPost K w O (putO f1 d x) a d v w1 :=
  h.put_goes hg hx (Free.no _) (fun _ _ h => h.elim) (fun _ => Own.no_disj _) (Own.no_le _) d
end

section
variable {C : Cfg} {K : Kn} {w : World} {f f' : Frame} {a : Act} {O : Nat → Own} {fid : Nat} {call : CallF} {o : Oper}

theorem l_assign {t : Nat} (ho : o.op = .assign (.tmp t)) (h : FR K w f a.tmps O) (hs : Sat K w) (hl : loud C fid call o f = some f') : Does C.P o a w (LPost K w O f' a.tmps o.dst) := by
  refine Does.value (v := ev a.tmps (.tmp t)) (w' := w) (by simp [execOp, ho, eval_ev]) ?_
  unfold loud at hl
  rw [ho] at hl
  simp only at hl
  split at hl
  · rename_i s p hg
    split at hl
    · split at hl
      · rename_i y f1 ht
        simp only [Option.some.injEq] at hl
        subst hl
        obtain ⟨O1, S, h1, h2, h3, h4, h5, h6⟩ := takeAt_sound h hg ht
        refine h1.put_goes (x := .v y) ⟨hs, Kn.grows_refl K _, Keeps.refl _ _, Own.le_trans (tot_mono h2) (Own.le_or_l _ _)⟩ h3 h5 (fun b o hb => ?_) h6 (Own.le_trans h4 (Own.le_or_l _ _)) _
        obtain ⟨u, hu⟩ := h4 b o hb
        exact h.lt u b o hu
      · cases hl
    · split at hl
      · rename_i y f1 ht
        simp only [Option.some.injEq] at hl
        subst hl
        obtain ⟨K', O', h1, h2⟩ := byValS_sound h hs ht
        exact h1.fr.put_no (x := .v y) h1.goes h2 _
      · cases hl
  · cases hl

theorem l_pick {c x y : Operand} (ho : o.op = .pick c x y) (h : FR K w f a.tmps O) (hs : Sat K w) (hl : loud C fid call o f = some f') : Does C.P o a w (LPost K w O f' a.tmps o.dst) := by
  unfold loud at hl
  rw [ho] at hl
  simp only at hl
  split at hl
  · rename_i z hc
    split at hl
    · rename_i r f1 ht
      simp only [Option.some.injEq] at hl
      subst hl
      obtain ⟨S, _, hb⟩ := lookO_sound h hc
      have hb := bool_of hb
      obtain ⟨K', O', h1, h2⟩ := byVal_sound h hs ht
      refine Does.value (v := ev a.tmps (if z then x else y)) (w' := w) ?_ (h1.fr.put_no (x := .v r) h1.goes h2 _)
      simp [execOp, ho, eval_ev, hb, asBool]
      cases z <;> rfl
    · cases hl
  · cases hl

theorem l_load {t : TypeId} {x : Operand} (ho : o.op = .load t x) (h : FR K w f a.tmps O) (hs : Sat K w) (hl : loud C fid call o f = some f') : Does C.P o a w (LPost K w O f' a.tmps o.dst) := by
  unfold loud at hl
  rw [ho] at hl
  simp only at hl
  split at hl
  · rename_i s p hp
    split at hl
    · rename_i y hy
      split at hl
      · rename_i hf
        split at hl
        · rename_i z hz
          simp only [Option.some.injEq] at hl
          subst hl
          obtain ⟨b, o', e1, e2⟩ := ptrOf_at h hp hy
          obtain ⟨K', O', b', o2, cs, k1, k2, k3, k4, k5⟩ := h.place_freeze hs hy (AtS_ne e2) hz
          obtain ⟨rfl, rfl⟩ := AtS_unique e2 k2
          obtain ⟨v, hv⟩ := asV_exists k5
          refine Does.value (v := v) (w' := w) ?_ (k1.fr.put_no (x := .v (pz y)) k1.goes (relV_of_cells k4 (pz_isAgg _ _ _ hv)) _)
          have := run_loadVar hf k5 hv (fun j u hj => k3.cell hj)
          simp [execOp, ho, eval_ev, e1, Instr.loadAt, Instr.sureAddr, this]
        · cases hl
      · cases hl
    · cases hl
  · cases hl
end
end Go.E

namespace Go.E
open Go.RowKit

section
variable {C : Cfg} {K : Kn} {w : World} {f f' : Frame} {a : Act} {O : Nat → Own} {fid : Nat} {call : CallF} {o : Oper}

/-- A range of a block is written. -/
theorem setRow_rng {b : Nat} {cur : Array Value} {e : TypeId} (hg : w.heap[b]? = some (.cells cur e (0, 0))) (n : Nat) (vs : List Value) (hfit : n + vs.length ≤ cur.size) :
    Keeps (rng b n vs.length) w (w.setRow b (cur.toList.take n ++ vs ++ cur.toList.drop (n + vs.length)).toArray) ∧
    Mem (w.setRow b (cur.toList.take n ++ vs ++ cur.toList.drop (n + vs.length)).toArray) b n vs := by
  obtain ⟨hk, hh, hsz⟩ := setRow_keeps hg n vs hfit
  have hn0 : n ≤ cur.size := by omega
  refine ⟨⟨hk.met, hk.size, ?_, ?_, hk.rest⟩, ?_⟩
  · intro b' o' hb' hn
    by_cases hb : b' = b
    · subst hb
      rw [cell_of_heap hh, cell_of_heap hg]
      rcases Nat.lt_or_ge o' n with h1 | h1
      · rw [List.getElem?_toArray, List.append_assoc, List.getElem?_append_left (by rw [List.length_take, Array.length_toList]; omega), List.getElem?_take, if_pos h1, Array.getElem?_toList]
      · rcases Nat.lt_or_ge o' (n + vs.length) with h2 | h2
        · exact absurd ⟨rfl, h1, h2⟩ hn
        · rw [List.getElem?_toArray, List.getElem?_append_right (by simp only [List.length_append, List.length_take, Array.length_toList]; omega), List.getElem?_drop]
          simp only [List.length_append, List.length_take, Array.length_toList]
          rw [Nat.min_eq_left (by omega), show n + vs.length + (o' - (n + vs.length)) = o' by omega, Array.getElem?_toList]
    · exact hk.cell b' o' hb' (fun x => hb x.1)
  · intro b' hb' hn
    by_cases hb : b' = b
    · subst hb
      have h0 : vs = [] := by
        cases vs with
        | nil => rfl
        | cons v vs => exact absurd ⟨rfl, Nat.le_refl _, by simp⟩ (hn n)
      subst h0
      rw [hh, hg]
      simp
    · exact hk.blk b' hb' (fun o' x => hb x.1)
  · refine ⟨_, e, hh, by rw [hsz]; exact hfit, fun j v hj => ?_⟩
    have hj' := (List.getElem?_eq_some_iff.1 hj).1
    rw [List.getElem?_toArray, List.append_assoc, List.getElem?_append_right (by simp only [List.length_take, Array.length_toList]; omega), List.length_take, Nat.min_eq_left (by rw [Array.length_toList]; exact hn0), Nat.add_sub_cancel_left, List.getElem?_append_left hj']
    exact hj

theorem l_store {t : TypeId} {x y : Operand} (ho : o.op = .store t x y) (h : FR K w f a.tmps O) (hs : Sat K w) (hl : loud C fid call o f = some f') : Does C.P o a w (LPost K w O f' a.tmps o.dst) := by
  unfold loud at hl
  rw [ho] at hl
  simp only at hl
  split at hl
  · rename_i r f1 hm
    split at hl
    · rename_i s p hp
      split at hl
      · rename_i z hz
        split at hl
        · rename_i hc
          split at hl
          · rename_i f2 hf2
            simp only [Option.some.injEq] at hl
            subst hl
            simp only [Bool.and_eq_true, beq_iff_eq] at hc
            obtain ⟨hlz, hfit⟩ := hc
            obtain ⟨K1, O1, S, k1, k2, k3, k4, k5⟩ := moveOut_sound h hs hm
            obtain ⟨b, off, e1, e2⟩ := ptrOf_at k1.fr hp hz
            have hp' := AtS_ne e2
            obtain ⟨b', o', Sy, Sr, hL⟩ := k1.fr.lens hz hp'
            obtain ⟨rfl, rfl⟩ := AtS_unique e2 hL.at_
            obtain ⟨cz, S1, h1, ⟨cur, et, m1, m2, m3⟩, h3, h4, h5⟩ := hL.obj
            obtain ⟨g1, g2, g3, g4⟩ := fitsT_eq hfit
            obtain ⟨cs, c1, c2, c3⟩ := relV_cells k2 (fun ys e => by rw [e] at g4; cases g4)
            have hlc := rel_len c1
            have hlz' := rel_len h1
            have hfit' : off + cs.length ≤ cur.size := by omega
            obtain ⟨q1, q2⟩ := setRow_rng m1 off cs hfit'
            generalize hw' : w.setRow b (cur.toList.take off ++ cs ++ cur.toList.drop (off + cs.length)).toArray = w' at q1 q2
            rw [hlc, g1, ← hlz] at q1
            have hrun : (storeVar t ⟨b, off, none⟩ (ev a.tmps y)).run C.P w = .ok () w' := by
              have := run_storeCells_at C.P b off et cs 0 cur w m1 (by simpa using hfit') (rel_one c1)
              have hsz : (ev a.tmps y).cells.size = szT C t := by rw [← Array.length_toList, c3]; omega
              unfold storeVar
              rw [Sem.run_bind, run_sizeOf g2, Result.andThen_ok, if_neg (by rw [hsz]; simp), c3]
              rw [← hw']
              simpa using this
            have hRng : (rng b off (leaves z)).le (O1 s) := Own.le_trans h3 hL.le
            have hSO : ∀ u, Agree (O1 u) w w' ∨ u = s := fun u => by
              by_cases hu : u = s
              · exact .inr hu
              · exact .inl (q1.agree ((k1.fr.disj s u (Ne.symm hu)).mono hRng (Own.le_refl _)) (k1.fr.lt u))
            have hSlt : ∀ b o, S b o → b < w.heap.size := fun b o hb => by
              obtain ⟨u, hu⟩ := k3 b o hb
              exact h.lt u b o hu
            have hSr : S.disj (rng b off (leaves z)) := (k5 s).mono (Own.le_refl _) hRng
            have ho2 : obj K1 w' r b off (S.or (rng b off (leaves z))) :=
              ⟨cs, S, rel_mono (Kn.le_refl K1) q1.met c1 (q1.agree hSr.symm hSlt) (Own.le_refl _), q2, by rw [g1, ← hlz]; exact Own.le_or_r _ _, Own.le_or_l _ _, by rw [g1, ← hlz]; exact hSr⟩
            have hFR := k1.fr.set_place hL hz hp' hf2 (by omega) (Kn.le_refl K1) q1.met q1.size ho2 (Own.disj_or ((k5 s).mono (Own.le_refl _) hL.rest) (hL.disj.mono h3 (Own.le_refl _)))
              (q1.agree (hL.disj.mono h3 (Own.le_refl _)) (fun b o hb => k1.fr.lt s b o (hL.rest b o hb))) (fun u hu => (hSO u).resolve_right hu) (fun u _ => k1.fr.free u)
              (k4.or ((k1.fr.free s).mono hRng)) ((k1.fr.free s).mono hL.rest)
              (by rintro b o (hb | hb)
                  · exact Nat.lt_of_lt_of_le (hSlt b o hb) q1.size
                  · exact Nat.lt_of_lt_of_le (k1.fr.lt s b o (hRng b o hb)) q1.size)
              (fun u hu => Own.disj_or (k5 u) ((k1.fr.disj s u (Ne.symm hu)).mono hRng (Own.le_refl _)))
            have hRt : (rng b off (leaves z)).le (tot O) := Own.le_trans hRng (Own.le_trans (le_tot O1 s) (tot_mono k1.le))
            refine Does.skip (w' := w') ?_ (hFR.put_no (x := .any) ⟨k1.sat.keep ((k1.fr.free s).mono hRng) q1, k1.grows.mono (Own.le_or_l _ _), q1.mono hRt, ?_⟩ trivial _)
            · simp [execOp, ho, eval_ev, e1, Instr.storeAt, Instr.sureAddr, hrun]
            · rintro b o ⟨u, hu⟩
              left
              by_cases hus : u = s
              · simp only [if_pos hus] at hu
                rcases hu with (hu | hu) | hu
                · exact k3 b o hu
                · exact hRt b o hu
                · exact tot_mono k1.le b o ⟨s, hL.rest b o hu⟩
              · simp only [if_neg hus] at hu
                exact tot_mono k1.le b o ⟨u, hu⟩
          · cases hl
        · cases hl
      · cases hl
    · cases hl
  · cases hl

/-- Slicing what is persistent. -/
theorem slice_run {K2 : Kn} {t e : TypeId} {x : Operand} {lo hi : Option Operand} {st : Nat} {xs : List AV} {l u : Int} (ho : o.op = .slice t x lo hi none) (h : FR K w f a.tmps O) (hu : C.P.underlying t = some (.slice e)) (hse : szT C e = st) (hst0 : st ≠ 0)
    (g3 : relV K2 w (.sl st xs) (ev a.tmps x) Own.no) (hl : optInt C f 0 lo = some l) (hh : optInt C f xs.length hi = some u) (h0 : 0 ≤ l) (h1 : l ≤ u) (h2 : u ≤ xs.length) :
    ∃ rv, (execOp a.eval o).run C.P w = .ok (.value rv) w ∧ relV K2 w (.sl st ((xs.take u.toNat).drop l.toNat)) rv Own.no := by
  have g3' : rel K2 w _ _ _ := g3
  rw [rel] at g3'
  obtain ⟨ad, c, k1, k2, k3, k4⟩ := g3'
  injection k1 with k1
  refine ⟨.slice (if c = l.toNat then ad else ad.map (·.add (l.toNat * szT C e))) (u.toNat - l.toNat) (c - l.toNat), ?_, ?_⟩
  · have hB := bounds_run (C := C) (w := w) (isS := true) (cap := c) h hl hh h0 h1 (by omega)
    have hZ := run_sizeOf (C := C) (w := w) (t := e) (szT_some (by rw [hse]; exact hst0))
    simp [execOp, ho, eval_ev, k1, Instr.sliceAt, Instr.slice, run_underlying hu, hB, hZ]
  · show rel K2 w _ _ _
    have hlen : ((xs.take u.toNat).drop l.toNat).length = u.toNat - l.toNat := by simp; omega
    rw [rel]
    refine ⟨_, c - l.toNat, by rw [hlen], by rw [hlen]; omega, fun q hq => k3 q (List.mem_of_mem_take (List.mem_of_mem_drop hq)), ?_⟩
    rcases k4 with rfl | ⟨b, o', ys, rfl, k5, k6⟩
    · left; simp
    · by_cases hcl : c = l.toNat
      · left
        have : xs.length ≤ l.toNat := by omega
        simp
        omega
      · right
        rw [if_neg hcl]
        have e1 : xs = xs.take l.toNat ++ ((xs.drop l.toNat).take (u.toNat - l.toNat) ++ (xs.drop l.toNat).drop (u.toNat - l.toNat)) := by
          rw [List.take_append_drop, List.take_append_drop]
        rw [e1] at k6
        obtain ⟨c1, c2, rfl, m1, m2⟩ := relL_split k6
        obtain ⟨d1, d2, rfl, m3, m4⟩ := relL_split m2
        have hlen1 : c1.length = l.toNat * st := by
          rw [relL_len m1, leavesL_const (fun q hq => k3 q (List.mem_of_mem_take hq)), List.length_take, Nat.min_eq_left (by omega)]
        refine ⟨b, o' + l.toNat * st, d1, by simp [Addr.add_lit, hse], fun j v hj => ?_, by rw [List.drop_take]; exact m3⟩
        rw [Nat.add_assoc]
        refine k5 _ _ ?_
        rw [← hlen1, List.getElem?_append_right (by omega), Nat.add_sub_cancel_left, List.getElem?_append_left (List.getElem?_eq_some_iff.1 hj).1]
        exact hj

theorem l_slice {t : TypeId} {x : Operand} {lo hi mx : Option Operand} (ho : o.op = .slice t x lo hi mx) (h : FR K w f a.tmps O) (hs : Sat K w) (hl : loud C fid call o f = some f') : Does C.P o a w (LPost K w O f' a.tmps o.dst) := by
  unfold loud at hl
  rw [ho] at hl
  simp only at hl
  split at hl
  · rename_i e hu
    split at hl
    · rename_i st xs f1 hx
      split at hl
      · rename_i l u hlo hhi
        split at hl
        · rename_i hc
          simp only [Bool.and_eq_true, decide_eq_true_eq] at hc
          obtain ⟨hc1, h0, h1, h2⟩ := hc
          obtain ⟨e', he, hse, hst0⟩ := strideT_eq (C := C) (t := t) (st := st) (by simpa using hc1)
          rw [hu] at he
          injection he with he
          injection he with he
          subst he
          simp only [Option.some.injEq] at hl
          subst hl
          obtain ⟨K', O', k1, k2⟩ := byVal_sound h hs hx
          obtain ⟨rv, r1, r2⟩ := slice_run ho k1.fr hu hse hst0 k2 hlo hhi h0 h1 h2
          exact Does.value r1 (k1.fr.put_no (x := .v (.sl st ((xs.take u.toNat).drop l.toNat))) k1.goes r2 _)
        · cases hl
      · cases hl
    · cases hl
  · cases hl

theorem l_append {c : Call} (ho : o.op = .call c) (hb : c.callee = .builtin .append) (h : FR K w f a.tmps O) (hs : Sat K w) (hl : loud C fid call o f = some f') : Does C.P o a w (LPost K w O f' a.tmps o.dst) := by
  unfold loud at hl
  rw [ho] at hl
  simp only [hb] at hl
  split at hl
  · rename_i tx y t u h1 h2
    have e1 := arr_two h1
    have e2 := arr_two h2
    split at hl
    · rename_i e e' he he'
      split at hl
      · cases hl
      rename_i htu
      have htu : t = u := by simpa using htu
      subst htu
      split at hl
      · rename_i s p ya hx hy
        split at hl
        · rename_i sty ys bA f1 hsl htk
          split at hl
          · cases hl
          split at hl
          · rename_i r hr
            simp only [Option.some.injEq] at hl
            subst hl
            obtain ⟨O1, S, t1, t2, t3, t4, t5, t6⟩ := takeAt_sound h hx htk
            obtain ⟨S', _, b1⟩ := lookO_sound h hy
            have hSlt : ∀ b o, S b o → b < w.heap.size := fun b o hb => by
              obtain ⟨u, hu⟩ := t4 b o hb
              exact h.lt u b o hu
            obtain ⟨rv, w', K', S2, k1, k2, k3⟩ := append_post (ty := o.type) hs t5 hSlt (Own.le_refl _) t3 b1 hsl (elemT_eq he) hr
            have hnew : ∀ u, (new w).disj (O1 u) := fun u b o hb hu => Nat.not_le_of_lt (t1.lt u b o hu) hb
            have hdis : ∀ u, (S.or (new w)).disj (O1 u) := fun u => Own.disj_or (t6 u) (hnew u)
            have hFR : FR K' w' f1 a.tmps O1 := t1.world k2.grows.le k2.keeps.met (fun u => k2.keeps.agree (t6 u) (t1.lt u)) (fun u => (t1.free u).grows k2.grows (hdis u)) k2.keeps.size
            refine Does.value (v := rv) (w' := w') (exec_builtin ho hb fun consts => ?_) (hFR.put_goes (x := .v r) ⟨k2.sat, k2.grows.mono (Own.or_le (Own.le_trans t4 (Own.le_or_l _ _)) (Own.le_or_r _ _)), k2.keeps.mono t4, Own.le_trans (tot_mono t2) (Own.le_or_l _ _)⟩ k3 k2.free k2.lt
              (fun u => (hdis u).mono k2.own (Own.le_refl _)) (Own.le_trans k2.own (Own.or_le (Own.le_trans t4 (Own.le_or_l _ _)) (Own.le_or_r _ _))) _)
            rw [builtin]
            simp only [Sem.run_bind, e1, e2]
            rw [show Array.map (ev a.tmps) #[.tmp tx, y] = #[vals a.tmps tx, ev a.tmps y] by simp [ev], k1]
            rfl
          · cases hl
        · cases hl
      · cases hl
    · cases hl
  · cases hl
end
end Go.E

namespace Go.E
open Go.RowKit

section
variable {C : Cfg} {K : Kn} {w : World} {f f' : Frame} {a : Act} {O : Nat → Own} {fid : Nat} {call : CallF} {o : Oper}

theorem eqL_same {n : Nat} : ∀ {fs : List Field} {xs ys : List AV} {cs ds : List Value} {S S' : Own}, flatFits C fs xs = true → eqL xs ys = some true → relL K w xs cs S → relL K w ys ds S' →
    ds.length = cs.length ∧ (ds.zip cs).all (fun (x, y) => Instr.sameBits (n + 1) x y) = true
  | [], [], ys, cs, ds, S, S', hf, he, hx, hy => by
    cases ys with
    | nil => rw [relL] at hx hy; subst hx hy; simp
    | cons y ys => simp [eqL] at he
  | [], _ :: _, ys, cs, ds, S, S', hf, he, hx, hy => by simp [flatFits] at hf
  | g :: fs, [], ys, cs, ds, S, S', hf, he, hx, hy => by simp [flatFits] at hf
  | g :: fs, x :: xs, [], cs, ds, S, S', hf, he, hx, hy => by simp [eqL] at he
  | g :: fs, x :: xs, y :: ys, cs, ds, S, S', hf, he, hx, hy => by
    rw [relL] at hx hy
    obtain ⟨c1, c2, T1, T2, rfl, _, _, _, h1, h2⟩ := hx
    obtain ⟨d1, d2, U1, U2, rfl, _, _, _, k1, k2⟩ := hy
    simp only [flatFits, Bool.and_eq_true] at hf
    rw [eqL] at he
    split at he
    · rename_i hxy
      obtain ⟨m1, m2⟩ := eqL_same (n := n) hf.2 he h2 k2
      have key : d1.length = c1.length ∧ (d1.zip c1).all (fun (x, y) => Instr.sameBits (n + 1) x y) = true := by
        rcases eqA_cases hxy with ⟨k, p, q, rfl, rfl, hb⟩ | ⟨p, q, rfl, rfl, hb⟩ | ⟨p, q, rfl, rfl, hb⟩
        · rw [rel] at h1 k1; subst h1 k1
          have : p = q := by simpa using hb.symm
          subst this
          simp [Instr.sameBits]
        · rw [rel] at h1 k1; subst h1 k1
          have : p = q := by simpa using hb.symm
          subst this
          simp [Instr.sameBits]
        · rw [rel] at h1 k1; subst h1 k1
          have : q.toList = p.toList := by simpa using (Eq.symm (by simpa using hb.symm : p.toList = q.toList))
          simp [Instr.sameBits, beq_toListBytes, this]
      refine ⟨by simp [m1, key.1], ?_⟩
      rw [List.zip_append key.1, List.all_append, key.2, m2]
      rfl
    · cases he
    · cases he

theorem eqK_same {t : TypeId} {x y : AV} {u v : Value} {S S' : Own} (hk : okKey C t x = true) (he : eqK x y = some true) (hx : relV K w x u S) (hy : relV K w y v S') : Instr.sameBits 10000 v u = true := by
  unfold eqK at he
  split at he
  · rename_i xs ys
    obtain ⟨cs, rfl, h1⟩ := hx
    obtain ⟨ds, rfl, h2⟩ := hy
    unfold okKey okAgg at hk
    simp only [Bool.and_eq_true] at hk
    obtain ⟨_, hk⟩ := hk
    split at hk
    · obtain ⟨m1, m2⟩ := eqL_same (n := 9998) hk he h1 h2
      simp only [Instr.sameBits, Bool.and_eq_true, beq_iff_eq]
      exact ⟨by simpa using m1, by simpa using m2⟩
    · cases hk
  · rcases eqA_cases he with ⟨k, p, q, rfl, rfl, hb⟩ | ⟨p, q, rfl, rfl, hb⟩ | ⟨p, q, rfl, rfl, hb⟩
    · rw [int_of hx, int_of hy]
      have : p = q := by simpa using hb.symm
      subst this
      simp [Instr.sameBits]
    · rw [bool_of hx, bool_of hy]
      have : p = q := by simpa using hb.symm
      subst this
      simp [Instr.sameBits]
    · rw [str_of hx, str_of hy]
      have : q.toList = p.toList := by simpa using (Eq.symm (by simpa using hb.symm : p.toList = q.toList))
      simp [Instr.sameBits, beq_toListBytes, this]

theorem findK_hit {k : AV} : ∀ {ks : List AV} {i j : Nat}, findK k ks i = some (some j) → ∃ x, i ≤ j ∧ ks[j - i]? = some x ∧ eqK k x = some true
  | [], i, j, h => by simp [findK] at h
  | x :: ks, i, j, h => by
    rw [findK] at h
    split at h
    · rename_i hk
      simp only [Option.some.injEq] at h
      subst h
      exact ⟨x, Nat.le_refl _, by simp, hk⟩
    · obtain ⟨y, h1, h2, h3⟩ := findK_hit h
      exact ⟨y, by omega, by rw [show j - i = (j - (i + 1)) + 1 by omega, List.getElem?_cons_succ]; exact h2, h3⟩
    · cases h

theorem relE_one {y : AV} {v : Value} (h : relV K w y v Own.no) (ht : isTup y = false) : ∃ cs, rel K w y cs Own.no ∧ asV y cs v := by
  obtain ⟨cs, h1, h2, _⟩ := relV_cells h (fun ys e => by rw [e] at ht; cases ht)
  exact ⟨cs, h1, h2⟩
theorem relE_set {y : AV} {v : Value} (hy : relV K w y v Own.no) (ht : isTup y = false) : ∀ {xs : List AV} {vs : List Value} {i : Nat}, relE K w xs vs → relE K w (xs.set i y) (vs.set i v)
  | [], vs, i, h => by rw [relE] at h; subst h; simp [relE]
  | x :: xs, vs, i, h => by
    rw [relE] at h
    obtain ⟨v0, vs', cs, rfl, h1, h2, h3⟩ := h
    cases i with
    | zero =>
      obtain ⟨cs', k1, k2⟩ := relE_one hy ht
      rw [List.set_cons_zero, List.set_cons_zero, relE]
      exact ⟨v, vs', cs', rfl, k1, (by clear ht hy k1; cases y <;> exact k2), h3⟩
    | succ i =>
      rw [List.set_cons_succ, List.set_cons_succ, relE]
      exact ⟨v0, vs'.set i v, cs, rfl, h1, h2, relE_set hy ht h3⟩
theorem relE_snoc {y : AV} {v : Value} (hy : relV K w y v Own.no) (ht : isTup y = false) : ∀ {xs : List AV} {vs : List Value}, relE K w xs vs → relE K w (xs ++ [y]) (vs ++ [v])
  | [], vs, h => by
    rw [relE] at h; subst h
    obtain ⟨cs', k1, k2⟩ := relE_one hy ht
    rw [List.nil_append, List.nil_append, relE]
    exact ⟨v, [], cs', rfl, k1, (by clear ht hy k1; cases y <;> exact k2), by rw [relE]⟩
  | x :: xs, vs, h => by
    rw [relE] at h
    obtain ⟨v0, vs', cs, rfl, h1, h2, h3⟩ := h
    rw [List.cons_append, List.cons_append, relE]
    exact ⟨v0, vs' ++ [v], cs, rfl, h1, h2, relE_snoc hy ht h3⟩

theorem run_setObj {r : Nat} {ob ob' : Obj} (h : w.heap[r]? = some ob) (hm : ∃ es c, ob = .map es c) : (setObj r ob').run C.P w = .ok () { w with heap := w.heap.setIfInBounds r ob' } := by
  obtain ⟨es, c, rfl⟩ := hm
  simp [setObj, Sem.run, h]

/-- A map gets other entries. -/
theorem setMap_keeps {b : Nat} {es es' : Array MapEntry} {c c' : Nat} (h : w.heap[b]? = some (.map es c)) :
    Keeps (blk b) w { w with heap := w.heap.setIfInBounds b (.map es' c') } ∧ ({ w with heap := w.heap.setIfInBounds b (.map es' c') } : World).heap[b]? = some (.map es' c') ∧
    ∀ (i o : Nat), ({ w with heap := w.heap.setIfInBounds b (.map es' c') } : World).cell? ⟨i, o, none⟩ = w.cell? ⟨i, o, none⟩ := by
  have hlt : b < w.heap.size := (Array.getElem?_eq_some_iff.1 h).1
  have hne : ∀ i, i ≠ b → (w.heap.setIfInBounds b (.map es' c'))[i]? = w.heap[i]? := fun i hi => Array.getElem?_setIfInBounds_ne (Ne.symm hi)
  have hcell : ∀ (i o : Nat), ({ w with heap := w.heap.setIfInBounds b (.map es' c') } : World).cell? ⟨i, o, none⟩ = w.cell? ⟨i, o, none⟩ := by
    intro i o
    by_cases hi : i = b
    · subst hi
      have e1 : (w.heap.setIfInBounds i (.map es' c'))[i]? = some (.map es' c') := by simp [hlt]
      simp only [World.cell?, e1, h]
    · simp only [World.cell?, hne i hi]
  refine ⟨⟨?_, by simp, fun i o _ _ => hcell i o, fun i _ hn => hne i (fun e => hn 0 e), rfl, rfl, rfl⟩, by simp [hlt], hcell⟩
  intro i cs e fr hi
  have : i ≠ b := by rintro rfl; rw [h] at hi; cases hi
  exact ⟨cs, by rw [hne i this]; exact hi, rfl⟩

theorem l_mapUpdate (hE : ∀ t, C.eqT t = true → EqT C.P t) {t : TypeId} {m : Nat} {k x : Operand} (ho : o.op = .mapUpdate t (.tmp m) k x) (h : FR K w f a.tmps O) (hs : Sat K w) (hl : loud C fid call o f = some f') : Does C.P o a w (LPost K w O f' a.tmps o.dst) := by
  unfold loud at hl
  rw [ho] at hl
  simp only at hl
  split at hl
  · rename_i kt et hu
    split at hl
    · rename_i s p ky xy c2 hg hk hx
      split at hl
      · cases hl
      rename_i hc
      simp only [Bool.not_eq_true', Bool.not_eq_false, Bool.and_eq_true, Bool.not_eq_true'] at hc
      obtain ⟨⟨⟨hok, hP⟩, hc2⟩, hxt⟩ := hc
      have hc2' : c2 = [] := by simpa using hc2
      subst hc2'
      split at hl
      · rename_i ks vs hy
        -- what is known
        obtain ⟨K0, g1, g2, g3⟩ := byValQ_sound h hs hx
        have hno : (ownOf O []).le Own.no := fun b o' ⟨c, hc, _⟩ => by cases hc
        have hxv : relV K w xy (ev a.tmps x) Own.no := relV_mono (grows_no (g1.mono hno)) (Meta.refl w) g3 (Agree.no _ _) (Own.le_refl _)
        obtain ⟨Sk, _, hkv⟩ := lookO_sound h hk
        have hkv0 := relV_P hP hkv
        have hkt : isTup ky = false := by
          cases ky <;> first | rfl | (simp [okKey, flat1] at hok)
        have hsl := h.slot m
        unfold SlotR at hsl
        rw [hg] at hsl
        -- the map's value
        have hmap : ∃ S1, relV K w (.map ks vs) (vals a.tmps m) S1 := by
          obtain ⟨S1, _, q⟩ := h.view hg hy
          exact ⟨S1, q⟩
        obtain ⟨S1, hmv⟩ := hmap
        have hmv' : rel K w _ _ _ := hmv
        rw [rel] at hmv'
        obtain ⟨b, es, c, hv, hb, hbS, hks, hvs⟩ := hmv'
        injection hv with hv
        have hlenk : ks.length = es.toList.length := by have := relE_len hks; simpa using this.symm
        have hlenv : vs.length = es.toList.length := by have := relE_len hvs; simpa using this.symm
        -- the general step
        have step : ∀ {ks' vs' : List AV} {es' : Array MapEntry} {c' : Nat} {z : Slot}, relE K w ks' (es'.toList.map (·.key)) → relE K w vs' (es'.toList.map (·.val)) →
            (Instr.mapUpdate t (vals a.tmps m) (ev a.tmps k) (ev a.tmps x)).run C.P w = .ok () { w with heap := w.heap.setIfInBounds b (.map es' c') } →
            updAt f s p (.map ks' vs') = some z → Does C.P o a w (LPost K w O (putO (f.set s z) o.dst .any) a.tmps o.dst) := by
          intro ks' vs' es' c' z hks' hvs' hrun hz
          obtain ⟨q1, q2, q3⟩ := setMap_keeps (es' := es') (c' := c') hb
          generalize { w with heap := w.heap.setIfInBounds b (.map es' c') } = w' at hrun q1 q2 q3
          have hrel : ∀ {S : Own}, (blk b).le S → rel K w' (.map ks' vs') [.map (some b)] S := fun hS => by
            rw [rel]
            exact ⟨b, es', c', rfl, q2, hS, relE_mono (Kn.le_refl K) q1.met hks', relE_mono (Kn.le_refl K) q1.met hvs'⟩
          have fin : ∀ {O1 : Nat → Own}, FR K w' (f.set s z) a.tmps O1 → (∀ u, (O1 u).le (O u)) → (blk b).le (tot O) → LPost K w O (putO (f.set s z) o.dst .any) a.tmps o.dst undef w' := by
            intro O1 h1 h2 h3
            refine h1.put_no (x := .any) ⟨?_, Kn.grows_refl K _, q1.mono h3, Own.le_trans (tot_mono h2) (Own.le_or_l _ _)⟩ trivial _
            refine hs.keep ?_ q1
            exact ⟨fun i o' hi => by obtain ⟨u, hu⟩ := h3 i o' hi; exact (h.free u).cell i o' hu, fun i o' hi => by obtain ⟨u, hu⟩ := h3 i o' hi; exact (h.free u).map i o' hu⟩
          have eo : ev a.tmps (.tmp m) = vals a.tmps m := rfl
          refine Does.skip (w' := w') (by simp [execOp, ho, eval_ev, eo, hrun]) ?_
          rcases hsl _ hy with ⟨rfl, e1, e2⟩ | ⟨hna, b1, o1, e1, e2⟩
          · -- the slot's own map
            have hz' : z = .v (.map ks' vs') := by
              unfold updAt at hz
              rw [e1] at hz
              simp only [rootOf, upd_nil, setRoot, Option.some.injEq] at hz
              exact hz.symm
            subst hz'
            have hown : (blk b).le (O s) := by
              have hv2 := h.val e1
              have hv3 : rel K w _ _ _ := hv2
              rw [rel] at hv3
              obtain ⟨b2, es2, c2, hv4, _, hS2, _⟩ := hv3
              injection hv4 with hv4
              rw [← e2, hv] at hv4
              injection hv4 with hv4
              injection hv4 with hv4
              subst hv4
              exact hS2
            have hAg : ∀ u, u ≠ s → Agree (O u) w w' := fun u hus => q1.agree ((h.disj s u (Ne.symm hus)).mono hown (Own.le_refl _)) (h.lt u)
            refine fin (O1 := fun u => if u = s then O s else O u) (h.set_same (by rw [e1]; rfl) ?_ (fun y e => by cases e) q3 (Kn.le_refl K) q1.met q1.size ?_ hAg (fun u _ => h.free u) (h.free s) (fun i o' hi => Nat.lt_of_lt_of_le (h.lt s i o' hi) q1.size) (fun u hus => h.disj s u (Ne.symm hus))) (fun u => ?_) (Own.le_trans hown (le_tot O s))
            · intro q z' hq
              cases q with
              | nil =>
                simp only [subOf, rootOf, sub, Option.some.injEq] at hq
                subst hq
                refine ⟨.map ks vs, by simp only [subAt, e1, rootOf, sub], (fun _ ys e => by cases e), ?_, fun _ _ => rfl⟩
                intro i o' e
                rw [e1] at e
                exact e.elim
              | cons i q => simp [subOf, rootOf, sub] at hq
            · show rel K w' _ _ _
              rw [← e2, hv]
              exact hrel hown
            · by_cases hus : u = s
              · subst hus; simp only [if_true]; exact Own.le_refl _
              · simp only [if_neg hus]; exact Own.le_refl _
          · have hp := AtS_ne e1
            obtain ⟨b2, o2, Sy, Sr, hL⟩ := h.lens hy hp
            obtain ⟨rfl, rfl⟩ := AtS_unique e1 hL.at_
            obtain ⟨cs, S2, h1, h2, h3, h4, h5⟩ := hL.obj
            obtain ⟨v0, rfl, hl1⟩ := one_cell h1 hna
            have hc := h2.cell (j := 0) (v := v0) rfl
            rw [Nat.add_zero, e2] at hc
            injection hc with hc
            rw [hv] at hc
            subst hc
            rw [rel] at h1
            obtain ⟨b3, es3, c3, hv3, _, hbS2, _⟩ := h1
            injection hv3 with hv3
            injection hv3 with hv3
            injection hv3 with hv3
            subst hv3
            have hbo : (blk b).le (O s) := Own.le_trans hbS2 (Own.le_trans h4 hL.le)
            have hAg : ∀ u, u ≠ s → Agree (O u) w w' := fun u hus => q1.agree ((h.disj s u (Ne.symm hus)).mono hbo (Own.le_refl _)) (h.lt u)
            have hob : obj K w' (.map ks' vs') b1 o1 Sy := by
              refine ⟨[.map (some b)], S2, hrel hbS2, ?_, h3, h4, h5⟩
              obtain ⟨cur, e, m1, m2, m3⟩ := h2
              have hne : b1 ≠ b := by rintro rfl; rw [hb] at m1; cases m1
              refine ⟨cur, e, ?_, m2, m3⟩
              rw [q1.blk b1 ((Array.getElem?_eq_some_iff.1 m1).1) (fun o' e => hne e)]
              exact m1
            refine fin (h.steady_at hL hy hp hz ?_ rfl q3 (Kn.le_refl K) q1.met q1.size hob (Own.le_refl _) (q1.agree (hL.disj.mono (Own.le_trans hbS2 h4) (Own.le_refl _)) (fun i o' hi => h.lt s i o' (hL.rest i o' hi))) hAg (fun u _ => h.free u) ((h.free s).mono hL.le) ((h.free s).mono hL.rest)) (fun u => ?_) (Own.le_trans hbo (le_tot O s))
            · intro r z' hr
              cases r with
              | nil =>
                simp only [sub, Option.some.injEq] at hr
                subst hr
                exact ⟨.map ks vs, by simp [sub], (fun _ ys e => by cases e), fun _ _ _ _ e => e⟩
              | cons i r => simp [sub] at hr
            · by_cases hus : u = s
              · subst hus; simp only [if_true]; exact Own.or_le hL.le hL.rest
              · simp only [if_neg hus]; exact Own.le_refl _
        split at hl
        · rename_i i hf
          split at hl
          · rename_i z hz
            simp only [Option.some.injEq] at hl
            subst hl
            obtain ⟨k1, k2⟩ := findKey_run hE hok hkv hks hf
            have hi := k2 i rfl
            obtain ⟨y0, _, m2, m3⟩ := findK_hit hf
            rw [Nat.sub_zero] at m2
            obtain ⟨u0, n1, n2⟩ := relE_get hks m2
            have hei : es.toList[i]? = some es.toList[i] := List.getElem?_eq_getElem hi
            rw [List.getElem?_map, hei, Option.map_some] at n1
            injection n1 with n1
            subst n1
            have hsb := eqK_same hok m3 hkv n2
            refine step (es' := es.modify i fun e => { e with key := ev a.tmps k, val := ev a.tmps x }) (c' := c) ?_ ?_ ?_ hz
            · have : (es.modify i fun e => { e with key := ev a.tmps k, val := ev a.tmps x }).toList.map (·.key) = (es.toList.map (·.key)).set i (ev a.tmps k) := by
                apply List.ext_getElem?
                intro j
                simp only [Array.toList_modify, List.getElem?_map, List.getElem?_modify, List.getElem?_set, List.length_map]
                by_cases hj : i = j
                · subst hj; simp [hei]; exact hi
                · simp [hj]
              rw [this]
              exact relE_set hkv0 hkt hks
            · have : (es.modify i fun e => { e with key := ev a.tmps k, val := ev a.tmps x }).toList.map (·.val) = (es.toList.map (·.val)).set i (ev a.tmps x) := by
                apply List.ext_getElem?
                intro j
                simp only [Array.toList_modify, List.getElem?_map, List.getElem?_modify, List.getElem?_set, List.length_map]
                by_cases hj : i = j
                · subst hj; simp [hei]; exact hi
                · simp [hj]
              rw [this]
              exact relE_set hxv hxt hvs
            · have hkey : ((es[i]?).map (·.key)).getD (ev a.tmps k) = es.toList[i].key := by
                rw [← Array.getElem?_toList, hei]; rfl
              unfold Instr.mapUpdate
              rw [Sem.run_bind, run_underlying hu, Result.andThen_ok, hv]
              simp only [Sem.run_bind, run_getObj_map hb, Result.andThen_ok, checkKey_run hE hok hkv, k1, hitAt, Nat.sub_zero, hei, Option.map_some]
              rw [hkey]
              simp only [Instr.keyThatStays, hsb, if_true, Sem.run_pure, Result.andThen_ok]
              exact run_setObj hb ⟨_, _, rfl⟩
          · cases hl
        · rename_i hf
          split at hl
          · rename_i z hz
            simp only [Option.some.injEq] at hl
            subst hl
            obtain ⟨k1, k2⟩ := findKey_run hE hok hkv hks hf
            refine step (es' := es.push { key := ev a.tmps k, val := ev a.tmps x, born := c }) (c' := c + 1) ?_ ?_ ?_ hz
            · rw [Array.toList_push, List.map_append]
              exact relE_snoc hkv0 hkt hks
            · rw [Array.toList_push, List.map_append]
              exact relE_snoc hxv hxt hvs
            · unfold Instr.mapUpdate
              rw [Sem.run_bind, run_underlying hu, Result.andThen_ok, hv]
              simp only [Sem.run_bind, run_getObj_map hb, Result.andThen_ok, checkKey_run hE hok hkv, k1, hitAt]
              exact run_setObj hb ⟨_, _, rfl⟩
          · cases hl
        · cases hl
      · cases hl
    · cases hl
  · cases hl
end
end Go.E

namespace Go.E
open Go.RowKit

section
variable {C : Cfg} {K K' : Kn} {w w' : World} {f g : Frame} {a : Array Value} {O Og : Nat → Own}

theorem CapsR_two {f g n : Frame} {a : Nat → Value} : ∀ {cs : List Cap} {vs : List Value}, CapsR K w f a cs vs → CapsR K' w' g a cs vs →
    (∀ i x, get n i = .cell x → (∃ x', get f i = .cell x') ∨ ∃ x', get g i = .cell x') → CapsR K' w' n a cs vs
  | [], _, _, h, _ => h
  | c :: cs, _, h1, h2, hh => by
    obtain ⟨v, vs', rfl, a1, a2⟩ := h1
    obtain ⟨v2, vs2, e, b1, b2⟩ := h2
    injection e with e1 e2
    subst e1 e2
    refine ⟨v, vs', rfl, ?_, CapsR_two a2 b2 hh⟩
    cases c with
    | slot c =>
      intro x hx
      rcases hh c x hx with ⟨x', e⟩ | ⟨x', e⟩
      · exact a1 x' e
      · exact b1 x' e
    | ro x => exact b1

theorem get_kill {f : Frame} (s : Nat) (p : List Nat) (u : Nat) : get (kill f s p) u = killed s p (get f u) := by rw [kill, get_map rfl]
theorem killed_root {s : Nat} {p : List Nat} {x : Slot} (h : rootish x = true) : killed s p x = x := by
  cases x <;> first | rfl | simp [rootish] at h
theorem rootish_of {x : Slot} {y : AV} (h : rootOf x = some y) : rootish x = true := by
  cases x with
  | v x => cases x <;> first | rfl | simp [rootOf] at h
  | cell x => rfl
  | _ => simp [rootOf] at h
theorem rootOf_killed {s : Nat} {p : List Nat} {x : Slot} {y : AV} (h : rootOf (killed s p x) = some y) : rootOf x = some y ∧ killed s p x = x := by
  rcases killed_ok s p x with e | ⟨e, _⟩
  · rw [e] at h; exact ⟨h, e⟩
  · rw [e] at h; simp [rootOf] at h
theorem cell_killed {s : Nat} {p : List Nat} {x : Slot} {y : AV} (h : killed s p x = .cell y) : x = .cell y := by
  rcases killed_ok s p x with e | ⟨e, _⟩
  · rw [← e, h]
  · rw [e] at h; cases h

/-- A root that was away comes back, changed at a place. -/
theorem FR.back_place (h : FR K w f a O) (h0 : FR K' w' g a Og) {s : Nat} {p : List Nat} {y y' : AV} {b o : Nat} {S Sy Sr Sy' : Own} {z : Slot}
    (hL : Lens K w f (vals a) s p y S b o Sy Sr) (hy : subAt f s p = some y) (hp : p ≠ [] ∨ ∃ x, get f s = .cell x) (hz : updAt f s p y' = some z) (hl : leaves y' = leaves y)
    (hgs : get g s = .any) (hgf : ∀ u, u ≠ s → get g u = get f u ∨ NoRef s (get g u))
    (hk : K.le K') (hm : Meta w w') (ho : obj K' w' y' b o Sy') (hd1 : Sy'.disj Sr) (hr : Agree Sr w w')
    (hf : Free K' (Sy'.or Sr)) (hlt : ∀ b o, (Sy'.or Sr) b o → b < w'.heap.size) (hd : ∀ t, t ≠ s → (Sy'.or Sr).disj (Og t)) :
    FR K' w' ((kill g s p).set s z) a (fun u => if u = s then Sy'.or Sr else Og u) := by
  obtain ⟨x, hx, hxy⟩ := subAt_root hy
  obtain ⟨x', hx', hroot', hro', hD⟩ := hL.upd x hx hk hm hr ho hl hd1
  have hC := hL.cell x
  have hslt : s < f.length := by
    rcases Nat.lt_or_ge s f.length with q | q
    · exact q
    · rw [get_big q] at hx; simp [rootOf] at hx
  have hz' : z = setRoot (get f s) x' := by
    unfold updAt at hz
    rw [hx] at hz
    simp only [hx'] at hz
    exact (Option.some.inj hz).symm
  subst hz'
  have hkl : (kill g s p).length = f.length := by simp [kill, h0.len, h.len]
  have hns : get ((kill g s p).set s (setRoot (get f s) x')) s = setRoot (get f s) x' := get_set_self (by omega)
  have hnu : ∀ u, u ≠ s → get ((kill g s p).set s (setRoot (get f s) x')) u = killed s p (get g u) := fun u hu => by rw [get_set_ne hu, get_kill]
  have hsubu : ∀ u q z, u ≠ s → subAt ((kill g s p).set s (setRoot (get f s) x')) u q = some z → subAt g u q = some z ∧ get ((kill g s p).set s (setRoot (get f s) x')) u = get g u := fun u q z hu hz => by
    obtain ⟨x1, h1, h2⟩ := subAt_root hz
    rw [hnu u hu] at h1
    obtain ⟨h3, h4⟩ := rootOf_killed h1
    exact ⟨by simp only [subAt, h3]; exact h2, by rw [hnu u hu, h4]⟩
  refine ⟨by simp [hkl, h.len], fun u => ?_, fun u1 u2 hu => ?_, fun u => ?_, fun u b o hu => ?_⟩
  · by_cases hu : u = s
    · subst hu
      simp only [if_true]
      unfold SlotR
      rw [hns]
      rcases rootOf_setRoot_cases (x' := x') hx with ⟨y0, e, e2⟩ | ⟨e, e2⟩
      · rw [e2]; rw [e2] at hroot'; exact hroot'
      · rw [e2]; rw [e2] at hroot'; exact hroot'
    · simp only [if_neg hu]
      have hsu0 := h0.slot u
      unfold SlotR at hsu0 ⊢
      rw [hnu u hu]
      cases hg : get g u with
      | any => trivial
      | non => rw [hg] at hsu0; exact hsu0
      | v z => rw [hg] at hsu0; exact hsu0
      | cell z => rw [hg] at hsu0; exact hsu0
      | loc s2 q =>
        rw [hg] at hsu0
        by_cases hc : (s2 == s && p.isPrefixOf q && p != q) = true
        · simp only [killed, if_pos hc]
        simp only [killed, if_neg hc]
        rintro ⟨z, hz⟩
        by_cases hs : s2 = s
        · subst hs
          have hfu : get f u = .loc s2 q := by
            rcases hgf u hu with e | e
            · rw [← e, hg]
            · rw [hg] at e; exact absurd rfl e
          have hsu := h.slot u
          unfold SlotR at hsu
          rw [hfu] at hsu
          have hq : ¬(p <+: q ∧ p ≠ q) := fun hh => hc (by simp [isPrefixOf_iff.2 hh.1, hh.2])
          rw [hns]
          have hsome : ∃ z0, subAt f s2 q = some z0 := by
            obtain ⟨x1, h1, h2⟩ := subAt_root hz
            rw [hns, hro'] at h1
            injection h1 with h1
            subst h1
            obtain ⟨z0, hz0⟩ := sub_upd_some hx' hxy h2 hq
            exact ⟨z0, by simp only [subAt, hx]; exact hz0⟩
          obtain ⟨b, o, h1, h2⟩ := hsu hsome
          exact ⟨b, o, h1, hD q b o hq h2⟩
        · obtain ⟨h1, h2⟩ := hsubu s2 q z hs hz
          rw [h2]
          exact hsu0 ⟨z, h1⟩
      | box s2 q =>
        rw [hg] at hsu0
        by_cases hc : (s2 == s && p.isPrefixOf q && p != q) = true
        · simp only [killed, if_pos hc]
        simp only [killed, if_neg hc]
        rintro ⟨z, hz⟩
        by_cases hs : s2 = s
        · subst hs
          have hfu : get f u = .box s2 q := by
            rcases hgf u hu with e | e
            · rw [← e, hg]
            · rw [hg] at e; exact absurd rfl e
          have hsu := h.slot u
          unfold SlotR at hsu
          rw [hfu] at hsu
          have hq : ¬(p <+: q ∧ p ≠ q) := fun hh => hc (by simp [isPrefixOf_iff.2 hh.1, hh.2])
          rw [hns]
          have hsome : ∃ z0, subAt f s2 q = some z0 := by
            obtain ⟨x1, h1, h2⟩ := subAt_root hz
            rw [hns, hro'] at h1
            injection h1 with h1
            subst h1
            obtain ⟨z0, hz0⟩ := sub_upd_some hx' hxy h2 hq
            exact ⟨z0, by simp only [subAt, hx]; exact hz0⟩
          obtain ⟨bq, oq, b, o, h1, hKq, h2⟩ := hsu hsome
          exact ⟨bq, oq, b, o, h1, hk.cell _ _ _ hKq, hD q b o hq h2⟩
        · obtain ⟨h1, h2⟩ := hsubu s2 q z hs hz
          rw [h2]
          exact hsu0 ⟨z, h1⟩
      | view s2 q =>
        rw [hg] at hsu0
        by_cases hc : (s2 == s && p.isPrefixOf q) = true
        · simp only [killed, if_pos hc]
        simp only [killed, if_neg hc]
        intro z hz
        by_cases hs : s2 = s
        · subst hs
          have hfu : get f u = .view s2 q := by
            rcases hgf u hu with e | e
            · rw [← e, hg]
            · rw [hg] at e; exact absurd rfl e
          have hsu := h.slot u
          unfold SlotR at hsu
          rw [hfu] at hsu
          have hq : ¬(p <+: q) := fun hh => hc (by simp [isPrefixOf_iff.2 hh])
          have hq' : ¬(p <+: q ∧ p ≠ q) := fun hh => hq hh.1
          obtain ⟨x1, h1, h2⟩ := subAt_root hz
          rw [hns, hro'] at h1
          injection h1 with h1
          subst h1
          obtain ⟨z0, hz0⟩ := sub_upd_some hx' hxy h2 hq'
          have hz0' : subAt f s2 q = some z0 := by simp only [subAt, hx]; exact hz0
          rcases hsu z0 hz0' with ⟨rfl, k2, k3⟩ | ⟨hna, b, o, k1, k2⟩
          · left
            refine ⟨rfl, ?_, k3⟩
            rw [hns]
            rcases rootOf_setRoot_cases (x' := x') hx with ⟨y0, e, e2⟩ | ⟨e, e2⟩
            · rw [e] at k2; cases k2
            · rw [e2]; simp only [sub, Option.some.injEq] at h2; rw [h2]
          · right
            refine ⟨?_, b, o, by rw [hns]; exact hD q b o hq' k1, ?_⟩
            · exact sub_upd_na hx' hxy h2 hq hz0 hna
            · rw [hr.cell b o (hC q z0 b o hx hq hz0 hna k1)]; exact k2
        · obtain ⟨h1, h2⟩ := hsubu s2 q z hs hz
          rw [h2]
          exact hsu0 z h1
      | clo g' cs =>
        rw [hg] at hsu0
        obtain ⟨vs, h1, h2⟩ := hsu0
        refine ⟨vs, h1, ?_⟩
        rcases hgf u hu with e | e
        · have hsu := h.slot u
          unfold SlotR at hsu
          rw [← e, hg] at hsu
          obtain ⟨vs2, k1, k2⟩ := hsu
          rw [h1] at k1
          injection k1 with _ _ k1
          have : vs = vs2 := by simpa using k1
          subst this
          refine CapsR_two k2 h2 fun i x hi => ?_
          by_cases his : i = s
          · subst his
            rw [hns] at hi
            rcases rootOf_setRoot_cases (x' := x') hx with ⟨y0, e, e2⟩ | ⟨e, e2⟩
            · exact .inl ⟨y0, e⟩
            · rw [e2] at hi; cases hi
          · rw [hnu i his] at hi
            exact .inr ⟨x, cell_killed hi⟩
        · rw [hg] at e
          refine CapsR_frame h2 ?_
          rintro c hc i x rfl hi
          have his := e _ hc i rfl
          rw [hnu i his] at hi
          exact ⟨⟨x, cell_killed hi⟩, rfl⟩
  · by_cases h1 : u1 = s
    · subst h1
      simp only [if_true, if_neg (Ne.symm hu)]
      exact hd u2 (Ne.symm hu)
    · by_cases h2 : u2 = s
      · subst h2
        simp only [if_true, if_neg h1]
        exact (hd u1 h1).symm
      · simp only [if_neg h1, if_neg h2]
        exact h0.disj u1 u2 hu
  · by_cases h1 : u = s
    · simp only [if_pos h1]; exact hf
    · simp only [if_neg h1]; exact h0.free u
  · by_cases h1 : u = s
    · simp only [if_pos h1] at hu; exact hlt b o hu
    · simp only [if_neg h1] at hu; exact h0.lt u b o hu

/-- The same, of a slot's whole tree (not a box). -/
theorem FR.back_own (h : FR K w f a O) (h0 : FR K' w' g a Og) {s : Nat} {y y' : AV} {Sy' : Own} (hy : get f s = .v y) (hro : rootOf (.v y) = some y)
    (hgf : ∀ u, u ≠ s → get g u = get f u ∨ NoRef s (get g u))
    (ho : relV K' w' y' (vals a s) Sy') (hf : Free K' Sy') (hlt : ∀ b o, Sy' b o → b < w'.heap.size) (hd : ∀ t, t ≠ s → Sy'.disj (Og t)) :
    FR K' w' ((kill g s []).set s (.v y')) a (fun u => if u = s then Sy' else Og u) := by
  have hslt : s < f.length := by
    rcases Nat.lt_or_ge s f.length with q | q
    · exact q
    · rw [get_big q] at hy; cases hy
  have hkl : (kill g s []).length = f.length := by simp [kill, h0.len, h.len]
  have hns : get ((kill g s []).set s (.v y')) s = .v y' := get_set_self (by omega)
  have hnu : ∀ u, u ≠ s → get ((kill g s []).set s (.v y')) u = killed s [] (get g u) := fun u hu => by rw [get_set_ne hu, get_kill]
  have hsubu : ∀ u q z, u ≠ s → subAt ((kill g s []).set s (.v y')) u q = some z → subAt g u q = some z ∧ get ((kill g s []).set s (.v y')) u = get g u := fun u q z hu hz => by
    obtain ⟨x1, h1, h2⟩ := subAt_root hz
    rw [hnu u hu] at h1
    obtain ⟨h3, h4⟩ := rootOf_killed h1
    exact ⟨by simp only [subAt, h3]; exact h2, by rw [hnu u hu, h4]⟩
  refine ⟨by simp [hkl, h.len], fun u => ?_, fun u1 u2 hu => ?_, fun u => ?_, fun u b o hu => ?_⟩
  · by_cases hu : u = s
    · subst hu
      simp only [if_true]
      unfold SlotR
      rw [hns]
      exact ho
    · simp only [if_neg hu]
      have hsu0 := h0.slot u
      unfold SlotR at hsu0 ⊢
      rw [hnu u hu]
      cases hg : get g u with
      | any => trivial
      | non => rw [hg] at hsu0; exact hsu0
      | v z => rw [hg] at hsu0; exact hsu0
      | cell z => rw [hg] at hsu0; exact hsu0
      | loc s2 q =>
        rw [hg] at hsu0
        by_cases hc : (s2 == s && ([] : List Nat).isPrefixOf q && [] != q) = true
        · simp only [killed, if_pos hc]
        simp only [killed, if_neg hc]
        rintro ⟨z, hz⟩
        by_cases hs : s2 = s
        · subst hs
          have hq : q = [] := by
            cases q with
            | nil => rfl
            | cons i q => exact absurd (by simp) hc
          subst hq
          have hfu : get f u = .loc s2 [] := by
            rcases hgf u hu with e | e
            · rw [← e, hg]
            · rw [hg] at e; exact absurd rfl e
          have hsu := h.slot u
          unfold SlotR at hsu
          rw [hfu] at hsu
          obtain ⟨b, o, _, k⟩ := hsu ⟨y, by simp only [subAt, hy, hro]; exact sub_nil y⟩
          rw [hy] at k
          cases y <;> first | (exact k.elim) | (obtain ⟨_, _, _, _, _, _, _, e, _⟩ := k; cases e)
        · obtain ⟨h1, h2⟩ := hsubu s2 q z hs hz
          rw [h2]
          exact hsu0 ⟨z, h1⟩
      | box s2 q =>
        rw [hg] at hsu0
        by_cases hc : (s2 == s && ([] : List Nat).isPrefixOf q && [] != q) = true
        · simp only [killed, if_pos hc]
        simp only [killed, if_neg hc]
        rintro ⟨z, hz⟩
        by_cases hs : s2 = s
        · subst hs
          have hq : q = [] := by
            cases q with
            | nil => rfl
            | cons i q => exact absurd (by simp) hc
          subst hq
          have hfu : get f u = .box s2 [] := by
            rcases hgf u hu with e | e
            · rw [← e, hg]
            · rw [hg] at e; exact absurd rfl e
          have hsu := h.slot u
          unfold SlotR at hsu
          rw [hfu] at hsu
          obtain ⟨bq, oq, b, o, _, hKq, k⟩ := hsu ⟨y, by simp only [subAt, hy, hro]; exact sub_nil y⟩
          rw [hy] at k
          cases y <;> first | (exact k.elim) | (obtain ⟨_, _, _, _, _, _, _, e, _⟩ := k; cases e)
        · obtain ⟨h1, h2⟩ := hsubu s2 q z hs hz
          rw [h2]
          exact hsu0 ⟨z, h1⟩
      | view s2 q =>
        rw [hg] at hsu0
        by_cases hs : s2 = s
        · subst hs; simp [killed]
        · have hc : ¬((s2 == s && ([] : List Nat).isPrefixOf q) = true) := by simp [hs]
          simp only [killed, if_neg hc]
          intro z hz
          obtain ⟨h1, h2⟩ := hsubu s2 q z hs hz
          rw [h2]
          exact hsu0 z h1
      | clo g' cs =>
        rw [hg] at hsu0
        obtain ⟨vs, h1, h2⟩ := hsu0
        refine ⟨vs, h1, CapsR_frame h2 ?_⟩
        rintro c hc i x rfl hi
        by_cases his : i = s
        · subst his; rw [hns] at hi; cases hi
        · rw [hnu i his] at hi
          exact ⟨⟨x, cell_killed hi⟩, rfl⟩
  · by_cases h1 : u1 = s
    · subst h1
      simp only [if_true, if_neg (Ne.symm hu)]
      exact hd u2 (Ne.symm hu)
    · by_cases h2 : u2 = s
      · subst h2
        simp only [if_true, if_neg h1]
        exact (hd u1 h1).symm
      · simp only [if_neg h1, if_neg h2]
        exact h0.disj u1 u2 hu
  · by_cases h1 : u = s
    · simp only [if_pos h1]; exact hf
    · simp only [if_neg h1]; exact h0.free u
  · by_cases h1 : u = s
    · simp only [if_pos h1] at hu; exact hlt b o hu
    · simp only [if_neg h1] at hu; exact h0.lt u b o hu

/-- Arguments that are values, with what they own. -/
def ArgR (K : Kn) (w : World) (a : Array Value) (T : Own) (O1 : Nat → Own) : List Operand → List (Option AV) → List Own → Prop
  | [], [], [] => True
  | x :: xs, y :: ys, S :: Ss => (match y with | some y => relV K w y (ev a x) S | none => S = Own.no) ∧ Free K S ∧ (∀ u, S.disj (O1 u)) ∧ S.le T ∧ (∀ U ∈ Ss, S.disj U) ∧ ArgR K w a T O1 xs ys Ss
  | _, _, _ => False

theorem ArgR.le {T T' : Own} {O1 : Nat → Own} (hT : T.le T') : ∀ {xs : List Operand} {ys : List (Option AV)} {Ss : List Own}, ArgR K w a T O1 xs ys Ss → ArgR K w a T' O1 xs ys Ss ∧ ∀ S ∈ Ss, S.le T
  | [], [], [], _ => ⟨trivial, by simp⟩
  | x :: xs, y :: ys, S :: Ss, h => by
    obtain ⟨h1, h2, h3, h4, h5, h6⟩ := h
    obtain ⟨k1, k2⟩ := ArgR.le hT h6
    refine ⟨⟨h1, h2, h3, Own.le_trans h4 hT, h5, k1⟩, fun U hU => ?_⟩
    rcases List.mem_cons.1 hU with rfl | hU
    · exact h4
    · exact k2 U hU
  | [], [], _ :: _, h => h.elim
  | [], _ :: _, _, h => by cases ‹List Own› <;> exact h.elim
  | _ :: _, [], _, h => by cases ‹List Own› <;> exact h.elim
  | _ :: _, _ :: _, [], h => h.elim

theorem valsOf_sound {own : Nat → Bool} : ∀ {l : List (TypeId × Operand)} {i : Nat} {K : Kn} {f f' : Frame} {O : Nat → Own} {ys : List (Option AV)}, FR K w f a O → Sat K w → valsOf C own f i l = some (ys, f') →
    ∃ K' O' Ss, Froze K w a O K' f' O' ∧ ArgR K' w a (tot O) O' (l.map (·.2)) ys Ss ∧ (noOwn own i l.length = true → ∀ S ∈ Ss, S = Own.no)
  | [], i, K, f, f', O, ys, h, hs, hv => by
    simp only [valsOf, Option.some.injEq, Prod.mk.injEq] at hv
    obtain ⟨rfl, rfl⟩ := hv
    exact ⟨K, O, [], Froze.refl h hs, trivial, by simp⟩
  | (ty, x) :: l, i, K, f, f', O, ys, h, hs, hv => by
    rw [valsOf] at hv
    split at hv
    · split at hv
      · rename_i ys' f2 hv2
        simp only [Option.some.injEq, Prod.mk.injEq] at hv
        obtain ⟨rfl, rfl⟩ := hv
        obtain ⟨K2, O2, Ss, k1, k2, k3⟩ := valsOf_sound h hs hv2
        refine ⟨K2, O2, Own.no :: Ss, k1, ⟨rfl, Free.no _, fun _ => Own.no_disj _, Own.no_le _, fun _ _ => Own.no_disj _, k2⟩, fun hn S hS => ?_⟩
        simp only [List.length_cons, noOwn, Bool.and_eq_true] at hn
        rcases List.mem_cons.1 hS with rfl | hS
        · rfl
        · exact k3 hn.2 S hS
      · cases hv
    · split at hv
      · rename_i y f1 hm
        split at hv
        · rename_i ys' f2 hv2
          simp only [Option.some.injEq, Prod.mk.injEq] at hv
          obtain ⟨rfl, rfl⟩ := hv
          have key : ∃ K1 O1 S, Froze K w a O K1 f1 O1 ∧ relV K1 w y (ev a x) S ∧ S.le (tot O) ∧ Free K1 S ∧ (∀ u, S.disj (O1 u)) ∧ (own i = false → S = Own.no) := by
            split at hm
            · rename_i ho
              obtain ⟨K1, O1, S, q1, q2, q3, q4, q5⟩ := moveOut_sound h hs hm
              exact ⟨K1, O1, S, q1, q2, q3, q4, q5, fun e => by rw [e] at ho; cases ho⟩
            · obtain ⟨K1, O1, k1, k2⟩ := byVal_sound h hs hm
              exact ⟨K1, O1, Own.no, k1, k2, Own.no_le _, Free.no _, fun _ => Own.no_disj _, fun _ => rfl⟩
          obtain ⟨K1, O1, S, k1, k2, k3, k4, k5, k6⟩ := key
          obtain ⟨K2, O2, Ss, m1, m2, mn⟩ := valsOf_sound k1.fr k1.sat hv2
          obtain ⟨m3, m4⟩ := ArgR.le (tot_mono k1.le) m2
          have hdt : S.disj (tot O1) := fun b o hb ⟨u, hu⟩ => k5 u b o hb hu
          refine ⟨K2, O2, S :: Ss, k1.trans m1, ⟨relV_mono m1.grows.le (Meta.refl w) k2 (Agree.refl _ _) (Own.le_refl _), k4.grows m1.grows hdt.symm, fun u => (k5 u).mono (Own.le_refl _) (m1.le u), k3,
            fun U hU => hdt.mono (Own.le_refl _) (m4 U hU), m3⟩, fun hn U hU => ?_⟩
          simp only [List.length_cons, noOwn, Bool.and_eq_true, Bool.not_eq_true'] at hn
          rcases List.mem_cons.1 hU with rfl | hU
          · exact k6 hn.1
          · exact mn hn.2 U hU
        · cases hv
      · cases hv
end
end Go.E

namespace Go.E
open Go.RowKit

section
variable {C : Cfg} {K K' : Kn} {w w' : World} {f g : Frame} {a : Array Value} {O Og : Nat → Own}

/-- A lent place can come back. -/
def Ready (f : Frame) (a : Array Value) (K' : Kn) (w' : World) (sl : Slot) (s : Nat) (p : List Nat) (y : AV) (r : Slot) (B R : Own) : Prop :=
  ∀ (g : Frame) (Og : Nat → Own) (y' : AV) (e e1 : Frame), FR K' w' g a Og → get g s = .any → (∀ u, u ≠ s → get g u = get f u ∨ NoRef s (get g u)) → gave sl r = some y' → leaves y' = leaves y →
    (∀ t, t ≠ s → (B.or R).disj (Og t)) → get e s = get f s → setAt e s p y' = some e1 →
    ∃ z Oz, e1 = (kill e s p).set s z ∧ (∀ s', NoRef s' z) ∧ Oz.le (B.or R) ∧ FR K' w' ((kill g s p).set s z) a (fun u => if u = s then Oz else Og u)

theorem gave_cell {sl r : Slot} {y y' : AV} (h : gave sl r = some y') (hs : sl = .cell y) : r = .cell y' := by
  subst hs
  cases r <;> simp [gave] at h
  subst h; rfl
theorem gave_v {sl r : Slot} {y y' : AV} (h : gave sl r = some y') (hs : sl = .v y) : r = .v y' ∧ isTup y' = false ∧ isAgg y' = false := by
  subst hs
  cases r <;> simp [gave] at h
  obtain ⟨h1, rfl⟩ := h
  exact ⟨rfl, h1.1, h1.2⟩

theorem setAt_eq {e e1 : Frame} {s : Nat} {p : List Nat} {y' : AV} (h : setAt e s p y' = some e1) (hg : get e s = get f s) : ∃ z, updAt f s p y' = some z ∧ e1 = (kill e s p).set s z := by
  unfold setAt at h
  split at h
  · rename_i z hz
    injection h with h
    refine ⟨z, ?_, h.symm⟩
    unfold updAt at hz ⊢
    rw [hg] at hz
    exact hz
  · cases h
theorem updAt_noref {s : Nat} {p : List Nat} {y' : AV} {z : Slot} (h : updAt f s p y' = some z) : ∀ s', NoRef s' z := by
  unfold updAt at h
  split at h
  · split at h
    · injection h with h
      subst h
      intro s'
      cases get f s <;> exact trivial
    · cases h
  · cases h

theorem lend_sound (h : FR K w f a O) {x : Operand} {sl : Slot} {s : Nat} {p : List Nat} {y : AV} (hl : lend f x = some (sl, s, p, y)) :
    ∃ A R, selfR K w sl (ev a x) A ∧ A.le (O s) ∧ R.le (O s) ∧ A.disj R ∧
      ∀ {K' : Kn} {w' : World} {r : Slot} {B : Own}, K.le K' → Meta w w' → Agree R w w' → w.heap.size ≤ w'.heap.size → selfR K' w' r (ev a x) B → B.disj R → Free K' B → Free K' R → (∀ b o, B b o → b < w'.heap.size) →
        Ready f a K' w' sl s p y r B R := by
  have place : ∀ {t : Nat} {b o : Nat}, x = .tmp t → sl = .cell y → subAt f s p = some y → vals a t = .pointer (some ⟨b, o, none⟩) → AtS w (get f s) (vals a s) p b o →
      ∃ A R, selfR K w sl (ev a x) A ∧ A.le (O s) ∧ R.le (O s) ∧ A.disj R ∧
      ∀ {K' : Kn} {w' : World} {r : Slot} {B : Own}, K.le K' → Meta w w' → Agree R w w' → w.heap.size ≤ w'.heap.size → selfR K' w' r (ev a x) B → B.disj R → Free K' B → Free K' R → (∀ b o, B b o → b < w'.heap.size) →
        Ready f a K' w' sl s p y r B R := by
    intro t b o hx hsl hy hv hat
    subst hx hsl
    have hp := AtS_ne hat
    obtain ⟨b', o', Sy, Sr, hL⟩ := h.lens hy hp
    obtain ⟨rfl, rfl⟩ := AtS_unique hat hL.at_
    refine ⟨Sy, Sr, ⟨b, o, hv, hL.obj⟩, hL.le, hL.rest, hL.disj, ?_⟩
    intro K' w' r B hk hm hr hsz hB hBR hf1 hf2 hlt
    intro g Og y' e e1 h0 hgs hgf hgv hlv hd heg hset
    have hr' := gave_cell hgv rfl
    subst hr'
    obtain ⟨b2, o2, e2, ho⟩ := hB
    have e2' : vals a t = .pointer (some ⟨b2, o2, none⟩) := e2
    rw [hv] at e2'
    injection e2' with e2'
    injection e2' with e2'
    injection e2' with e3 e4
    subst e3 e4
    obtain ⟨z, hz, he1⟩ := setAt_eq hset heg
    refine ⟨z, B.or Sr, he1, updAt_noref hz, Own.le_refl _, h.back_place h0 hL hy hp hz hlv hgs hgf hk hm ho hBR hr (hf1.or hf2) ?_ hd⟩
    rintro i j (q | q)
    · exact hlt i j q
    · exact Nat.lt_of_lt_of_le (h.lt s i j (hL.rest i j q)) hsz
  unfold lend at hl
  split at hl
  · rename_i t
    split at hl
    · rename_i y0 hg
      simp only [Option.some.injEq, Prod.mk.injEq] at hl
      obtain ⟨rfl, rfl, rfl, rfl⟩ := hl
      obtain ⟨b, o, h1, h2⟩ := h.cellR hg
      exact place rfl rfl (by simp only [subAt, hg, rootOf]; exact sub_nil y0) h1 (by rw [hg, h1]; exact ⟨b, o, rfl, rfl, rfl⟩)
    · rename_i s0 p0 hg
      split at hl
      · rename_i y0 hy
        simp only [Option.some.injEq, Prod.mk.injEq] at hl
        obtain ⟨rfl, rfl, rfl, rfl⟩ := hl
        have hsl := h.slot t
        unfold SlotR at hsl
        rw [hg] at hsl
        obtain ⟨b, o, h1, h2⟩ := hsl ⟨_, hy⟩
        exact place rfl rfl hy h1 h2
      · cases hl
    · rename_i s0 p0 hg
      split at hl
      · rename_i y0 hy
        simp only [Option.some.injEq, Prod.mk.injEq] at hl
        obtain ⟨rfl, rfl, rfl, rfl⟩ := hl
        have hsl := h.slot t
        unfold SlotR at hsl
        rw [hg] at hsl
        rcases hsl _ hy with ⟨rfl, e1, e2⟩ | ⟨hna, b, o, e1, e2⟩
        · have hro : rootOf (.v y0) = some y0 := by
            obtain ⟨x, h1, h2⟩ := subAt_root hy
            rw [e1] at h1
            rw [sub_nil] at h2
            injection h2 with h2
            rw [h1, h2]
          refine ⟨O s0, Own.no, ?_, Own.le_refl _, Own.no_le _, Own.disj_no _, ?_⟩
          · show relV K w y0 (vals a t) (O s0)
            rw [e2]
            exact h.val e1
          intro K' w' r B hk hm hr hsz hB hBR hf1 hf2 hlt
          intro g Og y' e e1' h0 hgs hgf hgv hlv hd heg hset
          obtain ⟨rfl, ht, hag⟩ := gave_v hgv rfl
          obtain ⟨z, hz, he1⟩ := setAt_eq hset heg
          have hz' : z = .v y' := by
            unfold updAt at hz
            rw [e1, hro] at hz
            simp only [upd_nil, setRoot, Option.some.injEq] at hz
            exact hz.symm
          subst hz'
          have hB' : relV K' w' y' (vals a s0) B := by rw [← e2]; exact hB
          exact ⟨_, B, he1, fun _ => trivial, Own.le_or_l _ _, h.back_own h0 e1 hro hgf hB' hf1 hlt (fun u hu => (hd u hu).mono (Own.le_or_l _ _) (Own.le_refl _))⟩
        · have hp := AtS_ne e1
          obtain ⟨b', o', Sy, Sr, hL⟩ := h.lens hy hp
          obtain ⟨rfl, rfl⟩ := AtS_unique e1 hL.at_
          obtain ⟨cs, S1, h1, h2, h3, h4, h5⟩ := hL.obj
          obtain ⟨v0, rfl, hl1⟩ := one_cell h1 hna
          have hc := h2.cell (j := 0) (v := v0) rfl
          rw [Nat.add_zero, e2] at hc
          injection hc with hc
          subst hc
          rw [hl1] at h3 h5
          refine ⟨S1, (rng b o 1).or Sr, relV_of_cells h1 (by cases y0 <;> first | rfl | (exact absurd rfl (hna _))), Own.le_trans h4 hL.le, Own.or_le (Own.le_trans h3 hL.le) hL.rest, Own.disj_or' h5 (hL.disj.mono h4 (Own.le_refl _)), ?_⟩
          intro K' w' r B hk hm hr hsz hB hBR hf1 hf2 hlt
          intro g Og y' e e1' h0 hgs hgf hgv hlv hd heg hset
          obtain ⟨rfl, ht, hag⟩ := gave_v hgv rfl
          obtain ⟨z, hz, he1⟩ := setAt_eq hset heg
          have hB' : relV K' w' y' (vals a t) B := hB
          have hrel : rel K' w' y' [vals a t] B := by
            cases y' with
            | tup ys => simp [isTup] at ht
            | agg ys => simp [isAgg] at hag
            | _ => exact hB'
          have hl2 : leaves y' = 1 := by rw [hlv, hl1]
          have hmem : Mem w' b o [vals a t] := h2.agree hm hr (Own.le_or_l _ _)
          have ho : obj K' w' y' b o (B.or (rng b o 1)) := ⟨[vals a t], B, hrel, hmem, by rw [hl2]; exact Own.le_or_r _ _, Own.le_or_l _ _, by rw [hl2]; exact hBR.mono (Own.le_refl _) (Own.le_or_l _ _)⟩
          have hle : ((B.or (rng b o 1)).or Sr).le (B.or ((rng b o 1).or Sr)) := by
            rintro i j ((q | q) | q)
            · exact .inl q
            · exact .inr (.inl q)
            · exact .inr (.inr q)
          refine ⟨z, (B.or (rng b o 1)).or Sr, he1, updAt_noref hz, hle, h.back_place h0 hL hy hp hz hlv hgs hgf hk hm ho ?_ (fun_agree hr) ?_ ?_ (fun u hu => (hd u hu).mono hle (Own.le_refl _))⟩
          · exact Own.disj_or (hBR.mono (Own.le_refl _) (Own.le_or_r _ _)) (hL.disj.mono h3 (Own.le_refl _))
          · exact (hf1.or (hf2.mono (Own.le_or_l _ _))).or (hf2.mono (Own.le_or_r _ _))
          · rintro i j ((q | q) | q)
            · exact hlt i j q
            · exact Nat.lt_of_lt_of_le (h.lt s0 i j (hL.le i j (h3 i j q))) hsz
            · exact Nat.lt_of_lt_of_le (h.lt s0 i j (hL.rest i j q)) hsz
      · cases hl
    · cases hl
  · cases hl
where
  fun_agree {b o : Nat} {Sr : Own} {w w' : World} (hr : Agree ((rng b o 1).or Sr) w w') : Agree Sr w w' := hr.mono (Own.le_or_r _ _)

/-- All that is lent, and what of it stays here. -/
def FillR (K : Kn) (w : World) (f : Frame) (a : Array Value) (T : Own) (O : Nat → Own) : List Operand → List (Option AV) → List Slot → List Nat → List Own → List Own → Prop
  | [], [], ags, ls, As, Rs => ags = [] ∧ ls = [] ∧ As = [] ∧ Rs = []
  | x :: xs, some y :: ys, ags, ls, As, Rs => ∃ as' A As' Rs', ags = .v y :: as' ∧ As = A :: As' ∧ Rs = Own.no :: Rs' ∧ relV K w y (ev a x) A ∧ Free K A ∧ (∀ u, A.disj (O u)) ∧ A.le T ∧ (∀ U ∈ As', A.disj U) ∧ FillR K w f a T O xs ys as' ls As' Rs'
  | x :: xs, none :: ys, ags, ls, As, Rs => ∃ sl s p y as' ls' A R As' Rs', ags = sl :: as' ∧ ls = s :: ls' ∧ As = A :: As' ∧ Rs = R :: Rs' ∧ s ∉ ls' ∧ lend f x = some (sl, s, p, y) ∧ selfR K w sl (ev a x) A ∧ A.le (O s) ∧ R.le (O s) ∧ A.disj R ∧
      (∀ {K' : Kn} {w' : World} {r : Slot} {B : Own}, K.le K' → Meta w w' → Agree R w w' → w.heap.size ≤ w'.heap.size → selfR K' w' r (ev a x) B → B.disj R → Free K' B → Free K' R → (∀ b o, B b o → b < w'.heap.size) →
        Ready f a K' w' sl s p y r B R) ∧ (∀ U ∈ As', A.disj U) ∧ FillR K w f a T O xs ys as' ls' As' Rs'
  | _, _, _, _, _, _ => False

theorem fill_sound (h : FR K w f a O) {T : Own} : ∀ {xs : List Operand} {ys : List (Option AV)} {Ss : List Own} {ags : List Slot} {ls : List Nat}, ArgR K w a T O xs ys Ss → fill f xs ys = some (ags, ls) →
    ∃ As Rs, FillR K w f a T O xs ys ags ls As Rs ∧ (∀ A ∈ As, (∃ S ∈ Ss, A.le S) ∨ ∃ s ∈ ls, A.le (O s))
  | [], [], Ss, ags, ls, _, hf => by
    simp only [fill, Option.some.injEq, Prod.mk.injEq] at hf
    obtain ⟨rfl, rfl⟩ := hf
    exact ⟨[], [], ⟨rfl, rfl, rfl, rfl⟩, by simp⟩
  | x :: xs, some y :: ys, Ss, ags, ls, hA, hf => by
    cases Ss with
    | nil => exact hA.elim
    | cons S Ss =>
    obtain ⟨h1, h2, h3, h4, h5, h6⟩ := hA
    rw [fill] at hf
    split at hf
    · rename_i as' ls' hf'
      simp only [Option.some.injEq, Prod.mk.injEq] at hf
      obtain ⟨rfl, rfl⟩ := hf
      obtain ⟨As, Rs, k1, k2⟩ := fill_sound h h6 hf'
      refine ⟨S :: As, Own.no :: Rs, ⟨as', S, As, Rs, rfl, rfl, rfl, h1, h2, h3, h4, fun U hU => ?_, k1⟩, fun A hA => ?_⟩
      · rcases k2 U hU with ⟨S', hS', hle⟩ | ⟨s, hs, hle⟩
        · exact (h5 S' hS').mono (Own.le_refl _) hle
        · exact (h3 s).mono (Own.le_refl _) hle
      · rcases List.mem_cons.1 hA with rfl | hA
        · exact .inl ⟨_, List.mem_cons_self .., Own.le_refl _⟩
        · rcases k2 A hA with ⟨S', hS', hle⟩ | q
          · exact .inl ⟨S', List.mem_cons_of_mem _ hS', hle⟩
          · exact .inr q
    · cases hf
  | x :: xs, none :: ys, Ss, ags, ls, hA, hf => by
    cases Ss with
    | nil => exact hA.elim
    | cons S Ss =>
    obtain ⟨h1, h2, h3, h4, h5, h6⟩ := hA
    rw [fill] at hf
    split at hf
    · rename_i sl s p y hl
      split at hf
      · rename_i as' ls' hf'
        split at hf
        · cases hf
        rename_i hs
        simp only [Option.some.injEq, Prod.mk.injEq] at hf
        obtain ⟨rfl, rfl⟩ := hf
        have hs' : s ∉ ls' := by simpa using hs
        obtain ⟨As, Rs, k1, k2⟩ := fill_sound h h6 hf'
        obtain ⟨A, R, m1, m2, m3, m4, m5⟩ := lend_sound h hl
        refine ⟨A :: As, R :: Rs, ⟨sl, s, p, y, as', ls', A, R, As, Rs, rfl, rfl, rfl, rfl, hs', hl, m1, m2, m3, m4, m5, fun U hU => ?_, k1⟩, fun U hU => ?_⟩
        · rcases k2 U hU with ⟨S', hS', hle⟩ | ⟨s', hs2, hle⟩
          · have hd : ∀ {xs : List Operand} {ys : List (Option AV)} {Ss : List Own}, ArgR K w a T O xs ys Ss → ∀ S ∈ Ss, ∀ u, S.disj (O u) := by
              intro xs
              induction xs with
              | nil =>
                intro ys Ss hh
                cases ys with
                | nil =>
                  cases Ss with
                  | nil => intro S hS; cases hS
                  | cons S Ss => exact hh.elim
                | cons y ys => cases Ss <;> exact hh.elim
              | cons x xs ih =>
                intro ys Ss hh
                cases ys with
                | nil => cases Ss <;> exact hh.elim
                | cons y ys =>
                  cases Ss with
                  | nil => exact hh.elim
                  | cons S Ss =>
                    obtain ⟨_, _, q3, _, _, q6⟩ := hh
                    intro S0 hS0
                    rcases List.mem_cons.1 hS0 with rfl | hS0
                    · exact q3
                    · exact ih q6 S0 hS0
            exact ((hd h6 S' hS' s).symm).mono m2 hle
          · exact (h.disj s s' (fun e => hs' (e ▸ hs2))).mono m2 hle
        · rcases List.mem_cons.1 hU with rfl | hU
          · exact .inr ⟨s, List.mem_cons_self .., m2⟩
          · rcases k2 U hU with ⟨S', hS', hle⟩ | ⟨s', hs2, hle⟩
            · exact .inl ⟨S', List.mem_cons_of_mem _ hS', hle⟩
            · exact .inr ⟨s', List.mem_cons_of_mem _ hs2, hle⟩
      · cases hf
    · cases hf
  | [], _ :: _, Ss, ags, ls, _, hf => by simp [fill] at hf
  | _ :: _, [], Ss, ags, ls, _, hf => by simp [fill] at hf
end
end Go.E

namespace Go.E
open Go.RowKit

section
variable {C : Cfg} {K K' : Kn} {w w' : World} {f g : Frame} {a : Array Value} {O Og : Nat → Own}

theorem frame_ext {f g : Frame} (hl : f.length = g.length) (h : ∀ u, get f u = get g u) : f = g := by
  apply List.ext_getElem hl
  intro i h1 h2
  have := h i
  simp only [get, List.getD_eq_getElem?_getD, List.getElem?_eq_getElem h1, List.getElem?_eq_getElem h2, Option.getD_some] at this
  exact this

theorem slot_self {sl : Slot} {t : Nat} {a : Nat → Value} {S : Own} (h : SlotR K w f a t S) (hg : get f t = sl) (hs : (∃ y, sl = .cell y) ∨ ∃ y, sl = .v y) : selfR K w sl (a t) S := by
  unfold SlotR at h
  rw [hg] at h
  rcases hs with ⟨y, rfl⟩ | ⟨y, rfl⟩ <;> exact h

theorem gave_form {sl r : Slot} {y' : AV} (h : gave sl r = some y') : (∃ y, r = .cell y) ∨ ∃ y, r = .v y := by
  cases sl <;> cases r <;> simp [gave] at h <;> first | exact .inl ⟨_, rfl⟩ | exact .inr ⟨_, rfl⟩

theorem lend_root {x : Operand} {sl : Slot} {s : Nat} {p : List Nat} {y : AV} (h : lend f x = some (sl, s, p, y)) : rootish (get f s) = true := by
  unfold lend at h
  split at h
  · split at h
    · rename_i y0 hg
      simp only [Option.some.injEq, Prod.mk.injEq] at h
      obtain ⟨_, rfl, _, _⟩ := h
      rw [hg]; rfl
    · split at h
      · rename_i y0 hy
        simp only [Option.some.injEq, Prod.mk.injEq] at h
        obtain ⟨_, rfl, _, _⟩ := h
        obtain ⟨x, h1, _⟩ := subAt_root hy
        exact rootish_of h1
      · cases h
    · split at h
      · rename_i y0 hy
        simp only [Option.some.injEq, Prod.mk.injEq] at h
        obtain ⟨_, rfl, _, _⟩ := h
        obtain ⟨x, h1, _⟩ := subAt_root hy
        exact rootish_of h1
      · cases h
    · cases h
  · cases h

theorem FillR.rs {T : Own} : ∀ {xs : List Operand} {ys : List (Option AV)} {ags : List Slot} {ls : List Nat} {As Rs : List Own}, FillR K w f a T O xs ys ags ls As Rs →
    (∀ R ∈ Rs, R = Own.no ∨ ∃ s ∈ ls, R.le (O s)) ∧ (∀ s ∈ ls, rootish (get f s) = true) ∧ ags.length = xs.length ∧ As.length = xs.length ∧
    (∀ (t : Nat) (sl : Slot), ags[t]? = some sl → ∃ x A, xs[t]? = some x ∧ As[t]? = some A ∧ selfR K w sl (ev a x) A)
  | [], [], ags, ls, As, Rs, h => by obtain ⟨rfl, rfl, rfl, rfl⟩ := h; simp
  | x :: xs, some y :: ys, ags, ls, As, Rs, h => by
    obtain ⟨as', A, As', Rs', rfl, rfl, rfl, h1, _, _, _, _, h2⟩ := h
    obtain ⟨k1, k2, k3, k4, k5⟩ := FillR.rs h2
    refine ⟨fun R hR => ?_, k2, by simp [k3], by simp [k4], fun t sl ht => ?_⟩
    · rcases List.mem_cons.1 hR with rfl | hR
      · exact .inl rfl
      · exact k1 R hR
    · cases t with
      | zero =>
        simp only [List.getElem?_cons_zero, Option.some.injEq] at ht
        subst ht
        exact ⟨x, A, rfl, rfl, h1⟩
      | succ t => simpa using k5 t sl (by simpa using ht)
  | x :: xs, none :: ys, ags, ls, As, Rs, h => by
    obtain ⟨sl, s, p, y, as', ls', A, R, As', Rs', rfl, rfl, rfl, rfl, h0, h1, h2, h3, h4, _, _, _, h5⟩ := h
    obtain ⟨k1, k2, k3, k4, k5⟩ := FillR.rs h5
    refine ⟨fun U hU => ?_, fun u hu => ?_, by simp [k3], by simp [k4], fun t sl' ht => ?_⟩
    · rcases List.mem_cons.1 hU with rfl | hU
      · exact .inr ⟨s, List.mem_cons_self .., h4⟩
      · rcases k1 U hU with q | ⟨s', hs', q⟩
        · exact .inl q
        · exact .inr ⟨s', List.mem_cons_of_mem _ hs', q⟩
    · rcases List.mem_cons.1 hu with rfl | hu
      · exact lend_root h1
      · exact k2 u hu
    · cases t with
      | zero =>
        simp only [List.getElem?_cons_zero, Option.some.injEq] at ht
        subst ht
        exact ⟨x, A, rfl, rfl, h2⟩
      | succ t => simpa using k5 t sl' (by simpa using ht)
  | [], _ :: _, _, _, _, _, h => h.elim
  | _ :: _, [], _, _, _, _, h => h.elim

theorem FillR.disj {T : Own} : ∀ {xs : List Operand} {ys : List (Option AV)} {ags : List Slot} {ls : List Nat} {As Rs : List Own}, FillR K w f a T O xs ys ags ls As Rs → ∀ s t, s ≠ t → (As.getD s Own.no).disj (As.getD t Own.no)
  | [], [], ags, ls, As, Rs, h, s, t, _ => by obtain ⟨rfl, rfl, rfl, rfl⟩ := h; simp [Own.no_disj]
  | x :: xs, y :: ys, ags, ls, As, Rs, h, s, t, hst => by
    have key : ∃ A As' as' ls' Rs', As = A :: As' ∧ (∀ U ∈ As', A.disj U) ∧ FillR K w f a T O xs ys as' ls' As' Rs' := by
      cases y with
      | some y => obtain ⟨as', A, As', Rs', rfl, rfl, rfl, _, _, _, _, h1, h2⟩ := h; exact ⟨A, As', as', ls, Rs', rfl, h1, h2⟩
      | none => obtain ⟨sl, s, p, y, as', ls', A, R, As', Rs', rfl, rfl, rfl, rfl, _, _, _, _, _, _, _, h1, h2⟩ := h; exact ⟨A, As', as', ls', Rs', rfl, h1, h2⟩
    obtain ⟨A, As', as', ls', Rs', rfl, h1, h2⟩ := key
    have hget : ∀ t, A.disj (As'.getD t Own.no) := fun t => by
      rw [List.getD_eq_getElem?_getD]
      cases ht : As'[t]? with
      | none => exact Own.disj_no _
      | some U => exact h1 U (List.mem_of_getElem? ht)
    cases s with
    | zero =>
      cases t with
      | zero => exact absurd rfl hst
      | succ t => simpa using hget t
    | succ s =>
      cases t with
      | zero => simpa using (hget s).symm
      | succ t => simpa using FillR.disj h2 s t (fun e => hst (by rw [e]))
  | [], _ :: _, _, _, _, _, h, _, _, _ => h.elim
  | _ :: _, [], _, _, _, _, h, _, _, _ => h.elim

/-- What was lent comes back. -/
theorem backs_sound (h : FR K w f a O) {T : Own} {outs : List Slot} {vs : Array Value} {O' : Nat → Own} (hO : FR K' w' outs vs O') (hk : K.le K') (hm : Meta w w') (hsz : w.heap.size ≤ w'.heap.size) :
    ∀ {xs : List Operand} {ys : List (Option AV)} {ags : List Slot} {ls : List Nat} {As Rs : List Own} {i : Nat} {rs : List Slot} {g e e' : Frame} {Og : Nat → Own}, FillR K w f a T O xs ys ags ls As Rs → rs = outs.drop i →
    (∀ (j : Nat) (x : Operand), xs[j]? = some x → vals vs (i + j) = ev a x) → FR K' w' g a Og →
    (∀ u, get g u = get e u ∨ (u ∈ ls ∧ get g u = .any ∧ get e u = get f u)) → (∀ s ∈ ls, get g s = .any ∧ get e s = get f s) → (∀ u s, s ∈ ls → u ≠ s → get g u = get f u ∨ NoRef s (get g u)) → e.length = g.length →
    (∀ R ∈ Rs, Agree R w w' ∧ Free K' R ∧ (∀ u, R.disj (Og u)) ∧ ∀ j, (O' j).disj R) → (∀ j, i ≤ j → ∀ u, (O' j).disj (Og u)) → backs f e xs ys rs = some e' →
    ∃ O2, FR K' w' e' a O2 ∧ ∀ Z : Own, (∀ u, Z.disj (Og u)) → (∀ R ∈ Rs, Z.disj R) → (∀ j, Z.disj (O' j)) → ∀ u, Z.disj (O2 u)
  | [], [], ags, ls, As, Rs, i, rs, g, e, e', Og, hF, hrs, hvs, hg, h1, h2, h3, hlen, h4, h5, hb => by
    obtain ⟨rfl, rfl, rfl, rfl⟩ := hF
    simp only [backs, Option.some.injEq] at hb
    subst hb
    have : g = e := frame_ext hlen.symm fun u => (h1 u).resolve_right (by simp)
    subst this
    exact ⟨Og, hg, fun Z hZ _ _ => hZ⟩
  | x :: xs, some y :: ys, ags, ls, As, Rs, i, rs, g, e, e', Og, hF, hrs, hvs, hg, h1, h2, h3, hlen, h4, h5, hb => by
    obtain ⟨as', A, As', Rs', rfl, rfl, rfl, _, _, _, _, _, hF⟩ := hF
    cases rs with
    | nil => simp [backs] at hb
    | cons r rs =>
    rw [backs] at hb
    have hrs' : rs = outs.drop (i + 1) := by rw [← List.drop_drop, ← hrs]; rfl
    obtain ⟨O2, k1, k2⟩ := backs_sound h hO hk hm hsz (i := i + 1) hF hrs' (fun j x hj => by rw [Nat.add_assoc, Nat.add_comm 1 j]; exact hvs (j + 1) x (by simpa using hj)) hg h1 h2 h3 hlen
      (fun R hR => h4 R (List.mem_cons_of_mem _ hR)) (fun j hj => h5 j (by omega)) hb
    exact ⟨O2, k1, fun Z z1 z2 z3 => k2 Z z1 (fun R hR => z2 R (List.mem_cons_of_mem _ hR)) z3⟩
  | x :: xs, none :: ys, ags, ls, As, Rs, i, rs, g, e, e', Og, hF, hrs, hvs, hg, h1, h2, h3, hlen, h4, h5, hb => by
    obtain ⟨sl, s, p, y, as', ls', A, R, As', Rs', rfl, rfl, rfl, rfl, hs, hl, f1, f2, f3, f4, hready, _, hF⟩ := hF
    cases rs with
    | nil => simp [backs] at hb
    | cons r rs =>
    rw [backs, hl] at hb
    simp only at hb
    split at hb
    · rename_i y' hgv
      split at hb
      · rename_i hlv
        have hlv : leaves y' = leaves y := by simpa using hlv
        split at hb
        · rename_i e1 hset
          have hri : outs[i]? = some r := by
            have : (outs.drop i)[0]? = some r := by rw [← hrs]; rfl
            simpa using this
          have hri' : get outs i = r := by simp [get, List.getD_eq_getElem?_getD, hri]
          have hself : selfR K' w' r (ev a x) (O' i) := by
            have := slot_self (hO.slot i) hri' (gave_form hgv)
            rwa [show vals vs i = ev a x from hvs 0 x rfl] at this
          obtain ⟨q1, q2, q3, q4⟩ := h4 R (List.mem_cons_self ..)
          obtain ⟨gs, es⟩ := h2 s (List.mem_cons_self ..)
          obtain ⟨z, Oz, m1, m2, m3, m4⟩ := hready hk hm q1 hsz hself (q4 i) (hO.free i) q2 (fun b o hb => hO.lt i b o hb) g Og y' e e1 hg gs (fun u hu => h3 u s (List.mem_cons_self ..) hu) hgv hlv
            (fun t _ => Own.disj_or (h5 i (Nat.le_refl _) t) (q3 t)) es hset
          subst m1
          have hrs' : rs = outs.drop (i + 1) := by rw [← List.drop_drop, ← hrs]; rfl
          obtain ⟨r1, r2, _, _, _⟩ := FillR.rs hF
          have hlen' : ((kill e s p).set s z).length = ((kill g s p).set s z).length := by simp [kill, hlen]
          have hne : ∀ {e : Frame} {u : Nat}, u ≠ s → get ((kill e s p).set s z) u = killed s p (get e u) := fun hu => by rw [get_set_ne hu, get_kill]
          have hRR : ∀ R' ∈ Rs', R'.disj R := fun R' hR' => by
            rcases r1 R' hR' with rfl | ⟨s', hs', hle⟩
            · exact Own.no_disj _
            · exact (h.disj s' s (fun e => hs (e ▸ hs'))).mono hle f3
          refine (fun (hkey : ∃ O2, FR K' w' e' a O2 ∧ ∀ Z : Own, (∀ u, Z.disj (if u = s then Oz else Og u)) → (∀ R ∈ Rs', Z.disj R) → (∀ j, Z.disj (O' j)) → ∀ u, Z.disj (O2 u)) => ?_)
            (backs_sound h hO hk hm hsz (i := i + 1) hF hrs' (fun j x hj => by rw [Nat.add_assoc, Nat.add_comm 1 j]; exact hvs (j + 1) x (by simpa using hj)) m4
            (fun u => ?_) (fun s' hs' => ?_) (fun u s' hs' hu => ?_) hlen' (fun R' hR' => ?_) (fun j hj u => ?_) hb)
          · obtain ⟨O2, k1, k2⟩ := hkey
            refine ⟨O2, k1, fun Z z1 z2 z3 => k2 Z (fun u => ?_) (fun R hR => z2 R (List.mem_cons_of_mem _ hR)) z3⟩
            by_cases hu : u = s
            · simp only [if_pos hu]
              exact (Own.disj_or' (z3 i) (z2 R (List.mem_cons_self ..))).mono (Own.le_refl _) m3
            · simp only [if_neg hu]; exact z1 u
          · by_cases hu : u = s
            · subst hu
              left
              by_cases hlt : u < (kill g u p).length
              · rw [get_set_self hlt, get_set_self (by simpa [kill, hlen] using hlt)]
              · rw [get_big (by simpa using hlt), get_big (by simpa [kill, hlen] using hlt)]
            · rw [hne hu, hne hu]
              rcases h1 u with q | ⟨q, qa, qb⟩
              · left; rw [q]
              · rcases List.mem_cons.1 q with q | q
                · exact absurd q hu
                · right
                  refine ⟨q, by rw [qa]; rfl, by rw [qb, killed_root (r2 u q)]⟩
          · have hss : s' ≠ s := fun e => hs (e ▸ hs')
            obtain ⟨qa, qb⟩ := h2 s' (List.mem_cons_of_mem _ hs')
            rw [hne hss, hne hss, qa, qb, killed_root (r2 s' hs')]
            exact ⟨rfl, rfl⟩
          · by_cases hus : u = s
            · subst hus
              right
              by_cases hlt : u < (kill g u p).length
              · rw [get_set_self hlt]; exact m2 s'
              · rw [get_big (by simpa using hlt)]; trivial
            · rw [hne hus]
              rcases killed_ok s p (get g u) with q | ⟨q, _⟩
              · rw [q]; exact h3 u s' (List.mem_cons_of_mem _ hs') hu
              · rw [q]; right; trivial
          · obtain ⟨a1, a2, a3, a4⟩ := h4 R' (List.mem_cons_of_mem _ hR')
            refine ⟨a1, a2, fun u => ?_, a4⟩
            by_cases hu : u = s
            · simp only [if_pos hu]
              exact (Own.disj_or' (a4 i).symm (hRR R' hR')).mono (Own.le_refl _) m3
            · simp only [if_neg hu]; exact a3 u
          · by_cases hu : u = s
            · simp only [if_pos hu]
              exact (Own.disj_or' (hO.disj j i (by omega)) (q4 j)).mono (Own.le_refl _) m3
            · simp only [if_neg hu]; exact h5 j (by omega) u
        · cases hb
      · cases hb
    · cases hb
  | [], _ :: _, _, _, _, _, _, _, _, _, _, _, hF, _, _, _, _, _, _, _, _, _, _ => hF.elim
  | _ :: _, [], _, _, _, _, _, _, _, _, _, _, hF, _, _, _, _, _, _, _, _, _, _ => hF.elim
end
end Go.E

namespace Go.E
open Go.RowKit

mutual
theorem flat_rel {K K' : Kn} {w w' : World} : ∀ {x : AV} {cs : List Value} {S : Own}, flatA x = true → rel K w x cs S → rel K' w' x cs Own.no
  | .int _ _, _, _, _, h => by rw [rel] at h ⊢; exact h
  | .bool _, _, _, _, h => by rw [rel] at h ⊢; exact h
  | .str _, _, _, _, h => by rw [rel] at h ⊢; exact h
  | .agg xs, _, _, hf, h => by rw [rel] at h ⊢; exact flat_relL (by simpa [flatA] using hf) h
  | .tup _, _, _, _, h => by rw [rel] at h; exact h.elim
  | .undef, _, _, hf, _ => by simp [flatA] at hf
  | .nilp, _, _, hf, _ => by simp [flatA] at hf
  | .nilf, _, _, hf, _ => by simp [flatA] at hf
  | .sl _ _, _, _, hf, _ => by simp [flatA] at hf
  | .osl _ _, _, _, hf, _ => by simp [flatA] at hf
  | .arr _ _, _, _, hf, _ => by simp [flatA] at hf
  | .ro _, _, _, hf, _ => by simp [flatA] at hf
  | .fn _ _, _, _, hf, _ => by simp [flatA] at hf
  | .map _ _, _, _, hf, _ => by simp [flatA] at hf
  | .rmap _ _, _, _, hf, _ => by simp [flatA] at hf
theorem flat_relL {K K' : Kn} {w w' : World} : ∀ {xs : List AV} {cs : List Value} {S : Own}, flatL xs = true → relL K w xs cs S → relL K' w' xs cs Own.no
  | [], _, _, _, h => by rw [relL] at h ⊢; exact h
  | x :: xs, _, _, hf, h => by
    rw [relL] at h ⊢
    rw [flatL, Bool.and_eq_true] at hf
    obtain ⟨c1, c2, S1, S2, rfl, _, _, _, h1, h2⟩ := h
    exact ⟨c1, c2, Own.no, Own.no, rfl, Own.le_refl _, Own.le_refl _, Own.no_disj _, flat_rel hf.1 h1, flat_relL hf.2 h2⟩
end
theorem flat_relT {K K' : Kn} {w w' : World} : ∀ {xs : List AV} {vs : List Value} {S : Own}, flatL xs = true → relV.relT K w xs vs S → relV.relT K' w' xs vs Own.no
  | [], _, _, _, h => by rw [relV.relT] at h ⊢; exact h
  | x :: xs, _, _, hf, h => by
    rw [relV.relT] at h ⊢
    rw [flatL, Bool.and_eq_true] at hf
    obtain ⟨v, vs', S1, S2, rfl, _, _, _, ⟨cs, h1, h2⟩, h3⟩ := h
    exact ⟨v, vs', Own.no, Own.no, rfl, Own.le_refl _, Own.le_refl _, Own.no_disj _, ⟨cs, flat_rel hf.1 h1, h2⟩, flat_relT hf.2 h3⟩
theorem flat_relV {K K' : Kn} {w w' : World} {x : AV} {v : Value} {S : Own} (hf : flatA x = true) (h : relV K w x v S) : relV K' w' x v Own.no := by
  cases x with
  | tup xs => obtain ⟨vs, rfl, h⟩ := h; exact ⟨vs, rfl, flat_relT (by simpa [flatA] using hf) h⟩
  | agg xs => obtain ⟨cs, rfl, h⟩ := h; exact ⟨cs, rfl, flat_relL (by simpa [flatA] using hf) h⟩
  | int _ _ => exact flat_rel (K := K) (w := w) (S := S) hf h
  | bool _ => exact flat_rel (K := K) (w := w) (S := S) hf h
  | str _ => exact flat_rel (K := K) (w := w) (S := S) hf h
  | _ => simp [flatA] at hf

section
variable {C : Cfg} {K K' : Kn} {w w' : World} {f g : Frame} {a : Array Value} {O Og : Nat → Own}

theorem FillR.own (h : FR K w f a O) {T : Own} : ∀ {xs : List Operand} {ys : List (Option AV)} {ags : List Slot} {ls : List Nat} {As Rs : List Own}, FillR K w f a T O xs ys ags ls As Rs →
    ∀ A ∈ As, Free K A ∧ ((A.le T ∧ ∀ u, A.disj (O u)) ∨ ∃ s ∈ ls, A.le (O s)) ∧ ∀ R ∈ Rs, A.disj R
  | [], [], ags, ls, As, Rs, hF, A, hA => by obtain ⟨rfl, rfl, rfl, rfl⟩ := hF; cases hA
  | x :: xs, some y :: ys, ags, ls, As, Rs, hF, A, hA => by
    obtain ⟨as', A0, As', Rs', rfl, rfl, rfl, _, h2, h3, h4, _, h6⟩ := hF
    obtain ⟨k1, _⟩ := FillR.rs h6
    rcases List.mem_cons.1 hA with rfl | hA
    · refine ⟨h2, .inl ⟨h4, h3⟩, fun R hR => ?_⟩
      rcases List.mem_cons.1 hR with rfl | hR
      · exact Own.disj_no _
      · rcases k1 R hR with rfl | ⟨s, _, hle⟩
        · exact Own.disj_no _
        · exact (h3 s).mono (Own.le_refl _) hle
    · obtain ⟨m1, m2, m3⟩ := FillR.own h h6 A hA
      refine ⟨m1, m2, fun R hR => ?_⟩
      rcases List.mem_cons.1 hR with rfl | hR
      · exact Own.disj_no _
      · exact m3 R hR
  | x :: xs, none :: ys, ags, ls, As, Rs, hF, A, hA => by
    obtain ⟨sl, s, p, y, as', ls', A0, R0, As', Rs', rfl, rfl, rfl, rfl, h0, h1, _, h3, h4, h5, _, _, h6⟩ := hF
    obtain ⟨k1, _⟩ := FillR.rs h6
    rcases List.mem_cons.1 hA with rfl | hA
    · refine ⟨(h.free s).mono h3, .inr ⟨s, List.mem_cons_self .., h3⟩, fun R hR => ?_⟩
      rcases List.mem_cons.1 hR with rfl | hR
      · exact h5
      · rcases k1 R hR with rfl | ⟨s', hs', hle⟩
        · exact Own.disj_no _
        · exact (h.disj s s' (fun e => h0 (e ▸ hs'))).mono h3 hle
    · obtain ⟨m1, m2, m3⟩ := FillR.own h h6 A hA
      refine ⟨m1, m2.imp id (fun ⟨s', hs', q⟩ => ⟨s', List.mem_cons_of_mem _ hs', q⟩), fun R hR => ?_⟩
      rcases List.mem_cons.1 hR with rfl | hR
      · rcases m2 with ⟨_, q⟩ | ⟨s', hs', q⟩
        · exact (q s).mono (Own.le_refl _) h4
        · exact (h.disj s' s (fun e => h0 (e ▸ hs'))).mono q h4
      · exact m3 R hR
  | [], _ :: _, _, _, _, _, hF, _, _ => hF.elim
  | _ :: _, [], _, _, _, _, hF, _, _ => hF.elim

theorem get_dropAll : ∀ (ls : List Nat) (f : Frame) (u : Nat), get (dropAll f ls) u = if u ∈ ls then .any else get f u
  | [], f, u => by simp [dropAll]
  | s :: ls, f, u => by
    have := get_dropAll ls (f.set s .any) u
    unfold dropAll at this ⊢
    rw [List.foldl_cons, this]
    by_cases h1 : u ∈ ls
    · simp [h1]
    · by_cases h2 : u = s
      · subst h2
        simp only [h1, if_false, List.mem_cons, true_or, if_true]
        by_cases hlt : u < f.length
        · rw [get_set_self hlt]
        · rw [get_big (by simpa using hlt)]
      · simp [h1, h2, get_set_ne h2]
theorem dropAll_length : ∀ (ls : List Nat) (f : Frame), (dropAll f ls).length = f.length
  | [], f => rfl
  | s :: ls, f => by
    have := dropAll_length ls (f.set s .any)
    unfold dropAll at this ⊢
    rw [List.foldl_cons, this, List.length_set]

theorem callA_sound {call : CallF} (hC : CallOK C call) (h : FR K w f a O) (hs : Sat K w) {k : FuncId} {args : List (TypeId × Operand)} {caps : List AV} {cvs : List Value} {d : Option Nat} {f' : Frame}
    (hcaps : relE K w caps cvs) (hc : callA C call f d k args caps = some f') :
    Calls C.P k (args.map (fun x => ev a x.2) ++ cvs).toArray w (fun e w' => ∃ v, e = .returned v ∧ LPost K w O f' a d v w') ∧ ∃ fn, C.P.funcs[k]? = some fn ∧ fn.body.isNone = false ∧ (fn.name == "runtime.NumGoroutine") = false := by
  unfold callA at hc
  split at hc
  · cases hc
  rename_i ys f1 hv
  split at hc
  · cases hc
  rename_i ags ls hfill
  split at hc
  · cases hc
  rename_i r outs hr
  obtain ⟨K1, O1, Ss, k1, k2, k3⟩ := valsOf_sound h hs hv
  obtain ⟨As, Rs, hF, hAs⟩ := fill_sound k1.fr k2 hfill
  obtain ⟨r1, r2, r3, r4, r5⟩ := FillR.rs hF
  have hown := FillR.own k1.fr hF
  have hAO : ∀ A ∈ As, A.le (tot O) := fun A hA => by
    rcases (hown A hA).2.1 with ⟨q, _⟩ | ⟨s, _, q⟩
    · exact q
    · exact Own.le_trans q (Own.le_trans (k1.le s) (le_tot O s))
  have hgetA : ∀ t, As.getD t Own.no ∈ As ∨ As.getD t Own.no = Own.no := fun t => by
    rw [List.getD_eq_getElem?_getD]
    cases ht : As[t]? with
    | none => exact .inr rfl
    | some A => exact .inl (List.mem_of_getElem? ht)
  have hlenc := relE_len hcaps
  have hvals : ∀ (j : Nat) (x : Operand), (args.map (·.2))[j]? = some x → vals (args.map (fun x => ev a x.2) ++ cvs).toArray j = ev a x := by
    intro j x hj
    have hlt := (List.getElem?_eq_some_iff.1 hj).1
    simp only [List.length_map] at hlt
    simp only [vals, Array.getD_eq_getD_getElem?, List.getElem?_toArray]
    rw [List.getElem?_append_left (by simpa using hlt)]
    rw [List.getElem?_map] at hj ⊢
    cases ha : args[j]? with
    | none => simp [ha] at hj
    | some q => simp only [ha, Option.map_some, Option.some.injEq] at hj ⊢; subst hj; rfl
  -- the callee's frame
  have hFR : FR K1 w (ags ++ caps.map .v) (args.map (fun x => ev a x.2) ++ cvs).toArray (fun t => As.getD t Own.no) := by
    refine ⟨by simp [r3, hlenc], fun t => ?_, FillR.disj hF, fun t => ?_, fun t b o hb => ?_⟩
    · rcases Nat.lt_or_ge t ags.length with ht | ht
      · have hs1 : ags[t]? = some ags[t] := List.getElem?_eq_getElem ht
        obtain ⟨x, A, m1, m2, m3⟩ := r5 t _ hs1
        have e1 : As.getD t Own.no = A := by rw [List.getD_eq_getElem?_getD, m2]; rfl
        rw [e1]
        refine selfR_slot m3 ?_ (hvals t x m1)
        simp only [get, List.getD_eq_getElem?_getD, List.getElem?_append_left ht, hs1, Option.getD_some]
      · unfold SlotR
        have e0 : get (ags ++ caps.map .v) t = get (caps.map .v) (t - ags.length) := by
          simp only [get, List.getD_eq_getElem?_getD, List.getElem?_append_right ht]
        rw [e0]
        cases hcp : caps[t - ags.length]? with
        | none =>
          have : get (caps.map .v) (t - ags.length) = .any := by simp [get, List.getD_eq_getElem?_getD, hcp]
          rw [this]
          trivial
        | some y =>
          have : get (caps.map .v) (t - ags.length) = .v y := by simp [get, List.getD_eq_getElem?_getD, hcp]
          rw [this]
          obtain ⟨v, v1, v2⟩ := relE_get hcaps hcp
          have e1 : vals (args.map (fun x => ev a x.2) ++ cvs).toArray t = v := by
            simp only [vals, Array.getD_eq_getD_getElem?, List.getElem?_toArray]
            rw [List.getElem?_append_right (by simp only [List.length_map] at r3 ⊢; omega)]
            simp only [List.length_map] at r3 ⊢
            rw [← r3, v1]
            rfl
          show relV K1 w y _ _
          rw [e1]
          exact relV_mono k1.grows.le (Meta.refl w) v2 (Agree.no _ _) (Own.no_le _)
    · rcases hgetA t with q | q
      · exact (hown _ q).1
      · rw [q]; exact Free.no _
    · rcases hgetA t with q | q
      · obtain ⟨u, hu⟩ := hAO _ q b o hb
        exact h.lt u b o hu
      · rw [q] at hb; exact hb.elim
  refine ⟨?_, hC.body hr⟩
  refine Calls.mono (hC.calls hr hFR k1.sat) ?_
  rintro e w' ⟨v, rfl, K', S, O', hL⟩
  refine ⟨v, rfl, ?_⟩
  have htot : (tot fun t => As.getD t Own.no).le (tot O) := by
    rintro b o ⟨t, ht⟩
    rcases hgetA t with q | q
    · exact hAO _ q b o ht
    · rw [q] at ht; exact ht.elim
  have htotA : ∀ {X : Own}, (∀ A ∈ As, A.disj X) → (tot fun t => As.getD t Own.no).disj X := by
    rintro X hX b o ⟨t, ht⟩ hx
    rcases hgetA t with q | q
    · exact hX _ q b o ht hx
    · rw [q] at ht; exact ht.elim
  split at hc
  · rename_i hflat
    simp only [Bool.and_eq_true] at hflat
    obtain ⟨⟨hfl, hls⟩, hno⟩ := hflat
    simp only [Option.some.injEq] at hc
    subst hc
    have hls' : ls = [] := by simpa using hls
    subst hls'
    have hSs := k3 hno
    have hz : (tot fun t => As.getD t Own.no).le Own.no := by
      rintro b o ⟨t, ht⟩
      rcases hgetA t with q | q
      · rcases hAs _ q with ⟨S0, hS0, hle⟩ | ⟨s, hs0, _⟩
        · have := hSs S0 hS0
          subst this
          exact hle b o ht
        · cases hs0
      · rw [q] at ht; exact ht
    have hk : Keeps Own.no w w' := hL.keeps.mono hz
    have h1 : FR K w' f a O := h.world (Kn.le_refl K) hk.met (fun t => hk.agree (Own.no_disj _) (h.lt t)) h.free hk.size
    exact h1.put_no (x := .v r) ⟨hs.keep (Free.no K) hk, Kn.grows_refl K _, hk.mono (Own.no_le _), Own.le_or_l _ _⟩ (flat_relV hfl hL.val) _
  · split at hc
    · cases hc
    rename_i f2 hb
    simp only [Option.some.injEq] at hc
    subst hc
    have hnewO : ∀ u, (new w).disj (O1 u) := fun u b o hb hu => Nat.not_le_of_lt (k1.fr.lt u b o hu) hb
    have hAdis : ∀ u, u ∉ ls → ∀ A ∈ As, A.disj (O1 u) := fun u hu A hA => by
      rcases (hown A hA).2.1 with ⟨_, q⟩ | ⟨s, hs0, q⟩
      · exact q u
      · exact (k1.fr.disj s u (fun e => hu (e ▸ hs0))).mono q (Own.le_refl _)
    have hAR : ∀ R ∈ Rs, (tot fun t => As.getD t Own.no).disj R := fun R hR => htotA fun A hA => (hown A hA).2.2 R hR
    have hRO : ∀ R ∈ Rs, ∀ b o, R b o → ∃ u, O1 u b o := fun R hR b o hb => by
      rcases r1 R hR with rfl | ⟨s, _, q⟩
      · exact hb.elim
      · exact ⟨s, q b o hb⟩
    have hnewR : ∀ R ∈ Rs, (new w).disj R := fun R hR b o hb hr => by
      obtain ⟨u, hu⟩ := hRO R hR b o hr
      exact hnewO u b o hb hu
    have hg1 : ∀ R ∈ Rs, ((tot fun t => As.getD t Own.no).or (new w)).disj R := fun R hR => Own.disj_or (hAR R hR) (hnewR R hR)
    have hdrop := k1.fr.drop_all ls
    have hg2 : ∀ u, ((tot fun t => As.getD t Own.no).or (new w)).disj (if u ∈ ls then Own.no else O1 u) := fun u => by
      by_cases hu : u ∈ ls
      · simp only [if_pos hu]; exact Own.disj_no _
      · simp only [if_neg hu]; exact Own.disj_or (htotA (hAdis u hu)) (hnewO u)
    have hg : FR K' w' (dropAll f1 ls) a (fun u => if u ∈ ls then Own.no else O1 u) :=
      hdrop.world hL.grows.le hL.keeps.met (fun u => hL.keeps.agree ((hg2 u).mono (Own.le_or_l _ _) (Own.le_refl _)) (hdrop.lt u)) (fun u => (hdrop.free u).grows hL.grows (hg2 u)) hL.keeps.size
    have hO'le : ∀ j, (O' j).le ((tot fun t => As.getD t Own.no).or (new w)) := fun j => Own.le_trans (le_tot O' j) hL.outsOwn
    have hRfree : ∀ R ∈ Rs, Free K1 R := fun R hR => by
      rcases r1 R hR with rfl | ⟨s, _, q⟩
      · exact Free.no _
      · exact (k1.fr.free s).mono q
    refine (fun (hkey : ∃ O2, FR K' w' f2 a O2 ∧ ∀ Z : Own, (∀ u, Z.disj (if u ∈ ls then Own.no else O1 u)) → (∀ R ∈ Rs, Z.disj R) → (∀ j, Z.disj (O' j)) → ∀ u, Z.disj (O2 u)) => ?_)
      (backs_sound (i := 0) k1.fr hL.outs hL.grows.le hL.keeps.met hL.keeps.size hF (by simp) (fun j x hj => by rw [Nat.zero_add]; exact hvals j x hj) hg (fun u => ?_) (fun s hs0 => ?_) (fun u s hs0 hu => ?_) (by rw [dropAll_length])
        (fun R hR => ⟨?_, (hRfree R hR).grows hL.grows (hg1 R hR), fun u => ?_, fun j => (hg1 R hR).mono (hO'le j) (Own.le_refl _)⟩) (fun j _ u => (hg2 u).mono (hO'le j) (Own.le_refl _)) hb)
    · obtain ⟨O2, m1, m2⟩ := hkey
      have hgrow : K.grows K' ((tot O).or (new w)) := (k1.grows.mono (Own.le_or_l _ _)).trans (hL.grows.mono (Own.or_le (Own.le_trans htot (Own.le_or_l _ _)) (Own.le_or_r _ _)))
      have hle : (tot O2).le ((tot O).or (new w)) := by
        rintro b o ⟨u, hu⟩
        apply Classical.byContradiction
        intro hn
        refine m2 (fun b o => ¬ ((tot O).or (new w)) b o) ?_ ?_ ?_ u b o hn hu
        · intro u b o q1 q2
          by_cases hul : u ∈ ls
          · simp only [if_pos hul] at q2; exact q2
          · simp only [if_neg hul] at q2; exact q1 (.inl ⟨u, k1.le u b o q2⟩)
        · intro R hR b o q1 q2
          obtain ⟨u, hu⟩ := hRO R hR b o q2
          exact q1 (.inl ⟨u, k1.le u b o hu⟩)
        · intro j b o q1 q2
          exact q1 ((hO'le j b o q2).imp (htot b o) id)
      refine m1.put_goes (x := .v r) ⟨hL.sat, hgrow, hL.keeps.mono htot, hle⟩ hL.val hL.free hL.lt (m2 S (fun u => (hg2 u).mono hL.own (Own.le_refl _)) (fun R hR => (hg1 R hR).mono hL.own (Own.le_refl _)) hL.disj) ?_ _
      exact Own.le_trans hL.own (Own.or_le (Own.le_trans htot (Own.le_or_l _ _)) (Own.le_or_r _ _))
    · rw [get_dropAll]
      by_cases hu : u ∈ ls
      · right; simp [hu]
      · left; simp [hu]
    · rw [get_dropAll, if_pos hs0]; exact ⟨rfl, rfl⟩
    · rw [get_dropAll]
      by_cases hul : u ∈ ls
      · rw [if_pos hul]; right; trivial
      · rw [if_neg hul]; left; rfl
    · refine hL.keeps.agree (hAR R hR) (fun b o hb => ?_)
      obtain ⟨u, hu⟩ := hRO R hR b o hb
      exact k1.fr.lt u b o hu
    · by_cases hul : u ∈ ls
      · simp only [if_pos hul]; exact Own.disj_no _
      · simp only [if_neg hul]
        rcases r1 R hR with rfl | ⟨s, hs0, q⟩
        · exact Own.no_disj _
        · exact (k1.fr.disj s u (fun e => hul (e ▸ hs0))).mono q (Own.le_refl _)
end

section
variable {C : Cfg} {K : Kn} {w : World} {f f' : Frame} {a : Act} {O : Nat → Own} {fid : Nat} {call : CallF} {o : Oper}

theorem zip_ev {ts : Array TypeId} {xs : Array Operand} (h : ts.size = xs.size) (g : Operand → Value) : (ts.toList.zip xs.toList).map (fun x => g x.2) = xs.toList.map g := zip_snd g (by simpa using h)

theorem capSlots_sound : ∀ {cs : List Cap} {ss : List Nat} {vs : List Value}, capSlots f cs = some ss → CapsR K w f (vals a.tmps) cs vs → vs = ss.map (vals a.tmps)
  | [], ss, vs, h, hc => by simp only [capSlots, Option.some.injEq] at h; subst h; exact hc
  | .slot c :: cs, ss, vs, h, hc => by
    obtain ⟨v, vs', rfl, h1, h2⟩ := hc
    rw [capSlots] at h
    split at h
    · rename_i y hg
      split at h
      · rename_i ss' hss
        injection h with h
        subst h
        rw [List.map_cons, h1 y hg, capSlots_sound hss h2]
      · cases h
    · cases h
  | .ro x :: cs, ss, vs, h, hc => by simp [capSlots] at h

theorem l_call {c : Call} {x : Operand} (hC : CallOK C call) (ho : o.op = .call c) (hb : c.callee = .value x) (h : FR K w f a.tmps O) (hs : Sat K w) (hl : loud C fid call o f = some f') : Does C.P o a w (LPost K w O f' a.tmps o.dst) := by
  unfold loud at hl
  rw [ho] at hl
  simp only [hb] at hl
  cases x with
  | func g =>
    simp only at hl
    split at hl
    · rename_i hsz
      have hsz : c.argTypes.size = c.args.size := by simpa using hsz
      obtain ⟨k1, fn, b1, b2, b3⟩ := callA_sound hC h hs (cvs := []) (by rw [relE]) hl
      refine Does.enter (exec_call (caps := #[]) ho hb rfl b1 b2 b3) ?_
      rw [zip_ev hsz] at k1
      have e : c.args.map (ev a.tmps) ++ #[] = (c.args.toList.map (ev a.tmps) ++ []).toArray := by rw [← Array.toList_inj]; simp
      rw [e]
      exact k1
    · cases hl
  | tmp t =>
    simp only at hl
    split at hl
    · rename_i g caps hg
      split at hl
      · cases hl
      rename_i hsz
      have hsz : c.argTypes.size = c.args.size := by simpa using hsz
      obtain ⟨vs, e1, e2⟩ := fn_of (h.val hg)
      obtain ⟨k1, fn, b1, b2, b3⟩ := callA_sound hC h hs e2 hl
      refine Does.enter (exec_call (caps := vs) ho hb e1 b1 b2 b3) ?_
      rw [zip_ev hsz] at k1
      have e : c.args.map (ev a.tmps) ++ vs = (c.args.toList.map (ev a.tmps) ++ vs.toList).toArray := by rw [← Array.toList_inj]; simp
      rw [e]
      exact k1
    · rename_i g cs hg
      split at hl
      · rename_i ss hss
        split at hl
        · cases hl
        rename_i hsz
        have hsz : c.argTypes.size = c.args.size := by simpa using hsz
        have hsl := h.slot t
        unfold SlotR at hsl
        rw [hg] at hsl
        obtain ⟨vs, e1, e2⟩ := hsl
        have e3 := capSlots_sound hss e2
        subst e3
        obtain ⟨k1, fn, b1, b2, b3⟩ := callA_sound hC h hs (cvs := []) (by rw [relE]) hl
        refine Does.enter (exec_call (caps := (ss.map (vals a.tmps)).toArray) ho hb e1 b1 b2 b3) ?_
        rw [List.map_append, zip_ev hsz] at k1
        have e : c.args.map (ev a.tmps) ++ (ss.map (vals a.tmps)).toArray = (c.args.toList.map (ev a.tmps) ++ (ss.map fun s => ((0 : TypeId), Operand.tmp s)).map (fun (x : TypeId × Operand) => ev a.tmps x.2) ++ []).toArray := by
          rw [← Array.toList_inj]; simp [ev]
        rw [e]
        exact k1
      · cases hl
    · cases hl
  | const v => simp only at hl; cases hl
  | global g => simp only at hl; cases hl
end
end Go.E

namespace Go.E
open Go.RowKit
section
variable {C : Cfg} {K : Kn} {w : World} {f f' : Frame} {a : Act} {O : Nat → Own} {fid : Nat} {call : CallF} {o : Oper} {cs : List Nat} {z : Slot}

theorem quiet_sound (hE : ∀ t, C.eqT t = true → EqT C.P t) (hC : CallOK C call) (h : FR K w f a.tmps O) (hs : Sat K w) (hq : quiet C fid call o f = some (cs, z)) : Does C.P o a w (Post K w f a.tmps O cs z) := by
  cases ho : o.op with
  | move x => exact q_move ho h hs hq
  | assign x => exact q_assign ho h hs hq
  | pick c x y => exact q_pick ho h hs hq
  | alloc e => exact q_alloc ho h hs hq
  | box e x => exact q_box ho h hs hq
  | build t ps => exact q_build ho h hs hq
  | buildSlice t n ps => exact q_buildSlice ho h hs hq
  | load t x => exact q_load ho h hs hq
  | nilCheck x => exact q_nilCheck ho h hs hq
  | binOp op t x y u => exact q_binOp hE ho h hs hq
  | unOp op t x => exact q_unOp ho h hs hq
  | convert s d x => exact q_convert ho h hs hq
  | makeFunc fn first caps =>
    cases fn with
    | func g => exact q_makeFunc ho h hs hq
    | _ => unfold quiet at hq; rw [ho] at hq; simp at hq
  | makeMap t r =>
    cases r with
    | none => exact q_makeMap ho h hs hq
    | some r => unfold quiet at hq; rw [ho] at hq; simp at hq
  | makeSlice t n c => exact q_makeSlice ho h hs hq
  | slice t x lo hi mx => exact q_slice ho h hs hq
  | fieldAddr t x i => exact q_fieldAddr ho h hs hq
  | field t x i => exact q_field ho h hs hq
  | indexAddr t x i => exact q_indexAddr ho h hs hq
  | index t x i => exact q_index ho h hs hq
  | lookup t m k ok => exact q_lookup hE ho h hs hq
  | extract x i =>
    cases x with
    | tmp t => exact q_extract ho h hs hq
    | _ => unfold quiet at hq; rw [ho] at hq; simp at hq
  | call c =>
    cases hb : c.callee with
    | value x =>
      cases x with
      | func g => exact q_callF hC ho hb h hs hq
      | tmp t => exact q_callV hC ho hb h hs hq
      | _ => unfold quiet at hq; rw [ho] at hq; simp [hb] at hq
    | invoke r m => unfold quiet at hq; rw [ho] at hq; simp [hb] at hq
    | builtin b =>
      by_cases h1 : b = .len
      · subst h1; exact q_len ho hb h hs hq
      by_cases h2 : b = .append
      · subst h2; exact q_append ho hb h hs hq
      by_cases h3 : b = .max
      · subst h3; exact q_max ho hb h hs hq
      by_cases h4 : b = .min
      · subst h4; exact q_min ho hb h hs hq
      unfold quiet at hq; rw [ho] at hq
      simp only [hb] at hq
      cases b <;> first | exact absurd rfl h1 | exact absurd rfl h2 | exact absurd rfl h3 | exact absurd rfl h4 | simp at hq
  | _ => unfold quiet at hq; rw [ho] at hq; simp at hq

theorem loud_sound (hE : ∀ t, C.eqT t = true → EqT C.P t) (hC : CallOK C call) (h : FR K w f a.tmps O) (hs : Sat K w) (hl : loud C fid call o f = some f') : Does C.P o a w (LPost K w O f' a.tmps o.dst) := by
  cases ho : o.op with
  | assign x =>
    cases x with
    | tmp t => exact l_assign ho h hs hl
    | _ => unfold loud at hl; rw [ho] at hl; simp at hl
  | pick c x y => exact l_pick ho h hs hl
  | load t x => exact l_load ho h hs hl
  | store t x y => exact l_store ho h hs hl
  | slice t x lo hi mx => exact l_slice ho h hs hl
  | mapUpdate t m k x =>
    cases m with
    | tmp m => exact l_mapUpdate hE ho h hs hl
    | _ => unfold loud at hl; rw [ho] at hl; simp at hl
  | call c =>
    cases hb : c.callee with
    | value x => exact l_call hC ho hb h hs hl
    | invoke r m => unfold loud at hl; rw [ho] at hl; simp [hb] at hl
    | builtin b =>
      by_cases h2 : b = .append
      · subst h2; exact l_append ho hb h hs hl
      unfold loud at hl; rw [ho] at hl
      simp only [hb] at hl
      cases b <;> first | exact absurd rfl h2 | simp at hl
  | _ => unfold loud at hl; rw [ho] at hl; simp at hl

theorem evalOp_sound (hE : ∀ t, C.eqT t = true → EqT C.P t) (hC : CallOK C call) (h : FR K w f a.tmps O) (hs : Sat K w) (he : evalOp C fid call o f = some f') : Does C.P o a w (LPost K w O f' a.tmps o.dst) := by
  unfold evalOp at he
  split at he
  · rename_i cs x hq
    simp only [Option.some.injEq] at he
    subst he
    refine (quiet_sound hE hC h hs hq).mono fun v w' hp => ?_
    obtain ⟨K', O', k1, k2⟩ := h.quiet hs hp o.dst
    exact ⟨K', O', k1, k2⟩
  · exact loud_sound hE hC h hs he
end
end Go.E

namespace Go.E
open Go.RowKit

/-- The frames say the same of these slots, and of what they refer to. -/
structure Ag (L : List Nat) (f g : Frame) : Prop where
  slot : ∀ u ∈ L, get f u = get g u
  root : ∀ u ∈ L, ∀ s, refersTo s (get f u) = true → rootOf (get f s) = rootOf (get g s)
def On (L : List Nat) (x : Operand) : Prop := ∀ t, x = .tmp t → t ∈ L

theorem on_mem {o : Oper} {x : Operand} (h : x ∈ o.op.operands.toList) : On (tmpsOf o) x := by
  rintro t rfl
  exact List.mem_filterMap.2 ⟨_, h, rfl⟩

section
variable {C : Cfg} {f g : Frame} {L : List Nat}

theorem Ag.sub (h : Ag L f g) {u s : Nat} {p : List Nat} (hu : u ∈ L) (hr : refersTo s (get f u) = true) : subAt f s p = subAt g s p := by
  unfold subAt
  rw [h.root u hu s hr]
theorem Ag.sub' (h : Ag L f g) {u : Nat} {p : List Nat} (hu : u ∈ L) : subAt f u p = subAt g u p := by
  unfold subAt
  rw [h.slot u hu]
theorem Ag.look (h : Ag L f g) {t : Nat} (ht : t ∈ L) : look f t = look g t := by
  unfold Go.E.look
  rw [← h.slot t ht]
  cases hg : get f t with
  | view s p => exact h.sub ht (by rw [hg]; simp [refersTo])
  | _ => rfl
theorem Ag.lookO (h : Ag L f g) {x : Operand} (hx : On L x) (ty : TypeId) : lookO C f ty x = lookO C g ty x := by
  cases x with
  | tmp t => exact h.look (hx t rfl)
  | _ => rfl
theorem Ag.moveQ (h : Ag L f g) {x : Operand} (hx : On L x) (ty : TypeId) : moveQ C f ty x = moveQ C g ty x := by
  cases x with
  | tmp t =>
    simp only [Go.E.moveQ]
    rw [← h.slot t (hx t rfl)]
    cases hg : get f t with
    | view s p => simp only; rw [h.sub (hx t rfl) (by rw [hg]; simp [refersTo])]
    | _ => rfl
  | _ => rfl
theorem Ag.byValQ (h : Ag L f g) {x : Operand} (hx : On L x) (ty : TypeId) : byValQ C f ty x = byValQ C g ty x := by
  unfold Go.E.byValQ
  rw [h.moveQ hx]
theorem Ag.movesQ (h : Ag L f g) : ∀ {l : List (TypeId × Operand)}, (∀ x ∈ l, On L x.2) → movesQ C f l = movesQ C g l
  | [], _ => rfl
  | (ty, x) :: l, hx => by
    rw [Go.E.movesQ, Go.E.movesQ, h.moveQ (hx _ (List.mem_cons_self ..)), h.movesQ (fun y hy => hx y (List.mem_cons_of_mem _ hy))]
theorem Ag.byValsQ (h : Ag L f g) {l : List (TypeId × Operand)} (hx : ∀ x ∈ l, On L x.2) : byValsQ C f l = byValsQ C g l := by
  unfold Go.E.byValsQ
  rw [h.movesQ hx]
theorem Ag.ptrOf (h : Ag L f g) {x : Operand} (hx : On L x) : ptrOf f x = ptrOf g x := by
  cases x with
  | tmp t => simp only [Go.E.ptrOf]; rw [h.slot t (hx t rfl)]
  | _ => rfl
theorem Ag.ptrSub (h : Ag L f g) {x : Operand} (hx : On L x) {s : Nat} {p : List Nat} (hp : Go.E.ptrOf f x = some (.at s p)) : subAt f s p = subAt g s p := by
  cases x with
  | tmp t =>
    simp only [Go.E.ptrOf] at hp
    split at hp
    · rename_i y hg
      simp only [Option.some.injEq, Ptr.at.injEq] at hp
      obtain ⟨rfl, rfl⟩ := hp
      exact h.sub' (hx _ rfl)
    · rename_i s' p' hg
      simp only [Option.some.injEq, Ptr.at.injEq] at hp
      obtain ⟨rfl, rfl⟩ := hp
      exact h.sub (hx t rfl) (by rw [hg]; simp [refersTo])
    · cases hp
    · cases hp
  | _ => simp [Go.E.ptrOf] at hp
theorem Ag.placeOf (h : Ag L f g) {x : Operand} (hx : On L x) : placeOf f x = placeOf g x := by
  cases x with
  | tmp t => simp only [Go.E.placeOf]; rw [h.slot t (hx t rfl)]
  | _ => rfl
theorem Ag.placeSub (h : Ag L f g) {x : Operand} (hx : On L x) {s : Nat} {p : List Nat} (hp : Go.E.placeOf f x = some (s, p)) : subAt f s p = subAt g s p := by
  cases x with
  | tmp t =>
    simp only [Go.E.placeOf] at hp
    split at hp
    · rename_i y hg
      simp only [Option.some.injEq, Prod.mk.injEq] at hp
      obtain ⟨rfl, rfl⟩ := hp
      exact h.sub' (hx _ rfl)
    · rename_i s' p' hg
      simp only [Option.some.injEq, Prod.mk.injEq] at hp
      obtain ⟨rfl, rfl⟩ := hp
      exact h.sub (hx t rfl) (by rw [hg]; simp [refersTo])
    · cases hp
  | _ => simp [Go.E.placeOf] at hp
theorem Ag.unbox (h : Ag L f g) {x : Operand} (hx : On L x) : unbox f x = unbox g x := by
  cases x with
  | tmp t => simp only [Go.E.unbox]; rw [h.slot t (hx t rfl)]
  | _ => rfl
theorem Ag.unboxSub (h : Ag L f g) {x : Operand} (hx : On L x) {s : Nat} {p : List Nat} (hp : Go.E.unbox f x = some (s, p)) : subAt f s p = subAt g s p := by
  cases x with
  | tmp t =>
    simp only [Go.E.unbox] at hp
    split at hp
    · rename_i s' p' hg
      simp only [Option.some.injEq, Prod.mk.injEq] at hp
      obtain ⟨rfl, rfl⟩ := hp
      exact h.sub (hx t rfl) (by rw [hg]; simp [refersTo])
    · cases hp
  | _ => simp [Go.E.unbox] at hp
theorem Ag.capsOf (h : Ag L f g) : ∀ {l : List Operand}, (∀ x ∈ l, On L x) → capsOf f l = capsOf g l
  | [], _ => rfl
  | x :: l, hx => by
    have hc : capOf f x = capOf g x := by
      cases x with
      | tmp t => simp only [capOf]; rw [h.slot t (hx _ (List.mem_cons_self ..) t rfl)]
      | _ => rfl
    rw [Go.E.capsOf, Go.E.capsOf, hc, h.capsOf (fun y hy => hx y (List.mem_cons_of_mem _ hy))]
theorem Ag.foldMM (h : Ag L f g) {mx : Bool} : ∀ {l : List Operand}, (∀ x ∈ l, On L x) → ∀ a, foldMM C mx f a l = foldMM C mx g a l
  | [], _, _ => rfl
  | x :: l, hx, a => by
    have e : Go.E.lookO C f 0 x = Go.E.lookO C g 0 x := h.lookO (hx _ (List.mem_cons_self ..)) 0
    rw [Go.E.foldMM, Go.E.foldMM, e]
    cases Go.E.lookO C g 0 x with
    | none => rfl
    | some b =>
      simp only
      cases minmaxA mx a b with
      | none => rfl
      | some c => exact h.foldMM (fun y hy => hx y (List.mem_cons_of_mem _ hy)) c
theorem Ag.optInt (h : Ag L f g) {x : Option Operand} (hx : ∀ y, x = some y → On L y) (d : Int) : optInt C f d x = optInt C g d x := by
  cases x with
  | none => rfl
  | some y => simp only [Go.E.optInt]; rw [h.lookO (hx y rfl)]

theorem mem_zip_snd {α β : Type} : ∀ {xs : List α} {ys : List β} {p : α × β}, p ∈ xs.zip ys → p.2 ∈ ys
  | [], _, p, h => by simp at h
  | _ :: _, [], p, h => by simp at h
  | x :: xs, y :: ys, p, h => by
    simp only [List.zip_cons_cons, List.mem_cons] at h
    rcases h with rfl | h
    · exact List.mem_cons_self ..
    · exact List.mem_cons_of_mem _ (mem_zip_snd h)

/-- A quiet operation looks at its own slots, and at what they refer to. -/
theorem quiet_loc {fid : Nat} {call : CallF} {o : Oper} (h : Ag (tmpsOf o) f g) : quiet C fid call o f = quiet C fid call o g := by
  have hm : ∀ x ∈ o.op.operands.toList, On (tmpsOf o) x := fun x hx => on_mem hx
  unfold quiet
  cases ho : o.op with
  | move x =>
    have hx := hm x (by rw [ho]; simp [Op.operands])
    cases x with
    | tmp t => simp only; rw [h.slot t (hx t rfl)]
    | _ => simp only [h.moveQ hx]
  | assign x =>
    have hx := hm x (by rw [ho]; simp [Op.operands])
    cases x with
    | tmp t => simp only [h.moveQ hx]; rw [h.slot t (hx t rfl)]
    | _ => simp only [h.moveQ hx]
  | pick c x y =>
    have h1 := hm c (by rw [ho]; simp [Op.operands])
    have h2 := hm x (by rw [ho]; simp [Op.operands])
    have h3 := hm y (by rw [ho]; simp [Op.operands])
    simp only [h.lookO h1]
    cases lookO C g 0 c with
    | none => rfl
    | some z =>
      cases z with
      | bool z =>
        cases z with
        | true => simp [h.byValQ h2]
        | false => simp [h.byValQ h3]
      | _ => rfl
  | alloc e => rfl
  | box e x =>
    have hx := hm x (by rw [ho]; simp [Op.operands])
    simp only [h.moveQ hx]
    rw [← h.placeOf hx]
    cases hp : Go.E.placeOf f x with
    | none => rfl
    | some q =>
      obtain ⟨s, p⟩ := q
      simp only
      rw [h.placeSub hx hp]
  | build t ps =>
    simp only
    cases C.P.underlying t with
    | none => rfl
    | some d =>
      cases d with
      | struct fs =>
        simp only
        rw [h.movesQ (l := ps.toList.map fun (i, x) => ((fs[i]?.map (·.type)).getD 0, x)) (fun p hp => by
          obtain ⟨q, hq, rfl⟩ := List.mem_map.1 hp
          refine hm q.2 ?_
          rw [ho]
          simp only [Op.operands]
          exact List.mem_map.2 ⟨q, hq, rfl⟩)]
      | _ => rfl
  | buildSlice t n ps =>
    simp only
    cases elemT C t with
    | none => rfl
    | some e =>
      simp only
      rw [h.byValsQ (l := ps.toList.map fun (_, x) => (e, x)) (fun p hp => by
          obtain ⟨q, hq, rfl⟩ := List.mem_map.1 hp
          refine hm q.2 ?_
          rw [ho]
          simp only [Op.operands]
          exact List.mem_map.2 ⟨q, hq, rfl⟩)]
  | load t x =>
    have hx := hm x (by rw [ho]; simp [Op.operands])
    simp only
    rw [← h.ptrOf hx]
    cases hp : ptrOf f x with
    | none =>
      simp only
      rw [← h.unbox hx]
      cases hub : Go.E.unbox f x with
      | none => rfl
      | some q =>
        obtain ⟨s, p⟩ := q
        simp only
        rw [h.unboxSub hx hub]
    | some q =>
      cases q with
      | ro y => rfl
      | «at» s p => simp only; rw [h.ptrSub hx hp]
  | nilCheck x =>
    have hx := hm x (by rw [ho]; simp [Op.operands])
    cases x with
    | tmp t =>
      simp only
      rw [← h.slot t (hx t rfl)]
      cases hg : get f t with
      | loc s p => simp only; rw [h.sub (hx t rfl) (by rw [hg]; simp [refersTo])]
      | box s p => simp only; rw [h.sub (hx t rfl) (by rw [hg]; simp [refersTo])]
      | v y => cases y <;> rfl
      | _ => rfl
    | _ => rfl
  | binOp op t x y u =>
    simp only [h.lookO (hm x (by rw [ho]; simp [Op.operands])), h.lookO (hm y (by rw [ho]; simp [Op.operands]))]
  | unOp op t x => simp only [h.lookO (hm x (by rw [ho]; simp [Op.operands]))]
  | convert s d x => simp only [h.lookO (hm x (by rw [ho]; simp [Op.operands]))]
  | makeFunc fn first caps =>
    cases fn with
    | func k =>
      simp only
      rw [h.capsOf (fun y hy => hm y (by rw [ho]; simp only [Op.operands, Array.toList_append]; exact List.mem_append_right _ hy))]
    | _ => rfl
  | makeMap t r => cases r <;> rfl
  | makeSlice t n c => simp only [h.lookO (hm n (by rw [ho]; simp [Op.operands])), h.lookO (hm c (by rw [ho]; simp [Op.operands]))]
  | slice t x lo hi mx =>
    have h1 := hm x (by rw [ho]; simp [Op.operands])
    have h2 : ∀ d, optInt C f d lo = optInt C g d lo := h.optInt (fun y e => hm y (by rw [ho, e]; simp [Op.operands]))
    have h3 : ∀ d, optInt C f d hi = optInt C g d hi := h.optInt (fun y e => hm y (by rw [ho, e]; simp [Op.operands]))
    simp only [h.lookO h1, h.byValQ h1, h2, h3]
  | fieldAddr t x i =>
    have hx := hm x (by rw [ho]; simp [Op.operands])
    simp only
    rw [← h.ptrOf hx]
    cases hp : ptrOf f x with
    | none => rfl
    | some q =>
      cases q with
      | ro y => cases y <;> rfl
      | «at» s p => simp only; rw [h.ptrSub hx hp]
  | field t x i => simp only [h.lookO (hm x (by rw [ho]; simp [Op.operands]))]
  | indexAddr t x i =>
    have hx := hm x (by rw [ho]; simp [Op.operands])
    simp only [h.lookO hx, h.lookO (hm i (by rw [ho]; simp [Op.operands]))]
    cases x with
    | tmp t => simp only; rw [h.slot t (hx t rfl)]
    | _ => rfl
  | index t x i => simp only [h.lookO (hm x (by rw [ho]; simp [Op.operands])), h.lookO (hm i (by rw [ho]; simp [Op.operands]))]
  | lookup t m k ok => simp only [h.lookO (hm m (by rw [ho]; simp [Op.operands])), h.lookO (hm k (by rw [ho]; simp [Op.operands]))]
  | extract x i =>
    have hx := hm x (by rw [ho]; simp [Op.operands])
    cases x with
    | tmp t => simp only; rw [h.slot t (hx t rfl)]
    | _ => rfl
  | call c =>
    have hargs : ∀ x ∈ c.args.toList, On (tmpsOf o) x := fun x hx => hm x (by rw [ho]; simp only [Op.operands, Call.operands, Array.toList_append]; exact List.mem_append_right _ hx)
    have hz : ∀ {ts : List TypeId}, ∀ x ∈ ts.zip c.args.toList, On (tmpsOf o) x.2 := fun x hx => hargs _ (mem_zip_snd hx)
    simp only
    cases hb : c.callee with
    | builtin b =>
      cases b with
      | append =>
        simp only
        rcases ha : c.args.toList with _ | ⟨x, _ | ⟨y, _ | ⟨z, l⟩⟩⟩ <;> try (exact rfl)
        rw [ha] at hargs
        have e1 : ∀ ty, moveQ C f ty x = moveQ C g ty x := fun ty => h.moveQ (hargs x (by simp)) ty
        have e2 : ∀ ty, lookO C f ty y = lookO C g ty y := fun ty => h.lookO (hargs y (by simp)) ty
        rcases c.argTypes.toList with _ | ⟨t, _ | ⟨u, _ | ⟨v, l⟩⟩⟩ <;> try (exact rfl)
        simp only
        rw [e1, e2]
      | len =>
        simp only
        rcases ha : c.args.toList with _ | ⟨x, _ | ⟨y, l⟩⟩ <;> try (exact rfl)
        rw [ha] at hargs
        have e1 : ∀ ty, lookO C f ty x = lookO C g ty x := fun ty => h.lookO (hargs x (by simp)) ty
        rcases c.argTypes.toList with _ | ⟨t, _ | ⟨u, l⟩⟩ <;> try (exact rfl)
        simp only
        rw [e1]
      | max =>
        simp only
        rcases ha : c.args.toList with _ | ⟨x, l⟩ <;> try (exact rfl)
        rw [ha] at hargs
        have e1 := fun ty => h.lookO (C := C) (hargs x (by simp)) ty
        have e2 := h.foldMM (C := C) (mx := true) (l := l) (fun y hy => hargs y (List.mem_cons_of_mem _ hy))
        simp only [e1, e2]
      | min =>
        simp only
        rcases ha : c.args.toList with _ | ⟨x, l⟩ <;> try (exact rfl)
        rw [ha] at hargs
        have e1 := fun ty => h.lookO (C := C) (hargs x (by simp)) ty
        have e2 := h.foldMM (C := C) (mx := false) (l := l) (fun y hy => hargs y (List.mem_cons_of_mem _ hy))
        simp only [e1, e2]
      | _ => rfl
    | invoke r m => rfl
    | value x =>
      cases x with
      | func k => simp only; rw [h.byValsQ hz]
      | tmp t =>
        have ht : t ∈ tmpsOf o := on_mem (x := .tmp t) (by rw [ho]; simp [Op.operands, Call.operands, hb]) t rfl
        simp only
        rw [h.byValsQ hz, h.slot t ht]
      | _ => rfl
  | _ => rfl
end
end Go.E

namespace Go.E
open Go.RowKit
section
variable {C : Cfg} {f g : Frame}

theorem moveQ_cs {ty : TypeId} {x : Operand} {y : AV} {cs : List Nat} (h : moveQ C f ty x = some (y, cs)) : ∀ c ∈ cs, x = .tmp c ∧ ∃ z, get f c = .v z := by
  unfold moveQ at h
  split at h
  · rename_i t
    split at h
    · rename_i z hg
      split at h
      · simp only [Option.some.injEq, Prod.mk.injEq] at h
        obtain ⟨_, rfl⟩ := h
        simp
      · simp only [Option.some.injEq, Prod.mk.injEq] at h
        obtain ⟨_, rfl⟩ := h
        intro c hc
        simp only [List.mem_singleton] at hc
        subst hc
        exact ⟨rfl, z, hg⟩
    · split at h
      · simp only [Option.some.injEq, Prod.mk.injEq] at h
        obtain ⟨_, rfl⟩ := h
        simp
      · cases h
    · cases h
  · split at h
    · simp only [Option.some.injEq, Prod.mk.injEq] at h
      obtain ⟨_, rfl⟩ := h
      simp
    · cases h
  · simp only [Option.some.injEq, Prod.mk.injEq] at h
    obtain ⟨_, rfl⟩ := h
    simp
  · cases h
theorem movesQ_cs : ∀ {l : List (TypeId × Operand)} {ys : List AV} {cs : List Nat}, movesQ C f l = some (ys, cs) → ∀ c ∈ cs, (∃ p ∈ l, p.2 = .tmp c) ∧ ∃ z, get f c = .v z
  | [], ys, cs, h, c, hc => by
    simp only [movesQ, Option.some.injEq, Prod.mk.injEq] at h
    obtain ⟨_, rfl⟩ := h
    cases hc
  | (ty, x) :: l, ys, cs, h, c, hc => by
    rw [movesQ] at h
    split at h
    · rename_i y c1 h1
      split at h
      · rename_i ys' cs' h2
        split at h
        · cases h
        simp only [Option.some.injEq, Prod.mk.injEq] at h
        obtain ⟨_, rfl⟩ := h
        rcases List.mem_append.1 hc with hc | hc
        · obtain ⟨k1, k2⟩ := moveQ_cs h1 c hc
          exact ⟨⟨_, List.mem_cons_self .., k1⟩, k2⟩
        · obtain ⟨⟨p, hp, k1⟩, k2⟩ := movesQ_cs h2 c hc
          exact ⟨⟨p, List.mem_cons_of_mem _ hp, k1⟩, k2⟩
      · cases h
    · cases h
theorem byValQ_cs {ty : TypeId} {x : Operand} {y : AV} {cs : List Nat} (h : byValQ C f ty x = some (y, cs)) : ∀ c ∈ cs, x = .tmp c ∧ ∃ z, get f c = .v z := by
  unfold byValQ at h
  split at h
  · rename_i z c h1
    simp only [Option.some.injEq, Prod.mk.injEq] at h
    obtain ⟨_, rfl⟩ := h
    exact moveQ_cs h1
  · cases h
theorem byValsQ_cs {l : List (TypeId × Operand)} {ys : List AV} {cs : List Nat} (h : byValsQ C f l = some (ys, cs)) : ∀ c ∈ cs, (∃ p ∈ l, p.2 = .tmp c) ∧ ∃ z, get f c = .v z := by
  unfold byValsQ at h
  split at h
  · rename_i z c h1
    simp only [Option.some.injEq, Prod.mk.injEq] at h
    obtain ⟨_, rfl⟩ := h
    exact movesQ_cs h1
  · cases h
theorem ptrOf_refs {x : Operand} {s : Nat} {p : List Nat} (h : ptrOf f x = some (.at s p)) : ∃ t, x = .tmp t ∧ (s = t ∨ refersTo s (get f t) = true) := by
  cases x with
  | tmp t =>
    simp only [ptrOf] at h
    split at h
    · simp only [Option.some.injEq, Ptr.at.injEq] at h
      exact ⟨t, rfl, .inl h.1.symm⟩
    · rename_i s' p' hg
      simp only [Option.some.injEq, Ptr.at.injEq] at h
      exact ⟨t, rfl, .inr (by rw [hg, h.1]; simp [refersTo])⟩
    · cases h
    · cases h
  | _ => simp [ptrOf] at h
theorem placeOf_refs {x : Operand} {s : Nat} {p : List Nat} (h : placeOf f x = some (s, p)) : ∃ t, x = .tmp t ∧ (s = t ∨ refersTo s (get f t) = true) := by
  cases x with
  | tmp t =>
    simp only [placeOf] at h
    split at h
    · simp only [Option.some.injEq, Prod.mk.injEq] at h
      exact ⟨t, rfl, .inl h.1.symm⟩
    · rename_i s' p' hg
      simp only [Option.some.injEq, Prod.mk.injEq] at h
      exact ⟨t, rfl, .inr (by rw [hg, h.1]; simp [refersTo])⟩
    · cases h
  | _ => simp [placeOf] at h
theorem unbox_refs {x : Operand} {s : Nat} {p : List Nat} (h : unbox f x = some (s, p)) : ∃ t, x = .tmp t ∧ (s = t ∨ refersTo s (get f t) = true) := by
  cases x with
  | tmp t =>
    simp only [unbox] at h
    split at h
    · rename_i s' p' hg
      simp only [Option.some.injEq, Prod.mk.injEq] at h
      exact ⟨t, rfl, .inr (by rw [hg, h.1]; simp [refersTo])⟩
    · cases h
  | _ => simp [unbox] at h
theorem capsOf_refs : ∀ {l : List Operand} {cs : List Cap}, capsOf f l = some cs → ∀ i, Cap.slot i ∈ cs → .tmp i ∈ l
  | [], cs, h, i, hi => by simp only [capsOf, Option.some.injEq] at h; subst h; cases hi
  | x :: l, cs, h, i, hi => by
    rw [capsOf] at h
    split at h
    · rename_i y hy
      split at h
      · rename_i ys hys
        simp only [Option.some.injEq] at h
        subst h
        rcases List.mem_cons.1 hi with rfl | hi
        · cases x with
          | tmp t =>
            simp only [capOf] at hy
            split at hy
            · simp only [Option.some.injEq, Cap.slot.injEq] at hy
              subst hy
              exact List.mem_cons_self ..
            · simp at hy
            · cases hy
          | _ => simp [capOf] at hy
        · exact List.mem_cons_of_mem _ (capsOf_refs hys i hi)
      · cases h
    · cases h

/-- What a quiet operation's slot refers to, and what it consumes. -/
structure QR (o : Oper) (f : Frame) (cz : List Nat) (x : Slot) : Prop where
  refs : ∀ s, refersTo s x = true → s ∈ tmpsOf o ∨ ∃ u ∈ tmpsOf o, refersTo s (get f u) = true
  cs : ∀ c ∈ cz, c ∈ tmpsOf o ∧ ∃ z, get f c = .v z
  one : cz = [] ∨ ∀ s, refersTo s x = false

theorem quiet_refs {fid : Nat} {call : CallF} {o : Oper} {cs : List Nat} {x : Slot} (hq : quiet C fid call o f = some (cs, x)) : QR o f cs x := by
  have hm : ∀ t, .tmp t ∈ o.op.operands.toList → t ∈ tmpsOf o := fun t ht => on_mem ht t rfl
  have flat : ∀ {y : AV}, x = .v y → (∀ c ∈ cs, c ∈ tmpsOf o ∧ ∃ z, get f c = .v z) → QR o f cs x := by
    rintro y rfl h
    exact ⟨fun s hs => by simp [refersTo] at hs, h, .inr fun _ => rfl⟩
  have flat0 : ∀ {y : AV}, some (([] : List Nat), Slot.v y) = some (cs, x) → QR o f cs x := by
    intro y h
    simp only [Option.some.injEq, Prod.mk.injEq] at h
    obtain ⟨rfl, rfl⟩ := h
    exact flat rfl (by simp)
  have mv : ∀ {ty : TypeId} {z : Operand}, z ∈ o.op.operands.toList → (match moveQ C f ty z with | some (y, cs) => some (cs, Slot.v y) | none => none) = some (cs, x) → QR o f cs x := by
    intro ty z hz h
    split at h
    · rename_i y c h1
      simp only [Option.some.injEq, Prod.mk.injEq] at h
      obtain ⟨rfl, rfl⟩ := h
      exact flat rfl fun k hk => by
        obtain ⟨k1, k2⟩ := moveQ_cs h1 k hk
        exact ⟨hm k (k1 ▸ hz), k2⟩
    · cases h
  have copy : ∀ {t : Nat}, t ∈ tmpsOf o → cs = [] → x = get f t → QR o f cs x := by
    rintro t ht rfl rfl
    exact ⟨fun s hs => .inr ⟨t, ht, hs⟩, by simp, .inl rfl⟩
  have self : ∀ {t : Nat} {p : List Nat}, t ∈ tmpsOf o → cs = [] → (x = .loc t p ∨ x = .view t p) → QR o f cs x := by
    rintro t p ht rfl hx
    refine ⟨fun s hs => .inl ?_, by simp, .inl rfl⟩
    rcases hx with rfl | rfl <;> (simp only [refersTo, beq_iff_eq] at hs; subst hs; exact ht)
  have far : ∀ {z : Operand} {s : Nat} {p p' : List Nat}, z ∈ o.op.operands.toList → ptrOf f z = some (.at s p) → cs = [] → (x = .loc s p' ∨ x = .view s p') → QR o f cs x := by
    rintro z s p p' hz hp rfl hx
    obtain ⟨t, rfl, ht⟩ := ptrOf_refs hp
    refine ⟨fun s' hs => ?_, by simp, .inl rfl⟩
    have : s' = s := by rcases hx with rfl | rfl <;> (simp only [refersTo, beq_iff_eq] at hs; exact hs.symm)
    subst this
    rcases ht with rfl | ht
    · exact .inl (hm _ hz)
    · exact .inr ⟨t, hm _ hz, ht⟩
  have far2 : ∀ {z : Operand} {s : Nat} {p' : List Nat}, z ∈ o.op.operands.toList → (∃ t, z = .tmp t ∧ (s = t ∨ refersTo s (get f t) = true)) → cs = [] → (x = .loc s p' ∨ x = .box s p') → QR o f cs x := by
    rintro z s p' hz ⟨t, rfl, ht⟩ rfl hx
    refine ⟨fun s' hs => ?_, by simp, .inl rfl⟩
    have : s' = s := by rcases hx with rfl | rfl <;> (simp only [refersTo, beq_iff_eq] at hs; exact hs.symm)
    subst this
    rcases ht with rfl | ht
    · exact .inl (hm _ hz)
    · exact .inr ⟨t, hm _ hz, ht⟩
  unfold quiet at hq
  cases ho : o.op with
  | move z =>
    rw [ho] at hq hm mv
    cases z with
    | tmp t =>
      have ht := hm t (by simp [Op.operands])
      simp only at hq
      split at hq
      · rename_i y hg
        split at hq
        · exact flat0 hq
        · split at hq <;> simp only [Option.some.injEq, Prod.mk.injEq] at hq <;> obtain ⟨rfl, rfl⟩ := hq
          · exact self ht rfl (.inr rfl)
          · exact self ht rfl (.inr rfl)
          · exact self ht rfl (.inr rfl)
          · exact flat rfl fun c hc => by
              simp only [List.mem_singleton] at hc
              subst hc
              exact ⟨ht, y, hg⟩
      · simp only [Option.some.injEq, Prod.mk.injEq] at hq
        obtain ⟨rfl, rfl⟩ := hq
        exact self ht rfl (.inl rfl)
      · cases hq
      · cases hq
      · simp only [Option.some.injEq, Prod.mk.injEq] at hq
        exact copy ht hq.1.symm hq.2.symm
    | const v => exact mv (ty := o.type) (z := .const v) (by simp [Op.operands]) hq
    | global v => exact mv (ty := o.type) (z := .global v) (by simp [Op.operands]) hq
    | func v => exact mv (ty := o.type) (z := .func v) (by simp [Op.operands]) hq
  | assign z =>
    rw [ho] at hq hm mv
    cases z with
    | tmp t =>
      have ht := hm t (by simp [Op.operands])
      simp only at hq
      split at hq
      · simp only [Option.some.injEq, Prod.mk.injEq] at hq
        obtain ⟨rfl, rfl⟩ := hq
        exact self ht rfl (.inl rfl)
      · rename_i s p hg
        simp only [Option.some.injEq, Prod.mk.injEq] at hq
        exact copy ht hq.1.symm (by rw [hg]; exact hq.2.symm)
      · rename_i k c hg
        simp only [Option.some.injEq, Prod.mk.injEq] at hq
        exact copy ht hq.1.symm (by rw [hg]; exact hq.2.symm)
      · split at hq
        · cases hq
        · exact mv (by simp [Op.operands]) hq
      · exact mv (by simp [Op.operands]) hq
    | const v => exact mv (ty := o.type) (z := .const v) (by simp [Op.operands]) hq
    | global v => exact mv (ty := o.type) (z := .global v) (by simp [Op.operands]) hq
    | func v => exact mv (ty := o.type) (z := .func v) (by simp [Op.operands]) hq
  | pick c y z =>
    rw [ho] at hq hm
    simp only at hq
    split at hq
    · rename_i b _
      split at hq
      · rename_i q cq h1
        simp only [Option.some.injEq, Prod.mk.injEq] at hq
        obtain ⟨rfl, rfl⟩ := hq
        exact flat rfl fun k hk => by
          obtain ⟨k1, k2⟩ := byValQ_cs h1 k hk
          refine ⟨hm k ?_, k2⟩
          rw [← k1]
          cases b <;> simp [Op.operands]
      · cases hq
    · cases hq
  | alloc e =>
    rw [ho] at hq
    simp only at hq
    split at hq
    · simp only [Option.some.injEq, Prod.mk.injEq] at hq
      obtain ⟨rfl, rfl⟩ := hq
      exact ⟨fun s hs => by simp [refersTo] at hs, by simp, .inl rfl⟩
    · cases hq
  | box e z =>
    rw [ho] at hq hm far2
    simp only at hq
    split at hq
    · rename_i s p hp
      split at hq
      · split at hq
        · simp only [Option.some.injEq, Prod.mk.injEq] at hq
          exact far2 (by simp [Op.operands]) (placeOf_refs hp) hq.1.symm (.inr hq.2.symm)
        · cases hq
      · cases hq
    · split at hq
      · rename_i y c h1
        split at hq
        · cases hq
        simp only [Option.some.injEq, Prod.mk.injEq] at hq
        obtain ⟨rfl, rfl⟩ := hq
        exact ⟨fun s hs => by simp [refersTo] at hs, fun k hk => by
          obtain ⟨k1, k2⟩ := moveQ_cs h1 k hk
          exact ⟨hm k (by rw [← k1]; simp [Op.operands]), k2⟩, .inr fun _ => rfl⟩
      · cases hq
  | build t ps =>
    rw [ho] at hq hm
    simp only at hq
    split at hq
    · rename_i fs _
      split at hq
      · split at hq
        · rename_i ys c h1
          split at hq
          · split at hq
            · simp only [Option.some.injEq, Prod.mk.injEq] at hq
              obtain ⟨rfl, rfl⟩ := hq
              exact flat rfl fun k hk => by
                obtain ⟨⟨p, hp, k1⟩, k2⟩ := movesQ_cs h1 k hk
                obtain ⟨q, hq', rfl⟩ := List.mem_map.1 hp
                exact ⟨hm k (by rw [← k1]; simp only [Op.operands]; exact List.mem_map.2 ⟨q, hq', rfl⟩), k2⟩
            · cases hq
          · cases hq
        · cases hq
      · cases hq
    · cases hq
  | buildSlice t n ps =>
    rw [ho] at hq hm
    simp only at hq
    split at hq
    · cases hq
    · split at hq
      · split at hq
        · rename_i ys c h1
          have key : ∀ k ∈ c, k ∈ tmpsOf o ∧ ∃ z, get f k = .v z := fun k hk => by
            obtain ⟨⟨p, hp, k1⟩, k2⟩ := byValsQ_cs h1 k hk
            obtain ⟨q, hq', rfl⟩ := List.mem_map.1 hp
            exact ⟨hm k (by rw [← k1]; simp only [Op.operands]; exact List.mem_map.2 ⟨q, hq', rfl⟩), k2⟩
          split at hq
          · cases hq
          · split at hq
            · split at hq <;> simp only [Option.some.injEq, Prod.mk.injEq] at hq <;> obtain ⟨rfl, rfl⟩ := hq <;> exact flat rfl key
            · cases hq
        · cases hq
      · cases hq
  | load t z =>
    rw [ho] at hq far far2
    simp only at hq
    split at hq
    · split at hq
      · exact flat0 hq
      · cases hq
    · rename_i s p hp
      split at hq
      · split at hq
        · split at hq
          · exact flat0 hq
          · split at hq
            · simp only [Option.some.injEq, Prod.mk.injEq] at hq
              exact far (by simp [Op.operands]) hp hq.1.symm (.inr hq.2.symm)
            · simp only [Option.some.injEq, Prod.mk.injEq] at hq
              exact far (by simp [Op.operands]) hp hq.1.symm (.inr hq.2.symm)
            · simp only [Option.some.injEq, Prod.mk.injEq] at hq
              exact far (by simp [Op.operands]) hp hq.1.symm (.inr hq.2.symm)
            · split at hq
              · exact flat0 hq
              · cases hq
        · cases hq
      · cases hq
    · split at hq
      · rename_i s p hp
        split at hq
        · split at hq
          · simp only [Option.some.injEq, Prod.mk.injEq] at hq
            exact far2 (by simp [Op.operands]) (unbox_refs hp) hq.1.symm (.inl hq.2.symm)
          · cases hq
        · cases hq
      · cases hq
  | nilCheck z =>
    rw [ho] at hq hm
    cases z with
    | tmp t =>
      have ht := hm t (by simp [Op.operands])
      simp only at hq
      split at hq
      · simp only [Option.some.injEq, Prod.mk.injEq] at hq
        exact self ht hq.1.symm (.inl hq.2.symm)
      · rename_i s p hg
        split at hq
        · simp only [Option.some.injEq, Prod.mk.injEq] at hq
          exact copy ht hq.1.symm (by rw [hg]; exact hq.2.symm)
        · cases hq
      · rename_i s p hg
        split at hq
        · simp only [Option.some.injEq, Prod.mk.injEq] at hq
          exact copy ht hq.1.symm (by rw [hg]; exact hq.2.symm)
        · cases hq
      · exact flat0 hq
      · cases hq
    | _ => simp at hq
  | binOp op t y z u =>
    rw [ho] at hq
    simp only at hq
    split at hq
    · split at hq
      · split at hq
        · exact flat0 hq
        · cases hq
      · cases hq
    · cases hq
  | unOp op t y =>
    rw [ho] at hq
    simp only at hq
    split at hq
    · split at hq
      · exact flat0 hq
      · cases hq
    · cases hq
  | convert s d y =>
    rw [ho] at hq
    simp only at hq
    split at hq
    · exact flat0 hq
    · exact flat0 hq
    · cases hq
  | makeFunc fn first caps =>
    rw [ho] at hq hm
    cases fn with
    | func k =>
      simp only at hq
      split at hq
      · split at hq
        · rename_i c h1
          simp only [Option.some.injEq, Prod.mk.injEq] at hq
          obtain ⟨rfl, rfl⟩ := hq
          refine ⟨fun s hs => .inl ?_, by simp, .inl rfl⟩
          simp only [refersTo, List.any_eq_true] at hs
          obtain ⟨q, hq, hs⟩ := hs
          cases q with
          | slot i =>
            have hs : i = s := by simpa using hs
            subst hs
            exact hm i (by simp only [Op.operands, Array.toList_append]; exact List.mem_append_right _ (capsOf_refs h1 i hq))
          | ro y => cases hs
        · cases hq
      · cases hq
    | _ => simp at hq
  | makeMap t r =>
    rw [ho] at hq
    cases r with
    | none =>
      simp only at hq
      split at hq
      · exact flat0 hq
      · cases hq
    | some r => simp at hq
  | makeSlice t n c =>
    rw [ho] at hq
    simp only at hq
    split at hq
    · split at hq
      · split at hq
        · split at hq
          · exact flat0 hq
          · cases hq
        · cases hq
      · cases hq
    · cases hq
  | slice t y lo hi mx =>
    rw [ho] at hq hm
    simp only at hq
    split at hq
    · split at hq
      · split at hq
        · split at hq
          · exact flat0 hq
          · cases hq
        · cases hq
      · cases hq
    · split at hq
      · cases hq
      · split at hq
        · rename_i st xs c h1
          split at hq
          · split at hq
            · simp only [Option.some.injEq, Prod.mk.injEq] at hq
              obtain ⟨rfl, rfl⟩ := hq
              exact flat rfl fun k hk => by
                obtain ⟨k1, k2⟩ := byValQ_cs h1 k hk
                exact ⟨hm k (by rw [← k1]; simp [Op.operands]), k2⟩
            · cases hq
          · cases hq
        · cases hq
    · cases hq
  | fieldAddr t z i =>
    rw [ho] at hq far
    simp only at hq
    split at hq
    · split at hq
      · split at hq
        · exact flat0 hq
        · cases hq
      · cases hq
    · rename_i s p hp
      split at hq
      · split at hq
        · simp only [Option.some.injEq, Prod.mk.injEq] at hq
          exact far (by simp [Op.operands]) hp hq.1.symm (.inl hq.2.symm)
        · cases hq
      · cases hq
    · cases hq
  | field t y i =>
    rw [ho] at hq
    simp only at hq
    split at hq
    · split at hq
      · split at hq
        · split at hq
          · exact flat0 hq
          · cases hq
        · cases hq
      · cases hq
    · cases hq
  | indexAddr t y i =>
    rw [ho] at hq hm
    simp only at hq
    split at hq
    · split at hq
      · split at hq
        · split at hq
          · exact flat0 hq
          · cases hq
        · cases hq
      · cases hq
    · split at hq
      · split at hq
        · split at hq
          · exact flat0 hq
          · cases hq
        · cases hq
      · cases hq
    · split at hq
      · split at hq
        · cases y with
          | tmp tx =>
            have ht := hm tx (by simp [Op.operands])
            simp only at hq
            split at hq
            · rename_i s p hg
              simp only [Option.some.injEq, Prod.mk.injEq] at hq
              obtain ⟨rfl, rfl⟩ := hq
              exact ⟨fun s' hs => .inr ⟨tx, ht, by rw [hg]; exact hs⟩, by simp, .inl rfl⟩
            · simp only [Option.some.injEq, Prod.mk.injEq] at hq
              exact self ht hq.1.symm (.inl hq.2.symm)
            · cases hq
          | _ => simp at hq
        · cases hq
      · cases hq
    · cases hq
  | index t y i =>
    rw [ho] at hq
    simp only at hq
    split at hq
    · split at hq
      · split at hq
        · exact flat0 hq
        · cases hq
      · cases hq
    · cases hq
  | lookup t m k ok =>
    rw [ho] at hq
    simp only at hq
    split at hq
    · split at hq
      · split at hq
        · split at hq
          · exact flat0 hq
          · cases hq
        · cases hq
      · split at hq
        · split at hq
          · exact flat0 hq
          · cases hq
        · cases hq
      · cases hq
    · cases hq
  | extract z i =>
    rw [ho] at hq
    cases z with
    | tmp t =>
      simp only at hq
      split at hq
      · split at hq
        · split at hq
          · exact flat0 hq
          · cases hq
        · cases hq
      · cases hq
    | _ => simp at hq
  | call c =>
    rw [ho] at hq hm
    have hz : ∀ {ts : List TypeId} {ys : List AV} {cs' : List Nat}, byValsQ C f (ts.zip c.args.toList) = some (ys, cs') → ∀ k ∈ cs', k ∈ tmpsOf o ∧ ∃ z, get f k = .v z := by
      intro ts ys cs' h1 k hk
      obtain ⟨⟨p, hp, k1⟩, k2⟩ := byValsQ_cs h1 k hk
      exact ⟨hm k (by rw [← k1]; simp only [Op.operands, Call.operands, Array.toList_append]; exact List.mem_append_right _ (mem_zip_snd hp)), k2⟩
    simp only at hq
    cases hb : c.callee with
    | builtin b =>
      rw [hb] at hq
      cases b with
      | len =>
        simp only at hq
        split at hq
        · split at hq
          · split at hq
            · exact flat0 hq
            · cases hq
          · cases hq
        · cases hq
      | append =>
        simp only at hq
        split at hq
        · rename_i y z t u ha _
          split at hq
          · split at hq
            · cases hq
            · split at hq
              · rename_i bb c1 ya h1 _
                split at hq
                · split at hq
                  · cases hq
                  · split at hq
                    · simp only [Option.some.injEq, Prod.mk.injEq] at hq
                      obtain ⟨rfl, rfl⟩ := hq
                      exact flat rfl fun k hk => by
                        obtain ⟨k1, k2⟩ := moveQ_cs h1 k hk
                        exact ⟨hm k (by rw [← k1]; simp only [Op.operands, Call.operands, Array.toList_append]; exact List.mem_append_right _ (by rw [ha]; simp)), k2⟩
                    · cases hq
                · cases hq
              · cases hq
          · cases hq
        · cases hq
      | max =>
        simp only at hq
        split at hq
        · split at hq
          · split at hq
            · split at hq
              · exact flat0 hq
              · cases hq
            · cases hq
          · cases hq
        · cases hq
      | min =>
        simp only at hq
        split at hq
        · split at hq
          · split at hq
            · split at hq
              · exact flat0 hq
              · cases hq
            · cases hq
          · cases hq
        · cases hq
      | _ => simp at hq
    | invoke r m => rw [hb] at hq; simp at hq
    | value y =>
      rw [hb] at hq
      cases y with
      | func k =>
        simp only at hq
        split at hq
        · split at hq
          · rename_i ys c1 h1
            split at hq
            · simp only [Option.some.injEq, Prod.mk.injEq] at hq
              obtain ⟨rfl, rfl⟩ := hq
              exact flat rfl (hz h1)
            · cases hq
          · cases hq
        · cases hq
      | tmp t =>
        simp only at hq
        split at hq
        · split at hq
          · split at hq
            · rename_i ys c1 h1
              split at hq
              · simp only [Option.some.injEq, Prod.mk.injEq] at hq
                obtain ⟨rfl, rfl⟩ := hq
                exact flat rfl (hz h1)
              · cases hq
            · cases hq
          · cases hq
        · cases hq
      | _ => simp at hq
  | _ => rw [ho] at hq; simp at hq
end
end Go.E
