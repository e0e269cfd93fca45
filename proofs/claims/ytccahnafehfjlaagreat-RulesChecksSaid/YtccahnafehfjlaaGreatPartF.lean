/- A part of a proof: an abstract machine for the given program, and what it says of it. No condition. -/
import Derived.IntWalk
import Derived.Test.YtccahnafehfjlaaGreatRows
import Derived.Test.YtccahnafehfjlaaGreatPartC
import Derived.Test.YtccahnafehfjlaaGreatPartE
namespace Go.E
/-! Symbolic runs: the steps that look at a condition. -/
section
variable {C : Cfg} {fid : Nat} {call : CallF} {o : Oper} {f : Frame}
theorem quiet_index {t : TypeId} {a b st : Nat} {xs : List AV} {kd : IntKind} {k : Nat} {y : AV} (ho : o.op = .indexAddr t (.tmp a) (.tmp b)) (ha : get f a = .v (.sl st xs)) (hb : get f b = .v (.int kd (k : Int))) (hk : xs[k]? = some y) (hst : (st == strideT C t && st != 0) = true) :
    quiet C fid call o f = some ([], .v (.ro y)) := by
  have hlt : k < xs.length := (List.getElem?_eq_some_iff.1 hk).1
  have hi : idxA (.int kd (k : Int)) xs.length = some k := by simp [idxA, hlt]
  unfold quiet
  rw [ho]
  simp only [lookO, look, ha, hb, hi, hst, if_true, hk]
theorem step_quiet {x : Slot} (h : quiet C fid call o f = some ([], x)) : stepOp C fid call o none f = some (putO f o.dst x) := by
  simp only [stepOp, guardS, evalOp, h, List.foldl_nil]
theorem region_cons {g : Guard} {os : List (Oper × Guard)} {n : Nat} {f1 : Frame} (h : stepOp C fid call o g f = some f1) : evalCode C fid call n (.region ((o, g) :: os)) f = evalCode C fid call n (.region os) f1 := by
  simp only [evalCode, runOps, h]
theorem seq_normal {a b : ECode} {n : Nat} {f1 : Frame} (h : evalCode C fid call n a f = some (.normal, f1)) : evalCode C fid call n (.seq a b) f = evalCode C fid call n b f1 := by
  simp only [evalCode, h]
theorem seq_other {a b : ECode} {n : Nat} {f1 : Frame} {o : Out} (ho : o ≠ .normal) (h : evalCode C fid call n a f = some (o, f1)) : evalCode C fid call n (.seq a b) f = some (o, f1) := by
  simp only [evalCode, h]
  cases o <;> first | rfl | exact absurd rfl ho
theorem block_normal {b : ECode} {n id : Nat} {f1 : Frame} (h : evalCode C fid call n b f = some (.normal, f1)) : evalCode C fid call n (.block id b) f = some (.normal, f1) := by
  simp only [evalCode, h]
theorem block_ret {b : ECode} {n id : Nat} {f1 : Frame} (h : evalCode C fid call n b f = some (.ret, f1)) : evalCode C fid call n (.block id b) f = some (.ret, f1) := by
  simp only [evalCode, h]
theorem block_exit {b : ECode} {n id : Nat} {f1 : Frame} (h : evalCode C fid call n b f = some (.exit id, f1)) : evalCode C fid call n (.block id b) f = some (.normal, f1) := by
  simp only [evalCode, h, beq_self_eq_true, if_true]
theorem iter_normal {g : Frame → Option (Out × Frame)} {n : Nat} {f1 : Frame} (h : g f = some (.normal, f1)) : iter g (n + 1) f = iter g n f1 := by
  simp only [iter, h]
theorem iter_other {g : Frame → Option (Out × Frame)} {n : Nat} {f1 : Frame} {o : Out} (ho : o ≠ .normal) (h : g f = some (o, f1)) : iter g (n + 1) f = some (o, f1) := by
  simp only [iter, h]
  cases o <;> first | rfl | exact absurd rfl ho
theorem quiet_call {c : Call} {g : FuncId} {as_ : List AV} {cs : List Nat} {r : AV} {outs : List Slot} (ho : o.op = .call c) (hc : c.callee = .value (.func g)) (h1 : (noOwn (C.own g) 0 c.args.size && c.argTypes.size == c.args.size) = true)
    (h2 : byValsQ C f (c.argTypes.toList.zip c.args.toList) = some (as_, cs)) (h3 : call g (as_.map .v) = some (r, outs)) : quiet C fid call o f = some (cs, .v r) := by
  unfold quiet
  rw [ho]
  simp only [hc, h1, if_true, h2, h3]
theorem quiet_app {c : Call} {t e : TypeId} {x y : Operand} {b ya r : AV} {cs : List Nat} {sty : Nat} {ys : List AV} (ho : o.op = .call c) (hc : c.callee = .builtin .append) (ha : c.args.toList = [x, y]) (ht : c.argTypes.toList = [t, t]) (he : elemT C t = some e)
    (h1 : moveQ C f t x = some (b, cs)) (h2 : lookO C f t y = some ya) (h3 : slOf ya = some (sty, ys)) (h4 : sameT x y = false) (h5 : appendA C (C.exc fid (o.dst.getD 0)) e b ys sty = some r) : quiet C fid call o f = some (cs, .v r) := by
  unfold quiet
  rw [ho]
  simp only [hc, ha, ht, he, bne_self_eq_false, Bool.false_eq_true, if_false, h1, h2, h3, h4, h5]
theorem step_on {g : Guard} {cs : List Nat} {x : Slot} (hg : guardS g f = some true) (h : quiet C fid call o f = some (cs, x)) : stepOp C fid call o g f = some (putO (cs.foldl (fun f c => f.set c .any) f) o.dst x) := by
  simp only [stepOp, hg, evalOp, h]
theorem run_app {l1 l2 : List (Oper × Guard)} {f1 : Frame} : runOps C fid call l1 f = some f1 → runOps C fid call (l1 ++ l2) f = runOps C fid call l2 f1 := by
  induction l1 generalizing f with
  | nil => intro h; simp only [runOps, Option.some.injEq] at h; rw [h]; rfl
  | cons p l1 ih =>
    intro h
    obtain ⟨o, g⟩ := p
    rw [List.cons_append, runOps]
    rw [runOps] at h
    split at h
    · exact ih h
    · cases h
end
end Go.E

open Go Go.E
namespace Go.Proofs.YtccahnafehfjlaaGreat
def cd : Option EFn → ECode
  | some f => f.body
  | none => .skip
def s1 : ECode → ECode
  | .seq a _ => a
  | c => c
def s2 : ECode → ECode
  | .seq _ b => b
  | c => c
def inB : ECode → ECode
  | .block _ b => b
  | .loop b => b
  | c => c
noncomputable def c11 : ECode := cd (Cf.code 11)
/-- A violation. -/
def vio (k a b s : Int) : AV := .agg [.int .i64 k, .int .i64 a, .int .i64 b, .int .i64 s]
/-- Stale slots. -/
structure Stale where
  (x5 x9 x10 x11 x12 x13 x14 x15 x16 x17 x18 x19 x20 x21 x22 : Slot)
/-- The frame at the loop's head. -/
def hd (xs : List AV) (acc i : Int) (z : Stale) : List Slot := [.v (.sl 4 xs), .any, .v (.int .i64 0), .v (.int .i64 acc), .any, z.x5, .v (.sl 4 xs), .v (.int .i64 xs.length), .v (.int .i64 i), z.x9, z.x10, z.x11, z.x12, z.x13, z.x14, z.x15, z.x16, z.x17, z.x18, z.x19, z.x20, z.x21, z.x22, .any]
def st0 : Stale := ⟨.any, .any, .any, .any, .any, .any, .any, .any, .any, .any, .any, .any, .any, .any, .any⟩
set_option maxRecDepth 100000
theorem score_a (call : CallF) (n : Nat) (xs : List AV) : evalCode Cf 11 call n (s1 c11) ([.v (.sl 4 xs)] ++ List.replicate 23 .any) = some (.normal, [.v (.sl 4 xs), .any, .v (.int .i64 0)] ++ List.replicate 21 .any) := by kernel_rfl
theorem score_b (call : CallF) (n : Nat) (xs : List AV) : evalCode Cf 11 call n (s1 (s2 c11)) ([.v (.sl 4 xs), .any, .v (.int .i64 0)] ++ List.replicate 21 .any) = some (.normal, [.v (.sl 4 xs), .any, .v (.int .i64 0), .v (.int .i64 0)] ++ List.replicate 20 .any) := by kernel_rfl
theorem score_c (call : CallF) (n : Nat) (xs : List AV) : evalCode Cf 11 call n (s1 (s1 (s2 (s2 c11)))) ([.v (.sl 4 xs), .any, .v (.int .i64 0), .v (.int .i64 0)] ++ List.replicate 20 .any) = some (.normal, hd xs 0 0 st0) := by kernel_rfl
/-- The loop's body. -/
noncomputable def bd : ECode := inB (inB (s2 (s1 (s2 (s2 c11)))))
/-- The test. -/
theorem score_t (call : CallF) (n : Nat) (xs : List AV) (acc i : Int) (z : Stale) : evalCode Cf 11 call n (s1 bd) (hd xs acc i z) = some (.normal, hd xs acc i { z with x9 := .v (.bool (decide (i < xs.length))) }) := by kernel_rfl
theorem score_t1 (call : CallF) (n : Nat) (xs : List AV) (acc i : Int) (z : Stale) : evalCode Cf 11 call n (s1 (s2 bd)) (hd xs acc i { z with x9 := .v (.bool true) }) = some (.normal, hd xs acc i { z with x9 := .v (.bool true) }) := by kernel_rfl
theorem score_t0 (call : CallF) (n : Nat) (xs : List AV) (acc i : Int) (z : Stale) : evalCode Cf 11 call n (s1 (s2 bd)) (hd xs acc i { z with x9 := .v (.bool false) }) = some (.exit 0, hd xs acc i { z with x9 := .v (.bool false) }) := by kernel_rfl
noncomputable def bl : ECode := inB (s1 (s2 (s2 bd)))
def opsIn : ECode → List (Oper × Guard)
  | .region l => l
  | _ => []
noncomputable def o10 : Oper := ((opsIn (s1 bl)).headD default).1
theorem o10_code : s1 bl = .region ((o10, none) :: (opsIn (s1 bl)).tail) := by kernel_rfl
theorem o10_op : o10.op = .indexAddr 24 (.tmp 6) (.tmp 8) := by kernel_rfl
theorem o10_dst : o10.dst = some 10 := by kernel_rfl
theorem st4 : (4 == strideT Cf 24 && 4 != 0) = true := by kernel_rfl
/-- The temporary's box is made anew. -/
def kl (x : Slot) : Slot := killed 5 [] (killedAll 5 x)
def anew (z : Stale) (v : AV) : Stale := ⟨.cell v, kl z.x9, .v (.ro v), .v v, kl z.x12, kl z.x13, kl z.x14, kl z.x15, kl z.x16, kl z.x17, kl z.x18, kl z.x19, kl z.x20, kl z.x21, kl z.x22⟩
theorem score_d0 (call : CallF) (n : Nat) (xs : List AV) (acc i : Int) (z : Stale) (k a b s : Int) : evalCode Cf 11 call n (.region (opsIn (s1 bl)).tail) (putO (hd xs acc i z) (some 10) (.v (.ro (vio k a b s)))) = some (.normal, hd xs acc i (anew z (vio k a b s))) := by kernel_rfl
theorem score_d (call : CallF) (n : Nat) (xs : List AV) (acc : Int) (i : Nat) (z : Stale) (k a b s : Int) (h : xs[i]? = some (vio k a b s)) : evalCode Cf 11 call n (s1 bl) (hd xs acc i z) = some (.normal, hd xs acc i (anew z (vio k a b s))) := by
  rw [o10_code, region_cons (step_quiet (quiet_index o10_op (a := 6) (b := 8) (st := 4) (xs := xs) (k := i) rfl rfl h st4)), o10_dst]
  exact score_d0 call n xs acc i z k a b s
/-- Is it too heavy? -/
def hv (z : Stale) (acc s : Int) : Stale := { z with x12 := .loc 5 [3], x13 := .v (.int .i64 s), x14 := .v (.int .i64 acc), x15 := .v (.int .i64 (IntKind.wrap .i64 (4611686018427387904 - acc))), x16 := .v (.bool (decide (s > IntKind.wrap .i64 (4611686018427387904 - acc)))) }
theorem score_e (call : CallF) (n : Nat) (xs : List AV) (acc i : Int) (z : Stale) (k a b s : Int) : evalCode Cf 11 call n (s1 (s1 (s2 bl))) (hd xs acc i (anew z (vio k a b s))) = some (.normal, hd xs acc i (hv (anew z (vio k a b s)) acc s)) := by kernel_rfl
theorem score_f1 (call : CallF) (n : Nat) (xs : List AV) (acc i : Int) (z : Stale) : evalCode Cf 11 call n (s2 (s1 (s2 bl))) (hd xs acc i { z with x16 := .v (.bool true) }) = some (.ret, (hd xs acc i { z with x16 := .v (.bool true) }).set 2 (.v (.int .i64 4611686018427387904))) := by kernel_rfl
theorem score_f0 (call : CallF) (n : Nat) (xs : List AV) (acc i : Int) (z : Stale) : evalCode Cf 11 call n (s2 (s1 (s2 bl))) (hd xs acc i { z with x16 := .v (.bool false) }) = some (.normal, hd xs acc i { z with x16 := .v (.bool false) }) := by kernel_rfl
def mx0 (s : Int) : Int := if (0 : Int) > s then 0 else s
def ad (z : Stale) (acc s : Int) : Stale := { z with x17 := .v (.int .i64 acc), x18 := .loc 5 [3], x19 := .v (.int .i64 s), x20 := .v (.int .i64 (mx0 s)), x21 := .v (.int .i64 (IntKind.wrap .i64 (acc + mx0 s))) }
theorem score_g (call : CallF) (n : Nat) (xs : List AV) (acc i : Int) (z : Stale) (k a b s : Int) : evalCode Cf 11 call n (s2 (s2 bl)) (hd xs acc i { z with x5 := .cell (vio k a b s) }) = some (.normal, hd xs (IntKind.wrap .i64 (acc + mx0 s)) i (ad { z with x5 := .cell (vio k a b s) } acc s)) := by kernel_rfl
theorem score_h (call : CallF) (n : Nat) (xs : List AV) (acc i : Int) (z : Stale) : evalCode Cf 11 call n (s2 (s2 (s2 bd))) (hd xs acc i z) = some (.normal, hd xs acc (IntKind.wrap .i64 (i + 1)) { z with x22 := .v (.int .i64 (IntKind.wrap .i64 (i + 1))) }) := by kernel_rfl
theorem bd_eq : bd = .seq (s1 bd) (.seq (s1 (s2 bd)) (.seq (.block 1 bl) (s2 (s2 (s2 bd))))) := by kernel_rfl
theorem bl_eq : bl = .seq (s1 bl) (.seq (.seq (s1 (s1 (s2 bl))) (s2 (s1 (s2 bl)))) (s2 (s2 bl))) := by kernel_rfl
/-- A round. -/
theorem score_round (call : CallF) (n : Nat) (xs : List AV) (acc : Int) (i : Nat) (z : Stale) (k a b s : Int) (h : xs[i]? = some (vio k a b s)) (hs : ¬ s > IntKind.wrap .i64 (4611686018427387904 - acc)) :
    ∃ z', evalCode Cf 11 call n bd (hd xs acc i z) = some (.normal, hd xs (IntKind.wrap .i64 (acc + mx0 s)) (IntKind.wrap .i64 (i + 1)) z') := by
  have hlt : i < xs.length := (List.getElem?_eq_some_iff.1 h).1
  have h1 : (decide ((i : Int) < xs.length)) = true := by simp [hlt]
  have h2 : (decide (s > IntKind.wrap .i64 (4611686018427387904 - acc))) = false := by simp [hs]
  have hz3 : hv (anew { z with x9 := .v (.bool true) } (vio k a b s)) acc s = { hv (anew { z with x9 := .v (.bool true) } (vio k a b s)) acc s with x16 := .v (.bool false) } := by
    unfold hv
    rw [h2]
  have hbl : evalCode Cf 11 call n bl (hd xs acc i { z with x9 := .v (.bool true) }) = some (.normal, hd xs (IntKind.wrap .i64 (acc + mx0 s)) i (ad { hv (anew { z with x9 := .v (.bool true) } (vio k a b s)) acc s with x16 := .v (.bool false) } acc s)) := by
    rw [bl_eq, seq_normal (score_d call n xs acc i _ k a b s h)]
    have e1 := score_e call n xs acc i { z with x9 := .v (.bool true) } k a b s
    rw [hz3] at e1
    rw [seq_normal ((seq_normal e1).trans (score_f0 call n xs acc i _))]
    exact score_g call n xs acc i { hv (anew { z with x9 := .v (.bool true) } (vio k a b s)) acc s with x16 := .v (.bool false) } k a b s
  generalize ad { hv (anew { z with x9 := .v (.bool true) } (vio k a b s)) acc s with x16 := .v (.bool false) } acc s = z4 at hbl
  refine ⟨{ z4 with x22 := .v (.int .i64 (IntKind.wrap .i64 (i + 1))) }, ?_⟩
  rw [bd_eq, seq_normal (score_t call n xs acc i z), h1, seq_normal (score_t1 call n xs acc i z), seq_normal (block_normal hbl)]
  exact score_h call n xs _ i _
/-- A round that ends the call. -/
theorem score_heavy (call : CallF) (n : Nat) (xs : List AV) (acc : Int) (i : Nat) (z : Stale) (k a b s : Int) (h : xs[i]? = some (vio k a b s)) (hs : s > IntKind.wrap .i64 (4611686018427387904 - acc)) :
    ∃ z', evalCode Cf 11 call n bd (hd xs acc i z) = some (.ret, (hd xs acc i z').set 2 (.v (.int .i64 4611686018427387904))) := by
  have hlt : i < xs.length := (List.getElem?_eq_some_iff.1 h).1
  have h1 : (decide ((i : Int) < xs.length)) = true := by simp [hlt]
  have h2 : (decide (s > IntKind.wrap .i64 (4611686018427387904 - acc))) = true := by simp [hs]
  have hz3 : hv (anew { z with x9 := .v (.bool true) } (vio k a b s)) acc s = { hv (anew { z with x9 := .v (.bool true) } (vio k a b s)) acc s with x16 := .v (.bool true) } := by
    unfold hv
    rw [h2]
  have hbl : evalCode Cf 11 call n bl (hd xs acc i { z with x9 := .v (.bool true) }) = some (.ret, (hd xs acc i { hv (anew { z with x9 := .v (.bool true) } (vio k a b s)) acc s with x16 := .v (.bool true) }).set 2 (.v (.int .i64 4611686018427387904))) := by
    rw [bl_eq, seq_normal (score_d call n xs acc i _ k a b s h)]
    have e1 := score_e call n xs acc i { z with x9 := .v (.bool true) } k a b s
    rw [hz3] at e1
    rw [seq_other (by decide) ((seq_normal e1).trans (score_f1 call n xs acc i _))]
  generalize ({ hv (anew { z with x9 := .v (.bool true) } (vio k a b s)) acc s with x16 := .v (.bool true) } : Stale) = z4 at hbl
  refine ⟨z4, ?_⟩
  rw [bd_eq, seq_normal (score_t call n xs acc i z), h1, seq_normal (score_t1 call n xs acc i z), seq_other (by decide) (block_ret hbl)]
/-- The end of the list. -/
theorem score_end (call : CallF) (n : Nat) (xs : List AV) (acc : Int) (i : Nat) (z : Stale) (h : xs.length ≤ i) :
    evalCode Cf 11 call n bd (hd xs acc i z) = some (.exit 0, hd xs acc i { z with x9 := .v (.bool false) }) := by
  have h1 : (decide ((i : Int) < xs.length)) = false := by simp; omega
  rw [bd_eq, seq_normal (score_t call n xs acc i z), h1, seq_other (by decide) (score_t0 call n xs acc i z)]
end Go.Proofs.YtccahnafehfjlaaGreat

open Go Go.E
namespace Go.Proofs.YtccahnafehfjlaaGreat
theorem wrap_in {x : Int} (h1 : -9223372036854775808 ≤ x) (h2 : x ≤ 9223372036854775807) : IntKind.wrap .i64 x = x := IntWalk.i64_in x ⟨h1, h2⟩
/-- What the score comes to. -/
def scoreL : Int → List Int → Int
  | acc, [] => acc
  | acc, s :: l => if s > 4611686018427387904 - acc then 4611686018427387904 else scoreL (acc + mx0 s) l
structure V4 where
  (k a b s : Int)
def V4.av (v : V4) : AV := vio v.k v.a v.b v.s
theorem mx0_le {s : Int} : 0 ≤ mx0 s ∧ s ≤ mx0 s ∧ (mx0 s = 0 ∨ mx0 s = s) := by
  unfold mx0
  split <;> omega
theorem score_loop (call : CallF) (n : Nat) (xs : List AV) (hlen : xs.length ≤ 1000000) : ∀ (rest : List V4) (i : Nat) (acc : Int) (z : Stale) (m : Nat), 0 ≤ acc → acc ≤ 4611686018427387904 → xs.drop i = rest.map V4.av → i + rest.length = xs.length → rest.length < m →
    (∃ z', iter (evalCode Cf 11 call n bd) m (hd xs acc i z) = some (.exit 0, hd xs (scoreL acc (rest.map V4.s)) xs.length z')) ∨
    (∃ z' acc' i', iter (evalCode Cf 11 call n bd) m (hd xs acc i z) = some (.ret, (hd xs acc' i' z').set 2 (.v (.int .i64 4611686018427387904))) ∧ scoreL acc (rest.map V4.s) = 4611686018427387904)
  | [], i, acc, z, m, h0, h1, hd', hi, hm => by
    obtain ⟨m, rfl⟩ : ∃ m', m = m' + 1 := ⟨m - 1, by simp at hm; omega⟩
    have hi : i = xs.length := by simpa using hi
    refine .inl ⟨{ z with x9 := .v (.bool false) }, ?_⟩
    have := iter_other (n := m) (by decide) (score_end call n xs acc i z (by omega))
    rw [this, hi]
    rfl
  | v :: rest, i, acc, z, m, h0, h1, hd', hi, hm => by
    obtain ⟨m, rfl⟩ : ∃ m', m = m' + 1 := ⟨m - 1, by simp at hm; omega⟩
    have hx : xs[i]? = some (vio v.k v.a v.b v.s) := by
      have : (xs.drop i)[0]? = some v.av := by rw [hd']; rfl
      rw [List.getElem?_drop, Nat.add_zero] at this
      exact this
    have hd2 : xs.drop (i + 1) = rest.map V4.av := by rw [← List.drop_drop, hd']; rfl
    have hi' : i + 1 + rest.length = xs.length := by simp only [List.length_cons] at hi; omega
    have hw : IntKind.wrap .i64 (4611686018427387904 - acc) = 4611686018427387904 - acc := wrap_in (by omega) (by omega)
    by_cases hs : v.s > 4611686018427387904 - acc
    · obtain ⟨z', e⟩ := score_heavy call n xs acc i z v.k v.a v.b v.s hx (by rw [hw]; exact hs)
      refine .inr ⟨z', acc, i, iter_other (n := m) (by decide) e, ?_⟩
      simp only [List.map_cons, scoreL, if_pos hs]
    · obtain ⟨z', e⟩ := score_round call n xs acc i z v.k v.a v.b v.s hx (by rw [hw]; exact hs)
      obtain ⟨q1, q2, q3⟩ := mx0_le (s := v.s)
      have hw1 : IntKind.wrap .i64 (acc + mx0 v.s) = acc + mx0 v.s := wrap_in (by omega) (by omega)
      have hw2 : IntKind.wrap .i64 ((i : Int) + 1) = ((i + 1 : Nat) : Int) := by
        rw [wrap_in (by omega) (by omega)]
        rfl
      rw [hw1, hw2] at e
      have hsc : scoreL acc ((v :: rest).map V4.s) = scoreL (acc + mx0 v.s) (rest.map V4.s) := by
        simp only [List.map_cons, scoreL, if_neg hs]
      rw [iter_normal e, hsc]
      exact score_loop call n xs hlen rest (i + 1) (acc + mx0 v.s) z' m (by omega) (by omega) hd2 hi' (by simp only [List.length_cons] at hm; omega)
end Go.Proofs.YtccahnafehfjlaaGreat

open Go Go.E
namespace Go.E
/-- What is known of calls, from several sources. -/
theorem callOK_of {C : Cfg} {call : CallF} (h : ∀ {k : FuncId} {args : List Slot} {r : AV × List Slot}, call k args = some r → ∃ c, CallOK C c ∧ c k args = some r) : CallOK C call :=
  ⟨fun q => by obtain ⟨c, h1, h2⟩ := h q; exact h1.calls h2, fun q => by obtain ⟨c, h1, h2⟩ := h q; exact h1.body h2⟩
end Go.E
namespace Go.Proofs.YtccahnafehfjlaaGreat
open Go.ChangeShapes Go.WideShapes Go.ChangeAt Go.RowKit
set_option maxRecDepth 100000
theorem ownG : ownKnob Tryz.prog.godebug = none := by kernel_rfl
theorem laidOutG : laidOutB Tryz.prog = true := by kernel_rfl
theorem cells44 : Tryz.prog.cellsOf 44 = 4 := by kernel_rfl
theorem isT_int {m : Nat} {x : AV} (h : isT Tryz.prog m 3 x) : ∃ n, x = .int .i64 n ∧ (Lit.int .i64 n).wf = true := by
  cases m with
  | zero => exact h.elim
  | succ m =>
    unfold isT at h
    rw [Tryz.underlying3] at h
    exact h
/-- A struct's fields, one by one. -/
theorem isT_struct {P : Program} {m : Nat} {t : TypeId} {x : AV} {fs : Array Field} (hu : P.underlying t = some (.struct fs)) (h : isT P m t x) : ∃ xs m', x = .agg xs ∧ xs.length = fs.toList.length ∧ ∀ (i : Nat) (g : Field) (y : AV), fs.toList[i]? = some g → xs[i]? = some y → isT P m' g.type y := by
  cases m with
  | zero => exact h.elim
  | succ m =>
    unfold isT at h
    rw [hu] at h
    obtain ⟨xs, h1, h2, h3⟩ := h
    exact ⟨xs, m, h1, h2, h3⟩
theorem isT_slice {P : Program} {m : Nat} {t e : TypeId} {x : AV} (hu : P.underlying t = some (.slice e)) (h : isT P m t x) : ∃ xs m', x = .sl (P.cellsOf e) xs ∧ xs.length ≤ maxLen ∧ ∀ y ∈ xs, isT P m' e y := by
  cases m with
  | zero => exact h.elim
  | succ m =>
    unfold isT at h
    rw [hu] at h
    obtain ⟨xs, h1, h2, h3⟩ := h
    exact ⟨xs, m, h1, h2, h3⟩
theorem isT_vio {m : Nat} {x : AV} (h : isT Tryz.prog m 44 x) : ∃ v : V4, x = v.av := by
  obtain ⟨xs, m', rfl, hl, hf⟩ := isT_struct Tryz.underlying44 h
  match xs, hl with
  | [a, b, c, d], _ =>
    obtain ⟨k, rfl, _⟩ := isT_int (hf 0 _ _ rfl rfl)
    obtain ⟨a', rfl, _⟩ := isT_int (hf 1 _ _ rfl rfl)
    obtain ⟨b', rfl, _⟩ := isT_int (hf 2 _ _ rfl rfl)
    obtain ⟨s, rfl, _⟩ := isT_int (hf 3 _ _ rfl rfl)
    exact ⟨⟨k, a', b', s⟩, rfl⟩
theorem all_map {α : Type} {f : α → AV} : ∀ {xs : List AV}, (∀ y ∈ xs, ∃ v, y = f v) → ∃ vs : List α, xs = vs.map f
  | [], _ => ⟨[], rfl⟩
  | x :: xs, h => by
    obtain ⟨v, rfl⟩ := h x (by simp)
    obtain ⟨vs, rfl⟩ := all_map (f := f) (xs := xs) (fun y hy => h y (by simp [hy]))
    exact ⟨v :: vs, rfl⟩
theorem isT_vios {m : Nat} {x : AV} (h : isT Tryz.prog m 24 x) : ∃ vs : List V4, x = .sl 4 (vs.map V4.av) := by
  obtain ⟨xs, m', rfl, _, hf⟩ := isT_slice Tryz.underlying24 h
  obtain ⟨vs, rfl⟩ := all_map (fun y hy => isT_vio (hf y hy))
  rw [cells44]
  exact ⟨vs, rfl⟩
/-- A law's row, out of what the machine says. -/
theorem law_lifted {os : Os} {f : FuncId} {fn : Func} {s : ChangeSpec} {H : Type} {enc : TypeId × Value → H} {conds : List PathCond} (started : os.Started) (hin : Tryz.checked.prog.inits.idxOf? f = none) (hfn : Tryz.prog.funcs[f]? = some fn) (hv : s.vars = [])
    (hr : ∀ t ∈ fn.params.toList, Tryz.prog.readableRec t = true ∧ t < Tryz.prog.types.size) (hres : fn.resultTypes = #[4]) (hpl : fn.params.toList.all (plainT Tryz.prog 8) = true)
    (hspec : ∀ (ds : List (DataW H)), ds.length = fn.params.toList.length → (s.fn H ds).results = [.lit (.bool true)] ∧ (s.fn H ds).args = ds ∧ (s.fn H ds).vars = [])
    (hwit : ∃ (w : World) (tape : Tape) (i : Input), w.os = os ∧ World.Shaped Tryz.checked.prog (w.forCall tape i) ∧ i.vars = [] ∧ Input.okWide Tryz.checked.prog (w.forCall tape i) .any w.heap.size f i ∧ s.pre6 enc Tryz.checked.prog fn conds false (w.forCall tape i).memory i.args ∧ ({} : Assume).holds Tryz.checked.prog (lone (Frame.enter Tryz.checked.prog f i.args .normal) [] (w.forCall tape i)))
    (hE : ∀ xs, isTs Tryz.prog 8 fn.params.toList xs → ∃ call outs, CallOK Cf call ∧ call f (xs.map .v) = some (.bool true, outs)) :
    ReturnsInHanded {} Tryz.checked os f .any (s.pre6 enc Tryz.checked.prog fn conds false) (s.post enc Tryz.checked.prog fn false true false false) := by
  refine returnsInHanded_of_change (C := Tryz.checked) ownG started hin hfn hwit ?_
  intro W base args ds gs before hval hW _ _
  have hval' : ∀ (j : Nat) t v, fn.params.toList[j]? = some t → args.toList[j]? = some v → Value.okWide Tryz.prog W .any base t v := fun j t v h1 h2 => hval j t v (by simpa using h1) (by simpa using h2)
  have hA : DataW.TrodAll enc Tryz.prog W 0 (fun _ => true) true fn.params.toList args.toList ds hW.choose := hW.choose_spec.choose_spec.1
  obtain ⟨xs, h1, h2, h3⟩ := open_all hpl hval' hA
  obtain ⟨call, outs, k1, k2⟩ := hE xs h1
  refine (k1.calls k2 (fr_open h2 h3) (knows_sat W)).mono ?_
  rintro e W' ⟨v, rfl, K', S, O', hL⟩
  have hv' : v = .bool true := by
    have := hL.val
    have h4 : rel K' W' (.bool true) [v] S := this
    rw [rel] at h4
    simpa using h4
  subst hv'
  exact ⟨_, rfl, law_post laidOutG hv hr hres Tryz.underlying4 hW hspec (below_of_keeps hL.keeps)⟩
end Go.Proofs.YtccahnafehfjlaaGreat

open Go Go.E
namespace Go.Proofs.YtccahnafehfjlaaGreat
set_option maxRecDepth 100000
def getFn : Option EFn → EFn
  | some f => f
  | none => default
noncomputable def fn11 : EFn := getFn (Cf.code 11)
theorem code11 : Cf.code 11 = some fn11 := by kernel_rfl
theorem body11 : fn11.body = c11 := by kernel_rfl
theorem ntmps11 : fn11.ntmps = 24 := by kernel_rfl
theorem prim11 : Cf.prim 11 = none := by kernel_rfl
theorem c11_eq : c11 = .seq (s1 c11) (.seq (s1 (s2 c11)) (.seq (.seq (s1 (s1 (s2 (s2 c11)))) (.block 0 (.loop bd))) (s2 (s2 (s2 c11))))) := by kernel_rfl
theorem tail11 (call : CallF) (n : Nat) (xs : List AV) (acc i : Int) (z : Stale) : evalCode Cf 11 call n (s2 (s2 (s2 c11))) (hd xs acc i z) = some (.ret, ((hd xs acc i z).set 23 (.v (.int .i64 acc))).set 2 (.v (.int .i64 acc))) := by kernel_rfl
def fin (C : Cfg) (k : Nat) (fn : EFn) (args : List Slot) (f : E.Frame) : Option (AV × List Slot) :=
  match resOf C f fn.results with
  | some ([y], f2) => some (if C.ret k then y else pz y, outsOf fn.written args.length f2)
  | some (ys, f2) => some (.tup (if C.ret k then ys else pzL ys), outsOf fn.written args.length f2)
  | none => none
theorem step_ret {C : Cfg} {k n : Nat} {call : CallF} {fn : EFn} {args : List Slot} {f : E.Frame} {r : AV × List Slot} (hp : C.prim k = none) (hc : C.code k = some fn) (hl : args.length ≤ fn.ntmps)
    (he : evalCode C k call n fn.body (args ++ List.replicate (fn.ntmps - args.length) .any) = some (.ret, f)) (hr : fin C k fn args f = some r) : stepF C n call k args = some r := by
  unfold stepF
  rw [hp, hc]
  simp only
  rw [if_neg (by omega), he]
  exact hr
theorem fin11 (xs : List AV) (acc i : Int) (z : Stale) : fin Cf 11 fn11 [.v (.sl 4 xs)] (((hd xs acc i z).set 23 (.v (.int .i64 acc))).set 2 (.v (.int .i64 acc))) = some (.int .i64 acc, [.v (.sl 4 xs)]) := by kernel_rfl
theorem fin11' (xs : List AV) (acc i : Int) (z : Stale) : fin Cf 11 fn11 [.v (.sl 4 xs)] ((hd xs acc i z).set 2 (.v (.int .i64 4611686018427387904))) = some (.int .i64 4611686018427387904, [.v (.sl 4 xs)]) := by kernel_rfl
theorem score_ok (call : CallF) (vs : List V4) (hlen : vs.length ≤ 1000000) :
    stepF Cf 1000001 call 11 [.v (.sl 4 (vs.map V4.av))] = some (.int .i64 (scoreL 0 (vs.map V4.s)), [.v (.sl 4 (vs.map V4.av))]) := by
  have hb : ∀ {o f1}, iter (evalCode Cf 11 call 1000001 bd) 1000001 (hd (vs.map V4.av) 0 0 st0) = some (o, f1) → evalCode Cf 11 call 1000001 (.loop bd) (hd (vs.map V4.av) 0 0 st0) = some (o, f1) := fun h => by rw [evalCode]; exact h
  rcases score_loop call 1000001 (vs.map V4.av) (by simpa using hlen) vs 0 0 st0 1000001 (by decide) (by decide) rfl (by simp) (by omega) with ⟨z', e⟩ | ⟨z', acc', i', e, hsc⟩
  · refine step_ret (fn := fn11) (f := ((hd (vs.map V4.av) (scoreL 0 (vs.map V4.s)) (vs.map V4.av).length z').set 23 (.v (.int .i64 (scoreL 0 (vs.map V4.s))))).set 2 (.v (.int .i64 (scoreL 0 (vs.map V4.s))))) prim11 code11 (by rw [ntmps11]; simp) ?_ (fin11 _ _ _ _)
    rw [body11, ntmps11, c11_eq]
    refine (seq_normal (score_a call 1000001 _)).trans ((seq_normal (score_b call 1000001 _)).trans ?_)
    refine (seq_normal ((seq_normal (score_c call 1000001 _)).trans (block_exit (hb e)))).trans ?_
    exact tail11 call 1000001 _ _ _ _
  · refine step_ret (fn := fn11) (f := (hd (vs.map V4.av) acc' i' z').set 2 (.v (.int .i64 4611686018427387904))) prim11 code11 (by rw [ntmps11]; simp) ?_ (by rw [hsc]; exact fin11' _ _ _ _)
    rw [body11, ntmps11, c11_eq]
    refine (seq_normal (score_a call 1000001 _)).trans ((seq_normal (score_b call 1000001 _)).trans ?_)
    exact seq_other (by decide) ((seq_normal (score_c call 1000001 _)).trans (block_ret (hb e)))
end Go.Proofs.YtccahnafehfjlaaGreat

open Go Go.E
namespace Go.Proofs.YtccahnafehfjlaaGreat
set_option maxRecDepth 100000
noncomputable def fn7 : EFn := getFn (Cf.code 7)
theorem code7 : Cf.code 7 = some fn7 := by kernel_rfl
theorem prim7 : Cf.prim 7 = none := by kernel_rfl
theorem ntmps7 : fn7.ntmps = 13 := by kernel_rfl
noncomputable def r7 : List (Oper × Guard) := opsIn (s1 (s2 fn7.body))
theorem body7 : fn7.body = .seq (s1 fn7.body) (.seq (.region (r7.take 3 ++ r7.drop 3)) (s2 (s2 fn7.body))) := by kernel_rfl
/-- The frame once the first length is tested. -/
def f7 (A B : List AV) (b : Bool) : List Slot := [.v (.sl 4 A), .v (.sl 4 B), .any, .any, .v (.bool false), .v (.sl 4 A), .v (.int .i64 A.length), .v (.bool b), .any, .any, .any, .any, .any]
theorem few_a (call : CallF) (n : Nat) (A B : List AV) : evalCode Cf 7 call n (s1 fn7.body) ([.v (.sl 4 A), .v (.sl 4 B)] ++ List.replicate 11 .any) = some (.normal, [.v (.sl 4 A), .v (.sl 4 B), .any, .any, .v (.bool false)] ++ List.replicate 8 .any) := by kernel_rfl
theorem few_b (call : CallF) (A B : List AV) : runOps Cf 7 call (r7.take 3) ([.v (.sl 4 A), .v (.sl 4 B), .any, .any, .v (.bool false)] ++ List.replicate 8 .any) = some (f7 A B (decide ((A.length : Int) ≤ 300))) := by kernel_rfl
theorem few_t (call : CallF) (A B : List AV) : runOps Cf 7 call (r7.drop 3) (f7 A B true) = some [.v (.sl 4 A), .v (.sl 4 B), .any, .any, .v (.bool (decide ((B.length : Int) ≤ 300))), .v (.sl 4 A), .v (.int .i64 A.length), .v (.bool true), .v (.bool true), .v (.sl 4 B), .v (.int .i64 B.length), .v (.bool (decide ((B.length : Int) ≤ 300))), .v (.bool (decide ((B.length : Int) ≤ 300)))] := by kernel_rfl
theorem few_f (call : CallF) (A B : List AV) : runOps Cf 7 call (r7.drop 3) (f7 A B false) = some [.v (.sl 4 A), .v (.sl 4 B), .any, .any, .v (.bool false), .v (.sl 4 A), .v (.int .i64 A.length), .v (.bool false), .v (.bool false), .non, .non, .non, .v (.bool false)] := by kernel_rfl
theorem fin7t (A B : List AV) (b : Bool) (x y z u v w q p : Slot) : fin Cf 7 fn7 [.v (.sl 4 A), .v (.sl 4 B)] [.v (.sl 4 A), .v (.sl 4 B), .any, .any, .v (.bool b), x, y, z, u, v, w, q, p] = some (.bool b, [.v (.sl 4 A), .v (.sl 4 B)]) := by kernel_rfl
theorem tail7 (call : CallF) (n : Nat) (f : E.Frame) : evalCode Cf 7 call n (s2 (s2 fn7.body)) f = some (.ret, f) := by kernel_rfl
theorem few_ok (call : CallF) (n : Nat) (A B : List AV) : stepF Cf n call 7 [.v (.sl 4 A), .v (.sl 4 B)] = some (.bool (decide ((A.length : Int) ≤ 300) && decide ((B.length : Int) ≤ 300)), [.v (.sl 4 A), .v (.sl 4 B)]) := by
  have hreg : ∀ {f1 : E.Frame}, runOps Cf 7 call (r7.drop 3) (f7 A B (decide ((A.length : Int) ≤ 300))) = some f1 → evalCode Cf 7 call n fn7.body ([.v (.sl 4 A), .v (.sl 4 B)] ++ List.replicate 11 .any) = some (.ret, f1) := fun {f1} h => by
    rw [body7, seq_normal (few_a call n A B)]
    have hr := (run_app (l2 := r7.drop 3) (few_b call A B)).trans h
    refine (seq_normal (f1 := f1) (by rw [evalCode, hr])).trans (tail7 call n f1)
  by_cases h : (A.length : Int) ≤ 300
  · have hd : decide ((A.length : Int) ≤ 300) = true := by simpa using h
    rw [hd] at hreg ⊢
    rw [Bool.true_and]
    exact step_ret prim7 code7 (by rw [ntmps7]; simp) (by rw [ntmps7]; exact hreg (few_t call A B)) (fin7t A B _ _ _ _ _ _ _ _ _)
  · have hd : decide ((A.length : Int) ≤ 300) = false := by simpa using h
    rw [hd] at hreg ⊢
    rw [Bool.false_and]
    exact step_ret prim7 code7 (by rw [ntmps7]; simp) (by rw [ntmps7]; exact hreg (few_f call A B)) (fin7t A B _ _ _ _ _ _ _ _ _)
end Go.Proofs.YtccahnafehfjlaaGreat

open Go Go.E
namespace Go.Proofs.YtccahnafehfjlaaGreat
set_option maxRecDepth 100000
noncomputable def fn13 : EFn := getFn (Cf.code 13)
theorem code13 : Cf.code 13 = some fn13 := by kernel_rfl
theorem prim13 : Cf.prim 13 = none := by kernel_rfl
theorem ntmps13 : fn13.ntmps = 10 := by kernel_rfl
noncomputable def r13 : List (Oper × Guard) := opsIn (s1 (s2 fn13.body))
noncomputable def opAt (l : List (Oper × Guard)) (i : Nat) : Oper := (l.getD i default).1
def callOf (o : Oper) : Call := match o.op with | .call c => c | _ => { callee := .builtin .len, args := #[], argTypes := #[] }
theorem r13_eq : r13 = r13.take 1 ++ ((opAt r13 1, none) :: ((r13.drop 2).take 1 ++ ((opAt r13 3, none) :: r13.drop 4))) := by kernel_rfl
theorem body13 : fn13.body = .seq (s1 fn13.body) (.seq (.region r13) (s2 (s2 fn13.body))) := by kernel_rfl
theorem w_a (call : CallF) (n : Nat) (A B : List AV) : evalCode Cf 13 call n (s1 fn13.body) ([.v (.sl 4 A), .v (.sl 4 B)] ++ List.replicate 8 .any) = some (.normal, [.v (.sl 4 A), .v (.sl 4 B), .any, .any, .v (.bool false), .any, .any, .any, .any, .any]) := by kernel_rfl
theorem w_b (call : CallF) (A B : List AV) : runOps Cf 13 call (r13.take 1) [.v (.sl 4 A), .v (.sl 4 B), .any, .any, .v (.bool false), .any, .any, .any, .any, .any] = some [.v (.sl 4 A), .v (.sl 4 B), .any, .any, .v (.bool false), .v (.sl 4 B), .any, .any, .any, .any] := by kernel_rfl
theorem w_c1 : (opAt r13 1).op = .call (callOf (opAt r13 1)) := by kernel_rfl
theorem w_c2 : (callOf (opAt r13 1)).callee = .value (.func 11) := by kernel_rfl
theorem w_c3 : (noOwn (Cf.own 11) 0 (callOf (opAt r13 1)).args.size && (callOf (opAt r13 1)).argTypes.size == (callOf (opAt r13 1)).args.size) = true := by kernel_rfl
theorem w_c4 (A B : List AV) : byValsQ Cf [.v (.sl 4 A), .v (.sl 4 B), .any, .any, .v (.bool false), .v (.sl 4 B), .any, .any, .any, .any] ((callOf (opAt r13 1)).argTypes.toList.zip (callOf (opAt r13 1)).args.toList) = some ([.sl 4 B], []) := by kernel_rfl
theorem w_c5 : (opAt r13 1).dst = some 6 := by kernel_rfl
theorem w_d (call : CallF) (A B : List AV) (y : Int) : runOps Cf 13 call ((r13.drop 2).take 1) (putO [.v (.sl 4 A), .v (.sl 4 B), .any, .any, .v (.bool false), .v (.sl 4 B), .any, .any, .any, .any] (some 6) (.v (.int .i64 y))) = some [.v (.sl 4 A), .v (.sl 4 B), .any, .any, .v (.bool false), .v (.sl 4 B), .v (.int .i64 y), .v (.sl 4 A), .any, .any] := by kernel_rfl
theorem w_e1 : (opAt r13 3).op = .call (callOf (opAt r13 3)) := by kernel_rfl
theorem w_e2 : (callOf (opAt r13 3)).callee = .value (.func 11) := by kernel_rfl
theorem w_e3 : (noOwn (Cf.own 11) 0 (callOf (opAt r13 3)).args.size && (callOf (opAt r13 3)).argTypes.size == (callOf (opAt r13 3)).args.size) = true := by kernel_rfl
theorem w_e4 (A B : List AV) (y : Int) : byValsQ Cf [.v (.sl 4 A), .v (.sl 4 B), .any, .any, .v (.bool false), .v (.sl 4 B), .v (.int .i64 y), .v (.sl 4 A), .any, .any] ((callOf (opAt r13 3)).argTypes.toList.zip (callOf (opAt r13 3)).args.toList) = some ([.sl 4 A], []) := by kernel_rfl
theorem w_e5 : (opAt r13 3).dst = some 8 := by kernel_rfl
theorem w_f (call : CallF) (A B : List AV) (x y : Int) : runOps Cf 13 call (r13.drop 4) (putO [.v (.sl 4 A), .v (.sl 4 B), .any, .any, .v (.bool false), .v (.sl 4 B), .v (.int .i64 y), .v (.sl 4 A), .any, .any] (some 8) (.v (.int .i64 x))) = some [.v (.sl 4 A), .v (.sl 4 B), .any, .any, .v (.bool (decide (y > x))), .v (.sl 4 B), .v (.int .i64 y), .v (.sl 4 A), .v (.int .i64 x), .v (.bool (decide (y > x)))] := by kernel_rfl
theorem fin13 (A B : List AV) (b : Bool) (p q u v w : Slot) : fin Cf 13 fn13 [.v (.sl 4 A), .v (.sl 4 B)] [.v (.sl 4 A), .v (.sl 4 B), .any, .any, .v (.bool b), p, q, u, v, w] = some (.bool b, [.v (.sl 4 A), .v (.sl 4 B)]) := by kernel_rfl
theorem tail13 (call : CallF) (n : Nat) (f : E.Frame) : evalCode Cf 13 call n (s2 (s2 fn13.body)) f = some (.ret, f) := by kernel_rfl
theorem run_cons {C : Cfg} {fid : Nat} {call : CallF} {o : Oper} {g : Guard} {os : List (Oper × Guard)} {f f1 : E.Frame} (h : stepOp C fid call o g f = some f1) : runOps C fid call ((o, g) :: os) f = runOps C fid call os f1 := by
  simp only [runOps, h]
theorem worse_ok (call : CallF) (n : Nat) (A B : List AV) (x y : Int) (oA oB : List Slot) (hA : call 11 [.v (.sl 4 A)] = some (.int .i64 x, oA)) (hB : call 11 [.v (.sl 4 B)] = some (.int .i64 y, oB)) :
    stepF Cf n call 13 [.v (.sl 4 A), .v (.sl 4 B)] = some (.bool (decide (y > x)), [.v (.sl 4 A), .v (.sl 4 B)]) := by
  have hr : runOps Cf 13 call r13 [.v (.sl 4 A), .v (.sl 4 B), .any, .any, .v (.bool false), .any, .any, .any, .any, .any] = some [.v (.sl 4 A), .v (.sl 4 B), .any, .any, .v (.bool (decide (y > x))), .v (.sl 4 B), .v (.int .i64 y), .v (.sl 4 A), .v (.int .i64 x), .v (.bool (decide (y > x)))] := by
    rw [r13_eq, run_app (w_b call A B), run_cons (step_on rfl (quiet_call w_c1 w_c2 w_c3 (w_c4 A B) hB)), List.foldl_nil, w_c5, run_app (w_d call A B y), run_cons (step_on rfl (quiet_call w_e1 w_e2 w_e3 (w_e4 A B y) hA)), List.foldl_nil, w_e5]
    exact w_f call A B x y
  refine step_ret prim13 code13 (by rw [ntmps13]; simp) (f := [.v (.sl 4 A), .v (.sl 4 B), .any, .any, .v (.bool (decide (y > x))), .v (.sl 4 B), .v (.int .i64 y), .v (.sl 4 A), .v (.int .i64 x), .v (.bool (decide (y > x)))]) ?_ (fin13 A B _ _ _ _ _ _)
  rw [ntmps13, body13]
  refine (seq_normal (w_a call n A B)).trans ((seq_normal (by rw [evalCode, hr])).trans (tail13 call n _))
end Go.Proofs.YtccahnafehfjlaaGreat

open Go Go.E
namespace Go.Proofs.YtccahnafehfjlaaGreat
theorem scoreL_ge : ∀ (l : List Int) (acc : Int), 0 ≤ acc → acc ≤ 4611686018427387904 → acc ≤ scoreL acc l ∧ scoreL acc l ≤ 4611686018427387904
  | [], acc, h0, h1 => ⟨by simp [scoreL], by simpa [scoreL] using h1⟩
  | s :: l, acc, h0, h1 => by
    obtain ⟨q1, q2, q3⟩ := mx0_le (s := s)
    rw [scoreL]
    split
    · omega
    · have := scoreL_ge l (acc + mx0 s) (by omega) (by omega)
      omega
theorem scoreL_full : ∀ (l : List Int), scoreL 4611686018427387904 l = 4611686018427387904 := fun l => by
  have := scoreL_ge l 4611686018427387904 (by omega) (by omega)
  omega
theorem scoreL_app : ∀ (a b : List Int) (acc : Int), 0 ≤ acc → acc ≤ 4611686018427387904 → scoreL acc (a ++ b) = scoreL (scoreL acc a) b
  | [], b, acc, h0, h1 => by simp [scoreL]
  | s :: a, b, acc, h0, h1 => by
    obtain ⟨q1, q2, q3⟩ := mx0_le (s := s)
    rw [List.cons_append, scoreL, scoreL]
    split
    · rw [scoreL_full]
    · exact scoreL_app a b _ (by omega) (by omega)
theorem scoreL_mono : ∀ (l : List Int) (a b : Int), 0 ≤ a → a ≤ b → b ≤ 4611686018427387904 → scoreL a l ≤ scoreL b l
  | [], a, b, h0, h1, h2 => by simpa [scoreL] using h1
  | s :: l, a, b, h0, h1, h2 => by
    obtain ⟨q1, q2, q3⟩ := mx0_le (s := s)
    rw [scoreL, scoreL]
    split
    · rw [if_pos (by omega)]; omega
    · split
      · exact (scoreL_ge l _ (by omega) (by omega)).2
      · exact scoreL_mono l _ _ (by omega) (by omega) (by omega)
theorem scoreL_add : ∀ (l : List Int) (a c : Int), 0 ≤ a → 0 ≤ c → c ≤ 4611686018427387904 → scoreL c l < 4611686018427387904 → a + scoreL c l ≤ 4611686018427387904 → scoreL (a + c) l = a + scoreL c l
  | [], a, c, h0, h1, h2, h3, h4 => by simp [scoreL]
  | s :: l, a, c, h0, h1, h2, h3, h4 => by
    obtain ⟨q1, q2, q3⟩ := mx0_le (s := s)
    rw [scoreL] at h3 h4 ⊢
    split at h3
    · omega
    · rename_i hs
      rw [if_neg hs] at h4
      have := scoreL_ge l (c + mx0 s) (by omega) (by omega)
      have e : scoreL c (s :: l) = scoreL (c + mx0 s) l := by rw [scoreL, if_neg hs]
      rw [if_neg (by omega), e, Int.add_assoc]
      exact scoreL_add l a (c + mx0 s) h0 (by omega) (by omega) h3 h4
/-- What the law says of three scores. -/
theorem scores_law (a b : List Int) : ∀ x y z : Int, scoreL 0 a = x → scoreL 0 b = y → scoreL 0 (a ++ b) = z → 0 ≤ x ∧ 0 ≤ y ∧ x ≤ 4611686018427387904 ∧ y ≤ 4611686018427387904 ∧ x ≤ z ∧ y ≤ z ∧ (x ≤ 2305843009213693952 → y ≤ 2305843009213693952 → z = x + y) := by
  rintro x y z rfl rfl rfl
  have h1 := scoreL_ge a 0 (by omega) (by omega)
  have h2 := scoreL_ge b 0 (by omega) (by omega)
  rw [scoreL_app a b 0 (by omega) (by omega)]
  have h3 := scoreL_ge b (scoreL 0 a) h1.1 h1.2
  have h4 := scoreL_mono b 0 (scoreL 0 a) (by omega) h1.1 h1.2
  refine ⟨h1.1, h2.1, h1.2, h2.2, h3.1, h4, fun q1 q2 => ?_⟩
  have := scoreL_add b (scoreL 0 a) 0 h1.1 (by omega) (by omega) (by omega) (by omega)
  rwa [Int.add_zero] at this
end Go.Proofs.YtccahnafehfjlaaGreat


