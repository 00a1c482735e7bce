/- Part of the proof: what the law's functions answer. -/
import Derived.Test.YthabpmmgijaiaaaGreatDoorDee4
import Derived.Test.YthabpmmgijaiaaaGreatDoorTabf1
import Derived.KernelRfl
set_option linter.unusedSimpArgs false
set_option linter.unusedVariables false
section
/- What the functions about segments answer: the digest of a record. -/
set_option maxRecDepth 100000
namespace Go.Dee.L
theorem fol : cx.P.follows .mixedOrders = true := by kernel_rfl
def np : Prim := fun _ _ => none
theorem np_ok : PrimOk cx np := fun f args v h => by simp [np] at h
structure Rcd where
  at' : Int
  kind : Int
  a : Int
  flow : Int
  sub : Int
  number : Int
  data : Int
  size : Int
  sent : Int
  able : Bool
  marked : Bool
  deriving DecidableEq
def Rcd.fv (r : Rcd) : FV := .agg [.int .i64 r.at', .int .i64 r.kind, .int .i64 r.a, .int .i64 r.flow, .int .i64 r.sub, .int .i64 r.number, .int .i64 r.data, .int .i64 r.size, .int .i64 r.sent, .bool r.able, .bool r.marked]
def flags (x y : Bool) : Int := match x, y with | false, false => 0 | true, false => 1 | false, true => 2 | true, true => 3
def Rcd.nums (r : Rcd) : List Int := [r.at', r.kind, r.a, r.flow, r.sub, r.number, r.data, r.size, r.sent, flags r.able r.marked]
def and64 (a b : Int) : Int := IntKind.u64.wrap ((BitVec.ofInt 64 a &&& BitVec.ofInt 64 b).toNat)
def xor64 (a b : Int) : Int := IntKind.u64.wrap ((BitVec.ofInt 64 a ^^^ BitVec.ofInt 64 b).toNat)
def dstep (d x : Int) (s : Nat) : Int := IntKind.u64.wrap (xor64 d (and64 ((IntKind.u64.wrap x).fdiv (2 ^ s)) 255) * 1099511628211)
def dnum (d x : Int) : Int := [0, 8, 16, 24, 32, 40, 48, 56].foldl (fun d s => dstep d x s) d
def digest (d : Int) (r : Rcd) : Int := r.nums.foldl dnum d
theorem digest_run (r : Rcd) (d : Int) : callMode (callP env np 100) .val (.f (.func 25 [] [])) ([.int .u64 d, r.fv].map .f) Heap.empty = some (.ret (.f (.int .u64 (digest d r))), Heap.empty) := by
  obtain ⟨a, b, c, d, e, f, g, h, i, x, y⟩ := r
  cases x <;> cases y <;> kernel_rfl
theorem digest_known (r : Rcd) (d : Int) : Known cx 25 [.int .u64 d, r.fv] (.int .u64 (digest d r)) := known_of fol envOk np_ok (digest_run r d)
def pDigest : Prim := fun f args => bif Nat.beq f 25 then
    match args with
    | [.int .u64 d, .agg [.int .i64 a, .int .i64 b, .int .i64 c, .int .i64 d1, .int .i64 e, .int .i64 f, .int .i64 g, .int .i64 h, .int .i64 i, .bool x, .bool y]] => some (.int .u64 (digest d ⟨a, b, c, d1, e, f, g, h, i, x, y⟩))
    | _ => none
  else none
theorem pDigest_ok : PrimOk cx pDigest := by
  intro f args v h
  unfold pDigest at h
  cases hb : Nat.beq f 25 with
  | false => rw [hb] at h; simp at h
  | true =>
    rw [hb] at h
    have := Nat.eq_of_beq_eq_true hb; subst this
    simp only [cond_true] at h
    split at h
    · rename_i d a b c d1 e f g h' i x y
      simp only [Option.some.injEq] at h; subst h
      exact digest_known ⟨a, b, c, d1, e, f, g, h', i, x, y⟩ d
    · simp at h
/- a segment's records: none, or a slice -/
inductive Recs where
  | nil
  | sl (rs : List Rcd) (cap : Option Nat)
def Recs.list : Recs → List Rcd
  | .nil => []
  | .sl rs _ => rs
def Recs.fv : Recs → FV
  | .nil => .nilslice
  | .sl rs cap => .slice 11 (rs.map Rcd.fv) cap
structure Seg where
  frm : Int
  to : Int
  bgn : Int
  fin : Int
  recs : Recs
def Seg.fv (s : Seg) : FV := .agg [.int .i64 s.frm, .int .i64 s.to, .int .u64 s.bgn, .int .u64 s.fin, s.recs.fv]
/- isSegment -/
def segGo (to fin : Int) : List Rcd → Int → Int → Bool
  | [], d, _ => decide (d = fin)
  | r :: rs, d, at' => !decide (r.at' < at') && (!decide (to ≤ r.at') && segGo to fin rs (digest d r) r.at')
def segHead (s : Seg) : Bool := decide (s.frm < 0) || (decide (s.to < s.frm) || (decide (10000000 < s.to) || decide (5000 < (s.recs.list.length : Int))))
def isSeg (s : Seg) : Bool := !segHead s && segGo s.to s.fin s.recs.list s.bgn s.frm
def mkTm : List (Pos × DV) → Tm
  | [] => .leaf
  | (p, d) :: l => (mkTm l).set p d
def lp14 : DCode := match d14.body with
  | .seq _ (.seq _ (.seq _ (.seq (.seq _ (.block _ l)) _))) => l
  | _ => .skip
def lv14 : List Pos := match lp14 with | .loop live _ => live | _ => []
def bd14 : DCode := match lp14 with | .loop _ b => b | _ => .skip
theorem lp14_eq : lp14 = .loop lv14 bd14 := by kernel_rfl
/- at the loop's head -/
def st14 (s : Seg) (d at' i : Int) (l : List Nat) : St :=
  ⟨mkTm [(p2, .ptr 0 0 0), (p3, .f (.bool false)), (p4, .f (.int .u64 d)), (p5, .f (.int .i64 at')), (p34, .f s.recs.fv), (p35, .f (.int .i64 s.recs.list.length)), (p36, .f (.int .i64 i))], [], .off,
   ⟨1, [(0, .cells 0 [.f (.int .i64 s.frm), .f (.int .i64 s.to), .f (.int .u64 s.bgn), .f (.int .u64 s.fin), .f s.recs.fv])], l⟩⟩
theorem round14 (m n : Nat) (frm to bgn fin : Int) (es : List FV) (cap : Option Nat) (ln d at' i : Int) (l : List Nat) (r : Rcd) :
    (execG (callP env pDigest (m + 1)) (n + 20) bd14 ((⟨mkTm [(p2, .ptr 0 0 0), (p3, .f (.bool false)), (p4, .f (.int .u64 d)), (p5, .f (.int .i64 at')), (p34, .f (.slice 11 es cap)), (p35, .f (.int .i64 ln)), (p36, .f (.int .i64 i))], [], .off,
   ⟨1, [(0, .cells 0 [.f (.int .i64 frm), .f (.int .i64 to), .f (.int .u64 bgn), .f (.int .u64 fin), .f (.slice 11 es cap)])], l⟩⟩ : St).trim lv14) [.b true, .v r.fv, .b false, .b false]).map (fun x => (roundView 1 lv14 x.1, x.2.1, x.2.2)) =
    some ((true, ⟨mkTm [(p2, .ptr 0 0 0), (p3, .f (.bool false)), (p4, .f (.int .u64 (digest d r))), (p5, .f (.int .i64 r.at')), (p34, .f (.slice 11 es cap)), (p35, .f (.int .i64 ln)), (p36, .f (.int .i64 (IntKind.i64.wrap (i + 1))))], [], .off,
   ⟨1, [(0, .cells 0 [.f (.int .i64 frm), .f (.int .i64 to), .f (.int .u64 bgn), .f (.int .u64 fin), .f (.slice 11 es cap)])], addLog 1 l⟩⟩), [],
     [decide (i < ln) = true, decide (0 ≤ i) = true, (Nat.beq 11 11 && Nat.blt i.toNat es.length) = true, es[i.toNat]? = some r.fv, decide (r.at' < at') = false, decide (to ≤ r.at') = false]) := by
  kernel_rfl
theorem fail14 (m n : Nat) (frm to bgn fin : Int) (es : List FV) (cap : Option Nat) (ln d at' i : Int) (l : List Nat) (r : Rcd) (b : Bool) :
    (execG (callP env pDigest (m + 1)) (n + 20) bd14 ((⟨mkTm [(p2, .ptr 0 0 0), (p3, .f (.bool false)), (p4, .f (.int .u64 d)), (p5, .f (.int .i64 at')), (p34, .f (.slice 11 es cap)), (p35, .f (.int .i64 ln)), (p36, .f (.int .i64 i))], [], .off,
   ⟨1, [(0, .cells 0 [.f (.int .i64 frm), .f (.int .i64 to), .f (.int .u64 bgn), .f (.int .u64 fin), .f (.slice 11 es cap)])], l⟩⟩ : St).trim lv14) (.b true :: .v r.fv :: (if b then [.b true] else [.b false, .b true]))).map (fun x => ((isNormal x.1.1, isRet x.1.1, x.1.2.tm.get p3, x.1.2.defs.isEmpty, isOff x.1.2.rc), x.2.1, x.2.2)) =
    some ((false, true, some (.f (.bool false)), true, true), [],
     [decide (i < ln) = true, decide (0 ≤ i) = true, (Nat.beq 11 11 && Nat.blt i.toNat es.length) = true, es[i.toNat]? = some r.fv] ++ (if b then [decide (r.at' < at') = true] else [decide (r.at' < at') = false, decide (to ≤ r.at') = true])) := by
  cases b <;> kernel_rfl
theorem exit14 (m n : Nat) (s : Seg) (d at' i : Int) (l : List Nat) :
    (execG (callP env pDigest (m + 1)) (n + 20) bd14 ((st14 s d at' i l).trim lv14) [.b false]).map (fun x => ((isNormal x.1.1, x.1), x.2.1, x.2.2)) =
    some ((false, (.exit 0, (stOf (execG (callP env pDigest (m + 1)) (n + 20) bd14 ((st14 s d at' i l).trim lv14) [.b false])))), [], [decide (i < (s.recs.list.length : Int)) = false]) := by
  kernel_rfl
def segEnd (to : Int) : List Rcd → Int → Int → Option Int
  | [], d, _ => some d
  | r :: rs, d, at' => if r.at' < at' then none else if to ≤ r.at' then none else segEnd to rs (digest d r) r.at'
theorem segGo_end (to fin : Int) : ∀ (rs : List Rcd) (d at' : Int), segGo to fin rs d at' = match segEnd to rs d at' with | some d' => decide (d' = fin) | none => false
  | [], d, at' => rfl
  | r :: rs, d, at' => by
    simp only [segGo, segEnd]
    by_cases h1 : r.at' < at'
    · simp [h1]
    · by_cases h2 : to ≤ r.at'
      · simp [h1, h2]
      · simp only [h1, h2, decide_false, Bool.not_false, Bool.true_and, if_false]
        exact segGo_end to fin rs _ _
theorem wrap_i64 {n : Int} (h1 : -9223372036854775808 ≤ n) (h2 : n < 9223372036854775808) : IntKind.i64.wrap n = n := by
  simp only [IntKind.wrap, IntKind.signed, IntKind.bits]
  simp
  omega
def out14 (m n : Nat) (s : Seg) (d at' i : Int) (l : List Nat) : St := stOf (execG (callP env pDigest (m + 1)) (n + 20) bd14 ((st14 s d at' i l).trim lv14) [.b false])
theorem loop14 (m : Nat) (frm to bgn fin : Int) (cap : Option Nat) (all : List Rcd) (hall : all.length ≤ 5000) : ∀ (rest pre : List Rcd) (n : Nat) (d at' : Int) (l : List Nat), all = pre ++ rest →
    match segEnd to rest d at' with
    | none => ∃ r, exec (callP env pDigest (m + 1)) (rest.length + n + 21) lp14 (st14 ⟨frm, to, bgn, fin, .sl all cap⟩ d at' pre.length l) = some r ∧ viewR p3 r = (true, some (.f (.bool false)), true, true)
    | some d' => ∃ n2 at2 i2 l2, exec (callP env pDigest (m + 1)) (rest.length + n + 21) lp14 (st14 ⟨frm, to, bgn, fin, .sl all cap⟩ d at' pre.length l) = some (.exit 0, out14 m n2 ⟨frm, to, bgn, fin, .sl all cap⟩ d' at2 i2 l2)
  | [], pre, n, d, at', l, hp => by
    simp only [segEnd]
    refine ⟨n, at', pre.length, l, ?_⟩
    have hx := exit14 m n ⟨frm, to, bgn, fin, .sl all cap⟩ d at' pre.length l
    rw [lp14_eq]
    simp only [List.length_nil, Nat.zero_add]
    obtain ⟨r, h1, h2⟩ := loop_out (fun x => x) hx (by
      intro P hP
      simp only [List.mem_cons, List.not_mem_nil, or_false] at hP
      subst hP
      simp [Recs.list, hp])
    rw [h1, h2]; rfl
  | r :: rest, pre, n, d, at', l, hp => by
    have hlen : pre.length + rest.length + 1 ≤ 5000 := by rw [hp] at hall; simp at hall; omega
    have hget : (all.map Rcd.fv)[pre.length]? = some r.fv := by rw [hp]; simp
    have f1 : decide ((pre.length : Int) < (all.length : Int)) = true := by rw [hp]; simp; omega
    have f2 : (Nat.beq 11 11 && Nat.blt (pre.length : Int).toNat (all.map Rcd.fv).length) = true := by
      simp only [Int.toNat_natCast, List.length_map, hp, List.length_append, List.length_cons]
      have : Nat.blt pre.length (pre.length + (rest.length + 1)) = true := Nat.ble_eq_true_of_le (by omega)
      rw [this]; rfl
    have f0 : decide (0 ≤ (pre.length : Int)) = true := by simp
    simp only [segEnd, List.length_cons]
    by_cases h1 : r.at' < at'
    · simp only [h1, if_true]
      have hx := fail14 m (rest.length + n + 1) frm to bgn fin (all.map Rcd.fv) cap all.length d at' pre.length l r true
      rw [lp14_eq, show rest.length + 1 + n + 21 = (rest.length + n + 1 + 20) + 1 by omega]
      refine loop_out (viewR p3) hx ?_
      exact fcons f1 (fcons f0 (fcons f2 (fcons hget (fcons (by simpa using h1) fnil))))
    · simp only [h1, if_false]
      by_cases h2 : to ≤ r.at'
      · simp only [h2, if_true]
        have hx := fail14 m (rest.length + n + 1) frm to bgn fin (all.map Rcd.fv) cap all.length d at' pre.length l r false
        rw [lp14_eq, show rest.length + 1 + n + 21 = (rest.length + n + 1 + 20) + 1 by omega]
        refine loop_out (viewR p3) hx ?_
        exact fcons f1 (fcons f0 (fcons f2 (fcons hget (fcons (by simpa using h1) (fcons (by simpa using h2) fnil)))))
      · simp only [h2, if_false]
        have hx := round14 m (rest.length + n + 1) frm to bgn fin (all.map Rcd.fv) cap all.length d at' pre.length l r
        have hw : IntKind.i64.wrap ((pre.length : Int) + 1) = ((pre ++ [r]).length : Nat) := by rw [wrap_i64 (by omega) (by omega)]; simp
        rw [hw] at hx
        have ih := loop14 m frm to bgn fin cap all hall rest (pre ++ [r]) n (digest d r) r.at' (addLog 1 l) (by simp [hp])
        have hstep : exec (callP env pDigest (m + 1)) (rest.length + 1 + n + 21) lp14 (st14 ⟨frm, to, bgn, fin, .sl all cap⟩ d at' pre.length l) = exec (callP env pDigest (m + 1)) (rest.length + n + 21) lp14 (st14 ⟨frm, to, bgn, fin, .sl all cap⟩ (digest d r) r.at' (pre ++ [r]).length (addLog 1 l)) := by
          rw [lp14_eq, show rest.length + 1 + n + 21 = (rest.length + n + 1 + 20) + 1 by omega, show rest.length + n + 21 = rest.length + n + 1 + 20 by omega]
          exact loop_round hx (fcons f1 (fcons f0 (fcons f2 (fcons hget (fcons (by simpa using h1) (fcons (by simpa using h2) fnil))))))
        rw [hstep]; exact ih
end Go.Dee.L
end
section
/- What the functions about segments answer: isSegment. -/
set_option maxRecDepth 100000
namespace Go.Dee.L
def c14a : DCode := match d14.body with | .seq a _ => a | _ => .skip
def c14b : DCode := match d14.body with | .seq _ (.seq b _) => b | _ => .skip
def c14c : DCode := match d14.body with | .seq _ (.seq _ (.seq c _)) => c | _ => .skip
def c14d : DCode := match d14.body with | .seq _ (.seq _ (.seq _ (.seq (.seq d _) _))) => d | _ => .skip
def c14e : DCode := match d14.body with | .seq _ (.seq _ (.seq _ (.seq _ e))) => e | _ => .skip
theorem body14 : d14.body = .seq c14a (.seq c14b (.seq c14c (.seq (.seq c14d (.block 0 lp14)) c14e))) := by kernel_rfl
theorem head14 (m n : Nat) (frm to bgn fin : Int) (rv : FV) (ln : Nat) (hl : rv = .nilslice ∧ ln = 0 ∨ ∃ es cap, rv = .slice 11 es cap ∧ ln = es.length) (h : (decide (frm < 0) || (decide (to < frm) || (decide (10000000 < to) || decide (5000 < (ln : Int))))) = true) :
    ∃ r, exec (callP env pDigest (m + 1)) (n + 30) d14.body (in1 (.agg [.int .i64 frm, .int .i64 to, .int .u64 bgn, .int .u64 fin, rv])) = some r ∧ viewR p3 r = (true, some (.f (.bool false)), true, true) := by
  by_cases h1 : frm < 0
  · exact exec_view (av := [.b true]) (fs := [decide (frm < 0) = true]) (viewR p3) (by kernel_rfl) (fcons (by simpa using h1) fnil)
  by_cases h2 : to < frm
  · exact exec_view (av := [.b false, .b true]) (fs := [decide (frm < 0) = false, decide (to < frm) = true]) (viewR p3) (by kernel_rfl) (fcons (by simpa using h1) (fcons (by simpa using h2) fnil))
  by_cases h3 : 10000000 < to
  · exact exec_view (av := [.b false, .b false, .b true]) (fs := [decide (frm < 0) = false, decide (to < frm) = false, decide (10000000 < to) = true]) (viewR p3) (by kernel_rfl) (fcons (by simpa using h1) (fcons (by simpa using h2) (fcons (by simpa using h3) fnil)))
  have h4 : 5000 < (ln : Int) := by simpa [h1, h2, h3] using h
  rcases hl with ⟨rfl, rfl⟩ | ⟨es, cap, rfl, rfl⟩
  · simp at h4
  · exact exec_view (av := [.b false, .b false, .b false, .b true]) (fs := [decide (frm < 0) = false, decide (to < frm) = false, decide (10000000 < to) = false, decide (5000 < (es.length : Int)) = true]) (viewR p3) (by kernel_rfl) (fcons (by simpa using h1) (fcons (by simpa using h2) (fcons (by simpa using h3) (fcons (by simpa using h4) fnil))))
theorem loop14' (m : Nat) (s : Seg) (hall : s.recs.list.length ≤ 5000) (N : Nat) (hN : s.recs.list.length + 21 ≤ N) (l : List Nat) :
    match segEnd s.to s.recs.list s.bgn s.frm with
    | none => ∃ r, exec (callP env pDigest (m + 1)) N lp14 (st14 s s.bgn s.frm 0 l) = some r ∧ viewR p3 r = (true, some (.f (.bool false)), true, true)
    | some d' => ∃ n2 at2 i2 l2, exec (callP env pDigest (m + 1)) N lp14 (st14 s s.bgn s.frm 0 l) = some (.exit 0, out14 m n2 s d' at2 i2 l2) := by
  obtain ⟨frm, to, bgn, fin, recs⟩ := s
  cases recs with
  | sl rs cap =>
    have hh := loop14 m frm to bgn fin cap rs hall rs [] (N - rs.length - 21) bgn frm l rfl
    have e : rs.length + (N - rs.length - 21) + 21 = N := by simp only [Recs.list] at hN; omega
    rw [e] at hh
    exact hh
  | nil =>
    simp only [Recs.list, segEnd]
    have hx := exit14 m (N - 21) ⟨frm, to, bgn, fin, .nil⟩ bgn frm 0 l
    refine ⟨N - 21, frm, 0, l, ?_⟩
    have e : N = (N - 21) + 20 + 1 := by simp only [Recs.list, List.length_nil] at hN; omega
    rw [lp14_eq, e]
    obtain ⟨r, h1, h2⟩ := loop_out (fun x => x) hx (fcons (by simp [Recs.list]) fnil)
    rw [show N - 21 + 20 + 1 - 21 = N - 21 by omega, h1, h2]; rfl
theorem tail14 (m n n2 : Nat) (s : Seg) (d' at2 i2 : Int) (l2 : List Nat) :
    ∃ r, exec (callP env pDigest (m + 1)) (n + 20) c14e (out14 m n2 s d' at2 i2 l2) = some r ∧ viewR p3 r = (true, some (.f (.bool (decide (d' = s.fin)))), true, true) :=
  exec_view (av := [.n]) (fs := []) (viewR p3) (by kernel_rfl) fnil
/- from the loop on -/
theorem rest14 (m n ne : Nat) (s : Seg) (hall : s.recs.list.length ≤ 5000) (hn : s.recs.list.length + 40 ≤ n) (hne : 20 ≤ ne) (sY : St) (l : List Nat) (hY : sY.trim lv14 = st14 s s.bgn s.frm 0 l) :
    ∃ r, thenS (exec (callP env pDigest (m + 1)) n (.block 0 lp14) sY) (exec (callP env pDigest (m + 1)) ne c14e) = some r ∧ viewR p3 r = (true, some (.f (.bool (segGo s.to s.fin s.recs.list s.bgn s.frm))), true, true) := by
  obtain ⟨n, rfl⟩ : ∃ n', n = n' + 1 := ⟨n - 1, by omega⟩
  have hl := loop14' m s hall n (by omega) l
  have ht : exec (callP env pDigest (m + 1)) n lp14 sY = exec (callP env pDigest (m + 1)) n lp14 (st14 s s.bgn s.frm 0 l) := by
    rw [lp14_eq, exec_loop_trim, hY]
  rw [segGo_end]
  cases he : segEnd s.to s.recs.list s.bgn s.frm with
  | none =>
    rw [he] at hl
    obtain ⟨r, h1, h2⟩ := hl
    have hr := (view_out h2).2
    obtain ⟨o, s1⟩ := r
    simp only at hr; subst hr
    rw [block_ret (ht.trans h1)]
    exact ⟨_, rfl, h2⟩
  | some d' =>
    rw [he] at hl
    obtain ⟨n2, at2, i2, l2, h1⟩ := hl
    rw [block_exit (ht.trans h1)]
    obtain ⟨n', rfl⟩ : ∃ n', ne = n' + 20 := ⟨ne - 20, by omega⟩
    exact tail14 m n' n2 s d' at2 i2 l2
theorem seg_run (m n : Nat) (s : Seg) (hn : s.recs.list.length + 60 ≤ n ∨ 5000 < s.recs.list.length ∧ 60 ≤ n) :
    ∃ r, exec (callP env pDigest (m + 1)) n d14.body (in1 s.fv) = some r ∧ viewR p3 r = (true, some (.f (.bool (isSeg s))), true, true) := by
  obtain ⟨n, rfl⟩ : ∃ n', n = n' + 40 := ⟨n - 40, by omega⟩
  cases h : segHead s with
  | true =>
    have : isSeg s = false := by simp [isSeg, h]
    rw [this]
    obtain ⟨frm, to, bgn, fin, recs⟩ := s
    cases recs with
    | nil => exact head14 m (n + 10) frm to bgn fin .nilslice 0 (.inl ⟨rfl, rfl⟩) h
    | sl rs cap => exact head14 m (n + 10) frm to bgn fin (.slice 11 (rs.map Rcd.fv) cap) rs.length (.inr ⟨_, cap, rfl, by simp⟩) h
  | false =>
    have hi : isSeg s = segGo s.to s.fin s.recs.list s.bgn s.frm := by simp [isSeg, h]
    rw [hi]
    obtain ⟨frm, to, bgn, fin, recs⟩ := s
    simp only [segHead, Bool.or_eq_false_iff, decide_eq_false_iff_not] at h
    obtain ⟨h1, h2, h3, h4⟩ := h
    have f1 : decide (frm < 0) = false := by simpa using h1
    have f2 : decide (to < frm) = false := by simpa using h2
    have f3 : decide (10000000 < to) = false := by simpa using h3
    rw [body14]
    cases recs with
    | nil =>
      rw [seq_run (k := callP env pDigest (m + 1)) (n := n + 39) (av := []) (fs := []) (by kernel_rfl) fnil]
      rw [seq_run (k := callP env pDigest (m + 1)) (n := n + 38) (av := [.b false, .b false, .b false, .b false]) (fs := [decide (frm < 0) = false, decide (to < frm) = false, decide (10000000 < to) = false, decide ((5000 : Int) < 0) = false]) (by kernel_rfl) (fcons f1 (fcons f2 (fcons f3 (fcons (by simp) fnil))))]
      rw [seq_run (k := callP env pDigest (m + 1)) (n := n + 37) (av := []) (fs := []) (by kernel_rfl) fnil]
      rw [seq_then]
      rw [seq_run (k := callP env pDigest (m + 1)) (n := n + 35) (av := []) (fs := []) (by kernel_rfl) fnil]
      generalize hY : stOf _ = sY
      exact rest14 m (n + 35) (n + 36) ⟨frm, to, bgn, fin, .nil⟩ (by simp [Recs.list]) (by simp only [Recs.list, List.length_nil] at hn ⊢; omega) (by omega) sY [] (by subst hY; kernel_rfl)
    | sl rs cap =>
      have hf4 : decide ((5000 : Int) < ((rs.map Rcd.fv).length : Nat)) = false := by simpa [Recs.list] using h4
      have hle : rs.length ≤ 5000 := by simp [Recs.list] at h4; omega
      rw [seq_run (k := callP env pDigest (m + 1)) (n := n + 39) (av := []) (fs := []) (by kernel_rfl) fnil]
      rw [seq_run (k := callP env pDigest (m + 1)) (n := n + 38) (av := [.b false, .b false, .b false, .b false]) (fs := [decide (frm < 0) = false, decide (to < frm) = false, decide (10000000 < to) = false, decide ((5000 : Int) < ((rs.map Rcd.fv).length : Nat)) = false]) (by kernel_rfl) (fcons f1 (fcons f2 (fcons f3 (fcons hf4 fnil))))]
      rw [seq_run (k := callP env pDigest (m + 1)) (n := n + 37) (av := []) (fs := []) (by kernel_rfl) fnil]
      rw [seq_then]
      rw [seq_run (k := callP env pDigest (m + 1)) (n := n + 35) (av := []) (fs := []) (by kernel_rfl) fnil]
      have hlen : ((rs.map Rcd.fv).length : Int) = rs.length := by simp
      generalize hY : stOf _ = sY
      refine rest14 m (n + 35) (n + 36) ⟨frm, to, bgn, fin, .sl rs cap⟩ hle (by simp only [Recs.list] at hn ⊢; omega) (by omega) sY [] ?_
      have : st14 ⟨frm, to, bgn, fin, .sl rs cap⟩ bgn frm 0 [] = ⟨mkTm [(p2, .ptr 0 0 0), (p3, .f (.bool false)), (p4, .f (.int .u64 bgn)), (p5, .f (.int .i64 frm)), (p34, .f (.slice 11 (rs.map Rcd.fv) cap)), (p35, .f (.int .i64 ((rs.map Rcd.fv).length : Nat))), (p36, .f (.int .i64 0))], [], .off,
   ⟨1, [(0, .cells 0 [.f (.int .i64 frm), .f (.int .i64 to), .f (.int .u64 bgn), .f (.int .u64 fin), .f (.slice 11 (rs.map Rcd.fv) cap)])], []⟩⟩ := by
        simp only [st14, Recs.list, Recs.fv, List.length_map]
      refine Eq.trans ?_ this.symm
      subst hY; kernel_rfl
theorem seg_known (s : Seg) : Known cx 14 [s.fv] (.bool (isSeg s)) := by
  obtain ⟨r, h1, h2⟩ := seg_run (s.recs.list.length + 59) (s.recs.list.length + 60) s (.inl (Nat.le_refl _))
  exact known_of fol envOk pDigest_ok (callP_view (df := d14) rfl (by kernel_rfl) (by kernel_rfl) (by kernel_rfl) h1 h2)
end Go.Dee.L
end
section
/- What the functions about segments answer: neighbours that fit. -/
set_option maxRecDepth 100000
namespace Go.Dee.L
def fitTo (a b : Seg) : Bool := decide (a.to = b.frm)
def fitSum (a b : Seg) : Bool := decide (a.fin = b.bgn)
theorem fitTo_known (a b : Seg) : Known cx 16 [a.fv, b.fv] (.bool (fitTo a b)) := by
  refine known_of fol envOk np_ok (n := 50) (h0 := Heap.empty) ?_
  obtain ⟨a1, a2, a3, a4, ar⟩ := a
  obtain ⟨b1, b2, b3, b4, br⟩ := b
  cases ar <;> cases br <;> kernel_rfl
theorem fitSum_known (a b : Seg) : Known cx 17 [a.fv, b.fv] (.bool (fitSum a b)) := by
  refine known_of fol envOk np_ok (n := 50) (h0 := Heap.empty) ?_
  obtain ⟨a1, a2, a3, a4, ar⟩ := a
  obtain ⟨b1, b2, b3, b4, br⟩ := b
  cases ar <;> cases br <;> kernel_rfl
theorem Rcd.fv_inj {a b : Rcd} (h : a.fv = b.fv) : a = b := by
  cases a; cases b; simp [Rcd.fv] at h ⊢; exact h
theorem map_inj {α β : Type} {f : α → β} (hf : ∀ a b, f a = f b → a = b) : ∀ {l l' : List α}, l.map f = l'.map f → l = l'
  | [], [], _ => rfl
  | [], _ :: _, h => by simp at h
  | _ :: _, [], h => by simp at h
  | a :: l, b :: l', h => by
    simp only [List.map_cons, List.cons.injEq] at h
    rw [hf _ _ h.1, map_inj hf h.2]
theorem Recs.fv_inj {a b : Recs} (h : a.fv = b.fv) : a = b := by
  cases a <;> cases b <;> simp [Recs.fv] at h ⊢
  exact ⟨map_inj (fun _ _ => Rcd.fv_inj) h.1, h.2⟩
theorem Seg.fv_inj {a b : Seg} (h : a.fv = b.fv) : a = b := by
  cases a; cases b; simp only [Seg.fv, FV.agg.injEq, List.cons.injEq, FV.int.injEq, true_and, and_true] at h
  obtain ⟨h1, h2, h3, h4, h5⟩ := h
  rw [h1, h2, h3, h4, Recs.fv_inj h5]
/- what is known of functions of two segments, of one, of a list -/
open Classical in
noncomputable def rule2 (f : FuncId) (g : Seg → Seg → FV) : Prim := fun f' args => if h : f' = f ∧ ∃ a b : Seg, args = [a.fv, b.fv] then some (g (Classical.choose h.2) (Classical.choose (Classical.choose_spec h.2))) else none
theorem rule2_at (f : FuncId) (g : Seg → Seg → FV) (a b : Seg) : rule2 f g f [a.fv, b.fv] = some (g a b) := by
  unfold rule2
  have h : f = f ∧ ∃ a' b' : Seg, [a.fv, b.fv] = [a'.fv, b'.fv] := ⟨rfl, a, b, rfl⟩
  rw [dif_pos h]
  have h2 := Classical.choose_spec (Classical.choose_spec h.2)
  have h3 := List.cons.inj h2
  exact congrArg some (congr (congrArg g (Seg.fv_inj h3.1).symm) (Seg.fv_inj (List.cons.inj h3.2).1).symm)
theorem rule2_ok {f : FuncId} {g : Seg → Seg → FV} (hk : ∀ a b, Known cx f [a.fv, b.fv] (g a b)) : PrimOk cx (rule2 f g) := by
  intro f' args v h
  by_cases hc : f' = f ∧ ∃ a b : Seg, args = [a.fv, b.fv]
  · obtain ⟨rfl, a, b, rfl⟩ := hc
    rw [rule2_at] at h; simp at h; subst h
    exact hk a b
  · unfold rule2 at h; rw [dif_neg hc] at h; simp at h
theorem rule2_other {f f' : FuncId} {g : Seg → Seg → FV} (hne : f' ≠ f) (args : List FV) : rule2 f g f' args = none := by
  unfold rule2; rw [dif_neg]; exact fun h => hne h.1
open Classical in
noncomputable def rule1 (f : FuncId) (g : Seg → FV) : Prim := fun f' args => if h : f' = f ∧ ∃ a : Seg, args = [a.fv] then some (g (Classical.choose h.2)) else none
theorem rule1_at (f : FuncId) (g : Seg → FV) (a : Seg) : rule1 f g f [a.fv] = some (g a) := by
  unfold rule1
  have h : f = f ∧ ∃ a' : Seg, [a.fv] = [a'.fv] := ⟨rfl, a, rfl⟩
  rw [dif_pos h]
  have h2 := Classical.choose_spec h.2
  exact congrArg some (congrArg g (Seg.fv_inj (List.cons.inj h2).1).symm)
theorem rule1_ok {f : FuncId} {g : Seg → FV} (hk : ∀ a, Known cx f [a.fv] (g a)) : PrimOk cx (rule1 f g) := by
  intro f' args v h
  by_cases hc : f' = f ∧ ∃ a : Seg, args = [a.fv]
  · obtain ⟨rfl, a, rfl⟩ := hc
    rw [rule1_at] at h; simp at h; subst h
    exact hk a
  · unfold rule1 at h; rw [dif_neg hc] at h; simp at h
theorem rule1_other {f f' : FuncId} {g : Seg → FV} (hne : f' ≠ f) (args : List FV) : rule1 f g f' args = none := by
  unfold rule1; rw [dif_neg]; exact fun h => hne h.1
/- a list of segments as a value: nil, or a slice -/
inductive Segs where
  | nil
  | sl (l : List Seg) (cap : Option Nat)
def Segs.list : Segs → List Seg
  | .nil => []
  | .sl l _ => l
def Segs.fv : Segs → FV
  | .nil => .nilslice
  | .sl l cap => .slice 5 (l.map Seg.fv) cap
theorem Segs.fv_inj {a b : Segs} (h : a.fv = b.fv) : a = b := by
  cases a <;> cases b <;> simp [Segs.fv] at h ⊢
  exact ⟨map_inj (fun _ _ => Seg.fv_inj) h.1, h.2⟩
/- with something before -/
open Classical in
noncomputable def ruleL (f : FuncId) (pre : List FV) (ok : Segs → Prop) (g : Segs → FV) : Prim := fun f' args => if h : f' = f ∧ ∃ a : Segs, args = pre ++ [a.fv] ∧ ok a then some (g (Classical.choose h.2)) else none
theorem ruleL_at (f : FuncId) (pre : List FV) {ok : Segs → Prop} (g : Segs → FV) (a : Segs) (ha : ok a) : ruleL f pre ok g f (pre ++ [a.fv]) = some (g a) := by
  unfold ruleL
  have h : f = f ∧ ∃ a' : Segs, pre ++ [a.fv] = pre ++ [a'.fv] ∧ ok a' := ⟨rfl, a, rfl, ha⟩
  rw [dif_pos h]
  have h2 := (Classical.choose_spec h.2).1
  exact congrArg some (congrArg g (Segs.fv_inj (List.cons.inj (List.append_cancel_left h2)).1).symm)
theorem ruleL_ok {f : FuncId} {pre : List FV} {ok : Segs → Prop} {g : Segs → FV} (hk : ∀ a, ok a → Known cx f (pre ++ [a.fv]) (g a)) : PrimOk cx (ruleL f pre ok g) := by
  intro f' args v h
  by_cases hc : f' = f ∧ ∃ a : Segs, args = pre ++ [a.fv] ∧ ok a
  · obtain ⟨rfl, a, rfl, ha⟩ := hc
    rw [ruleL_at _ _ _ _ ha] at h; simp at h; subst h
    exact hk a ha
  · unfold ruleL at h; rw [dif_neg hc] at h; simp at h
theorem ruleL_other {f f' : FuncId} {pre : List FV} {ok : Segs → Prop} {g : Segs → FV} (args : List FV) (hne : f' ≠ f ∨ ∀ a : Segs, args ≠ pre ++ [a.fv]) : ruleL f pre ok g f' args = none := by
  unfold ruleL; rw [dif_neg]
  rintro ⟨h1, a, h2, _⟩
  rcases hne with h | h
  · exact h h1
  · exact h a h2
/- all neighbours -/
def allB (f : Seg → Seg → Bool) : List Seg → Bool
  | a :: b :: l => f a b && allB f (b :: l)
  | _ => true
def lp15 : DCode := match d15.body with
  | .seq _ (.seq (.seq _ (.block _ l)) _) => l
  | _ => .skip
def lv15 : List Pos := match lp15 with | .loop live _ => live | _ => []
def bd15 : DCode := match lp15 with | .loop _ b => b | _ => .skip
theorem lp15_eq : lp15 = .loop lv15 bd15 := by kernel_rfl
def c15a : DCode := match d15.body with | .seq a _ => a | _ => .skip
def c15b : DCode := match d15.body with | .seq _ (.seq (.seq b _) _) => b | _ => .skip
def c15c : DCode := match d15.body with | .seq _ (.seq _ c) => c | _ => .skip
theorem body15 : d15.body = .seq c15a (.seq (.seq c15b (.block 0 lp15)) c15c) := by kernel_rfl
def st15 (g : FuncId) (sv : FV) (last i : Int) (l : List Nat) : St :=
  ⟨mkTm [(p1, .f (.func g [] [])), (p2, .f sv), (p5, .f (.bool false)), (p9, .f (.int .i64 last)), (p10, .f (.int .i64 i))], [], .off, ⟨0, [], l⟩⟩
theorem round15 (k : CallK) (n : Nat) (g : FuncId) (es : List FV) (cap : Option Nat) (last i : Int) (a b : Seg) :
    (execG k (n + 20) bd15 ((st15 g (.slice 5 es cap) last i []).trim lv15) [.b true, .v a.fv, .v b.fv, .c (.bool true)]).map (fun x => (roundView 0 lv15 x.1, x.2.1, x.2.2)) =
    some ((true, st15 g (.slice 5 es cap) last (IntKind.i64.wrap (i + 1)) []), [],
     [decide (i < last) = true, decide (0 ≤ i) = true, (Nat.beq 5 5 && Nat.blt i.toNat es.length) = true, es[i.toNat]? = some a.fv, decide (0 ≤ IntKind.i64.wrap (i + 1)) = true, (Nat.beq 5 5 && Nat.blt (IntKind.i64.wrap (i + 1)).toNat es.length) = true, es[(IntKind.i64.wrap (i + 1)).toNat]? = some b.fv,
      callMode k .full (.f (.func g [] [])) [.f a.fv, .f b.fv] ⟨0, [], []⟩ = some (.ret (.f (.bool true)), ⟨0, [], []⟩)]) := by
  kernel_rfl
theorem fail15 (k : CallK) (n : Nat) (g : FuncId) (es : List FV) (cap : Option Nat) (last i : Int) (a b : Seg) :
    (execG k (n + 20) bd15 ((st15 g (.slice 5 es cap) last i []).trim lv15) [.b true, .v a.fv, .v b.fv, .c (.bool false)]).map (fun x => ((isNormal x.1.1, viewR p5 x.1), x.2.1, x.2.2)) =
    some ((false, true, some (.f (.bool false)), true, true), [],
     [decide (i < last) = true, decide (0 ≤ i) = true, (Nat.beq 5 5 && Nat.blt i.toNat es.length) = true, es[i.toNat]? = some a.fv, decide (0 ≤ IntKind.i64.wrap (i + 1)) = true, (Nat.beq 5 5 && Nat.blt (IntKind.i64.wrap (i + 1)).toNat es.length) = true, es[(IntKind.i64.wrap (i + 1)).toNat]? = some b.fv,
      callMode k .full (.f (.func g [] [])) [.f a.fv, .f b.fv] ⟨0, [], []⟩ = some (.ret (.f (.bool false)), ⟨0, [], []⟩)]) := by
  kernel_rfl
def out15 (k : CallK) (n : Nat) (g : FuncId) (sv : FV) (last i : Int) : St := stOf (execG k (n + 20) bd15 ((st15 g sv last i []).trim lv15) [.b false])
theorem exit15 (k : CallK) (n : Nat) (g : FuncId) (sv : FV) (last i : Int) :
    (execG k (n + 20) bd15 ((st15 g sv last i []).trim lv15) [.b false]).map (fun x => ((isNormal x.1.1, x.1), x.2.1, x.2.2)) = some ((false, (.exit 0, out15 k n g sv last i)), [], [decide (i < last) = false]) := by kernel_rfl
/- the functions that are handed on -/
inductive Fit : FuncId → (Seg → Seg → Bool) → Prop
  | to : Fit 16 fitTo
  | sum : Fit 17 fitSum
noncomputable def pFit : Prim := orPrim (rule2 16 fun a b => .bool (fitTo a b)) (rule2 17 fun a b => .bool (fitSum a b))
theorem pFit_ok : PrimOk cx pFit := orPrim_ok (rule2_ok fitTo_known) (rule2_ok fitSum_known)
theorem pFit_at {g : FuncId} {f : Seg → Seg → Bool} (h : Fit g f) (a b : Seg) : pFit g [a.fv, b.fv] = some (.bool (f a b)) := by
  unfold pFit orPrim
  cases h with
  | to => rw [rule2_at]
  | sum => rw [rule2_other (by decide), rule2_at]
theorem loop15 (m : Nat) {g : FuncId} {f : Seg → Seg → Bool} (hg : Fit g f) (all : List Seg) (cap : Option Nat) (hall : all.length ≤ 1000) : ∀ (rest pre : List Seg) (a : Seg) (n : Nat), all = pre ++ a :: rest →
    (allB f (a :: rest) = true → ∃ n2 i2, exec (callP env pFit (m + 1)) (rest.length + n + 21) lp15 (st15 g (.slice 5 (all.map Seg.fv) cap) ((all.length : Int) - 1) pre.length []) = some (.exit 0, out15 (callP env pFit (m + 1)) n2 g (.slice 5 (all.map Seg.fv) cap) ((all.length : Int) - 1) i2)) ∧
    (allB f (a :: rest) = false → ∃ r, exec (callP env pFit (m + 1)) (rest.length + n + 21) lp15 (st15 g (.slice 5 (all.map Seg.fv) cap) ((all.length : Int) - 1) pre.length []) = some r ∧ viewR p5 r = (true, some (.f (.bool false)), true, true))
  | [], pre, a, n, hp => by
    refine ⟨fun _ => ⟨n, pre.length, ?_⟩, fun h => by simp [allB] at h⟩
    have hx := exit15 (callP env pFit (m + 1)) n g (.slice 5 (all.map Seg.fv) cap) ((all.length : Int) - 1) pre.length
    rw [lp15_eq]
    obtain ⟨r, h1, h2⟩ := loop_out (fun x => x) hx (fcons (by simp [hp]) fnil)
    simp only [List.length_nil, Nat.zero_add]
    rw [h1, h2]
  | b :: rest, pre, a, n, hp => by
    have hlen : pre.length + rest.length + 2 ≤ 1000 := by rw [hp] at hall; simp at hall; omega
    have hw : IntKind.i64.wrap ((pre.length : Int) + 1) = ((pre ++ [a]).length : Nat) := by rw [wrap_i64 (by omega) (by omega)]; simp
    have g1 : (all.map Seg.fv)[(pre.length : Int).toNat]? = some a.fv := by rw [hp]; simp
    have g2 : (all.map Seg.fv)[(((pre ++ [a]).length : Nat) : Int).toNat]? = some b.fv := by
      rw [hp, show pre ++ a :: b :: rest = (pre ++ [a]) ++ b :: rest by simp]
      rw [List.map_append, Int.toNat_natCast, List.getElem?_append_right (by simp)]; simp
    have f1 : decide ((pre.length : Int) < (all.length : Int) - 1) = true := by rw [hp]; simp; omega
    have f0 : decide (0 ≤ (pre.length : Int)) = true := by simp
    have f0' : decide (0 ≤ (((pre ++ [a]).length : Nat) : Int)) = true := by simp; omega
    have bl : ∀ j : Nat, j < all.length → (Nat.beq 5 5 && Nat.blt ((j : Nat) : Int).toNat (all.map Seg.fv).length) = true := by
      intro j hj
      have : Nat.blt j all.length = true := Nat.ble_eq_true_of_le hj
      simp only [Int.toNat_natCast, List.length_map, this]; rfl
    have b1 := bl pre.length (by rw [hp]; simp)
    have b2 := bl (pre ++ [a]).length (by rw [hp]; simp)
    have hc := call_prim (env := env) (n := m) (m := .full) (h := ⟨0, [], []⟩) (pFit_at hg a b)
    simp only [List.map_cons, List.map_nil] at hc
    simp only [allB, List.length_cons]
    rw [lp15_eq, show rest.length + 1 + n + 21 = (rest.length + n + 1 + 20) + 1 by omega]
    cases hf : f a b with
    | false =>
      refine ⟨fun h => by simp at h, fun _ => ?_⟩
      have hx := fail15 (callP env pFit (m + 1)) (rest.length + n + 1) g (all.map Seg.fv) cap ((all.length : Int) - 1) pre.length a b
      rw [hw] at hx
      rw [hf] at hc
      exact loop_out (viewR p5) hx (fcons f1 (fcons f0 (fcons b1 (fcons g1 (fcons f0' (fcons b2 (fcons g2 (fcons hc fnil))))))))
    | true =>
      have hx := round15 (callP env pFit (m + 1)) (rest.length + n + 1) g (all.map Seg.fv) cap ((all.length : Int) - 1) pre.length a b
      rw [hw] at hx
      rw [hf] at hc
      have hstep := loop_round (s := st15 g (.slice 5 (all.map Seg.fv) cap) ((all.length : Int) - 1) pre.length []) hx (fcons f1 (fcons f0 (fcons b1 (fcons g1 (fcons f0' (fcons b2 (fcons g2 (fcons hc fnil))))))))
      have ih := loop15 m hg all cap hall rest (pre ++ [a]) b n (by simp [hp])
      rw [lp15_eq, show rest.length + n + 21 = rest.length + n + 1 + 20 by omega] at ih
      rw [hstep]
      simpa using ih
theorem tail15 (k : CallK) (n n2 : Nat) (g : FuncId) (sv : FV) (last i2 : Int) : ∃ r, exec k (n + 20) c15c (out15 k n2 g sv last i2) = some r ∧ viewR p5 r = (true, some (.f (.bool true)), true, true) :=
  exec_view (av := []) (fs := []) (viewR p5) (by kernel_rfl) fnil
theorem all_run (m n : Nat) {g : FuncId} {f : Seg → Seg → Bool} (hg : Fit g f) (s : Segs) (hall : s.list.length ≤ 1000) (hn : s.list.length + 60 ≤ n) :
    ∃ r, exec (callP env pFit (m + 1)) n d15.body (in2 (.func g [] []) s.fv) = some r ∧ viewR p5 r = (true, some (.f (.bool (allB f s.list))), true, true) := by
  obtain ⟨n, rfl⟩ : ∃ n', n = n' + 40 := ⟨n - 40, by omega⟩
  rw [body15]
  have fin : ∀ (sv : FV) (last : Int) (sY : St) (b : Bool), sY.trim lv15 = st15 g sv last 0 [] →
      ((b = true → ∃ n2 i2, exec (callP env pFit (m + 1)) (n + 36) lp15 (st15 g sv last 0 []) = some (.exit 0, out15 (callP env pFit (m + 1)) n2 g sv last i2)) ∧ (b = false → ∃ r, exec (callP env pFit (m + 1)) (n + 36) lp15 (st15 g sv last 0 []) = some r ∧ viewR p5 r = (true, some (.f (.bool false)), true, true))) →
      ∃ r, thenS (exec (callP env pFit (m + 1)) (n + 37) (.block 0 lp15) sY) (exec (callP env pFit (m + 1)) (n + 38) c15c) = some r ∧ viewR p5 r = (true, some (.f (.bool b)), true, true) := by
    intro sv last sY b hY hl
    have ht : exec (callP env pFit (m + 1)) (n + 36) lp15 sY = exec (callP env pFit (m + 1)) (n + 36) lp15 (st15 g sv last 0 []) := by rw [lp15_eq, exec_loop_trim, hY]
    cases b with
    | true =>
      obtain ⟨n2, i2, h1⟩ := hl.1 rfl
      rw [block_exit (ht.trans h1)]
      exact tail15 (callP env pFit (m + 1)) (n + 18) n2 g sv last i2
    | false =>
      obtain ⟨r, h1, h2⟩ := hl.2 rfl
      have hr := (view_out h2).2
      obtain ⟨o, s1⟩ := r
      simp only at hr; subst hr
      rw [block_ret (ht.trans h1)]
      exact ⟨_, rfl, h2⟩
  cases s with
  | nil =>
    rw [seq_run (k := callP env pFit (m + 1)) (n := n + 39) (av := []) (fs := []) (by kernel_rfl) fnil]
    rw [seq_then]
    rw [seq_run (k := callP env pFit (m + 1)) (n := n + 37) (av := []) (fs := []) (by kernel_rfl) fnil]
    generalize hY : stOf _ = sY
    refine fin .nilslice (-1) sY true (by subst hY; kernel_rfl) ⟨fun _ => ⟨n + 15, 0, ?_⟩, fun h => by simp at h⟩
    have hx := exit15 (callP env pFit (m + 1)) (n + 15) g .nilslice (-1) 0
    rw [lp15_eq]
    obtain ⟨r, h1, h2⟩ := loop_out (fun x => x) hx (fcons (by decide) fnil)
    rw [h1, h2]
  | sl l cap =>
    rw [seq_run (k := callP env pFit (m + 1)) (n := n + 39) (av := []) (fs := []) (by kernel_rfl) fnil]
    rw [seq_then]
    rw [seq_run (k := callP env pFit (m + 1)) (n := n + 37) (av := []) (fs := []) (by kernel_rfl) fnil]
    generalize hY : stOf _ = sY
    have hw : IntKind.i64.wrap (((l.map Seg.fv).length : Int) - 1) = (l.length : Int) - 1 := by
      simp only [Segs.list] at hall
      rw [List.length_map, wrap_i64 (by omega) (by omega)]
    have hY2 : sY.trim lv15 = st15 g (.slice 5 (l.map Seg.fv) cap) ((l.length : Int) - 1) 0 [] := by
      rw [← hw]; subst hY; kernel_rfl
    refine fin _ _ sY (allB f l) hY2 ?_
    cases l with
    | nil =>
      refine ⟨fun _ => ⟨n + 15, 0, ?_⟩, fun h => by simp [allB] at h⟩
      have hx := exit15 (callP env pFit (m + 1)) (n + 15) g (.slice 5 (([] : List Seg).map Seg.fv) cap) ((([] : List Seg).length : Int) - 1) 0
      rw [lp15_eq]
      obtain ⟨r, h1, h2⟩ := loop_out (fun x => x) hx (fcons (by decide) fnil)
      rw [h1, h2]
    | cons a rest =>
      have hh := loop15 m hg (a :: rest) cap hall rest [] a (n + 36 - rest.length - 21) rfl
      have e : rest.length + (n + 36 - rest.length - 21) + 21 = n + 36 := by simp only [Segs.list, List.length_cons] at hn; omega
      rw [e] at hh
      exact hh
theorem all_known {g : FuncId} {f : Seg → Seg → Bool} (hg : Fit g f) (s : Segs) (hall : s.list.length ≤ 1000) : Known cx 15 ([.func g [] []] ++ [s.fv]) (.bool (allB f s.list)) := by
  obtain ⟨r, h1, h2⟩ := all_run (s.list.length + 59) (s.list.length + 60) hg s hall (Nat.le_refl _)
  refine known_of fol envOk pFit_ok (callP_view (df := d15) ?_ (by kernel_rfl) (by kernel_rfl) (by kernel_rfl) h1 h2)
  unfold pFit orPrim
  rw [rule2_other (by decide), rule2_other (by decide)]
end Go.Dee.L
end
section
/- What the functions about segments answer: Join, its parts. -/
set_option maxRecDepth 100000
namespace Go.Dee.L
noncomputable def pJoin : Prim := orPrim (rule1 14 fun s => .bool (isSeg s)) (orPrim (ruleL 15 [.func 16 [] []] (fun s => s.list.length ≤ 1000) fun s => .bool (allB fitTo s.list)) (ruleL 15 [.func 17 [] []] (fun s => s.list.length ≤ 1000) fun s => .bool (allB fitSum s.list)))
theorem pJoin_ok : PrimOk cx pJoin := orPrim_ok (rule1_ok seg_known) (orPrim_ok (ruleL_ok fun s h => all_known .to s h) (ruleL_ok fun s h => all_known .sum s h))
theorem pJoin_14 (s : Seg) : pJoin 14 [s.fv] = some (.bool (isSeg s)) := by unfold pJoin orPrim; rw [rule1_at]
theorem pJoin_to (s : Segs) (h : s.list.length ≤ 1000) : pJoin 15 ([.func 16 [] []] ++ [s.fv]) = some (.bool (allB fitTo s.list)) := by
  unfold pJoin orPrim; rw [rule1_other (by decide), ruleL_at _ _ _ _ h]
theorem pJoin_sum (s : Segs) (h : s.list.length ≤ 1000) : pJoin 15 ([.func 17 [] []] ++ [s.fv]) = some (.bool (allB fitSum s.list)) := by
  unfold pJoin orPrim; rw [rule1_other (by decide), ruleL_other _ (.inr fun a => by simp), ruleL_at _ _ _ _ h]
def c7a : DCode := match d7.body with | .seq a _ => a | _ => .skip
def c7b : DCode := match d7.body with | .seq _ (.seq b _) => b | _ => .skip
def c7c : DCode := match d7.body with | .seq _ (.seq _ (.seq (.seq c _) _)) => c | _ => .skip
def lp7 : DCode := match d7.body with | .seq _ (.seq _ (.seq (.seq _ (.block _ c)) _)) => c | _ => .skip
def c7d : DCode := match d7.body with | .seq _ (.seq _ (.seq _ (.seq c _))) => c | _ => .skip
def c7e : DCode := match d7.body with | .seq _ (.seq _ (.seq _ (.seq _ (.seq c _)))) => c | _ => .skip
def c7f : DCode := match d7.body with | .seq _ (.seq _ (.seq _ (.seq _ (.seq _ (.seq c _))))) => c | _ => .skip
def c7g : DCode := match d7.body with | .seq _ (.seq _ (.seq _ (.seq _ (.seq _ (.seq _ (.seq (.seq c _) _)))))) => c | _ => .skip
def lq7 : DCode := match d7.body with | .seq _ (.seq _ (.seq _ (.seq _ (.seq _ (.seq _ (.seq (.seq _ (.block _ c)) _)))))) => c | _ => .skip
def c7h : DCode := match d7.body with | .seq _ (.seq _ (.seq _ (.seq _ (.seq _ (.seq _ (.seq _ c)))))) => c | _ => .skip
theorem body7 : d7.body = .seq c7a (.seq c7b (.seq (.seq c7c (.block 0 lp7)) (.seq c7d (.seq c7e (.seq c7f (.seq (.seq c7g (.block 2 lq7)) c7h)))))) := by kernel_rfl
def lv7 : List Pos := match lp7 with | .loop live _ => live | _ => []
def bd7 : DCode := match lp7 with | .loop _ b => b | _ => .skip
theorem lp7_eq : lp7 = .loop lv7 bd7 := by kernel_rfl
def lw7 : List Pos := match lq7 with | .loop live _ => live | _ => []
def be7 : DCode := match lq7 with | .loop _ b => b | _ => .skip
theorem lq7_eq : lq7 = .loop lw7 be7 := by kernel_rfl
def zseg : FV := .agg [.int .i64 0, .int .i64 0, .int .u64 0, .int .u64 0, .nilslice]
def zcells : List DV := [.f (.int .i64 0), .f (.int .i64 0), .f (.int .u64 0), .f (.int .u64 0), .f .nilslice]
/- what Join gives -/
def view7 (r : Out × St) : Bool × Option (List DV) × Bool × Bool := (isRet r.1, readRes r.2.tm r.2.hp d7.results, r.2.defs.isEmpty, isOff r.2.rc)
def err7 (c : Int) : Bool × Option (List DV) × Bool × Bool := (true, some [.f zseg, .f (.int .i64 c)], true, true)
/- the first loop: all are segments -/
def st7 (sv : FV) (ln i : Int) (l : List Nat) : St :=
  ⟨mkTm [(p1, .f sv), (p3, .ptr 0 0 0), (p4, .f (.int .i64 0)), (p19, .f sv), (p20, .f (.int .i64 ln)), (p21, .f (.int .i64 i))], [], .off, ⟨1, [(0, .cells 0 zcells)], l⟩⟩
theorem round7 (k : CallK) (n : Nat) (es : List FV) (cap : Option Nat) (ln i : Int) (l : List Nat) (a1 a2 a3 a4 : Int) (ar : FV) (har : ar = .nilslice ∨ ∃ rs rc, ar = .slice 11 rs rc) :
    (execG k (n + 20) bd7 ((st7 (.slice 5 es cap) ln i l).trim lv7) [.b true, .v (.agg [.int .i64 a1, .int .i64 a2, .int .u64 a3, .int .u64 a4, ar]), .c (.bool true)]).map (fun x => (roundView 1 lv7 x.1, x.2.1, x.2.2)) =
    some ((true, st7 (.slice 5 es cap) ln (IntKind.i64.wrap (i + 1)) (addLog 1 l)), [],
     [decide (i < ln) = true, decide (0 ≤ i) = true, (Nat.beq 5 5 && Nat.blt i.toNat es.length) = true, es[i.toNat]? = some (.agg [.int .i64 a1, .int .i64 a2, .int .u64 a3, .int .u64 a4, ar]),
      callMode k .val (.f (.func 14 [] [])) [.f (.agg [.int .i64 a1, .int .i64 a2, .int .u64 a3, .int .u64 a4, ar])] ⟨2, [(1, .cells 0 [.f (.int .i64 a1), .f (.int .i64 a2), .f (.int .u64 a3), .f (.int .u64 a4), .f ar]), (0, .cells 0 zcells)], addLog 1 l⟩ = some (.ret (.f (.bool true)), ⟨2, [(1, .cells 0 [.f (.int .i64 a1), .f (.int .i64 a2), .f (.int .u64 a3), .f (.int .u64 a4), .f ar]), (0, .cells 0 zcells)], addLog 1 l⟩)]) := by
  rcases har with rfl | ⟨rs, rc, rfl⟩ <;> kernel_rfl
theorem fail7 (k : CallK) (n : Nat) (es : List FV) (cap : Option Nat) (ln i : Int) (l : List Nat) (a1 a2 a3 a4 : Int) (ar : FV) (har : ar = .nilslice ∨ ∃ rs rc, ar = .slice 11 rs rc) :
    (execG k (n + 20) bd7 ((st7 (.slice 5 es cap) ln i l).trim lv7) [.b true, .v (.agg [.int .i64 a1, .int .i64 a2, .int .u64 a3, .int .u64 a4, ar]), .c (.bool false)]).map (fun x => ((isNormal x.1.1, view7 x.1), x.2.1, x.2.2)) =
    some ((false, err7 1), [],
     [decide (i < ln) = true, decide (0 ≤ i) = true, (Nat.beq 5 5 && Nat.blt i.toNat es.length) = true, es[i.toNat]? = some (.agg [.int .i64 a1, .int .i64 a2, .int .u64 a3, .int .u64 a4, ar]),
      callMode k .val (.f (.func 14 [] [])) [.f (.agg [.int .i64 a1, .int .i64 a2, .int .u64 a3, .int .u64 a4, ar])] ⟨2, [(1, .cells 0 [.f (.int .i64 a1), .f (.int .i64 a2), .f (.int .u64 a3), .f (.int .u64 a4), .f ar]), (0, .cells 0 zcells)], addLog 1 l⟩ = some (.ret (.f (.bool false)), ⟨2, [(1, .cells 0 [.f (.int .i64 a1), .f (.int .i64 a2), .f (.int .u64 a3), .f (.int .u64 a4), .f ar]), (0, .cells 0 zcells)], addLog 1 l⟩)]) := by
  rcases har with rfl | ⟨rs, rc, rfl⟩ <;> kernel_rfl
def out7 (k : CallK) (n : Nat) (sv : FV) (ln i : Int) (l : List Nat) : St := stOf (execG k (n + 20) bd7 ((st7 sv ln i l).trim lv7) [.b false])
theorem exit7 (k : CallK) (n : Nat) (sv : FV) (ln i : Int) (l : List Nat) :
    (execG k (n + 20) bd7 ((st7 sv ln i l).trim lv7) [.b false]).map (fun x => ((isNormal x.1.1, x.1), x.2.1, x.2.2)) = some ((false, (.exit 0, out7 k n sv ln i l)), [], [decide (i < ln) = false]) := by kernel_rfl
/- the second loop: the records one behind the other. Before the first of them, after it -/
def outCells (frm to bgn fin : Int) (r : DV) : List DV := [.f (.int .i64 frm), .f (.int .i64 to), .f (.int .u64 bgn), .f (.int .u64 fin), r]
def stA7 (sv : FV) (ln i frm to bgn fin : Int) (l : List Nat) : St :=
  ⟨mkTm [(p3, .ptr 0 0 0), (p4, .f (.int .i64 0)), (p7, .ptr 1 0 0), (p61, .f sv), (p62, .f (.int .i64 ln)), (p63, .f (.int .i64 i))], [], .off, ⟨2, [(1, .cells 0 (outCells frm to bgn fin (.f .nilslice))), (0, .cells 0 zcells)], l⟩⟩
def stB7 (sv : FV) (ln i frm to bgn fin : Int) (l : List Nat) (g n : Nat) (cs junk : List DV) : St :=
  ⟨mkTm [(p3, .ptr 0 0 0), (p4, .f (.int .i64 0)), (p7, .ptr 1 0 0), (p61, .f sv), (p62, .f (.int .i64 ln)), (p63, .f (.int .i64 i))], [], .off,
   ⟨4, [(3, .cells g cs), (2, .cells 0 junk), (1, .cells 0 (outCells frm to bgn fin (.slice true 11 3 g 0 n none))), (0, .cells 0 zcells)], l⟩⟩
theorem lw7_eq : lw7 = [p3, p4, p7, p61, p62, p63] := by kernel_rfl
section
variable (k : CallK) (n : Nat) (es : List FV) (cap : Option Nat) (ln i frm to bgn fin : Int) (l : List Nat) (a1 a2 a3 a4 : Int)
/- without records: nil -/
theorem roundA7n : (execG k (n + 20) be7 ((stA7 (.slice 5 es cap) ln i frm to bgn fin l).trim lw7) [.b true, .v (.agg [.int .i64 a1, .int .i64 a2, .int .u64 a3, .int .u64 a4, .nilslice]), .b true]).map (fun x => (roundView 2 lw7 x.1, x.2.1, x.2.2)) =
    some ((true, stA7 (.slice 5 es cap) ln (IntKind.i64.wrap (i + 1)) frm to bgn fin (addLog 1 (addLog 2 l))), [],
     [decide (i < ln) = true, decide (0 ≤ i) = true, (Nat.beq 5 5 && Nat.blt i.toNat es.length) = true, es[i.toNat]? = some (.agg [.int .i64 a1, .int .i64 a2, .int .u64 a3, .int .u64 a4, .nilslice]),
      (Nat.blt ((0 + 0) * 80) mostBytes && Nat.blt (0 + 0) mostBytes) = true, Nat.beq 0 0 = true]) := by kernel_rfl
/- without records: a slice -/
theorem roundA7e (rs : List FV) (rc : Option Nat) : (execG k (n + 20) be7 ((stA7 (.slice 5 es cap) ln i frm to bgn fin l).trim lw7) [.b true, .v (.agg [.int .i64 a1, .int .i64 a2, .int .u64 a3, .int .u64 a4, .slice 11 rs rc]), .b true]).map (fun x => (roundView 2 lw7 x.1, x.2.1, x.2.2)) =
    some ((true, stA7 (.slice 5 es cap) ln (IntKind.i64.wrap (i + 1)) frm to bgn fin (addLog 1 (addLog 2 l))), [],
     [decide (i < ln) = true, decide (0 ≤ i) = true, (Nat.beq 5 5 && Nat.blt i.toNat es.length) = true, es[i.toNat]? = some (.agg [.int .i64 a1, .int .i64 a2, .int .u64 a3, .int .u64 a4, .slice 11 rs rc]),
      (Nat.beq 11 11 && Nat.ble rs.length rs.length) = true, (Nat.blt ((0 + rs.length) * 80) mostBytes && Nat.blt (0 + rs.length) mostBytes) = true, Nat.beq rs.length 0 = true]) := by kernel_rfl
/- the first records -/
theorem roundA7r (rs : List FV) (rc : Option Nat) : (execG k (n + 20) be7 ((stA7 (.slice 5 es cap) ln i frm to bgn fin l).trim lw7) [.b true, .v (.agg [.int .i64 a1, .int .i64 a2, .int .u64 a3, .int .u64 a4, .slice 11 rs rc]), .b false]).map (fun x => (roundView 2 lw7 x.1, x.2.1, x.2.2)) =
    some ((true, stB7 (.slice 5 es cap) ln (IntKind.i64.wrap (i + 1)) frm to bgn fin (addLog 1 (addLog 2 l)) 0 rs.length (flatCells (rs.take rs.length)) [.f (.int .i64 a1), .f (.int .i64 a2), .f (.int .u64 a3), .f (.int .u64 a4), .f (.slice 11 rs rc)]), [],
     [decide (i < ln) = true, decide (0 ≤ i) = true, (Nat.beq 5 5 && Nat.blt i.toNat es.length) = true, es[i.toNat]? = some (.agg [.int .i64 a1, .int .i64 a2, .int .u64 a3, .int .u64 a4, .slice 11 rs rc]),
      (Nat.beq 11 11 && Nat.ble rs.length rs.length) = true, (Nat.blt ((0 + rs.length) * 80) mostBytes && Nat.blt (0 + rs.length) mostBytes) = true, Nat.beq rs.length 0 = false]) := by kernel_rfl
end
end Go.Dee.L
end
section
/- What the functions about segments answer: Join's second loop. -/
set_option maxRecDepth 100000
namespace Go.Dee.L
section
variable (k : CallK) (n : Nat) (es : List FV) (cap : Option Nat) (ln i frm to bgn fin : Int) (l : List Nat) (a1 a2 a3 a4 : Int) (g m : Nat) (cs junk : List DV)
/- what is asked of the heap -/
def askB (cs junk : List DV) : Bool := belowL 4 cs && belowL 4 junk
theorem roundB7n : (execG k (n + 20) be7 ((stB7 (.slice 5 es cap) ln i frm to bgn fin l g m cs junk).trim lw7) [.b true, .v (.agg [.int .i64 a1, .int .i64 a2, .int .u64 a3, .int .u64 a4, .nilslice]), .b true]).map (fun x => (roundViewB true 4 lw7 x.1, x.2.1, x.2.2)) =
    some ((true, stB7 (.slice 5 es cap) ln (IntKind.i64.wrap (i + 1)) frm to bgn fin (addLog 1 (addLog 4 l)) g m cs junk,
      (belowL 4 cs && (belowL 4 junk && true))), [],
     [decide (i < ln) = true, decide (0 ≤ i) = true, (Nat.beq 5 5 && Nat.blt i.toNat es.length) = true, es[i.toNat]? = some (.agg [.int .i64 a1, .int .i64 a2, .int .u64 a3, .int .u64 a4, .nilslice]),
      (Nat.blt ((m + 0) * 80) mostBytes && Nat.blt (m + 0) mostBytes) = true, Nat.beq 0 0 = true]) := by kernel_rfl
theorem roundB7e (rs : List FV) (rc : Option Nat) : (execG k (n + 20) be7 ((stB7 (.slice 5 es cap) ln i frm to bgn fin l g m cs junk).trim lw7) [.b true, .v (.agg [.int .i64 a1, .int .i64 a2, .int .u64 a3, .int .u64 a4, .slice 11 rs rc]), .b true]).map (fun x => (roundViewB true 4 lw7 x.1, x.2.1, x.2.2)) =
    some ((true, stB7 (.slice 5 es cap) ln (IntKind.i64.wrap (i + 1)) frm to bgn fin (addLog 1 (addLog 4 l)) g m cs junk,
      (belowL 4 cs && (belowL 4 junk && true))), [],
     [decide (i < ln) = true, decide (0 ≤ i) = true, (Nat.beq 5 5 && Nat.blt i.toNat es.length) = true, es[i.toNat]? = some (.agg [.int .i64 a1, .int .i64 a2, .int .u64 a3, .int .u64 a4, .slice 11 rs rc]),
      (Nat.beq 11 11 && Nat.ble rs.length rs.length) = true, (Nat.blt ((m + rs.length) * 80) mostBytes && Nat.blt (m + rs.length) mostBytes) = true, Nat.beq rs.length 0 = true]) := by kernel_rfl
theorem roundB7r (rs : List FV) (rc : Option Nat) : (execG k (n + 20) be7 ((stB7 (.slice 5 es cap) ln i frm to bgn fin l g m cs junk).trim lw7) [.b true, .v (.agg [.int .i64 a1, .int .i64 a2, .int .u64 a3, .int .u64 a4, .slice 11 rs rc]), .b false, .b false]).map (fun x => (roundViewB true 4 lw7 x.1, x.2.1, x.2.2)) =
    some ((true, stB7 (.slice 5 es cap) ln (IntKind.i64.wrap (i + 1)) frm to bgn fin (addLog 1 (addLog 3 (addLog 4 l))) (g + 1) (m + rs.length) ((cs.drop 0).take (m * 11) ++ flatCells (rs.take rs.length)) junk,
      (belowL 4 ((cs.drop 0).take (m * 11) ++ flatCells (rs.take rs.length)) && (belowL 4 junk && true))), [],
     [decide (i < ln) = true, decide (0 ≤ i) = true, (Nat.beq 5 5 && Nat.blt i.toNat es.length) = true, es[i.toNat]? = some (.agg [.int .i64 a1, .int .i64 a2, .int .u64 a3, .int .u64 a4, .slice 11 rs rc]),
      (Nat.beq 11 11 && Nat.ble rs.length rs.length) = true, (Nat.blt ((m + rs.length) * 80) mostBytes && Nat.blt (m + rs.length) mostBytes) = true, Nat.beq rs.length 0 = false, Nat.beq g g = true,
      (Nat.beq 11 11 && allOne (flatCells (rs.take rs.length))) = true, (Nat.ble (0 + (m + rs.length) * 11) cs.length && true) = false, Nat.ble (0 + m * 11) cs.length = true]) := by kernel_rfl
end
end Go.Dee.L
end
section
/- What the functions about segments answer: Join. -/
set_option maxRecDepth 100000
namespace Go.Dee.L
def recsOf (l : List Seg) : List Rcd := l.flatMap fun s => s.recs.list
theorem flatCells_append : ∀ (a b : List FV), flatCells (a ++ b) = flatCells a ++ flatCells b
  | [], b => rfl
  | x :: a, b => by simp [flatCells, flatCells_append a b]
theorem flatCells_len : ∀ (rs : List Rcd), (flatCells (rs.map Rcd.fv)).length = rs.length * 11
  | [] => rfl
  | r :: rs => by simp only [List.map_cons, flatCells, List.length_append, flatCells_len rs, List.length_cons]; simp [Rcd.fv, FV.cells]; omega
theorem belowL_flat (c : Nat) : ∀ (es : List FV), belowL c (flatCells es) = true
  | [] => rfl
  | e :: es => belowL_iff.2 fun d hd => by
    simp only [flatCells, List.mem_append, List.mem_map] at hd
    rcases hd with ⟨v, _, rfl⟩ | hd
    · exact below_f c v
    · exact belowL_iff.1 (belowL_flat c es) d hd
theorem allOne_app : ∀ {a b : List DV}, allOne a = true → allOne b = true → allOne (a ++ b) = true
  | [], b, _, h => h
  | d :: a, b, h, h' => by
    simp only [allOne, List.cons_append, Bool.and_eq_true] at h ⊢
    exact ⟨h.1, allOne_app h.2 h'⟩
theorem allOne_flat : ∀ (rs : List Rcd), allOne (flatCells (rs.map Rcd.fv)) = true
  | [] => rfl
  | r :: rs => allOne_app rfl (allOne_flat rs)
theorem idx_facts {pre rest all : List Seg} {a : Seg} (hp : all = pre ++ a :: rest) : decide ((pre.length : Int) < (all.length : Int)) = true ∧ decide (0 ≤ (pre.length : Int)) = true ∧ (Nat.beq 5 5 && Nat.blt (pre.length : Int).toNat (all.map Seg.fv).length) = true ∧ (all.map Seg.fv)[(pre.length : Int).toNat]? = some a.fv := by
  subst hp
  refine ⟨by simp; omega, by simp, ?_, by simp⟩
  have : Nat.blt pre.length (pre.length + (rest.length + 1)) = true := Nat.ble_eq_true_of_le (by omega)
  simp only [Int.toNat_natCast, List.length_map, List.length_append, List.length_cons, this]; rfl
/- the first loop -/
theorem loop7 (m : Nat) (all : List Seg) (cap : Option Nat) (hall : all.length ≤ 1000) : ∀ (rest pre : List Seg) (n : Nat) (l : List Nat), all = pre ++ rest →
    (rest.all isSeg = true → ∃ n2 l2, exec (callP env pJoin (m + 1)) (rest.length + n + 21) lp7 (st7 (.slice 5 (all.map Seg.fv) cap) all.length pre.length l) = some (.exit 0, out7 (callP env pJoin (m + 1)) n2 (.slice 5 (all.map Seg.fv) cap) all.length all.length l2)) ∧
    (rest.all isSeg = false → ∃ r, exec (callP env pJoin (m + 1)) (rest.length + n + 21) lp7 (st7 (.slice 5 (all.map Seg.fv) cap) all.length pre.length l) = some r ∧ view7 r = err7 1)
  | [], pre, n, l, hp => by
    refine ⟨fun _ => ⟨n, l, ?_⟩, fun h => by simp at h⟩
    have hx := exit7 (callP env pJoin (m + 1)) n (.slice 5 (all.map Seg.fv) cap) all.length pre.length l
    rw [lp7_eq]
    obtain ⟨r, h1, h2⟩ := loop_out (fun x => x) hx (fcons (by simp [hp]) fnil)
    simp only [List.length_nil, Nat.zero_add]
    rw [h1, h2]
    have : pre.length = all.length := by rw [hp]; simp
    rw [this]
  | a :: rest, pre, n, l, hp => by
    have hlen : pre.length + rest.length + 1 ≤ 1000 := by rw [hp] at hall; simp at hall; omega
    have hw : IntKind.i64.wrap ((pre.length : Int) + 1) = ((pre ++ [a]).length : Nat) := by rw [wrap_i64 (by omega) (by omega)]; simp
    obtain ⟨f1, f2, f3, f4⟩ := idx_facts hp
    obtain ⟨a1, a2, a3, a4, ar⟩ := a
    have har : ar.fv = .nilslice ∨ ∃ rs rc, ar.fv = .slice 11 rs rc := by cases ar with | nil => exact .inl rfl | sl rs c => exact .inr ⟨_, _, rfl⟩
    have hc := call_prim (env := env) (n := m) (m := .val) (h := ⟨2, [(1, .cells 0 [.f (.int .i64 a1), .f (.int .i64 a2), .f (.int .u64 a3), .f (.int .u64 a4), .f ar.fv]), (0, .cells 0 zcells)], addLog 1 l⟩) (pJoin_14 ⟨a1, a2, a3, a4, ar⟩)
    simp only [List.map_cons, List.map_nil] at hc
    simp only [List.all_cons, List.length_cons]
    rw [lp7_eq, show rest.length + 1 + n + 21 = (rest.length + n + 1 + 20) + 1 by omega]
    cases hf : isSeg ⟨a1, a2, a3, a4, ar⟩ with
    | false =>
      refine ⟨fun h => by simp at h, fun _ => ?_⟩
      rw [hf] at hc
      exact loop_out view7 (fail7 (callP env pJoin (m + 1)) (rest.length + n + 1) (all.map Seg.fv) cap all.length pre.length l a1 a2 a3 a4 ar.fv har) (fcons f1 (fcons f2 (fcons f3 (fcons f4 (fcons hc fnil)))))
    | true =>
      rw [hf] at hc
      have hx := round7 (callP env pJoin (m + 1)) (rest.length + n + 1) (all.map Seg.fv) cap all.length pre.length l a1 a2 a3 a4 ar.fv har
      rw [hw] at hx
      have hstep := loop_round (s := st7 (.slice 5 (all.map Seg.fv) cap) all.length pre.length l) hx (fcons f1 (fcons f2 (fcons f3 (fcons f4 (fcons hc fnil)))))
      have ih := loop7 m all cap hall rest (pre ++ [⟨a1, a2, a3, a4, ar⟩]) n (addLog 1 l) (by simp [hp])
      rw [lp7_eq, show rest.length + n + 21 = rest.length + n + 1 + 20 by omega] at ih
      rw [hstep]
      simpa using ih
/- the second loop -/
def StP (frm to bgn fin : Int) (all : List Seg) (cap : Option Nat) (pre : List Seg) (st : St) : Prop :=
  (recsOf pre = [] ∧ ∃ l, st = stA7 (.slice 5 (all.map Seg.fv) cap) all.length pre.length frm to bgn fin l) ∨
  (recsOf pre ≠ [] ∧ ∃ l g junk, belowL 4 junk = true ∧ st = stB7 (.slice 5 (all.map Seg.fv) cap) all.length pre.length frm to bgn fin l g (recsOf pre).length (flatCells ((recsOf pre).map Rcd.fv)) junk)
theorem recsOf_snoc (pre : List Seg) (a : Seg) : recsOf (pre ++ [a]) = recsOf pre ++ a.recs.list := by simp [recsOf]
theorem loopq7 (k : CallK) (frm to bgn fin : Int) (all : List Seg) (cap : Option Nat) (hall : all.length ≤ 1000) (hrec : (recsOf all).length ≤ 1000000000) : ∀ (rest pre : List Seg) (n : Nat) (st : St), all = pre ++ rest → StP frm to bgn fin all cap pre st →
    ∃ st' n2, StP frm to bgn fin all cap all st' ∧ exec k (rest.length + n + 21) lq7 st = some (.exit 2, stOf (execG k (n2 + 20) be7 (st'.trim lw7) [.b false]))
  | [], pre, n, st, hp, hst => by
    have hpre : pre = all := by rw [hp]; simp
    subst hpre
    refine ⟨st, n, hst, ?_⟩
    rw [lq7_eq]
    simp only [List.length_nil, Nat.zero_add]
    have fin' : ∀ st, (execG k (n + 20) be7 (st.trim lw7) [.b false]).map (fun x => ((isNormal x.1.1, x.1), x.2.1, x.2.2)) = some ((false, (.exit 2, stOf (execG k (n + 20) be7 (st.trim lw7) [.b false]))), [], [decide ((pre.length : Int) < (pre.length : Int)) = false]) → exec k (n + 21) (.loop lw7 be7) st = some (.exit 2, stOf (execG k (n + 20) be7 (st.trim lw7) [.b false])) := by
      intro st hx
      obtain ⟨r, h1, h2⟩ := loop_out (fun x => x) hx (fcons (by simp) fnil)
      rw [h1, h2]
    rcases hst with ⟨_, l, rfl⟩ | ⟨_, l, g, junk, _, rfl⟩
    · exact fin' _ (by kernel_rfl)
    · exact fin' _ (by kernel_rfl)
  | a :: rest, pre, n, st, hp, hst => by
    have hlen : pre.length + rest.length + 1 ≤ 1000 := by rw [hp] at hall; simp at hall; omega
    have hw : IntKind.i64.wrap ((pre.length : Int) + 1) = ((pre ++ [a]).length : Nat) := by rw [wrap_i64 (by omega) (by omega)]; simp
    obtain ⟨f1, f2, f3, f4⟩ := idx_facts hp
    have hsn := recsOf_snoc pre a
    have hbound : (recsOf pre).length + a.recs.list.length ≤ 1000000000 := by
      have : recsOf all = recsOf pre ++ (a.recs.list ++ recsOf rest) := by rw [hp]; simp [recsOf]
      rw [this] at hrec; simp at hrec; omega
    have size : ∀ x y : Nat, x + y ≤ 1000000000 → (Nat.blt ((x + y) * 80) mostBytes && Nat.blt (x + y) mostBytes) = true := by
      intro x y h
      have h1 : Nat.blt ((x + y) * 80) mostBytes = true := Nat.ble_eq_true_of_le (by unfold mostBytes; omega)
      have h2 : Nat.blt (x + y) mostBytes = true := Nat.ble_eq_true_of_le (by unfold mostBytes; omega)
      rw [h1, h2]; rfl
    have go : ∀ st', StP frm to bgn fin all cap (pre ++ [a]) st' → exec k ((a :: rest).length + n + 21) lq7 st = exec k (rest.length + n + 21) lq7 st' →
        ∃ st'' n2, StP frm to bgn fin all cap all st'' ∧ exec k ((a :: rest).length + n + 21) lq7 st = some (.exit 2, stOf (execG k (n2 + 20) be7 (st''.trim lw7) [.b false])) := by
      intro st' hst' he
      obtain ⟨st'', n2, h1, h2⟩ := loopq7 k frm to bgn fin all cap hall hrec rest (pre ++ [a]) n st' (by simp [hp]) hst'
      exact ⟨st'', n2, h1, he.trans h2⟩
    have hN : (a :: rest).length + n + 21 = (rest.length + n + 1 + 20) + 1 := by simp only [List.length_cons]; omega
    have hN' : rest.length + n + 21 = rest.length + n + 1 + 20 := by omega
    obtain ⟨a1, a2, a3, a4, ar⟩ := a
    rcases hst with ⟨hr, l, rfl⟩ | ⟨hr, l, g, junk, hj, rfl⟩
    · rw [hr] at hbound
      cases ar with
      | nil =>
        have hx := roundA7n k (rest.length + n + 1) (all.map Seg.fv) cap all.length pre.length frm to bgn fin l a1 a2 a3 a4
        rw [hw] at hx
        refine go (stA7 (.slice 5 (all.map Seg.fv) cap) all.length (pre ++ [_]).length frm to bgn fin (addLog 1 (addLog 2 l))) (.inl ⟨by rw [hsn, hr]; rfl, _, rfl⟩) ?_
        rw [hN, hN', lq7_eq]
        exact loop_round hx (fcons f1 (fcons f2 (fcons f3 (fcons f4 (fcons (size 0 0 (by omega)) (fcons rfl fnil))))))
      | sl rs rc =>
        simp only [Recs.list] at hbound hsn
        cases rs with
        | nil =>
          have hx := roundA7e k (rest.length + n + 1) (all.map Seg.fv) cap all.length pre.length frm to bgn fin l a1 a2 a3 a4 [] rc
          rw [hw] at hx
          refine go (stA7 (.slice 5 (all.map Seg.fv) cap) all.length (pre ++ [_]).length frm to bgn fin (addLog 1 (addLog 2 l))) (.inl ⟨by rw [hsn, hr]; rfl, _, rfl⟩) ?_
          rw [hN, hN', lq7_eq]
          exact loop_round hx (fcons f1 (fcons f2 (fcons f3 (fcons f4 (fcons rfl (fcons (size 0 0 (by omega)) (fcons rfl fnil)))))))
        | cons r rs =>
          have hx := roundA7r k (rest.length + n + 1) (all.map Seg.fv) cap all.length pre.length frm to bgn fin l a1 a2 a3 a4 ((r :: rs).map Rcd.fv) rc
          have e1 : ((r :: rs).map Rcd.fv).length = (r :: rs).length := by simp
          rw [hw, List.take_length, e1] at hx
          have b1 : (Nat.beq 11 11 && Nat.ble (r :: rs).length (r :: rs).length) = true := by
            have : Nat.ble (r :: rs).length (r :: rs).length = true := Nat.ble_eq_true_of_le (Nat.le_refl _)
            rw [this]; rfl
          refine go (stB7 (.slice 5 (all.map Seg.fv) cap) all.length (pre ++ [_]).length frm to bgn fin (addLog 1 (addLog 2 l)) 0 (r :: rs).length (flatCells ((r :: rs).map Rcd.fv)) [.f (.int .i64 a1), .f (.int .i64 a2), .f (.int .u64 a3), .f (.int .u64 a4), .f (.slice 11 ((r :: rs).map Rcd.fv) rc)]) (.inr ⟨by rw [hsn, hr]; simp, _, 0, [.f (.int .i64 a1), .f (.int .i64 a2), .f (.int .u64 a3), .f (.int .u64 a4), .f (.slice 11 ((r :: rs).map Rcd.fv) rc)], rfl, by rw [hsn, hr]; rfl⟩) ?_
          rw [hN, hN', lq7_eq]
          exact loop_round (s := stA7 (.slice 5 (all.map Seg.fv) cap) all.length pre.length frm to bgn fin l) hx (fcons f1 (fcons f2 (fcons f3 (fcons f4 (fcons b1 (fcons (size 0 _ (by simpa using hbound)) (fcons rfl fnil)))))))
    · have hbel : belowL 4 (flatCells ((recsOf pre).map Rcd.fv)) = true := belowL_flat 4 _
      have hE : (belowL 4 (flatCells ((recsOf pre).map Rcd.fv)) && (belowL 4 junk && true)) = true := by rw [hbel, hj]; rfl
      cases ar with
      | nil =>
        have hx := roundB7n k (rest.length + n + 1) (all.map Seg.fv) cap all.length pre.length frm to bgn fin l a1 a2 a3 a4 g (recsOf pre).length (flatCells ((recsOf pre).map Rcd.fv)) junk
        rw [hw] at hx
        have hs2 : recsOf (pre ++ [⟨a1, a2, a3, a4, .nil⟩]) = recsOf pre := by rw [hsn]; simp [Recs.list]
        refine go (stB7 (.slice 5 (all.map Seg.fv) cap) all.length (pre ++ [(⟨a1, a2, a3, a4, .nil⟩ : Seg)]).length frm to bgn fin (addLog 1 (addLog 4 l)) g (recsOf pre).length (flatCells ((recsOf pre).map Rcd.fv)) junk) (.inr ⟨by rw [hs2]; exact hr, _, g, junk, hj, by rw [hs2]⟩) ?_
        rw [hN, hN', lq7_eq]
        exact loop_roundB hx hE (fcons f1 (fcons f2 (fcons f3 (fcons f4 (fcons (size _ 0 (by simpa [Recs.list] using hbound)) (fcons rfl fnil))))))
      | sl rs rc =>
        simp only [Recs.list] at hbound hsn
        have b1 : (Nat.beq 11 11 && Nat.ble rs.length rs.length) = true := by
          have : Nat.ble rs.length rs.length = true := Nat.ble_eq_true_of_le (Nat.le_refl _)
          rw [this]; rfl
        have e1 : (rs.map Rcd.fv).length = rs.length := by simp
        cases hrs : rs.isEmpty with
        | true =>
          have hrs' : rs = [] := List.isEmpty_iff.1 hrs
          subst hrs'
          have hx := roundB7e k (rest.length + n + 1) (all.map Seg.fv) cap all.length pre.length frm to bgn fin l a1 a2 a3 a4 g (recsOf pre).length (flatCells ((recsOf pre).map Rcd.fv)) junk [] rc
          rw [hw] at hx
          have hs2 : recsOf (pre ++ [⟨a1, a2, a3, a4, .sl [] rc⟩]) = recsOf pre := by rw [hsn]; simp
          refine go (stB7 (.slice 5 (all.map Seg.fv) cap) all.length (pre ++ [(⟨a1, a2, a3, a4, .sl [] rc⟩ : Seg)]).length frm to bgn fin (addLog 1 (addLog 4 l)) g (recsOf pre).length (flatCells ((recsOf pre).map Rcd.fv)) junk) (.inr ⟨by rw [hs2]; exact hr, _, g, junk, hj, by rw [hs2]⟩) ?_
          rw [hN, hN', lq7_eq]
          exact loop_roundB hx hE (fcons f1 (fcons f2 (fcons f3 (fcons f4 (fcons rfl (fcons (size _ 0 (by simpa using hbound)) (fcons rfl fnil)))))))
        | false =>
          have hpos : 0 < rs.length := by cases rs with | nil => simp at hrs | cons => simp
          have hx := roundB7r k (rest.length + n + 1) (all.map Seg.fv) cap all.length pre.length frm to bgn fin l a1 a2 a3 a4 g (recsOf pre).length (flatCells ((recsOf pre).map Rcd.fv)) junk (rs.map Rcd.fv) rc
          have e2 : ((flatCells ((recsOf pre).map Rcd.fv)).drop 0).take ((recsOf pre).length * 11) = flatCells ((recsOf pre).map Rcd.fv) := by
            rw [List.drop_zero, List.take_of_length_le (by rw [flatCells_len]; exact Nat.le_refl _)]
          have e3 : flatCells ((recsOf pre).map Rcd.fv) ++ flatCells (rs.map Rcd.fv) = flatCells ((recsOf pre ++ rs).map Rcd.fv) := by rw [List.map_append, flatCells_append]
          rw [hw, List.take_length, e1, e2, e3] at hx
          have hE2 : (belowL 4 (flatCells ((recsOf pre ++ rs).map Rcd.fv)) && (belowL 4 junk && true)) = true := by rw [belowL_flat, hj]; rfl
          have q1 : Nat.beq rs.length 0 = false := beq_false (by omega)
          have q2 : (Nat.beq 11 11 && allOne (flatCells (rs.map Rcd.fv))) = true := by rw [allOne_flat]; rfl
          have q3 : (Nat.ble (0 + ((recsOf pre).length + rs.length) * 11) (flatCells ((recsOf pre).map Rcd.fv)).length && true) = false := by
            rw [flatCells_len, Bool.and_true]
            cases hb : Nat.ble (0 + ((recsOf pre).length + rs.length) * 11) ((recsOf pre).length * 11) with
            | false => rfl
            | true => have := Nat.le_of_ble_eq_true hb; omega
          have q4 : Nat.ble (0 + (recsOf pre).length * 11) (flatCells ((recsOf pre).map Rcd.fv)).length = true := Nat.ble_eq_true_of_le (by rw [flatCells_len]; omega)
          refine go (stB7 (.slice 5 (all.map Seg.fv) cap) all.length (pre ++ [(⟨a1, a2, a3, a4, .sl rs rc⟩ : Seg)]).length frm to bgn fin (addLog 1 (addLog 3 (addLog 4 l))) (g + 1) ((recsOf pre).length + rs.length) (flatCells ((recsOf pre ++ rs).map Rcd.fv)) junk) (.inr ⟨by rw [hsn]; exact fun h => hr (List.append_eq_nil_iff.1 h).1, _, g + 1, junk, hj, by rw [hsn]; exact congrArg (fun x => stB7 _ _ _ _ _ _ _ _ _ x _ _) List.length_append.symm⟩) ?_
          rw [hN, hN', lq7_eq]
          exact loop_roundB hx hE2 (fcons f1 (fcons f2 (fcons f3 (fcons f4 (fcons b1 (fcons (size _ _ hbound) (fcons q1 (fcons (Nat.beq_refl g) (fcons q2 (fcons q3 (fcons q4 fnil)))))))))))
end Go.Dee.L
end
section
/- What the functions about segments answer: Join, as a whole. -/
set_option maxRecDepth 100000
namespace Go.Dee.L
def inJ (sv : FV) : St := in1 sv
/- the errors before the first loop -/
theorem joinE0 (k : CallK) (n : Nat) : ∃ r, exec k (n + 40) d7.body (in1 .nilslice) = some r ∧ view7 r = err7 1 :=
  exec_view (av := [.b true]) (fs := [decide ((0 : Int) = 0) = true]) view7 (by kernel_rfl) (fcons (by simp) fnil)
theorem joinE1 (k : CallK) (n : Nat) (es : List FV) (cap : Option Nat) (h : es.length = 0) : ∃ r, exec k (n + 40) d7.body (in1 (.slice 5 es cap)) = some r ∧ view7 r = err7 1 :=
  exec_view (av := [.b true]) (fs := [decide ((es.length : Int) = 0) = true]) view7 (by kernel_rfl) (fcons (by simp [h]) fnil)
theorem joinE2 (k : CallK) (n : Nat) (es : List FV) (cap : Option Nat) (h : 32 < es.length) : ∃ r, exec k (n + 40) d7.body (in1 (.slice 5 es cap)) = some r ∧ view7 r = err7 1 :=
  exec_view (av := [.b false, .b true]) (fs := [decide ((es.length : Int) = 0) = false, decide ((32 : Int) < (es.length : Int)) = true]) view7 (by kernel_rfl) (fcons (by simp; intro h; subst h; simp at *) (fcons (by simp; omega) fnil))
/- behind the first loop -/
theorem fitT (k : CallK) (n n2 : Nat) (sv : FV) (ln i : Int) (l2 : List Nat) : (execG k (n + 20) c7d (out7 k n2 sv ln i l2) [.c (.bool true)]).map (fun r => (isNormal r.1.1, r.2.1, r.2.2)) = some (true, [], [callMode k .full (.f (.func 15 [] [])) [.f (.func 16 [] []), .f sv] ⟨1, [(0, .cells 0 zcells)], l2⟩ = some (.ret (.f (.bool true)), ⟨1, [(0, .cells 0 zcells)], l2⟩)]) := by kernel_rfl
theorem fitF (k : CallK) (n n2 : Nat) (sv : FV) (ln i : Int) (l2 : List Nat) : (execG k (n + 20) c7d (out7 k n2 sv ln i l2) [.c (.bool false)]).map (fun r => ((isNormal r.1.1, view7 r.1), r.2.1, r.2.2)) = some ((false, err7 18), [], [callMode k .full (.f (.func 15 [] [])) [.f (.func 16 [] []), .f sv] ⟨1, [(0, .cells 0 zcells)], l2⟩ = some (.ret (.f (.bool false)), ⟨1, [(0, .cells 0 zcells)], l2⟩)]) := by kernel_rfl
def aft7d (k : CallK) (n n2 : Nat) (sv : FV) (ln i : Int) (l2 : List Nat) : St := stOf (execG k (n + 20) c7d (out7 k n2 sv ln i l2) [.c (.bool true)])
theorem sumT (k : CallK) (n n1 n2 : Nat) (sv : FV) (ln i : Int) (l2 : List Nat) : (execG k (n + 20) c7e (aft7d k n1 n2 sv ln i l2) [.c (.bool true)]).map (fun r => (isNormal r.1.1, r.2.1, r.2.2)) = some (true, [], [callMode k .full (.f (.func 15 [] [])) [.f (.func 17 [] []), .f sv] ⟨1, [(0, .cells 0 zcells)], l2⟩ = some (.ret (.f (.bool true)), ⟨1, [(0, .cells 0 zcells)], l2⟩)]) := by kernel_rfl
theorem sumF (k : CallK) (n n1 n2 : Nat) (sv : FV) (ln i : Int) (l2 : List Nat) : (execG k (n + 20) c7e (aft7d k n1 n2 sv ln i l2) [.c (.bool false)]).map (fun r => ((isNormal r.1.1, view7 r.1), r.2.1, r.2.2)) = some ((false, err7 11), [], [callMode k .full (.f (.func 15 [] [])) [.f (.func 17 [] []), .f sv] ⟨1, [(0, .cells 0 zcells)], l2⟩ = some (.ret (.f (.bool false)), ⟨1, [(0, .cells 0 zcells)], l2⟩)]) := by kernel_rfl
def aft7e (k : CallK) (n n1 n2 : Nat) (sv : FV) (ln i : Int) (l2 : List Nat) : St := stOf (execG k (n + 20) c7e (aft7d k n1 n2 sv ln i l2) [.c (.bool true)])
/- first and last -/
def av7 (a1 a2 a3 a4 b1 b2 b3 b4 : Int) (ar br : FV) : List Ans := [.v (.agg [.int .i64 a1, .int .i64 a2, .int .u64 a3, .int .u64 a4, ar]), .v (.agg [.int .i64 b1, .int .i64 b2, .int .u64 b3, .int .u64 b4, br]), .v (.agg [.int .i64 a1, .int .i64 a2, .int .u64 a3, .int .u64 a4, ar]), .v (.agg [.int .i64 b1, .int .i64 b2, .int .u64 b3, .int .u64 b4, br])]
theorem ends7 (k : CallK) (n n0 n1 n2 : Nat) (es : List FV) (cap : Option Nat) (ln i : Int) (l2 : List Nat) (a1 a2 a3 a4 b1 b2 b3 b4 : Int) (ar br : FV) (har : ar = .nilslice ∨ ∃ rs rc, ar = .slice 11 rs rc) (hbr : br = .nilslice ∨ ∃ rs rc, br = .slice 11 rs rc) :
    (execG k (n + 20) c7f (aft7e k n0 n1 n2 (.slice 5 es cap) ln i l2) (av7 a1 a2 a3 a4 b1 b2 b3 b4 ar br)).map (fun r => (isNormal r.1.1, r.2.1, r.2.2)) =
    some (true, [],
      [decide ((0 : Int) ≤ 0) = true, (Nat.beq 5 5 && Nat.blt (0 : Int).toNat es.length) = true, es[(0 : Int).toNat]? = some (.agg [.int .i64 a1, .int .i64 a2, .int .u64 a3, .int .u64 a4, ar]),
       decide (0 ≤ IntKind.i64.wrap ((es.length : Int) - 1)) = true, (Nat.beq 5 5 && Nat.blt (IntKind.i64.wrap ((es.length : Int) - 1)).toNat es.length) = true, es[(IntKind.i64.wrap ((es.length : Int) - 1)).toNat]? = some (.agg [.int .i64 b1, .int .i64 b2, .int .u64 b3, .int .u64 b4, br]),
       decide ((0 : Int) ≤ 0) = true, (Nat.beq 5 5 && Nat.blt (0 : Int).toNat es.length) = true, es[(0 : Int).toNat]? = some (.agg [.int .i64 a1, .int .i64 a2, .int .u64 a3, .int .u64 a4, ar]),
       decide (0 ≤ IntKind.i64.wrap ((es.length : Int) - 1)) = true, (Nat.beq 5 5 && Nat.blt (IntKind.i64.wrap ((es.length : Int) - 1)).toNat es.length) = true, es[(IntKind.i64.wrap ((es.length : Int) - 1)).toNat]? = some (.agg [.int .i64 b1, .int .i64 b2, .int .u64 b3, .int .u64 b4, br])]) := by
  rcases har with rfl | ⟨rs, rc, rfl⟩ <;> rcases hbr with rfl | ⟨rs', rc', rfl⟩ <;> kernel_rfl
theorem ends7g (k : CallK) (n n' n0 n1 n2 : Nat) (es : List FV) (cap : Option Nat) (ln i : Int) (l2 : List Nat) (a1 a2 a3 a4 b1 b2 b3 b4 : Int) (ar br : FV) (har : ar = .nilslice ∨ ∃ rs rc, ar = .slice 11 rs rc) (hbr : br = .nilslice ∨ ∃ rs rc, br = .slice 11 rs rc) :
    (execG k (n' + 20) c7g (stOf (execG k (n + 20) c7f (aft7e k n0 n1 n2 (.slice 5 es cap) ln i l2) (av7 a1 a2 a3 a4 b1 b2 b3 b4 ar br))) []).map (fun r => ((isNormal r.1.1, r.1.2.trim lw7), r.2.1, r.2.2)) = some ((true, stA7 (.slice 5 es cap) es.length 0 a1 b2 a3 b4 (addLog 1 l2)), [], []) := by
  rcases har with rfl | ⟨rs, rc, rfl⟩ <;> rcases hbr with rfl | ⟨rs', rc', rfl⟩ <;> kernel_rfl
/- the end -/
def outq (k : CallK) (n : Nat) (st : St) : St := stOf (execG k (n + 20) be7 (st.trim lw7) [.b false])
theorem endA (k : CallK) (n n2 : Nat) (sv : FV) (ln i frm to bgn fin : Int) (l : List Nat) : (execG k (n + 20) c7h (outq k n2 (stA7 sv ln i frm to bgn fin l)) [.b false]).map (fun r => (view7 r.1, r.2.1, r.2.2)) =
    some ((true, some [.f (.agg [.int .i64 frm, .int .i64 to, .int .u64 bgn, .int .u64 fin, .nilslice]), .f (.int .i64 0)], true, true), [], [decide ((5000 : Int) < 0) = false]) := by kernel_rfl
theorem endB (k : CallK) (n n2 : Nat) (sv : FV) (ln i frm to bgn fin : Int) (l : List Nat) (g m : Nat) (cs junk : List DV) : (execG k (n + 20) c7h (outq k n2 (stB7 sv ln i frm to bgn fin l g m cs junk)) [.b false]).map (fun r => ((view7 r.1, r.1.2.hp.get 3), r.2.1, r.2.2)) =
    some (((true, some [.agg (outCells frm to bgn fin (.slice true 11 3 g 0 m none)), .f (.int .i64 0)], true, true), some (.cells g cs)), [], [decide ((5000 : Int) < (m : Int)) = false]) := by kernel_rfl
theorem endL (k : CallK) (n n2 : Nat) (sv : FV) (ln i frm to bgn fin : Int) (l : List Nat) (g m : Nat) (cs junk : List DV) : (execG k (n + 20) c7h (outq k n2 (stB7 sv ln i frm to bgn fin l g m cs junk)) [.b true]).map (fun r => (view7 r.1, r.2.1, r.2.2)) =
    some (err7 2, [], [decide ((5000 : Int) < (m : Int)) = true]) := by kernel_rfl
end Go.Dee.L
end
section
/- What the functions about segments answer: Join is known. -/
set_option maxRecDepth 100000
namespace Go.Dee.L
inductive JR where
  | err (c : Int)
  | ok (s : Seg)
def outRecs (l : List Rcd) : Recs := if l = [] then .nil else .sl l none
def joinR (l : List Seg) : JR :=
  if l.length = 0 ∨ 32 < l.length then .err 1 else if l.all isSeg = false then .err 1 else if allB fitTo l = false then .err 18 else if allB fitSum l = false then .err 11 else
  if 5000 < (recsOf l).length then .err 2 else match l.head?, l.getLast? with
    | some a, some b => .ok ⟨a.frm, b.to, a.bgn, b.fin, outRecs (recsOf l)⟩
    | _, _ => .err 1
def JR.fv : JR → FV
  | .err c => .tuple [zseg, .int .i64 c]
  | .ok s => .tuple [s.fv, .int .i64 0]
theorem freezeW_flat (n : Nat) (h : Heap) : ∀ (es : List FV), freezeW (freeze (n + 1) h) (flatCells es) = some (es.flatMap FV.cells)
  | [] => rfl
  | e :: es => by
    have one : ∀ (l : List FV) (t : List DV) (r : List FV), freezeW (freeze (n + 1) h) t = some r → freezeW (freeze (n + 1) h) (l.map .f ++ t) = some (l ++ r) := by
      intro l t r ht
      induction l with
      | nil => exact ht
      | cons v l ih =>
        have hf : freeze (n + 1) h (.f v) = some v := rfl
        simp only [List.map_cons, List.cons_append, freezeW, hf, Option.bind_some, ih]
    simp only [flatCells, List.flatMap_cons]
    exact one e.cells _ _ (freezeW_flat n h es)
theorem chunk_flat : ∀ (rs : List Rcd), chunk 11 true rs.length ((rs.map Rcd.fv).flatMap FV.cells) = some (rs.map Rcd.fv)
  | [] => rfl
  | r :: rs => by
    simp only [List.map_cons, List.flatMap_cons, List.length_cons, chunk, cond_true]
    have h1 : r.fv.cells.length = 11 := by simp [Rcd.fv, FV.cells]
    have h2 : part (r.fv.cells ++ (rs.map Rcd.fv).flatMap FV.cells) 0 11 = some r.fv.cells := by
      unfold part
      have : Nat.ble (0 + 11) (r.fv.cells ++ (rs.map Rcd.fv).flatMap FV.cells).length = true := Nat.ble_eq_true_of_le (by simp [h1])
      rw [this]
      simp only [chk, cond_true, List.drop_zero, Option.some.injEq]
      rw [List.take_append_of_le_length (by omega), List.take_of_length_le (by omega)]
    have h3 : (r.fv.cells ++ (rs.map Rcd.fv).flatMap FV.cells).drop 11 = (rs.map Rcd.fv).flatMap FV.cells := by
      rw [List.drop_append_of_le_length (by omega), List.drop_eq_nil_of_le (by omega), List.nil_append]
    rw [h2, h3, chunk_flat rs]
    rfl
theorem freeze_join (h : Heap) (frm to bgn fin : Int) (g : Nat) (rs : List Rcd) (hh : h.get 3 = some (.cells g (flatCells (rs.map Rcd.fv)))) :
    freeze freezeDepth h (resVal [.agg (outCells frm to bgn fin (.slice true 11 3 g 0 rs.length none)), .f (.int .i64 0)]) = some (.tuple [.agg [.int .i64 frm, .int .i64 to, .int .u64 bgn, .int .u64 fin, .slice 11 (rs.map Rcd.fv) none], .int .i64 0]) := by
  have hs : ∀ n, freeze (n + 2) h (.slice true 11 3 g 0 rs.length none) = some (.slice 11 (rs.map Rcd.fv) none) := by
    intro n
    have hp : part (flatCells (rs.map Rcd.fv)) 0 (rs.length * 11) = some (flatCells (rs.map Rcd.fv)) := by
      unfold part
      have : Nat.ble (0 + rs.length * 11) (flatCells (rs.map Rcd.fv)).length = true := Nat.ble_eq_true_of_le (by rw [flatCells_len]; omega)
      rw [this]
      simp only [chk, cond_true, List.drop_zero, Option.some.injEq]
      exact List.take_of_length_le (by rw [flatCells_len]; exact Nat.le_refl _)
    have hc : h.cells 3 g = some (flatCells (rs.map Rcd.fv)) := by unfold Heap.cells; rw [hh]; simp [Nat.beq_refl, chk]
    show (h.cells 3 g).bind _ = _
    rw [hc]
    simp only [Option.bind_some, hp, freezeW_flat, chunk_flat]
  show freeze (3996 + 4) h (.tuple [.agg (outCells frm to bgn fin (.slice true 11 3 g 0 rs.length none)), .f (.int .i64 0)]) = _
  have e : freeze (3996 + 2) h (.slice true 11 3 g 0 rs.length none) = some (.slice 11 (rs.map Rcd.fv) none) := hs 3996
  generalize 3996 = n at e
  simp only [freeze, freezeW, outCells, Option.bind_some] at e ⊢
  simp only [e, Option.bind_some]
theorem recs_bound : ∀ (l : List Seg), l.all isSeg = true → (recsOf l).length ≤ 5000 * l.length
  | [], _ => by simp [recsOf]
  | a :: l, h => by
    simp only [List.all_cons, Bool.and_eq_true] at h
    have ih := recs_bound l h.2
    have ha : a.recs.list.length ≤ 5000 := by
      have := h.1
      simp only [isSeg, segHead, Bool.and_eq_true, Bool.not_eq_true', Bool.or_eq_false_iff, decide_eq_false_iff_not] at this
      have := this.1.2.2.2
      omega
    have : recsOf (a :: l) = a.recs.list ++ recsOf l := by simp [recsOf]
    rw [this]; simp; omega
def Good (r : Out × St) (v : FV) : Prop := ∃ vs, view7 r = (true, some vs, true, true) ∧ freeze freezeDepth r.2.hp (resVal vs) = some v
theorem good_err {r : Out × St} {c : Int} (h : view7 r = err7 c) : Good r (JR.err c).fv := ⟨_, h, rfl⟩
theorem join_known_of (s : Segs) {K n : Nat} {prim : Prim} (hp : prim 7 [s.fv] = none) (hok : PrimOk cx prim) (hK : n = K) (h : ∃ r, exec (callP env prim n) K d7.body (in1 s.fv) = some r ∧ Good r (joinR s.list).fv) : Known cx 7 [s.fv] (joinR s.list).fv := by
  subst hK
  obtain ⟨r, h1, vs, h2, h3⟩ := h
  obtain ⟨o, st⟩ := r
  simp only [view7, Prod.mk.injEq, List.isEmpty_iff] at h2
  obtain ⟨v1, v2, v3, v4⟩ := h2
  have ho : o = .ret := by cases o <;> simp [isRet] at v1 ⊢
  have hr : st.rc = .off := by cases e : st.rc <;> rw [e] at v4 <;> simp [isOff] at v4 ⊢
  exact known_of fol envOk hok (val_ret (callP_body0 (df := d7) hp (by kernel_rfl) (by kernel_rfl) h1 (.inl ho) v3 hr v2) h3)
theorem view7_ret {r : Out × St} {vs : List DV} (h : view7 r = (true, some vs, true, true)) : r.1 = .ret := by
  simp only [view7, Prod.mk.injEq] at h
  cases e : r.1 <;> rw [e] at h <;> simp [isRet] at h ⊢
theorem thenS_ret {r : Out × St} (h : r.1 = .ret) (f : St → Option (Out × St)) : thenS (some r) f = some r := by
  obtain ⟨o, s⟩ := r
  simp only at h; subst h; rfl
theorem join_run (m n : Nat) (s : Segs) (hn : s.list.length + 80 ≤ n) (hn2 : 200 ≤ n) : ∃ r, exec (callP env pJoin (m + 1)) n d7.body (in1 s.fv) = some r ∧ Good r (joinR s.list).fv := by
  obtain ⟨n, rfl⟩ : ∃ n', n = n' + 40 := ⟨n - 40, by omega⟩
  cases s with
  | nil =>
    obtain ⟨r, h1, h2⟩ := joinE0 (callP env pJoin (m + 1)) n
    exact ⟨r, h1, good_err h2⟩
  | sl l cap =>
    simp only [Segs.list, Segs.fv] at hn ⊢
    by_cases h0 : l.length = 0 ∨ 32 < l.length
    · have hj : joinR l = .err 1 := by unfold joinR; rw [if_pos h0]
      rw [hj]
      rcases h0 with h0 | h0
      · obtain ⟨r, h1, h2⟩ := joinE1 (callP env pJoin (m + 1)) n (l.map Seg.fv) cap (by simpa using h0)
        exact ⟨r, h1, good_err h2⟩
      · obtain ⟨r, h1, h2⟩ := joinE2 (callP env pJoin (m + 1)) n (l.map Seg.fv) cap (by simpa using h0)
        exact ⟨r, h1, good_err h2⟩
    · simp only [not_or] at h0
      obtain ⟨h01, h02⟩ := h0
      have hlen : (l.map Seg.fv).length = l.length := by simp
      rw [body7]
      rw [seq_run (k := callP env pJoin (m + 1)) (n := n + 39) (av := []) (fs := []) (by kernel_rfl) fnil]
      rw [seq_run (k := callP env pJoin (m + 1)) (n := n + 38) (av := [.b false, .b false]) (fs := [decide (((l.map Seg.fv).length : Int) = 0) = false, decide ((32 : Int) < ((l.map Seg.fv).length : Int)) = false]) (by kernel_rfl) (fcons (by rw [hlen]; exact decide_eq_false (by omega)) (fcons (by rw [hlen]; exact decide_eq_false (by omega)) fnil))]
      rw [seq_then, seq_run (k := callP env pJoin (m + 1)) (n := n + 36) (av := []) (fs := []) (by kernel_rfl) fnil]
      generalize hY : stOf _ = sY
      have hY2 : sY.trim lv7 = st7 (.slice 5 (l.map Seg.fv) cap) l.length 0 [] := by
        rw [← hlen]; subst hY; kernel_rfl
      obtain ⟨hl1, hl2⟩ := loop7 m l cap (by omega) l [] (n + 35 - l.length - 21) [] rfl
      have e : l.length + (n + 35 - l.length - 21) + 21 = n + 35 := by omega
      rw [e] at hl1 hl2
      have ht : exec (callP env pJoin (m + 1)) (n + 35) lp7 sY = exec (callP env pJoin (m + 1)) (n + 35) lp7 (st7 (.slice 5 (l.map Seg.fv) cap) l.length 0 []) := by rw [lp7_eq, exec_loop_trim, hY2]
      cases hall : l.all isSeg with
      | false =>
        have hj : joinR l = .err 1 := by simp [joinR, h01, h02, hall]
        rw [hj]
        obtain ⟨r, h1, h2⟩ := hl2 hall
        have hr := view7_ret h2
        obtain ⟨o, s1⟩ := r
        simp only at hr; subst hr
        rw [block_ret (ht.trans h1)]
        exact ⟨_, rfl, good_err h2⟩
      | true =>
        obtain ⟨n2, l2, h1⟩ := hl1 hall
        rw [block_exit (ht.trans h1)]
        simp only [thenS]
        have c1 := call_prim (env := env) (n := m) (m := .full) (h := ⟨1, [(0, .cells 0 zcells)], l2⟩) (pJoin_to (.sl l cap) (by simp only [Segs.list]; omega))
        simp only [Segs.list, Segs.fv, List.cons_append, List.nil_append, List.map_cons, List.map_nil] at c1
        have c2 := call_prim (env := env) (n := m) (m := .full) (h := ⟨1, [(0, .cells 0 zcells)], l2⟩) (pJoin_sum (.sl l cap) (by simp only [Segs.list]; omega))
        simp only [Segs.list, Segs.fv, List.cons_append, List.nil_append, List.map_cons, List.map_nil] at c2
        cases hto : allB fitTo l with
        | false =>
          have hj : joinR l = .err 18 := by simp [joinR, h01, h02, hall, hto]
          rw [hj]; rw [hto] at c1
          obtain ⟨r, g1, g2⟩ := exec_view (fun r => (isNormal r.1, view7 r)) (fitF (callP env pJoin (m + 1)) (n + 16) n2 (.slice 5 (l.map Seg.fv) cap) l.length l.length l2) (fcons c1 fnil)
          simp only [Prod.mk.injEq] at g2
          rw [seq_out (n := n + 36) g1 g2.1]
          exact ⟨_, rfl, good_err g2.2⟩
        | true =>
          rw [hto] at c1
          rw [seq_run (n := n + 36) (fitT (callP env pJoin (m + 1)) (n + 16) n2 (.slice 5 (l.map Seg.fv) cap) l.length l.length l2) (fcons c1 fnil)]
          cases hsum : allB fitSum l with
          | false =>
            have hj : joinR l = .err 11 := by simp [joinR, h01, h02, hall, hto, hsum]
            rw [hj]; rw [hsum] at c2
            obtain ⟨r, g1, g2⟩ := exec_view (fun r => (isNormal r.1, view7 r)) (sumF (callP env pJoin (m + 1)) (n + 15) (n + 16) n2 (.slice 5 (l.map Seg.fv) cap) l.length l.length l2) (fcons c2 fnil)
            simp only [Prod.mk.injEq] at g2
            have := seq_out (n := n + 35) (b := .seq c7f (.seq (.seq c7g (.block 2 lq7)) c7h)) g1 g2.1
            exact ⟨_, this, good_err g2.2⟩
          | true =>
            rw [hsum] at c2
            change ∃ r, exec (callP env pJoin (m + 1)) (n + 35 + 1) (.seq c7e (.seq c7f (.seq (.seq c7g (.block 2 lq7)) c7h))) (aft7d (callP env pJoin (m + 1)) (n + 16) n2 (.slice 5 (l.map Seg.fv) cap) l.length l.length l2) = some r ∧ _
            rw [seq_run (n := n + 35) (b := .seq c7f (.seq (.seq c7g (.block 2 lq7)) c7h)) (sumT (callP env pJoin (m + 1)) (n + 15) (n + 16) n2 (.slice 5 (l.map Seg.fv) cap) l.length l.length l2) (fcons c2 fnil)]
            change ∃ r, exec (callP env pJoin (m + 1)) (n + 34 + 1) (.seq c7f (.seq (.seq c7g (.block 2 lq7)) c7h)) (aft7e (callP env pJoin (m + 1)) (n + 15) (n + 16) n2 (.slice 5 (l.map Seg.fv) cap) l.length l.length l2) = some r ∧ _
            -- first and last
            obtain ⟨a, ha⟩ : ∃ a, l.head? = some a := by cases l with | nil => simp at h01 | cons a l => exact ⟨a, rfl⟩
            obtain ⟨b, hb⟩ : ∃ b, l.getLast? = some b := by
              cases l with
              | nil => simp at h01
              | cons a l => exact ⟨_, List.getLast?_eq_some_getLast (by simp)⟩
            have ha0 : (l.map Seg.fv)[(0 : Int).toNat]? = some a.fv := by
              rw [List.head?_eq_getElem?] at ha; simp [ha]
            have hw : IntKind.i64.wrap (((l.map Seg.fv).length : Int) - 1) = ((l.length - 1 : Nat) : Int) := by rw [hlen, wrap_i64 (by omega) (by omega)]; omega
            have hb0 : (l.map Seg.fv)[(IntKind.i64.wrap (((l.map Seg.fv).length : Int) - 1)).toNat]? = some b.fv := by
              rw [hw, Int.toNat_natCast]
              rw [List.getLast?_eq_getElem?] at hb; simp [hb]
            have q1 : decide ((0 : Int) ≤ 0) = true := by decide
            have q2 : (Nat.beq 5 5 && Nat.blt (0 : Int).toNat (l.map Seg.fv).length) = true := by
              have : Nat.blt (0 : Int).toNat (l.map Seg.fv).length = true := Nat.ble_eq_true_of_le (by rw [hlen]; show 1 ≤ _; omega)
              rw [this]; rfl
            have q3 : decide (0 ≤ IntKind.i64.wrap (((l.map Seg.fv).length : Int) - 1)) = true := by rw [hw]; exact decide_eq_true (by omega)
            have q4 : (Nat.beq 5 5 && Nat.blt (IntKind.i64.wrap (((l.map Seg.fv).length : Int) - 1)).toNat (l.map Seg.fv).length) = true := by
              have : Nat.blt (IntKind.i64.wrap (((l.map Seg.fv).length : Int) - 1)).toNat (l.map Seg.fv).length = true := Nat.ble_eq_true_of_le (by rw [hw, Int.toNat_natCast, hlen]; omega)
              rw [this]; rfl
            have hav : a.recs.fv = .nilslice ∨ ∃ rs rc, a.recs.fv = .slice 11 rs rc := by cases a.recs with | nil => exact .inl rfl | sl rs c => exact .inr ⟨_, _, rfl⟩
            have hbv : b.recs.fv = .nilslice ∨ ∃ rs rc, b.recs.fv = .slice 11 rs rc := by cases b.recs with | nil => exact .inl rfl | sl rs c => exact .inr ⟨_, _, rfl⟩
            rw [seq_run (n := n + 34) (b := .seq (.seq c7g (.block 2 lq7)) c7h) (ends7 (callP env pJoin (m + 1)) (n + 14) (n + 15) (n + 16) n2 (l.map Seg.fv) cap l.length l.length l2 a.frm a.to a.bgn a.fin b.frm b.to b.bgn b.fin a.recs.fv b.recs.fv hav hbv)
              (fcons q1 (fcons q2 (fcons ha0 (fcons q3 (fcons q4 (fcons hb0 (fcons q1 (fcons q2 (fcons ha0 (fcons q3 (fcons q4 (fcons hb0 fnil))))))))))))]
            have hg := exec_view (fun r => (isNormal r.1, r.2.trim lw7)) (ends7g (callP env pJoin (m + 1)) (n + 14) (n + 12) (n + 15) (n + 16) n2 (l.map Seg.fv) cap l.length l.length l2 a.frm a.to a.bgn a.fin b.frm b.to b.bgn b.fin a.recs.fv b.recs.fv hav hbv) fnil
            obtain ⟨⟨o, sZ⟩, z1, z2⟩ := hg
            simp only [Prod.mk.injEq] at z2
            obtain ⟨z2, z3⟩ := z2
            have ho : o = .normal := by cases o <;> simp [isNormal] at z2 ⊢
            subst ho
            rw [seq_then, seq_normal (n := n + 32) z1]
            have hb5 : (recsOf l).length ≤ 5000 * l.length := recs_bound l hall
            obtain ⟨st', n3, hst, hex⟩ := loopq7 (callP env pJoin (m + 1)) a.frm b.to a.bgn b.fin l cap (by omega) (by omega) l [] (n + 31 - l.length - 21) (stA7 (.slice 5 (l.map Seg.fv) cap) l.length 0 a.frm b.to a.bgn b.fin (addLog 1 l2)) rfl (.inl ⟨rfl, _, rfl⟩)
            have e2 : l.length + (n + 31 - l.length - 21) + 21 = n + 31 := by omega
            rw [e2] at hex
            have htq : exec (callP env pJoin (m + 1)) (n + 31) lq7 sZ = some (.exit 2, outq (callP env pJoin (m + 1)) n3 st') := by
              have z3' : sZ.trim lw7 = stA7 (.slice 5 (l.map Seg.fv) cap) l.length 0 a.frm b.to a.bgn b.fin (addLog 1 l2) := by rw [z3, hlen]
              rw [lq7_eq, exec_loop_trim, z3', ← lq7_eq]; exact hex
            rw [block_exit htq]
            simp only [thenS]
            rcases hst with ⟨hr, l3, rfl⟩ | ⟨hr, l3, g, junk, _, rfl⟩
            · have hj : joinR l = .ok ⟨a.frm, b.to, a.bgn, b.fin, .nil⟩ := by simp [joinR, h01, h02, hall, hto, hsum, hr, ha, hb, outRecs]
              rw [hj]
              obtain ⟨r, g1, g2⟩ := exec_view view7 (endA (callP env pJoin (m + 1)) (n + 13) n3 (.slice 5 (l.map Seg.fv) cap) l.length l.length a.frm b.to a.bgn b.fin l3) (fcons (by decide) fnil)
              exact ⟨r, g1, _, g2, rfl⟩
            · by_cases h5 : 5000 < (recsOf l).length
              · have hj : joinR l = .err 2 := by simp [joinR, h01, h02, hall, hto, hsum, h5]
                rw [hj]
                obtain ⟨r, g1, g2⟩ := exec_view view7 (endL (callP env pJoin (m + 1)) (n + 13) n3 (.slice 5 (l.map Seg.fv) cap) l.length l.length a.frm b.to a.bgn b.fin l3 g (recsOf l).length (flatCells ((recsOf l).map Rcd.fv)) junk) (fcons (decide_eq_true (by omega)) fnil)
                exact ⟨r, g1, good_err g2⟩
              · have hj : joinR l = .ok ⟨a.frm, b.to, a.bgn, b.fin, .sl (recsOf l) none⟩ := by simp [joinR, h01, h02, hall, hto, hsum, hr, h5, ha, hb, outRecs]
                rw [hj]
                obtain ⟨r, g1, g2⟩ := exec_view (fun r => (view7 r, r.2.hp.get 3)) (endB (callP env pJoin (m + 1)) (n + 13) n3 (.slice 5 (l.map Seg.fv) cap) l.length l.length a.frm b.to a.bgn b.fin l3 g (recsOf l).length (flatCells ((recsOf l).map Rcd.fv)) junk) (fcons (decide_eq_false (by omega)) fnil)
                simp only [Prod.mk.injEq] at g2
                exact ⟨r, g1, _, g2.1, freeze_join _ _ _ _ _ _ _ g2.2⟩
theorem join_known (s : Segs) : Known cx 7 [s.fv] (joinR s.list).fv := by
  refine join_known_of s (K := s.list.length + 300) (n := s.list.length + 299 + 1) ?_ pJoin_ok rfl (join_run (s.list.length + 299) (s.list.length + 300) s (by omega) (by omega))
  unfold pJoin orPrim
  rw [rule1_other (by decide), ruleL_other _ (.inl (by decide)), ruleL_other _ (.inl (by decide))]
end Go.Dee.L
end
section
/- What the functions about segments answer: equality. -/
set_option maxRecDepth 100000
namespace Go.Dee.L
def tyR : ETy := .parts [(0,1,.int),(1,1,.int),(2,1,.int),(3,8,(.parts [(0,1,.int),(1,1,.int),(2,1,.int),(3,1,.int),(4,1,.int),(5,1,.int),(6,1,.bool),(7,1,.bool)]))]
theorem rcd_eqF (a b : Rcd) : eqF tyR a.fv b.fv = some (decide (a = b)) := by
  obtain ⟨a1, a2, a3, a4, a5, a6, a7, a8, a9, a10, a11⟩ := a
  obtain ⟨b1, b2, b3, b4, b5, b6, b7, b8, b9, b10, b11⟩ := b
  have e : eqF tyR (Rcd.fv ⟨a1, a2, a3, a4, a5, a6, a7, a8, a9, a10, a11⟩) (Rcd.fv ⟨b1, b2, b3, b4, b5, b6, b7, b8, b9, b10, b11⟩) =
      bif decide (a1 = b1) then bif decide (a2 = b2) then bif decide (a3 = b3) then ((bif decide (a4 = b4) then bif decide (a5 = b5) then bif decide (a6 = b6) then bif decide (a7 = b7) then bif decide (a8 = b8) then bif decide (a9 = b9) then bif (a10 == b10) then bif (a11 == b11) then some true else some false else some false else some false else some false else some false else some false else some false else some false : Option Bool).bind fun r => bif r then some true else some false) else some false else some false else some false := by kernel_rfl
  rw [e]
  by_cases h1 : a1 = b1 <;> by_cases h2 : a2 = b2 <;> by_cases h3 : a3 = b3 <;> simp only [h1, h2, h3, decide_true, decide_false, cond_true, cond_false, Rcd.mk.injEq, false_and, and_false, true_and]
  by_cases h4 : a4 = b4 <;> by_cases h5 : a5 = b5 <;> by_cases h6 : a6 = b6 <;> simp only [h4, h5, h6, decide_true, decide_false, cond_true, cond_false, false_and, and_false, true_and, Option.bind_some]
  by_cases h7 : a7 = b7 <;> by_cases h8 : a8 = b8 <;> by_cases h9 : a9 = b9 <;> simp only [h7, h8, h9, decide_true, decide_false, cond_true, cond_false, false_and, and_false, true_and, Option.bind_some]
  cases a10 <;> cases b10 <;> cases a11 <;> cases b11 <;> rfl
def lp18 : DCode := match d18.body with
  | .seq _ (.seq _ (.seq (.seq _ (.block _ l)) _)) => l
  | _ => .skip
def lv18 : List Pos := match lp18 with | .loop live _ => live | _ => []
def bd18 : DCode := match lp18 with | .loop _ b => b | _ => .skip
theorem lp18_eq : lp18 = .loop lv18 bd18 := by kernel_rfl
def c18a : DCode := match d18.body with | .seq a _ => a | _ => .skip
def c18b : DCode := match d18.body with | .seq _ (.seq b _) => b | _ => .skip
def c18c : DCode := match d18.body with | .seq _ (.seq _ (.seq (.seq c _) _)) => c | _ => .skip
def c18d : DCode := match d18.body with | .seq _ (.seq _ (.seq _ d)) => d | _ => .skip
theorem body18 : d18.body = .seq c18a (.seq c18b (.seq (.seq c18c (.block 0 lp18)) c18d)) := by kernel_rfl
def st18 (a b : FV) (i : Int) : St := ⟨mkTm [(p1, .f a), (p2, .f b), (p5, .f (.bool false)), (p6, .f (.int .i64 i))], [], .off, ⟨0, [], []⟩⟩
section
variable (k : CallK) (n : Nat) (ea eb : List FV) (ca cb : Option Nat) (i : Int) (x y : FV)
def facts18 (r : Bool) : List Prop := [decide (i < (ea.length : Int)) = true, decide (0 ≤ i) = true, (Nat.beq 11 11 && Nat.blt i.toNat ea.length) = true, ea[i.toNat]? = some x, decide (0 ≤ i) = true, (Nat.beq 11 11 && Nat.blt i.toNat eb.length) = true, eb[i.toNat]? = some y, eqF tyR x y = some r]
theorem round18 (a1 a2 a3 a4 a5 a6 a7 a8 a9 : Int) (a10 a11 : Bool) (b1 b2 b3 b4 b5 b6 b7 b8 b9 : Int) (b10 b11 : Bool) : (execG k (n + 20) bd18 ((st18 (.slice 11 ea ca) (.slice 11 eb cb) i).trim lv18) [.b true, .v (Rcd.fv ⟨a1, a2, a3, a4, a5, a6, a7, a8, a9, a10, a11⟩), .v (Rcd.fv ⟨b1, b2, b3, b4, b5, b6, b7, b8, b9, b10, b11⟩), .b true]).map (fun r => (roundView 0 lv18 r.1, r.2.1, r.2.2)) =
    some ((true, st18 (.slice 11 ea ca) (.slice 11 eb cb) (IntKind.i64.wrap (i + 1))), [], facts18 ea eb i (Rcd.fv ⟨a1, a2, a3, a4, a5, a6, a7, a8, a9, a10, a11⟩) (Rcd.fv ⟨b1, b2, b3, b4, b5, b6, b7, b8, b9, b10, b11⟩) true) := by kernel_rfl
theorem fail18 (a1 a2 a3 a4 a5 a6 a7 a8 a9 : Int) (a10 a11 : Bool) (b1 b2 b3 b4 b5 b6 b7 b8 b9 : Int) (b10 b11 : Bool) : (execG k (n + 20) bd18 ((st18 (.slice 11 ea ca) (.slice 11 eb cb) i).trim lv18) [.b true, .v (Rcd.fv ⟨a1, a2, a3, a4, a5, a6, a7, a8, a9, a10, a11⟩), .v (Rcd.fv ⟨b1, b2, b3, b4, b5, b6, b7, b8, b9, b10, b11⟩), .b false]).map (fun r => ((isNormal r.1.1, viewR p5 r.1), r.2.1, r.2.2)) =
    some ((false, true, some (.f (.bool false)), true, true), [], facts18 ea eb i (Rcd.fv ⟨a1, a2, a3, a4, a5, a6, a7, a8, a9, a10, a11⟩) (Rcd.fv ⟨b1, b2, b3, b4, b5, b6, b7, b8, b9, b10, b11⟩) false) := by kernel_rfl
end
def out18 (k : CallK) (n : Nat) (a b : FV) (i : Int) : St := stOf (execG k (n + 20) bd18 ((st18 a b i).trim lv18) [.b false])
theorem exit18 (k : CallK) (n : Nat) (ea eb : List FV) (ca cb : Option Nat) (i : Int) : (execG k (n + 20) bd18 ((st18 (.slice 11 ea ca) (.slice 11 eb cb) i).trim lv18) [.b false]).map (fun x => ((isNormal x.1.1, x.1), x.2.1, x.2.2)) = some ((false, (.exit 0, out18 k n (.slice 11 ea ca) (.slice 11 eb cb) i)), [], [decide (i < (ea.length : Int)) = false]) := by kernel_rfl
theorem loop18 (k : CallK) (A B : List Rcd) (ca cb : Option Nat) (hA : A.length ≤ 1000000) (hAB : A.length = B.length) : ∀ (ra rb pa pb : List Rcd) (n : Nat), A = pa ++ ra → B = pb ++ rb → pa.length = pb.length → ra.length = rb.length →
    (ra = rb → ∃ n2, exec k (ra.length + n + 21) lp18 (st18 (.slice 11 (A.map Rcd.fv) ca) (.slice 11 (B.map Rcd.fv) cb) pa.length) = some (.exit 0, out18 k n2 (.slice 11 (A.map Rcd.fv) ca) (.slice 11 (B.map Rcd.fv) cb) A.length)) ∧
    (ra ≠ rb → ∃ r, exec k (ra.length + n + 21) lp18 (st18 (.slice 11 (A.map Rcd.fv) ca) (.slice 11 (B.map Rcd.fv) cb) pa.length) = some r ∧ viewR p5 r = (true, some (.f (.bool false)), true, true))
  | [], [], pa, pb, n, hpa, hpb, hl, hr => by
    refine ⟨fun _ => ⟨n, ?_⟩, fun h => absurd rfl h⟩
    have hlen : A.length = pa.length := by rw [hpa]; simp
    have hx := exit18 k n (A.map Rcd.fv) (B.map Rcd.fv) ca cb pa.length
    rw [lp18_eq]
    obtain ⟨r, h1, h2⟩ := loop_out (fun x => x) hx (fcons (decide_eq_false (by rw [List.length_map]; omega)) fnil)
    simp only [List.length_nil, Nat.zero_add]
    rw [h1, h2, hlen]
  | a :: ra, b :: rb, pa, pb, n, hpa, hpb, hl, hr => by
    have hlen : pa.length + ra.length + 1 = A.length := by rw [hpa]; simp; omega
    have hw : IntKind.i64.wrap ((pa.length : Int) + 1) = ((pa ++ [a]).length : Nat) := by rw [wrap_i64 (by omega) (by omega)]; simp
    have f1 : decide ((pa.length : Int) < ((A.map Rcd.fv).length : Int)) = true := decide_eq_true (by rw [List.length_map]; omega)
    have f2 : decide (0 ≤ (pa.length : Int)) = true := decide_eq_true (by omega)
    have f3 : (Nat.beq 11 11 && Nat.blt (pa.length : Int).toNat (A.map Rcd.fv).length) = true := by
      have : Nat.blt (pa.length : Int).toNat (A.map Rcd.fv).length = true := Nat.ble_eq_true_of_le (by rw [List.length_map, Int.toNat_natCast]; omega)
      rw [this]; rfl
    have f4 : (A.map Rcd.fv)[(pa.length : Int).toNat]? = some a.fv := by rw [hpa]; simp
    have f5 : (Nat.beq 11 11 && Nat.blt (pa.length : Int).toNat (B.map Rcd.fv).length) = true := by
      have : Nat.blt (pa.length : Int).toNat (B.map Rcd.fv).length = true := Nat.ble_eq_true_of_le (by rw [List.length_map, Int.toNat_natCast]; omega)
      rw [this]; rfl
    have f6 : (B.map Rcd.fv)[(pa.length : Int).toNat]? = some b.fv := by rw [hpb, hl]; simp
    have f7 := rcd_eqF a b
    rw [lp18_eq, show (a :: ra).length + n + 21 = (ra.length + n + 1 + 20) + 1 by simp only [List.length_cons]; omega]
    by_cases hab : a = b
    · rw [decide_eq_true hab] at f7
      have hx := round18 k (ra.length + n + 1) (A.map Rcd.fv) (B.map Rcd.fv) ca cb pa.length a.at' a.kind a.a a.flow a.sub a.number a.data a.size a.sent a.able a.marked b.at' b.kind b.a b.flow b.sub b.number b.data b.size b.sent b.able b.marked
      rw [hw] at hx
      have hstep := loop_round (s := st18 (.slice 11 (A.map Rcd.fv) ca) (.slice 11 (B.map Rcd.fv) cb) pa.length) hx (fcons f1 (fcons f2 (fcons f3 (fcons f4 (fcons f2 (fcons f5 (fcons f6 (fcons f7 fnil))))))))
      have ih := loop18 k A B ca cb hA hAB ra rb (pa ++ [a]) (pb ++ [b]) n (by simp [hpa]) (by simp [hpb]) (by simp [hl]) (by simpa using hr)
      rw [lp18_eq, show ra.length + n + 21 = ra.length + n + 1 + 20 by omega] at ih
      rw [hstep]
      refine ⟨fun h => ih.1 (by simp at h; exact h.2), fun h => ih.2 (fun e => h (by rw [hab, e]))⟩
    · rw [decide_eq_false hab] at f7
      refine ⟨fun h => absurd (List.cons.inj h).1 hab, fun _ => ?_⟩
      exact loop_out (viewR p5) (fail18 k (ra.length + n + 1) (A.map Rcd.fv) (B.map Rcd.fv) ca cb pa.length a.at' a.kind a.a a.flow a.sub a.number a.data a.size a.sent a.able a.marked b.at' b.kind b.a b.flow b.sub b.number b.data b.size b.sent b.able b.marked) (fcons f1 (fcons f2 (fcons f3 (fcons f4 (fcons f2 (fcons f5 (fcons f6 (fcons f7 fnil))))))))
  | [], _ :: _, _, _, _, _, _, _, hr => by simp at hr
  | _ :: _, [], _, _, _, _, _, _, hr => by simp at hr
end Go.Dee.L
end
section
/- What the functions about segments answer: equality is known; Few. -/
set_option maxRecDepth 100000
namespace Go.Dee.L
def recsEq (a b : Recs) : Bool := decide (a.list = b.list)
theorem recsEq_t {a b : Recs} (h : a.list = b.list) : recsEq a b = true := decide_eq_true h
theorem recsEq_f {a b : Recs} (h : a.list ≠ b.list) : recsEq a b = false := decide_eq_false h
theorem recsEq_iff {a b : Recs} : recsEq a b = true ↔ a.list = b.list := decide_eq_true_iff
theorem tail18 (k : CallK) (n n2 : Nat) (ea eb : List FV) (ca cb : Option Nat) (i : Int) : ∃ r, exec k (n + 20) c18d (out18 k n2 (.slice 11 ea ca) (.slice 11 eb cb) i) = some r ∧ viewR p5 r = (true, some (.f (.bool true)), true, true) :=
  exec_view (av := []) (fs := []) (viewR p5) (by kernel_rfl) fnil
theorem recs_known (a b : Recs) (ha : a.list.length ≤ 1000000) : Known cx 18 [a.fv, b.fv] (.bool (recsEq a b)) := by
  have by_run : ∀ {a b : FV} {v : Bool}, (∃ n r, exec (callP env np n) n d18.body (in2 a b) = some r ∧ viewR p5 r = (true, some (.f (.bool v)), true, true)) → Known cx 18 [a, b] (.bool v) := by
    rintro a b v ⟨n, r, h1, h2⟩
    exact known_of fol envOk np_ok (callP_view (df := d18) rfl (by kernel_rfl) (by kernel_rfl) (by kernel_rfl) h1 h2)
  cases a with
  | nil =>
    cases b with
    | nil => exact known_of fol envOk np_ok (n := 60) (h0 := Heap.empty) (by kernel_rfl)
    | sl rb cb =>
      cases rb with
      | nil => exact known_of fol envOk np_ok (n := 60) (h0 := Heap.empty) (by kernel_rfl)
      | cons r rb =>
        refine by_run ⟨60, ?_⟩
        obtain ⟨x, h1, h2⟩ := exec_view (k := callP env np 60) (n := 60) (c := d18.body) (s := in2 .nilslice (.slice 11 ((r :: rb).map Rcd.fv) cb)) (av := [.b true]) (fs := [(!decide ((0 : Int) = (((r :: rb).map Rcd.fv).length : Int))) = true]) (viewR p5) (by kernel_rfl) (fcons (by simp; omega) fnil)
        exact ⟨x, h1, h2⟩
  | sl ra ca =>
    cases b with
    | nil =>
      cases ra with
      | nil => exact known_of fol envOk np_ok (n := 60) (h0 := Heap.empty) (by kernel_rfl)
      | cons r ra =>
        refine by_run ⟨60, ?_⟩
        obtain ⟨x, h1, h2⟩ := exec_view (k := callP env np 60) (n := 60) (c := d18.body) (s := in2 (.slice 11 ((r :: ra).map Rcd.fv) ca) .nilslice) (av := [.b true]) (fs := [(!decide ((((r :: ra).map Rcd.fv).length : Int) = (0 : Int))) = true]) (viewR p5) (by kernel_rfl) (fcons (by simp; omega) fnil)
        exact ⟨x, h1, h2⟩
    | sl rb cb =>
      simp only [Recs.list] at ha
      simp only [Recs.fv]
      by_cases hl : ra.length = rb.length
      · refine by_run ⟨ra.length + 60, ?_⟩
        have hN : ra.length + 60 = ra.length + 20 + 40 := by omega
        rw [hN, body18]
        rw [seq_run (n := ra.length + 20 + 39) (av := []) (fs := []) (by kernel_rfl) fnil]
        rw [seq_run (n := ra.length + 20 + 38) (av := [.b false]) (fs := [(!decide (((ra.map Rcd.fv).length : Int) = ((rb.map Rcd.fv).length : Int))) = false]) (by kernel_rfl) (fcons (by rw [List.length_map, List.length_map, hl]; simp) fnil)]
        rw [seq_then, seq_run (n := ra.length + 20 + 36) (av := []) (fs := []) (by kernel_rfl) fnil]
        generalize hY : stOf _ = sY
        have hY2 : sY.trim lv18 = st18 (.slice 11 (ra.map Rcd.fv) ca) (.slice 11 (rb.map Rcd.fv) cb) 0 := by subst hY; kernel_rfl
        obtain ⟨l1, l2⟩ := loop18 (callP env np (ra.length + 20 + 40)) ra rb ca cb ha hl ra rb [] [] 34 rfl rfl rfl hl
        have ht : exec (callP env np (ra.length + 20 + 40)) (ra.length + 34 + 21) lp18 sY = exec (callP env np (ra.length + 20 + 40)) (ra.length + 34 + 21) lp18 (st18 (.slice 11 (ra.map Rcd.fv) ca) (.slice 11 (rb.map Rcd.fv) cb) 0) := by rw [lp18_eq, exec_loop_trim, hY2]
        by_cases hab : ra = rb
        · obtain ⟨n2, h1⟩ := l1 hab
          rw [block_exit (n := ra.length + 34 + 21) (ht.trans h1), recsEq_t (a := .sl ra ca) (b := .sl rb cb) hab]
          exact tail18 (callP env np (ra.length + 20 + 40)) (ra.length + 37) n2 _ _ _ _ _
        · obtain ⟨r, h1, h2⟩ := l2 hab
          have hr := (view_out h2).2
          obtain ⟨o, s1⟩ := r
          simp only at hr; subst hr
          rw [block_ret (n := ra.length + 34 + 21) (ht.trans h1), recsEq_f (a := .sl ra ca) (b := .sl rb cb) hab]
          exact ⟨_, rfl, h2⟩
      · refine by_run ⟨60, ?_⟩
        obtain ⟨x, h1, h2⟩ := exec_view (k := callP env np 60) (n := 60) (c := d18.body) (s := in2 (.slice 11 (ra.map Rcd.fv) ca) (.slice 11 (rb.map Rcd.fv) cb)) (av := [.b true]) (fs := [(!decide (((ra.map Rcd.fv).length : Int) = ((rb.map Rcd.fv).length : Int))) = true]) (viewR p5) (by kernel_rfl) (fcons (by rw [List.length_map, List.length_map]; simp; omega) fnil)
        have hne : ra ≠ rb := fun e => hl (by rw [e])
        exact ⟨x, h1, by rw [h2, recsEq_f (a := .sl ra ca) (b := .sl rb cb) hne]⟩
/- two lists of records -/
open Classical in
noncomputable def rule18 : Prim := fun f args => if h : f = 18 ∧ ∃ a b : Recs, args = [a.fv, b.fv] ∧ a.list.length ≤ 1000000 then some (.bool (recsEq (Classical.choose h.2) (Classical.choose (Classical.choose_spec h.2)))) else none
theorem rule18_at (a b : Recs) (ha : a.list.length ≤ 1000000) : rule18 18 [a.fv, b.fv] = some (.bool (recsEq a b)) := by
  unfold rule18
  have h : 18 = 18 ∧ ∃ a' b' : Recs, [a.fv, b.fv] = [a'.fv, b'.fv] ∧ a'.list.length ≤ 1000000 := ⟨rfl, a, b, rfl, ha⟩
  rw [dif_pos h]
  have h2 := (Classical.choose_spec (Classical.choose_spec h.2)).1
  have h3 := List.cons.inj h2
  have e1 := Recs.fv_inj h3.1
  have e2 := Recs.fv_inj (List.cons.inj h3.2).1
  have key : ∀ (x y : Recs), a = x → b = y → some (FV.bool (recsEq x y)) = some (.bool (recsEq a b)) := by rintro x y rfl rfl; rfl
  exact key _ _ e1 e2
theorem rule18_ok : PrimOk cx rule18 := by
  intro f args v h
  by_cases hc : f = 18 ∧ ∃ a b : Recs, args = [a.fv, b.fv] ∧ a.list.length ≤ 1000000
  · obtain ⟨rfl, a, b, rfl, ha⟩ := hc
    rw [rule18_at a b ha] at h; simp at h; subst h
    exact recs_known a b ha
  · unfold rule18 at h; rw [dif_neg hc] at h; simp at h
theorem rule18_other {f : FuncId} (hne : f ≠ 18) (args : List FV) : rule18 f args = none := by
  unfold rule18; rw [dif_neg]; exact fun h => hne h.1
/- Same -/
def sameB (a b : Seg) : Bool := decide (a.frm = b.frm) && (decide (a.to = b.to) && (decide (a.bgn = b.bgn) && (decide (a.fin = b.fin) && recsEq a.recs b.recs)))
def hp8 (b1 b2 b3 b4 : Int) (ar br : Recs) : Heap := ⟨2, [(1, .cells 0 [.f (.int .i64 b1), .f (.int .i64 b2), .f (.int .u64 b3), .f (.int .u64 b4), .f br.fv]), (0, .cells 0 [.f (.int .i64 b1), .f (.int .i64 b2), .f (.int .u64 b3), .f (.int .u64 b4), .f ar.fv])], []⟩
theorem same_run (k : CallK) (b1 b2 b3 b4 : Int) (ar br : Recs) (t : Bool) : (execG k 60 d8.body (in2 (Seg.fv ⟨b1, b2, b3, b4, ar⟩) (Seg.fv ⟨b1, b2, b3, b4, br⟩)) [.b true, .b true, .b true, .b true, .c (.bool t)]).map (fun r => (viewR p5 r.1, r.2.1, r.2.2)) =
    some ((true, some (.f (.bool t)), true, true), [], [decide (b1 = b1) = true, decide (b2 = b2) = true, decide (b3 = b3) = true, decide (b4 = b4) = true,
            callMode k .val (.f (.func 18 [] [])) [.f ar.fv, .f br.fv] (hp8 b1 b2 b3 b4 ar br) = some (.ret (.f (.bool t)), hp8 b1 b2 b3 b4 ar br)]) := by
  cases ar <;> cases br <;> kernel_rfl
theorem same_known (a b : Seg) (ha : a.recs.list.length ≤ 1000000) : Known cx 8 [a.fv, b.fv] (.bool (sameB a b)) := by
  have by_run : ∀ {v : Bool}, (∃ r, exec (callP env rule18 60) 60 d8.body (in2 a.fv b.fv) = some r ∧ viewR p5 r = (true, some (.f (.bool v)), true, true)) → Known cx 8 [a.fv, b.fv] (.bool v) := by
    rintro v ⟨r, h1, h2⟩
    exact known_of fol envOk rule18_ok (callP_view (df := d8) (rule18_other (by decide) _) (by kernel_rfl) (by kernel_rfl) (by kernel_rfl) h1 h2)
  obtain ⟨a1, a2, a3, a4, ar⟩ := a
  obtain ⟨b1, b2, b3, b4, br⟩ := b
  have hc := fun h => call_prim (env := env) (n := 59) (m := .val) (h := h) (rule18_at ar br ha)
  simp only [List.map_cons, List.map_nil] at hc
  refine by_run ?_
  simp only [sameB]
  by_cases h1 : a1 = b1
  · by_cases h2 : a2 = b2
    · by_cases h3 : a3 = b3
      · by_cases h4 : a4 = b4
        · simp only [h1, h2, h3, h4, decide_true, Bool.true_and]
          exact exec_view (viewR p5) (same_run (callP env rule18 60) b1 b2 b3 b4 ar br (recsEq ar br)) (fcons (by simp) (fcons (by simp) (fcons (by simp) (fcons (by simp) (fcons (hc _) fnil)))))
        · simp only [h1, h2, h3, h4, decide_true, decide_false, Bool.true_and, Bool.false_and]
          exact exec_view (av := [.b true, .b true, .b true, .b false]) (fs := [decide (b1 = b1) = true, decide (b2 = b2) = true, decide (b3 = b3) = true, decide (a4 = b4) = false]) (viewR p5) (by kernel_rfl) (fcons (by simp) (fcons (by simp) (fcons (by simp) (fcons (by simp [h4]) fnil))))
      · simp only [h1, h2, h3, decide_true, decide_false, Bool.true_and, Bool.false_and]
        exact exec_view (av := [.b true, .b true, .b false]) (fs := [decide (b1 = b1) = true, decide (b2 = b2) = true, decide (a3 = b3) = false]) (viewR p5) (by kernel_rfl) (fcons (by simp) (fcons (by simp) (fcons (by simp [h3]) fnil)))
    · simp only [h1, h2, decide_true, decide_false, Bool.true_and, Bool.false_and]
      exact exec_view (av := [.b true, .b false]) (fs := [decide (b1 = b1) = true, decide (a2 = b2) = false]) (viewR p5) (by kernel_rfl) (fcons (by simp) (fcons (by simp [h2]) fnil))
  · simp only [h1, decide_false, Bool.false_and]
    exact exec_view (av := [.b false]) (fs := [decide (a1 = b1) = false]) (viewR p5) (by kernel_rfl) (fcons (by simp [h1]) fnil)
/- Few -/
def fewB (s : Seg) : Bool := decide ((s.recs.list.length : Int) ≤ 5100)
theorem few_known (s : Seg) : Known cx 6 [s.fv] (.bool (fewB s)) := by
  refine known_of fol envOk np_ok (n := 50) (h0 := Heap.empty) ?_
  obtain ⟨a, b, c, d, r⟩ := s
  cases r with
  | nil => kernel_rfl
  | sl rs cap =>
    have : fewB ⟨a, b, c, d, .sl rs cap⟩ = decide (((rs.map Rcd.fv).length : Int) ≤ 5100) := decide_eq_decide.2 (by simp [Recs.list])
    rw [this]
    exact (show _ = _ from by kernel_rfl)
end Go.Dee.L
end
