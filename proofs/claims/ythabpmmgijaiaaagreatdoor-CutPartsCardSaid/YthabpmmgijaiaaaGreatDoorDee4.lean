/- Part of the proof: an interpreter that is proved sound over the model. -/
import Derived.Test.YthabpmmgijaiaaaGreatDoorDee3
import Derived.Orders
import Derived.Below
import Derived.OpenShut
set_option linter.unusedSimpArgs false
set_option linter.unusedVariables false
section
/- One operation of a region that draws, at the machine. -/
namespace Go.Dee
section
variable {x : Cx} {β : Nat} {p q : Pl} {h h2 hm : Heap} {w w' : World} {s : St} {b : Frame} {a : Act} {cs : List Frame} {k : CallK} {ops : Array Oper} {i : Nat} {rest : List Nat} {K : List Item} {o : Oper}
theorem below_of {m : Nat} (hm : ∀ id g y, p.ι id g = some y → id < m) {d : DV} {v : Value} (r : DRel p d v) : below m d = true := by
  have get : ∀ {l : List DV} {vs : List Value}, l.length = vs.length → (∀ (i : Nat) (x : DV) (y : Value), l[i]? = some x → vs[i]? = some y → below m x = true) → belowL m l = true := by
    intro l vs hl hb
    refine belowL_iff.2 fun d hd => ?_
    obtain ⟨i, hi, rfl⟩ := List.mem_iff_getElem.1 hd
    exact hb i _ _ (List.getElem?_eq_getElem hi) (List.getElem?_eq_getElem (hl ▸ hi))
  induction r with
  | f h => simp [below]
  | ptr blk base h => simp only [below]; exact Nat.ble_eq_true_of_le (hm _ _ _ h)
  | slice blk base o c n h hk hl ho hcap => simp only [below]; exact Nat.ble_eq_true_of_le (hm _ _ _ h)
  | map blk h => simp only [below]; exact Nat.ble_eq_true_of_le (hm _ _ _ h)
  | yield blk h => simp only [below]; exact Nat.ble_eq_true_of_le (hm _ _ _ h)
  | func as bs hal hbl ha hb iha ihb => simp only [below, Bool.and_eq_true]; exact ⟨get hal iha, get hbl ihb⟩
  | agg vs hl h ih => simp only [below]; exact get hl ih
  | tuple vs hl h ih => simp only [below]; exact get hl ih
def AllM (x : Cx) (r : Option DOp) : Prop := ∀ d, r = some d → d.makes = true → ∀ y ∈ d.all, ∃ o', x.opnd o' = some y
theorem AllM.none : AllM x none := fun d h => by simp at h
theorem AllM.some {d : DOp} (h : d.makes = false) : AllM x (some d) := fun d' e hm => by simp at e; subst e; rw [h] at hm; simp at hm
theorem AllM.bind {α : Type} {y : Option α} {f : α → Option DOp} (h : ∀ a, AllM x (f a)) : AllM x (y.bind f) := fun d e => by
  simp only [Option.bind_eq_some_iff] at e
  obtain ⟨a, _, e⟩ := e
  exact h a d e
theorem AllM.chk {b : Bool} {y : Option DOp} (h : AllM x y) : AllM x (chk b y) := fun d e => h d (chk_some e).2
theorem AllM.cond {b : Bool} {y z : Option DOp} (h : AllM x y) (h' : AllM x z) : AllM x (bif b then y else z) := by cases b <;> assumption
theorem eq_makes {neg : Bool} {t : TypeId} {a b : Operand} : AllM x (x.eq neg t a b) := by
  unfold Cx.eq
  repeat first
    | exact .none
    | exact .some rfl
    | (refine .bind ?_; intro _)
    | refine .chk ?_
    | refine .cond ?_ ?_
    | split
    | dsimp only
theorem builtin_makes {b : Builtin} {as : List Operand} {ts : List TypeId} : AllM x (x.builtin b as ts) := by
  unfold Cx.builtin
  repeat first
    | exact .none
    | exact .some rfl
    | (refine .bind ?_; intro _)
    | refine .chk ?_
    | refine .cond ?_ ?_
    | split
    | dsimp only
theorem parts_opnds {place : Nat → Option (Nat × Nat)} : ∀ {ps : List (Nat × Operand)} {l : List (Nat × Nat × Opnd)}, x.parts place ps = some l → ∀ y ∈ l.map (·.2.2), ∃ o', x.opnd o' = some y
  | [], l, h, y, hy => by simp [Cx.parts] at h; subst h; simp at hy
  | (i, a) :: ps, l, h, y, hy => by
    simp only [Cx.parts, Option.bind_eq_some_iff, Option.some.injEq] at h
    obtain ⟨pl, _, o1, ho, r, hr, rfl⟩ := h
    rcases List.mem_cons.1 hy with rfl | hy
    · exact ⟨a, ho⟩
    · exact parts_opnds hr y hy
theorem op_makes : ∀ (op : Op), AllM x (x.op op) := by
  intro op
  cases op with
  | alloc t =>
    intro d hd _ y hy
    simp only [Cx.op, Option.bind_eq_some_iff, Option.some.injEq] at hd
    obtain ⟨z, _, rfl⟩ := hd
    simp [DOp.all] at hy
  | box t a =>
    intro d hd _ y hy
    simp only [Cx.op, Option.bind_eq_some_iff, Option.some.injEq] at hd
    obtain ⟨z, hz, rfl⟩ := hd
    simp [DOp.all] at hy; subst hy; exact ⟨a, hz⟩
  | buildSlice t n ps =>
    intro d hd _ y hy
    simp only [Cx.op, Option.bind_eq_some_iff] at hd
    obtain ⟨e, _, sz, _, ag, _, z, _, l, hl, hd⟩ := hd
    obtain ⟨_, hd⟩ := chk_some hd
    simp only [Option.some.injEq] at hd; subst hd
    exact parts_opnds hl y hy
  | makeMap t r =>
    cases r with
    | none => intro d hd _ y hy; simp only [Cx.op, Option.some.injEq] at hd; subst hd; simp [DOp.all] at hy
    | some r =>
      intro d hd _ y hy
      simp only [Cx.op] at hd
      split at hd
      · simp only [Option.bind_eq_some_iff, Option.some.injEq] at hd
        obtain ⟨z, hz, rfl⟩ := hd
        simp [DOp.all] at hy; subst hy; exact ⟨r, hz⟩
      · simp at hd
  | makeSlice t l c =>
    intro d hd _ y hy
    simp only [Cx.op, Option.bind_eq_some_iff] at hd
    obtain ⟨e, _, ag, _, sz, _, by', _, z, _, p1, h1, p2, h2, hd⟩ := hd
    obtain ⟨_, hd⟩ := chk_some hd
    simp only [Option.some.injEq] at hd; subst hd
    simp only [DOp.all, List.mem_cons, List.not_mem_nil, or_false] at hy
    rcases hy with rfl | rfl
    · exact ⟨l, h1⟩
    · exact ⟨c, h2⟩
  | _ =>
    simp only [Cx.op, Cx.conv, Cx.slice]
    repeat first
      | exact .none
      | exact .some rfl
      | exact eq_makes
      | exact builtin_makes
      | (refine .bind ?_; intro _)
      | refine .chk ?_
      | refine .cond ?_ ?_
      | split
      | dsimp only
/- the deferred calls of a frame, after what is no Post -/
theorem DefsRel.kept {p' : Pl} {ds : List Def} {l : List Deferred} (i : Inv x p h w) (he : Ext p p') (hmod : ∀ b, b < w.heap.size → (∀ id, ¬ Owns p h id b) → w'.heap[b]? = w.heap[b]?) (r : DefsRel x β p w ds l) : DefsRel x β p' w' ds l := by
  refine ⟨r.1.mono fun d e hr => ?_, r.2⟩
  cases d with
  | coll =>
    obtain ⟨blk, rfl, hβ, hb⟩ := hr
    refine ⟨blk, rfl, hβ, ?_⟩
    have hlt : blk < w.heap.size := by
      rcases Nat.lt_or_ge blk w.heap.size with h | h
      · exact h
      · simp [Array.getElem?_eq_none h] at hb
    rw [hmod blk hlt (fun id => i.not_owned hb id)]
    exact hb
  | fn fv args =>
    obtain ⟨vf, vs, h1, h2, h3⟩ := hr
    exact ⟨vf, vs, h1.mono he, h2.mono he, h3⟩
def Adv (x : Cx) (β N : Nat) (J : Nat → Prop) (p : Pl) (s : St) (w : World) (b : Frame) (a : Act) (k : List Item) (cs : List Frame) (ops : Array Oper) (i : Nat) (rest : List Nat) (dst : Option Tmp) (out : Out) (v : DV) (s1 : St) : Prop :=
  (out = .normal ∧ ∃ p' w' a' y cs', PostN N x p s.hp w p' s1.hp w' ∧ (∀ id g y, p'.ι id g = some y → p.ι id g = some y ∨ J id) ∧ SRel x β p' s1 w' b a' cs' ∧ csTo s.rc cs s1.rc cs' ∧ DRel p' v y ∧ Steps x.P (lone (fat b a (.inRegion ops (i :: rest) :: k)) cs w) (lone (fat b (a'.put dst y) (.inRegion ops rest :: k)) cs' w')) ∨
  (∃ z p' w', out = .panic z ∧ PostN N x p s.hp w p' s1.hp w' ∧ SRel x β p' s1 w' b a cs ∧ s1.rc = s.rc ∧ ∃ y, FRel p'.M z y ∧ Steps x.P (lone (fat b a (.inRegion ops (i :: rest) :: k)) cs w) (lone { fat b a (.inRegion ops (i :: rest) :: k) with mode := .panicking [{ v := y, recovered := false }] } cs w'))
theorem mach_part {N : Nat} (ks : KSound x k) (sr : SRel x β p s w b a cs) (ho : ops[i]? = some o) (hw : Region.wanted o (yielded ops a.tmps) = true) {d : DOp} (hd : x.op o.op = some d) {F : List Nat} {out : Out} {v : DV} {s2 : St}
    (he : Dee.execOp k d (s.heap ⟨s.hp.next, pickIn s.hp.bs F, []⟩) = some (out, v, s2)) (m1 : ∀ id, hm.get id = if inW s2.hp.log s.hp.next s2.hp.next id then s2.hp.get id else s.hp.get id) (m2 : hm.next = s2.hp.next) (m3 : ∀ n, n ∈ s.hp.log ∨ n ∈ s2.hp.log → n ∈ hm.log)
    (hN : N ≤ s.hp.next) : Adv x β N (fun id => s.hp.next ≤ id ∨ id ∈ s2.hp.log) p s w b a K cs ops i rest o.dst out v (s2.heap hm) := by
  have hg : ∀ id b, (⟨s.hp.next, pickIn s.hp.bs F, []⟩ : Heap).get id = some b → s.hp.get id = some b := by
    intro id b h
    simp only [Heap.get, getB_pickIn] at h
    split at h
    · exact h
    · simp at h
  have i0 : Inv x p ⟨s.hp.next, pickIn s.hp.bs F, []⟩ w := part_inv sr.inv (Nat.le_refl _) hg
  have sr0 : SRel x β p (s.heap ⟨s.hp.next, pickIn s.hp.bs F, []⟩) w b a cs := ⟨i0, sr.tm, sr.nt, sr.defs, sr.rc, sr.base⟩
  rcases op_sound ks sr0 (K := K) (rest := rest) ho hw hd he with ⟨rfl, p', w', a', y, cs', g1, g2, gt, g3, g4, g5⟩ | ⟨z, p', w', rfl, g1, g2, g3, y, g4, g5⟩
  · have po := Post.frame (hF := ⟨s.hp.next, pickIn s.hp.bs F, []⟩) sr.inv rfl hg g1 m1 m2 m3
    exact .inl ⟨rfl, p', w', a', y, cs', po.toN hN, g1.inew, ⟨po.inv, g2.tm, g2.nt, g2.defs, g2.rc, g2.base⟩, g3, g4, g5⟩
  · have po := Post.frame (hF := ⟨s.hp.next, pickIn s.hp.bs F, []⟩) sr.inv rfl hg g1 m1 m2 m3
    exact .inr ⟨z, p', w', rfl, po.toN hN, ⟨po.inv, g2.tm, g2.nt, g2.defs, g2.rc, g2.base⟩, g3, y, g4, g5⟩
theorem mach_make {N r : Nat} (sr : SRel x β p s w b a cs) (ho : ops[i]? = some o) (hw : Region.wanted o (yielded ops a.tmps) = true) {d : DOp} (hd : x.op o.op = some d) (hmk : d.makes = true) {n : Nat} {v : DV} {h1 : Heap}
    (he : evalOp (ev s.tm) ⟨r, [], []⟩ d = some (v, h1)) (hr : r < s.hp.next) (hfree : ∀ g, p.ι r g = none) (hN : N ≤ r) (m1 : ∀ id, hm.get id = if id = r then h1.get id else s.hp.get id) (m2 : hm.next = s.hp.next) (m3 : ∀ n ∈ s.hp.log, n ∈ hm.log) :
    Adv x β N (fun id => id = r) p s w b a K cs ops i rest o.dst .normal v (s.heap hm) := by
  have hrho := sr.rho
  have hpl := (makes_plain hmk).1
  have hb : ∀ y ∈ d.all, ∀ dv, ev s.tm y = some dv → below s.hp.next dv = true := by
    intro y hy dv hdv
    obtain ⟨o', ho'⟩ := op_makes o.op d hd hmk y hy
    exact below_of sr.inv.nx (hrho o' y dv ho' hdv)
  obtain ⟨blk, f, hf, rfl, rfl, hblk, hall⟩ := makes_shape hmk hb he
  have i0 : Inv x p ⟨s.hp.next, [], []⟩ w := part_inv sr.inv (Nat.le_refl _) (fun id b h => by simp [Heap.get, getB] at h)
  obtain ⟨p', w', nx, y, g1, g2, g3, g4⟩ := evalOp_sound i0 hrho (fun _ => rfl) hd (hall s.hp.next)
  have hnd : ∀ c, o.op ≠ .defer c := by
    intro c hc
    rw [hc] at hd
    simp only [Cx.op] at hd
    split at hd
    · simp only [Option.bind_eq_some_iff, Option.some.injEq] at hd
      obtain ⟨_, _, _, _, rfl⟩ := hd
      simp [DOp.plain] at hpl
    · simp at hd
  have hgr : (⟨r + 1, [(r, blk)], []⟩ : Heap).get r = some blk := by simp [Heap.get, getB, Nat.beq_refl]
  obtain ⟨po, hnew⟩ := Post.moved (N := N) (hm := hm) sr.inv rfl hr hfree hN g1 hblk (fun id => by
    rw [m1]
    by_cases e : id = r
    · subst e; simp [hgr]
    · simp [e]) m2 m3
  refine .inl ⟨rfl, p'.mv s.hp.next r, w', a, y, cs, po, hnew, ⟨po.inv, sr.tm.mono po.ext, sr.nt, ?_, sr.rc.mono po.ext, Nat.le_trans sr.base po.size⟩, .refl _ _, hf.moved g2, .one (mstep_value ho hw (.inr hnd) g3 g4)⟩
  exact sr.defs.kept sr.inv po.ext fun b hb hno => po.mod b hb fun id _ => hno id
end
end Go.Dee
end
section
/- A region that draws, at the machine, in any order. -/
namespace Go.Dee
/- what the compiler says of such a region -/
theorem opers_get {x : Cx} {ops : Array Oper} : ∀ {os : List Oper} {l : List DOper}, x.opers ops os = some l → l.length = os.length ∧ ∀ (i : Nat) (o : Oper), os[i]? = some o → ∃ d, l[i]? = some d ∧ x.oper ops o = some d
  | [], l, h => by simp [Cx.opers] at h; subst h; simp
  | o :: os, l, h => by
    simp only [Cx.opers, Option.bind_eq_some_iff, Option.some.injEq] at h
    obtain ⟨d, hd, r, hr, rfl⟩ := h
    obtain ⟨h1, h2⟩ := opers_get hr
    refine ⟨by simp [h1], fun i o' ho' => ?_⟩
    cases i with
    | zero => simp at ho'; subst ho'; exact ⟨d, rfl, hd⟩
    | succ i => simpa using h2 i o' (by simpa using ho')
theorem addUn_get {anc : List (List Nat)} : ∀ {l : List DOper} {n i : Nat}, (addUn anc l n)[i]? = (l[i]?).map fun o => ⟨o.dst, o.guard, o.op, unordered (anc.getD (n + i) []) (n + i)⟩
  | [], n, i => by simp [addUn]
  | o :: l, n, i => by
    cases i with
    | zero => simp [addUn]
    | succ i =>
      have : n + (i + 1) = n + 1 + i := by omega
      simp [addUn, addUn_get (l := l) (n := n + 1) (i := i), this]
theorem unOk_spec {all : List DOper} : ∀ {l : List DOper}, unOk all l = true → ∀ o ∈ l, ∀ j ∈ o.un, ∃ oj, all[j]? = some oj ∧ slotsApart oj o = true
  | [], _, o, ho, _, _ => by simp at ho
  | d :: l, h, o, ho, j, hj => by
    simp only [unOk, Bool.and_eq_true, List.all_eq_true] at h
    rcases List.mem_cons.1 ho with rfl | ho
    · have := h.1 j hj
      split at this
      · rename_i oj hoj; exact ⟨oj, hoj, this⟩
      · simp at this
    · exact unOk_spec h.2 o ho j hj
theorem backEdges_spec : ∀ {os : List Oper} {n : Nat}, backEdges os n = true → ∀ (i : Nat) (o : Oper), os[i]? = some o → ∀ j ∈ edgesOf o, j < n + i
  | [], _, _, i, o, h, _, _ => by simp at h
  | d :: os, n, h, i, o, ho, j, hj => by
    simp only [backEdges, Bool.and_eq_true, List.all_eq_true] at h
    cases i with
    | zero => simp at ho; subst ho; exact Nat.lt_of_succ_le (Nat.le_of_ble_eq_true (h.1 j hj))
    | succ i => have := backEdges_spec h.2 i o (by simpa using ho) j hj; omega
theorem mem_unordered {anc : List Nat} {n i : Nat} : i ∈ unordered anc n ↔ i < n ∧ i ∉ anc := by
  simp only [unordered, List.mem_filter, List.mem_range, Bool.not_eq_true']
  constructor
  · rintro ⟨h1, h2⟩; exact ⟨h1, fun h => by rw [elemN_mem.2 h] at h2; simp at h2⟩
  · rintro ⟨h1, h2⟩
    refine ⟨h1, ?_⟩
    cases e : elemN i anc with
    | false => rfl
    | true => exact absurd (elemN_mem.1 e) h2
theorem mem_ins {m : Nat} : ∀ {l a : List Nat}, m ∈ l.foldl (fun a n => bif elemN n a then a else n :: a) a → m ∈ a ∨ m ∈ l
  | [], a, h => .inl h
  | n :: l, a, h => by
    rcases mem_ins (l := l) h with h | h
    · dsimp only at h
      cases e : elemN n a with
      | true => rw [e] at h; exact .inl h
      | false =>
        rw [e] at h
        rcases List.mem_cons.1 h with rfl | h
        · exact .inr (List.mem_cons_self ..)
        · exact .inl h
    · exact .inr (List.mem_cons_of_mem _ h)
theorem mem_ancStep {anc : List (List Nat)} {m : Nat} : ∀ {es a : List Nat}, m ∈ es.foldl (fun acc j => match anc[j]? with | some l => (j :: l).foldl (fun a n => bif elemN n a then a else n :: a) acc | none => acc) a → m ∈ a ∨ ∃ j ∈ es, ∃ l, anc[j]? = some l ∧ (m = j ∨ m ∈ l)
  | [], a, h => .inl h
  | j :: es, a, h => by
    rcases mem_ancStep (es := es) h with h | ⟨i, hi, l, h1, h2⟩
    · dsimp only at h
      split at h
      · rename_i l hl
        rcases mem_ins h with h | h
        · exact .inl h
        · exact .inr ⟨j, List.mem_cons_self .., l, hl, by simpa using h⟩
      · exact .inl h
    · exact .inr ⟨i, List.mem_cons_of_mem _ hi, l, h1, h2⟩
def Closed (ops : List Oper) (D : Nat → Prop) : Prop := ∀ i o, D i → ops[i]? = some o → ∀ j ∈ edgesOf o, D j
theorem ancestors_spec {ops : List Oper} {D : Nat → Prop} (hD : Closed ops D) : ∀ (rest pre : List Oper) (anc : List (List Nat)), ops = pre ++ rest → anc.length = pre.length →
    (∀ (i : Nat) (l : List Nat), anc[i]? = some l → ∀ o, ops[i]? = some o → (∀ j ∈ edgesOf o, D j) → ∀ n ∈ l, D n) →
    (ancestors rest anc).length = ops.length ∧ ∀ (i : Nat) (l : List Nat), (ancestors rest anc)[i]? = some l → ∀ o, ops[i]? = some o → (∀ j ∈ edgesOf o, D j) → ∀ n ∈ l, D n
  | [], pre, anc, hops, hl, h => ⟨by rw [hops]; simp [ancestors, hl], h⟩
  | o :: rest, pre, anc, hops, hl, h => by
    refine ancestors_spec hD rest (pre ++ [o]) (anc ++ [ancStep anc (edgesOf o)]) (by rw [hops]; simp) (by simp [hl]) ?_
    intro i l hi o' ho' he n hn
    by_cases hlt : i < anc.length
    · rw [List.getElem?_append_left hlt] at hi
      exact h i l hi o' ho' he n hn
    · rw [List.getElem?_append_right (by omega)] at hi
      have h0 : i - anc.length = 0 := by
        rcases Nat.eq_zero_or_pos (i - anc.length) with h | h
        · exact h
        · rw [List.getElem?_eq_none (by simp; omega)] at hi; simp at hi
      have hi' : i = pre.length := by omega
      rw [h0] at hi; simp at hi; subst hi
      rw [hi', hops] at ho'; simp at ho'; subst ho'
      rcases mem_ancStep hn with hn | ⟨j, hj, l, h1, h2⟩
      · simp at hn
      · have hDj := he j hj
        rcases h2 with rfl | h2
        · exact hDj
        · have hjl : j < anc.length := by
            rcases Nat.lt_or_ge j anc.length with h | h
            · exact h
            · rw [List.getElem?_eq_none h] at h1; simp at h1
          obtain ⟨oj, hoj⟩ : ∃ oj, ops[j]? = some oj := ⟨ops[j]'(by rw [hops]; simp; omega), List.getElem?_eq_getElem _⟩
          exact h j l h1 oj hoj (hD j oj hDj hoj) n h2
/- how many are not listed -/
def cnt (f : Nat → Bool) : Nat → Nat
  | 0 => 0
  | n + 1 => cnt f n + (if f n then 0 else 1)
theorem cnt_zero {f : Nat → Bool} : ∀ {n : Nat}, cnt f n = 0 → ∀ i, i < n → f i = true
  | n + 1, h, i, hi => by
    simp only [cnt] at h
    by_cases e : i = n
    · subst e
      cases hf : f i with
      | true => rfl
      | false => rw [hf] at h; simp at h
    · exact cnt_zero (n := n) (by omega) i (by omega)
theorem cnt_add {f g : Nat → Bool} {n : Nat} (hf : f n = false) (hg : g n = true) (ho : ∀ i, i ≠ n → g i = f i) : ∀ {m : Nat}, (n < m → cnt g m + 1 = cnt f m) ∧ (m ≤ n → cnt g m = cnt f m)
  | 0 => ⟨fun h => by omega, fun _ => rfl⟩
  | m + 1 => by
    obtain ⟨h1, h2⟩ := cnt_add hf hg ho (m := m)
    refine ⟨fun h => ?_, fun h => ?_⟩
    · simp only [cnt]
      by_cases e : m = n
      · subst e; rw [hf, hg, h2 (Nat.le_refl _)]; simp
      · have := h1 (by omega); rw [ho m e]; omega
    · simp only [cnt]; rw [ho m (by omega), h2 (by omega)]
section
variable {x : Cx} {β : Nat} {p q : Pl} {h h2 hm : Heap} {w w' : World} {s : St} {b : Frame} {a : Act} {cs : List Frame} {k : CallK} {ops : Array Oper} {K : List Item}
theorem Post.bump (i : Inv x p h w) (hg : ∀ id, h2.get id = h.get id) (hn : h.next ≤ h2.next) (hl : h2.log = h.log) : Post x p h w p h2 w := by
  have hown : ∀ {id b}, Owns p h2 id b → Owns p h id b := by
    rintro id b ⟨blk, hb, ho⟩; rw [hg] at hb; exact ⟨blk, hb, ho⟩
  refine ⟨⟨i.M, i.K, fun id blk hb => i.B id blk (by rw [← hg]; exact hb), fun id id' b o1 o2 => i.sep id id' b (hown o1) (hown o2), fun id g y hy => Nat.lt_of_lt_of_le (i.nx id g y hy) hn, i.dom, i.G⟩,
    .refl p, hn, fun n h => by rw [hl]; exact h, fun _ _ _ => rfl, fun id b o _ => hown o, Nat.le_refl _, fun a v hv => .inl hv, fun id g y hy => .inl hy, rfl, rfl, rfl⟩
variable {B : Nat} {L : List DOper} {c : Nat} {S : Nat → St} {R : Nat → Rec} {I : Nat → Nat} {D : Nat → Prop}
theorem Trace.defs (T : Trace k B L 0 c S R I) : ∀ {i : Nat}, i ≤ c → (S i).defs = (S 0).defs
  | 0, _ => rfl
  | i + 1, h => by
    obtain ⟨o, ho⟩ := T.at (i := i) (by omega)
    rw [(T.step i o (by omega) (by omega) ho).defs, T.defs (i := i) (by omega)]
theorem Like.all (T : Trace k B L 0 c S R I) (lk : Like L c S R D s) (hall : ∀ i, i < c → D i) : (∀ p, s.tm.get p = (S c).tm.get p) ∧ (∀ id, s.hp.get id = (S c).hp.get id) ∧ s.hp.next = (S c).hp.next ∧ s.rc = (S c).rc ∧ s.defs = (S c).defs := by
  have e : ∀ W : Nat → Prop, last W D c = last W (fun _ => True) c := fun W => last_congr fun i hi _ => ⟨fun _ => trivial, fun _ => hall i hi⟩
  refine ⟨fun p => ?_, fun id => ?_, ?_, ?_, by rw [lk.defs, T.defs (Nat.le_refl c)]⟩
  · rw [lk.tm, e]
    refine last_same (fun i => (S i).tm.get p) fun i hi hW => ?_
    obtain ⟨o, ho⟩ := T.at hi
    exact (T.step i o (by omega) hi ho).tm p fun e => hW ⟨o, ho, e⟩
  · rw [lk.hp, e]
    refine last_same (fun i => (S i).hp.get id) fun i hi hW => ?_
    obtain ⟨o, ho⟩ := T.at hi
    exact (T.step i o (by omega) hi ho).get id hW
  · rw [lk.next, e]
    refine last_same (fun i => (S i).hp.next) fun i hi hW => ?_
    obtain ⟨o, ho⟩ := T.at hi
    exact ((T.step i o (by omega) hi ho).loud (by simpa using hW)).1
  · rw [lk.rc, e]
    refine last_same (fun i => (S i).rc) fun i hi hW => ?_
    obtain ⟨o, ho⟩ := T.at hi
    exact ((T.step i o (by omega) hi ho).loud (by simpa using hW)).2
theorem Inv.likeH (i : Inv x p h w) (hg : ∀ id, h2.get id = h.get id) (hn : h2.next = h.next) : Inv x p h2 w := by
  have hown : ∀ {id b}, Owns p h2 id b → Owns p h id b := by
    rintro id b ⟨blk, hb, ho⟩; rw [hg] at hb; exact ⟨blk, hb, ho⟩
  exact ⟨i.M, i.K, fun id blk hb => i.B id blk (by rw [← hg]; exact hb), fun id id' b o1 o2 => i.sep id id' b (hown o1) (hown o2), fun id g y hy => by rw [hn]; exact i.nx id g y hy, i.dom, i.G⟩
/- an operation in the state that the trace has, on a part of the heap -/
theorem exec_at {o : DOper} {n rid lo : Nat} {F : List Nat} {out : Out} {v : DV} {s' s2 : St} {r : Rec} (run : RunAt k B o rid (S n) F lo out v s' s2 r) (hm : o.op.makes = false) (hev : ∀ y ∈ o.op.all, ev (S n).tm y = ev s.tm y)
    (hpick : pickIn s.hp.bs F = pickIn (S n).hp.bs F) (hl : r.loud = true → s.hp.next = (S n).hp.next ∧ s.rc = (S n).rc) :
    ∃ s3 : St, Dee.execOp k o.op (s.heap ⟨s.hp.next, pickIn s.hp.bs F, []⟩) = some (out, v, s3) ∧ s3.tm = s.tm ∧ s3.defs = s.defs ∧
      ((r.loud = true ∧ s3.rc = s'.rc ∧ s3.hp = s'.hp ∧ r.W = s'.hp.log ∧ r.lo = s.hp.next ∧ r.hi = s'.hp.next ∧ s2.rc = s'.rc ∧ s2.hp.next = Nat.max (S n).hp.next s'.hp.next ∧ (o.op.quiet && s'.hp.log.isEmpty) = false ∧ lo = s.hp.next) ∨
       (r.loud = false ∧ s3.rc = s.rc ∧ s3.hp = ⟨s.hp.next, pickIn s.hp.bs F, []⟩ ∧ r.W = [] ∧ r.lo = 0 ∧ r.hi = 0 ∧ s2.hp = (S n).hp ∧ s2.rc = (S n).rc)) := by
  have he := run.he
  have hlo : lo = (S n).hp.next := by rw [run.hlo, hm]; rfl
  rw [hm, cond_false, hlo, ← hpick] at he
  cases hq : (o.op.quiet && s'.hp.log.isEmpty) with
  | true =>
    obtain ⟨hr, hs2, hrc⟩ := run.quietAt hq
    simp only [Bool.and_eq_true, List.isEmpty_iff] at hq
    obtain ⟨q1, q2⟩ := quiet_next (n2 := s.hp.next) hq.1 he hq.2
    have hnr := quiet_rec hq.1
    obtain ⟨e1, e2, e3, e4⟩ := exec_like (tm2 := s.tm) (defs2 := s.defs) (rc2 := s.rc) run.allowed hev (fun hr => by rw [hnr] at hr; simp at hr) q2
    refine ⟨_, e4, rfl, rfl, .inr ⟨by rw [hr], by simp [hnr], rfl, by rw [hr], by rw [hr], by rw [hr], by rw [hs2], by rw [hs2]; exact hrc⟩⟩
  | false =>
    obtain ⟨hr, _⟩ := run.loudAt hq hm
    have hl' := hl (by rw [hr])
    have hs2 := run.s2
    rw [hq] at hs2
    rw [← hl'.1] at he
    obtain ⟨e1, e2, e3, e4⟩ := exec_like (tm2 := s.tm) (defs2 := s.defs) (rc2 := s.rc) run.allowed hev (fun _ => hl'.2) he
    refine ⟨_, e4, rfl, rfl, .inl ⟨by rw [hr], ?_, rfl, by rw [hr], by rw [hr]; exact hl'.1.symm, by rw [hr], by rw [hs2], by rw [hs2]; rfl, rfl, by rw [hlo, hl'.1]⟩⟩
    cases hrec : o.op.isRec with
    | true => simp
    | false => simp only [cond_false]; rw [hl'.2]; exact (e3 hrec).symm
end
end Go.Dee
end
section
/- A region that draws, in any order: it is sound. -/
namespace Go.Dee
section
variable {x : Cx} {β : Nat} {p q : Pl} {h h2 hm : Heap} {w w' : World} {s : St} {b : Frame} {a : Act} {cs : List Frame} {k : CallK} {ops : Array Oper} {K : List Item}
variable {B : Nat} {L : List DOper} {c : Nat} {S : Nat → St} {R : Nat → Rec} {I : Nat → Nat} {D : Nat → Prop}
/- what a region that draws comes with -/
structure Reg (x : Cx) (ops : Array Oper) (L : List DOper) : Prop where
  len : L.length = ops.size
  at' : ∀ (i : Nat) (o : Oper), ops[i]? = some o → ∃ d, x.oper ops o = some d ∧ ∃ un, L[i]? = some (DOper.mk d.dst d.guard d.op un)
  un : ∀ (i : Nat) (o : DOper), L[i]? = some o → ∀ j ∈ o.un, j < i ∧ ∃ oj, L[j]? = some oj ∧ SlotSep oj o
  back : ∀ (i : Nat) (o : Oper), ops[i]? = some o → ∀ j ∈ edgesOf o, j < i
  anc : ∀ (D : Nat → Prop), Closed ops.toList D → ∀ (i : Nat) (o : Oper) (l : DOper), ops[i]? = some o → L[i]? = some l → (∀ j ∈ edgesOf o, D j) → ∀ j, j < i → j ∉ l.un → D j
theorem reg_of (h : x.drawn ops = some L) : Reg x ops L := by
  simp only [Cx.drawn, Option.bind_eq_some_iff] at h
  obtain ⟨l, hl, h⟩ := h
  obtain ⟨hck, h⟩ := chk_some h
  simp only [Option.some.injEq] at h
  simp only [Bool.and_eq_true] at hck
  obtain ⟨hb, hu⟩ := hck
  rw [h] at hu
  obtain ⟨h1, h2⟩ := opers_get hl
  have hget : ∀ i : Nat, L[i]? = (l[i]?).map fun o => ⟨o.dst, o.guard, o.op, unordered ((ancestors ops.toList []).getD i []) i⟩ := by
    intro i; rw [← h]; have := addUn_get (anc := ancestors ops.toList []) (l := l) (n := 0) (i := i); simpa using this
  have hlen : L.length = l.length := by
    have : ∀ (l : List DOper) n anc, (addUn anc l n).length = l.length := by
      intro l; induction l with
      | nil => intro n anc; rfl
      | cons o l ih => intro n anc; simp [addUn, ih]
    rw [← h, this]
  refine ⟨by rw [hlen, h1]; simp, fun i o ho => ?_, fun i o ho j hj => ?_, fun i o ho j hj => ?_, ?_⟩
  · obtain ⟨d, hd1, hd2⟩ := h2 i o (by simpa using ho)
    exact ⟨d, hd2, _, by rw [hget, hd1]; rfl⟩
  · obtain ⟨oj, h3, h4⟩ := unOk_spec hu o (List.mem_of_getElem? ho) j hj
    refine ⟨?_, oj, h3, slotsApart_spec h4⟩
    rw [hget] at ho
    simp only [Option.map_eq_some_iff] at ho
    obtain ⟨d, hd, rfl⟩ := ho
    exact (mem_unordered.1 hj).1
  · have := backEdges_spec hb i o (by simpa using ho) j hj; omega
  · intro D hD i o lo ho hlo he j hji hjn
    obtain ⟨a1, a2⟩ := ancestors_spec hD ops.toList [] [] (by simp) rfl (fun i l h => by simp at h)
    rw [hget] at hlo
    simp only [Option.map_eq_some_iff] at hlo
    obtain ⟨d, hd, rfl⟩ := hlo
    have hi : i < (ancestors ops.toList []).length := by
      rw [a1]
      obtain ⟨hlt, _⟩ := Array.getElem?_eq_some_iff.1 ho
      simpa using hlt
    have hge := List.getElem?_eq_getElem hi
    refine a2 i _ hge o (by simpa using ho) he j ?_
    refine Classical.byContradiction fun hna => hjn (mem_unordered.2 ⟨hji, ?_⟩)
    have : (ancestors ops.toList []).getD i [] = (ancestors ops.toList [])[i] := by simp [List.getD, hge]
    rw [this]; exact hna
/- the loop's state -/
structure LI (x : Cx) (β : Nat) (k : CallK) (ops : Array Oper) (L : List DOper) (B c N : Nat) (S : Nat → St) (R : Nat → Rec) (I : Nat → Nat) (p0 : Pl) (h0 : Heap) (w0 : World) (rc0 : Rc) (cs0 : List Frame) (listed : Array Bool) (p : Pl) (s : St) (w : World) (b : Frame) (a : Act) (cs : List Frame) : Prop where
  size : listed.size = ops.size
  closed : Closed ops.toList fun i => listed.getD i false = true
  below : ∀ i, listed.getD i false = true → i < c
  like : Like L c S R (fun i => listed.getD i false = true) s
  sr : SRel x β p s w b a cs
  po : Post x p0 h0 w0 p s.hp w
  cs : csTo rc0 cs0 s.rc cs
  free : ∀ i o, i < c → L[i]? = some o → o.op.makes = true → (R i).lo = I i ∧ (R i).hi = I i + 1 → listed.getD i false = false → ∀ g, p.ι (I i) g = none
theorem LI.next {N : Nat} {p0 : Pl} {h0 : Heap} {w0 : World} {rc0 : Rc} {cs0 : List Frame} {listed : Array Bool} (reg : Reg x ops L) (T : Trace k B L 0 c S R I) (li : LI x β k ops L B c N S R I p0 h0 w0 rc0 cs0 listed p s w b a cs)
    {n : Nat} {o : Oper} {d : DOper} (hn : listed.getD n false = false) (ho : ops[n]? = some o) (hd : L[n]? = some d) (hle : n ≤ c) (hend : n = c → d.un = []) (hready : ∀ j ∈ edgesOf o, listed.getD j false = true) :
    Next L R c (fun i => listed.getD i false = true) n d := by
  have h1 : ∀ i, i < n → listed.getD i false ≠ true → i ∈ d.un := fun i hi hDi =>
    Classical.byContradiction fun h => hDi (reg.anc _ li.closed n o d ho hd hready i hi h)
  have h2 : ∀ i, i < c → n < i → listed.getD i false = true → ∃ di, L[i]? = some di ∧ n ∈ di.un := by
    intro i hic hni hDi
    obtain ⟨di, hdi⟩ := T.at hic
    have hlt : i < ops.size := by rw [← reg.len]; have := T.hc; omega
    have hoi : ops[i]? = some ops[i] := Array.getElem?_eq_getElem hlt
    refine ⟨di, hdi, Classical.byContradiction fun h => ?_⟩
    have := reg.anc _ li.closed i _ di hoi hdi (li.closed i ops[i] hDi (by simp)) n hni h
    rw [this] at hn; simp at hn
  refine ⟨by simp [hn], hd, hle, ?_, ?_⟩
  · rintro i oi hic (⟨hi, hDi⟩ | ⟨hi, hDi⟩) hoi
    · obtain ⟨_, oj, hoj, hs⟩ := reg.un n d hd i (h1 i hi hDi)
      rw [hoi] at hoj; simp at hoj; subst hoj; exact hs
    · obtain ⟨di, hdi, hu⟩ := h2 i hic hi hDi
      rw [hoi] at hdi; simp at hdi; subst hdi
      obtain ⟨_, oj, hoj, hs⟩ := reg.un i oi hoi n hu
      rw [hd] at hoj; simp at hoj; subst hoj; exact hs.symm
  · rintro i hic (⟨hi, hDi⟩ | ⟨hi, hDi⟩)
    · have hu := h1 i hi hDi
      by_cases e : n = c
      · rw [hend e] at hu; simp at hu
      · exact (apart_spec (T.apart n d (by omega) (by omega) hd i hu hi)).symm
    · obtain ⟨di, hdi, hu⟩ := h2 i hic hi hDi
      exact apart_spec (T.apart i di (by omega) hic hdi n hu hi)
theorem getD_set {listed : Array Bool} {n i : Nat} (hn : n < listed.size) : (listed.setIfInBounds n true).getD i false = true ↔ listed.getD i false = true ∨ i = n := by
  by_cases e : i = n
  · subst e; simp [Array.getD_eq_getD_getElem?, hn]
  · simp [Array.getD_eq_getD_getElem?, Array.getElem?_setIfInBounds, Ne.symm e, e]
theorem Like.iff {D' : Nat → Prop} (lk : Like L c S R D s) (h : ∀ i, D i ↔ D' i) : Like L c S R D' s := by
  have : D = D' := funext fun i => propext (h i)
  subst this; exact lk
/- one round of the loop -/
theorem LI.round {N : Nat} {p0 : Pl} {h0 : Heap} {w0 : World} {rc0 : Rc} {cs0 : List Frame} {listed : Array Bool} (ks : KSound x k) (reg : Reg x ops L) (T : Trace k B L 0 c S R I) (hB : B ≤ (S 0).hp.next) (hN : N ≤ I 0) (hNB : N ≤ B) (hh0 : h0.next = N) (li : LI x β k ops L B c N S R I p0 h0 w0 rc0 cs0 listed p s w b a cs)
    {n : Nat} {o : Oper} (hn : listed.getD n false = false) (ho : ops[n]? = some o) (hlt : n < c) (hready : ∀ j ∈ edgesOf o, listed.getD j false = true) {rest : List Nat} :
    ∃ p' s' w' a' cs', LI x β k ops L B c N S R I p0 h0 w0 rc0 cs0 (listed.setIfInBounds n true) p' s' w' b a' cs' ∧ Steps x.P (lone (fat b a (.inRegion ops (n :: rest) :: K)) cs w) (lone (fat b a' (.inRegion ops rest :: K)) cs' w') := by
  obtain ⟨d, hd⟩ := T.at hlt
  have nx := li.next reg T hn ho hd (by omega) (fun e => by omega) hready
  have lk := li.like
  have sr := li.sr
  have step := T.step n d (by omega) hlt hd
  have hreads : ∀ pos ∈ d.reads, s.tm.get pos = (S n).tm.get pos := fun pos hp => lk.reads T nx hp
  obtain ⟨hev, hwd⟩ := reads_ev (S := S) hreads
  obtain ⟨d0, hd0, un, hL⟩ := reg.at' n o ho
  rw [hd] at hL; simp at hL; subst hL
  simp only [Cx.oper, Option.bind_eq_some_iff, Option.some.injEq] at hd0
  obtain ⟨g, hg, dp, hdp, dop, hop, rfl⟩ := hd0
  have hsz : n < listed.size := by rw [li.size]; exact (Array.getElem?_eq_some_iff.1 ho).1
  have hclosed : Closed ops.toList fun i => (listed.setIfInBounds n true).getD i false = true := by
    intro i oi hi hoi j hj
    rw [getD_set hsz] at hi ⊢
    rcases hi with hi | rfl
    · exact .inl (li.closed i oi hi hoi j hj)
    · have : oi = o := by
        have hoi' : ops[i]? = some oi := by simpa using hoi
        rw [ho] at hoi'; simpa using hoi'.symm
      subst this; exact .inl (hready j hj)
  have hbelow : ∀ i, (listed.setIfInBounds n true).getD i false = true → i < c := by
    intro i hi
    rcases (getD_set hsz).1 hi with h | rfl
    · exact li.below i h
    · exact hlt
  have hbig := lk.big T hB
  -- the end
  have fin : ∀ {s1 : St} {p1 : Pl} {w1 : World} {a1 : Act} {cs1 : List Frame} {v : DV} {y : Value}, PostN N x p s.hp w p1 s1.hp w1 → (∀ i di, i < c → i ≠ n → L[i]? = some di → di.op.makes = true → (R i).lo = I i ∧ (R i).hi = I i + 1 → listed.getD i false = false → ∀ gg, p1.ι (I i) gg = none) → SRel x β p1 s1 w1 b a1 cs1 → csTo s.rc cs s1.rc cs1 → DRel p1 v y →
      Like L c S R (fun i => listed.getD i false = true ∨ i = n) (s1.put dp v) → Steps x.P (lone (fat b a (.inRegion ops (n :: rest) :: K)) cs w) (lone (fat b (a1.put o.dst y) (.inRegion ops rest :: K)) cs1 w1) →
      ∃ p' s' w' a' cs', LI x β k ops L B c N S R I p0 h0 w0 rc0 cs0 (listed.setIfInBounds n true) p' s' w' b a' cs' ∧ Steps x.P (lone (fat b a (.inRegion ops (n :: rest) :: K)) cs w) (lone (fat b a' (.inRegion ops rest :: K)) cs' w') := by
    intro s1 p1 w1 a1 cs1 v y hpo hfree hsr hcs hv hlk hst
    refine ⟨p1, s1.put dp v, w1, a1.put o.dst y, cs1, ⟨by simpa using li.size, hclosed, hbelow, hlk.iff fun i => (getD_set hsz).symm, hsr.put hdp hv, ?_, ?_, ?_⟩, hst⟩
    · rw [put_heap]; exact li.po.transN (by rw [hh0]; exact hpo)
    · rw [put_rc]; exact li.cs.trans hcs
    · intro i di hic hdi hmk hrg hli
      have hne : i ≠ n := fun e => by
        subst e
        rw [(getD_set hsz).2 (.inr rfl)] at hli; simp at hli
      have hli' : listed.getD i false = false := by
        cases hl : listed.getD i false with
        | false => rfl
        | true => rw [(getD_set hsz).2 (.inl hl)] at hli; simp at hli
      exact hfree i di hic hne hdi hmk hrg hli'
  generalize hs1 : S (n + 1) = s1' at step
  generalize hrn : R n = rn at step
  cases step with
  | skip hw =>
    have hw' : wanted s.tm g = some false := by rw [hwd]; exact hw
    have hwr := wanted_rel sr hg hw'
    have hmo := mstep_out (P := x.P) (b := b) (a := a) (k := K) (cs := cs) (w := w) (ops := ops) (i := n) (rest := rest) (by simp [ho, hwr])
    rw [ho] at hmo
    refine fin (s1 := s) (p1 := p) (w1 := w) (a1 := a) (cs1 := cs) ((Post.refl sr.inv).toN (Nat.le_trans hNB hbig)) (fun i di hic hne hdi hmk hrg hli gg => li.free i di hic hdi hmk hrg hli gg) sr (.refl _ _) unit_rel ?_ (.one hmo)
    refine lk.step T nx hlt (fun pos => ?_) (fun id => ?_) ?_ (put_defs _ _ _) (fun m hm => .inl (by rw [put_heap] at hm; exact hm))
    · by_cases e : dp = some pos
      · subst e; rw [if_pos rfl, hs1, put_tm_same, put_tm_same]
      · rw [if_neg e, put_tm _ _ _ _ e]
    · rw [hrn]
      exact ⟨fun h => by simp [Rec.wr, Rec.none, inW, elemN] at h, fun _ => by rw [put_heap]⟩
    · rw [hrn]
      exact ⟨fun h => by simp [Rec.none] at h, fun _ => by rw [put_heap, put_rc]; exact ⟨rfl, rfl⟩⟩
  | run F lo v s' s2 r run =>
    have hw' : wanted s.tm g = some true := by rw [hwd]; exact run.want
    have hwr := wanted_rel sr hg hw'
    have hIB : ∀ i di, i < c → L[i]? = some di → di.op.makes = true → (R i).hi = I i + 1 → I i < B := by
      intro i di hic hdi hmk hrg
      have h := T.step i di (by omega) hic hdi
      generalize S (i + 1) = sS at h
      generalize R i = rR at h hrg
      cases h with
      | skip hw => simp [Rec.none] at hrg
      | run F lo v s' s2 r run => exact run.kept hmk
    have hkeep : dop.makes = false → ∀ i di, i < c → i ≠ n → L[i]? = some di → di.op.makes = true → (R i).lo = I i ∧ (R i).hi = I i + 1 → listed.getD i false = false → I i ∉ F := by
      intro hmn i di hic hne hdi hmk hrg hli hF
      rcases Nat.lt_or_gt_of_ne hne with hlti | hgti
      · have hsep := nx.recs i hic (.inl ⟨hlti, by simp [hli]⟩)
        have hRF : (R n).F = F := by
          rw [hrn]
          cases hq : (dop.quiet && s'.hp.log.isEmpty) with
          | true => exact (by rw [(run.quietAt hq).1])
          | false => exact (by rw [(run.loudAt hq hmn).1])
        refine hsep.1 (I i) (by rw [hRF]; exact hF) ?_
        exact inW_iff.2 (.inr (by omega))
      · have h1 := (T.mono (i := n) (j := i) (by omega) (by omega)).1
        exact outIn_spec run.future hF ⟨h1, hIB i di hic hdi hmk hrg.2⟩
    cases hmk : dop.makes with
    | true =>
      obtain ⟨e1, e2, e3, e4, e5, _⟩ := run.makes hmk
      have hpl := (makes_plain hmk).1
      have he := run.he
      rw [e1] at he
      simp only [hmk, cond_true] at he
      rw [exec_plain hpl] at he
      simp only [Option.bind_eq_some_iff, Option.some.injEq, Prod.mk.injEq] at he
      obtain ⟨⟨v1, h1⟩, he, _, rfl, rfl⟩ := he
      have he' : evalOp (ev s.tm) ⟨I n, [], []⟩ dop = some (v1, h1) := by
        rw [← evalOp_congr (ρ := ev (S n).tm) (ρ' := ev s.tm) hev]; exact he
      have hIn := run.kept hmk
      have hfreeN : ∀ g, p.ι (I n) g = none := by
        intro g
        exact li.free n _ hlt hd hmk (by rw [hrn, e2]; exact ⟨rfl, rfl⟩) hn g
      obtain ⟨m0, hb0⟩ := below_big dop (ev s.tm)
      obtain ⟨blk, f, hf, hvf, hh1, _, _⟩ := makes_shape hmk hb0 he'
      have hNn : N ≤ I n := Nat.le_trans hN (T.mono (i := 0) (j := n) (by omega) (by omega)).1
      have hgr : ∀ id, id ≠ I n → h1.get id = none := by
        intro id hid
        rw [hh1]
        simp [Heap.get, getB, beq_false (Ne.symm hid)]
      have hwr1 : ∀ id, rn.wr id ↔ id = I n := by
        intro id
        rw [e2]
        unfold Rec.wr
        rw [inW_iff]
        simp; omega
      have ad := mach_make (N := N) (K := K) (rest := rest) (hm := ⟨s.hp.next, keepW [] (I n) (I n + 1) h1.bs ++ dropW [] (I n) (I n + 1) s.hp.bs, s.hp.log⟩) sr ho hwr hop hmk (n := 0) he' (by omega) hfreeN hNn (fun id => by
        simp only [Heap.get, getB_append, getB_keepW, getB_dropW]
        by_cases e : id = I n
        · have h3 : inW [] (I n) (I n + 1) id = true := inW_iff.2 (.inr (by omega))
          rw [h3]; simp [e]
          cases getB (I n) h1.bs <;> rfl
        · have h3 : inW [] (I n) (I n + 1) id = false := by
            cases hi : inW [] (I n) (I n + 1) id with
            | false => rfl
            | true => rcases inW_iff.1 hi with h | h
                      · simp at h
                      · omega
          rw [h3]; simp [e]) rfl (fun _ h => h)
      rcases ad with ⟨_, p', w', a', y, cs', g1, g2, g3, g4, g5, g6⟩ | ⟨z, p', w', h, _⟩
      · refine fin g1 (fun i di hic hne hdi hmk' hrg hli gg => ?_) g3 g4 g5 ?_ g6
        · cases hι : p'.ι (I i) gg with
          | none => rfl
          | some yy =>
            rcases g2 _ _ _ hι with h | h
            · rw [li.free i di hic hdi hmk' hrg hli gg] at h; simp at h
            · exact absurd h (T.kept_ne hic hlt hne hdi hd hmk' hmk)
        · refine lk.step T nx hlt (fun pos => ?_) (fun id => ?_) ?_ (put_defs _ _ _) (fun m hm => .inl (by rw [put_heap] at hm; exact hm))
          · by_cases e : dp = some pos
            · subst e; rw [if_pos rfl, hs1, put_tm_same, put_tm_same]
            · rw [if_neg e, put_tm _ _ _ _ e]; rfl
          · rw [hrn, hs1, put_heap, put_heap, run.get]
            refine ⟨fun hw => ?_, fun hw => ?_⟩
            · have := (hwr1 id).1 hw
              subst this
              rw [if_pos (show inW rn.W rn.lo rn.hi (I n) = true from hw)]
              simp only [St.heap, Heap.get, getB_append, getB_keepW, getB_dropW]
              have h3 : inW [] (I n) (I n + 1) (I n) = true := inW_iff.2 (.inr (by omega))
              rw [h3]; simp
              cases getB (I n) h1.bs <;> rfl
            · have hne : id ≠ I n := fun e => hw ((hwr1 id).2 e)
              simp only [St.heap, Heap.get, getB_append, getB_keepW, getB_dropW]
              have h3 : inW [] (I n) (I n + 1) id = false := by
                cases hi : inW [] (I n) (I n + 1) id with
                | false => rfl
                | true => rcases inW_iff.1 hi with h | h
                          · simp at h
                          · omega
              rw [h3]; simp
          · rw [hrn, e2]
            exact ⟨fun h => by simp at h, fun _ => by rw [put_heap, put_rc]; exact ⟨rfl, rfl⟩⟩
      · simp at h
    | false =>
      have hpick : pickIn s.hp.bs F = pickIn (S n).hp.bs F := by
        refine pickIn_congr fun id hid => ?_
        have hRF : (R n).F = F := by
          rw [hrn]
          cases hq : (dop.quiet && s'.hp.log.isEmpty) with
          | true => exact (by rw [(run.quietAt hq).1])
          | false => exact (by rw [(run.loudAt hq hmk).1])
        exact lk.heapAt T nx fun i hi hc => (nx.recs i hi hc).1 id (by rw [hRF]; exact hid)
      have hloud : rn.loud = true → s.hp.next = (S n).hp.next ∧ s.rc = (S n).rc := by
        intro hl
        exact lk.loudAt T nx fun i hi hc hl' => (nx.recs i hi hc).2.2 ⟨hl', by rw [hrn]; exact hl⟩
      obtain ⟨s3, x1, x2, x3, x4⟩ := exec_at run hmk hev hpick hloud
      have hNs : N ≤ s.hp.next := Nat.le_trans hNB hbig
      -- the heap after
      obtain ⟨hm, m1, m2, m3, m4, m5⟩ : ∃ hm : Heap, (∀ id, hm.get id = if inW s3.hp.log s.hp.next s3.hp.next id then s3.hp.get id else s.hp.get id) ∧ hm.next = s3.hp.next ∧ (∀ m, m ∈ s.hp.log ∨ m ∈ s3.hp.log → m ∈ hm.log) ∧ (∀ m ∈ hm.log, m ∈ s.hp.log ∨ m ∈ rn.W) ∧
          ((rn.loud = true → hm.next = s2.hp.next) ∧ (rn.loud = false → hm = s.hp)) := by
        rcases x4 with ⟨y1, y2, y3, y4, y5, y6, y7, y8, y9, y10⟩ | ⟨y1, y2, y3, y4, y5, y6, y7, y8⟩
        · have hnx : s.hp.next ≤ s'.hp.next := by
            rcases op_sound (K := K) (rest := rest) ks (show SRel x β p (s.heap ⟨s.hp.next, pickIn s.hp.bs F, []⟩) w b a cs from ⟨part_inv sr.inv (Nat.le_refl _) (fun id b h => by
              simp only [St.heap, Heap.get, getB_pickIn] at h
              split at h
              · exact h
              · simp at h), sr.tm, sr.nt, sr.defs, sr.rc, sr.base⟩) ho hwr hop x1 with ⟨_, p', w', a', y, cs', g1, _⟩ | ⟨z, p', w', _, g1, _⟩
            · have := g1.next; rw [y3] at this; exact this
            · have := g1.next; rw [y3] at this; exact this
          refine ⟨mergeAt s.hp.next s.hp s3.hp, fun id => merge_get, ?_, fun m hm => mem_unionLog.2 hm, fun m hm => ?_, fun _ => ?_, fun h => by rw [y1] at h; simp at h⟩
          · rw [y3]; exact Nat.max_eq_right hnx
          · rw [y3] at hm; rw [y4]; exact mem_unionLog.1 hm
          · rw [y8, y3, ← (hloud y1).1]; rfl
        · refine ⟨s.hp, fun id => ?_, by rw [y3], fun m hm => ?_, fun m hm => .inl hm, fun h => by rw [y1] at h; simp at h, fun _ => rfl⟩
          · have : inW s3.hp.log s.hp.next s3.hp.next id = false := by
              rw [y3]
              cases hi : inW [] s.hp.next s.hp.next id with
              | false => rfl
              | true => rcases inW_iff.1 hi with h | h
                        · simp at h
                        · omega
            rw [this]; rfl
          · rw [y3] at hm; simpa using hm
      have ad := mach_part (N := N) (K := K) (rest := rest) ks sr ho hwr hop x1 m1 m2 m3 hNs
      rcases ad with ⟨_, p', w', a', y, cs', g1, g2, g3, g4, g5, g6⟩ | ⟨z, p', w', h, _⟩
      · refine fin g1 (fun i di hic hne hdi hmk' hrg hli gg => ?_) g3 g4 g5 ?_ g6
        · cases hι : p'.ι (I i) gg with
          | none => rfl
          | some yy =>
            have hlt' := hIB i di hic hdi hmk' hrg.2
            rcases g2 _ _ _ hι with h | h | h
            · rw [li.free i di hic hdi hmk' hrg hli gg] at h; simp at h
            · omega
            · rcases x4 with ⟨y1, y2, y3, y4, y5, y6, y7, y8, y9, y10⟩ | ⟨y1, y2, y3, y4, y5, y6, y7, y8⟩
              · rw [y3] at h
                rcases inOr_spec run.hin h with h | h
                · exact absurd h (hkeep hmk i di hic hne hdi hmk' hrg hli)
                · omega
              · rw [y3] at h; simp at h
        · refine lk.step T nx hlt (fun pos => ?_) (fun id => ?_) ?_ (by rw [put_defs]; exact x3) (fun m hm => by rw [put_heap] at hm; rw [hrn]; exact m4 m hm)
          · by_cases e : dp = some pos
            · subst e; rw [if_pos rfl, hs1, put_tm_same, put_tm_same]
            · rw [if_neg e, put_tm _ _ _ _ e]; show s3.tm.get pos = _; rw [x2]
          · rw [hrn, hs1, put_heap, put_heap, run.get]
            rcases x4 with ⟨y1, y2, y3, y4, y5, y6, y7, y8, y9, y10⟩ | ⟨y1, y2, y3, y4, y5, y6, y7, y8⟩
            · have hin : inW s3.hp.log s.hp.next s3.hp.next id = inW rn.W rn.lo rn.hi id := by rw [y3, y4, y5, y6]
              refine ⟨fun hw => ?_, fun hw => ?_⟩
              · show hm.get id = _
                have hw2 : inW rn.W rn.lo rn.hi id = true := hw
                rw [m1, hin, if_pos hw2, if_pos hw2, y3]
              · show hm.get id = _
                have hw2 : ¬ inW rn.W rn.lo rn.hi id = true := hw
                rw [m1, hin, if_neg hw2]
            · have hno : ¬ rn.wr id := by
                intro h
                rcases inW_iff.1 h with h | h
                · rw [y4] at h; simp at h
                · omega
              refine ⟨fun hw => absurd hw hno, fun _ => ?_⟩
              show hm.get id = _
              rw [m5.2 y1]
          · rw [hrn, hs1, put_heap, put_heap, put_rc, put_rc]
            rcases x4 with ⟨y1, y2, y3, y4, y5, y6, y7, y8, y9, y10⟩ | ⟨y1, y2, y3, y4, y5, y6, y7, y8⟩
            · exact ⟨fun _ => ⟨m5.1 y1, by rw [y7]; exact y2⟩, fun h => by rw [y1] at h; simp at h⟩
            · refine ⟨fun h => by rw [y1] at h; simp at h, fun _ => ⟨?_, y2⟩⟩
              show hm.next = _
              rw [m5.2 y1]
      · simp at h
end
end Go.Dee
end
section
/- Regions that draw are sound: the loop over the order, the end. -/
namespace Go.Dee
section
variable {x : Cx} {β : Nat} {p q : Pl} {h h2 hm : Heap} {w w' : World} {s : St} {b : Frame} {a : Act} {cs : List Frame} {k : CallK} {ops : Array Oper} {K : List Item}
variable {B : Nat} {L : List DOper} {c : Nat} {S : Nat → St} {R : Nat → Rec} {I : Nat → Nat} {D : Nat → Prop}
variable {N : Nat} {p0 : Pl} {h0 : Heap} {w0 : World} {rc0 : Rc} {cs0 : List Frame} {listed : Array Bool} {out : Out} {s' : St}
theorem SRel.likeS {s2 : St} (sr : SRel x β p s w b a cs) (h1 : ∀ pos, s2.tm.get pos = s.tm.get pos) (h2 : ∀ id, s2.hp.get id = s.hp.get id) (h3 : s2.hp.next = s.hp.next) (h4 : s2.rc = s.rc) (h5 : s2.defs = s.defs) : SRel x β p s2 w b a cs :=
  ⟨sr.inv.likeH h2 h3, ⟨sr.tm.1, fun t d ht hd => sr.tm.2 t d ht (by rw [← h1]; exact hd)⟩, sr.nt, by rw [h5]; exact sr.defs, by rw [h4]; exact sr.rc, sr.base⟩
theorem getD_bool {l : Array Bool} {i : Nat} (h : ¬ l.getD i false = true) : l.getD i false = false := by
  cases e : l.getD i false with
  | false => rfl
  | true => exact absurd e h
theorem getD_swap {l : Array Bool} {i : Nat} (h : i < l.size) : l.getD i true = l.getD i false := by simp [Array.getD_eq_getD_getElem?, h]
/- all are listed -/
theorem LI.done (reg : Reg x ops L) (T : Trace k B L 0 c S R I) (E : Ends k B L c S I out s') (li : LI x β k ops L B c N S R I p0 h0 w0 rc0 cs0 listed p s w b a cs) (hall : ∀ i, i < ops.size → listed.getD i false = true) {s0 : St} (hs0 : s0.hp = h0) (hr0 : s0.rc = rc0) :
    Ex x β p0 s0 w0 b K (lone (fat b a (.inRegion ops [] :: K)) cs w) cs0 out s' := by
  rcases E with ⟨hc, rfl, rfl⟩ | ⟨o, pv, F, lo, v, s1, r, h1, _⟩
  · obtain ⟨h1, h2, h3, h4, h5⟩ := li.like.all T fun i hi => hall i (by rw [← reg.len, ← hc]; exact hi)
    refine ⟨p, w, a, cs, ?_, li.sr.likeS (fun pos => (h1 pos).symm) (fun id => (h2 id).symm) h3.symm h4.symm h5.symm, ?_, .one mstep_end⟩
    · rw [hs0]; exact li.po.like (fun id => (h2 id).symm) h3.symm li.like.log
    · rw [hr0, ← h4]; exact li.cs
  · have hlt : c < L.length := by
      rcases Nat.lt_or_ge c L.length with h | h
      · exact h
      · rw [List.getElem?_eq_none h] at h1; simp at h1
    have := li.below c (hall c (by rw [← reg.len]; exact hlt))
    omega
/- the one that panics -/
theorem LI.panics (ks : KSound x k) (reg : Reg x ops L) (T : Trace k B L 0 c S R I) (hB : B ≤ (S 0).hp.next) (hNB : N ≤ B) (hh0 : h0.next = N) (li : LI x β k ops L B c N S R I p0 h0 w0 rc0 cs0 listed p s w b a cs) {o : Oper} {d : DOper} {pv : FV} {F : List Nat} {lo : Nat} {v : DV} {s1 : St} {r : Rec}
    (hn : listed.getD c false = false) (ho : ops[c]? = some o) (hd : L[c]? = some d) (hready : ∀ j ∈ edgesOf o, listed.getD j false = true) (run : RunAt k B d (I c) (S c) F lo (.panic pv) v s1 s' r) (hun : d.un = []) {rest : List Nat} {s0 : St} (hs0 : s0.hp = h0) (hr0 : s0.rc = rc0) :
    Ex x β p0 s0 w0 b K (lone (fat b a (.inRegion ops (c :: rest) :: K)) cs w) cs0 (.panic pv) s' := by
  have nx := li.next reg T hn ho hd (Nat.le_refl c) (fun _ => hun) hready
  have lk := li.like
  have sr := li.sr
  have hall : ∀ i, i < c → listed.getD i false = true := fun i hi => reg.anc _ li.closed c o d ho hd hready i hi (by rw [hun]; simp)
  obtain ⟨q1, q2, q3, q4, q5⟩ := lk.all T hall
  obtain ⟨hev, hwd⟩ := reads_ev (o := d) (s := s) (S := S) (n := c) fun pos _ => q1 pos
  obtain ⟨d0, hd0, un, hL⟩ := reg.at' c o ho
  rw [hd] at hL; simp at hL; subst hL
  simp only [Cx.oper, Option.bind_eq_some_iff, Option.some.injEq] at hd0
  obtain ⟨g, hg, dp, hdp, dop, hop, rfl⟩ := hd0
  have hmk : dop.makes = false := by
    cases hm : dop.makes with
    | false => rfl
    | true => have := (run.makes hm).2.2.2.2.2; simp at this
  have hw' : wanted s.tm g = some true := by rw [hwd]; exact run.want
  have hwr := wanted_rel sr hg hw'
  have hpick : pickIn s.hp.bs F = pickIn (S c).hp.bs F := pickIn_congr fun id _ => q2 id
  obtain ⟨s3, x1, x2, x3, x4⟩ := exec_at run hmk hev hpick fun _ => ⟨q3, q4⟩
  have hNs : N ≤ s.hp.next := Nat.le_trans hNB (lk.big T hB)
  have htd := run.tmd
  obtain ⟨hm, m1, m2, m3, m4, m5, m6⟩ : ∃ hm : Heap, (∀ id, hm.get id = if inW s3.hp.log s.hp.next s3.hp.next id then s3.hp.get id else s.hp.get id) ∧ hm.next = s3.hp.next ∧ (∀ m, m ∈ s.hp.log ∨ m ∈ s3.hp.log → m ∈ hm.log) ∧ (∀ id, s'.hp.get id = hm.get id) ∧ s'.hp.next = hm.next ∧ (∀ m ∈ hm.log, m ∈ s'.hp.log) ∧ s'.rc = s3.rc := by
    rcases x4 with ⟨y1, y2, y3, y4, y5, y6, y7, y8, y9, y10⟩ | ⟨y1, y2, y3, y4, y5, y6, y7, y8⟩
    · have hnx : s.hp.next ≤ s1.hp.next := by
        rcases op_sound (K := K) (rest := rest) ks (show SRel x β p (s.heap ⟨s.hp.next, pickIn s.hp.bs F, []⟩) w b a cs from ⟨part_inv sr.inv (Nat.le_refl _) (fun id b h => by
          simp only [St.heap, Heap.get, getB_pickIn] at h
          split at h
          · exact h
          · simp at h), sr.tm, sr.nt, sr.defs, sr.rc, sr.base⟩) ho hwr hop x1 with ⟨_, p', w', a', y, cs', g1, _⟩ | ⟨z, p', w', _, g1, _⟩
        · have := g1.next; rw [y3] at this; exact this
        · have := g1.next; rw [y3] at this; exact this
      refine ⟨mergeAt s.hp.next s.hp s3.hp, fun id => merge_get, ?_, fun m hm => mem_unionLog.2 hm, fun id => ?_, ?_, fun m hm => ?_, by rw [y7, y2]⟩
      · rw [y3]; exact Nat.max_eq_right hnx
      · rw [run.get, merge_get, y3, y4, y5, y6, q2]
      · rw [y8, y3, ← q3]; rfl
      · rw [y3] at hm
        rcases mem_unionLog.1 hm with h | h
        · exact run.log.1 m (lk.log m h)
        · exact run.log.2 m (by rw [y4]; exact h)
    · refine ⟨s.hp, fun id => ?_, by rw [y3], fun m hm => ?_, fun id => by rw [y7, q2], by rw [y7, q3], fun m hm => by rw [y7]; exact lk.log m hm, by rw [y8, y2, q4]⟩
      · have : inW s3.hp.log s.hp.next s3.hp.next id = false := by
          rw [y3]
          cases hi : inW [] s.hp.next s.hp.next id with
          | false => rfl
          | true => rcases inW_iff.1 hi with h | h
                    · simp at h
                    · omega
        rw [this]; rfl
      · rw [y3] at hm; simpa using hm
  have ad := mach_part (N := N) (K := K) (rest := rest) ks sr ho hwr hop x1 m1 m2 m3 hNs
  rcases ad with ⟨h, _⟩ | ⟨z, p', w', hz, g1, g2, g3, y, g4, g5⟩
  · simp at h
  · simp only [Out.panic.injEq] at hz; subst hz
    have hpo := li.po.transN (by rw [hh0]; exact g1)
    obtain ⟨m7, m8⟩ := m6
    refine ⟨p', w', a, cs, ?_, g2.likeS (fun pos => ?_) (fun id => m4 id) m5 m8 ?_, ?_, _, y, g4, g5⟩
    · rw [hs0]; exact hpo.like m4 m5 m7
    · show s'.tm.get pos = s3.tm.get pos
      rw [htd.1, x2, q1]
    · show s'.defs = s3.defs
      rw [htd.2, x3, q5]
    · have h3 : s3.rc = s.rc := g3
      rw [hr0, m8, h3]; exact li.cs
theorem mem_ready {i : Nat} (h : i ∈ Region.ready .any ops listed) (hs : listed.size = ops.size) : ∃ o, ops[i]? = some o ∧ listed.getD i false = false ∧ ∀ j ∈ edgesOf o, listed.getD j false = true := by
  unfold Region.ready at h
  simp only [List.mem_filter, List.mem_range, Bool.and_eq_true, Bool.not_eq_true'] at h
  obtain ⟨h1, h2, h3⟩ := h
  have ho : ops[i]? = some ops[i] := Array.getElem?_eq_getElem h1
  rw [ho] at h3
  simp only [Option.map_some, Option.getD_some] at h3
  rw [Array.all_eq_true_iff_forall_mem] at h3
  refine ⟨ops[i], ho, by rw [← getD_swap (by omega)]; exact h2, fun j hj => ?_⟩
  unfold edgesOf at hj
  simp only [List.mem_map, List.mem_filter] at hj
  obtain ⟨e, ⟨he1, he2⟩, rfl⟩ := hj
  have := h3 e (by simpa using he1)
  simpa [he2] using this
theorem ready_mem {i : Nat} {o : Oper} (hs : listed.size = ops.size) (ho : ops[i]? = some o) (hn : listed.getD i false = false) (he : ∀ j ∈ edgesOf o, listed.getD j false = true) : i ∈ Region.ready .any ops listed := by
  obtain ⟨h1, _⟩ := Array.getElem?_eq_some_iff.1 ho
  unfold Region.ready
  simp only [List.mem_filter, List.mem_range, Bool.and_eq_true, Bool.not_eq_true']
  refine ⟨h1, by rw [getD_swap (by omega)]; exact hn, ?_⟩
  rw [ho]
  simp only [Option.map_some, Option.getD_some]
  rw [Array.all_eq_true_iff_forall_mem]
  intro e hem
  cases hb : Region.binds .any e with
  | false => rfl
  | true =>
    have := he e.on (by unfold edgesOf; simp only [List.mem_map, List.mem_filter]; exact ⟨e, ⟨by simpa using hem, hb⟩, rfl⟩)
    simp [this]
theorem none_ready (reg : Reg x ops L) (hs : listed.size = ops.size) (h : Region.ready .any ops listed = []) : ∀ i, i < ops.size → listed.getD i false = true := by
  intro i
  induction i using Nat.strongRecOn with
  | _ i ih =>
    intro hi
    refine Classical.byContradiction fun hne => ?_
    have ho : ops[i]? = some ops[i] := Array.getElem?_eq_getElem hi
    have := ready_mem hs ho (getD_bool hne) fun j hj => ih j (reg.back i _ ho j hj) (by have := reg.back i _ ho j hj; omega)
    rw [h] at this; simp at this
theorem draw_loop (ks : KSound x k) (reg : Reg x ops L) (T : Trace k B L 0 c S R I) (E : Ends k B L c S I out s') (hB : B ≤ (S 0).hp.next) (hN : N ≤ I 0) (hNB : N ≤ B) (hh0 : h0.next = N) {s0 : St} (hs0 : s0.hp = h0) (hr0 : s0.rc = rc0) :
    ∀ (fuel t : Nat) (listed : Array Bool) (p : Pl) (s : St) (w : World) (a : Act) (cs : List Frame), LI x β k ops L B c N S R I p0 h0 w0 rc0 cs0 listed p s w b a cs → cnt (fun i => listed.getD i false) ops.size ≤ fuel →
      Ex x β p0 s0 w0 b K (lone (fat b a (.inRegion ops (Region.linearise.go .any ops fuel t listed []) :: K)) cs w) cs0 out s'
  | 0, t, listed, p, s, w, a, cs, li, hf => by
    have : Region.linearise.go .any ops 0 t listed [] = [] := rfl
    rw [this]
    exact li.done reg T E (cnt_zero (by omega)) hs0 hr0
  | fuel + 1, t, listed, p, s, w, a, cs, li, hf => by
    have hgo : Region.linearise.go .any ops (fuel + 1) t listed [] = match (Region.ready .any ops listed)[t % (Region.ready .any ops listed).length]? with
      | some i => Region.linearise.go .any ops fuel (t / (Region.ready .any ops listed).length) (listed.setIfInBounds i true) [i]
      | none => [].reverse := rfl
    rw [hgo]
    cases hi : (Region.ready .any ops listed)[t % (Region.ready .any ops listed).length]? with
    | none =>
      have hnil : Region.ready .any ops listed = [] := by
        cases hr : Region.ready .any ops listed with
        | nil => rfl
        | cons y ys =>
          rw [hr] at hi
          have hlt : t % (y :: ys).length < (y :: ys).length := Nat.mod_lt _ (by simp)
          rw [List.getElem?_eq_getElem hlt] at hi; simp at hi
      exact li.done reg T E (none_ready reg li.size hnil) hs0 hr0
    | some n =>
      simp only
      rw [linearise_go_acc, List.reverse_singleton, List.singleton_append]
      obtain ⟨o, ho, hn, hready⟩ := mem_ready (List.mem_of_getElem? hi) li.size
      have hns : n < ops.size := (Array.getElem?_eq_some_iff.1 ho).1
      rcases Nat.lt_trichotomy n c with hlt | heq | hgt
      · obtain ⟨p1, s1, w1, a1, cs1, li1, hst⟩ := li.round (K := K) ks reg T hB hN hNB hh0 hn ho hlt hready (rest := Region.linearise.go .any ops fuel (t / (Region.ready .any ops listed).length) (listed.setIfInBounds n true) [])
        have hsz : n < listed.size := by rw [li.size]; exact hns
        have hcnt := (cnt_add (f := fun i => listed.getD i false) (g := fun i => (listed.setIfInBounds n true).getD i false) (n := n) hn ((getD_set hsz).2 (.inr rfl)) (fun i hi => by
          simp [Array.getD_eq_getD_getElem?, Array.getElem?_setIfInBounds, Ne.symm hi]) (m := ops.size)).1 hns
        have ih := draw_loop ks reg T E hB hN hNB hh0 hs0 hr0 fuel (t / (Region.ready .any ops listed).length) _ p1 s1 w1 a1 cs1 li1 (by omega)
        obtain ⟨p', w', a', cs', g1, g2, g3, g4⟩ := ih
        exact ⟨p', w', a', cs', g1, g2, g3, g4.steps hst⟩
      · subst heq
        rcases E with ⟨hc, rfl, rfl⟩ | ⟨d, pv, F, lo, v, s1, r, h1, rfl, h3, h4, h5⟩
        · rw [← reg.len] at hns; omega
        · exact li.panics ks reg T hB hNB hh0 hn ho h1 hready h3 h4 hs0 hr0
      · rcases E with ⟨hc, rfl, rfl⟩ | ⟨d, pv, F, lo, v, s1, r, h1, rfl, h3, h4, h5⟩
        · rw [← reg.len] at hns; omega
        · obtain ⟨dn, hdn⟩ : ∃ dn, L[n]? = some dn := ⟨L[n]'(by rw [reg.len]; exact hns), List.getElem?_eq_getElem _⟩
          have := li.below c (reg.anc _ li.closed n o dn ho hdn hready c hgt (h5 n dn hgt hdn))
          omega
theorem drawSound (ks : KSound x k) : DrawSound x k := by
  intro ops l t hl β s s' out p w b a cs K sr he
  have reg := reg_of hl
  let B := s.hp.next + makesN l
  let s1 : St := s.heap ⟨s.hp.next + makesN l, s.hp.bs, s.hp.log⟩
  obtain ⟨c, S, R, I, e1, e2, _, T, E⟩ := drawOps_trace (B := B) (L := l) l [] s.hp.next 0 [] s1 (fun _ => Rec.none) rfl rfl (by intro j hj; omega) rfl (Nat.le_refl _) he
  have po := Post.bump (h2 := s1.hp) sr.inv (fun _ => rfl) (Nat.le_add_right _ _) rfl
  have li : LI x β k ops l B c s.hp.next S R I p s.hp w s.rc cs (Array.replicate ops.size false) p s1 w b a cs := by
    have hno : ∀ i, ¬ (Array.replicate ops.size false).getD i false = true := by
      intro i h
      rw [Array.getD_eq_getD_getElem?, Array.getElem?_replicate] at h
      split at h <;> simp at h
    have hlast : ∀ W : Nat → Prop, last W (fun i => (Array.replicate ops.size false).getD i false = true) c = 0 := by
      intro W
      have : last W (fun i => (Array.replicate ops.size false).getD i false = true) c = last W (fun i => (Array.replicate ops.size false).getD i false = true) 0 := last_cut (Nat.zero_le _) fun i _ _ _ => hno i
      rw [this]; rfl
    refine ⟨by simp, fun i o hi => absurd hi (hno i), fun i hi => absurd hi (hno i), ⟨fun pos => by rw [hlast, e1], fun id => by rw [hlast, e1], by rw [hlast, e1], by rw [hlast, e1], by rw [e1], fun n hn => (T.mono (Nat.zero_le _) (Nat.le_refl c)).2.2 n (by rw [e1]; exact hn)⟩, sr.heap po, po, .refl _ _, ?_⟩
    intro i o hi ho hm hr _ g
    cases hι : p.ι (I i) g with
    | none => rfl
    | some y =>
      have h1 := sr.inv.nx _ _ _ hι
      have h2 := (T.mono (i := 0) (j := i) (Nat.zero_le _) (by omega)).1
      rw [e2] at h2; omega
  have hsch : Region.schedule true ops t = Region.linearise.go .any ops ops.size t (Array.replicate ops.size false) [] := by simp [Region.schedule, Region.linearise]
  rw [hsch]
  refine draw_loop ks reg T E (by rw [e1]; exact Nat.le_refl _) (by rw [e2]; exact Nat.le_refl _) (Nat.le_add_right _ _) rfl rfl rfl ops.size t _ p s1 w a cs li ?_
  have : ∀ (f : Nat → Bool) n, cnt f n ≤ n := by
    intro f n
    induction n with
    | zero => exact Nat.le_refl _
    | succ n ih => simp only [cnt]; split <;> omega
  exact this _ _
end
end Go.Dee
end
section
/- m[k]++ in any order. -/
namespace Go.Dee
/- the look-up does not see whether the entry was made before -/
theorem findKey_setKV {t : ETy} {k : FV} {v : DV} (hs : eqF t k k = some true) : ∀ {es : List (FV × DV × Nat)} {i n : Nat}, findKey t k es = some (some (i, v, n)) → findKey t k (setKV i k v es) = some (some (i, v, n))
  | [], i, n, h => by simp [findKey] at h
  | (k', x, m) :: l, i, n, h => by
    simp only [findKey, Option.bind_eq_some_iff] at h
    obtain ⟨r, hr, h⟩ := h
    cases r with
    | true =>
      simp only [cond_true, Option.some.injEq, Prod.mk.injEq] at h
      obtain ⟨rfl, rfl, rfl⟩ := h
      simp [setKV, findKey, hs]
    | false =>
      simp only [cond_false, Option.bind_eq_some_iff, Option.some.injEq] at h
      obtain ⟨y, hy, h⟩ := h
      cases y with
      | none => simp at h
      | some y =>
        obtain ⟨i', v', n'⟩ := y
        simp only [Option.map_some, Option.some.injEq, Prod.mk.injEq] at h
        obtain ⟨rfl, rfl, rfl⟩ := h
        simp only [setKV, findKey, hr, Option.bind_some, cond_false]
        rw [findKey_setKV hs hy]
        simp
theorem findKey_push {t : ETy} {k : FV} {v : DV} {c : Nat} (hs : eqF t k k = some true) : ∀ {es : List (FV × DV × Nat)}, findKey t k es = some none → ∃ i, findKey t k (es ++ [(k, v, c)]) = some (some (i, v, c))
  | [], h => ⟨0, by simp [findKey, hs]⟩
  | (k', x, m) :: l, h => by
    simp only [findKey, Option.bind_eq_some_iff] at h
    obtain ⟨r, hr, h⟩ := h
    cases r with
    | true => simp at h
    | false =>
      simp only [cond_false, Option.bind_eq_some_iff, Option.some.injEq] at h
      obtain ⟨y, hy, h⟩ := h
      cases y with
      | some y => simp at h
      | none =>
        obtain ⟨i, hi⟩ := findKey_push (v := v) (c := c) hs hy
        exact ⟨i + 1, by simp [findKey, hr, hi]⟩
theorem lookup_after {h h1 : Heap} {t : ETy} {z : FV} {d v ve : DV} {k : FV} (hl : opLookup h t z false d k = some v) (hm : opMapEntry h t z d k = some (ve, h1)) : opLookup h1 t z false d k = some v := by
  unfold opMapEntry at hm
  obtain ⟨h2, hm⟩ := chk_some hm
  obtain ⟨h3, hm⟩ := chk_some hm
  have hs : eqF t k k = some true := by
    unfold selfEq at h3
    cases e : eqF t k k with
    | none => rw [e] at h3; simp at h3
    | some b => rw [e] at h3; simp at h3; rw [h3]
  unfold opLookup at hl ⊢
  obtain ⟨_, hl⟩ := chk_some hl
  rw [h2]
  simp only [chk, cond_true]
  cases d with
  | map b =>
    simp only [Option.bind_eq_some_iff] at hm hl
    obtain ⟨⟨es, c⟩, hmap, r, hr, hm⟩ := hm
    obtain ⟨⟨es', c'⟩, hmap', r', hr', hl⟩ := hl
    rw [hmap] at hmap'; simp at hmap'; obtain ⟨rfl, rfl⟩ := hmap'
    simp only at hr hr' hm hl
    rw [hr] at hr'; simp at hr'; subst hr'
    have hget := Heap.map_some hmap
    cases r with
    | none =>
      simp only [Option.some.injEq, Prod.mk.injEq] at hm hl
      obtain ⟨_, rfl⟩ := hm
      obtain ⟨i, hi⟩ := findKey_push (v := .f z) (c := c) hs hr
      have : (h.set b (.map (es ++ [(k, .f z, c)]) (c + 1))).map b = some (es ++ [(k, .f z, c)], c + 1) := by
        unfold Heap.map; rw [Heap.get_set_same _ _ _ _ hget]
      simp only [this, Option.bind_some, hi, Option.some.injEq]
      simpa [okPair] using hl
    | some r =>
      obtain ⟨i, v', n⟩ := r
      simp only [Option.some.injEq, Prod.mk.injEq] at hm hl
      obtain ⟨_, rfl⟩ := hm
      have : (h.set b (.map (setKV i k v' es) c)).map b = some (setKV i k v' es, c) := by
        unfold Heap.map; rw [Heap.get_set_same _ _ _ _ hget]
      simp only [this, Option.bind_some, findKey_setKV hs hr, Option.some.injEq]
      exact hl
  | f y => cases y <;> simp at hm
  | _ => simp at hm
/- the seven operations, and what they say in the text's order -/
structure Inc (x : Cx) (ops : Array Oper) where
  m : Nat
  k : Nat
  v : Nat
  s : Nat
  e : Nat
  b : Nat
  x0 : Nat
  x1 : Nat
  o0 : Oper
  o1 : Oper
  o2 : Oper
  o3 : Oper
  o4 : Oper
  o5 : Oper
  o6 : Oper
  ag : Bool
  sz : Nat
  ty : ETy
  z : FV
  c : FV
  ops_eq : ops.toList = [o0, o1, o2, o3, o4, o5, o6]
  d0 : o0.dst = some m ∧ o0.guard = none ∧ x.op o0.op = some (.move (.t (slot x0)))
  d1 : o1.dst = some k ∧ o1.guard = none ∧ x.op o1.op = some (.load ag sz (.t (slot x1)))
  d2 : o2.dst = some v ∧ o2.guard = none ∧ x.op o2.op = some (.lookup ty z (.t (slot m)) (.t (slot k)) false)
  d3 : o3.dst = some s ∧ o3.guard = none ∧ x.op o3.op = some (.bin .add (.t (slot v)) (.c c))
  d4 : o4.dst = some e ∧ o4.guard = none ∧ x.op o4.op = some (.mapEntry ty z (.t (slot m)) (.t (slot k)))
  d5 : o5.dst = some b ∧ o5.guard = none ∧ x.op o5.op = some (.extract (.t (slot e)) 1)
  d6 : o6.dst = none ∧ o6.guard = none ∧ x.op o6.op = some (.entryStore (.t (slot m)) (.t (slot b)) (.t (slot s)))
  lt : m < x.nt ∧ k < x.nt ∧ v < x.nt ∧ s < x.nt ∧ e < x.nt ∧ b < x.nt ∧ x0 < x.nt ∧ x1 < x.nt
  ne : [m, k, v, s, e, b, x0, x1].Nodup
  e2 : 0 ∈ edgesOf o2 ∧ 1 ∈ edgesOf o2
  e3 : 2 ∈ edgesOf o3
  e4 : 0 ∈ edgesOf o4 ∧ 1 ∈ edgesOf o4
  e5 : 4 ∈ edgesOf o5
  e6 : ∀ i, i < 6 → i ∈ edgesOf o6
  back : backEdges ops.toList 0 = true
theorem apartN_iff : ∀ {l : List Nat}, apartN l = true → l.Nodup
  | [], _ => List.nodup_nil
  | n :: l, h => by
    simp only [apartN, Bool.and_eq_true, Bool.not_eq_true'] at h
    refine List.nodup_cons.2 ⟨fun hm => ?_, apartN_iff h.2⟩
    rw [elemN_mem.2 hm] at h; simp at h
theorem slotD {x : Cx} {t : Nat} {d : Option Pos} (h : x.dst (some t) = some d) : t < x.nt ∧ d = some (slot t) := by
  simp only [Cx.dst] at h
  obtain ⟨h1, h2⟩ := chk_some h
  simp at h2
  exact ⟨Nat.lt_of_succ_le (Nat.le_of_ble_eq_true h1), h2.symm⟩
theorem slotO {x : Cx} {t : Nat} {d : Opnd} (h : x.opnd (.tmp t) = some d) : t < x.nt ∧ d = .t (slot t) := by
  simp only [Cx.opnd] at h
  obtain ⟨h1, h2⟩ := chk_some h
  simp at h2
  exact ⟨Nat.lt_of_succ_le (Nat.le_of_ble_eq_true h1), h2.symm⟩
/- the text's run -/
structure IncRun {x : Cx} {ops : Array Oper} (i : Inc x ops) (s s' : St) where
  vm : DV
  a : DV
  vk : DV
  kf : FV
  vv : DV
  vs : DV
  ve : DV
  h1 : Heap
  vb : DV
  st : Int
  h2 : Heap
  r0 : s.tm.get (slot i.x0) = some vm
  r1 : s.tm.get (slot i.x1) = some a
  r1' : loadDV s.hp i.ag i.sz a = some vk
  r2 : theF vk = some kf
  r2' : opLookup s.hp i.ty i.z false vm kf = some vv
  r3 : binOp .add vv (.f i.c) = some vs
  r4 : opMapEntry s.hp i.ty i.z vm kf = some (ve, h1)
  r5 : opExtract 1 ve = some vb
  r6 : theInt vb = some st
  r6' : opEntryStore h1 vm st vs = some h2
  fin : s' = ⟨(((((s.tm.set (slot i.m) vm).set (slot i.k) vk).set (slot i.v) vv).set (slot i.s) vs).set (slot i.e) ve).set (slot i.b) vb, s.defs, s.rc, h2⟩
section
variable {x : Cx} {ops : Array Oper}
theorem inc_of (h : isMapInc ops.toList = true) {l : List DOper} (hl : x.opers ops ops.toList = some l) : Nonempty (∃ i : Inc x ops, l = [⟨some (slot i.m), none, .move (.t (slot i.x0)), []⟩, ⟨some (slot i.k), none, .load i.ag i.sz (.t (slot i.x1)), []⟩,
    ⟨some (slot i.v), none, .lookup i.ty i.z (.t (slot i.m)) (.t (slot i.k)) false, []⟩, ⟨some (slot i.s), none, .bin .add (.t (slot i.v)) (.c i.c), []⟩, ⟨some (slot i.e), none, .mapEntry i.ty i.z (.t (slot i.m)) (.t (slot i.k)), []⟩,
    ⟨some (slot i.b), none, .extract (.t (slot i.e)) 1, []⟩, ⟨none, none, .entryStore (.t (slot i.m)) (.t (slot i.b)) (.t (slot i.s)), []⟩]) := by
  unfold isMapInc at h
  split at h
  · rename_i m x0 ty0 ps0 af0 k tl x1 ty1 ps1 af1 v t1 m1 k1 ty2 ps2 af2 s tb v1 ik cn tb2 ty3 ps3 af3 e t2 m2 k2 ty4 ps4 af4 b e1 ty5 ps5 af5 ts m3 b1 s1 ty6 ps6 af6 heq
    simp only [Bool.and_eq_true, List.all_cons, List.all_nil, Bool.and_true] at h
    obtain ⟨⟨⟨⟨hm1, hm2, hm3⟩, hk1, hk2⟩, hv1, hs1, he1, hb1, ht⟩, hap, hinc, hback⟩ := h
    have hm1 := Nat.eq_of_beq_eq_true hm1
    have hm2 := Nat.eq_of_beq_eq_true hm2
    have hm3 := Nat.eq_of_beq_eq_true hm3
    have hk1 := Nat.eq_of_beq_eq_true hk1
    have hk2 := Nat.eq_of_beq_eq_true hk2
    have hv1 := Nat.eq_of_beq_eq_true hv1
    have hs1 := Nat.eq_of_beq_eq_true hs1
    have he1 := Nat.eq_of_beq_eq_true he1
    have hb1 := Nat.eq_of_beq_eq_true hb1
    have ht := Nat.eq_of_beq_eq_true ht
    subst hm1 hm2 hm3 hk1 hk2 hv1 hs1 he1 hb1 ht
    rw [heq] at hl
    simp only [Cx.opers, Cx.oper, Cx.guard, Option.bind_some, Option.bind_eq_some_iff, Option.some.injEq] at hl
    obtain ⟨_, ⟨q0, hq0, p0, hp0, rfl⟩, _, ⟨_, ⟨q1, hq1, p1, hp1, rfl⟩, _, ⟨_, ⟨q2, hq2, p2, hp2, rfl⟩, _, ⟨_, ⟨q3, hq3, p3, hp3, rfl⟩, _, ⟨_, ⟨q4, hq4, p4, hp4, rfl⟩, _, ⟨_, ⟨q5, hq5, p5, hp5, rfl⟩, _, ⟨_, ⟨q6, hq6, p6, hp6, rfl⟩, _, rfl, rfl⟩, rfl⟩, rfl⟩, rfl⟩, rfl⟩, rfl⟩, rfl⟩ := hl
    have hp0' := hp0; have hp1' := hp1; have hp2' := hp2; have hp3' := hp3; have hp4' := hp4; have hp5' := hp5; have hp6' := hp6
    simp only [Cx.op, Option.bind_eq_some_iff, Option.some.injEq] at hp0 hp1 hp2 hp3 hp4 hp5 hp6
    obtain ⟨a0, ha0, rfl⟩ := hp0
    obtain ⟨ag, _, sz, _, a1, ha1, hp1⟩ := hp1
    obtain ⟨_, hp1⟩ := chk_some hp1
    simp only [Option.some.injEq] at hp1; subst hp1
    obtain ⟨mt, hmt, z, hz, a2, ha2, a2', ha2', rfl⟩ := hp2
    obtain ⟨a3, ha3, a3', ha3', rfl⟩ := hp3
    obtain ⟨mt', hmt', z', hz', a4, ha4, a4', ha4', rfl⟩ := hp4
    obtain ⟨a5, ha5, rfl⟩ := hp5
    obtain ⟨a6, ha6, a6', ha6', a6'', ha6'', rfl⟩ := hp6
    rw [hmt] at hmt'; simp at hmt'; subst hmt'
    rw [hz] at hz'; simp at hz'; subst hz'
    obtain ⟨l0, rfl⟩ := slotD hq0
    obtain ⟨l1, rfl⟩ := slotD hq1
    obtain ⟨l2, rfl⟩ := slotD hq2
    obtain ⟨l3, rfl⟩ := slotD hq3
    obtain ⟨l4, rfl⟩ := slotD hq4
    obtain ⟨l5, rfl⟩ := slotD hq5
    obtain ⟨lx0, rfl⟩ := slotO ha0
    obtain ⟨lx1, rfl⟩ := slotO ha1
    obtain ⟨_, rfl⟩ := slotO ha2
    obtain ⟨_, rfl⟩ := slotO ha2'
    obtain ⟨_, rfl⟩ := slotO ha3
    obtain ⟨_, rfl⟩ := slotO ha4
    obtain ⟨_, rfl⟩ := slotO ha4'
    obtain ⟨_, rfl⟩ := slotO ha5
    obtain ⟨_, rfl⟩ := slotO ha6
    obtain ⟨_, rfl⟩ := slotO ha6'
    obtain ⟨_, rfl⟩ := slotO ha6''
    simp only [Cx.opnd, Option.bind_eq_some_iff, Option.some.injEq] at ha3'
    obtain ⟨c, hc, rfl⟩ := ha3'
    simp [Cx.dst] at hq6; subst hq6
    rw [heq] at hinc
    unfold incEdges at hinc
    simp only [List.map_cons, List.map_nil, Bool.and_eq_true, List.all_cons, List.all_nil, Bool.and_true] at hinc
    obtain ⟨g1, g2, g3, g4, g5, g6, g7, g8, g9, g10, g11, g12⟩ := hinc
    refine ⟨⟨⟨m, k, v1, s1, e1, b1, x0, x1, _, _, _, _, _, _, _, ag, sz, mt.1, z, c, heq, ⟨rfl, rfl, hp0'⟩, ⟨rfl, rfl, hp1'⟩, ⟨rfl, rfl, hp2'⟩, ⟨rfl, rfl, hp3'⟩, ⟨rfl, rfl, hp4'⟩, ⟨rfl, rfl, hp5'⟩, ⟨rfl, rfl, hp6'⟩, ⟨l0, l1, l2, l3, l4, l5, lx0, lx1⟩,
      apartN_iff hap, ⟨elemN_mem.1 g1, elemN_mem.1 g2⟩, elemN_mem.1 g3, ⟨elemN_mem.1 g4, elemN_mem.1 g5⟩, elemN_mem.1 g6, ?_, hback⟩, rfl⟩⟩
    intro i hi
    match i, hi with
    | 0, _ => exact elemN_mem.1 g7
    | 1, _ => exact elemN_mem.1 g8
    | 2, _ => exact elemN_mem.1 g9
    | 3, _ => exact elemN_mem.1 g10
    | 4, _ => exact elemN_mem.1 g11
    | 5, _ => exact elemN_mem.1 g12
  · simp at h
end
end Go.Dee
end
section
/- m[k]++ in any order, at the machine. -/
namespace Go.Dee
section
variable {x : Cx} {ops : Array Oper} {k : CallK} {s s' : St} {out : Out}
theorem Inc.slots (i : Inc x ops) (hnt : x.nt < 500000) : [slot i.m, slot i.k, slot i.v, slot i.s, slot i.e, slot i.b, slot i.x0, slot i.x1].Nodup := by
  have h := i.ne
  obtain ⟨h0, h1, h2, h3, h4, h5, h6, h7⟩ := i.lt
  have inj : ∀ {a b : Nat}, a < x.nt → b < x.nt → slot a = slot b → a = b := fun ha hb he => slot_inj (by omega) (by omega) he
  have ne : ∀ {a b : Nat}, a < x.nt → b < x.nt → a ≠ b → slot a ≠ slot b := fun ha hb hne he => hne (inj ha hb he)
  simp only [List.nodup_cons, List.mem_cons, List.not_mem_nil, or_false, not_or, List.nodup_nil, and_true, not_false_eq_true] at h ⊢
  obtain ⟨⟨a1, a2, a3, a4, a5, a6, a7⟩, ⟨b1, b2, b3, b4, b5, b6⟩, ⟨c1, c2, c3, c4, c5⟩, ⟨d1, d2, d3, d4⟩, ⟨e1, e2, e3⟩, ⟨f1, f2⟩, g1⟩ := h
  exact ⟨⟨ne h0 h1 a1, ne h0 h2 a2, ne h0 h3 a3, ne h0 h4 a4, ne h0 h5 a5, ne h0 h6 a6, ne h0 h7 a7⟩, ⟨ne h1 h2 b1, ne h1 h3 b2, ne h1 h4 b3, ne h1 h5 b4, ne h1 h6 b5, ne h1 h7 b6⟩, ⟨ne h2 h3 c1, ne h2 h4 c2, ne h2 h5 c3, ne h2 h6 c4, ne h2 h7 c5⟩,
    ⟨ne h3 h4 d1, ne h3 h5 d2, ne h3 h6 d3, ne h3 h7 d4⟩, ⟨ne h4 h5 e1, ne h4 h6 e2, ne h4 h7 e3⟩, ⟨ne h5 h6 f1, ne h5 h7 f2⟩, ne h6 h7 g1⟩
theorem inc_run (i : Inc x ops) (hnt : x.nt < 500000) (he : runOps k [⟨some (slot i.m), none, .move (.t (slot i.x0)), []⟩, ⟨some (slot i.k), none, .load i.ag i.sz (.t (slot i.x1)), []⟩,
    ⟨some (slot i.v), none, .lookup i.ty i.z (.t (slot i.m)) (.t (slot i.k)) false, []⟩, ⟨some (slot i.s), none, .bin .add (.t (slot i.v)) (.c i.c), []⟩, ⟨some (slot i.e), none, .mapEntry i.ty i.z (.t (slot i.m)) (.t (slot i.k)), []⟩,
    ⟨some (slot i.b), none, .extract (.t (slot i.e)) 1, []⟩, ⟨none, none, .entryStore (.t (slot i.m)) (.t (slot i.b)) (.t (slot i.s)), []⟩] s = some (out, s')) : out = .normal ∧ Nonempty (IncRun i s s') := by
  have hs := i.slots hnt
  simp only [List.nodup_cons, List.mem_cons, List.not_mem_nil, or_false, not_or, List.nodup_nil, and_true, not_false_eq_true] at hs
  obtain ⟨⟨a1, a2, a3, a4, a5, a6, a7⟩, ⟨b1, b2, b3, b4, b5, b6⟩, ⟨c1, c2, c3, c4, c5⟩, ⟨d1, d2, d3, d4⟩, ⟨e1, e2, e3⟩, ⟨f1, f2⟩, g1⟩ := hs
  simp only [runOps, wanted, Option.bind_some, cond_true, Dee.execOp, evalOp, Dee.keep, Dee.void, ev, St.put, St.heap, Option.bind_eq_some_iff, Option.some.injEq] at he
  obtain ⟨⟨o0, v0, s0⟩, ⟨⟨v0', h0⟩, ⟨w0, hw0, hk0⟩, ht0⟩, he⟩ := he
  simp only [Prod.mk.injEq] at hk0 ht0
  obtain ⟨rfl, rfl⟩ := hk0
  obtain ⟨rfl, rfl, rfl⟩ := ht0
  simp only [Option.bind_eq_some_iff, Option.some.injEq] at he
  obtain ⟨⟨o1, v1, s1⟩, ⟨⟨v1', h1⟩, ⟨p1, hp1, w1, hw1, hk1⟩, ht1⟩, he⟩ := he
  simp only [Prod.mk.injEq] at hk1 ht1
  obtain ⟨rfl, rfl⟩ := hk1
  obtain ⟨rfl, rfl, rfl⟩ := ht1
  simp only [Option.bind_eq_some_iff, Option.some.injEq] at he
  obtain ⟨⟨o2, v2, s2⟩, ⟨⟨v2', h2⟩, ⟨p2, hp2, q2, hq2, kf, hkf, w2, hw2, hk2⟩, ht2⟩, he⟩ := he
  simp only [Prod.mk.injEq] at hk2 ht2
  obtain ⟨rfl, rfl⟩ := hk2
  obtain ⟨rfl, rfl, rfl⟩ := ht2
  simp only [Option.bind_eq_some_iff, Option.some.injEq] at he
  obtain ⟨⟨o3, v3, s3⟩, ⟨⟨v3', h3⟩, ⟨p3, hp3, w3, hw3, hk3⟩, ht3⟩, he⟩ := he
  simp only [Prod.mk.injEq] at hk3 ht3
  obtain ⟨rfl, rfl⟩ := hk3
  obtain ⟨rfl, rfl, rfl⟩ := ht3
  simp only [Option.bind_eq_some_iff, Option.some.injEq] at he
  obtain ⟨⟨o4, v4, s4⟩, ⟨⟨v4', h4⟩, ⟨p4, hp4, q4, hq4, kf', hkf', hw4⟩, ht4⟩, he⟩ := he
  simp only [Prod.mk.injEq] at ht4
  obtain ⟨rfl, rfl, rfl⟩ := ht4
  simp only [Option.bind_eq_some_iff, Option.some.injEq] at he
  obtain ⟨⟨o5, v5, s5⟩, ⟨⟨v5', h5⟩, ⟨p5, hp5, w5, hw5, hk5⟩, ht5⟩, he⟩ := he
  simp only [Prod.mk.injEq] at hk5 ht5
  obtain ⟨rfl, rfl⟩ := hk5
  obtain ⟨rfl, rfl, rfl⟩ := ht5
  simp only [Option.bind_eq_some_iff, Option.some.injEq] at he
  obtain ⟨⟨o6, v6, s6⟩, ⟨⟨v6', h6⟩, ⟨p6, hp6, q6, hq6, r6, hr6, st, hst, w6, hw6, hk6⟩, ht6⟩, he⟩ := he
  simp only [Prod.mk.injEq] at hk6 ht6
  obtain ⟨rfl, rfl⟩ := hk6
  obtain ⟨rfl, rfl, rfl⟩ := ht6
  simp only [Option.some.injEq, Prod.mk.injEq] at he
  obtain ⟨rfl, rfl⟩ := he
  have G := @Tm.get_set_same
  have O := @Tm.get_set_other
  rw [O _ _ _ _ a7] at hp1
  rw [O _ _ _ _ (Ne.symm a1), G] at hp2
  rw [G] at hq2
  rw [G] at hp3
  simp only [Option.some.injEq] at hp2 hq2 hp3
  subst hp2 hq2 hp3
  rw [O _ _ _ _ (Ne.symm a3), O _ _ _ _ (Ne.symm a2), O _ _ _ _ (Ne.symm a1), G] at hp4
  rw [O _ _ _ _ (Ne.symm b2), O _ _ _ _ (Ne.symm b1), G] at hq4
  rw [G] at hp5
  simp only [Option.some.injEq] at hp4 hq4 hp5
  subst hp4 hq4 hp5
  rw [O _ _ _ _ (Ne.symm a5), O _ _ _ _ (Ne.symm a4), O _ _ _ _ (Ne.symm a3), O _ _ _ _ (Ne.symm a2), O _ _ _ _ (Ne.symm a1), G] at hp6
  rw [G] at hq6
  rw [O _ _ _ _ (Ne.symm d2), O _ _ _ _ (Ne.symm d1), G] at hr6
  simp only [Option.some.injEq] at hp6 hq6 hr6
  subst hp6 hq6 hr6
  rw [hkf] at hkf'; simp at hkf'; subst hkf'
  exact ⟨rfl, ⟨⟨_, _, _, _, _, _, _, _, _, _, _, hw0, hp1, hw1, hkf, hw2, hw3, hw4, hw5, hst, hw6, rfl⟩⟩⟩
end
section
variable {x : Cx} {β : Nat} {p q : Pl} {h h2 hm : Heap} {w w' : World} {s s' : St} {b : Frame} {a : Act} {cs : List Frame} {k : CallK} {ops : Array Oper} {K : List Item} {out : Out}
/- the slots that are written, and what is written there -/
def IncRun.pos {i : Inc x ops} (_ : IncRun i s s') : Nat → Pos
  | 0 => slot i.m | 1 => slot i.k | 2 => slot i.v | 3 => slot i.s | 4 => slot i.e | _ => slot i.b
def IncRun.val {i : Inc x ops} (r : IncRun i s s') : Nat → DV
  | 0 => r.vm | 1 => r.vk | 2 => r.vv | 3 => r.vs | 4 => r.ve | _ => r.vb
structure IncD {i : Inc x ops} (r : IncRun i s s') (D : Nat → Prop) (t : St) : Prop where
  done : ∀ n, n < 6 → D n → t.tm.get (r.pos n) = some (r.val n)
  other : ∀ q, (∀ n, n < 6 → D n → q ≠ r.pos n) → t.tm.get q = s.tm.get q
  defs : t.defs = s.defs
  rc : t.rc = s.rc
  hp : t.hp = s.hp ∧ ¬ D 4 ∧ ¬ D 6 ∨ t.hp = r.h1 ∧ D 4 ∧ ¬ D 6 ∨ t.hp = r.h2 ∧ D 4 ∧ D 6
theorem IncRun.pos_ne {i : Inc x ops} (r : IncRun i s s') (hnt : x.nt < 500000) {a b : Nat} (ha : a < 6) (hb : b < 6) (hab : a ≠ b) : r.pos a ≠ r.pos b := by
  have hs := i.slots hnt
  simp only [List.nodup_cons, List.mem_cons, List.not_mem_nil, or_false, not_or, List.nodup_nil, and_true, not_false_eq_true] at hs
  obtain ⟨⟨a1, a2, a3, a4, a5, a6, a7⟩, ⟨b1, b2, b3, b4, b5, b6⟩, ⟨c1, c2, c3, c4, c5⟩, ⟨d1, d2, d3, d4⟩, ⟨e1, e2, e3⟩, ⟨f1, f2⟩, g1⟩ := hs
  match a, b, ha, hb, hab with
  | 0, 1, _, _, _ => exact a1
  | 0, 2, _, _, _ => exact a2
  | 0, 3, _, _, _ => exact a3
  | 0, 4, _, _, _ => exact a4
  | 0, 5, _, _, _ => exact a5
  | 1, 2, _, _, _ => exact b1
  | 1, 3, _, _, _ => exact b2
  | 1, 4, _, _, _ => exact b3
  | 1, 5, _, _, _ => exact b4
  | 2, 3, _, _, _ => exact c1
  | 2, 4, _, _, _ => exact c2
  | 2, 5, _, _, _ => exact c3
  | 3, 4, _, _, _ => exact d1
  | 3, 5, _, _, _ => exact d2
  | 4, 5, _, _, _ => exact e1
  | 1, 0, _, _, _ => exact Ne.symm a1
  | 2, 0, _, _, _ => exact Ne.symm a2
  | 3, 0, _, _, _ => exact Ne.symm a3
  | 4, 0, _, _, _ => exact Ne.symm a4
  | 5, 0, _, _, _ => exact Ne.symm a5
  | 2, 1, _, _, _ => exact Ne.symm b1
  | 3, 1, _, _, _ => exact Ne.symm b2
  | 4, 1, _, _, _ => exact Ne.symm b3
  | 5, 1, _, _, _ => exact Ne.symm b4
  | 3, 2, _, _, _ => exact Ne.symm c1
  | 4, 2, _, _, _ => exact Ne.symm c2
  | 5, 2, _, _, _ => exact Ne.symm c3
  | 4, 3, _, _, _ => exact Ne.symm d1
  | 5, 3, _, _, _ => exact Ne.symm d2
  | 5, 4, _, _, _ => exact Ne.symm e1
  | 5, n + 5, _, hb, hab => exact absurd (show 5 = n + 5 by omega) hab
/- an operation is done -/
theorem IncD.put {i : Inc x ops} {r : IncRun i s s'} (hnt : x.nt < 500000) {D : Nat → Prop} {t : St} (d : IncD r D t) {n : Nat} (hn : n < 6) (h4 : n = 4 → t.hp = s.hp ∧ ¬ D 4 ∧ ¬ D 6) {hp : Heap} (hhp : hp = if n = 4 then r.h1 else t.hp) :
    IncD r (fun j => D j ∨ j = n) ((t.heap hp).put (some (r.pos n)) (r.val n)) := by
  refine ⟨fun j hj hD => ?_, fun q hq => ?_, d.defs, d.rc, ?_⟩
  · show (t.tm.set _ _).get _ = _
    by_cases e : j = n
    · subst e; exact Tm.get_set_same _ _ _
    · rw [Tm.get_set_other _ _ _ _ (r.pos_ne hnt hn hj (Ne.symm e))]
      exact d.done j hj (hD.resolve_right e)
  · show (t.tm.set _ _).get _ = _
    rw [Tm.get_set_other _ _ _ _ (Ne.symm (hq n hn (.inr rfl)))]
    exact d.other q fun j hj hD => hq j hj (.inl hD)
  · show hp = _ ∧ _ ∨ hp = _ ∧ _ ∨ hp = _ ∧ _
    by_cases e : n = 4
    · subst e
      obtain ⟨_, _, h6⟩ := h4 rfl
      exact .inr (.inl ⟨by simpa using hhp, .inr rfl, fun h => h.elim h6 (by omega)⟩)
    · rw [if_neg e] at hhp; subst hhp
      rcases d.hp with ⟨h1, h2, h3⟩ | ⟨h1, h2, h3⟩ | ⟨h1, h2, h3⟩
      · exact .inl ⟨h1, fun h => h.elim h2 (fun h => e h.symm), fun h => h.elim h3 (by omega)⟩
      · exact .inr (.inl ⟨h1, .inl h2, fun h => h.elim h3 (by omega)⟩)
      · exact .inr (.inr ⟨h1, .inl h2, .inl h3⟩)
/- an operation in the state after some -/
theorem inc_exec {i : Inc x ops} {r : IncRun i s s'} (hnt : x.nt < 500000) {D : Nat → Prop} {t : St} (d : IncD r D t) (hD : Closed ops.toList D) {n : Nat} {o : Oper} (ho : ops[n]? = some o) (hn : ¬ D n) (he : ∀ j ∈ edgesOf o, D j) :
    ∃ dp op v t', x.op o.op = some op ∧ o.guard = none ∧ x.dst o.dst = some dp ∧ Dee.execOp k op t = some (.normal, v, t') ∧ IncD r (fun j => D j ∨ j = n) (t'.put dp v) := by
  have ho' : ops.toList[n]? = some o := by simpa using ho
  have hopsI : ∀ (j : Nat) (oj : Oper), ops.toList[j]? = some oj → D j → ∀ e ∈ edgesOf oj, D e := fun j oj hj hDj => hD j oj hDj hj
  have hs := i.slots hnt
  simp only [List.nodup_cons, List.mem_cons, List.not_mem_nil, or_false, not_or, List.nodup_nil, and_true, not_false_eq_true] at hs
  obtain ⟨⟨a1, a2, a3, a4, a5, a6, a7⟩, ⟨b1, b2, b3, b4, b5, b6⟩, ⟨c1, c2, c3, c4, c5⟩, ⟨d1, d2, d3, d4⟩, ⟨e1, e2, e3⟩, ⟨f1, f2⟩, g1⟩ := hs
  obtain ⟨l0, l1, l2, l3, l4, l5, l6, l7⟩ := i.lt
  have hb : ∀ {t : Nat}, t < x.nt → Nat.blt t x.nt = true := fun h => Nat.ble_eq_true_of_le h
  have dst : ∀ {t : Nat}, t < x.nt → x.dst (some t) = some (some (slot t)) := fun h => by simp [Cx.dst, chk, hb h]
  have ops_eq := i.ops_eq
  have h4n : D 4 → D 0 ∧ D 1 := fun h => ⟨hopsI 4 i.o4 (by rw [ops_eq]; rfl) h 0 i.e4.1, hopsI 4 i.o4 (by rw [ops_eq]; rfl) h 1 i.e4.2⟩
  have h6n : D 6 → ∀ j, j < 6 → D j := fun h j hj => hopsI 6 i.o6 (by rw [ops_eq]; rfl) h j (i.e6 j hj)
  have x0 : t.tm.get (slot i.x0) = some r.vm := by
    rw [d.other _ fun n hn _ => by
      match n, hn with
      | 0, _ => exact Ne.symm a6
      | 1, _ => exact Ne.symm b5
      | 2, _ => exact Ne.symm c4
      | 3, _ => exact Ne.symm d3
      | 4, _ => exact Ne.symm e2
      | 5, _ => exact Ne.symm f1]
    exact r.r0
  have x1 : t.tm.get (slot i.x1) = some r.a := by
    rw [d.other _ fun n hn _ => by
      match n, hn with
      | 0, _ => exact Ne.symm a7
      | 1, _ => exact Ne.symm b6
      | 2, _ => exact Ne.symm c5
      | 3, _ => exact Ne.symm d4
      | 4, _ => exact Ne.symm e3
      | 5, _ => exact Ne.symm f2]
    exact r.r1
  rw [ops_eq] at ho'
  match n, ho' with
  | 0, ho' =>
    simp at ho'; subst ho'
    obtain ⟨k1, k2, k3⟩ := i.d0
    refine ⟨_, _, r.vm, t, k3, k2, by rw [k1]; exact dst l0, by simp [Dee.execOp, evalOp, Dee.keep, ev, x0, St.heap], ?_⟩
    exact d.put hnt (n := 0) (by omega) (fun h => by omega) (hp := t.hp) rfl
  | 1, ho' =>
    simp at ho'; subst ho'
    obtain ⟨k1, k2, k3⟩ := i.d1
    have hh : t.hp = s.hp := by
      rcases d.hp with ⟨h1, _⟩ | ⟨_, h2, _⟩ | ⟨_, h2, _⟩
      · exact h1
      · exact absurd (h4n h2).2 hn
      · exact absurd (h4n h2).2 hn
    refine ⟨_, _, r.vk, t, k3, k2, by rw [k1]; exact dst l1, by simp [Dee.execOp, evalOp, Dee.keep, ev, x1, hh, r.r1', St.heap]; rw [← hh], ?_⟩
    exact d.put hnt (n := 1) (by omega) (fun h => by omega) (hp := t.hp) rfl
  | 2, ho' =>
    simp at ho'; subst ho'
    obtain ⟨k1, k2, k3⟩ := i.d2
    have m0 := d.done 0 (by omega) (he 0 i.e2.1)
    have m1 := d.done 1 (by omega) (he 1 i.e2.2)
    simp only [IncRun.pos, IncRun.val] at m0 m1
    have hlk : opLookup t.hp i.ty i.z false r.vm r.kf = some r.vv := by
      rcases d.hp with ⟨h1, _⟩ | ⟨h1, _⟩ | ⟨_, _, h6⟩
      · rw [h1]; exact r.r2'
      · rw [h1]; exact lookup_after r.r2' r.r4
      · exact absurd (h6n h6 2 (by omega)) hn
    refine ⟨_, _, r.vv, t, k3, k2, by rw [k1]; exact dst l2, by simp [Dee.execOp, evalOp, Dee.keep, ev, m0, m1, r.r2, hlk, St.heap], ?_⟩
    exact d.put hnt (n := 2) (by omega) (fun h => by omega) (hp := t.hp) rfl
  | 3, ho' =>
    simp at ho'; subst ho'
    obtain ⟨k1, k2, k3⟩ := i.d3
    have m2 := d.done 2 (by omega) (he 2 i.e3)
    simp only [IncRun.pos, IncRun.val] at m2
    refine ⟨_, _, r.vs, t, k3, k2, by rw [k1]; exact dst l3, by simp [Dee.execOp, evalOp, Dee.keep, ev, m2, r.r3, St.heap], ?_⟩
    exact d.put hnt (n := 3) (by omega) (fun h => by omega) (hp := t.hp) rfl
  | 4, ho' =>
    simp at ho'; subst ho'
    obtain ⟨k1, k2, k3⟩ := i.d4
    have m0 := d.done 0 (by omega) (he 0 i.e4.1)
    have m1 := d.done 1 (by omega) (he 1 i.e4.2)
    simp only [IncRun.pos, IncRun.val] at m0 m1
    have hh : t.hp = s.hp ∧ ¬ D 4 ∧ ¬ D 6 := by
      rcases d.hp with h | ⟨_, h2, _⟩ | ⟨_, h2, _⟩
      · exact h
      · exact absurd h2 hn
      · exact absurd h2 hn
    refine ⟨_, _, r.ve, t.heap r.h1, k3, k2, by rw [k1]; exact dst l4, by simp [Dee.execOp, evalOp, Dee.keep, ev, m0, m1, r.r2, hh.1, r.r4, St.heap], ?_⟩
    exact d.put hnt (n := 4) (by omega) (fun _ => hh) rfl
  | 5, ho' =>
    simp at ho'; subst ho'
    obtain ⟨k1, k2, k3⟩ := i.d5
    have m4 := d.done 4 (by omega) (he 4 i.e5)
    simp only [IncRun.pos, IncRun.val] at m4
    refine ⟨_, _, r.vb, t, k3, k2, by rw [k1]; exact dst l5, by simp [Dee.execOp, evalOp, Dee.keep, ev, m4, r.r5, St.heap], ?_⟩
    exact d.put hnt (n := 5) (by omega) (fun h => by omega) (hp := t.hp) rfl
  | 6, ho' =>
    simp at ho'; subst ho'
    obtain ⟨k1, k2, k3⟩ := i.d6
    have m0 := d.done 0 (by omega) (he 0 (i.e6 0 (by omega)))
    have m3 := d.done 3 (by omega) (he 3 (i.e6 3 (by omega)))
    have m5 := d.done 5 (by omega) (he 5 (i.e6 5 (by omega)))
    have m4 := he 4 (i.e6 4 (by omega))
    simp only [IncRun.pos, IncRun.val] at m0 m3 m5
    have hh : t.hp = r.h1 := by
      rcases d.hp with ⟨_, h2, _⟩ | ⟨h1, _⟩ | ⟨_, _, h2⟩
      · exact absurd m4 h2
      · exact h1
      · exact absurd h2 hn
    refine ⟨none, _, Dee.unit, t.heap r.h2, k3, k2, by rw [k1]; rfl, by simp [Dee.execOp, evalOp, Dee.void, ev, m0, m3, m5, r.r6, hh, r.r6', St.heap], ?_⟩
    refine ⟨fun j hj hDj => d.done j hj (hDj.resolve_right (by omega)), fun q hq => d.other q fun j hj hDj => hq j hj (.inl hDj), d.defs, d.rc, .inr (.inr ⟨rfl, .inl m4, .inr rfl⟩)⟩
  | n + 7, ho' => simp at ho'
theorem IncD.iff {i : Inc x ops} {r : IncRun i s s'} {D D' : Nat → Prop} {t : St} (d : IncD r D t) (h : ∀ j, D j ↔ D' j) : IncD r D' t := by
  have : D = D' := funext fun i => propext (h i)
  subst this; exact d
theorem inc_loop (ks : KSound x k) {i : Inc x ops} (r : IncRun i s s') (hnt : x.nt < 500000) {p0 : Pl} {w0 : World} {cs0 : List Frame} : ∀ (fuel t : Nat) (listed : Array Bool) (p : Pl) (sD : St) (w : World) (a : Act) (cs : List Frame), listed.size = ops.size → Closed ops.toList (fun j => listed.getD j false = true) →
    IncD r (fun j => listed.getD j false = true) sD → SRel x β p sD w b a cs → Post x p0 s.hp w0 p sD.hp w → csTo s.rc cs0 sD.rc cs → cnt (fun i => listed.getD i false) ops.size ≤ fuel →
      Ex x β p0 s w0 b K (lone (fat b a (.inRegion ops (Region.linearise.go .any ops fuel t listed []) :: K)) cs w) cs0 .normal s' := by
  have done : ∀ (listed : Array Bool) (p : Pl) (sD : St) (w : World) (a : Act) (cs : List Frame), IncD r (fun j => listed.getD j false = true) sD → SRel x β p sD w b a cs → Post x p0 s.hp w0 p sD.hp w → csTo s.rc cs0 sD.rc cs → (∀ i, i < ops.size → listed.getD i false = true) →
      Ex x β p0 s w0 b K (lone (fat b a (.inRegion ops [] :: K)) cs w) cs0 .normal s' := by
    intro listed p sD w a cs d sr po hcs hall
    have hsz : ops.size = 7 := by have := congrArg List.length i.ops_eq; simpa using this
    have hh : sD.hp = r.h2 := by
      rcases d.hp with ⟨_, _, h⟩ | ⟨_, _, h⟩ | ⟨h, _⟩
      · exact absurd (hall 6 (by omega)) h
      · exact absurd (hall 6 (by omega)) h
      · exact h
    have htm : ∀ q, s'.tm.get q = sD.tm.get q := by
      intro q
      have hfin : s'.tm = (((((s.tm.set (r.pos 0) (r.val 0)).set (r.pos 1) (r.val 1)).set (r.pos 2) (r.val 2)).set (r.pos 3) (r.val 3)).set (r.pos 4) (r.val 4)).set (r.pos 5) (r.val 5) := congrArg St.tm r.fin
      rw [hfin]
      by_cases h5 : q = r.pos 5
      · subst h5; rw [Tm.get_set_same, d.done 5 (by omega) (hall 5 (by omega))]
      · rw [Tm.get_set_other _ _ _ _ (Ne.symm h5)]
        by_cases h4 : q = r.pos 4
        · subst h4; rw [Tm.get_set_same, d.done 4 (by omega) (hall 4 (by omega))]
        · rw [Tm.get_set_other _ _ _ _ (Ne.symm h4)]
          by_cases h3 : q = r.pos 3
          · subst h3; rw [Tm.get_set_same, d.done 3 (by omega) (hall 3 (by omega))]
          · rw [Tm.get_set_other _ _ _ _ (Ne.symm h3)]
            by_cases h2 : q = r.pos 2
            · subst h2; rw [Tm.get_set_same, d.done 2 (by omega) (hall 2 (by omega))]
            · rw [Tm.get_set_other _ _ _ _ (Ne.symm h2)]
              by_cases h1 : q = r.pos 1
              · subst h1; rw [Tm.get_set_same, d.done 1 (by omega) (hall 1 (by omega))]
              · rw [Tm.get_set_other _ _ _ _ (Ne.symm h1)]
                by_cases h0 : q = r.pos 0
                · subst h0; rw [Tm.get_set_same, d.done 0 (by omega) (hall 0 (by omega))]
                · rw [Tm.get_set_other _ _ _ _ (Ne.symm h0)]
                  exact (d.other q fun n hn _ => by
                    match n, hn with
                    | 0, _ => exact h0
                    | 1, _ => exact h1
                    | 2, _ => exact h2
                    | 3, _ => exact h3
                    | 4, _ => exact h4
                    | 5, _ => exact h5).symm
    have hhp : s'.hp = sD.hp := (congrArg St.hp r.fin).trans hh.symm
    have hrc : s'.rc = sD.rc := (congrArg St.rc r.fin).trans d.rc.symm
    have hdf : s'.defs = sD.defs := (congrArg St.defs r.fin).trans d.defs.symm
    exact ⟨p, w, a, cs, by rw [hhp]; exact po, sr.likeS htm (fun id => by rw [hhp]) (by rw [hhp]) hrc hdf, by rw [hrc]; exact hcs, .one mstep_end⟩
  intro fuel
  induction fuel with
  | zero =>
    intro t listed p sD w a cs hsz hcl d sr po hcs hf
    exact done listed p sD w a cs d sr po hcs (cnt_zero (by omega))
  | succ fuel ih =>
    intro t listed p sD w a cs hsz hcl d sr po hcs hf
    have hgo : Region.linearise.go .any ops (fuel + 1) t listed [] = match (Region.ready .any ops listed)[t % (Region.ready .any ops listed).length]? with
      | some i => Region.linearise.go .any ops fuel (t / (Region.ready .any ops listed).length) (listed.setIfInBounds i true) [i]
      | none => [].reverse := rfl
    rw [hgo]
    cases hi : (Region.ready .any ops listed)[t % (Region.ready .any ops listed).length]? with
    | none =>
      have hnil : Region.ready .any ops listed = [] := by
        cases hr : Region.ready .any ops listed with
        | nil => rfl
        | cons y ys =>
          rw [hr] at hi
          have hlt : t % (y :: ys).length < (y :: ys).length := Nat.mod_lt _ (by simp)
          rw [List.getElem?_eq_getElem hlt] at hi; simp at hi
      have hall : ∀ i, i < ops.size → listed.getD i false = true := by
        intro j
        induction j using Nat.strongRecOn with
        | _ j ihj =>
          intro hj
          refine Classical.byContradiction fun hne => ?_
          have ho : ops[j]? = some ops[j] := Array.getElem?_eq_getElem hj
          have hbk : ∀ e ∈ edgesOf ops[j], e < 0 + j := backEdges_spec i.back j ops[j] (by simp)
          have := ready_mem hsz ho (getD_bool hne) fun e he => ihj e (by have := hbk e he; omega) (by have := hbk e he; omega)
          rw [hnil] at this; simp at this
      exact done listed p sD w a cs d sr po hcs hall
    | some n =>
      simp only
      rw [linearise_go_acc, List.reverse_singleton, List.singleton_append]
      obtain ⟨o, ho, hn, hready⟩ := mem_ready (List.mem_of_getElem? hi) hsz
      have hns : n < ops.size := (Array.getElem?_eq_some_iff.1 ho).1
      have hnl : n < listed.size := by omega
      obtain ⟨dp, op, v, t', e1, e2, e3, e4, e5⟩ := inc_exec (k := k) (r := r) hnt d hcl ho (by simp [hn]) hready
      have hwr : Region.wanted o (yielded ops a.tmps) = true := by unfold Region.wanted; rw [e2]
      have hst : ∀ (st : St) (v : DV), (st.put dp v).hp = st.hp ∧ (st.put dp v).rc = st.rc := by intro st v; cases dp <;> exact ⟨rfl, rfl⟩
      rcases op_sound ks sr (K := K) (rest := Region.linearise.go .any ops fuel (t / (Region.ready .any ops listed).length) (listed.setIfInBounds n true) []) ho hwr e1 e4 with ⟨_, p', w', a', y, cs', g1, g2, _, g3, g4, g5⟩ | ⟨z, p', w', hz, _⟩
      · have hcl' : Closed ops.toList fun i => (listed.setIfInBounds n true).getD i false = true := by
          intro j oj hj hoj e he
          rw [getD_set hnl] at hj ⊢
          rcases hj with hj | rfl
          · exact .inl (hcl j oj hj hoj e he)
          · have : oj = o := by
              have hoj' : ops[j]? = some oj := by simpa using hoj
              rw [ho] at hoj'; simpa using hoj'.symm
            subst this; exact .inl (hready e he)
        have hcnt := (cnt_add (f := fun i => listed.getD i false) (g := fun i => (listed.setIfInBounds n true).getD i false) (n := n) hn ((getD_set hnl).2 (.inr rfl)) (fun i hi => by
          simp [Array.getD_eq_getD_getElem?, Array.getElem?_setIfInBounds, Ne.symm hi]) (m := ops.size)).1 hns
        obtain ⟨p2, w2, a2, cs2, f1, f2, f3, f4⟩ := ih (t / (Region.ready .any ops listed).length) _ p' (t'.put dp v) w' (a'.put o.dst y) cs' (by simpa using hsz) hcl' (e5.iff fun i => (getD_set hnl).symm) (g2.put e3 g4) (by rw [(hst t' v).1]; exact po.trans g1) (by rw [(hst t' v).2]; exact hcs.trans g3) (by omega)
        exact ⟨p2, w2, a2, cs2, f1, f2, f3, f4.steps g5⟩
      · simp at hz
theorem incSound (ks : KSound x k) : IncSound x k := by
  intro ops l t hmi hl β s s' out p w b a cs K sr he
  obtain ⟨⟨i, rfl⟩⟩ := inc_of hmi hl
  have hnt : x.nt < 500000 := by rw [← sr.nt]; exact sr.tm.1
  obtain ⟨rfl, ⟨r⟩⟩ := inc_run i hnt he
  have hsch : Region.schedule true ops t = Region.linearise.go .any ops ops.size t (Array.replicate ops.size false) [] := by simp [Region.schedule, Region.linearise]
  rw [hsch]
  have hno : ∀ i, ¬ (Array.replicate ops.size false).getD i false = true := by
    intro i h
    rw [Array.getD_eq_getD_getElem?, Array.getElem?_replicate] at h
    split at h <;> simp at h
  refine inc_loop ks r hnt ops.size t _ p s w a cs (by simp) (fun i o hi => absurd hi (hno i)) ⟨fun n _ h => absurd h (hno n), fun q _ => rfl, rfl, rfl, .inl ⟨rfl, hno 4, hno 6⟩⟩ sr (.refl sr.inv) (.refl _ _) ?_
  have : ∀ (f : Nat → Bool) n, cnt f n ≤ n := by
    intro f n
    induction n with
    | zero => exact Nat.le_refl _
    | succ n ih => simp only [cnt]; split <;> omega
  exact this _ _
theorem drawOk (x : Cx) : DrawOk x := fun _ n ks => ⟨drawSound (x := x.at n) (ks.at n), incSound (x := x.at n) (ks.at n)⟩
end
end Go.Dee
end
section
/- A law's call; the table of functions. -/
namespace Go.Dee
open Go.RowKit
section
variable {x : Cx} {β : Nat} {p q : Pl} {h h1 h' : Heap} {w w1 w' : World} {k : CallK} {cs : List Frame}
theorem leave_calls (ks : KSound x k) {f : FuncId} {df : DFunc} {fn : Func} (hfn : x.P.funcs[f]? = some fn) (hres : x.results fn.results.toList = some df.results) {s : St} {v : DV} {rc' : Rc} (he : leave k df none s = some (.ret v, rc', h'))
    {fr : Frame} (hf : fr.fn = f) (hkind : fr.kind = .normal) (i : Inv x p s.hp w) (ht : TmRel p s.tm fr.tmps) (hnt : fr.tmps.size = x.nt) (hd : DefsRel x β p w s.defs fr.defers) (hm : Md p none fr.mode) (hb : β ≤ w.heap.size) :
    ∃ p' w' fr' y, PostB β x p s.hp w p' h' w' ∧ Steps x.P (lone fr cs w) (lone fr' cs w') ∧ fr'.fn = f ∧ fr'.leaving x.P w' (.returned y) ∧ DRel p' v y := by
  simp only [leave, Option.bind_eq_some_iff] at he
  obtain ⟨⟨p1, h1⟩, hu, he⟩ := he
  obtain ⟨p', w', fr', g1, g2, g3, g4, g5, g6, g7⟩ := unwind_sound (cs := cs) ks s.defs none s.hp p1 h1 hu p w fr i hd hm hb
  cases p1 with
  | none =>
    simp only [Option.bind_eq_some_iff, Option.some.injEq, Prod.mk.injEq] at he
    obtain ⟨l, hl, he, rfl, rfl⟩ := he
    simp only [COut.ret.injEq] at he
    obtain ⟨y, hy, hrun⟩ := results_sound g2.inv (ht.mono g2.ext) hnt hres hl
    refine ⟨p', w', fr', y, g2, g1, by rw [g6, hf], ⟨g3, g4, by rw [g7]; exact hkind, fn, by rw [g6, hf]; exact hfn, by rw [g5]; exact hrun⟩, by rw [← he]; exact hy⟩
  | some v =>
    simp only [Option.some.injEq, Prod.mk.injEq] at he
    simp at he
theorem enter_calls (hfol : x.P.follows .mixedOrders = true) (ks : KSound x k) {f : FuncId} {df : DFunc} (hfn : FnOk x f df) {n : Nat} {args : List DV} {vs : List Value} {v : DV} {rc' : Rc}
    (he : enter k n df args .off h = some (.ret v, rc', h')) (i : Inv x p h w) (ha : CD p args vs) :
    ∃ p' w' fr' y, Post x p h w p' h' w' ∧ Steps x.P (lone (Frame.enter x.P f vs.toArray .normal) cs w) (lone fr' cs w') ∧ fr'.fn = f ∧ fr'.leaving x.P w' (.returned y) ∧ DRel p' v y := by
  obtain ⟨fn, c, e1, _, e2, e3, e4, e5, e6⟩ := hfn
  unfold enter at he
  obtain ⟨hlen, he⟩ := chk_some he
  have hlen := Nat.le_of_ble_eq_true hlen
  rw [e6] at hlen
  simp only [Option.bind_eq_some_iff] at he
  obtain ⟨⟨out, s1⟩, hex, he⟩ := he
  let x1 := x.at fn.ntmps
  let a0 : Act := ⟨vs.toArray ++ Array.replicate (fn.ntmps - vs.toArray.size) undef, []⟩
  let b : Frame := Frame.enter x.P f vs.toArray .normal
  have hfat : Frame.enter x.P f vs.toArray .normal = fat b a0 [.code c] := by simp [b, fat, Frame.enter, e1, e2, a0]
  have hbr : b.roundOf = none := rfl
  have hvl := ha.1
  have sr : SRel x1 w.heap.size p ⟨slots args 0 .leaf, [], .off, h⟩ w b a0 cs := by
    refine ⟨i.at _, slots_rel ha hlen e5, ?_, ⟨.nil, by simp [a0]⟩, ⟨hbr, rfl⟩, Nat.le_refl _⟩
    have : x1.nt = fn.ntmps := rfl
    rw [this]
    simp [a0]; omega
  obtain ⟨hd1, hd2⟩ := drawOk x k fn.ntmps ks
  obtain ⟨p1, w1, a1, cs1, g1, g2, g3, g4⟩ := (exec_sound (x := x1) hfol (ks.at fn.ntmps) hd1 hd2 n).1 df.body _ out s1 hex w.heap.size c p w b a0 cs [] e3 sr
  obtain ⟨_, rfl⟩ := g3.off
  rw [← hfat] at g4
  have fin : ∀ (fr : Frame), leave k df none s1 = some (.ret v, rc', h') → Steps x.P (lone (Frame.enter x.P f vs.toArray .normal) cs1 w) (lone fr cs1 w1) → fr.fn = f → fr.tmps = a1.tmps → fr.defers = a1.defers → fr.kind = .normal → fr.mode = .returning →
      ∃ p' w' fr' y, Post x p h w p' h' w' ∧ Steps x.P (lone (Frame.enter x.P f vs.toArray .normal) cs1 w) (lone fr' cs1 w') ∧ fr'.fn = f ∧ fr'.leaving x.P w' (.returned y) ∧ DRel p' v y := by
    intro fr hl hs hf ht hd hk hm
    obtain ⟨p2, w2, fr2, y, k1, k2, k3, k4, k5⟩ := leave_calls (x := x1) (cs := cs1) (ks.at fn.ntmps) e1 e4 hl hf hk g2.inv (by rw [ht]; exact g2.tm) (by rw [ht]; exact g2.nt) (by rw [hd]; exact g2.defs) hm g2.base
    exact ⟨p2, w2, fr2, y, (PostB.join g1 k1).un, hs.trans k2, k3, k4, k5⟩
  cases out with
  | normal => exact fin _ he (Steps.trans g4 (.one (mstep_leave hbr))) rfl rfl rfl rfl rfl
  | ret =>
    obtain ⟨k', g4⟩ := g4
    exact fin _ he (Steps.trans g4 (.one (mstep_ret hbr))) rfl rfl rfl rfl rfl
  | panic v1 =>
    simp only [leave, Option.bind_eq_some_iff] at he
    obtain ⟨⟨pv, hh⟩, hu, he⟩ := he
    obtain ⟨k', y1, hy1, g4⟩ := g4
    cases pv with
    | some z => simp at he
    | none =>
      obtain ⟨p', w', fr', m1, m2, m3, m4, m5, m6, m7⟩ := unwind_sound (x := x1) (cs := cs1) (ks.at fn.ntmps) s1.defs (some v1) s1.hp none hh hu p1 w1 _ g2.inv g2.defs (show Md p1 (some v1) (Frame.mode { fat b a1 k' with mode := .panicking [{ v := y1, recovered := false }] }) from ⟨y1, hy1, rfl⟩) g2.base
      simp only [Option.bind_eq_some_iff, Option.some.injEq, Prod.mk.injEq, COut.ret.injEq] at he
      obtain ⟨l, hl, hv0, rfl, rfl⟩ := he
      obtain ⟨y, hy, hrun⟩ := results_sound m2.inv (g2.tm.mono m2.ext) g2.nt e4 hl
      exact ⟨p', w', fr', y, (PostB.join g1 m2).un, Steps.trans g4 m1, m6, ⟨m3, m4, m7, fn, by rw [m6]; exact e1, by rw [m5]; exact hrun⟩, by rw [← hv0]; exact hy⟩
  | exit id => simp at he
  | goto l => simp at he
theorem callV_calls (hfol : x.P.follows .mixedOrders = true) {env : FuncId → Option DFunc} (henv : EnvOk x env) {n : Nat} {f : FuncId} {args : List DV} {vs : List Value} {v : DV} {rc' : Rc} (he : callV env (n + 1) (.f (.func f [] [])) args .off h = some (.ret v, rc', h'))
    (i : Inv x p h w) (ha : CD p args vs) : Calls x.P f vs.toArray w fun e w' => ∃ y p', e = .returned y ∧ DRel p' v y ∧ Post x p h w p' h' w' := by
  intro cs
  simp only [callV, Option.bind_eq_some_iff, List.map_nil, List.nil_append, List.append_nil] at he
  obtain ⟨df, hdf, he⟩ := he
  obtain ⟨p', w', fr', y, g1, g2, g3, g4, g5⟩ := enter_calls (cs := cs) hfol (callV_sound hfol (drawOk x) henv n) (henv f df hdf) he i ha
  exact ⟨_, w', fr', ⟨y, p', rfl, g5, g1⟩, g2, g3, g4⟩
theorem Post.below {p' : Pl} (po : Post x p Heap.empty w p' h' w') : Below w.heap.size w w' := by
  obtain ⟨h1, h2, h3⟩ := po.env
  exact ⟨h1, h3, h2, po.size, fun k hk => po.mod k hk fun id _ ⟨blk, hb, _⟩ => by simp [Heap.get, Heap.empty, getB] at hb⟩
/- a world in which nothing is the interpreter's own: all cells are frozen -/
def allM (w : World) : Addr → Option Value := fun a => if a.spot = none then w.cell? a else none
theorem start_inv (hG : Glob x ⟨allM w, fun _ => none, fun _ _ => none⟩) : Inv x ⟨allM w, fun _ => none, fun _ _ => none⟩ Heap.empty w := by
  refine ⟨fun a v hv => ?_, fun b n hn => by simp at hn, fun id blk hb => by simp [Heap.get, Heap.empty, getB] at hb, fun id id' b ⟨blk, hb, _⟩ => by simp [Heap.get, Heap.empty, getB] at hb, fun id g y hy => by simp at hy, fun id g b base hy => by simp at hy, hG⟩
  unfold allM at hv
  dsimp only at hv
  split at hv
  · rename_i h; exact ⟨h, hv⟩
  · simp at hv
end
/- THE TABLE: what the compiler says is so -/
section
variable {x : Cx}
theorem Ok.loops : ∀ (ret : List Nat) (dc : DCode) (out : List Nat) (ex : List (Nat × List Nat)) (c : Code), Ok x c dc → Ok x c (liveC ret dc out ex).1 := by
  intro ret dc
  induction dc with
  | seq a b iha ihb =>
    intro out ex c h
    cases c with
    | seq c1 c2 => exact ⟨iha _ _ _ h.1, ihb _ _ _ h.2⟩
    | region id ops d => cases d <;> simp [Ok] at h
    | _ => simp [Ok] at h
  | cond o a b iha ihb =>
    intro out ex c h
    cases c with
    | cond o' c1 c2 => exact ⟨h.1, iha _ _ _ h.2.1, ihb _ _ _ h.2.2⟩
    | region id ops d => cases d <;> simp [Ok] at h
    | _ => simp [Ok] at h
  | block i a ih =>
    intro out ex c h
    cases c with
    | block j c1 => exact ⟨h.1, ih _ _ _ h.2⟩
    | region id ops d => cases d <;> simp [Ok] at h
    | _ => simp [Ok] at h
  | loop l a ih =>
    intro out ex c h
    cases c with
    | loop c1 => exact ih _ _ _ h
    | region id ops d => cases d <;> simp [Ok] at h
    | _ => simp [Ok] at h
  | scope a ih =>
    intro out ex c h
    cases c with
    | scope c1 => exact ih _ _ _ h
    | region id ops d => cases d <;> simp [Ok] at h
    | _ => simp [Ok] at h
  | rangeFunc f ps a b iha ihb =>
    intro out ex c h
    cases c with
    | rangeFunc f' ps' c1 c2 => exact ⟨h.1, h.2.1, iha _ _ _ h.2.2.1, ihb _ _ _ h.2.2.2⟩
    | region id ops d => cases d <;> simp [Ok] at h
    | _ => simp [Ok] at h
  | _ => intro out ex c h; exact h
theorem code_ok : ∀ {c : Code} {dc : DCode}, x.code c = some dc → Ok x c dc := by
  intro c
  induction c with
  | skip => intro dc h; simp [Cx.code] at h; subst h; trivial
  | region id ops d =>
    intro dc h
    simp only [Cx.code] at h
    cases d with
    | false =>
      simp only [cond_false, Option.bind_eq_some_iff, Option.some.injEq] at h
      obtain ⟨l, hl, rfl⟩ := h
      exact hl
    | true =>
      simp only [cond_true] at h
      cases hm : isMapInc ops.toList with
      | true =>
        rw [hm] at h
        simp only [cond_true, Option.bind_eq_some_iff, Option.some.injEq] at h
        obtain ⟨l, hl, rfl⟩ := h
        exact ⟨hm, hl⟩
      | false =>
        rw [hm] at h
        simp only [cond_false, Option.bind_eq_some_iff, Option.some.injEq] at h
        obtain ⟨l, hl, rfl⟩ := h
        exact hl
  | seq a b iha ihb =>
    intro dc h
    simp only [Cx.code, Option.bind_eq_some_iff, Option.some.injEq] at h
    obtain ⟨p, hp, q, hq, rfl⟩ := h
    exact ⟨iha hp, ihb hq⟩
  | cond o a b iha ihb =>
    intro dc h
    simp only [Cx.code, Option.bind_eq_some_iff, Option.some.injEq] at h
    obtain ⟨o', ho, p, hp, q, hq, rfl⟩ := h
    exact ⟨ho, iha hp, ihb hq⟩
  | block i a ih =>
    intro dc h
    simp only [Cx.code, Option.bind_eq_some_iff, Option.some.injEq] at h
    obtain ⟨p, hp, rfl⟩ := h
    exact ⟨rfl, ih hp⟩
  | loop a ih =>
    intro dc h
    simp only [Cx.code, Option.bind_eq_some_iff, Option.some.injEq] at h
    obtain ⟨p, hp, rfl⟩ := h
    exact ih hp
  | rangeFunc f ps a b iha ihb =>
    intro dc h
    simp only [Cx.code, Option.bind_eq_some_iff, Option.some.injEq] at h
    obtain ⟨f', hf, ps', hps, p, hp, q, hq, rfl⟩ := h
    exact ⟨hf, hps, iha hp, ihb hq⟩
  | exit i => intro dc h; simp [Cx.code] at h; subst h; exact rfl
  | scope a ih =>
    intro dc h
    simp only [Cx.code, Option.bind_eq_some_iff, Option.some.injEq] at h
    obtain ⟨p, hp, rfl⟩ := h
    exact ih hp
  | label l => intro dc h; simp [Cx.code] at h; subst h; exact rfl
  | goto l => intro dc h; simp [Cx.code] at h; subst h; exact rfl
  | ret => intro dc h; simp [Cx.code] at h; subst h; trivial
  | refuse s => intro dc h; simp [Cx.code] at h
theorem fnOk_of {f : FuncId} {fn : Func} {df : DFunc} (hfn : x.P.funcs[f]? = some fn) (hname : (fn.name == "runtime.NumGoroutine") = false) (h : x.func fn = some df) : FnOk x f df := by
  simp only [Cx.func, Option.bind_eq_some_iff] at h
  obtain ⟨c, hc, d, hd, rs, hrs, h⟩ := h
  obtain ⟨h1, h⟩ := chk_some h
  simp only [Bool.and_eq_true] at h1
  simp only [Option.some.injEq] at h
  subst h
  exact ⟨fn, c, hfn, hname, hc, Ok.loops _ _ _ _ _ (code_ok hd), hrs, Nat.lt_of_succ_le (Nat.le_of_ble_eq_true h1.1), rfl⟩
end
end Go.Dee
end
section
/- An argument that is read as data, as a frozen value. -/
namespace Go.Dee
inductive Ty where
  | int (k : IntKind) | bool | str
  | slice (sz : Nat) (e : Ty)
  | agg (fs : List Ty)
  deriving Inhabited
mutual
def Ty.size : Ty → Nat
  | .agg fs => Ty.sizeL fs
  | _ => 1
def Ty.sizeL : List Ty → Nat
  | [] => 0
  | t :: l => t.size + Ty.sizeL l
end
inductive FOk : Ty → FV → Prop
  | int (k : IntKind) (n : Int) (h : (Lit.int k n).wf = true) : FOk (.int k) (.int k n)
  | bool (b : Bool) : FOk .bool (.bool b)
  | str (s : ByteArray) (h : s.size ≤ maxLen) : FOk .str (.str s)
  | nil (sz : Nat) (e : Ty) : FOk (.slice sz e) .nilslice
  | slice {sz : Nat} {e : Ty} (es : List FV) (hl : es.length ≤ maxLen) (h : ∀ x ∈ es, FOk e x) : FOk (.slice sz e) (.slice sz es none)
  | agg {fs : List Ty} (vs : List FV) (hl : fs.length = vs.length) (h : ∀ (i : Nat) (T : Ty) (v : FV), fs[i]? = some T → vs[i]? = some v → FOk T v) : FOk (.agg fs) (.agg (vs.flatMap FV.cells))
theorem FOk.size {T : Ty} {v : FV} (h : FOk T v) : v.cells.length = T.size := by
  induction h with
  | agg vs hl hp ih =>
    rename_i fs
    show (vs.flatMap FV.cells).length = Ty.sizeL fs
    clear hp
    induction fs generalizing vs with
    | nil => cases vs with
      | nil => rfl
      | cons => simp at hl
    | cons T fs ihf =>
      cases vs with
      | nil => simp at hl
      | cons v vs =>
        simp only [List.flatMap_cons, List.length_append, Ty.sizeL]
        have h0 := ih 0 T v rfl rfl
        rw [h0, ihf vs (by simpa using hl) (fun i a b h1 h2 => ih (i + 1) a b (by simpa using h1) (by simpa using h2))]
  | _ => rfl
theorem FOk.mk {fs : List Ty} {vs : List FV} (h : PW FOk fs vs) : FOk (.agg fs) (.agg (vs.flatMap FV.cells)) := .agg vs h.1 h.2
/- the fields lie one behind the other -/
def tyFields (f : TypeId → Option Ty) (sz : TypeId → Nat) : List Field → Nat → Option (List Ty)
  | [], _ => some []
  | x :: l, off => (f x.type).bind fun T => chk (Nat.beq x.offset off && Nat.beq (sz x.type) T.size) <| (tyFields f sz l (off + T.size)).bind fun r => some (T :: r)
def tyOf (P : Program) : Nat → TypeId → Option Ty
  | 0, _ => none
  | n + 1, t =>
    match P.underlying t with
    | some (.int k) => some (.int k)
    | some .bool => some .bool
    | some .string => some .str
    | some (.slice e) => (tyOf P n e).bind fun T => chk (Nat.beq (P.cellsOf e) T.size && Nat.blt 0 T.size) (some (.slice T.size T))
    | some (.struct fs) => (tyFields (tyOf P n) P.cellsOf fs.toList 0).bind fun l => chk (Nat.beq (P.cellsOf t) (Ty.sizeL l)) (some (.agg l))
    | some (.array k e) => (tyOf P n e).bind fun T => chk (Nat.beq (P.cellsOf e) T.size && Nat.beq (P.cellsOf t) (k * T.size)) (some (.agg (List.replicate k T)))
    | _ => none
theorem mapM_pw {α β : Type} {f : α → Option β} : ∀ {l : List α} {ys : List β}, l.mapM f = some ys → PW (fun x y => f x = some y) l ys
  | [], ys, h => by simp at h; subst h; exact .nil
  | x :: l, ys, h => by
    simp only [List.mapM_cons, Option.bind_eq_bind, Option.bind_eq_some_iff, Option.pure_def, Option.some.injEq] at h
    obtain ⟨y, hy, zs, hz, rfl⟩ := h
    exact .cons hy (mapM_pw hz)
theorem PW.range {β : Type} {R : Nat → β → Prop} {n : Nat} {ys : List β} (h : PW R (List.range n) ys) : ys.length = n ∧ ∀ (i : Nat) (y : β), ys[i]? = some y → R i y := by
  have hl := h.1
  simp at hl
  refine ⟨hl.symm, fun i y hy => ?_⟩
  have hi : i < n := by
    rcases Nat.lt_or_ge i ys.length with h | h
    · omega
    · rw [List.getElem?_eq_none h] at hy; simp at hy
  exact h.2 i i y (by simp [hi]) hy
theorem sizeL_replicate (T : Ty) : ∀ k, Ty.sizeL (List.replicate k T) = k * T.size
  | 0 => by simp [Ty.sizeL]
  | k + 1 => by rw [List.replicate_succ, Ty.sizeL, sizeL_replicate T k, Nat.succ_mul]; omega
/- parts that are told one by one, as the whole -/
theorem parts_whole {M : Addr → Option Value} : ∀ {Ts : List Ty} {cs : List Value} (off : Nat → Nat), (∀ i, off (i + 1) = off i + (Ts[i]?.map Ty.size).getD 0) → cs.length = off 0 + Ty.sizeL Ts → ∀ (vs : List FV), PW FOk Ts vs → (∀ (i : Nat) (T : Ty) (v : FV), Ts[i]? = some T → vs[i]? = some v → CF M v.cells ((cs.drop (off i)).take T.size)) →
    CF M (vs.flatMap FV.cells) (cs.drop (off 0))
  | [], cs, off, _, hl, vs, hp, _ => by
    have := hp.nil_left; subst this
    have : cs.drop (off 0) = [] := by apply List.drop_eq_nil_of_le; simp [Ty.sizeL] at hl; omega
    rw [this]; exact .nil
  | T :: Ts, cs, off, ho, hl, vs, hp, h => by
    obtain ⟨v, vs, rfl, h1, h2⟩ := hp.cons_left
    have e1 := h 0 T v rfl rfl
    have o1 : off 1 = off 0 + T.size := by have := ho 0; simpa using this
    have ih := parts_whole (Ts := Ts) (cs := cs) (fun i => off (i + 1)) (fun i => by have := ho (i + 1); simpa using this) (by simp only [Ty.sizeL] at hl; show cs.length = off 1 + _; omega) vs h2 (fun i T' v' a b => h (i + 1) T' v' (by simpa using a) (by simpa using b))
    have : cs.drop (off 0) = (cs.drop (off 0)).take T.size ++ cs.drop (off 1) := by
      rw [o1, ← List.drop_drop, List.take_append_drop]
    rw [this, List.flatMap_cons]
    exact e1.append ih
section
variable {H : Type} {enc : TypeId × Value → H} {P : Program} {W : World} {spare : Nat → Bool} {held : Bool}
theorem cells_get {base : Nat} {a : Addr} {n : Nat} {l : List Value} (h : W.cells? base a n = some l) : l.length = n ∧ ∀ (j : Nat) (v : Value), l[j]? = some v → W.cell? (a.add j) = some v := by
  unfold World.cells? at h
  split at h
  · exact (mapM_pw h).range
  · simp at h
theorem CF.mem {M : Addr → Option Value} {a : List FV} {b : List Value} (h : CF M a b) {i : Nat} {v : FV} (hv : a[i]? = some v) : ∃ y, b[i]? = some y ∧ FRel M v y := h.get hv
theorem trod_cells : ∀ (fuel n : Nat) (t : TypeId) (T : Ty) (cs : List Value) (d : DataW H) (ps : List MemPlace), tyOf P n t = some T → DataW.trod enc P W 0 spare held fuel t cs = some (d, ps) → ∃ fv, FOk T fv ∧ CF (allM W) fv.cells cs
  | 0, n, t, T, cs, d, ps, _, h => by simp [DataW.trod] at h
  | fuel + 1, 0, t, T, cs, d, ps, hT, _ => by simp [tyOf] at hT
  | fuel + 1, n + 1, t, T, cs, d, ps, hT, h => by
    have ih := trod_cells fuel n
    unfold tyOf at hT
    unfold DataW.trod at h
    cases hu : P.underlying t with
    | none => rw [hu] at hT; simp at hT
    | some D =>
      rw [hu] at hT h
      cases D with
      | int k =>
        simp at hT; subst hT
        match cs, h with
        | [.int k' m], h =>
          simp only at h
          split at h
          · rename_i hk; obtain ⟨rfl, hw⟩ := hk
            exact ⟨.int k' m, .int _ _ hw, .cons (.int _ _) .nil⟩
          · simp at h
      | bool =>
        simp at hT; subst hT
        match cs, h with
        | [.bool b], h => exact ⟨.bool b, .bool b, .cons (.bool _) .nil⟩
      | string =>
        simp at hT; subst hT
        match cs, h with
        | [.string s], h =>
          simp only at h
          split at h
          · rename_i hk; exact ⟨.str s, .str s hk, .cons (.str _) .nil⟩
          · simp at h
      | slice e =>
        simp only [Option.bind_eq_some_iff] at hT
        obtain ⟨Te, hTe, hT⟩ := hT
        obtain ⟨hck, hT⟩ := chk_some hT
        simp only [Option.some.injEq] at hT; subst hT
        simp only [Bool.and_eq_true] at hck
        have hsz := Nat.eq_of_beq_eq_true hck.1
        have hpos : 0 < Te.size := Nat.lt_of_succ_le (Nat.le_of_ble_eq_true hck.2)
        match cs, h with
        | [.slice none 0 0], h => exact ⟨.nilslice, .nil _ _, .cons .nilslice .nil⟩
        | [.slice (some a) len cap], h =>
          simp only at h
          split at h
          · rename_i hk
            simp only [Option.bind_eq_some_iff, Option.map_eq_some_iff] at h
            obtain ⟨elems, hel, rest, hrest, _⟩ := h
            obtain ⟨el1, el2⟩ := (mapM_pw hel).range
            have each : ∀ i, i < len → ∃ fv cs', FOk Te fv ∧ CF (allM W) fv.cells cs' ∧ W.cells? 0 (a.add (i * P.cellsOf e)) (P.cellsOf e) = some cs' := by
              intro i hi
              obtain ⟨y, hy⟩ : ∃ y, elems[i]? = some y := ⟨elems[i]'(by omega), List.getElem?_eq_getElem _⟩
              have := el2 i y hy
              simp only [Option.bind_eq_some_iff] at this
              obtain ⟨cs', hc, ht⟩ := this
              obtain ⟨fv, h1, h2⟩ := ih e Te cs' y.1 y.2 hTe ht
              exact ⟨fv, cs', h1, h2, hc⟩
            -- the elements
            have list : ∀ m, m ≤ len → ∃ es : List FV, es.length = m ∧ ∀ (i : Nat) (x : FV), es[i]? = some x → FOk Te x ∧ ∃ cs', CF (allM W) x.cells cs' ∧ W.cells? 0 (a.add (i * P.cellsOf e)) (P.cellsOf e) = some cs' := by
              intro m
              induction m with
              | zero => intro _; exact ⟨[], rfl, fun i x h => by simp at h⟩
              | succ m ihm =>
                intro hm
                obtain ⟨es, h1, h2⟩ := ihm (by omega)
                obtain ⟨fv, cs', g1, g2, g3⟩ := each m (by omega)
                refine ⟨es ++ [fv], by simp [h1], fun i x hx => ?_⟩
                rcases Nat.lt_or_ge i m with hi | hi
                · rw [List.getElem?_append_left (by omega)] at hx; exact h2 i x hx
                · rw [List.getElem?_append_right (by omega)] at hx
                  have : i = m := by
                    rcases Nat.eq_zero_or_pos (i - es.length) with h | h
                    · omega
                    · rw [List.getElem?_eq_none (by simp; omega)] at hx; simp at hx
                  subst this
                  rw [h1] at hx; simp at hx; subst hx
                  exact ⟨g1, cs', g2, g3⟩
            obtain ⟨es, hes, hall⟩ := list len (Nat.le_refl _)
            have hspot : es = [] ∨ a.spot = none := by
              cases es with
              | nil => exact .inl rfl
              | cons x es =>
                obtain ⟨h1, cs', h2, h3⟩ := hall 0 x rfl
                obtain ⟨c1, c2⟩ := cells_get h3
                have hx : 0 < cs'.length := by rw [c1, hsz]; exact hpos
                have := c2 0 cs'[0] (List.getElem?_eq_getElem hx)
                right
                have hs := World.cell?_spot this
                simpa [Addr.add] using hs
            let X : Nat → Nat → Value := fun k j => (W.cell? ⟨a.block, a.off + k * Te.size + j, none⟩).getD default
            have hcell : ∀ (k : Nat) (x : FV) (j : Nat) (c : FV), es[k]? = some x → x.cells[j]? = some c → W.cell? ⟨a.block, a.off + k * Te.size + j, none⟩ = some (X k j) ∧ FRel (allM W) c (X k j) := by
              intro k x j c hk hj
              obtain ⟨h1, cs', h2, h3⟩ := hall k x hk
              obtain ⟨y, hy, hr⟩ := h2.get hj
              obtain ⟨c1, c2⟩ := cells_get h3
              have hc := c2 j y hy
              have hsp : a.spot = none := hspot.resolve_left fun e => by subst e; simp at hk
              have haddr : (a.add (k * P.cellsOf e)).add j = ⟨a.block, a.off + k * Te.size + j, none⟩ := by
                rw [hsz]
                unfold Addr.add
                obtain ⟨ab, ao, as⟩ := a
                simp only at hsp; subst hsp
                split <;> split <;> simp_all
              rw [haddr] at hc
              have : X k j = y := by simp [X, hc]
              rw [this]; exact ⟨hc, hr⟩
            refine ⟨.slice Te.size es none, .slice es (by omega) (fun x hx => ?_), .cons ?_ .nil⟩
            · obtain ⟨i, hi, rfl⟩ := List.mem_iff_getElem.1 hx
              exact (hall i _ (List.getElem?_eq_getElem hi)).1
            · have := FRel.slice (M := allM W) (sz := Te.size) (es := es) (cap := none) a cap X (by omega) (.inl rfl) hspot (fun k x hk => (hall k x hk).1.size) (fun k x j c hk hj => by
                unfold allM; simp only [if_true]; exact (hcell k x j c hk hj).1) (fun k x j c hk hj => (hcell k x j c hk hj).2)
              rw [hes] at this; exact this
          · simp at h
      | struct fs =>
        simp only [Option.bind_eq_some_iff] at hT
        obtain ⟨l, hl, hT⟩ := hT
        obtain ⟨hck, hT⟩ := chk_some hT
        simp only [Option.some.injEq] at hT; subst hT
        have hsz := Nat.eq_of_beq_eq_true hck
        simp only at h
        split at h
        · rename_i hlen
          simp only [Option.map_eq_some_iff] at h
          obtain ⟨xs, hxs, _⟩ := h
          have hpw := mapM_pw hxs
          -- the fields, one by one
          have go : ∀ (fl : List Field) (off : Nat) (l : List Ty) (xs : List (DataW H × List MemPlace)), tyFields (tyOf P n) P.cellsOf fl off = some l → PW (fun (f : Field) y => DataW.trod enc P W 0 spare held fuel f.type ((cs.drop f.offset).take (P.cellsOf f.type)) = some y) fl xs → off + Ty.sizeL l ≤ cs.length →
              ∃ vs, PW FOk l vs ∧ CF (allM W) (vs.flatMap FV.cells) ((cs.drop off).take (Ty.sizeL l)) := by
            intro fl
            induction fl with
            | nil =>
              intro off l xs h1 h2 h3
              simp [tyFields] at h1; subst h1
              refine ⟨[], .nil, ?_⟩
              simp only [Ty.sizeL, List.take_zero]; exact .nil
            | cons f fl ihf =>
              intro off l xs h1 h2 h3
              simp only [tyFields, Option.bind_eq_some_iff] at h1
              obtain ⟨Tf, hTf, h1⟩ := h1
              obtain ⟨hc, h1⟩ := chk_some h1
              simp only [Option.bind_eq_some_iff, Option.some.injEq] at h1
              obtain ⟨r, hr, rfl⟩ := h1
              simp only [Bool.and_eq_true] at hc
              have ho := Nat.eq_of_beq_eq_true hc.1
              have hs := Nat.eq_of_beq_eq_true hc.2
              obtain ⟨y, ys, rfl, hy, hys⟩ := h2.cons_left
              rw [ho, hs] at hy
              obtain ⟨fv, g1, g2⟩ := ih f.type Tf _ y.1 y.2 hTf hy
              simp only [Ty.sizeL] at h3
              obtain ⟨vs, g3, g4⟩ := ihf (off + Tf.size) r ys hr hys (by omega)
              refine ⟨fv :: vs, .cons g1 g3, ?_⟩
              have e : (cs.drop off).take (Ty.sizeL (Tf :: r)) = (cs.drop off).take Tf.size ++ (cs.drop (off + Tf.size)).take (Ty.sizeL r) := by
                simp only [Ty.sizeL]
                rw [List.take_add, List.drop_drop]
              rw [e, List.flatMap_cons]
              exact g2.append g4
          obtain ⟨vs, g1, g2⟩ := go fs.toList 0 l xs hl hpw (by omega)
          refine ⟨.agg (vs.flatMap FV.cells), .mk g1, ?_⟩
          have : (cs.drop 0).take (Ty.sizeL l) = cs := by rw [List.drop_zero, List.take_of_length_le (by omega)]
          rw [this] at g2; exact g2
        · simp at h
      | array k e =>
        simp only [Option.bind_eq_some_iff] at hT
        obtain ⟨Te, hTe, hT⟩ := hT
        obtain ⟨hck, hT⟩ := chk_some hT
        simp only [Option.some.injEq] at hT; subst hT
        simp only [Bool.and_eq_true] at hck
        have hsz := Nat.eq_of_beq_eq_true hck.1
        have hst := Nat.eq_of_beq_eq_true hck.2
        simp only at h
        split at h
        · rename_i hlen
          simp only [Option.map_eq_some_iff] at h
          obtain ⟨xs, hxs, _⟩ := h
          obtain ⟨x1, x2⟩ := (mapM_pw hxs).range
          have go : ∀ m, m ≤ k → ∃ vs, PW FOk (List.replicate m Te) vs ∧ CF (allM W) (vs.flatMap FV.cells) (cs.take (m * Te.size)) := by
            intro m
            induction m with
            | zero => intro _; refine ⟨[], .nil, ?_⟩; simp only [Nat.zero_mul, List.take_zero]; exact .nil
            | succ m ihm =>
              intro hm
              obtain ⟨vs, h1, h2⟩ := ihm (by omega)
              obtain ⟨y, hy⟩ : ∃ y, xs[m]? = some y := ⟨xs[m]'(by omega), List.getElem?_eq_getElem _⟩
              have ht := x2 m y hy
              rw [hsz] at ht
              obtain ⟨fv, g1, g2⟩ := ih e Te _ y.1 y.2 hTe ht
              refine ⟨vs ++ [fv], ?_, ?_⟩
              · rw [List.replicate_succ']; exact h1.append (.cons g1 .nil)
              · have e1 : cs.take ((m + 1) * Te.size) = cs.take (m * Te.size) ++ (cs.drop (m * Te.size)).take Te.size := by
                  rw [Nat.succ_mul, List.take_add]
                rw [e1, List.flatMap_append]
                refine h2.append ?_
                simpa using g2
          obtain ⟨vs, g1, g2⟩ := go k (Nat.le_refl _)
          refine ⟨.agg (vs.flatMap FV.cells), .mk g1, ?_⟩
          rw [List.take_of_length_le (by omega)] at g2; exact g2
        · simp at h
      | _ => simp at hT
end
end Go.Dee
end
section
/- Calls whose answers are known. -/
namespace Go.Dee
abbrev Prim := FuncId → List FV → Option FV
def callP (env : FuncId → Option DFunc) (prim : Prim) : Nat → CallK
  | 0, _, _, _, _ => none
  | n + 1, fv, args, rc, h =>
    match fv with
    | .f (.func f first cap) =>
      match (match first, cap, rc with | [], [], .off => (allF args).bind (prim f) | _, _, _ => none) with
      | some v => some (.ret (.f v), .off, h)
      | none => (env f).bind fun df => enter (callP env prim n) n df (first.map .f ++ (args ++ cap.map .f)) rc h
    | .func f first cap => (env f).bind fun df => enter (callP env prim n) n df (first ++ (args ++ cap)) rc h
    | .yield b => match rc with
      | .off => round (callP env prim n) n b args h
      | _ => none
    | _ => none
section
variable {x : Cx} {p q : Pl} {h h1 h' : Heap} {w w1 w' : World}
/- f, called with args, answers v; nothing else is seen of it -/
def Known (x : Cx) (f : FuncId) (args : List FV) (v : FV) : Prop := ∀ (p : Pl) (h : Heap) (w : World) (vs : List Value) (cs : List Frame), Inv x p h w → CF p.M args vs → Run x p h w (.func (.func f) #[] #[]) vs .normal cs .off .off (.ret (.f v)) h
def PrimOk (x : Cx) (prim : Prim) : Prop := ∀ f args v, prim f args = some v → Known x f args v
theorem callP_sound (hfol : x.P.follows .mixedOrders = true) {env : FuncId → Option DFunc} (henv : EnvOk x env) {prim : Prim} (hp : PrimOk x prim) : ∀ n, KSound x (callP env prim n)
  | 0 => by intro fv args rc h o rc' h' e; simp [callP] at e
  | n + 1 => by
    have ks := callP_sound hfol henv hp n
    intro fv args rc h o rc' h' e p w vf vs kind cs i hf ha hr
    have fnc : ∀ (f : FuncId) (first cap : List DV) (fs cps : List Value) (df : DFunc), env f = some df → CD p first fs → CD p cap cps → enter (callP env prim n) n df (first ++ (args ++ cap)) rc h = some (o, rc', h') →
        vf = .func (.func f) fs.toArray cps.toArray → Run x p h w vf vs kind cs rc rc' o h' := by
      rintro f first cap fs cps df hdf hfi hca he rfl
      have hfn := henv f df hdf
      obtain ⟨p', w', w1, cs', fr', g1, g2, g3, g4, g5⟩ := enter_sound (cs := cs) hfol (drawOk x) ks hfn he i (hfi.append (ha.append hca)) hr
      obtain ⟨fn, c, e1, e0, e2, _⟩ := hfn
      refine ⟨.enter f (fs ++ (vs ++ cps)).toArray, _, p', w', w1, cs', fr', ?_, .inl ⟨f, _, rfl, rfl⟩, g1, g2, g3, g4, g5⟩
      have e0' : ¬ fn.name = "runtime.NumGoroutine" := by simpa using e0
      simp [Invoked, Deferred.ofValue, invoke, callFunc, e1, e0', e2]
    unfold callP at e
    split at e
    · rename_i f first cap
      cases hf with | f hf =>
      cases hf with
      | func as bs hal hbl h1 h2 =>
        split at e
        · rename_i v hv
          split at hv
          · simp only [Option.bind_eq_some_iff] at hv
            obtain ⟨fs, hfs, hv⟩ := hv
            have hk : kind = .normal := hr
            subst hk
            have := allF_some hfs; subst this
            simp only [Option.some.injEq, Prod.mk.injEq] at e
            obtain ⟨rfl, rfl, rfl⟩ := e
            have e1 : as = [] := List.eq_nil_of_length_eq_zero hal.symm
            have e2 : bs = [] := List.eq_nil_of_length_eq_zero hbl.symm
            subst e1 e2
            exact hp f fs v hv p h w vs cs i ha.toF
          · simp at hv
        · simp only [Option.bind_eq_some_iff] at e
          obtain ⟨df, hdf, he⟩ := e
          exact fnc f (first.map .f) (cap.map .f) as bs df hdf (CF.toD ⟨hal, h1⟩) (CF.toD ⟨hbl, h2⟩) he rfl
    · rename_i f first cap
      simp only [Option.bind_eq_some_iff] at e
      obtain ⟨df, hdf, he⟩ := e
      cases hf with
      | func as bs hal hbl h1 h2 => exact fnc f first cap as bs df hdf ⟨hal, h1⟩ ⟨hbl, h2⟩ he rfl
    · rename_i id
      cases rc with
      | off =>
        dsimp only at e
        cases hf with
        | yield blk hι =>
          have hk : kind = .normal := hr
          subst hk
          obtain ⟨rfl, nx, fr, p', w', w1, fr', g1, g2, g3, g4, g5, g6⟩ := round_sound (cs := cs) hfol (drawOk x) ks e i ha hι
          refine ⟨nx, fr, p', w', w1, cs, fr', ?_, g2, g3, .refl _ _, g4, g5, g6⟩
          simp [Invoked, Deferred.ofValue, invoke, g1]
      | _ => simp at e
    · simp at e
/- a run tells what is known -/
theorem known_of (hfol : x.P.follows .mixedOrders = true) {env : FuncId → Option DFunc} (henv : EnvOk x env) {prim : Prim} (hp : PrimOk x prim) {n : Nat} {f : FuncId} {args : List FV} {v : FV} {h0 : Heap}
    (he : callMode (callP env prim n) .val (.f (.func f [] [])) (args.map .f) h0 = some (.ret (.f v), h0)) : Known x f args v := by
  intro p h w vs cs i ha
  have he' : callMode (callP env prim n) .val (.f (.func f [] [])) (args.map .f) h = some (.ret (.f v), h) := by
    simp only [callMode, theF, allF_map, Option.bind_some] at he ⊢
    simp only [Option.bind_eq_some_iff] at he ⊢
    obtain ⟨⟨o, rc, h'⟩, h1, he⟩ := he
    refine ⟨⟨o, rc, h'⟩, h1, ?_⟩
    cases o with
    | ret y =>
      simp only [Option.bind_eq_some_iff, Option.some.injEq, Prod.mk.injEq] at he ⊢
      obtain ⟨y', hy, h2, _⟩ := he
      exact ⟨y', hy, h2, trivial⟩
    | panic y => simp at he
  have hf : DRel p (.f (.func f [] [])) (.func (.func f) #[] #[]) := .f (.func [] [] rfl rfl (by simp) (by simp))
  obtain ⟨rc', run⟩ := callMode_sound (callP_sound hfol henv hp n) i hf (CF.toD ha) he' cs
  obtain ⟨n', fr, p', w', w1, cs', fr', r1, r2, r3, r4, r5, r6, r7⟩ := run
  obtain ⟨rfl, rfl⟩ := r4.off
  exact ⟨n', fr, p', w', w1, _, fr', r1, r2, r3, .refl _ _, r5, r6, r7⟩
theorem callP_calls (hfol : x.P.follows .mixedOrders = true) {env : FuncId → Option DFunc} (henv : EnvOk x env) {prim : Prim} (hp : PrimOk x prim) {n : Nat} {f : FuncId} {args : List DV} {vs : List Value} {v : DV} {rc' : Rc} {df : DFunc} (hdf : env f = some df)
    (he : enter (callP env prim n) n df args .off h = some (.ret v, rc', h'))
    (i : Inv x p h w) (ha : CD p args vs) : Calls x.P f vs.toArray w fun e w' => ∃ y p', e = .returned y ∧ DRel p' v y ∧ Post x p h w p' h' w' := by
  intro cs
  obtain ⟨p', w', fr', y, g1, g2, g3, g4, g5⟩ := enter_calls (cs := cs) hfol (callP_sound hfol henv hp n) (henv f df hdf) he i ha
  exact ⟨_, w', fr', ⟨y, p', rfl, g5, g1⟩, g2, g3, g4⟩
end
end Go.Dee
end
section
/- A table of known answers. -/
namespace Go.Dee
mutual
def FV.same : FV → FV → Bool
  | .int k n, .int k' n' => decide (k = k') && decide (n = n')
  | .bool a, .bool b => (match a, b with | true, true => true | false, false => true | _, _ => false)
  | .str a, .str b => decide (a.data.toList = b.data.toList)
  | .nilptr, .nilptr => true
  | .nilslice, .nilslice => true
  | .slice sz es none, .slice sz' es' none => Nat.beq sz sz' && FV.sameL es es'
  | .slice sz es (some c), .slice sz' es' (some c') => Nat.beq sz sz' && (Nat.beq c c' && FV.sameL es es')
  | .nilmap, .nilmap => true
  | .nilfunc, .nilfunc => true
  | .niliface, .niliface => true
  | .iface t v, .iface t' v' => Nat.beq t t' && FV.same v v'
  | .agg l, .agg l' => FV.sameL l l'
  | .tuple l, .tuple l' => FV.sameL l l'
  | _, _ => false
def FV.sameL : List FV → List FV → Bool
  | [], [] => true
  | v :: l, v' :: l' => FV.same v v' && FV.sameL l l'
  | _, _ => false
end
mutual
theorem FV.same_eq : ∀ {a b : FV}, FV.same a b = true → a = b
  | .int k n, b, h => by cases b <;> simp [FV.same] at h; obtain ⟨rfl, rfl⟩ := h; rfl
  | .bool a, b, h => by cases b <;> simp [FV.same] at h; rename_i b; cases a <;> cases b <;> simp at h <;> rfl
  | .str a, b, h => by
    cases b <;> simp [FV.same] at h
    rename_i b
    cases a; cases b
    simp at h; rw [h]
  | .nilptr, b, h => by cases b <;> simp [FV.same] at h; rfl
  | .nilslice, b, h => by cases b <;> simp [FV.same] at h; rfl
  | .slice sz es c, b, h => by
    cases b <;> (try (cases c <;> simp [FV.same] at h; done))
    rename_i sz' es' c'
    cases c <;> cases c' <;> simp [FV.same] at h
    · obtain ⟨h1, h2⟩ := h
      rw [h1, FV.sameL_eq h2]
    · obtain ⟨h1, h3, h2⟩ := h
      rw [h1, h3, FV.sameL_eq h2]
  | .nilmap, b, h => by cases b <;> simp [FV.same] at h; rfl
  | .nilfunc, b, h => by cases b <;> simp [FV.same] at h; rfl
  | .niliface, b, h => by cases b <;> simp [FV.same] at h; rfl
  | .iface t v, b, h => by
    cases b <;> simp [FV.same] at h
    rw [h.1, FV.same_eq h.2]
  | .agg l, b, h => by cases b <;> simp [FV.same] at h; rw [FV.sameL_eq h]
  | .tuple l, b, h => by cases b <;> simp [FV.same] at h; rw [FV.sameL_eq h]
  | .ptr .., b, h => by cases b <;> simp [FV.same] at h
  | .func .., b, h => by cases b <;> simp [FV.same] at h
theorem FV.sameL_eq : ∀ {a b : List FV}, FV.sameL a b = true → a = b
  | [], b, h => by cases b <;> simp [FV.sameL] at h; rfl
  | v :: l, b, h => by
    cases b <;> simp [FV.sameL] at h
    rw [FV.same_eq h.1, FV.sameL_eq h.2]
end
def table : List (Nat × List FV × FV) → Prim
  | [], _, _ => none
  | (g, as, v) :: l, f, args => bif Nat.beq g f && FV.sameL as args then some v else table l f args
theorem table_ok {x : Cx} : ∀ {l : List (Nat × List FV × FV)}, (∀ y ∈ l, Known x y.1 y.2.1 y.2.2) → PrimOk x (table l)
  | [], _ => fun f args v h => by simp [table] at h
  | (g, as, v) :: l, hk => fun f args w h => by
    unfold table at h
    cases hb : (Nat.beq g f && FV.sameL as args) with
    | true =>
      rw [hb] at h
      simp only [cond_true, Option.some.injEq] at h
      simp only [Bool.and_eq_true] at hb
      have e1 := Nat.eq_of_beq_eq_true hb.1
      have e2 := FV.sameL_eq hb.2
      subst e1 e2 h
      exact hk _ (List.mem_cons_self ..)
    | false =>
      rw [hb] at h
      exact table_ok (fun y hy => hk y (List.mem_cons_of_mem _ hy)) f args w h
/- one after another -/
def orPrim (a b : Prim) : Prim := fun f args => match a f args with | some v => some v | none => b f args
theorem orPrim_ok {x : Cx} {a b : Prim} (ha : PrimOk x a) (hb : PrimOk x b) : PrimOk x (orPrim a b) := by
  intro f args v h
  unfold orPrim at h
  cases e : a f args with
  | some w => rw [e] at h; simp at h; subst h; exact ha f args w e
  | none => rw [e] at h; exact hb f args v h
end Go.Dee
end
section
/- A run that is guided by answers: what it takes for granted is told. -/
namespace Go.Dee
inductive Ans where
  | n            -- as it is
  | b (t : Bool)
  | v (e : FV)
  | c (v : FV)
  deriving Inhabited
abbrev G (α : Type) := List Ans → Option (α × List Ans × List Prop)
section
variable {α β : Type}
def G.pure (x : α) : G α := fun as => some (x, as, [])
def G.bind (m : G α) (f : α → G β) : G β := fun as =>
  match m as with
  | some (a, as1, f1) => match f a as1 with
    | some (b, as2, f2) => some (b, as2, f1 ++ f2)
    | none => none
  | none => none
def G.lift (o : Option α) : G α := fun as => match o with | some a => some (a, as, []) | none => none
def G.chk (b : Bool) (m : G α) : G α := fun as => match m as with | some (a, as', f) => some (a, as', (b = true) :: f) | none => none
def G.bool (d : DV) : G DV := fun as =>
  match d with
  | .f (.bool t) => match as with
    | .b r :: as => some (.f (.bool r), as, [t = r])
    | .n :: as => some (.f (.bool t), as, [])
    | _ => none
  | d => some (d, as, [])
def G.elem (es : List FV) (i : Nat) : G FV := fun as =>
  match as with
  | .v e :: as => some (e, as, [es[i]? = some e])
  | .n :: as => match es[i]? with | some e => some (e, as, []) | none => none
  | _ => none
def G.ask (t : Bool) : G Bool := fun as =>
  match as with
  | .b r :: as => some (r, as, [t = r])
  | .n :: as => some (t, as, [])
  | _ => none
/- what is told: m is o -/
def Tells (m : G α) (o : Option α) : Prop := ∀ as x as' fs, m as = some (x, as', fs) → (∀ P ∈ fs, P) → o = some x
theorem Tells.none {o : Option α} : Tells (fun _ => none) o := by intro as x as' fs h; simp at h
theorem Tells.pure (x : α) : Tells (G.pure x) (some x) := by
  intro as y as' fs h _
  simp only [G.pure, Option.some.injEq, Prod.mk.injEq] at h
  rw [h.1]
theorem Tells.lift (o : Option α) : Tells (G.lift o) o := by
  intro as y as' fs h _
  unfold G.lift at h
  split at h
  · simp only [Option.some.injEq, Prod.mk.injEq] at h; rw [← h.1]
  · simp at h
theorem Tells.bind {m : G α} {o : Option α} {f : α → G β} {g : α → Option β} (hm : Tells m o) (hf : ∀ a, Tells (f a) (g a)) : Tells (G.bind m f) (o.bind g) := by
  intro as y as' fs h hall
  unfold G.bind at h
  split at h
  · rename_i a as1 f1 h1
    split at h
    · rename_i b as2 f2 h2
      simp only [Option.some.injEq, Prod.mk.injEq] at h
      obtain ⟨rfl, rfl, rfl⟩ := h
      have e1 := hm as a as1 f1 h1 fun P hP => hall P (List.mem_append_left _ hP)
      have e2 := hf a as1 b as2 f2 h2 fun P hP => hall P (List.mem_append_right _ hP)
      rw [e1]; exact e2
    · simp at h
  · simp at h
theorem Tells.chk {b : Bool} {m : G α} {o : Option α} (hm : Tells m o) : Tells (G.chk b m) (Dee.chk b o) := by
  intro as y as' fs h hall
  unfold G.chk at h
  split at h
  · rename_i a as1 f1 h1
    simp only [Option.some.injEq, Prod.mk.injEq] at h
    obtain ⟨rfl, rfl, rfl⟩ := h
    have hb : b = true := hall _ (List.mem_cons_self ..)
    have e1 := hm as a as1 f1 h1 fun P hP => hall P (List.mem_cons_of_mem _ hP)
    rw [hb, e1]; rfl
  · simp at h
theorem Tells.bool (d : DV) : Tells (G.bool d) (some d) := by
  intro as y as' fs h hall
  unfold G.bool at h
  split at h
  · split at h
    · simp only [Option.some.injEq, Prod.mk.injEq] at h
      obtain ⟨rfl, rfl, rfl⟩ := h
      rw [hall _ (List.mem_cons_self ..)]
    · simp only [Option.some.injEq, Prod.mk.injEq] at h
      rw [← h.1]
    · simp at h
  · simp only [Option.some.injEq, Prod.mk.injEq] at h
    rw [← h.1]
theorem Tells.elem (es : List FV) (i : Nat) : Tells (G.elem es i) es[i]? := by
  intro as y as' fs h hall
  unfold G.elem at h
  split at h
  · simp only [Option.some.injEq, Prod.mk.injEq] at h
    obtain ⟨rfl, rfl, rfl⟩ := h
    exact hall _ (List.mem_cons_self ..)
  · split at h
    · rename_i e he
      simp only [Option.some.injEq, Prod.mk.injEq] at h
      rw [he, h.1]
    · simp at h
  · simp at h
theorem Tells.ask (t : Bool) : Tells (G.ask t) (some t) := by
  intro as y as' fs h hall
  unfold G.ask at h
  split at h
  · simp only [Option.some.injEq, Prod.mk.injEq] at h
    obtain ⟨rfl, rfl, rfl⟩ := h
    rw [hall _ (List.mem_cons_self ..)]
  · simp only [Option.some.injEq, Prod.mk.injEq] at h
    rw [h.1]
  · simp at h
/- behind a value: the same value -/
theorem Tells.after {m : G α} {o : Option α} {f : α → G α} (hm : Tells m o) (hf : ∀ a, Tells (f a) (some a)) : Tells (G.bind m f) o := by
  have := Tells.bind hm hf
  cases o with
  | none => exact this
  | some a => exact this
end
abbrev GR := G (DV × Heap)
def G.keep (h : Heap) (m : G DV) : GR := G.bind m fun v => G.pure (v, h)
theorem Tells.keep {h : Heap} {m : G DV} {o : Option DV} (hm : Tells m o) : Tells (G.keep h m) (Dee.keep h o) := Tells.bind hm fun v => Tells.pure _
def binOpG (op : BinOp) (x y : DV) : G DV :=
  match x, y with
  | .f (.int k a), .f (.int k' b) =>
    match op with
    | .shl => G.chk (decide (0 ≤ b)) (G.pure (.f (.int k (k.wrap (a * 2 ^ (min b.toNat k.bits))))))
    | .shr => G.chk (decide (0 ≤ b)) (G.pure (.f (.int k (a.fdiv (2 ^ (min b.toNat k.bits))))))
    | .quo => G.lift (Dee.chk (decide (k = k')) (some ())) |>.bind fun _ => G.chk (!decide (b = 0)) (G.pure (.f (.int k (k.wrap (a.tdiv b)))))
    | .rem => G.lift (Dee.chk (decide (k = k')) (some ())) |>.bind fun _ => G.chk (!decide (b = 0)) (G.pure (.f (.int k (a.tmod b))))
    | _ => G.lift (binOp op x y)
  | _, _ => G.lift (binOp op x y)
theorem chk_unit {α : Type} {b : Bool} {o : Option α} : ((Dee.chk b (some ())).bind fun _ => o) = Dee.chk b o := by cases b <;> rfl
theorem binOpG_tells (op : BinOp) (x y : DV) : Tells (binOpG op x y) (binOp op x y) := by
  unfold binOpG
  split
  · rename_i k a k' b
    cases op with
    | shl => exact Tells.chk (Tells.pure _)
    | shr => exact Tells.chk (Tells.pure _)
    | quo =>
      have := Tells.bind (Tells.lift (Dee.chk (decide (k = k')) (some ()))) fun _ => Tells.chk (b := !decide (b = 0)) (Tells.pure (DV.f (.int k (k.wrap (a.tdiv b)))))
      rw [chk_unit] at this
      have e : binOp .quo (.f (.int k a)) (.f (.int k' b)) = Dee.chk (decide (k = k')) (Dee.chk (!decide (b = 0)) (some (.f (.int k (k.wrap (a.tdiv b)))))) := by
        simp only [binOp, binInt]
        cases decide (k = k') <;> cases (!decide (b = 0)) <;> rfl
      rw [e]; exact this
    | rem =>
      have := Tells.bind (Tells.lift (Dee.chk (decide (k = k')) (some ()))) fun _ => Tells.chk (b := !decide (b = 0)) (Tells.pure (DV.f (.int k (a.tmod b))))
      rw [chk_unit] at this
      have e : binOp .rem (.f (.int k a)) (.f (.int k' b)) = Dee.chk (decide (k = k')) (Dee.chk (!decide (b = 0)) (some (.f (.int k (a.tmod b))))) := by
        simp only [binOp, binInt]
        cases decide (k = k') <;> cases (!decide (b = 0)) <;> rfl
      rw [e]; exact this
    | _ => exact Tells.lift _
  · exact Tells.lift _
def natOfG (d : DV) : G Nat := (G.lift (theInt d)).bind fun n => G.chk (decide (0 ≤ n)) (G.pure n.toNat)
theorem natOfG_tells (d : DV) : Tells (natOfG d) (natOf d) := Tells.bind (Tells.lift _) fun n => Tells.chk (Tells.pure _)
def optNatG (ρ : Env) (d : Nat) : Option Opnd → G Nat
  | none => G.pure d
  | some x => (G.lift (ρ x)).bind natOfG
theorem optNatG_tells (ρ : Env) (d : Nat) (o : Option Opnd) : Tells (optNatG ρ d o) (optNat ρ d o) := by
  cases o with
  | none => exact Tells.pure _
  | some x => exact Tells.bind (Tells.lift _) natOfG_tells
def opSliceG (ρ : Env) (sz : Nat) (d : DV) (lo hi mx : Option Opnd) : G DV :=
  (G.lift (lenDV d)).bind fun len => (optNatG ρ len hi).bind fun hi => (optNatG ρ 0 lo).bind fun lo => G.chk (Nat.ble lo hi) <|
    match d, mx with
    | .f (.slice sz' es cap), none => G.chk (Nat.beq sz sz' && Nat.ble hi es.length) (G.pure (.f (.slice sz ((es.drop lo).take (hi - lo)) (cap.map (· - lo)))))
    | .slice ag sz' b g off len cap, none => G.chk (Nat.beq sz sz' && (Nat.ble hi len || capAdd cap hi)) (G.pure (.slice ag sz b g (off + lo * sz) (hi - lo) (cap.map (· - lo))))
    | .f .nilslice, none => G.chk (Nat.beq hi 0) (G.pure (.f .nilslice))
    | _, _ => fun _ => none
theorem opSliceG_tells (ρ : Env) (sz : Nat) (d : DV) (lo hi mx : Option Opnd) : Tells (opSliceG ρ sz d lo hi mx) (opSlice ρ sz d lo hi mx) := by
  unfold opSliceG opSlice
  refine Tells.bind (Tells.lift _) fun len => Tells.bind (optNatG_tells _ _ _) fun h => Tells.bind (optNatG_tells _ _ _) fun l => Tells.chk ?_
  split
  · exact Tells.chk (Tells.pure _)
  · exact Tells.chk (Tells.pure _)
  · have : (Dee.chk (h.beq 0) ((optNat ρ 0 none).bind fun m => Dee.chk (m.beq 0) (some (DV.f .nilslice)))) = Dee.chk (h.beq 0) (some (DV.f .nilslice)) := rfl
    simp only [this]
    exact Tells.chk (Tells.pure _)
  · intro as x as' fs h; simp at h
def cellsG (h : Heap) (b g : Nat) : G (List DV) :=
  match h.get b with
  | some (.cells g' cs) => G.chk (Nat.beq g g') (G.pure cs)
  | _ => fun _ => none
theorem cellsG_tells (h : Heap) (b g : Nat) : Tells (cellsG h b g) (h.cells b g) := by
  unfold cellsG Heap.cells
  cases h.get b with
  | none => exact Tells.none
  | some blk =>
    cases blk with
    | cells g' cs => exact Tells.chk (Tells.pure _)
    | _ => exact Tells.none
def appendG (h : Heap) (ag : Bool) (sz bytes : Nat) (a : DV) (m n : Nat) (new : List DV) : GR :=
  G.chk (Nat.blt ((m + n) * bytes) mostBytes && Nat.blt (m + n) mostBytes) <|
    (G.ask (Nat.beq n 0)).bind fun t => bif t then G.lift (match a with | .f (.str _) => none | _ => some (a, h)) else
      match a with
      | .slice _ sz' b g off len none => (cellsG h b g).bind fun cs => G.chk (Nat.beq sz sz' && allOne new) <|
          (G.ask (Nat.ble (off + (len + n) * sz) cs.length && true)).bind fun t => bif t then G.lift ((putAt cs (off + len * sz) new).bind fun cs' => some (.slice ag sz b g off (len + n) none, h.set b (.cells g cs')))
            else (G.chk (Nat.ble (off + len * sz) cs.length) (G.pure ((cs.drop off).take (len * sz)))).bind fun old => G.pure (.slice ag sz b (g + 1) 0 (len + n) none, h.set b (.cells (g + 1) (old ++ new)))
      | a => G.lift (appendCells h ag sz a n new)
theorem appendG_tells (h : Heap) (ag : Bool) (sz bytes : Nat) (a : DV) (m n : Nat) (new : List DV) : Tells (appendG h ag sz bytes a m n new) (opAppend h ag sz bytes a m n new) := by
  unfold appendG opAppend
  refine Tells.chk ?_
  have key : ∀ t, Tells (bif t then G.lift (match a with | .f (.str _) => none | _ => some (a, h)) else
      match a with
      | .slice _ sz' b g off len none => (cellsG h b g).bind fun cs => G.chk (Nat.beq sz sz' && allOne new) <|
          (G.ask (Nat.ble (off + (len + n) * sz) cs.length && true)).bind fun t => bif t then G.lift ((putAt cs (off + len * sz) new).bind fun cs' => some (.slice ag sz b g off (len + n) none, h.set b (.cells g cs')))
            else (G.chk (Nat.ble (off + len * sz) cs.length) (G.pure ((cs.drop off).take (len * sz)))).bind fun old => G.pure (.slice ag sz b (g + 1) 0 (len + n) none, h.set b (.cells (g + 1) (old ++ new)))
      | a => G.lift (appendCells h ag sz a n new)) (bif t then (match a with | .f (.str _) => none | _ => some (a, h)) else appendCells h ag sz a n new) := by
    intro t
    cases t with
    | true => exact Tells.lift _
    | false =>
      simp only [cond_false]
      split
      · rename_i ag2 sz' b g off len
        have e : appendCells h ag sz (.slice ag2 sz' b g off len none) n new = (h.cells b g).bind fun cs => Dee.chk (Nat.beq sz sz' && allOne new) <|
            bif (Nat.ble (off + (len + n) * sz) cs.length && true) then (putAt cs (off + len * sz) new).bind fun cs' => some (.slice ag sz b g off (len + n) none, h.set b (.cells g cs'))
            else (part cs off (len * sz)).bind fun old => some (.slice ag sz b (g + 1) 0 (len + n) none, h.set b (.cells (g + 1) (old ++ new))) := by
          simp only [appendCells, fitsIn]
          cases (sz.beq sz' && allOne new) <;> cases h.cells b g <;> rfl
        rw [e]
        refine Tells.bind (cellsG_tells _ _ _) fun cs => Tells.chk ?_
        have : ∀ t, Tells (bif t then G.lift ((putAt cs (off + len * sz) new).bind fun cs' => some (DV.slice ag sz b g off (len + n) none, h.set b (.cells g cs')))
            else (G.chk (Nat.ble (off + len * sz) cs.length) (G.pure ((cs.drop off).take (len * sz)))).bind fun old => G.pure (DV.slice ag sz b (g + 1) 0 (len + n) none, h.set b (.cells (g + 1) (old ++ new))))
            (bif t then (putAt cs (off + len * sz) new).bind fun cs' => some (DV.slice ag sz b g off (len + n) none, h.set b (.cells g cs'))
            else (part cs off (len * sz)).bind fun old => some (DV.slice ag sz b (g + 1) 0 (len + n) none, h.set b (.cells (g + 1) (old ++ new)))) := by
          intro t
          cases t with
          | true => exact Tells.lift _
          | false => simp only [cond_false]; exact Tells.bind (Tells.chk (Tells.pure _)) fun old => Tells.pure _
        exact Tells.bind (Tells.ask _) this
      · exact Tells.lift _
  exact Tells.bind (Tells.ask _) key
def evalOpG (ρ : Env) (h : Heap) : DOp → GR
  | .bin op x y => (G.lift (ρ x)).bind fun a => (G.lift (ρ y)).bind fun b => G.keep h ((binOpG op a b).bind G.bool)
  | .cmp neg t x y => (G.lift (ρ x)).bind fun a => (G.lift (ρ y)).bind fun b => (G.lift (theF a)).bind fun a => (G.lift (theF b)).bind fun b => fun as =>
      match as with
      | .b r :: as => some ((.f (.bool (bif neg then !r else r)), h), as, [eqF t a b = some r])
      | .n :: as => (match eqF t a b with | some r => some ((.f (.bool (bif neg then !r else r)), h), as, []) | none => none)
      | _ => none
  | .load agg sz a => (G.lift (ρ a)).bind fun p => G.keep h ((match p with
      | .f (.ptr _ es i off) => (G.elem es i).bind fun e => G.lift (pickF agg sz off e.cells)
      | p => G.lift (loadDV h agg sz p)).bind G.bool)
  | .indexS sz x i => (G.lift (ρ x)).bind fun d => (G.lift (ρ i)).bind fun i => (G.lift (theInt i)).bind fun i => G.keep h (G.chk (decide (0 ≤ i)) (match d with
      | .f (.slice sz' es _) => G.chk (Nat.beq sz sz' && Nat.blt i.toNat es.length) (G.pure (.f (.ptr sz es i.toNat 0)))
      | .slice _ sz' b g off len _ => G.chk (Nat.beq sz sz' && Nat.blt i.toNat len) (G.pure (.ptr b g (off + i.toNat * sz)))
      | _ => fun _ => none))
  | .slice sz x lo hi mx => (G.lift (ρ x)).bind fun d => G.keep h (opSliceG ρ sz d lo hi mx)
  | .append ag sz bytes x y => (G.lift (ρ x)).bind fun a => (G.lift (ρ y)).bind fun b => (G.lift (lenDV a)).bind fun m => (G.lift (lenDV b)).bind fun n =>
      (match b with
        | .f (.slice sz' es _) => G.chk (Nat.beq sz sz' && Nat.ble n es.length) (G.pure (flatCells (es.take n)))
        | b => G.lift (firstCells h sz n b)).bind fun new => appendG h ag sz bytes a m n new
  | .field agg sz off x => (G.lift (ρ x)).bind fun d => G.keep h ((G.lift (partOf agg sz off d)).bind G.bool)
  | .extract x i => (G.lift (ρ x)).bind fun d => G.keep h ((G.lift (opExtract i d)).bind G.bool)
  | o => G.lift (evalOp ρ h o)
theorem evalOpG_tells (ρ : Env) (h : Heap) (o : DOp) : Tells (evalOpG ρ h o) (evalOp ρ h o) := by
  cases o with
  | bin op x y => exact Tells.bind (Tells.lift _) fun a => Tells.bind (Tells.lift _) fun b => Tells.keep (Tells.after (binOpG_tells _ _ _) Tells.bool)
  | cmp neg t x y =>
    refine Tells.bind (Tells.lift _) fun a => Tells.bind (Tells.lift _) fun b => Tells.bind (Tells.lift _) fun a => Tells.bind (Tells.lift _) fun b => ?_
    intro as r as' fs e hall
    dsimp only at e
    split at e
    · simp only [Option.some.injEq, Prod.mk.injEq] at e
      obtain ⟨rfl, rfl, rfl⟩ := e
      rw [hall _ (List.mem_cons_self ..)]; rfl
    · split at e
      · rename_i r0 hr
        simp only [Option.some.injEq, Prod.mk.injEq] at e
        rw [hr, ← e.1]; rfl
      · simp at e
    · simp at e
  | load agg sz a =>
    refine Tells.bind (Tells.lift _) fun p => Tells.keep (Tells.after ?_ Tells.bool)
    split
    · exact Tells.bind (Tells.elem _ _) fun e => Tells.lift _
    · exact Tells.lift _
  | indexS sz x i =>
    refine Tells.bind (Tells.lift _) fun d => Tells.bind (Tells.lift _) fun i => Tells.bind (Tells.lift _) fun i => Tells.keep ?_
    unfold opIndexS
    refine Tells.chk ?_
    split
    · exact Tells.chk (Tells.pure _)
    · exact Tells.chk (Tells.pure _)
    · exact Tells.none
  | slice sz x lo hi mx => exact Tells.bind (Tells.lift _) fun d => Tells.keep (opSliceG_tells _ _ _ _ _ _)
  | append ag sz bytes x y =>
    refine Tells.bind (Tells.lift _) fun a => Tells.bind (Tells.lift _) fun b => Tells.bind (Tells.lift _) fun m => Tells.bind (Tells.lift _) fun n => Tells.bind ?_ fun new => appendG_tells _ _ _ _ _ _ _ _
    split
    · exact Tells.chk (Tells.pure _)
    · exact Tells.lift _
  | field agg sz off x => exact Tells.bind (Tells.lift _) fun d => Tells.keep (Tells.after (Tells.lift _) Tells.bool)
  | extract x i => exact Tells.bind (Tells.lift _) fun d => Tells.keep (Tells.after (Tells.lift _) Tells.bool)
  | _ => first | exact Tells.lift (evalOp ρ h _) | (simp only [evalOpG]; exact Tells.lift _)
/- the heap behind a call on values -/
def callHeap (h : Heap) (vs : List DV) (v : FV) : Heap :=
  match allF vs with
  | some _ => h
  | none => bif v.flat then h else match reach h 2000 (namesL vs) [] with | some F => h.give F | none => h
abbrev GX := G (Out × DV × St)
def execOpG (k : CallK) (o : DOp) (s : St) : GX :=
  match o with
  | .call m f args => (G.lift (ev s.tm f)).bind fun fv => (G.lift (getAll (ev s.tm) args)).bind fun vs => fun as =>
    match as with
    | .c v :: as => some ((.normal, .f v, s.heap (callHeap s.hp vs v)), as, [callMode k m fv vs s.hp = some (.ret (.f v), callHeap s.hp vs v)])
    | as => ((G.lift (callMode k m fv vs s.hp)).bind fun r =>
      match r with
      | (.ret v, h) => (G.bool v).bind fun v => G.pure (.normal, v, s.heap h)
      | (.panic v, h) => G.pure (.panic v, unit, s.heap h)) as
  | .recover | .defer .. | .panic _ => G.lift (execOp k o s)
  | o => (evalOpG (ev s.tm) s.hp o).bind fun r => G.pure (.normal, r.1, s.heap r.2)
theorem execOpG_tells (k : CallK) (o : DOp) (s : St) : Tells (execOpG k o s) (execOp k o s) := by
  have plain : o.plain = true → Tells ((evalOpG (ev s.tm) s.hp o).bind fun r => G.pure (Out.normal, r.1, s.heap r.2)) (execOp k o s) := by
    intro hp
    rw [exec_plain hp]
    exact Tells.bind (evalOpG_tells _ _ _) fun r => Tells.pure _
  cases o with
  | call m f args =>
    refine Tells.bind (Tells.lift _) fun fv => Tells.bind (Tells.lift _) fun vs => ?_
    have old : Tells ((G.lift (callMode k m fv vs s.hp)).bind fun r =>
      match r with
      | (.ret v, h) => (G.bool v).bind fun v => G.pure (Out.normal, v, s.heap h)
      | (.panic v, h) => G.pure (.panic v, unit, s.heap h)) ((callMode k m fv vs s.hp).bind fun (o, h) => match o with | .ret v => some (.normal, v, s.heap h) | .panic v => some (.panic v, unit, s.heap h)) := by
      refine Tells.bind (Tells.lift _) fun r => ?_
      obtain ⟨co, h⟩ := r
      cases co with
      | ret v => exact Tells.bind (o := some v) (Tells.bool v) fun v => Tells.pure _
      | panic v => exact Tells.pure _
    intro as x as' fs h hall
    dsimp only at h
    split at h
    · rename_i v as
      simp only [Option.some.injEq, Prod.mk.injEq] at h
      obtain ⟨rfl, rfl, rfl⟩ := h
      rw [hall _ (List.mem_cons_self ..)]; rfl
    · exact old _ x as' fs h hall
  | recover => exact Tells.lift _
  | defer f args => exact Tells.lift _
  | panic x => exact Tells.lift _
  | _ => exact plain rfl
abbrev GS := G (Out × St)
def runOpsG (k : CallK) : List DOper → St → GS
  | [], s => G.pure (.normal, s)
  | o :: l, s => (G.lift (wanted s.tm o.guard)).bind fun want =>
    bif want then (execOpG k o.op s).bind fun r =>
      match r with
      | (.normal, v, s') => runOpsG k l (s'.put o.dst v)
      | (out, _, s') => G.pure (out, s')
    else runOpsG k l (s.put o.dst unit)
theorem runOpsG_tells (k : CallK) : ∀ (l : List DOper) (s : St), Tells (runOpsG k l s) (runOps k l s)
  | [], s => Tells.pure _
  | o :: l, s => by
    refine Tells.bind (Tells.lift _) fun want => ?_
    cases want with
    | false => exact runOpsG_tells k l _
    | true =>
      refine Tells.bind (execOpG_tells _ _ _) fun r => ?_
      obtain ⟨out, v, s'⟩ := r
      cases out with
      | normal => exact runOpsG_tells k l _
      | _ => exact Tells.pure _
def drawOpsG (k : CallK) : List DOper → Nat → Nat → List Rec → St → GS
  | [], _, _, _, s => G.pure (.normal, s)
  | o :: l, rid, n, recs, s => (G.lift (wanted s.tm o.guard)).bind fun want =>
    bif want then (G.lift (touch s o.op)).bind fun F =>
      let mk := o.op.makes
      let lo := bif mk then rid else s.hp.next
      (G.lift (Dee.chk o.op.allowed (some ()))).bind fun _ => (execOpG k o.op (s.heap ⟨lo, bif mk then [] else pickIn s.hp.bs F, []⟩)).bind fun x =>
        let q := o.op.quiet && x.2.2.hp.log.isEmpty
        let r : Rec := bif q then ⟨F, [], 0, 0, false⟩ else ⟨F, x.2.2.hp.log, lo, x.2.2.hp.next, !mk⟩
        (G.lift (Dee.chk (inOr F lo x.2.2.hp.log && (outIn rid (rid + makesN (o :: l)) F && apartAll r recs n o.un)) (some ()))).bind fun _ =>
        match x with
        | (.normal, v, s') => drawOpsG k l (bif mk then rid + 1 else rid) (n + 1) (r :: recs) (St.put ⟨s'.tm, s'.defs, s'.rc, bif q then s.hp else mergeAt lo s.hp s'.hp⟩ o.dst v)
        | (.panic p, _, s') => G.lift (Dee.chk (o.un.isEmpty && l.all fun o' => !elemN n o'.un) (some (.panic p, ⟨s'.tm, s'.defs, s'.rc, bif q then s.hp else mergeAt lo s.hp s'.hp⟩)))
        | _ => G.lift none
    else drawOpsG k l (bif o.op.makes then rid + 1 else rid) (n + 1) (Rec.none :: recs) (s.put o.dst unit)
theorem Tells.chkU {α : Type} {b : Bool} {m : G α} {o : Option α} (hm : Tells m o) : Tells ((G.lift (Dee.chk b (some ()))).bind fun _ => m) (Dee.chk b o) := by
  have := Tells.bind (Tells.lift (Dee.chk b (some ()))) fun _ => hm
  rwa [chk_unit] at this
theorem drawOpsG_tells (k : CallK) : ∀ (l : List DOper) (rid n : Nat) (recs : List Rec) (s : St), Tells (drawOpsG k l rid n recs s) (drawOps k l rid n recs s)
  | [], _, _, _, s => Tells.pure _
  | o :: l, rid, n, recs, s => by
    refine Tells.bind (Tells.lift _) fun want => ?_
    cases want with
    | false => exact drawOpsG_tells k l _ _ _ _
    | true =>
      refine Tells.bind (Tells.lift _) fun F => Tells.chkU (Tells.bind (execOpG_tells _ _ _) fun x => ?_)
      obtain ⟨out, v, s'⟩ := x
      refine Tells.chkU ?_
      cases out with
      | normal => exact drawOpsG_tells k l _ _ _ _
      | panic p => exact Tells.lift _
      | _ => exact Tells.lift _
def execG (k : CallK) : Nat → DCode → St → GS
  | 0, _, _ => fun _ => none
  | n + 1, c, s =>
    match c with
    | .region ops | .mapInc ops => runOpsG k ops s
    | .draw ops => drawOpsG k ops s.hp.next 0 [] (s.heap ⟨s.hp.next + makesN ops, s.hp.bs, s.hp.log⟩)
    | .seq a b => (execG k n a s).bind fun r => match r with
      | (.normal, s') => execG k n b s'
      | (o, s') => G.pure (o, s')
    | .cond c a b => (G.lift (ev s.tm c)).bind fun d => (G.lift (theBool d)).bind fun t => bif t then execG k n a s else execG k n b s
    | .block id a => (execG k n a s).bind fun r => match r with
      | (.exit id', s') => bif Nat.beq id' id then G.pure (.normal, s') else G.pure (.exit id', s')
      | (o, s') => G.pure (o, s')
    | .loop live a => (execG k n a (s.trim live)).bind fun r => match r with
      | (.normal, s') => execG k n (.loop live a) (s'.gc s.hp.next live)
      | (o, s') => G.pure (o, s')
    | c => G.lift (exec k (n + 1) c s)
theorem execG_tells (k : CallK) : ∀ (n : Nat) (c : DCode) (s : St), Tells (execG k n c s) (exec k n c s)
  | 0, c, s => by intro as x as' fs h; simp [execG] at h
  | n + 1, c, s => by
    cases c with
    | region ops => exact runOpsG_tells k ops s
    | mapInc ops => exact runOpsG_tells k ops s
    | draw ops => exact drawOpsG_tells k ops _ _ _ _
    | seq a b =>
      refine Tells.bind (execG_tells k n a s) fun r => ?_
      obtain ⟨o, s'⟩ := r
      cases o with
      | normal => exact execG_tells k n b s'
      | _ => exact Tells.pure _
    | cond c a b =>
      refine Tells.bind (Tells.lift _) fun d => Tells.bind (Tells.lift _) fun t => ?_
      cases t with
      | true => exact execG_tells k n a s
      | false => exact execG_tells k n b s
    | block id a =>
      refine Tells.bind (execG_tells k n a s) fun r => ?_
      obtain ⟨o, s'⟩ := r
      cases o with
      | exit id' =>
        dsimp only
        cases Nat.beq id' id with
        | true => exact Tells.pure _
        | false => exact Tells.pure _
      | _ => exact Tells.pure _
    | loop live a =>
      refine Tells.bind (execG_tells k n a (s.trim live)) fun r => ?_
      obtain ⟨o, s'⟩ := r
      cases o with
      | normal => exact execG_tells k n _ _
      | _ => exact Tells.pure _
    | _ => first | exact Tells.lift (exec k (n + 1) _ s) | (simp only [execG]; exact Tells.lift _)
end Go.Dee
end
section
/- How a guided run is used: views, loops, whole functions. -/
namespace Go.Dee
theorem fnil : ∀ P ∈ ([] : List Prop), P := fun P h => by simp at h
theorem fcons {P : Prop} {fs : List Prop} (h : P) (hs : ∀ Q ∈ fs, Q) : ∀ Q ∈ (P :: fs), Q := fun Q hQ => (List.mem_cons.1 hQ).elim (fun e => e ▸ h) (hs Q)
def isNormal : Out → Bool
  | .normal => true
  | _ => false
section
variable {k : CallK} {n : Nat} {c : DCode} {s : St} {av : List Ans} {fs : List Prop}
theorem exec_view {β : Type} (f : Out × St → β) {y : β} (h : (execG k n c s av).map (fun r => (f r.1, r.2.1, r.2.2)) = some (y, [], fs)) (hf : ∀ P ∈ fs, P) : ∃ r, exec k n c s = some r ∧ f r = y := by
  cases e : execG k n c s av with
  | none => rw [e] at h; simp at h
  | some r =>
    obtain ⟨r, a', f'⟩ := r
    rw [e] at h
    simp only [Option.map_some, Option.some.injEq, Prod.mk.injEq] at h
    obtain ⟨h1, rfl, rfl⟩ := h
    exact ⟨r, execG_tells k n c s av r [] f' e hf, h1⟩
def stOf (x : Option ((Out × St) × List Ans × List Prop)) : St := match x with | some r => r.1.2 | none => default
theorem exec_run (h : (execG k n c s av).map (fun r => (isNormal r.1.1, r.2.1, r.2.2)) = some (true, [], fs)) (hf : ∀ P ∈ fs, P) : exec k n c s = some (.normal, stOf (execG k n c s av)) := by
  cases e : execG k n c s av with
  | none => rw [e] at h; simp at h
  | some r =>
    obtain ⟨⟨o, s1⟩, a', f'⟩ := r
    rw [e] at h
    simp only [Option.map_some, Option.some.injEq, Prod.mk.injEq] at h
    obtain ⟨h1, rfl, rfl⟩ := h
    have := execG_tells k n c s av (o, s1) [] f' e hf
    cases o <;> simp [isNormal] at h1
    exact this
/- a statement, then the rest -/
theorem seq_run {b : DCode} (h : (execG k n c s av).map (fun r => (isNormal r.1.1, r.2.1, r.2.2)) = some (true, [], fs)) (hf : ∀ P ∈ fs, P) : exec k (n + 1) (.seq c b) s = exec k n b (stOf (execG k n c s av)) := by
  have := exec_run h hf
  simp [exec, this]
theorem keepLive_congr {t t' : Tm} : ∀ {l : List Pos}, (∀ p ∈ l, t.get p = t'.get p) → keepLive t l = keepLive t' l
  | [], _ => rfl
  | p :: l, h => by
    unfold keepLive
    rw [h p (List.mem_cons_self ..), keepLive_congr fun q hq => h q (List.mem_cons_of_mem _ hq)]
theorem keepLive_at {t : Tm} : ∀ {l : List Pos} {p : Pos}, p ∈ l → (keepLive t l).get p = t.get p
  | q :: l, p, h => by
    unfold keepLive
    cases e : t.get q with
    | some d =>
      by_cases hp : p = q
      · subst hp; rw [Tm.get_set_same, e]
      · rw [Tm.get_set_other _ _ _ _ (Ne.symm hp)]
        exact keepLive_at ((List.mem_cons.1 h).resolve_left hp)
    | none =>
      by_cases hp : p = q
      · subst hp
        by_cases hl : p ∈ l
        · exact keepLive_at hl
        · cases e2 : (keepLive t l).get p with
          | none => exact e.symm
          | some d => rw [keepLive_get e2] at e; simp at e
      · exact keepLive_at ((List.mem_cons.1 h).resolve_left hp)
theorem trim_trim (s : St) (live : List Pos) : (s.trim live).trim live = s.trim live := by
  unfold St.trim
  simp only [St.mk.injEq, and_true]
  exact keepLive_congr fun p hp => keepLive_at hp
theorem exec_loop_trim (live : List Pos) (a : DCode) : exec k n (.loop live a) s = exec k n (.loop live a) (s.trim live) := by
  cases n with
  | zero => rfl
  | succ n =>
    simp only [exec, trim_trim]
    rfl
/- one round of a loop, from a state to the next -/
def roundView (next : Nat) (live : List Pos) (r : Out × St) : Bool × St := (isNormal r.1, (r.2.gc next live).trim live)
theorem loop_round {live : List Pos} {a : DCode} {s' : St} (h : (execG k n a (s.trim live) av).map (fun r => (roundView s.hp.next live r.1, r.2.1, r.2.2)) = some ((true, s'), [], fs)) (hf : ∀ P ∈ fs, P) :
    exec k (n + 1) (.loop live a) s = exec k n (.loop live a) s' := by
  obtain ⟨⟨o, s1⟩, h1, h2⟩ := exec_view _ h hf
  simp only [roundView, Prod.mk.injEq] at h2
  obtain ⟨h2, h3⟩ := h2
  cases o <;> simp [isNormal] at h2
  simp only [exec, h1, Option.bind_some]
  rw [exec_loop_trim, h3]
theorem loop_out {live : List Pos} {a : DCode} {β : Type} (f : Out × St → β) {y : β} (h : (execG k n a (s.trim live) av).map (fun r => ((isNormal r.1.1, f r.1), r.2.1, r.2.2)) = some ((false, y), [], fs)) (hf : ∀ P ∈ fs, P) :
    ∃ r, exec k (n + 1) (.loop live a) s = some r ∧ f r = y := by
  obtain ⟨⟨o, s1⟩, h1, h2⟩ := exec_view (fun r => (isNormal r.1, f r)) h hf
  simp only [Prod.mk.injEq] at h2
  obtain ⟨h2, h3⟩ := h2
  refine ⟨(o, s1), ?_, h3⟩
  simp only [exec, h1, Option.bind_some]
  cases o <;> simp [isNormal] at h2 ⊢
/- where what lies on the heap is asked for, too -/
def gcB (b : Bool) (c : Nat) (live : List Pos) (s : St) : St := ⟨keepLive s.tm live, s.defs, s.rc, bif Nat.beq s.hp.next c then s.hp else bif b then ⟨c, keepBelow c s.hp.bs, s.hp.log⟩ else s.hp⟩
def gcC (c : Nat) (live : List Pos) (s : St) : Bool := (tmBelow c (keepLive s.tm live) && defsBelow c s.defs) && bsBelow c (keepBelow c s.hp.bs)
theorem gc_eq {c : Nat} {live : List Pos} {s : St} {b : Bool} (h : gcC c live s = b) : s.gc c live = gcB b c live s := by
  subst h; rfl
def roundViewB (b : Bool) (next : Nat) (live : List Pos) (r : Out × St) : Bool × St × Bool := (isNormal r.1, (gcB b next live r.2).trim live, gcC next live r.2)
theorem loop_roundB {live : List Pos} {a : DCode} {s' : St} {b e : Bool} (h : (execG k n a (s.trim live) av).map (fun r => (roundViewB b s.hp.next live r.1, r.2.1, r.2.2)) = some ((true, s', e), [], fs)) (hb : e = b) (hf : ∀ P ∈ fs, P) :
    exec k (n + 1) (.loop live a) s = exec k n (.loop live a) s' := by
  obtain ⟨⟨o, s1⟩, h1, h2⟩ := exec_view _ h hf
  simp only [roundViewB, Prod.mk.injEq] at h2
  obtain ⟨h2, h3, h4⟩ := h2
  cases o <;> simp [isNormal] at h2
  simp only [exec, h1, Option.bind_some]
  rw [exec_loop_trim, gc_eq (h4.trans hb), h3]
/- statements one after another -/
theorem seq_normal {a b : DCode} {s1 : St} (h : exec k n a s = some (.normal, s1)) : exec k (n + 1) (.seq a b) s = exec k n b s1 := by simp [exec, h]
theorem seq_out {a b : DCode} {o : Out} {s1 : St} (h : exec k n a s = some (o, s1)) (ho : isNormal o = false) : exec k (n + 1) (.seq a b) s = some (o, s1) := by
  simp only [exec, h, Option.bind_some]
  cases o <;> simp [isNormal] at ho ⊢
theorem block_exit {id : Nat} {a : DCode} {s1 : St} (h : exec k n a s = some (.exit id, s1)) : exec k (n + 1) (.block id a) s = some (.normal, s1) := by simp [exec, h, Nat.beq_refl]
theorem block_ret {id : Nat} {a : DCode} {s1 : St} (h : exec k n a s = some (.ret, s1)) : exec k (n + 1) (.block id a) s = some (.ret, s1) := by simp [exec, h]
theorem block_normal {id : Nat} {a : DCode} {s1 : St} (h : exec k n a s = some (.normal, s1)) : exec k (n + 1) (.block id a) s = some (.normal, s1) := by simp [exec, h]
end
/- then, if nothing jumps -/
def thenS (r : Option (Out × St)) (f : St → Option (Out × St)) : Option (Out × St) :=
  match r with
  | some (.normal, s') => f s'
  | some r => some r
  | none => none
theorem seq_then {k : CallK} {n : Nat} {a b : DCode} {s : St} : exec k (n + 1) (.seq a b) s = thenS (exec k n a s) (exec k n b) := by
  simp only [exec]
  cases exec k n a s with
  | none => rfl
  | some r => obtain ⟨o, s'⟩ := r; cases o <;> rfl
/- what a function answers in its slot p -/
def isRet : Out → Bool
  | .ret => true
  | _ => false
def isOff : Rc → Bool
  | .off => true
  | _ => false
def viewR (p : Pos) (r : Out × St) : Bool × Option DV × Bool × Bool := (isRet r.1, r.2.tm.get p, r.2.defs.isEmpty, isOff r.2.rc)
theorem viewR_eq {p : Pos} {r : Out × St} {v : DV} (h : viewR p r = (true, some v, true, true)) : r.1 = .ret ∧ r.2.tm.get p = some v ∧ r.2.defs = [] ∧ r.2.rc = .off := by
  simp only [viewR, Prod.mk.injEq, List.isEmpty_iff] at h
  obtain ⟨h1, h2, h3, h4⟩ := h
  refine ⟨?_, h2, h3, ?_⟩
  · cases e : r.1 <;> rw [e] at h1 <;> simp [isRet] at h1 ⊢
  · cases e : r.2.rc <;> rw [e] at h4 <;> simp [isOff] at h4 ⊢
theorem view_out {p : Pos} {r : Out × St} {v : DV} (h : viewR p r = (true, some v, true, true)) : isNormal r.1 = false ∧ r.1 = .ret := by
  have := (viewR_eq h).1
  rw [this]; exact ⟨rfl, rfl⟩
/- the state in which the body of a function of one, two arguments begins -/
def in1 (a : FV) : St := ⟨slots [.f a] 0 .leaf, [], .off, Heap.empty⟩
def in2 (a b : FV) : St := ⟨slots [.f a, .f b] 0 .leaf, [], .off, Heap.empty⟩
/- a call on values, out of its body's run -/
theorem val_ret {k : CallK} {f : FuncId} {args : List FV} {v : FV} {rc : Rc} {h : Heap} {d : DV} (h1 : k (.f (.func f [] [])) (args.map .f) .off Heap.empty = some (.ret d, rc, h)) (h2 : freeze freezeDepth h d = some v) :
    callMode k .val (.f (.func f [] [])) (args.map .f) Heap.empty = some (.ret (.f v), Heap.empty) := by
  simp only [callMode, theF, allF_map, Option.bind_some, h1, h2]
theorem freeze_f (h : Heap) (v : FV) : freeze freezeDepth h (.f v) = some v := rfl
theorem call_prim {env : FuncId → Option DFunc} {prim : Prim} {n : Nat} {f : FuncId} {fs : List FV} {v : FV} {m : Mode} {h : Heap} (hv : prim f fs = some v) : callMode (callP env prim (n + 1)) m (.f (.func f [] [])) (fs.map .f) h = some (.ret (.f v), h) := by
  cases m with
  | val => simp [callMode, theF, allF_map, callP, hv, freeze_f]
  | full => simp [callMode, allF_map, callP, hv, Heap.gc, Nat.beq_refl]
theorem call_prim' {env : FuncId → Option DFunc} {prim : Prim} {n : Nat} {f : FuncId} {vs : List DV} {fs : List FV} {v : FV} {h : Heap} (ha : allF vs = none) (hf : freezeL freezeDepth h vs = some fs) (hr : (reach h 2000 (namesL vs) []).isSome = true) (hv : prim f fs = some v) :
    callMode (callP env prim (n + 1)) .val (.f (.func f [] [])) vs h = some (.ret (.f v), callHeap h vs v) := by
  have e : callP env prim (n + 1) (.f (.func f [] [])) (fs.map .f) .off Heap.empty = some (.ret (.f v), .off, Heap.empty) := by simp [callP, allF_map, hv]
  simp only [callMode, theF, Option.bind_some, ha, hf, e, freeze_f, callHeap]
  cases v.flat with
  | true => rfl
  | false =>
    cases hr' : reach h 2000 (namesL vs) [] with
    | none => rw [hr'] at hr; simp at hr
    | some F => rfl
theorem callP_body0 {env : FuncId → Option DFunc} {prim : Prim} {n : Nat} {f : FuncId} {df : DFunc} {args : List FV} {o : Out} {s : St} {vs : List DV} (hp : prim f args = none) (hdf : env f = some df) (hlen : Nat.ble args.length df.nt = true)
    (he : exec (callP env prim n) n df.body ⟨slots (args.map .f) 0 .leaf, [], .off, Heap.empty⟩ = some (o, s)) (ho : o = .ret ∨ o = .normal) (hd : s.defs = []) (hrc : s.rc = .off) (hr : readRes s.tm s.hp df.results = some vs) :
    callP env prim (n + 1) (.f (.func f [] [])) (args.map .f) .off Heap.empty = some (.ret (resVal vs), .off, s.hp) := by
  simp only [callP, allF_map, Option.bind_some, hp, hdf, List.map_nil, List.nil_append, List.append_nil]
  unfold enter
  have : Nat.ble (args.map DV.f).length df.nt = true := by simpa using hlen
  rw [this]
  simp only [chk, cond_true, he, Option.bind_some]
  rcases ho with rfl | rfl <;> simp [leave, hd, Dee.unwind, hr, hrc]
theorem callP_view {env : FuncId → Option DFunc} {prim : Prim} {n : Nat} {f : FuncId} {df : DFunc} {args : List FV} {r : Out × St} {p : Pos} {v : FV} (hp : prim f args = none) (hdf : env f = some df) (hlen : Nat.ble args.length df.nt = true) (hres : df.results = [.slot p])
    (he : exec (callP env prim n) n df.body ⟨slots (args.map .f) 0 .leaf, [], .off, Heap.empty⟩ = some r) (hv : viewR p r = (true, some (.f v), true, true)) :
    callMode (callP env prim (n + 1)) .val (.f (.func f [] [])) (args.map .f) Heap.empty = some (.ret (.f v), Heap.empty) := by
  obtain ⟨o, s⟩ := r
  obtain ⟨v1, v2, v3, v4⟩ := viewR_eq hv
  simp only at v1 v2 v3 v4; subst v1
  have hb := callP_body0 (vs := [.f v]) hp hdf hlen he (.inl rfl) v3 v4 (by simp [hres, readRes, v2])
  exact val_ret hb rfl
end Go.Dee
end
