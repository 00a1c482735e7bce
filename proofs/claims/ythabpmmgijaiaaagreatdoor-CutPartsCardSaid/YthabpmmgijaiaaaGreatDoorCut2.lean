/- Part of the proof: what the law's functions answer. -/
import Derived.Test.YthabpmmgijaiaaaGreatDoorCut1
import Derived.Test.YthabpmmgijaiaaaGreatDoorDee4
import Derived.LaidMore
import Derived.OpenShut
set_option linter.unusedSimpArgs false
set_option linter.unusedVariables false
section
/- The plain law of CutParts: joining parts, and joining what is joined. -/
namespace Go.Dee.L
theorem segEnd_weak {to d' : Int} : ∀ {rs : List Rcd} {d a a0 : Int}, segEnd to rs d a = some d' → a0 ≤ a → segEnd to rs d a0 = some d'
  | [], d, a, a0, h, _ => h
  | r :: rs, d, a, a0, h, h0 => by
    simp only [segEnd] at h ⊢
    by_cases h1 : r.at' < a
    · simp [h1] at h
    · have h2 : ¬ r.at' < a0 := by omega
      simp only [h1, h2, if_false] at h ⊢; exact h
theorem segEnd_app {t1 t2 d1 d2 : Int} (ht : t1 ≤ t2) {rs2 : List Rcd} (h2 : segEnd t2 rs2 d1 t1 = some d2) : ∀ {rs1 : List Rcd} {d a0 : Int}, a0 ≤ t1 → segEnd t1 rs1 d a0 = some d1 → segEnd t2 (rs1 ++ rs2) d a0 = some d2
  | [], d, a0, ha, h => by
    simp only [segEnd, Option.some.injEq] at h; subst h
    exact segEnd_weak h2 ha
  | r :: rs1, d, a0, ha, h => by
    simp only [segEnd, List.cons_append] at h ⊢
    by_cases h1 : r.at' < a0
    · simp [h1] at h
    · by_cases h3 : t1 ≤ r.at'
      · simp [h1, h3] at h
      · have h4 : ¬ t2 ≤ r.at' := by omega
        simp only [h1, h3, h4, if_false] at h ⊢
        exact segEnd_app ht h2 (by omega) h
structure SegOk (s : Seg) : Prop where
  lo : 0 ≤ s.frm
  le : s.frm ≤ s.to
  hi : s.to ≤ 10000000
  len : s.recs.list.length ≤ 5000
  run : segEnd s.to s.recs.list s.bgn s.frm = some s.fin
theorem isSeg_iff {s : Seg} : isSeg s = true ↔ SegOk s := by
  simp only [isSeg, segHead, Bool.and_eq_true, Bool.not_eq_true', Bool.or_eq_false_iff, decide_eq_false_iff_not, segGo_end]
  constructor
  · rintro ⟨⟨h1, h2, h3, h4⟩, h5⟩
    refine ⟨by omega, by omega, by omega, by omega, ?_⟩
    cases e : segEnd s.to s.recs.list s.bgn s.frm with
    | none => rw [e] at h5; simp at h5
    | some d => rw [e] at h5; simp at h5; rw [h5]
  · rintro ⟨h1, h2, h3, h4, h5⟩
    refine ⟨⟨by omega, by omega, by omega, by omega⟩, ?_⟩
    rw [h5]; simp
def joined (a b : Seg) (l : List Seg) : Seg := ⟨a.frm, b.to, a.bgn, b.fin, outRecs (recsOf l)⟩
theorem outRecs_list (l : List Rcd) : (outRecs l).list = l := by unfold outRecs; split <;> simp_all [Recs.list]
/- a list that fits -/
structure Fits (l : List Seg) : Prop where
  segs : l.all isSeg = true
  to : allB fitTo l = true
  sum : allB fitSum l = true
theorem Fits.tail {a : Seg} {l : List Seg} (h : Fits (a :: l)) : Fits l := by
  obtain ⟨h1, h2, h3⟩ := h
  simp only [List.all_cons, Bool.and_eq_true] at h1
  cases l with
  | nil => exact ⟨rfl, rfl, rfl⟩
  | cons b l =>
    simp only [allB, Bool.and_eq_true] at h2 h3
    exact ⟨h1.2, h2.2, h3.2⟩
theorem last_cons {a b c : Seg} {l : List Seg} (h : (a :: b :: l).getLast? = some c) : (b :: l).getLast? = some c := by simpa [List.getLast?_cons_cons] using h
theorem Fits.run : ∀ {l : List Seg} {a b : Seg}, Fits (a :: l) → (a :: l).getLast? = some b → segEnd b.to (recsOf (a :: l)) a.bgn a.frm = some b.fin ∧ a.frm ≤ b.to ∧ 0 ≤ a.frm ∧ b.to ≤ 10000000
  | [], a, b, h, hb => by
    simp at hb; subst hb
    have hs := isSeg_iff.1 (by simpa using h.segs)
    refine ⟨?_, hs.le, hs.lo, hs.hi⟩
    have : recsOf [a] = a.recs.list := by simp [recsOf]
    rw [this]; exact hs.run
  | c :: l, a, b, h, hb => by
    obtain ⟨r1, r2, r3, r4⟩ := Fits.run h.tail (last_cons hb)
    have hs : SegOk a := isSeg_iff.1 (by have := h.segs; simp only [List.all_cons, Bool.and_eq_true] at this; exact this.1)
    have hto : a.to = c.frm := by have := h.to; simp only [allB, Bool.and_eq_true, fitTo, decide_eq_true_eq] at this; exact this.1
    have hsum : a.fin = c.bgn := by have := h.sum; simp only [allB, Bool.and_eq_true, fitSum, decide_eq_true_eq] at this; exact this.1
    have e : recsOf (a :: c :: l) = a.recs.list ++ recsOf (c :: l) := by simp [recsOf]
    have hle := hs.le
    refine ⟨?_, by omega, hs.lo, r4⟩
    rw [e]
    rw [← hsum, ← hto] at r1
    exact segEnd_app (by omega) r1 hs.le hs.run
theorem Fits.seg {l : List Seg} {a b : Seg} (h : Fits l) (ha : l.head? = some a) (hb : l.getLast? = some b) (hlen : (recsOf l).length ≤ 5000) : SegOk (joined a b l) := by
  cases l with
  | nil => simp at ha
  | cons a' l =>
    simp at ha; subst ha
    obtain ⟨r1, r2, r3, r4⟩ := h.run hb
    exact ⟨r3, r2, r4, by simp only [joined, outRecs_list]; exact hlen, by simp only [joined, outRecs_list]; exact r1⟩
theorem allB_append {f : Seg → Seg → Bool} : ∀ {x y : List Seg}, allB f (x ++ y) = true → allB f x = true ∧ allB f y = true ∧ (∀ a b, x.getLast? = some a → y.head? = some b → f a b = true)
  | [], y, h => ⟨rfl, h, fun a b ha => by simp at ha⟩
  | [a], y, h => by
    cases y with
    | nil => exact ⟨rfl, rfl, fun a b _ hb => by simp at hb⟩
    | cons b y =>
      simp only [List.cons_append, List.nil_append, allB, Bool.and_eq_true] at h
      exact ⟨rfl, h.2, fun a' b' ha hb => by simp at ha hb; subst ha hb; exact h.1⟩
  | a :: b :: x, y, h => by
    simp only [List.cons_append, allB, Bool.and_eq_true] at h
    obtain ⟨h1, h2, h3⟩ := allB_append (x := b :: x) (y := y) h.2
    refine ⟨by simp [allB, h.1, h1], h2, fun a' b' ha hb => h3 a' b' (last_cons ha) hb⟩
theorem Fits.append {x y : List Seg} (h : Fits (x ++ y)) : Fits x ∧ Fits y := by
  obtain ⟨h1, h2, h3⟩ := h
  simp only [List.all_append, Bool.and_eq_true] at h1
  obtain ⟨a1, a2, _⟩ := allB_append h2
  obtain ⟨b1, b2, _⟩ := allB_append h3
  exact ⟨⟨h1.1, a1, b1⟩, ⟨h1.2, a2, b2⟩⟩
/- what is joined -/
structure Joins (l : List Seg) (s : Seg) : Prop where
  ne : l ≠ []
  len : l.length ≤ 32
  fits : Fits l
  recs : (recsOf l).length ≤ 5000
  eq : ∃ a b, l.head? = some a ∧ l.getLast? = some b ∧ s = joined a b l
theorem joinR_ok {l : List Seg} {s : Seg} : joinR l = .ok s ↔ Joins l s := by
  unfold joinR
  constructor
  · intro h
    split at h
    · simp at h
    · rename_i h0
      simp only [not_or] at h0
      split at h
      · simp at h
      · rename_i h1
        split at h
        · simp at h
        · rename_i h2
          split at h
          · simp at h
          · rename_i h3
            split at h
            · simp at h
            · rename_i h4
              split at h
              · rename_i a b ha hb
                simp only [JR.ok.injEq] at h
                exact ⟨fun e => h0.1 (by rw [e]; rfl), by omega, ⟨by simpa using h1, by simpa using h2, by simpa using h3⟩, by omega, a, b, ha, hb, h.symm⟩
              · simp at h
  · rintro ⟨h0, h1, ⟨h2, h3, h4⟩, h5, a, b, ha, hb, rfl⟩
    have h6 : ¬ (l.length = 0 ∨ 32 < l.length) := by
      rintro (e | e)
      · exact h0 (List.eq_nil_of_length_eq_zero e)
      · omega
    have h7 : ¬ 5000 < (recsOf l).length := by omega
    rw [if_neg h6, if_neg (by simp [h2]), if_neg (by simp [h3]), if_neg (by simp [h4]), if_neg h7, ha, hb]
    rfl
theorem sameB_refl {a b : Seg} (h1 : a.frm = b.frm) (h2 : a.to = b.to) (h3 : a.bgn = b.bgn) (h4 : a.fin = b.fin) (h5 : a.recs.list = b.recs.list) : sameB a b = true := by
  simp [sameB, h1, h2, h3, h4, recsEq_t h5]
/- one that is joined, joined alone -/
theorem Joins.alone {l : List Seg} {s : Seg} (h : Joins l s) : ∃ t, joinR [s] = .ok t ∧ sameB t s = true := by
  obtain ⟨h0, h1, h2, h5, a, b, ha, hb, rfl⟩ := h
  have hs := h2.seg ha hb h5
  refine ⟨joined (joined a b l) (joined a b l) [joined a b l], joinR_ok.2 ⟨by simp, by simp, ⟨by simpa using isSeg_iff.2 hs, rfl, rfl⟩, ?_, _, _, rfl, rfl, rfl⟩, sameB_refl rfl rfl rfl rfl ?_⟩
  · simpa [recsOf] using hs.len
  · simp [joined, outRecs_list, recsOf]
/- two parts -/
theorem Joins.parts {x y : List Seg} {s : Seg} (h : Joins (x ++ y) s) (hx : x ≠ []) (hy : y ≠ []) : ∃ a b t, joinR x = .ok a ∧ joinR y = .ok b ∧ joinR [a, b] = .ok t ∧ sameB s t = true := by
  obtain ⟨h0, h1, h2, h5, a, b, ha, hb, rfl⟩ := h
  obtain ⟨fx, fy⟩ := h2.append
  have hrec : recsOf (x ++ y) = recsOf x ++ recsOf y := by simp [recsOf]
  have hlen : (recsOf x).length + (recsOf y).length ≤ 5000 := by rw [hrec] at h5; simpa using h5
  obtain ⟨xa, hxa⟩ : ∃ c, x.head? = some c := by cases x with | nil => exact absurd rfl hx | cons c x => exact ⟨c, rfl⟩
  obtain ⟨xb, hxb⟩ : ∃ c, x.getLast? = some c := ⟨_, List.getLast?_eq_some_getLast hx⟩
  obtain ⟨ya, hya⟩ : ∃ c, y.head? = some c := by cases y with | nil => exact absurd rfl hy | cons c x => exact ⟨c, rfl⟩
  obtain ⟨yb, hyb⟩ : ∃ c, y.getLast? = some c := ⟨_, List.getLast?_eq_some_getLast hy⟩
  have ea : a = xa := by rw [List.head?_append, hxa] at ha; simpa using ha.symm
  have eb : b = yb := by rw [List.getLast?_append, hyb] at hb; simpa using hb.symm
  subst ea eb
  have sx := fx.seg hxa hxb (by omega)
  have sy := fy.seg hya hyb (by omega)
  have hto : xb.to = ya.frm := by have := (allB_append h2.to).2.2 xb ya hxb hya; simpa [fitTo] using this
  have hsum : xb.fin = ya.bgn := by have := (allB_append h2.sum).2.2 xb ya hxb hya; simpa [fitSum] using this
  refine ⟨joined a xb x, joined ya b y, joined (joined a xb x) (joined ya b y) [joined a xb x, joined ya b y], joinR_ok.2 ⟨hx, ?_, fx, by omega, a, xb, hxa, hxb, rfl⟩, joinR_ok.2 ⟨hy, ?_, fy, by omega, ya, b, hya, hyb, rfl⟩,
    joinR_ok.2 ⟨by simp, by simp, ⟨?_, ?_, ?_⟩, ?_, _, _, rfl, rfl, rfl⟩, sameB_refl rfl rfl rfl rfl ?_⟩
  · simp at h1; omega
  · simp at h1; omega
  · simp only [List.all_cons, List.all_nil, Bool.and_true, Bool.and_eq_true]; exact ⟨isSeg_iff.2 sx, isSeg_iff.2 sy⟩
  · simp [allB, fitTo, joined, hto]
  · simp [allB, fitSum, joined, hsum]
  · simp [recsOf, joined, outRecs_list]; simpa [recsOf] using hlen
  · simp [joined, outRecs_list, recsOf]
end Go.Dee.L
end
section
/- What CutParts answers: its steps. -/
set_option maxRecDepth 100000
namespace Go.Dee
/- a statement, then the rest, from a state to the next -/
theorem seq_next {k : CallK} {n : Nat} {c b : DCode} {s s' : St} {av : List Ans} {fs : List Prop} (h : (execG k n c s av).map (fun r => ((isNormal r.1.1, r.1.2), r.2.1, r.2.2)) = some ((true, s'), [], fs)) (hf : ∀ P ∈ fs, P) : exec k (n + 1) (.seq c b) s = exec k n b s' := by
  obtain ⟨⟨o, s1⟩, h1, h2⟩ := exec_view (fun r => (isNormal r.1, r.2)) h hf
  simp only [Prod.mk.injEq] at h2
  obtain ⟨h2, rfl⟩ := h2
  cases o <;> simp [isNormal] at h2
  exact seq_normal h1
theorem seq_stop {k : CallK} {n : Nat} {c b : DCode} {s : St} {av : List Ans} {fs : List Prop} {β : Type} (f : Out × St → β) {y : β} (h : (execG k n c s av).map (fun r => ((isNormal r.1.1, f r.1), r.2.1, r.2.2)) = some ((false, y), [], fs)) (hf : ∀ P ∈ fs, P) : ∃ r, exec k (n + 1) (.seq c b) s = some r ∧ f r = y := by
  obtain ⟨⟨o, s1⟩, h1, h2⟩ := exec_view (fun r => (isNormal r.1, f r)) h hf
  simp only [Prod.mk.injEq] at h2
  obtain ⟨h2, h3⟩ := h2
  exact ⟨(o, s1), seq_out h1 h2, h3⟩
def takeR (i : Nat) : DCode → DCode
  | .region l => .region (l.take i)
  | c => c
end Go.Dee
namespace Go.Dee.L
/- what is known to CutParts and CutOrder -/
def pHead : Prim := fun f args => bif Nat.beq f 5 then (match args with | [] => some (.bool true) | _ => none) else none
theorem pHead_ok (h : Known cx 5 [] (.bool true)) : PrimOk cx pHead := by
  intro f args v hv
  unfold pHead at hv
  cases hf : Nat.beq f 5 with
  | false => rw [hf] at hv; simp at hv
  | true =>
    rw [hf] at hv
    have := Nat.eq_of_beq_eq_true hf
    subst this
    cases args with
    | nil => simp at hv; subst hv; exact h
    | cons a l => simp at hv
open Classical in
noncomputable def rule8 : Prim := fun f args => if h : f = 8 ∧ ∃ a b : Seg, args = [a.fv, b.fv] ∧ a.recs.list.length ≤ 1000000 then some (.bool (sameB (Classical.choose h.2) (Classical.choose (Classical.choose_spec h.2)))) else none
theorem rule8_at (a b : Seg) (ha : a.recs.list.length ≤ 1000000) : rule8 8 [a.fv, b.fv] = some (.bool (sameB a b)) := by
  unfold rule8
  have h : 8 = 8 ∧ ∃ a' b' : Seg, [a.fv, b.fv] = [a'.fv, b'.fv] ∧ a'.recs.list.length ≤ 1000000 := ⟨rfl, a, b, rfl, ha⟩
  rw [dif_pos h]
  have h2 := (Classical.choose_spec (Classical.choose_spec h.2)).1
  have h3 := List.cons.inj h2
  have e1 := Seg.fv_inj h3.1
  have e2 := Seg.fv_inj (List.cons.inj h3.2).1
  have key : ∀ (x y : Seg), a = x → b = y → some (FV.bool (sameB x y)) = some (.bool (sameB a b)) := by rintro x y rfl rfl; rfl
  exact key _ _ e1 e2
theorem rule8_ok : PrimOk cx rule8 := by
  intro f args v h
  by_cases hc : f = 8 ∧ ∃ a b : Seg, args = [a.fv, b.fv] ∧ a.recs.list.length ≤ 1000000
  · obtain ⟨rfl, a, b, rfl, ha⟩ := hc
    rw [rule8_at a b ha] at h; simp at h; subst h
    exact same_known a b ha
  · unfold rule8 at h; rw [dif_neg hc] at h; simp at h
theorem rule8_other {f : FuncId} (hne : f ≠ 8) (args : List FV) : rule8 f args = none := by
  unfold rule8; rw [dif_neg]; exact fun h => hne h.1
noncomputable def rule7 : Prim := ruleL 7 [] (fun _ => True) fun s => (joinR s.list).fv
theorem rule7_ok : PrimOk cx rule7 := ruleL_ok fun s _ => join_known s
theorem rule7_at (s : Segs) : rule7 7 [s.fv] = some (joinR s.list).fv := ruleL_at 7 [] _ s trivial
noncomputable def pC : Prim := orPrim pHead (orPrim (rule1 6 fun s => .bool (fewB s)) (orPrim rule7 rule8))
theorem pC_ok (h : Known cx 5 [] (.bool true)) : PrimOk cx pC := orPrim_ok (pHead_ok h) (orPrim_ok (rule1_ok few_known) (orPrim_ok rule7_ok rule8_ok))
theorem pC_5 : pC 5 [] = some (.bool true) := rfl
theorem pC_6 (s : Seg) : pC 6 [s.fv] = some (.bool (fewB s)) := by
  unfold pC orPrim
  rw [rule1_at]; rfl
theorem pC_7 (s : Segs) : pC 7 [s.fv] = some (joinR s.list).fv := by
  unfold pC orPrim
  rw [rule1_other (by decide), rule7_at]; rfl
theorem pC_8 (a b : Seg) (h : a.recs.list.length ≤ 1000000) : pC 8 [a.fv, b.fv] = some (.bool (sameB a b)) := by
  unfold pC orPrim
  rw [rule1_other (by decide), rule8_at a b h]
  have : rule7 8 [a.fv, b.fv] = none := ruleL_other _ (.inl (by decide))
  rw [this]; rfl
theorem pC_none {f : FuncId} (args : List FV) (h5 : f ≠ 5) (h6 : f ≠ 6) (h7 : f ≠ 7) (h8 : f ≠ 8) : pC f args = none := by
  unfold pC orPrim
  have e : rule7 f args = none := ruleL_other _ (.inl h7)
  rw [rule1_other h6, rule8_other h8, e]
  have : Nat.beq f 5 = false := beq_false h5
  simp only [pHead, this, cond_false]
/- its statements -/
def restOf : DCode → DCode
  | .seq _ b => b
  | c => c
def fstOf : DCode → DCode
  | .seq a _ => a
  | c => c
def c3r (n : Nat) : DCode := Nat.repeat restOf n d3.body
def c3 (n : Nat) : DCode := fstOf (c3r n)
def lp3 : DCode := match c3 3 with | .seq _ (.block _ l) => l | _ => .skip
def i3 : DCode := fstOf (c3 3)
def lv3 : List Pos := match lp3 with | .loop live _ => live | _ => []
def bd3 : DCode := match lp3 with | .loop _ b => b | _ => .skip
theorem lp3_eq : lp3 = .loop lv3 bd3 := by kernel_rfl
theorem body3 : d3.body = .seq (c3 0) (.seq (c3 1) (.seq (c3 2) (.seq (.seq i3 (.block 0 lp3)) (c3r 4)))) := by kernel_rfl
theorem body3' : c3r 4 = .seq (c3 4) (.seq (c3 5) (.seq (c3 6) (.seq (c3 7) (.seq (c3 8) (.seq (c3 9) (.seq (c3 10) (.seq (c3 11) (c3r 12)))))))) := by kernel_rfl
/- the loop -/
def st3 (sv : FV) (x i : Int) : St := ⟨mkTm [(p1, .f sv), (p2, .f (.int .u8 x)), (p5, .f (.bool false)), (p6, .f (.bool true)), (p7, .f (.int .i64 i))], [], .off, ⟨0, [], []⟩⟩
theorem round3 (k : CallK) (n : Nat) (es : List FV) (cap : Option Nat) (x i : Int) (a : Seg) :
    (execG k (n + 20) bd3 ((st3 (.slice 5 es cap) x i).trim lv3) [.b true, .v a.fv, .c (.bool true)]).map (fun r => (roundView 0 lv3 r.1, r.2.1, r.2.2)) =
    some ((true, st3 (.slice 5 es cap) x (IntKind.i64.wrap (i + 1))), [],
     [decide (i < (es.length : Int)) = true, decide (0 ≤ i) = true, (Nat.beq 5 5 && Nat.blt i.toNat es.length) = true, es[i.toNat]? = some a.fv,
      callMode k .val (.f (.func 6 [] [])) [.f a.fv] ⟨0, [], []⟩ = some (.ret (.f (.bool true)), ⟨0, [], []⟩)]) := by
  obtain ⟨a1, a2, a3, a4, ar⟩ := a
  cases ar <;> kernel_rfl
theorem fail3 (k : CallK) (n : Nat) (es : List FV) (cap : Option Nat) (x i : Int) (a : Seg) :
    (execG k (n + 20) bd3 ((st3 (.slice 5 es cap) x i).trim lv3) [.b true, .v a.fv, .c (.bool false)]).map (fun r => ((isNormal r.1.1, viewR p5 r.1), r.2.1, r.2.2)) =
    some ((false, true, some (.f (.bool true)), true, true), [],
     [decide (i < (es.length : Int)) = true, decide (0 ≤ i) = true, (Nat.beq 5 5 && Nat.blt i.toNat es.length) = true, es[i.toNat]? = some a.fv,
      callMode k .val (.f (.func 6 [] [])) [.f a.fv] ⟨0, [], []⟩ = some (.ret (.f (.bool false)), ⟨0, [], []⟩)]) := by
  obtain ⟨a1, a2, a3, a4, ar⟩ := a
  cases ar <;> kernel_rfl
def out3 (k : CallK) (es : List FV) (cap : Option Nat) (x i : Int) : St := stOf (execG k 60 bd3 ((st3 (.slice 5 es cap) x i).trim lv3) [.b false])
theorem exit3 (k : CallK) (n : Nat) (es : List FV) (cap : Option Nat) (x i : Int) :
    (execG k (n + 20) bd3 ((st3 (.slice 5 es cap) x i).trim lv3) [.b false]).map (fun r => ((isNormal r.1.1, r.1), r.2.1, r.2.2)) = some ((false, (.exit 0, out3 k es cap x i)), [], [decide (i < (es.length : Int)) = false]) := by kernel_rfl
/- behind the loop -/
def next3 (k : CallK) (i : Nat) (s : St) (av : List Ans) : St := stOf (execG k 60 (c3 i) s av)
section
variable (k : CallK) (n : Nat) (es : List FV) (cap : Option Nat) (x i : Int)
/- the list joined -/
theorem step4 (j : JR) : (execG k (n + 20) (c3 4) (out3 k es cap x i) [.c j.fv]).map (fun r => ((isNormal r.1.1, r.1.2), r.2.1, r.2.2)) =
    some ((true, next3 k 4 (out3 k es cap x i) [.c j.fv]), [], [callMode k .val (.f (.func 7 [] [])) [.f (.slice 5 es cap)] ⟨0, [], []⟩ = some (.ret (.f j.fv), ⟨0, [], []⟩)]) := by
  cases j with
  | err c => kernel_rfl
  | ok s => obtain ⟨a1, a2, a3, a4, ar⟩ := s; cases ar <;> kernel_rfl
theorem step5e (c : Int) : (execG k (n + 20) (c3 5) (next3 k 4 (out3 k es cap x i) [.c (JR.err c).fv]) [.b true]).map (fun r => ((isNormal r.1.1, viewR p5 r.1), r.2.1, r.2.2)) =
    some ((false, true, some (.f (.bool true)), true, true), [], [(!decide (c = 0)) = true]) := by kernel_rfl
end
end Go.Dee.L
end
section
/- What CutParts answers: behind its loop. -/
set_option maxRecDepth 100000
namespace Go.Dee.L
def slotOf (s : St) (p : Pos) : DV := match s.tm.get p with | some d => d | none => default
def before (k : CallK) (c : DCode) (i : Nat) (s : St) : St := stOf (execG k 60 (takeR i c) s [])
section
variable (k : CallK) (n : Nat) (es : List FV) (cap : Option Nat) (x i : Int) (s one a b t : Seg)
def n4 : St := next3 k 4 (out3 k es cap x i) [.c (JR.ok s).fv]
def n5 : St := next3 k 5 (n4 k es cap x i s) [.b false]
def n6 : St := next3 k 6 (n5 k es cap x i s) [.c (JR.ok one).fv]
def n7 : St := next3 k 7 (n6 k es cap x i s one) []
def n8 : St := next3 k 8 (n7 k es cap x i s one) [.b false]
def n9 : St := next3 k 9 (n8 k es cap x i s one) [.c (JR.ok a).fv]
def n10 : St := next3 k 10 (n9 k es cap x i s one a) [.c (JR.ok b).fv]
def n11 : St := next3 k 11 (n10 k es cap x i s one a b) [.c (JR.ok t).fv]
theorem step5 : (execG k (n + 20) (c3 5) (n4 k es cap x i s) [.b false]).map (fun r => ((isNormal r.1.1, r.1.2), r.2.1, r.2.2)) =
    some ((true, n5 k es cap x i s), [], [(!decide ((0 : Int) = 0)) = false]) := by
  obtain ⟨a1, a2, a3, a4, ar⟩ := s; cases ar <;> kernel_rfl
def V6 : DV := slotOf (before k (c3 6) 2 (n5 k es cap x i s)) p54
def H6 : Heap := (before k (c3 6) 2 (n5 k es cap x i s)).hp
theorem call6 : allF [V6 k es cap x i s] = none ∧ freezeL freezeDepth (H6 k es cap x i s) [V6 k es cap x i s] = some [(Segs.sl [s] (some 1)).fv] ∧ (reach (H6 k es cap x i s) 2000 (namesL [V6 k es cap x i s]) []).isSome = true := by
  obtain ⟨a1, a2, a3, a4, ar⟩ := s; cases ar <;> exact ⟨by kernel_rfl, by kernel_rfl, by kernel_rfl⟩
theorem step6 : (execG k (n + 20) (c3 6) (n5 k es cap x i s) [.c (JR.ok one).fv]).map (fun r => ((isNormal r.1.1, r.1.2), r.2.1, r.2.2)) =
    some ((true, n6 k es cap x i s one), [], [callMode k .val (.f (.func 7 [] [])) [V6 k es cap x i s] (H6 k es cap x i s) = some (.ret (.f (JR.ok one).fv), callHeap (H6 k es cap x i s) [V6 k es cap x i s] (JR.ok one).fv)]) := by
  obtain ⟨a1, a2, a3, a4, ar⟩ := s; obtain ⟨b1, b2, b3, b4, br⟩ := one; cases ar <;> cases br <;> kernel_rfl
theorem step7 : (execG k (n + 20) (c3 7) (n6 k es cap x i s one) []).map (fun r => ((isNormal r.1.1, r.1.2), r.2.1, r.2.2)) =
    some ((true, n7 k es cap x i s one), [], [(!decide ((es.length : Int) = 0)) = true]) := by
  obtain ⟨a1, a2, a3, a4, ar⟩ := s; obtain ⟨b1, b2, b3, b4, br⟩ := one; cases ar <;> cases br <;> kernel_rfl
def at3 (es : List FV) (x : Int) : Int := (IntKind.i64.wrap x).tmod (es.length : Int)
theorem step8z : (execG k (n + 20) (c3 8) (n7 k es cap x i s one) [.b true, .b true, .c (.bool true)]).map (fun r => ((isNormal r.1.1, viewR p5 r.1), r.2.1, r.2.2)) =
    some ((false, true, some (.f (.bool true)), true, true), [], [decide (at3 es x = 0) = true, decide ((0 : Int) = 0) = true,
      callMode k .val (.f (.func 8 [] [])) [.f one.fv, .f s.fv] (n7 k es cap x i s one).hp = some (.ret (.f (.bool true)), (n7 k es cap x i s one).hp)]) := by
  obtain ⟨a1, a2, a3, a4, ar⟩ := s; obtain ⟨b1, b2, b3, b4, br⟩ := one; cases ar <;> cases br <;> kernel_rfl
theorem step8 : (execG k (n + 20) (c3 8) (n7 k es cap x i s one) [.b false]).map (fun r => ((isNormal r.1.1, r.1.2), r.2.1, r.2.2)) =
    some ((true, n8 k es cap x i s one), [], [decide (at3 es x = 0) = false]) := by
  obtain ⟨a1, a2, a3, a4, ar⟩ := s; obtain ⟨b1, b2, b3, b4, br⟩ := one; cases ar <;> cases br <;> kernel_rfl
theorem step9 : (execG k (n + 20) (c3 9) (n8 k es cap x i s one) [.c (JR.ok a).fv]).map (fun r => ((isNormal r.1.1, r.1.2), r.2.1, r.2.2)) =
    some ((true, n9 k es cap x i s one a), [], [decide (0 ≤ at3 es x) = true, Nat.ble 0 (at3 es x).toNat = true, (Nat.beq 5 5 && Nat.ble (at3 es x).toNat es.length) = true,
      callMode k .val (.f (.func 7 [] [])) [.f (.slice 5 ((es.drop 0).take ((at3 es x).toNat - 0)) (cap.map (· - 0)))] (n8 k es cap x i s one).hp = some (.ret (.f (JR.ok a).fv), (n8 k es cap x i s one).hp)]) := by
  obtain ⟨a1, a2, a3, a4, ar⟩ := s; obtain ⟨b1, b2, b3, b4, br⟩ := one; obtain ⟨c1, c2, c3', c4, cr⟩ := a; cases ar <;> cases br <;> cases cr <;> kernel_rfl
theorem step10 : (execG k (n + 20) (c3 10) (n9 k es cap x i s one a) [.c (JR.ok b).fv]).map (fun r => ((isNormal r.1.1, r.1.2), r.2.1, r.2.2)) =
    some ((true, n10 k es cap x i s one a b), [], [decide (0 ≤ at3 es x) = true, Nat.ble (at3 es x).toNat es.length = true, (Nat.beq 5 5 && Nat.ble es.length es.length) = true,
      callMode k .val (.f (.func 7 [] [])) [.f (.slice 5 ((es.drop (at3 es x).toNat).take (es.length - (at3 es x).toNat)) (cap.map (· - (at3 es x).toNat)))] (n9 k es cap x i s one a).hp = some (.ret (.f (JR.ok b).fv), (n9 k es cap x i s one a).hp)]) := by
  obtain ⟨a1, a2, a3, a4, ar⟩ := s; obtain ⟨b1, b2, b3, b4, br⟩ := one; obtain ⟨c1, c2, c3', c4, cr⟩ := a; obtain ⟨d1, d2, d3', d4, dr⟩ := b; cases ar <;> cases br <;> cases cr <;> cases dr <;> kernel_rfl
def V11 : DV := slotOf (before k (c3 11) 3 (n10 k es cap x i s one a b)) p92
def H11 : Heap := (before k (c3 11) 3 (n10 k es cap x i s one a b)).hp
theorem call11 : allF [V11 k es cap x i s one a b] = none ∧ freezeL freezeDepth (H11 k es cap x i s one a b) [V11 k es cap x i s one a b] = some [(Segs.sl [a, b] (some 2)).fv] ∧ (reach (H11 k es cap x i s one a b) 2000 (namesL [V11 k es cap x i s one a b]) []).isSome = true := by
  obtain ⟨a1, a2, a3, a4, ar⟩ := s; obtain ⟨b1, b2, b3, b4, br⟩ := one; obtain ⟨c1, c2, c3', c4, cr⟩ := a; obtain ⟨d1, d2, d3', d4, dr⟩ := b; cases ar <;> cases br <;> cases cr <;> cases dr <;> exact ⟨by kernel_rfl, by kernel_rfl, by kernel_rfl⟩
theorem step11 : (execG k (n + 20) (c3 11) (n10 k es cap x i s one a b) [.c (JR.ok t).fv]).map (fun r => ((isNormal r.1.1, r.1.2), r.2.1, r.2.2)) =
    some ((true, n11 k es cap x i s one a b t), [], [callMode k .val (.f (.func 7 [] [])) [V11 k es cap x i s one a b] (H11 k es cap x i s one a b) = some (.ret (.f (JR.ok t).fv), callHeap (H11 k es cap x i s one a b) [V11 k es cap x i s one a b] (JR.ok t).fv)]) := by
  obtain ⟨a1, a2, a3, a4, ar⟩ := s; obtain ⟨b1, b2, b3, b4, br⟩ := one; obtain ⟨c1, c2, c3', c4, cr⟩ := a; obtain ⟨d1, d2, d3', d4, dr⟩ := b; obtain ⟨e1, e2, e3, e4, er⟩ := t; cases ar <;> cases br <;> cases cr <;> cases dr <;> cases er <;> kernel_rfl
theorem step12 : (execG k (n + 20) (c3r 12) (n11 k es cap x i s one a b t) [.b true, .c (.bool true), .b true, .b true, .b true, .c (.bool true)]).map (fun r => (viewR p5 r.1, r.2.1, r.2.2)) =
    some ((true, some (.f (.bool true)), true, true), [], [decide ((0 : Int) = 0) = true,
      callMode k .val (.f (.func 8 [] [])) [.f one.fv, .f s.fv] (n11 k es cap x i s one a b t).hp = some (.ret (.f (.bool true)), (n11 k es cap x i s one a b t).hp),
      decide ((0 : Int) = 0) = true, decide ((0 : Int) = 0) = true, decide ((0 : Int) = 0) = true,
      callMode k .val (.f (.func 8 [] [])) [.f s.fv, .f t.fv] (n11 k es cap x i s one a b t).hp = some (.ret (.f (.bool true)), (n11 k es cap x i s one a b t).hp)]) := by
  obtain ⟨a1, a2, a3, a4, ar⟩ := s; obtain ⟨b1, b2, b3, b4, br⟩ := one; obtain ⟨c1, c2, c3', c4, cr⟩ := a; obtain ⟨d1, d2, d3', d4, dr⟩ := b; obtain ⟨e1, e2, e3, e4, er⟩ := t; cases ar <;> cases br <;> cases cr <;> cases dr <;> cases er <;> kernel_rfl
end
end Go.Dee.L
end
section
/- What CutParts answers: true. -/
set_option maxRecDepth 100000
namespace Go.Dee.L
theorem call5 (m : Nat) (h : Heap) : callMode (callP env pC (m + 1)) .full (.f (.func 5 [] [])) [] h = some (.ret (.f (.bool true)), h) := call_prim (env := env) (n := m) (m := .full) (h := h) pC_5
theorem call5v (m : Nat) (h : Heap) : callMode (callP env pC (m + 1)) .val (.f (.func 5 [] [])) [] h = some (.ret (.f (.bool true)), h) := call_prim (env := env) (n := m) (m := .val) (h := h) pC_5
theorem loop3 (m : Nat) (x : Int) (all : List Seg) (cap : Option Nat) (hall : all.length ≤ 1000) : ∀ (rest pre : List Seg) (n : Nat), all = pre ++ rest →
    (rest.all fewB = true → exec (callP env pC (m + 1)) (rest.length + n + 21) lp3 (st3 (.slice 5 (all.map Seg.fv) cap) x pre.length) = some (.exit 0, out3 (callP env pC (m + 1)) (all.map Seg.fv) cap x all.length)) ∧
    (rest.all fewB = false → ∃ r, exec (callP env pC (m + 1)) (rest.length + n + 21) lp3 (st3 (.slice 5 (all.map Seg.fv) cap) x pre.length) = some r ∧ viewR p5 r = (true, some (.f (.bool true)), true, true))
  | [], pre, n, hp => by
    refine ⟨fun _ => ?_, fun h => by simp at h⟩
    have hx := exit3 (callP env pC (m + 1)) n (all.map Seg.fv) cap x pre.length
    rw [lp3_eq]
    obtain ⟨r, h1, h2⟩ := loop_out (fun x => x) hx (fcons (by simp [hp]) fnil)
    simp only [List.length_nil, Nat.zero_add]
    rw [h1, h2]
    have : pre.length = all.length := by rw [hp]; simp
    rw [this]
  | a :: rest, pre, n, hp => by
    have hlen : pre.length + rest.length + 1 ≤ 1000 := by rw [hp] at hall; simp at hall; omega
    have hw : IntKind.i64.wrap ((pre.length : Int) + 1) = ((pre ++ [a]).length : Nat) := by rw [wrap_i64 (by omega) (by omega)]; simp
    obtain ⟨f1, f2, f3, f4⟩ := idx_facts hp
    have f1' : decide ((pre.length : Int) < ((all.map Seg.fv).length : Int)) = true := by rw [List.length_map]; exact f1
    have hc := call_prim (env := env) (n := m) (m := .val) (h := ⟨0, [], []⟩) (pC_6 a)
    simp only [List.map_cons, List.map_nil] at hc
    simp only [List.all_cons, List.length_cons]
    rw [lp3_eq, show rest.length + 1 + n + 21 = (rest.length + n + 1 + 20) + 1 by omega]
    cases hf : fewB a with
    | false =>
      refine ⟨fun h => by simp at h, fun _ => ?_⟩
      rw [hf] at hc
      exact loop_out (viewR p5) (fail3 (callP env pC (m + 1)) (rest.length + n + 1) (all.map Seg.fv) cap x pre.length a) (fcons f1' (fcons f2 (fcons f3 (fcons f4 (fcons hc fnil)))))
    | true =>
      rw [hf] at hc
      have hx := round3 (callP env pC (m + 1)) (rest.length + n + 1) (all.map Seg.fv) cap x pre.length a
      rw [hw] at hx
      have hstep := loop_round (s := st3 (.slice 5 (all.map Seg.fv) cap) x pre.length) hx (fcons f1' (fcons f2 (fcons f3 (fcons f4 (fcons hc fnil)))))
      have ih := loop3 m x all cap hall rest (pre ++ [a]) n (by simp [hp])
      rw [lp3_eq, show rest.length + n + 21 = rest.length + n + 1 + 20 by omega] at ih
      rw [hstep]
      simpa using ih
theorem headA (k : CallK) (n : Nat) (l : FV) (x : Int) : (execG k (n + 20) (c3 1) (stOf (execG k 60 (c3 0) (in2 l (.int .u8 x)) [])) [.c (.bool true)]).map (fun r => ((isNormal r.1.1, r.1.2), r.2.1, r.2.2)) =
    some ((true, next3 k 1 (stOf (execG k 60 (c3 0) (in2 l (.int .u8 x)) [])) [.c (.bool true)]), [], [callMode k .val (.f (.func 5 [] [])) [] Heap.empty = some (.ret (.f (.bool true)), Heap.empty)]) := by kernel_rfl
def m2 (k : CallK) (l : FV) (x : Int) : St := next3 k 1 (stOf (execG k 60 (c3 0) (in2 l (.int .u8 x)) [])) [.c (.bool true)]
theorem nil2 (k : CallK) (n : Nat) (x : Int) : (execG k (n + 20) (c3 2) (m2 k .nilslice x) [.b true]).map (fun r => ((isNormal r.1.1, viewR p5 r.1), r.2.1, r.2.2)) =
    some ((false, true, some (.f (.bool true)), true, true), [], [decide ((0 : Int) < 1) = true]) := by kernel_rfl
theorem few2 (k : CallK) (n : Nat) (es : List FV) (cap : Option Nat) (x : Int) : (execG k (n + 20) (c3 2) (m2 k (.slice 5 es cap) x) [.b true]).map (fun r => ((isNormal r.1.1, viewR p5 r.1), r.2.1, r.2.2)) =
    some ((false, true, some (.f (.bool true)), true, true), [], [decide ((es.length : Int) < 1) = true]) := by kernel_rfl
theorem many2 (k : CallK) (n : Nat) (es : List FV) (cap : Option Nat) (x : Int) : (execG k (n + 20) (c3 2) (m2 k (.slice 5 es cap) x) [.b false, .b true]).map (fun r => ((isNormal r.1.1, viewR p5 r.1), r.2.1, r.2.2)) =
    some ((false, true, some (.f (.bool true)), true, true), [], [decide ((es.length : Int) < 1) = false, decide ((32 : Int) < (es.length : Int)) = true]) := by kernel_rfl
def m3 (k : CallK) (es : List FV) (cap : Option Nat) (x : Int) : St := stOf (execG k 60 (c3 2) (m2 k (.slice 5 es cap) x) [.b false, .b false])
theorem some2 (k : CallK) (n : Nat) (es : List FV) (cap : Option Nat) (x : Int) : (execG k (n + 20) (c3 2) (m2 k (.slice 5 es cap) x) [.b false, .b false]).map (fun r => ((isNormal r.1.1, r.1.2), r.2.1, r.2.2)) =
    some ((true, m3 k es cap x), [], [decide ((es.length : Int) < 1) = false, decide ((32 : Int) < (es.length : Int)) = false]) := by kernel_rfl
theorem init3 (k : CallK) (n : Nat) (es : List FV) (cap : Option Nat) (x : Int) : (execG k (n + 20) i3 (m3 k es cap x) []).map (fun r => ((isNormal r.1.1, r.1.2.trim lv3), r.2.1, r.2.2)) = some ((true, st3 (.slice 5 es cap) x 0), [], []) := by kernel_rfl
theorem head0 (k : CallK) (n : Nat) (l : FV) (x : Int) : (execG k (n + 20) (c3 0) (in2 l (.int .u8 x)) []).map (fun r => ((isNormal r.1.1, r.1.2), r.2.1, r.2.2)) = some ((true, stOf (execG k 60 (c3 0) (in2 l (.int .u8 x)) [])), [], []) := by kernel_rfl
theorem zero_at {es : List FV} {x : Int} (hx : 0 ≤ x) (hx' : x < 256) (hes : 1 ≤ es.length) : 0 ≤ at3 es x ∧ at3 es x < es.length := by
  unfold at3
  have e : IntKind.i64.wrap x = x := wrap_i64 (by omega) (by omega)
  rw [e, Int.tmod_eq_emod_of_nonneg hx]
  exact ⟨Int.emod_nonneg _ (by omega), Int.emod_lt_of_pos _ (by omega)⟩
/- behind the loop -/
theorem rest3 (m n : Nat) (all : List Seg) (cap : Option Nat) (x : Int) (hx : 0 ≤ x) (hx' : x < 256) (h1 : 1 ≤ all.length) (h2 : all.length ≤ 32) :
    ∃ r, exec (callP env pC (m + 1)) (n + 60) (c3r 4) (out3 (callP env pC (m + 1)) (all.map Seg.fv) cap x all.length) = some r ∧ viewR p5 r = (true, some (.f (.bool true)), true, true) := by
  rw [body3']
  have hj := call_prim (env := env) (n := m) (m := .val) (h := ⟨0, [], []⟩) (pC_7 (.sl all cap))
  simp only [List.map_cons, List.map_nil, Segs.list, Segs.fv] at hj
  cases e : joinR all with
  | err c =>
    rw [e] at hj
    rw [seq_next (n := n + 59) (step4 _ _ (all.map Seg.fv) cap x all.length (.err c)) (fcons hj fnil)]
    refine seq_stop (n := n + 58) (viewR p5) (step5e _ (n + 38) (all.map Seg.fv) cap x all.length c) (fcons ?_ fnil)
    have hc : c = 1 ∨ c = 18 ∨ c = 11 ∨ c = 2 := by
      unfold joinR at e
      repeat' split at e
      all_goals simp at e
      all_goals omega
    rcases hc with rfl | rfl | rfl | rfl <;> rfl
  | ok s =>
    rw [e] at hj
    have hs := joinR_ok.1 e
    obtain ⟨one, ho, hos⟩ := hs.alone
    have hlim : ∀ {l : List Seg} {s : Seg}, joinR l = .ok s → s.recs.list.length ≤ 1000000 := by
      intro l s h
      obtain ⟨_, _, _, hr, a, b, _, _, rfl⟩ := joinR_ok.1 h
      simp only [joined, outRecs_list]; omega
    rw [seq_next (n := n + 59) (step4 _ _ (all.map Seg.fv) cap x all.length (.ok s)) (fcons hj fnil)]
    have en : ∀ k es i, next3 k 4 (out3 k es cap x i) [Ans.c (JR.ok s).fv] = n4 k es cap x i s := fun _ _ _ => rfl
    rw [en]
    rw [seq_next (n := n + 58) (step5 _ (n + 38) (all.map Seg.fv) cap x all.length s) (fcons rfl fnil)]
    obtain ⟨q1, q2, q3⟩ := call6 (callP env pC (m + 1)) (all.map Seg.fv) cap x all.length s
    have hp7 := pC_7 (.sl [s] (some 1))
    simp only [Segs.list, ho] at hp7
    have hc6 := call_prim' (env := env) (n := m) q1 q2 q3 hp7
    rw [seq_next (n := n + 57) (step6 _ (n + 37) (all.map Seg.fv) cap x all.length s one) (fcons hc6 fnil)]
    have hl0 : (!decide (((all.map Seg.fv).length : Int) = 0)) = true := by rw [List.length_map, decide_eq_false (by omega)]; rfl
    rw [seq_next (n := n + 56) (step7 _ (n + 36) (all.map Seg.fv) cap x all.length s one) (fcons hl0 fnil)]
    obtain ⟨z1, z2⟩ := zero_at (es := all.map Seg.fv) hx hx' (by rw [List.length_map]; exact h1)
    have hc8 := fun h => call_prim (env := env) (n := m) (m := .val) (h := h) (pC_8 one s (hlim ho))
    simp only [List.map_cons, List.map_nil, hos] at hc8
    by_cases hz : at3 (all.map Seg.fv) x = 0
    · exact seq_stop (n := n + 55) (viewR p5) (step8z _ (n + 35) (all.map Seg.fv) cap x all.length s one) (fcons (decide_eq_true hz) (fcons rfl (fcons (hc8 _) fnil)))
    · rw [seq_next (n := n + 55) (step8 _ (n + 35) (all.map Seg.fv) cap x all.length s one) (fcons (decide_eq_false hz) fnil)]
      obtain ⟨q, hq⟩ : ∃ q : Nat, at3 (all.map Seg.fv) x = q := ⟨_, (Int.toNat_of_nonneg z1).symm⟩
      have hql : q < all.length := by rw [hq, List.length_map] at z2; omega
      have hq0 : 0 < q := by omega
      have hjj : Joins (all.take q ++ all.drop q) s := by rw [List.take_append_drop]; exact hs
      obtain ⟨a, b, t, ja, jb, jt, hst⟩ := hjj.parts (by intro e; have := congrArg List.length e; rw [List.length_take, List.length_nil] at this; omega) (by intro e; have := congrArg List.length e; rw [List.length_drop, List.length_nil] at this; omega)
      have e9 : ((all.map Seg.fv).drop 0).take ((at3 (all.map Seg.fv) x).toNat - 0) = (all.take q).map Seg.fv := by rw [hq]; simp
      have e10 : ((all.map Seg.fv).drop (at3 (all.map Seg.fv) x).toNat).take ((all.map Seg.fv).length - (at3 (all.map Seg.fv) x).toNat) = (all.drop q).map Seg.fv := by
        rw [hq, Int.toNat_natCast, List.take_of_length_le (by simp), List.map_drop]
      have s9 := step9 (callP env pC (m + 1)) (n + 34) (all.map Seg.fv) cap x all.length s one a
      have s10 := step10 (callP env pC (m + 1)) (n + 33) (all.map Seg.fv) cap x all.length s one a b
      rw [e9, hq] at s9
      rw [e10, hq] at s10
      have hc9 := fun h => call_prim (env := env) (n := m) (m := .val) (h := h) (pC_7 (.sl (all.take q) (cap.map (· - 0))))
      have hc10 := fun h => call_prim (env := env) (n := m) (m := .val) (h := h) (pC_7 (.sl (all.drop q) (cap.map (· - (q : Int).toNat))))
      simp only [List.map_cons, List.map_nil, Segs.list, Segs.fv, ja] at hc9
      simp only [List.map_cons, List.map_nil, Segs.list, Segs.fv, jb] at hc10
      have g0 : decide (0 ≤ (q : Int)) = true := by simp
      have g1 : Nat.ble 0 (q : Int).toNat = true := rfl
      have g2 : Nat.ble (q : Int).toNat (all.map Seg.fv).length = true := Nat.ble_eq_true_of_le (by rw [List.length_map, Int.toNat_natCast]; omega)
      have g3 : (Nat.beq 5 5 && Nat.ble (q : Int).toNat (all.map Seg.fv).length) = true := by rw [g2]; rfl
      have g4 : (Nat.beq 5 5 && Nat.ble (all.map Seg.fv).length (all.map Seg.fv).length) = true := by
        have : Nat.ble (all.map Seg.fv).length (all.map Seg.fv).length = true := Nat.ble_eq_true_of_le (Nat.le_refl _)
        rw [this]; rfl
      rw [seq_next (n := n + 54) s9 (fcons g0 (fcons g1 (fcons g3 (fcons (hc9 _) fnil))))]
      rw [seq_next (n := n + 53) s10 (fcons g0 (fcons g2 (fcons g4 (fcons (hc10 _) fnil))))]
      obtain ⟨u1, u2, u3⟩ := call11 (callP env pC (m + 1)) (all.map Seg.fv) cap x all.length s one a b
      have hp11 := pC_7 (.sl [a, b] (some 2))
      simp only [Segs.list, jt] at hp11
      have hc11 := call_prim' (env := env) (n := m) u1 u2 u3 hp11
      rw [seq_next (n := n + 52) (step11 _ (n + 32) (all.map Seg.fv) cap x all.length s one a b t) (fcons hc11 fnil)]
      have hc12 := fun h => call_prim (env := env) (n := m) (m := .val) (h := h) (pC_8 s t (hlim e))
      simp only [List.map_cons, List.map_nil, hst] at hc12
      exact exec_view (viewR p5) (step12 _ (n + 32) (all.map Seg.fv) cap x all.length s one a b t) (fcons rfl (fcons (hc8 _) (fcons rfl (fcons rfl (fcons rfl (fcons (hc12 _) fnil))))))
theorem parts_run (m n : Nat) (l : Segs) (x : Int) (hx : 0 ≤ x) (hx' : x < 256) (hn : 200 ≤ n) :
    ∃ r, exec (callP env pC (m + 1)) n d3.body (in2 l.fv (.int .u8 x)) = some r ∧ viewR p5 r = (true, some (.f (.bool true)), true, true) := by
  obtain ⟨n, rfl⟩ : ∃ n', n = n' + 200 := ⟨n - 200, by omega⟩
  rw [body3]
  rw [seq_next (n := n + 199) (head0 _ (n + 179) l.fv x) fnil]
  rw [seq_next (n := n + 198) (headA _ (n + 178) l.fv x) (fcons (call5v m _) fnil)]
  have em : ∀ k l, next3 k 1 (stOf (execG k 60 (c3 0) (in2 l (.int .u8 x)) [])) [.c (.bool true)] = m2 k l x := fun _ _ => rfl
  rw [em]
  cases l with
  | nil => exact seq_stop (n := n + 197) (viewR p5) (nil2 _ (n + 177) x) (fcons (by decide) fnil)
  | sl all cap =>
    by_cases h0 : all.length = 0
    · exact seq_stop (n := n + 197) (viewR p5) (few2 _ (n + 177) (all.map Seg.fv) cap x) (fcons (by rw [List.length_map, h0]; rfl) fnil)
    · have h0' : decide (((all.map Seg.fv).length : Int) < 1) = false := by rw [List.length_map]; simp; omega
      by_cases h1 : 32 < all.length
      · exact seq_stop (n := n + 197) (viewR p5) (many2 _ (n + 177) (all.map Seg.fv) cap x) (fcons h0' (fcons (by rw [List.length_map]; simp; omega) fnil))
      · have h1' : decide ((32 : Int) < ((all.map Seg.fv).length : Int)) = false := by rw [List.length_map]; simp; omega
        simp only [Segs.fv]
        rw [seq_next (n := n + 197) (some2 _ (n + 177) (all.map Seg.fv) cap x) (fcons h0' (fcons h1' fnil))]
        obtain ⟨⟨o, sZ⟩, z1, z2⟩ := exec_view (k := callP env pC (m + 1)) (n := n + 195) (fun r => (isNormal r.1, r.2.trim lv3)) (init3 (callP env pC (m + 1)) (n + 175) (all.map Seg.fv) cap x) fnil
        simp only [Prod.mk.injEq] at z2
        obtain ⟨z2, z3⟩ := z2
        have ho : o = .normal := by cases o <;> simp [isNormal] at z2 ⊢
        subst ho
        rw [seq_then, seq_normal (n := n + 195) z1]
        obtain ⟨l1, l2⟩ := loop3 m x all cap (by omega) all [] (n + 194 - all.length - 21) rfl
        have e2 : all.length + (n + 194 - all.length - 21) + 21 = n + 194 := by omega
        rw [e2] at l1 l2
        have ht : exec (callP env pC (m + 1)) (n + 194) lp3 sZ = exec (callP env pC (m + 1)) (n + 194) lp3 (st3 (.slice 5 (all.map Seg.fv) cap) x 0) := by rw [lp3_eq, exec_loop_trim, z3]
        cases hf : all.all fewB with
        | true =>
          rw [block_exit (n := n + 194) (ht.trans (l1 hf))]
          exact rest3 m (n + 136) all cap x hx hx' (by omega) (by omega)
        | false =>
          obtain ⟨r, w1, w2⟩ := l2 hf
          have hr := (view_out w2).2
          obtain ⟨o, s1⟩ := r
          simp only at hr; subst hr
          rw [block_ret (n := n + 194) (ht.trans w1)]
          exact ⟨_, rfl, w2⟩
theorem parts_known (hh : Known cx 5 [] (.bool true)) (l : Segs) (x : Int) (hx : 0 ≤ x) (hx' : x < 256) : Known cx 3 [l.fv, .int .u8 x] (.bool true) := by
  obtain ⟨r, h1, h2⟩ := parts_run 199 200 l x hx hx' (Nat.le_refl _)
  exact known_of fol envOk (pC_ok hh) (callP_view (df := d3) (pC_none _ (by decide) (by decide) (by decide) (by decide)) (by kernel_rfl) (by kernel_rfl) (by kernel_rfl) h1 h2)
end Go.Dee.L
end
section
/- A datum of whole numbers and truths alone: the cells are what it says. -/
namespace Go.Dee
mutual
def Ty.plain : Ty → Bool
  | .int _ | .bool => true
  | .agg fs => Ty.plainL fs
  | _ => false
def Ty.plainL : List Ty → Bool
  | [] => true
  | t :: l => t.plain && Ty.plainL l
end
mutual
def leaves {H : Type} : DataW H → List FV
  | .lit (.int k n) => [.int k n]
  | .lit (.bool b) => [.bool b]
  | .agg ps => leavesL ps
  | _ => []
def leavesL {H : Type} : List (DataW H) → List FV
  | [] => []
  | d :: l => leaves d ++ leavesL l
end
theorem leavesL_append {H : Type} : ∀ (a b : List (DataW H)), leavesL (a ++ b) = leavesL a ++ leavesL b
  | [], b => rfl
  | d :: a, b => by simp [leavesL, leavesL_append a b]
theorem plainL_replicate {T : Ty} (h : T.plain = true) : ∀ n, Ty.plainL (List.replicate n T) = true
  | 0 => rfl
  | n + 1 => by rw [List.replicate_succ, Ty.plainL, h, plainL_replicate h n]; rfl
section
variable {H : Type} {enc : TypeId × Value → H} {P : Program} {W : World} {spare : Nat → Bool} {held : Bool} {M : Addr → Option Value}
theorem trod_leaves : ∀ (fuel n : Nat) (t : TypeId) (T : Ty) (cs : List Value) (d : DataW H) (ps : List MemPlace), tyOf P n t = some T → T.plain = true → DataW.trod enc P W 0 spare held fuel t cs = some (d, ps) → CF M (leaves d) cs
  | 0, n, t, T, cs, d, ps, _, _, h => by simp [DataW.trod] at h
  | fuel + 1, 0, t, T, cs, d, ps, hT, _, _ => by simp [tyOf] at hT
  | fuel + 1, n + 1, t, T, cs, d, ps, hT, hp, h => by
    have ih := trod_leaves fuel n
    unfold tyOf at hT
    unfold DataW.trod at h
    cases hu : P.underlying t with
    | none => rw [hu] at hT; simp at hT
    | some D =>
      rw [hu] at hT h
      cases D with
      | int k =>
        simp at hT; subst hT
        match cs, h with
        | [.int k' m], h =>
          simp only at h
          split at h
          · rename_i hk; obtain ⟨rfl, hw⟩ := hk
            simp only [Option.some.injEq, Prod.mk.injEq] at h
            obtain ⟨rfl, _⟩ := h
            exact .cons (.int _ _) .nil
          · simp at h
      | bool =>
        simp at hT; subst hT
        match cs, h with
        | [.bool b], h =>
          simp only [Option.some.injEq, Prod.mk.injEq] at h
          obtain ⟨rfl, _⟩ := h
          exact .cons (.bool _) .nil
      | string => simp at hT; subst hT; simp [Ty.plain] at hp
      | slice e =>
        simp only [Option.bind_eq_some_iff] at hT
        obtain ⟨Te, hTe, hT⟩ := hT
        obtain ⟨hck, hT⟩ := chk_some hT
        simp only [Option.some.injEq] at hT; subst hT
        simp [Ty.plain] at hp
      | struct fs =>
        simp only [Option.bind_eq_some_iff] at hT
        obtain ⟨l, hl, hT⟩ := hT
        obtain ⟨hck, hT⟩ := chk_some hT
        simp only [Option.some.injEq] at hT; subst hT
        simp only [Ty.plain] at hp
        have hsz := Nat.eq_of_beq_eq_true hck
        simp only at h
        split at h
        · rename_i hlen
          simp only [Option.map_eq_some_iff] at h
          obtain ⟨xs, hxs, hd⟩ := h
          have hpw := mapM_pw hxs
          have go : ∀ (fl : List Field) (off : Nat) (l : List Ty) (xs : List (DataW H × List MemPlace)), tyFields (tyOf P n) P.cellsOf fl off = some l → Ty.plainL l = true → PW (fun (f : Field) y => DataW.trod enc P W 0 spare held fuel f.type ((cs.drop f.offset).take (P.cellsOf f.type)) = some y) fl xs → off + Ty.sizeL l ≤ cs.length →
              CF M (leavesL (xs.map (·.1))) ((cs.drop off).take (Ty.sizeL l)) := by
            intro fl
            induction fl with
            | nil =>
              intro off l xs h1 _ h2 h3
              simp [tyFields] at h1; subst h1
              have := h2.nil_left; subst this
              simp only [Ty.sizeL, List.take_zero]; exact .nil
            | cons f fl ihf =>
              intro off l xs h1 hpl h2 h3
              simp only [tyFields, Option.bind_eq_some_iff] at h1
              obtain ⟨Tf, hTf, h1⟩ := h1
              obtain ⟨hc, h1⟩ := chk_some h1
              simp only [Option.bind_eq_some_iff, Option.some.injEq] at h1
              obtain ⟨r, hr, rfl⟩ := h1
              simp only [Bool.and_eq_true] at hc
              simp only [Ty.plainL, Bool.and_eq_true] at hpl
              have ho := Nat.eq_of_beq_eq_true hc.1
              have hs := Nat.eq_of_beq_eq_true hc.2
              obtain ⟨y, ys, rfl, hy, hys⟩ := h2.cons_left
              rw [ho, hs] at hy
              have g2 := ih f.type Tf _ y.1 y.2 hTf hpl.1 hy
              simp only [Ty.sizeL] at h3
              have g4 := ihf (off + Tf.size) r ys hr hpl.2 hys (by omega)
              have e : (cs.drop off).take (Ty.sizeL (Tf :: r)) = (cs.drop off).take Tf.size ++ (cs.drop (off + Tf.size)).take (Ty.sizeL r) := by
                simp only [Ty.sizeL]
                rw [List.take_add, List.drop_drop]
              rw [e, List.map_cons, leavesL]
              exact g2.append g4
          have g2 := go fs.toList 0 l xs hl hp hpw (by omega)
          have : (cs.drop 0).take (Ty.sizeL l) = cs := by rw [List.drop_zero, List.take_of_length_le (by omega)]
          rw [this] at g2
          simp only [Prod.mk.injEq] at hd
          rw [← hd.1]; exact g2
        · simp at h
      | array k e =>
        simp only [Option.bind_eq_some_iff] at hT
        obtain ⟨Te, hTe, hT⟩ := hT
        obtain ⟨hck, hT⟩ := chk_some hT
        simp only [Option.some.injEq] at hT; subst hT
        simp only [Ty.plain] at hp
        simp only [Bool.and_eq_true] at hck
        have hsz := Nat.eq_of_beq_eq_true hck.1
        have hst := Nat.eq_of_beq_eq_true hck.2
        simp only at h
        split at h
        · rename_i hlen
          simp only [Option.map_eq_some_iff] at h
          obtain ⟨xs, hxs, hd⟩ := h
          obtain ⟨x1, x2⟩ := (mapM_pw hxs).range
          have hpe : k ≠ 0 → Te.plain = true := by
            intro hk
            obtain ⟨k', rfl⟩ := Nat.exists_eq_succ_of_ne_zero hk
            rw [Nat.succ_eq_add_one, List.replicate_succ, Ty.plainL, Bool.and_eq_true] at hp
            exact hp.1
          have go : ∀ m, m ≤ k → CF M (leavesL ((xs.take m).map (·.1))) (cs.take (m * Te.size)) := by
            intro m
            induction m with
            | zero => intro _; simp only [Nat.zero_mul, List.take_zero]; exact .nil
            | succ m ihm =>
              intro hm
              have h2 := ihm (by omega)
              obtain ⟨y, hy⟩ : ∃ y, xs[m]? = some y := ⟨xs[m]'(by omega), List.getElem?_eq_getElem _⟩
              have ht := x2 m y hy
              rw [hsz] at ht
              have g2 := ih e Te _ y.1 y.2 hTe (hpe (by omega)) ht
              have e1 : cs.take ((m + 1) * Te.size) = cs.take (m * Te.size) ++ (cs.drop (m * Te.size)).take Te.size := by
                rw [Nat.succ_mul, List.take_add]
              have e2 : xs.take (m + 1) = xs.take m ++ [y] := by rw [List.take_add_one, hy]; rfl
              rw [e1, e2, List.map_append, leavesL_append]
              refine h2.append ?_
              simpa [leavesL] using g2
          have g2 := go k (Nat.le_refl _)
          rw [List.take_of_length_le (by omega), List.take_of_length_le (by omega)] at g2
          simp only [Prod.mk.injEq] at hd
          rw [← hd.1]; exact g2
        · simp at h
      | _ => simp at hT
/- a package-level variable -/
theorem glob_of {g : Nat} {t : TypeId} {T : Ty} {n : Nat} {v : FV} {cs : Array Value} {fuel : Nat} {d : DataW H} {ps : List MemPlace} (hT : tyOf P n t = some T) (hp : T.plain = true)
    (hc : ∀ j : Nat, ∀ y, cs[j]? = some y → W.cell? ⟨g, j, none⟩ = some y) (h : DataW.trod enc P W 0 spare held fuel t cs.toList = some (d, ps)) (hv : leaves d = v.cells) :
    ∃ X : Nat → Value, ∀ (j : Nat) (c : FV), v.cells[j]? = some c → allM W ⟨g, j, none⟩ = some (X j) ∧ FRel (allM W) c (X j) := by
  have hcf : CF (allM W) v.cells cs.toList := by rw [← hv]; exact trod_leaves fuel n t T _ d ps hT hp h
  refine ⟨fun j => (cs[j]?).getD default, fun j c hj => ?_⟩
  obtain ⟨y, hy, hr⟩ := hcf.get hj
  have hy' : cs[j]? = some y := by simpa using hy
  simp only [hy', Option.getD_some]
  refine ⟨?_, hr⟩
  unfold allM
  simp only [if_true]
  exact hc j y hy'
theorem glob_ty {P : Program} {n : Nat} {g : Nat} {t : TypeId} (ht : (P.globals[g]?).map (fun x => x.type) = some t) (h : ((P.globals[g]?).bind fun x => (tyOf P n x.type).map Ty.plain) = some true) : ∃ T, tyOf P n t = some T ∧ T.plain = true := by
  simp only [Option.map_eq_some_iff] at ht
  obtain ⟨x, hx, rfl⟩ := ht
  rw [hx] at h
  simp only [Option.bind_some, Option.map_eq_some_iff] at h
  exact h
end
/- what an argument can be -/
theorem FOk.int_inv {k : IntKind} {v : FV} (h : FOk (.int k) v) : ∃ n, v = .int k n ∧ (Lit.int k n).wf = true := by cases h; exact ⟨_, rfl, by assumption⟩
theorem FOk.bool_inv {v : FV} (h : FOk .bool v) : ∃ b, v = .bool b := by cases h; exact ⟨_, rfl⟩
theorem FOk.slice_inv {sz : Nat} {e : Ty} {v : FV} (h : FOk (.slice sz e) v) : v = .nilslice ∨ ∃ es, v = .slice sz es none ∧ ∀ x ∈ es, FOk e x := by
  cases h with
  | nil => exact .inl rfl
  | slice es hl h => exact .inr ⟨es, rfl, h⟩
theorem FOk.agg_inv {fs : List Ty} {v : FV} (h : FOk (.agg fs) v) : ∃ vs, v = .agg (vs.flatMap FV.cells) ∧ PW FOk fs vs := by
  cases h with
  | agg vs hl h => exact ⟨vs, rfl, hl, h⟩
theorem list_of {α : Type} {f : α → FV} : ∀ {es : List FV}, (∀ x ∈ es, ∃ a, x = f a) → ∃ l : List α, es = l.map f
  | [], _ => ⟨[], rfl⟩
  | e :: es, h => by
    obtain ⟨a, rfl⟩ := h e (List.mem_cons_self ..)
    obtain ⟨l, rfl⟩ := list_of (es := es) fun x hx => h x (List.mem_cons_of_mem _ hx)
    exact ⟨a :: l, rfl⟩
end Go.Dee
end
section
/- The arguments of CutParts and CutOrder, and the listed variables. -/
set_option maxRecDepth 100000
namespace Go.Dee.L
open Go.Proofs Go.Proofs.YthabpmmgijaiaaaGreatDoor
abbrev i6 : Ty := .int .i64
def tRcd : Ty := .agg [i6, i6, i6, .agg [i6, i6, i6, i6, i6, i6, .bool, .bool]]
def tSeg : Ty := .agg [i6, i6, .int .u64, .int .u64, .slice 11 tRcd]
theorem tyArg : tyOf Tryz.prog 20 22 = some (.slice 5 tSeg) := by kernel_rfl
theorem rcd_of {v : FV} (h : FOk tRcd v) : ∃ r : Rcd, v = r.fv := by
  obtain ⟨vs, rfl, hh⟩ := h.agg_inv
  clear h
  obtain ⟨v1, vs, rfl, h1, h⟩ := hh.cons_left
  obtain ⟨v2, vs, rfl, h2, h⟩ := h.cons_left
  obtain ⟨v3, vs, rfl, h3, h⟩ := h.cons_left
  obtain ⟨v0, vs, rfl, h0, h⟩ := h.cons_left
  have := h.nil_left; subst this
  obtain ⟨ws, rfl, hk⟩ := h0.agg_inv
  obtain ⟨v4, ws, rfl, h4, h⟩ := hk.cons_left
  obtain ⟨v5, ws, rfl, h5, h⟩ := h.cons_left
  obtain ⟨v6, ws, rfl, h6, h⟩ := h.cons_left
  obtain ⟨v7, ws, rfl, h7, h⟩ := h.cons_left
  obtain ⟨v8, ws, rfl, h8, h⟩ := h.cons_left
  obtain ⟨v9, ws, rfl, h9, h⟩ := h.cons_left
  obtain ⟨v10, ws, rfl, h10, h⟩ := h.cons_left
  obtain ⟨v11, ws, rfl, h11, h⟩ := h.cons_left
  have := h.nil_left; subst this
  obtain ⟨n1, rfl, _⟩ := h1.int_inv
  obtain ⟨n2, rfl, _⟩ := h2.int_inv
  obtain ⟨n3, rfl, _⟩ := h3.int_inv
  obtain ⟨n4, rfl, _⟩ := h4.int_inv
  obtain ⟨n5, rfl, _⟩ := h5.int_inv
  obtain ⟨n6, rfl, _⟩ := h6.int_inv
  obtain ⟨n7, rfl, _⟩ := h7.int_inv
  obtain ⟨n8, rfl, _⟩ := h8.int_inv
  obtain ⟨n9, rfl, _⟩ := h9.int_inv
  obtain ⟨b1, rfl⟩ := h10.bool_inv
  obtain ⟨b2, rfl⟩ := h11.bool_inv
  exact ⟨⟨n1, n2, n3, n4, n5, n6, n7, n8, n9, b1, b2⟩, rfl⟩
theorem recs_of {v : FV} (h : FOk (.slice 11 tRcd) v) : ∃ r : Recs, v = r.fv := by
  rcases h.slice_inv with rfl | ⟨es, rfl, hh⟩
  · exact ⟨.nil, rfl⟩
  · obtain ⟨l, rfl⟩ := list_of fun x hx => rcd_of (hh x hx)
    exact ⟨.sl l none, rfl⟩
theorem seg_of {v : FV} (h : FOk tSeg v) : ∃ s : Seg, v = s.fv := by
  obtain ⟨vs, rfl, hh⟩ := h.agg_inv
  clear h
  obtain ⟨v1, vs, rfl, h1, h⟩ := hh.cons_left
  obtain ⟨v2, vs, rfl, h2, h⟩ := h.cons_left
  obtain ⟨v3, vs, rfl, h3, h⟩ := h.cons_left
  obtain ⟨v4, vs, rfl, h4, h⟩ := h.cons_left
  obtain ⟨v5, vs, rfl, h5, h⟩ := h.cons_left
  have := h.nil_left; subst this
  obtain ⟨n1, rfl, _⟩ := h1.int_inv
  obtain ⟨n2, rfl, _⟩ := h2.int_inv
  obtain ⟨n3, rfl, _⟩ := h3.int_inv
  obtain ⟨n4, rfl, _⟩ := h4.int_inv
  obtain ⟨r, rfl⟩ := recs_of h5
  refine ⟨⟨n1, n2, n3, n4, r⟩, ?_⟩
  cases r <;> rfl
theorem segs_of {v : FV} (h : FOk (.slice 5 tSeg) v) : ∃ s : Segs, v = s.fv := by
  rcases h.slice_inv with rfl | ⟨es, rfl, hh⟩
  · exact ⟨.nil, rfl⟩
  · obtain ⟨l, rfl⟩ := list_of fun x hx => seg_of (hh x hx)
    exact ⟨.sl l none, rfl⟩
/- the listed variables -/
def laidL : List (String × DataW Unit) := [("queuelab/random.mixing", Rows.laid_queuelab_random_mixing), ("queuelab/machine.least", Rows.laid_queuelab_machine_least), ("queuelab/machine.most", Rows.laid_queuelab_machine_most)]
theorem gMixing : Tryz.prog.globalNamed "queuelab/random.mixing" = some 2 := by kernel_rfl
theorem gLeast : Tryz.prog.globalNamed "queuelab/machine.least" = some 0 := by kernel_rfl
theorem gMost : Tryz.prog.globalNamed "queuelab/machine.most" = some 1 := by kernel_rfl
theorem tMixing : ((Tryz.prog.globals[2]?).bind fun x => (tyOf Tryz.prog 20 x.type).map Ty.plain) = some true := by kernel_rfl
theorem tLeast : ((Tryz.prog.globals[0]?).bind fun x => (tyOf Tryz.prog 20 x.type).map Ty.plain) = some true := by kernel_rfl
theorem tMost : ((Tryz.prog.globals[1]?).bind fun x => (tyOf Tryz.prog 20 x.type).map Ty.plain) = some true := by kernel_rfl
theorem vMixing : leaves (Rows.laid_queuelab_random_mixing (H := Unit)) = (FV.agg [.int .u64 30, .int .u64 13787848793156543929, .int .u64 27, .int .u64 10723151780598845931, .int .u64 31, .int .u64 1]).cells := by kernel_rfl
theorem vLeast : leaves (Rows.laid_queuelab_machine_least (H := Unit)) = (FV.agg [I 1, I 1, I 1, I 0]).cells := by kernel_rfl
theorem vMost : leaves (Rows.laid_queuelab_machine_most (H := Unit)) = (FV.agg [I 1000, I 10000000, I 10000, I 4000]).cells := by kernel_rfl
theorem globOk {W : World} (h : laidMetH Tryz.prog laidL W) : Glob cx ⟨allM W, fun _ => none, fun _ _ => none⟩ := by
  rw [MakeChecks.laidMetH_plain _ _ _ (by kernel_rfl)] at h
  obtain ⟨ps, ⟨g0, t0, cs0, f0, p0, q0, hg0, ht0, hv0, hd0, ⟨g1, t1, cs1, f1, p1, q1, hg1, ht1, hv1, hd1, ⟨g2, t2, cs2, f2, p2, q2, hg2, ht2, hv2, hd2, _, _⟩, _⟩, _⟩, _⟩ := h
  obtain rfl := Option.some.inj (gMixing.symm.trans hg0)
  obtain rfl := Option.some.inj (gLeast.symm.trans hg1)
  obtain rfl := Option.some.inj (gMost.symm.trans hg2)
  obtain ⟨T0, a0, b0⟩ := glob_ty ht0 tMixing
  obtain ⟨T1, a1, b1⟩ := glob_ty ht1 tLeast
  obtain ⟨T2, a2, b2⟩ := glob_ty ht2 tMost
  have G0 := glob_of (W := W) (g := 2) a0 b0 (fun j y hy => by rw [World.var?_cell hg0 hv0 j]; exact hy) hd0 vMixing
  have G1 := glob_of (W := W) (g := 0) a1 b1 (fun j y hy => by rw [World.var?_cell hg1 hv1 j]; exact hy) hd1 vLeast
  have G2 := glob_of (W := W) (g := 1) a2 b2 (fun j y hy => by rw [World.var?_cell hg2 hv2 j]; exact hy) hd2 vMost
  intro g v hv
  match g, hv with
  | 0, hv => obtain rfl := Option.some.inj (show some _ = some v from hv); exact G1
  | 1, hv => obtain rfl := Option.some.inj (show some _ = some v from hv); exact G2
  | 2, hv => obtain rfl := Option.some.inj (show some _ = some v from hv); exact G0
  | n + 3, hv => exact absurd (show none = some v from hv) (by simp)
end Go.Dee.L
end
