/- Part of the proof: an interpreter that is proved sound over the model. -/
import Derived.Test.YthabpmmgijaiaaaGreatDoorDee2
set_option linter.unusedSimpArgs false
set_option linter.unusedVariables false
section
/- A call, in one of two ways. -/
namespace Go.Dee
section
variable {x : Cx} {p q : Pl} {h h1 h' : Heap} {w w1 : World} {k : CallK} {fv : DV} {args : List DV} {vf : Value} {vs : List Value} {cs : List Frame} {rc' : Rc}
/- a run in which the end is told in another way -/
theorem Run.turn {kind : CallKind} {rc rc' : Rc} {h2 h3 h4 : Heap} {o o' : COut} (r : Run x q h2 w vf vs kind cs rc rc' o h3)
    (f : ∀ p' w', Post x q h2 w p' h3 w' → ∃ p'', Post x p h w p'' h4 w' ∧ ∀ fr cs w1, Left x p' fr cs w1 w' o → Left x p'' fr cs w1 w' o') : Run x p h w vf vs kind cs rc rc' o' h4 := by
  obtain ⟨n, fr, p', w', w1, cs', fr', r1, r2, r3, r4, r5, r6, r7⟩ := r
  obtain ⟨p'', g1, g2⟩ := f p' w' r3
  exact ⟨n, fr, p'', w', w1, cs', fr', r1, r2, g1, r4, r5, r6, g2 _ _ _ r7⟩
theorem allF_map : ∀ (fs : List FV), allF (fs.map .f) = some fs
  | [] => rfl
  | v :: l => by simp [allF, allF_map l]
theorem callMode_sound (ks : KSound x k) (i : Inv x p h w) {m : Mode} (hf : DRel p fv vf) (ha : CD p args vs) {o : COut} (e : callMode k m fv args h = some (o, h')) (cs : List Frame) : ∃ rc', Run x p h w vf vs .normal cs .off rc' o h' := by
  cases m with
  | full =>
    simp only [callMode, Option.bind_eq_some_iff] at e
    obtain ⟨⟨o1, rc, h1⟩, hk, e⟩ := e
    have r := ks _ _ _ _ _ _ _ hk p w vf vs .normal cs i hf ha rfl
    refine ⟨rc, ?_⟩
    cases o1 with
    | ret v =>
      simp only [Option.some.injEq, Prod.mk.injEq] at e
      obtain ⟨rfl, rfl⟩ := e
      refine r.turn fun p' w' po => ?_
      obtain ⟨r', g1, g2, g3⟩ := gc_sound i po (below h.next v)
      exact ⟨r', g1, fun fr cs w1 ⟨y, hy, hs⟩ => ⟨y, g3 v y (fun h => h) hy, hs⟩⟩
    | panic v =>
      simp only [Option.some.injEq, Prod.mk.injEq] at e
      obtain ⟨rfl, rfl⟩ := e
      exact r
  | val =>
    simp only [callMode, Option.bind_eq_some_iff] at e
    obtain ⟨ff, hff, e⟩ := e
    obtain ⟨rfl, hfr⟩ := theF_rel hf hff
    split at e
    · rename_i fs hfs
      have := allF_some hfs; subst this
      simp only [Option.bind_eq_some_iff] at e
      obtain ⟨⟨o1, rc, h1⟩, hk, e⟩ := e
      have i0 := val_inv i (N := p.M) (fun _ _ h => h) i.M
      have r := ks _ _ _ _ _ _ _ hk ⟨p.M, p.K, fun _ _ => none⟩ w vf vs .normal cs i0 (.f hfr) (CF.toD (p := ⟨p.M, p.K, fun _ _ => none⟩) ha.toF) rfl
      refine ⟨rc, ?_⟩
      cases o1 with
      | ret v =>
        simp only [Option.bind_eq_some_iff, Option.some.injEq, Prod.mk.injEq] at e
        obtain ⟨fz, hfz, rfl, rfl⟩ := e
        refine r.turn fun p' w' po => ?_
        refine ⟨_, val_post i po [] (frozenAll p' h1 w') (fun a v hv => frozenAll_old (po.ext.M a v hv)) ?_ rfl (fun id blk hb => ⟨hb, by simp⟩) (fun _ h => h) (fun _ h => by simp at h), ?_⟩
        · intro a v hv
          obtain ⟨g1, g2, g3⟩ := frozenAll_some po.inv hv
          refine ⟨g1, g2, ?_⟩
          rcases g3 with g3 | ⟨id, g3⟩
          · rcases po.mnew a v g3 with g | g | ⟨id, _, g⟩
            · exact .inl g
            · exact .inr (.inl g)
            · exact absurd g not_owns_empty
          · refine .inr (.inl ?_)
            rcases Nat.lt_or_ge a.block w.heap.size with hlt | hge
            · exact absurd (po.own id _ g3 hlt) not_owns_empty
            · exact hge
        · rintro fr cs w1 ⟨y, hy, hs⟩
          refine ⟨y, .f ?_, hs⟩
          exact (freeze_sound po.inv (fun _ => True) (M := frozenAll p' h1 w') (fun a v hv => frozenAll_old hv) (fun id b o v _ ho hc => frozenAll_cov po.inv ho hc) (fun _ _ _ _ _ _ => trivial) freezeDepth).1 v fz y hfz hy (fun _ _ => trivial)
      | panic v =>
        simp only [Option.some.injEq, Prod.mk.injEq] at e
        obtain ⟨rfl, rfl⟩ := e
        refine r.turn fun p' w' po => ?_
        refine ⟨_, val_post i po [] p'.M (fun a v hv => po.ext.M a v hv) ?_ rfl (fun id blk hb => ⟨hb, by simp⟩) (fun _ h => h) (fun _ h => by simp at h), ?_⟩
        · intro a v hv
          refine ⟨(po.inv.M a v hv).1, (po.inv.M a v hv).2, ?_⟩
          rcases po.mnew a v hv with g | g | ⟨id, _, g⟩
          · exact .inl g
          · exact .inr (.inl g)
          · exact absurd g not_owns_empty
        · intro fr cs w1 hl; exact hl
    · simp only [Option.bind_eq_some_iff] at e
      obtain ⟨fs, hfs, ⟨o1, rc, h1⟩, hk, e⟩ := e
      have flatcase : ∀ (S : Nat → Prop), (∀ id b, S id → h.get id = some b → ∀ n ∈ blkNames b, S n) → (∀ m ∈ namesL args, S m) → Run x ⟨frozenSome p h S w, p.K, fun _ _ => none⟩ Heap.empty w vf vs .normal cs .off rc o1 h1 := by
        intro S hcl hn
        have hcf := (freeze_sound i S (M := frozenSome p h S w) (fun a v hv => frozenSome_old hv) (fun id b o v hS ho hc => frozenSome_cov i hS ho hc) hcl freezeDepth).2 args fs vs hfs ha hn
        have i0 := val_inv i (N := frozenSome p h S w) (fun a v hv => frozenSome_old hv) (fun a v hv => let ⟨g1, g2, _⟩ := frozenSome_some i hv; ⟨g1, g2⟩)
        exact ks _ _ _ _ _ _ _ hk ⟨frozenSome p h S w, p.K, fun _ _ => none⟩ w vf vs .normal cs i0 (.f (hfr.mono fun a v hv => frozenSome_old hv)) (CF.toD (p := ⟨frozenSome p h S w, p.K, fun _ _ => none⟩) hcf) rfl
      have back : ∀ (S : Nat → Prop) (p' : Pl) (w' : World), Post x ⟨frozenSome p h S w, p.K, fun _ _ => none⟩ Heap.empty w p' h1 w' → Post x p h w ⟨p.M, p'.K, p.ι⟩ h w' := by
        intro S p' w' po
        refine val_post i po [] p.M (fun _ _ h => h) ?_ rfl (fun id blk hb => ⟨hb, by simp⟩) (fun _ h => h) (fun _ h => by simp at h)
        intro a v hv
        have := po.ext.M a v (frozenSome_old hv)
        exact ⟨(po.inv.M a v this).1, (po.inv.M a v this).2, .inl hv⟩
      refine ⟨rc, ?_⟩
      cases o1 with
      | ret v =>
        simp only [Option.bind_eq_some_iff] at e
        obtain ⟨fz, hfz, e⟩ := e
        cases hfl : fz.flat with
        | true =>
          simp only [hfl, cond_true, Option.some.injEq, Prod.mk.injEq] at e
          obtain ⟨rfl, rfl⟩ := e
          refine (flatcase (fun _ => True) (fun _ _ _ _ _ _ => trivial) (fun _ _ => trivial)).turn fun p' w' po => ?_
          refine ⟨_, back _ p' w' po, ?_⟩
          rintro fr cs w1 ⟨y, hy, hs⟩
          refine ⟨y, .f ?_, hs⟩
          refine flat_rel ((freeze_sound po.inv (fun _ => True) (M := frozenAll p' h1 w') (fun a v hv => frozenAll_old hv) (fun id b o v _ ho hc => frozenAll_cov po.inv ho hc) (fun _ _ _ _ _ _ => trivial) freezeDepth).1 v fz y hfz hy (fun _ _ => trivial)) hfl
        | false =>
          simp only [hfl, cond_false, Option.bind_eq_some_iff, Option.some.injEq, Prod.mk.injEq] at e
          obtain ⟨F, hF, rfl, rfl⟩ := e
          obtain ⟨f1, f2, f3⟩ := reach_sound hF
          refine (flatcase (fun n => n ∈ F) (fun id b hid hb n hn => ?_) (fun m hm => f2 m hm)).turn fun p' w' po => ?_
          · rcases f3 id hid with h | h
            · simp at h
            · exact h b hb n hn
          · refine ⟨_, val_post i po F (frozenAll p' h1 w') (fun a v hv => frozenAll_old (po.ext.M a v (frozenSome_old hv))) ?_ rfl ?_ ?_ ?_, ?_⟩
            · intro a v hv
              obtain ⟨g1, g2, g3⟩ := frozenAll_some po.inv hv
              refine ⟨g1, g2, ?_⟩
              rcases g3 with g3 | ⟨id, g3⟩
              · rcases po.mnew a v g3 with g | g | ⟨id, _, g⟩
                · obtain ⟨_, _, g⟩ := frozenSome_some i g
                  rcases g with g | ⟨id, g, g'⟩
                  · exact .inl g
                  · exact .inr (.inr ⟨id, g, g'⟩)
                · exact .inr (.inl g)
                · exact absurd g not_owns_empty
              · refine .inr (.inl ?_)
                rcases Nat.lt_or_ge a.block w.heap.size with hlt | hge
                · exact absurd (po.own id _ g3 hlt) not_owns_empty
                · exact hge
            · intro id blk hb
              simp only [Heap.give, Heap.get, getB_dropIn] at hb
              cases hin : elemN id F with
              | true => simp [hin] at hb
              | false =>
                simp only [hin, cond_false] at hb
                exact ⟨hb, fun hm => by rw [elemN_mem.2 hm] at hin; simp at hin⟩
            · intro n hn; exact mem_unionLog.2 (.inl hn)
            · intro n hn; exact mem_unionLog.2 (.inr hn)
            · rintro fr cs w1 ⟨y, hy, hs⟩
              refine ⟨y, .f ?_, hs⟩
              exact (freeze_sound po.inv (fun _ => True) (M := frozenAll p' h1 w') (fun a v hv => frozenAll_old hv) (fun id b o v _ ho hc => frozenAll_cov po.inv ho hc) (fun _ _ _ _ _ _ => trivial) freezeDepth).1 v fz y hfz hy (fun _ _ => trivial)
      | panic v =>
        obtain ⟨hfl, e⟩ := chk_some e
        simp only [Option.some.injEq, Prod.mk.injEq] at e
        obtain ⟨rfl, rfl⟩ := e
        refine (flatcase (fun _ => True) (fun _ _ _ _ _ _ => trivial) (fun _ _ => trivial)).turn fun p' w' po => ?_
        refine ⟨_, back _ p' w' po, ?_⟩
        rintro fr cs w1 ⟨y, hy, hs⟩
        exact ⟨y, flat_rel hy hfl, hs⟩
end
end Go.Dee
end
section
/- Operations at the machine. -/
namespace Go.Dee
def DOp.plain : DOp → Bool
  | .call .. | .recover | .defer .. | .panic _ => false
  | _ => true
def AllP (o : Option DOp) : Prop := ∀ d, o = some d → d.plain = true
theorem AllP.none : AllP none := fun d h => by simp at h
theorem AllP.some {d : DOp} (h : d.plain = true) : AllP (some d) := fun d' e => by simp at e; subst e; exact h
theorem AllP.bind {α : Type} {y : Option α} {f : α → Option DOp} (h : ∀ a, AllP (f a)) : AllP (y.bind f) := fun d e => by
  simp only [Option.bind_eq_some_iff] at e
  obtain ⟨a, _, e⟩ := e
  exact h a d e
theorem AllP.chk {b : Bool} {y : Option DOp} (h : AllP y) : AllP (chk b y) := fun d e => h d (chk_some e).2
theorem AllP.cond {b : Bool} {y z : Option DOp} (h : AllP y) (h' : AllP z) : AllP (bif b then y else z) := by cases b <;> assumption
theorem eq_plain {x : Cx} {neg : Bool} {t : TypeId} {a b : Operand} : AllP (x.eq neg t a b) := by
  unfold Cx.eq
  repeat first
    | exact .none
    | exact .some rfl
    | (refine .bind ?_; intro _)
    | refine .chk ?_
    | refine .cond ?_ ?_
    | split
    | dsimp only
theorem op_plain {x : Cx} : ∀ (op : Op), (∀ c, op ≠ .call c) → (∀ c, op ≠ .defer c) → (∀ a, op ≠ .panic a) → AllP (x.op op) := by
  intro op h1 h2 h3
  cases op with
  | call c => exact absurd rfl (h1 c)
  | defer c => exact absurd rfl (h2 c)
  | panic a => exact absurd rfl (h3 a)
  | makeMap t r => cases r <;> (simp only [Cx.op]; repeat first | exact .none | exact .some rfl | (refine .bind ?_; intro _) | split)
  | _ =>
    simp only [Cx.op, Cx.conv, Cx.slice]
    repeat first
      | exact .none
      | exact .some rfl
      | exact eq_plain
      | (refine .bind ?_; intro _)
      | refine .chk ?_
      | refine .cond ?_ ?_
      | split
      | dsimp only
theorem builtin_plain {x : Cx} {b : Builtin} {as : List Operand} {ts : List TypeId} (hb : b ≠ .recover) : AllP (x.builtin b as ts) := by
  unfold Cx.builtin
  repeat first
    | exact .none
    | exact .some rfl
    | exact absurd rfl hb
    | (refine .bind ?_; intro _)
    | refine .chk ?_
    | refine .cond ?_ ?_
    | split
    | dsimp only
inductive OpIs (x : Cx) (op : Op) (d : DOp) : Prop where
  | plain (h : d.plain = true)
  | call (c : Call) (v : Operand) (m : Mode) (f : Opnd) (args : List Opnd) (e : op = .call c) (ec : c.callee = .value v) (ev : x.opnd v = some f) (ea : x.opnds c.args.toList = some args) (ed : d = .call m f args)
  | recover (c : Call) (e : op = .call c) (ec : c.callee = .builtin .recover) (ed : d = .recover)
  | defer (c : Call) (v : Operand) (f : Opnd) (args : List Opnd) (e : op = .defer c) (ec : c.callee = .value v) (ev : x.opnd v = some f) (ea : x.opnds c.args.toList = some args) (ed : d = .defer f args)
  | panic (a : Operand) (p : Opnd) (e : op = .panic a) (ea : x.opnd a = some p) (ed : d = .panic p)
theorem op_is {x : Cx} {op : Op} {d : DOp} (h : x.op op = some d) : OpIs x op d := by
  by_cases h1 : ∃ c, op = .call c
  · obtain ⟨c, rfl⟩ := h1
    simp only [Cx.op] at h
    split at h
    · rename_i f hf
      simp only [Option.bind_eq_some_iff, Option.some.injEq] at h
      obtain ⟨p, hp, l, hl, rfl⟩ := h
      exact .call c f _ p l rfl hf hp hl rfl
    · rename_i b hb
      by_cases hr : b = .recover
      · subst hr
        unfold Cx.builtin at h
        split at h <;> try (rename_i heq _ _; simp at heq; done)
        all_goals first
          | (simp only [Option.some.injEq] at h; exact .recover c rfl hb h.symm)
          | simp_all
      · exact .plain (builtin_plain hr d h)
    · simp at h
  · by_cases h2 : ∃ c, op = .defer c
    · obtain ⟨c, rfl⟩ := h2
      simp only [Cx.op] at h
      split at h
      · rename_i f hf
        simp only [Option.bind_eq_some_iff, Option.some.injEq] at h
        obtain ⟨p, hp, l, hl, rfl⟩ := h
        exact .defer c f p l rfl hf hp hl rfl
      · simp at h
    · by_cases h3 : ∃ a, op = .panic a
      · obtain ⟨a, rfl⟩ := h3
        simp only [Cx.op, Option.bind_eq_some_iff, Option.some.injEq] at h
        obtain ⟨p, hp, rfl⟩ := h
        exact .panic a p rfl hp rfl
      · exact .plain (op_plain op (fun c e => h1 ⟨c, e⟩) (fun c e => h2 ⟨c, e⟩) (fun a e => h3 ⟨a, e⟩) d h)
section
variable {x : Cx} {β : Nat} {p q : Pl} {w w' : World} {s : St} {b : Frame} {a : Act} {cs : List Frame}
theorem TmRel.put {tm : Tm} {tmps : Array Value} (r : TmRel p tm tmps) {t : Nat} (ht : t < tmps.size) {d : DV} {v : Value} (hd : DRel p d v) : TmRel p (tm.set (slot t) d) (tmps.setIfInBounds t v) := by
  refine ⟨by simpa using r.1, fun t' d' ht' hg => ?_⟩
  simp at ht'
  by_cases e : t' = t
  · subst e
    rw [Tm.get_set_same] at hg; simp at hg; subst hg
    exact ⟨v, by simp [ht], hd⟩
  · have hne : slot t ≠ slot t' := fun he => e (slot_inj (by have := r.1; omega) (by have := r.1; omega) he).symm
    rw [Tm.get_set_other _ _ _ _ hne] at hg
    obtain ⟨y, hy, hr⟩ := r.2 t' d' ht' hg
    exact ⟨y, by simp [Array.getElem?_setIfInBounds, Ne.symm e, hy], hr⟩
theorem SRel.put (sr : SRel x β p s w b a cs) {o : Option Tmp} {dp : Option Pos} (ho : x.dst o = some dp) {d : DV} {v : Value} (hd : DRel p d v) : SRel x β p (s.put dp d) w b (a.put o v) cs := by
  cases o with
  | none => simp [Cx.dst] at ho; subst ho; exact sr
  | some t =>
    simp only [Cx.dst] at ho
    obtain ⟨h1, h2⟩ := chk_some ho
    simp at h2; subst h2
    have ht : t < a.tmps.size := by rw [sr.nt]; exact Nat.lt_of_succ_le (Nat.le_of_ble_eq_true h1)
    exact ⟨sr.inv, sr.tm.put ht hd, by simpa [Act.put] using sr.nt, sr.defs, sr.rc, sr.base⟩
theorem SRel.rho (sr : SRel x β p s w b a cs) : ERho x p (ev s.tm) a.eval := fun _ _ _ ho hv => opnd_rel sr.inv rfl sr.nt sr.tm ho hv
theorem SRel.heap (sr : SRel x β p s w b a cs) {h' : Heap} (po : Post x p s.hp w q h' w') : SRel x β q (s.heap h') w' b a cs :=
  ⟨po.inv, sr.tm.mono po.ext, sr.nt, sr.defs.post sr.inv po, sr.rc.mono po.ext, Nat.le_trans sr.base po.size⟩
theorem unit_rel : DRel p Dee.unit undef := .f (.tuple [] rfl (by simp))
theorem wanted_rel (sr : SRel x β p s w b a cs) {ops : Array Oper} {o : Oper} {g : Option (Pos × Bool)} (hg : x.guard ops o.guard = some g) {t : Bool} (hw : wanted s.tm g = some t) : Region.wanted o (yielded ops a.tmps) = t := by
  unfold Region.wanted
  cases hgo : o.guard with
  | none => rw [hgo] at hg; simp [Cx.guard] at hg; subst hg; simp [wanted] at hw; subst hw; rfl
  | some jb =>
    obtain ⟨j, bb⟩ := jb
    rw [hgo] at hg
    simp only [Cx.guard, Option.bind_eq_some_iff] at hg
    obtain ⟨d, ⟨oj, hoj, hd⟩, hg⟩ := hg
    obtain ⟨h1, h2⟩ := chk_some hg
    simp at h2; subst h2
    have ht : d < a.tmps.size := by rw [sr.nt]; exact Nat.lt_of_succ_le (Nat.le_of_ble_eq_true h1)
    simp only [wanted, Option.bind_eq_some_iff] at hw
    obtain ⟨dv, hdv, hw⟩ := hw
    obtain ⟨y, hy, hr⟩ := sr.tm.2 d dv ht hdv
    simp only [yielded, hoj, Option.bind_some, hd, hy]
    split at hw
    · simp at hw; subst hw
      cases hr with | f hr => cases hr with | bool =>
      cases bb <;> rename_i t <;> cases t <;> rfl
    · simp at hw; subst hw
      cases hr with | f hr => cases hr with | tuple =>
      cases bb <;> rfl
    · simp at hw
theorem resolve_value {τ : Operand → Value} {c : Call} {v : Operand} (hc : c.callee = .value v) (t : TypeId) : resolve τ c t = Deferred.ofValue (τ v) (c.args.map τ) := by simp [resolve, hc]
/- one operation that is wanted -/
def OpEx (x : Cx) (β : Nat) (p : Pl) (s : St) (w : World) (b : Frame) (a : Act) (k : List Item) (cs : List Frame) (ops : Array Oper) (i : Nat) (rest : List Nat) (dst : Option Tmp) (out : Out) (v : DV) (s' : St) : Prop :=
  (out = .normal ∧ ∃ p' w' a' y cs', Post x p s.hp w p' s'.hp w' ∧ SRel x β p' s' w' b a' cs' ∧ a'.tmps = a.tmps ∧ csTo s.rc cs s'.rc cs' ∧ DRel p' v y ∧ Steps x.P (lone (fat b a (.inRegion ops (i :: rest) :: k)) cs w) (lone (fat b (a'.put dst y) (.inRegion ops rest :: k)) cs' w')) ∨
  (∃ z p' w', out = .panic z ∧ Post x p s.hp w p' s'.hp w' ∧ SRel x β p' s' w' b a cs ∧ s'.rc = s.rc ∧ ∃ y, FRel p'.M z y ∧ Steps x.P (lone (fat b a (.inRegion ops (i :: rest) :: k)) cs w) (lone { fat b a (.inRegion ops (i :: rest) :: k) with mode := .panicking [{ v := y, recovered := false }] } cs w'))
theorem op_sound {k : CallK} (ks : KSound x k) (sr : SRel x β p s w b a cs) {ops : Array Oper} {i : Nat} {rest : List Nat} {K : List Item} {o : Oper} (ho : ops[i]? = some o) (hw : Region.wanted o (yielded ops a.tmps) = true)
    {d : DOp} (hd : x.op o.op = some d) {out : Out} {v : DV} {s' : St} (he : Dee.execOp k d s = some (out, v, s')) : OpEx x β p s w b a K cs ops i rest o.dst out v s' := by
  have hrho := sr.rho
  rcases op_is hd with hpl | ⟨c, f', m, f, args, e, ec, ev', ea, rfl⟩ | ⟨c, e, ec, rfl⟩ | ⟨c, f', f, args, e, ec, ev', ea, rfl⟩ | ⟨pa, f, e, ea, rfl⟩
  · have he' : (evalOp (ev s.tm) s.hp d).bind (fun (v, h) => some (.normal, v, s.heap h)) = some (out, v, s') := by
      unfold Dee.execOp at he
      cases d <;> first | exact he | simp [DOp.plain] at hpl
    simp only [Option.bind_eq_some_iff, Option.some.injEq, Prod.mk.injEq] at he'
    obtain ⟨⟨v1, h1⟩, hev, rfl, rfl, rfl⟩ := he'
    obtain ⟨p', w', n, y, g1, g2, g3, g4⟩ := evalOp_sound sr.inv hrho (fun _ => rfl) hd hev
    have hnd : ∀ c, o.op ≠ .defer c := by
      intro c hc
      rw [hc] at hd
      simp only [Cx.op] at hd
      split at hd
      · simp only [Option.bind_eq_some_iff, Option.some.injEq] at hd
        obtain ⟨_, _, _, _, rfl⟩ := hd
        simp [DOp.plain] at hpl
      · simp at hd
    exact .inl ⟨rfl, p', w', a, y, cs, g1, sr.heap g1, rfl, .refl _ _, g2, .one (mstep_value ho hw (.inr hnd) g3 g4)⟩
  · simp only [Dee.execOp, Option.bind_eq_some_iff] at he
    obtain ⟨fv, hfv, vs, hvs, ⟨co, h1⟩, hcm, he⟩ := he
    have hf := hrho _ _ _ ev' hfv
    have hargs := opnds_arr hrho ea hvs
    obtain ⟨rc', run⟩ := callMode_sound ks sr.inv hf hargs hcm (fat b a (.inRegion ops (i :: rest) :: K) :: cs)
    have hr : (Go.execOp a.eval o).run x.P w = (do let d ← Deferred.ofValue (a.eval f') (c.args.map a.eval).toList.toArray; invoke d.target d.args : Sem Next).run x.P w := by
      simp only [Go.execOp, e]
      rw [resolve_value ec]
    have hnd : ∀ c, o.op ≠ .defer c := by intro c hc; rw [hc] at e; simp at e
    obtain ⟨p', w', g1, g2, g3⟩ := call_op ho hw hnd hr run
    cases co with
    | ret z =>
      simp only [Option.some.injEq, Prod.mk.injEq] at he
      obtain ⟨rfl, rfl, rfl⟩ := he
      obtain ⟨y, hy, hst⟩ := g2 _ rfl
      exact .inl ⟨rfl, p', w', a, y, cs, g1, sr.heap g1, rfl, .refl _ _, hy, hst⟩
    | panic z =>
      simp only [Option.some.injEq, Prod.mk.injEq] at he
      obtain ⟨rfl, rfl, rfl⟩ := he
      obtain ⟨y, hy, hst⟩ := g3 _ rfl
      exact .inr ⟨z, p', w', rfl, g1, sr.heap g1, rfl, y, hy, hst⟩
  · have hx : (Go.execOp a.eval o).run x.P w = .ok .recover w := by
      simp [Go.execOp, e, resolve, ec, invoke, Go.builtin]
    have hsg := stepG_fat (P := x.P) (b := b) (k := K) (cs := cs) (w := w) (rest := rest) ho hw (.inr (by intro c hc; rw [hc] at e; simp at e))
    have hfin : ∀ y, (fat b a (.inRegion ops (i :: rest) :: K)).finish y = fat b (a.put o.dst y) (.inRegion ops rest :: K) := by
      intro y; rw [fat_finish, ho]; rfl
    have hnone : b.roundOf = none → tryRecover (fat b a (.inRegion ops (i :: rest) :: K)) cs = none → some (Out.normal, DV.f .niliface, s) = some (out, v, s') → OpEx x β p s w b a K cs ops i rest o.dst out v s' := by
      intro hro htr he
      simp only [Option.some.injEq, Prod.mk.injEq] at he
      obtain ⟨rfl, rfl, rfl⟩ := he
      refine .inl ⟨rfl, p, w, a, .nilIface, cs, .refl sr.inv, sr, rfl, .refl _ _, .f .niliface, .one (step_lone_go ?_)⟩
      rw [hsg, ← hfin]
      have hro' : (fat b a (.inRegion ops (i :: rest) :: K)).roundOf = none := hro
      simp [stepG.apply, hx, hro', htr]
    have hrc := sr.rc
    simp only [Dee.execOp] at he
    cases hs : s.rc with
    | off =>
      rw [hs] at he hrc
      refine hnone hrc.1 ?_ he
      have hk : b.kind = .normal := hrc.2
      have : (fat b a (.inRegion ops (i :: rest) :: K)).kind = .normal := hk
      unfold tryRecover; rw [this]
    | idle =>
      rw [hs] at he hrc
      refine hnone hrc.1 ?_ he
      obtain ⟨hk, c1, r1, rfl, hm⟩ := hrc.2
      have : (fat b a (.inRegion ops (i :: rest) :: K)).kind = .deferred := hk
      unfold tryRecover; rw [this]; simp [hm]
    | loop => rw [hs] at he; simp at he
    | pend z =>
      rw [hs] at he hrc
      obtain ⟨hro, hk, c1, r1, y, rfl, hm, hy⟩ := hrc
      simp only [Option.some.injEq, Prod.mk.injEq] at he
      obtain ⟨rfl, rfl, rfl⟩ := he
      have hk' : (fat b a (.inRegion ops (i :: rest) :: K)).kind = .deferred := hk
      have hro' : (fat b a (.inRegion ops (i :: rest) :: K)).roundOf = none := hro
      have htr : tryRecover (fat b a (.inRegion ops (i :: rest) :: K)) (c1 :: r1) = some (y, { c1 with mode := .panicking [{ v := y, recovered := true }] } :: r1) := by
        unfold tryRecover; rw [hk']; simp [hm]
      refine .inl ⟨rfl, p, w, a, y, { c1 with mode := .panicking [{ v := y, recovered := true }] } :: r1, .refl sr.inv, ⟨sr.inv, sr.tm, sr.nt, sr.defs, ⟨hro, hk, _, r1, y, rfl, rfl, hy⟩, sr.base⟩, rfl, .inr ⟨z, c1, r1, y, hs, rfl, rfl, hm, rfl⟩, .f hy, .one (step_lone_go ?_)⟩
      rw [hsg, ← hfin]
      simp [stepG.apply, hx, hro', htr]
    | done z =>
      rw [hs] at he hrc
      refine hnone hrc.1 ?_ he
      obtain ⟨hk, c1, r1, y, rfl, hm, _⟩ := hrc.2
      have : (fat b a (.inRegion ops (i :: rest) :: K)).kind = .deferred := hk
      unfold tryRecover; rw [this]; simp [hm]
  · simp only [Dee.execOp, Option.bind_eq_some_iff] at he
    obtain ⟨fv, hfv, vs, hvs, he⟩ := he
    obtain ⟨hc, he⟩ := chk_some he
    simp only [Bool.and_eq_true, Bool.not_eq_true'] at hc
    have hf := hrho _ _ _ ev' hfv
    have hargs := opnds_arr hrho ea hvs
    have hrc := sr.rc
    have hround : b.roundOf = none := by
      unfold RcF at hrc
      split at hrc
      · rename_i h; rw [h] at hc; simp [isLoop] at hc
      · exact hrc.1
    simp only [Option.some.injEq, Prod.mk.injEq] at he
    obtain ⟨rfl, rfl, rfl⟩ := he
    obtain ⟨dd, hdd⟩ : ∃ dd, ∀ w, (Deferred.ofValue (a.eval f') (c.args.map a.eval).toList.toArray).run x.P w = .ok dd w := by
      generalize a.eval f' = vf at hf
      cases hf with
      | func as bs hal hbl ha hb => exact ⟨_, fun w => by simp [Deferred.ofValue]; rfl⟩
      | f hf =>
        cases hf with
        | func as bs hal hbl ha hb => exact ⟨_, fun w => by simp [Deferred.ofValue]; rfl⟩
        | _ => simp [isFnDV] at hc
      | _ => simp [isFnDV] at hc
    have hcd : collOf dd = none := by
      have := hdd w
      generalize a.eval f' = vf at this
      cases vf <;> simp [Deferred.ofValue] at this <;> subst this <;> rfl
    have hx : (Go.execOp a.eval o).run x.P w = .ok (.defer dd) w := by
      have hdd' := hdd w
      simp only [Array.toArray_toList] at hdd'
      simp only [Go.execOp, e]
      rw [resolve_value ec]
      simp [hdd']
    let a' : Act := { a with defers := dd :: a.defers }
    have hfin : ({ fat b a (.inRegion ops (i :: rest) :: K) with defers := dd :: a.defers } : Frame).finish undef = fat b (a'.put o.dst undef) (.inRegion ops rest :: K) := by
      have := fat_finish (b := b) (a := a') (ops := ops) (i := i) (rest := rest) (k := K) undef
      rw [ho] at this; exact this
    refine .inl ⟨rfl, p, w, a', undef, cs, .refl sr.inv, ⟨sr.inv, sr.tm, sr.nt, ⟨.cons ⟨_, _, hf, hargs, hdd⟩ sr.defs.1, by simpa [a', hcd] using sr.defs.2⟩, sr.rc, sr.base⟩, rfl, .refl _ _, unit_rel, .one (step_lone_go ?_)⟩
    rw [stepG_fat ho hw (.inl hround), ← hfin]
    simp [stepG.apply, hx, fat]
  · simp only [Dee.execOp, Option.bind_eq_some_iff] at he
    obtain ⟨dv, hdv, he⟩ := he
    split at he
    · rename_i t z
      simp only [Option.some.injEq, Prod.mk.injEq] at he
      obtain ⟨rfl, rfl, rfl⟩ := he
      have hr := hrho _ _ _ ea hdv
      generalize hy : a.eval pa = y at hr
      cases hr with | f hr =>
      cases hr with | iface hz =>
      rename_i z'
      refine .inr ⟨_, p, w, rfl, .refl sr.inv, sr, rfl, .iface t z', .iface hz, .one (step_lone_go ?_)⟩
      rw [stepG_fat ho hw (.inr (by intro c hc; rw [hc] at e; simp at e))]
      have : (Go.execOp a.eval o).run x.P w = .halt (.panic (.iface t z')) w := by simp [Go.execOp, e, hy, Instr.panic]
      simp [stepG.apply, this, Frame.raise, fat]
    · simp at he
end
end Go.Dee
end
section
/- Statements. -/
namespace Go.Dee
section
variable {x : Cx} {β : Nat} {p q : Pl} {w w' : World} {s : St} {b : Frame} {a : Act} {cs : List Frame} {k : CallK}
theorem Ex.step {s1 s' : St} {w1 : World} {K : List Item} {m m1 : Machine} {cs1 : List Frame} {out : Out} (po : Post x p s.hp w q s1.hp w1) (hc : csTo s.rc cs s1.rc cs1) (hs : Steps x.P m m1) (e : Ex x β q s1 w1 b K m1 cs1 out s') :
    Ex x β p s w b K m cs out s' := by
  obtain ⟨p', w', a', cs', g1, g2, g3, g4⟩ := e
  exact ⟨p', w', a', cs', po.trans g1, g2, hc.trans g3, g4.steps hs⟩
theorem Ex.done {K : List Item} {m : Machine} {out : Out} (sr : SRel x β p s w b a cs) (ar : Arr x.P p.M m b K cs a w out) : Ex x β p s w b K m cs out s := ⟨p, w, a, cs, .refl sr.inv, sr, .refl _ _, ar⟩
theorem runOps_sound (ks : KSound x k) {ops : Array Oper} {K : List Item} : ∀ (os pre : List Oper) (l : List DOper), ops.toList = pre ++ os → x.opers ops os = some l → ∀ {s s' : St} {out : Out} {p : Pl} {w : World} {a : Act} {cs : List Frame}, SRel x β p s w b a cs → runOps k l s = some (out, s') →
    Ex x β p s w b K (lone (fat b a (.inRegion ops (List.range' pre.length os.length) :: K)) cs w) cs out s'
  | [], pre, l, _, hl, s, s', out, p, w, a, cs, sr, he => by
    simp [Cx.opers] at hl; subst hl
    simp [runOps] at he; obtain ⟨rfl, rfl⟩ := he
    exact .done sr (.one mstep_end)
  | o :: os, pre, l, hops, hl, s, s', out, p, w, a, cs, sr, he => by
    simp only [Cx.opers, Option.bind_eq_some_iff, Option.some.injEq] at hl
    obtain ⟨d, hd, r, hr, rfl⟩ := hl
    simp only [Cx.oper, Option.bind_eq_some_iff, Option.some.injEq] at hd
    obtain ⟨g, hg, dp, hdp, dop, hop, rfl⟩ := hd
    have ho : ops[pre.length]? = some o := by rw [← Array.getElem?_toList, hops]; simp
    have hops' : ops.toList = (pre ++ [o]) ++ os := by rw [hops]; simp
    have hrange : List.range' pre.length (o :: os).length = pre.length :: List.range' (pre ++ [o]).length os.length := by simp [List.range'_succ]
    rw [hrange]
    simp only [runOps, Option.bind_eq_some_iff] at he
    obtain ⟨want, hw, he⟩ := he
    have hwr := wanted_rel sr hg hw
    cases want with
    | false =>
      simp only [cond_false] at he
      have sr' := sr.put hdp unit_rel
      have hst : ∀ (st : St) (v : DV), (st.put dp v).hp = st.hp ∧ (st.put dp v).rc = st.rc := by intro st v; cases dp <;> exact ⟨rfl, rfl⟩
      have ih := runOps_sound ks os (pre ++ [o]) r hops' hr (K := K) sr' he
      refine .step (s1 := s.put dp Dee.unit) (by rw [(hst s _).1]; exact .refl sr.inv) (by rw [(hst s _).2]; exact .refl _ _) (.one ?_) ih
      have := mstep_out (P := x.P) (b := b) (a := a) (k := K) (cs := cs) (w := w) (ops := ops) (i := pre.length) (rest := List.range' (pre ++ [o]).length os.length) (by simp [ho, hwr])
      rw [this, ho]; rfl
    | true =>
      simp only [cond_true, Option.bind_eq_some_iff] at he
      obtain ⟨⟨o1, v, s1⟩, hex, he⟩ := he
      have hst : ∀ (st : St) (v : DV), (st.put dp v).hp = st.hp ∧ (st.put dp v).rc = st.rc := by intro st v; cases dp <;> exact ⟨rfl, rfl⟩
      rcases op_sound ks sr (K := K) (rest := List.range' (pre ++ [o]).length os.length) ho hwr hop hex with ⟨rfl, p', w', a', y, cs', g1, g2, _, g3, g4, g5⟩ | ⟨z, p', w', rfl, g1, g2, g3, y, g4, g5⟩
      · have sr' := g2.put hdp g4
        have ih := runOps_sound ks os (pre ++ [o]) r hops' hr (K := K) sr' he
        refine .step (s1 := s1.put dp v) (by rw [(hst s1 v).1]; exact g1) (by rw [(hst s1 v).2]; exact g3) g5 ih
      · simp only [Option.some.injEq, Prod.mk.injEq] at he
        obtain ⟨rfl, rfl⟩ := he
        exact ⟨p', w', a, cs, g1, g2, .inl ⟨g3, rfl⟩, _, y, g4, g5⟩
theorem findLabel_ok {l : Nat} : ∀ {dc : DCode} {c : Code}, Ok x c dc → (∀ r, Dee.findLabel dc l = some r → ∃ cr, Go.findLabel c l = some cr ∧ Ok x cr r) ∧ (Dee.findLabel dc l = none → Go.findLabel c l = none) := by
  intro dc
  induction dc with
  | seq d1 d2 ih1 ih2 =>
    intro c hok
    cases c with
    | seq c1 c2 =>
      obtain ⟨h1, h2⟩ := hok
      obtain ⟨a1, a2⟩ := ih1 h1
      obtain ⟨b1, b2⟩ := ih2 h2
      simp only [Dee.findLabel, Go.findLabel]
      cases hf : Dee.findLabel d1 l with
      | some r1 =>
        obtain ⟨cr, hcr, hk⟩ := a1 r1 hf
        simp only [hcr]
        exact ⟨fun r hr => by simp at hr; subst hr; exact ⟨_, rfl, hk, h2⟩, fun h => by simp at h⟩
      | none =>
        rw [a2 hf]
        exact ⟨b1, b2⟩
    | _ => simp [Ok] at hok
  | label l' =>
    intro c hok
    cases c with
    | label l2 =>
      have : l2 = l' := hok
      subst this
      simp only [Dee.findLabel, Go.findLabel]
      cases hb : Nat.beq l2 l with
      | true =>
        have := Nat.eq_of_beq_eq_true hb; subst this
        simp [Ok]
      | false =>
        have : l2 ≠ l := fun e => by subst e; simp [Nat.beq_refl] at hb
        simp [this]
    | _ => simp [Ok] at hok
  | _ =>
    intro c hok
    refine ⟨fun r hr => by simp [Dee.findLabel] at hr, fun _ => ?_⟩
    cases c <;> first | rfl | (simp [Ok] at hok; done) | (rename_i d; cases d <;> simp [Ok] at hok)
end
end Go.Dee
end
section
/- A loop over a function; every statement. -/
namespace Go.Dee
section
variable {x : Cx} {β : Nat} {p q : Pl} {h h2 : Heap} {w w' w1 w2 : World} {s : St} {b : Frame} {a : Act} {cs : List Frame} {k : CallK}
theorem getObj_loop {blk : Nat} {l : Loop} {P : Program} (hw : w.heap[blk]? = some (.loop l)) : (getObj blk).run P w = .ok (.loop l) w := by simp [getObj, Sem.run, hw]
theorem setObj_loop {blk : Nat} {l l' : Loop} {P : Program} (hw : w.heap[blk]? = some (.loop l)) : (setObj blk (.loop l')).run P w = .ok () { w with heap := w.heap.setIfInBounds blk (.loop l') } := by simp [setObj, Sem.run, hw]
/- a loop's block that is not needed any more -/
theorem Post.drop {o : Obj} (i : Inv x p h w) {id blk : Nat} {l : Loop} (ho : Owns p h id blk) (hl : w.heap[blk]? = some (.loop l)) (h2 : w2.heap = w.heap.setIfInBounds blk o) (he : w2.os = w.os ∧ w2.output = w.output ∧ w2.tape = w.tape) : Post x p h w p (h.give [id]) w2 := by
  have hother : ∀ k, k ≠ blk → w2.heap[k]? = w.heap[k]? := by intro k hk; rw [h2]; simp [Array.getElem?_setIfInBounds, Ne.symm hk]
  have hsize : w2.heap.size = w.heap.size := by rw [h2]; simp
  have hget : ∀ j bl, (h.give [id]).get j = some bl → h.get j = some bl ∧ j ≠ id := by
    intro j bl hb
    simp only [Heap.give, Heap.get, getB_dropIn] at hb
    by_cases hj : j = id
    · subst hj; simp [elemN, Nat.beq_refl] at hb
    · have : elemN j [id] = false := by simp [elemN, beq_false hj]
      simp only [this, cond_false] at hb
      exact ⟨hb, hj⟩
  have hown : ∀ j b', Owns p (h.give [id]) j b' → Owns p h j b' ∧ j ≠ id := by
    rintro j b' ⟨bl, hb, hob⟩
    obtain ⟨h1, h3⟩ := hget j bl hb
    exact ⟨⟨bl, h1, hob⟩, h3⟩
  have hne : ∀ j b', Owns p h j b' → j ≠ id → b' ≠ blk := fun j b' hj hji e => hji (i.sep j id b' hj (e ▸ ho))
  refine ⟨⟨?_, ?_, ?_, ?_, i.nx, ?_, i.G⟩, .refl p, Nat.le_refl _, fun n hn => mem_unionLog.2 (.inl hn), ?_, fun j b' hj _ => (hown j b' hj).1, by omega, fun a v hv => .inl hv, fun _ _ _ h => .inl h, he⟩
  · intro a v hv
    obtain ⟨h1, h3⟩ := i.M a v hv
    refine ⟨h1, ?_⟩
    have : a.block ≠ blk := fun e => by have := i.ownsM ho a e; rw [this] at hv; simp at hv
    unfold World.cell? at h3 ⊢
    rw [hother _ this]; exact h3
  · intro b' n hn
    obtain ⟨arr, e, fz, h1, h3⟩ := i.K b' n hn
    have : b' ≠ blk := fun e => by subst e; rw [hl] at h1; simp at h1
    rw [hother _ this]; exact ⟨arr, e, fz, h1, h3⟩
  · intro j bl hb
    obtain ⟨h1, h3⟩ := hget j bl hb
    exact (i.B j bl h1).keep (.refl p) (fun k ho' => hother k (hne j k ⟨bl, h1, ho'⟩ h3)) (fun k ho' a ha => i.ownsM ⟨bl, h1, ho'⟩ a ha) (fun _ h => h)
  · intro j j' b' h1 h3
    exact i.sep j j' b' (hown j b' h1).1 (hown j' b' h3).1
  · intro j g b' base hι; rw [hsize]; exact i.dom j g b' base hι
  · intro k hk hno
    refine hother k fun e => ?_
    subst e
    exact hno id (mem_unionLog.2 (.inr (by simp))) ho
theorem at_self {x : Cx} {n : Nat} (h : x.nt = n) : x.at n = x := by subst h; rfl
theorem rangeFunc_sound (ks : KSound x k) (sr : SRel x β p s w b a cs) {f : Operand} {ps : Array Tmp} {ca cb : Code} {pf : Opnd} {pps : List Pos} {da db : DCode} (hf : x.opnd f = some pf) (hps : x.slotL ps.toList = some pps) (hca : Ok x ca da) (hcb : Ok x cb db)
    (hrc : isLoop s.rc = false) {fv : DV} (hfv : ev s.tm pf = some fv) {co : COut} {rc' : Rc} {h' : Heap} (hk : k fv [.yield s.hp.next] .off (s.hp.new (.loop .ready none s.tm pps da db)) = some (co, rc', h')) {K : List Item} {out : Out} {s' : St}
    (he : (match (generalizing := false) co with
        | .ret _ => match h'.get s.hp.next with
          | some (.loop .busy ..) => none
          | some (.loop _ pend ..) =>
            let s' : St := ⟨s.tm, .coll :: s.defs, s.rc, h'.give [s.hp.next]⟩
            match pend with
            | none => some (.normal, s')
            | some c => (codeJump c).bind fun o => some (o, s')
          | _ => none
        | .panic v => some (.panic v, ⟨s.tm, .coll :: s.defs, s.rc, h'⟩)) = some (out, s')) :
    Ex x β p s w b K (lone (fat b a (.code (.rangeFunc f ps ca cb) :: K)) cs w) cs out s' := by
  have i := sr.inv
  have hro : b.roundOf = none := by
    have := sr.rc
    unfold RcF at this
    split at this
    · rename_i h; rw [h] at hrc; simp [isLoop] at hrc
    · exact this.1
  let L : Loop := { state := .ready, pending := none, fn := b.fn, tmps := a.tmps, params := ps, assign := ca, body := cb, defers := w.heap.size }
  let w1 : World := w.alloc (.deferred (some []))
  let w2 : World := w1.alloc (.loop L)
  let a' : Act := { a with defers := { target := .collected w.heap.size, args := #[] } :: a.defers }
  have hw1 : w1.heap.size = w.heap.size + 1 := size_alloc ..
  have po1 : Post x p s.hp w p s.hp w1 := .alloc i _
  have hn := po1.inv.fresh 0
  have hat : x.at a.tmps.size = x := at_self sr.nt.symm
  have po2 : Post x p s.hp w1 (p.add s.hp.next 0 w1.heap.size 0) (s.hp.new (.loop .ready none s.tm pps da db)) w2 := by
    refine Post.make po1.inv _ (.loop .ready none s.tm pps da db) (s.hp.new _) s.hp.next 0 0 rfl hn (Heap.get_new_same ..) (fun j hj => Heap.get_new_other _ _ j hj) (by simp [Heap.new]) (by simp [Heap.new]) (fun n hn => hn) (.inl (Nat.le_refl _)) _ (.inl rfl) (by show (p.add s.hp.next 0 w1.heap.size 0).ι s.hp.next 0 = _; simp [Pl.add]) ?_
    refine ⟨w1.heap.size, L, by simp [Pl.add], heap_alloc_new' w1 _, ⟨trivial, trivial, sr.tm.mono (Pl.add_ext hn), ?_, ?_, ?_⟩, ?_, ?_⟩
    · rw [hat]; exact hps
    · rw [hat]; exact hca
    · rw [hat]; exact hcb
    · intro g' hg
      have : ¬ g' = 0 := by omega
      simp [Pl.add, this, po1.inv.fresh g']
    · intro a ha
      cases hm : p.M a with
      | none => simpa [Pl.add] using hm
      | some v => have := po1.inv.Mlt hm; omega
  have po12 := po1.trans po2
  have hcoll : DefRel x β (p.add s.hp.next 0 w1.heap.size 0) w2 .coll { target := .collected w.heap.size, args := #[] } := by
    refine ⟨w.heap.size, rfl, sr.base, ?_⟩
    rw [heap_alloc_old' w1 _ (by omega)]
    exact heap_alloc_new' w _
  have hdefs2 : DefsRel x β (p.add s.hp.next 0 w1.heap.size 0) w2 (.coll :: s.defs) a'.defers := by
    have hd := sr.defs.post i po12
    refine ⟨.cons hcoll hd.1, ?_⟩
    have hcc : collOf { target := .collected w.heap.size, args := #[] } = some w.heap.size := rfl
    simp only [a', List.filterMap_cons, hcc, List.nodup_cons]
    refine ⟨?_, hd.2⟩
    intro hmem
    obtain ⟨e, he1, he2⟩ := List.mem_filterMap.1 hmem
    obtain ⟨d, hd1, hd2⟩ := sr.defs.1.mem_right he1
    cases d with
    | coll =>
      obtain ⟨blk, rfl, _, hb⟩ := hd2
      have : blk = w.heap.size := by simpa [collOf] using he2
      subst this
      simp at hb
    | fn fv args =>
      obtain ⟨vf, vs, _, _, h3⟩ := hd2
      have := h3 w
      cases vf <;> simp [Deferred.ofValue] at this <;> subst this <;> simp [collOf] at he2
  have hfr := sr.rho f pf fv hf hfv
  have hyr : CD (p.add s.hp.next 0 w1.heap.size 0) [.yield s.hp.next] [.func (.yield w1.heap.size) #[] #[]] := .cons (.yield w1.heap.size (by simp [Pl.add])) .nil
  obtain ⟨n, fr, p', w', w3, cs', fr', g1, g2, g3, g4, g5, g6, g7⟩ := ks _ _ _ _ _ _ _ hk _ w2 (a.eval f) _ .normal (fat b a' (.inRangeFunc w1.heap.size :: K) :: cs) po2.inv (hfr.mono po12.ext) hyr rfl
  obtain ⟨_, rfl⟩ := g4.off
  have hfe : ∀ todo, (fat b a' todo).eval = a.eval := by intro t; funext y; exact fat_eval b a' t y
  have hstep : step x.P (lone (fat b a (.code (.rangeFunc f ps ca cb) :: K)) cs w) = .next (lone fr (fat b a' (.inRangeFunc w1.heap.size :: K) :: cs) w2) := by
    refine step_lone_go ?_
    have hgo : (Instr.enterLoop b.fn a.tmps ps ca cb none).run x.P w = .ok (w1.heap.size, [{ target := .collected w.heap.size, args := #[] }]) w2 := by
      simp [Instr.enterLoop, w1, w2, L]
    have hinv : (do let d ← resolve (fat b a' (.inRangeFunc w1.heap.size :: K)).eval { callee := .value f, args := #[.const (.func (.yield w1.heap.size) #[] #[])], argTypes := #[] } 0; invoke d.target d.args : Sem Next).run x.P w2 = .ok n w2 := by
      rw [hfe, resolve_value rfl]
      have := g1
      unfold Invoked at this
      simpa [Act.eval] using this
    have hinv' := hinv
    simp only [fat, a', hro] at hinv'
    simp only [stepG, stepG.exec, fat, hro, Sem.runT_eq, hgo, GStep.bare_after]
    rcases g2 with ⟨f2, as, rfl, rfl⟩ | ⟨l, f2, tmps, as, body, rfl, rfl⟩ <;> simp [stepG.apply, hinv', fat, a', hro]
  have po := po12.trans g3
  have hrc' : RcF p' b cs s.rc := sr.rc.mono po.ext
  have hdefs' := hdefs2.post po2.inv g3
  cases co with
  | ret v =>
    obtain ⟨y, hy, h4⟩ := left_ret g7 g5
    have hfin : (fat b a' (.inRangeFunc w1.heap.size :: K)).finish y = fat b a' (.endRangeFunc w1.heap.size :: K) := by simp [Frame.finish, fat]
    rw [hfin] at h4
    dsimp only at he
    split at he
    · simp at he
    · rename_i st pend tm params assign body hnb hget
      obtain ⟨blk, l, k1, k2, k3, k4, k5⟩ := g3.inv.B s.hp.next _ hget
      have : blk = w1.heap.size := by
        have := g3.ext.ι s.hp.next 0 (w1.heap.size, 0) (by simp [Pl.add])
        rw [k1] at this; simpa using this
      subst this
      have hst : ¬ (l.state == .busy) = true := by
        have := k3.st
        cases st <;> cases hls : l.state <;> rw [hls] at this <;> simp [stRel] at this ⊢
        exact hnb rfl
      have hpo : Post x p' h' w' p' (h'.give [s.hp.next]) { w' with heap := w'.heap.setIfInBounds w1.heap.size (.loop { l with state := .exhausted }) } := Post.drop g3.inv ⟨_, hget, k1⟩ k2 rfl ⟨rfl, rfl, rfl⟩
      have hend : step x.P (lone (fat b a' (.endRangeFunc w1.heap.size :: K)) cs w') = .next (lone (fat b a' ((l.pending.map Item.code).toList ++ K)) cs { w' with heap := w'.heap.setIfInBounds w1.heap.size (.loop { l with state := .exhausted }) }) := by
        refine step_lone_go ?_
        have hgo : (Instr.endLoop w1.heap.size).run x.P w' = .ok l.pending { w' with heap := w'.heap.setIfInBounds w1.heap.size (.loop { l with state := .exhausted }) } := by
          simp only [Instr.endLoop, Instr.getLoop, Sem.run_bind, getObj_loop k2, Result.andThen_ok, Sem.run_pure, if_neg hst, setObj_loop k2]
        simp [stepG, stepG.exec, fat, hgo]
      have hsteps := Steps.head hstep (g6.trans (.head h4 (.one hend)))
      have hall := po.trans hpo
      have hs' : SRel x β p' (⟨s.tm, .coll :: s.defs, s.rc, h'.give [s.hp.next]⟩ : St) { w' with heap := w'.heap.setIfInBounds w1.heap.size (.loop { l with state := .exhausted }) } b a' cs :=
        ⟨hpo.inv, sr.tm.mono po.ext, sr.nt, hdefs'.post g3.inv hpo, hrc', Nat.le_trans sr.base hall.size⟩
      have hpend := k3.pend
      cases pend with
      | none =>
        simp only [Option.some.injEq, Prod.mk.injEq] at he
        obtain ⟨rfl, rfl⟩ := he
        cases hlp : l.pending with
        | some c => rw [hlp] at hpend; simp [jumpRel] at hpend
        | none =>
          have hl0 : (l.pending.map Item.code).toList ++ K = K := by rw [hlp]; rfl
          rw [hl0] at hsteps
          exact ⟨p', _, a', cs, hall, hs', .inl ⟨rfl, rfl⟩, hsteps⟩
      | some dc =>
        simp only [Option.bind_eq_some_iff, Option.some.injEq, Prod.mk.injEq] at he
        obtain ⟨o2, ho2, rfl, rfl⟩ := he
        refine ⟨p', _, a', cs, hall, hs', .inl ⟨rfl, rfl⟩, ?_⟩
        obtain ⟨c, hlp, hpend⟩ : ∃ c, l.pending = some c ∧ jumpRel (some dc) (some c) := by
          cases hlp : l.pending with
          | none => rw [hlp] at hpend; cases dc <;> simp [jumpRel] at hpend
          | some c => rw [hlp] at hpend; exact ⟨c, rfl, hpend⟩
        have hl0 : (l.pending.map Item.code).toList ++ K = .code c :: K := by rw [hlp]; rfl
        rw [hl0] at hsteps
        cases dc <;> simp only [codeJump, Option.some.injEq, reduceCtorEq] at ho2 <;> subst ho2 <;> cases c <;> simp only [jumpRel] at hpend
        · subst hpend; exact ⟨K, rfl, hsteps⟩
        · subst hpend; exact ⟨K, rfl, hsteps⟩
        · exact ⟨K, hsteps⟩
    · simp at he
  | panic v =>
    obtain ⟨y, hy, h4⟩ := left_panic g7
    simp only [Option.some.injEq, Prod.mk.injEq] at he
    obtain ⟨rfl, rfl⟩ := he
    refine ⟨p', w', a', cs, po, ⟨g3.inv, sr.tm.mono po.ext, sr.nt, hdefs', hrc', Nat.le_trans sr.base po.size⟩, .inl ⟨rfl, rfl⟩, .inRangeFunc w1.heap.size :: K, y, hy, .head hstep (g6.trans (.one ?_))⟩
    rw [h4]; simp [Frame.raise, fat]
/- the regions that draw -/
def DrawSound (x : Cx) (k : CallK) : Prop := ∀ (ops : Array Oper) (l : List DOper) (t : Nat), (x.drawn ops = some l) → ∀ (β : Nat) (s s' : St) (out : Out) (p : Pl) (w : World) (b : Frame) (a : Act) (cs : List Frame) (K : List Item),
  SRel x β p s w b a cs → drawAll k l s = some (out, s') → Ex x β p s w b K (lone (fat b a (.inRegion ops (Region.schedule true ops t) :: K)) cs w) cs out s'
def IncSound (x : Cx) (k : CallK) : Prop := ∀ (ops : Array Oper) (l : List DOper) (t : Nat), isMapInc ops.toList = true → x.opers ops ops.toList = some l → ∀ (β : Nat) (s s' : St) (out : Out) (p : Pl) (w : World) (b : Frame) (a : Act) (cs : List Frame) (K : List Item),
  SRel x β p s w b a cs → runOps k l s = some (out, s') → Ex x β p s w b K (lone (fat b a (.inRegion ops (Region.schedule true ops t) :: K)) cs w) cs out s'
theorem SRel.trim (sr : SRel x β p s w b a cs) (live : List Pos) : SRel x β p (s.trim live) w b a cs := ⟨sr.inv, ⟨sr.tm.1, fun t d ht hd => sr.tm.2 t d ht (keepLive_get hd)⟩, sr.nt, sr.defs, sr.rc, sr.base⟩
def ExecOk (x : Cx) (k : CallK) (n : Nat) : Prop := ∀ dc s out s', exec k n dc s = some (out, s') → ∀ (β : Nat) c p w b a cs K, Ok x c dc → SRel x β p s w b a cs → Ex x β p s w b K (lone (fat b a (.code c :: K)) cs w) cs out s'
def LoopOk (x : Cx) (k : CallK) (n : Nat) : Prop := ∀ live d s out s', exec k n (.loop live d) s = some (out, s') → ∀ (β : Nat) c p w b a cs K, Ok x c d → SRel x β p s w b a cs → Ex x β p s w b K (lone (fat b a (.code c :: .inLoop c :: K)) cs w) cs out s'
def ScopeOk (x : Cx) (k : CallK) (n : Nat) : Prop := ∀ r d s out s', exec k n (.scope2 r d) s = some (out, s') → ∀ (β : Nat) cr c p w b a cs K, Ok x cr r → Ok x c d → SRel x β p s w b a cs → Ex x β p s w b K (lone (fat b a (.code cr :: .inScope c :: K)) cs w) cs out s'
theorem world_post {h : Heap} (i : Inv x p h w) : Post x p h w p h { w with drawn := w.drawn + 1 } := .world i rfl ⟨rfl, rfl, rfl⟩
theorem after_scope {n : Nat} (hs : ScopeOk x k n) {s0 s1 s' : St} {m : Machine} {K : List Item} {c : Code} {d : DCode} {o out : Out} {cs0 : List Frame} (hok : Ok x c d) (e : Ex x β p s0 w b (.inScope c :: K) m cs0 o s1)
    (he : (match (generalizing := false) o with
      | .goto l => match Dee.findLabel d l with
        | some rest => exec k n (.scope2 rest d) s1
        | none => some (.goto l, s1)
      | o => some (o, s1)) = some (out, s')) : Ex x β p s0 w b K m cs0 out s' := by
  obtain ⟨p', w', a', cs', g1, g2, g3, g4⟩ := e
  cases o with
  | normal =>
    simp only [Option.some.injEq, Prod.mk.injEq] at he; obtain ⟨rfl, rfl⟩ := he
    exact ⟨p', w', a', cs', g1, g2, g3, Steps.trans g4 (.one mstep_inScope)⟩
  | exit id =>
    simp only [Option.some.injEq, Prod.mk.injEq] at he; obtain ⟨rfl, rfl⟩ := he
    obtain ⟨k', h1, h2⟩ := g4
    exact ⟨p', w', a', cs', g1, g2, g3, k', by rw [h1]; rfl, h2⟩
  | ret =>
    simp only [Option.some.injEq, Prod.mk.injEq] at he; obtain ⟨rfl, rfl⟩ := he
    exact ⟨p', w', a', cs', g1, g2, g3, g4⟩
  | panic v =>
    simp only [Option.some.injEq, Prod.mk.injEq] at he; obtain ⟨rfl, rfl⟩ := he
    exact ⟨p', w', a', cs', g1, g2, g3, g4⟩
  | goto l =>
    obtain ⟨k', h1, h2⟩ := g4
    obtain ⟨f1, f2⟩ := findLabel_ok (l := l) hok
    dsimp only at he
    cases hf : Dee.findLabel d l with
    | none =>
      rw [hf] at he
      simp only [Option.some.injEq, Prod.mk.injEq] at he; obtain ⟨rfl, rfl⟩ := he
      refine ⟨p', w', a', cs', g1, g2, g3, k', ?_, h2⟩
      rw [h1]; simp [gotoIn, f2 hf]
    | some r =>
      rw [hf] at he
      obtain ⟨cr, hcr, hokr⟩ := f1 r hf
      have hgo : gotoIn l k' = some (.code cr :: .inScope c :: K) := by rw [h1]; simp [gotoIn, hcr]
      exact .step g1 g3 (h2.trans (.one (mstep_goto hgo))) (hs r d s1 out s' he β cr c p' w' b a' cs' K hokr hok g2)
theorem exec_sound (hfol : x.P.follows .mixedOrders = true) (ks : KSound x k) (hdraw : DrawSound x k) (hinc : IncSound x k) : ∀ n, ExecOk x k n ∧ LoopOk x k n ∧ ScopeOk x k n
  | 0 => ⟨fun dc s out s' h => by simp [exec] at h, fun live d s out s' h => by simp [exec] at h, fun r d s out s' h => by simp [exec] at h⟩
  | n + 1 => by
    obtain ⟨ihE, ihL, ihS⟩ := exec_sound hfol ks hdraw hinc n
    have hL : LoopOk x k (n + 1) := by
      intro live d s out s' he β c p w b a cs K hok sr
      simp only [exec, Option.bind_eq_some_iff] at he
      obtain ⟨⟨o1, s1⟩, h1, he⟩ := he
      have e1 := ihE d (s.trim live) o1 s1 h1 β c p w b a cs (.inLoop c :: K) hok (sr.trim live)
      obtain ⟨p', w', a', cs', g1, g2, g3, g4⟩ := e1
      cases o1 with
      | normal =>
        obtain ⟨r, g5, g6⟩ := stgc_sound sr.inv g1 g2 live
        exact .step g5 g3 (Steps.trans g4 (.one mstep_inLoop)) (ihL live d _ out s' he β c r w' b a' cs' K hok g6)
      | _ =>
        simp only [Option.some.injEq, Prod.mk.injEq] at he; obtain ⟨rfl, rfl⟩ := he
        exact ⟨p', w', a', cs', g1, g2, g3, g4.pass (y := .inLoop c) rfl (by simp)⟩
    have hS : ScopeOk x k (n + 1) := by
      intro r d s out s' he β cr c p w b a cs K hokr hok sr
      simp only [exec, Option.bind_eq_some_iff] at he
      obtain ⟨⟨o1, s1⟩, h1, he⟩ := he
      exact after_scope ihS hok (ihE r s o1 s1 h1 β cr p w b a cs (.inScope c :: K) hokr sr) he
    refine ⟨?_, hL, hS⟩
    intro dc s out s' he β c p w b a cs K hok sr
    cases dc with
    | skip =>
      cases c <;> first | (simp [Ok] at hok; done) | skip
      simp only [exec, Option.some.injEq, Prod.mk.injEq] at he; obtain ⟨rfl, rfl⟩ := he
      exact .done sr (.one mstep_skip)
    | label l =>
      cases c <;> first | (simp [Ok] at hok; done) | skip
      simp only [exec, Option.some.injEq, Prod.mk.injEq] at he; obtain ⟨rfl, rfl⟩ := he
      exact .done sr (.one mstep_label)
    | region l =>
      cases c with
      | region id ops dr =>
        cases dr with
        | true => simp [Ok] at hok
        | false =>
          have hok : x.opers ops ops.toList = some l := hok
          simp only [exec] at he
          have := runOps_sound ks ops.toList [] l rfl hok sr he (K := K)
          have hr : List.range' 0 ops.toList.length = List.range ops.size := by simp [List.range_eq_range']
          simp only [List.length_nil] at this
          rw [hr] at this
          exact .step (.refl sr.inv) (.refl _ _) (.one mstep_region) this
      | _ => simp [Ok] at hok
    | draw l =>
      cases c with
      | region id ops dr =>
        cases dr with
        | false => simp [Ok] at hok
        | true =>
          have hok : x.drawn ops = some l := hok
          simp only [exec] at he
          have po := world_post sr.inv
          have := hdraw ops l (w.tape w.drawn (.order b.fn id)) hok β s s' out p _ b a cs K (sr.heap po) he
          have hst := mstep_draw (P := x.P) (b := b) (a := a) (k := K) (cs := cs) (w := w) (ops := ops) (id := id)
          rw [hfol] at hst
          exact .step po (.refl _ _) (.one hst) this
      | _ => simp [Ok] at hok
    | mapInc l =>
      cases c with
      | region id ops dr =>
        cases dr with
        | false => simp [Ok] at hok
        | true =>
          obtain ⟨hmi, hok⟩ : isMapInc ops.toList = true ∧ x.opers ops ops.toList = some l := hok
          simp only [exec] at he
          have po := world_post sr.inv
          have := hinc ops l (w.tape w.drawn (.order b.fn id)) hmi hok β s s' out p _ b a cs K (sr.heap po) he
          have hst := mstep_draw (P := x.P) (b := b) (a := a) (k := K) (cs := cs) (w := w) (ops := ops) (id := id)
          rw [hfol] at hst
          exact .step po (.refl _ _) (.one hst) this
      | _ => simp [Ok] at hok
    | seq d1 d2 =>
      cases c with
      | seq c1 c2 =>
        obtain ⟨ok1, ok2⟩ : Ok x c1 d1 ∧ Ok x c2 d2 := hok
        simp only [exec, Option.bind_eq_some_iff] at he
        obtain ⟨⟨o1, s1⟩, h1, he⟩ := he
        obtain ⟨p', w', a', cs', g1, g2, g3, g4⟩ := ihE d1 s o1 s1 h1 β c1 p w b a cs (.code c2 :: K) ok1 sr
        cases o1 with
        | normal => exact .step g1 g3 (.head mstep_seq g4) (ihE d2 s1 out s' he β c2 p' w' b a' cs' K ok2 g2)
        | _ =>
          simp only [Option.some.injEq, Prod.mk.injEq] at he; obtain ⟨rfl, rfl⟩ := he
          exact ⟨p', w', a', cs', g1, g2, g3, (g4.pass (y := .code c2) rfl (by simp)).steps (.one mstep_seq)⟩
      | region id ops dr => cases dr <;> simp [Ok] at hok
      | _ => simp [Ok] at hok
    | cond co d1 d2 =>
      cases c with
      | cond cc c1 c2 =>
        obtain ⟨hcc, ok1, ok2⟩ : x.opnd cc = some co ∧ Ok x c1 d1 ∧ Ok x c2 d2 := hok
        simp only [exec, Option.bind_eq_some_iff] at he
        obtain ⟨dv, hdv, t, ht, he⟩ := he
        obtain ⟨rfl, hb⟩ := theBool_rel (sr.rho _ _ _ hcc hdv) ht
        cases t with
        | true => exact .step (.refl sr.inv) (.refl _ _) (.one (mstep_cond hb)) (ihE d1 s out s' he β c1 p w b a cs K ok1 sr)
        | false => exact .step (.refl sr.inv) (.refl _ _) (.one (mstep_cond hb)) (ihE d2 s out s' he β c2 p w b a cs K ok2 sr)
      | region id ops dr => cases dr <;> simp [Ok] at hok
      | _ => simp [Ok] at hok
    | block j d =>
      cases c with
      | block i c =>
        obtain ⟨rfl, ok⟩ : i = j ∧ Ok x c d := hok
        simp only [exec, Option.bind_eq_some_iff] at he
        obtain ⟨⟨o1, s1⟩, h1, he⟩ := he
        obtain ⟨p', w', a', cs', g1, g2, g3, g4⟩ := ihE d s o1 s1 h1 β c p w b a cs (.inBlock i :: K) ok sr
        cases o1 with
        | normal =>
          simp only [Option.some.injEq, Prod.mk.injEq] at he; obtain ⟨rfl, rfl⟩ := he
          exact ⟨p', w', a', cs', g1, g2, g3, Steps.head mstep_block (Steps.trans g4 (.one mstep_inBlock))⟩
        | exit id =>
          obtain ⟨k', h2, h3⟩ := g4
          cases hb : Nat.beq id i with
          | true =>
            have := Nat.eq_of_beq_eq_true hb; subst this
            simp only [hb, cond_true, Option.some.injEq, Prod.mk.injEq] at he; obtain ⟨rfl, rfl⟩ := he
            exact ⟨p', w', a', cs', g1, g2, g3, Steps.head mstep_block (h3.trans (.one (mstep_exit (by rw [h2]; simp [exitTo]))))⟩
          | false =>
            simp only [hb, cond_false, Option.some.injEq, Prod.mk.injEq] at he; obtain ⟨rfl, rfl⟩ := he
            have hne : ¬ (i = id) := fun e => by subst e; simp [Nat.beq_refl] at hb
            exact ⟨p', w', a', cs', g1, g2, g3, k', by rw [h2]; simp [exitTo, hne], .head mstep_block h3⟩
        | goto l =>
          simp only [Option.some.injEq, Prod.mk.injEq] at he; obtain ⟨rfl, rfl⟩ := he
          obtain ⟨k', h2, h3⟩ := g4
          exact ⟨p', w', a', cs', g1, g2, g3, k', by rw [h2]; rfl, .head mstep_block h3⟩
        | ret =>
          simp only [Option.some.injEq, Prod.mk.injEq] at he; obtain ⟨rfl, rfl⟩ := he
          exact ⟨p', w', a', cs', g1, g2, g3, g4.steps (b := b) (k := K) (o := .ret) (.one mstep_block)⟩
        | panic v =>
          simp only [Option.some.injEq, Prod.mk.injEq] at he; obtain ⟨rfl, rfl⟩ := he
          exact ⟨p', w', a', cs', g1, g2, g3, g4.steps (b := b) (k := K) (o := .panic v) (.one mstep_block)⟩
      | region id ops dr => cases dr <;> simp [Ok] at hok
      | _ => simp [Ok] at hok
    | loop live d =>
      cases c with
      | loop c =>
        have ok : Ok x c d := hok
        exact .step (.refl sr.inv) (.refl _ _) (.one mstep_loop) (hL live d s out s' he β c p w b a cs K ok sr)
      | region id ops dr => cases dr <;> simp [Ok] at hok
      | _ => simp [Ok] at hok
    | rangeFunc f' ps' d1 d2 =>
      cases c with
      | rangeFunc f ps c1 c2 =>
        obtain ⟨hf, hps, ok1, ok2⟩ : x.opnd f = some f' ∧ x.slotL ps.toList = some ps' ∧ Ok x c1 d1 ∧ Ok x c2 d2 := hok
        simp only [exec] at he
        obtain ⟨hrc, he⟩ := chk_some he
        simp only [Option.bind_eq_some_iff] at he
        obtain ⟨fv, hfv, ⟨co, rc', h'⟩, hk, he⟩ := he
        exact rangeFunc_sound ks sr hf hps ok1 ok2 (by simpa using hrc) hfv hk he
      | region id ops dr => cases dr <;> simp [Ok] at hok
      | _ => simp [Ok] at hok
    | exit j =>
      cases c with
      | exit i =>
        have : i = j := hok
        subst this
        simp only [exec, Option.some.injEq, Prod.mk.injEq] at he; obtain ⟨rfl, rfl⟩ := he
        exact .done sr ⟨K, rfl, .refl _ _⟩
      | region id ops dr => cases dr <;> simp [Ok] at hok
      | _ => simp [Ok] at hok
    | scope d =>
      cases c with
      | scope c =>
        have ok : Ok x c d := hok
        simp only [exec, Option.bind_eq_some_iff] at he
        obtain ⟨⟨o1, s1⟩, h1, he⟩ := he
        exact .step (.refl sr.inv) (.refl _ _) (.one mstep_scope) (after_scope ihS ok (ihE d s o1 s1 h1 β c p w b a cs (.inScope c :: K) ok sr) he)
      | region id ops dr => cases dr <;> simp [Ok] at hok
      | _ => simp [Ok] at hok
    | goto j =>
      cases c with
      | goto i =>
        have : i = j := hok
        subst this
        simp only [exec, Option.some.injEq, Prod.mk.injEq] at he; obtain ⟨rfl, rfl⟩ := he
        exact .done sr ⟨K, rfl, .refl _ _⟩
      | region id ops dr => cases dr <;> simp [Ok] at hok
      | _ => simp [Ok] at hok
    | ret =>
      cases c with
      | ret =>
        simp only [exec, Option.some.injEq, Prod.mk.injEq] at he; obtain ⟨rfl, rfl⟩ := he
        exact .done sr ⟨K, .refl _ _⟩
      | region id ops dr => cases dr <;> simp [Ok] at hok
      | _ => simp [Ok] at hok
    | scope2 r d =>
      cases c with
      | region id ops dr => cases dr <;> simp [Ok] at hok
      | _ => simp [Ok] at hok
end
end Go.Dee
end
section
/- A frame's end. -/
namespace Go.Dee
structure PostB (β : Nat) (x : Cx) (p : Pl) (h : Heap) (w : World) (p' : Pl) (h' : Heap) (w' : World) : Prop where
  inv : Inv x p' h' w'
  ext : Ext p p'
  next : h.next ≤ h'.next
  log : ∀ n ∈ h.log, n ∈ h'.log
  mod : ∀ b, b < β → (∀ id ∈ h'.log, ¬ Owns p h id b) → w'.heap[b]? = w.heap[b]?
  own : ∀ id b, Owns p' h' id b → b < w.heap.size → Owns p h id b
  size : w.heap.size ≤ w'.heap.size
  mnew : ∀ a v, p'.M a = some v → p.M a = some v ∨ w.heap.size ≤ a.block ∨ ∃ id ∈ h'.log, Owns p h id a.block
  inew : ∀ id g y, p'.ι id g = some y → p.ι id g = some y ∨ h.next ≤ id ∨ id ∈ h'.log
  env : w'.os = w.os ∧ w'.output = w.output ∧ w'.tape = w.tape
section
variable {x : Cx} {β : Nat} {p q r p0 : Pl} {h h0 h1 h2 h' : Heap} {w w0 w1 w2 w' : World} {k : CallK} {cs : List Frame}
theorem PostB.of (hb : β ≤ w.heap.size) (a : Post x p h w q h1 w1) : PostB β x p h w q h1 w1 :=
  ⟨a.inv, a.ext, a.next, a.log, fun b hb' hn => a.mod b (Nat.lt_of_lt_of_le hb' hb) hn, a.own, a.size, a.mnew, a.inew, a.env⟩
theorem PostB.trans (hb : β ≤ w.heap.size) (a : PostB β x p h w q h1 w1) (b : PostB β x q h1 w1 r h2 w2) : PostB β x p h w r h2 w2 := by
  refine ⟨b.inv, a.ext.trans b.ext, Nat.le_trans a.next b.next, fun n hn => b.log n (a.log n hn), ?_, ?_, Nat.le_trans a.size b.size, ?_, ?_, ?_⟩
  · intro k hk hno
    rw [← a.mod k hk (fun id hid => hno id (b.log id hid))]
    exact b.mod k hk (fun id hid ho => hno id hid (a.own id k ho (Nat.lt_of_lt_of_le hk hb)))
  · intro id k ho hk
    exact a.own id k (b.own id k ho (Nat.lt_of_lt_of_le hk a.size)) hk
  · intro ad v hv
    rcases b.mnew ad v hv with h | h | ⟨id, hid, h⟩
    · rcases a.mnew ad v h with h | h | ⟨id, hid, h⟩
      · exact .inl h
      · exact .inr (.inl h)
      · exact .inr (.inr ⟨id, b.log id hid, h⟩)
    · exact .inr (.inl (Nat.le_trans a.size h))
    · by_cases hb : ad.block < w.heap.size
      · exact .inr (.inr ⟨id, hid, a.own id _ h hb⟩)
      · exact .inr (.inl (by omega))
  · intro id g y hy
    rcases b.inew id g y hy with k | k | k
    · rcases a.inew id g y k with k | k | k
      · exact .inl k
      · exact .inr (.inl k)
      · exact .inr (.inr (b.log id k))
    · exact .inr (.inl (Nat.le_trans a.next k))
    · exact .inr (.inr k)
  · obtain ⟨e1, e2, e3⟩ := a.env
    obtain ⟨f1, f2, f3⟩ := b.env
    exact ⟨f1.trans e1, f2.trans e2, f3.trans e3⟩
theorem PostB.join (a : Post x p h w q h1 w1) (b : PostB w.heap.size x q h1 w1 r h2 w2) : Post x p h w r h2 w2 := by
  have := PostB.trans (Nat.le_refl _) (PostB.of (Nat.le_refl _) a) b
  exact ⟨this.inv, this.ext, this.next, this.log, this.mod, this.own, this.size, this.mnew, this.inew, this.env⟩
/- a record of deferred calls that is taken -/
theorem PostB.taken (i : Inv x p h w) {blk : Nat} {ds : Option (List Deferred)} (hβ : β ≤ blk) (hb : w.heap[blk]? = some (.deferred ds)) {o : Obj} (hh : w2.heap = w.heap.setIfInBounds blk o) (he : w2.os = w.os ∧ w2.output = w.output ∧ w2.tape = w.tape) : PostB β x p h w p h w2 := by
  have hother : ∀ k, k ≠ blk → w2.heap[k]? = w.heap[k]? := by intro k hk; rw [hh]; simp [Array.getElem?_setIfInBounds, Ne.symm hk]
  have hsize : w2.heap.size = w.heap.size := by rw [hh]; simp
  have hno := i.not_owned hb
  refine ⟨⟨?_, ?_, ?_, i.sep, i.nx, fun j g b' base hι => by rw [hsize]; exact i.dom j g b' base hι, i.G⟩, .refl p, Nat.le_refl _, fun _ h => h, fun b hb' _ => hother b (by omega), fun _ _ o _ => o, by omega, fun _ _ h => .inl h, fun _ _ _ h => .inl h, he⟩
  · intro a v hv
    obtain ⟨h1, h3⟩ := i.M a v hv
    refine ⟨h1, ?_⟩
    have : a.block ≠ blk := fun e => by
      obtain ⟨arr, t, fz, hc⟩ := cell_of h3
      rw [e, hb] at hc; simp at hc
    unfold World.cell? at h3 ⊢
    rw [hother _ this]; exact h3
  · intro b' n hn
    obtain ⟨arr, e, fz, h1, h3⟩ := i.K b' n hn
    have : b' ≠ blk := fun e => by subst e; rw [hb] at h1; simp at h1
    rw [hother _ this]; exact ⟨arr, e, fz, h1, h3⟩
  · intro j bl hbl
    exact (i.B j bl hbl).keep (.refl p) (fun k ho => hother k fun e => hno j ⟨bl, hbl, e ▸ ho⟩) (fun k ho a ha => i.ownsM ⟨bl, hbl, ho⟩ a ha) (fun _ h => h)
def Md (p : Pl) : Option FV → FrameMode → Prop
  | none, m => m = .returning
  | some v, m => ∃ y, FRel p.M v y ∧ m = .panicking [{ v := y, recovered := false }]
theorem Md.mono (e : Ext p q) {v : Option FV} {m : FrameMode} (h : Md p v m) : Md q v m := by
  cases v with
  | none => exact h
  | some v => obtain ⟨y, h1, h2⟩ := h; exact ⟨y, h1.mono e.M, h2⟩
theorem Md.not_run {v : Option FV} {m : FrameMode} (h : Md p v m) : m ≠ .run := by
  cases v with
  | none => rw [show m = .returning from h]; simp
  | some v => obtain ⟨y, _, h2⟩ := h; rw [h2]; simp
theorem stepG_unwind {P : Program} {fr : Frame} (hm : fr.mode ≠ .run) : stepG P true { frame := fr, callers := cs, status := .running, dying := none } w = Go.unwind P true fr cs none w := by
  cases h : fr.mode with
  | run => exact absurd h hm
  | returning => simp [stepG, h]
  | panicking c => simp [stepG, h]
theorem DefRel.base_of {w w2 : World} {d : Def} {e : Deferred} (hd : DefRel x β p w d e) {blk : Nat} {o : Obj} (hh : w2.heap = w.heap.setIfInBounds blk o) (hne : ∀ b, e = { target := .collected b, args := #[] } → b ≠ blk) : DefRel x β p w2 d e := by
  cases d with
  | coll =>
    obtain ⟨b, rfl, h1, h2⟩ := hd
    exact ⟨b, rfl, h1, by rw [hh]; simp [Array.getElem?_setIfInBounds, Ne.symm (hne b rfl), h2]⟩
  | fn fv args => exact hd
theorem coll_of {d : Def} {e : Deferred} (hd : DefRel x β p w d e) {b : Nat} (he : e = { target := .collected b, args := #[] }) : collOf e = some b := by subst he; rfl
theorem DefsRel.taken {ds : List Def} {l : List Deferred} {blk : Nat} {o : Obj} (hh : w2.heap = w.heap.setIfInBounds blk o) (hn : blk ∉ l.filterMap collOf) (r : DefsRel x β p w ds l) : DefsRel x β p w2 ds l := by
  refine ⟨⟨r.1.1, fun i d e hd he => ?_⟩, r.2⟩
  refine (r.1.2 i d e hd he).base_of hh fun b hb e' => hn ?_
  subst e'
  exact List.mem_filterMap.2 ⟨e, List.mem_iff_getElem?.2 ⟨i, he⟩, by rw [hb]; rfl⟩
theorem unwind_sound (ks : KSound x k) : ∀ (ds : List Def) (pv : Option FV) (h : Heap) (pv' : Option FV) (h' : Heap), Dee.unwind k ds pv h = some (pv', h') → ∀ (p : Pl) (w : World) (fr : Frame), Inv x p h w → DefsRel x β p w ds fr.defers → Md p pv fr.mode → β ≤ w.heap.size →
    ∃ p' w' fr', Steps x.P (lone fr cs w) (lone fr' cs w') ∧ PostB β x p h w p' h' w' ∧ Md p' pv' fr'.mode ∧ fr'.defers = [] ∧ fr'.tmps = fr.tmps ∧ fr'.fn = fr.fn ∧ fr'.kind = fr.kind
  | [], pv, h, pv', h', e, p, w, fr, i, hd, hm, hb => by
    simp [Dee.unwind] at e; obtain ⟨rfl, rfl⟩ := e
    exact ⟨p, w, fr, .refl _ _, .of hb (.refl i), hm, hd.1.nil_left, rfl, rfl, rfl⟩
  | .coll :: ds, pv, h, pv', h', e, p, w, fr, i, hd, hm, hb => by
    simp only [Dee.unwind] at e
    obtain ⟨d1, l, hl, hr1, ht⟩ := hd.1.cons_left
    obtain ⟨blk, rfl, hβ, hbk⟩ := hr1
    have hnd := hd.2
    rw [hl] at hnd
    have hcc : collOf { target := .collected blk, args := #[] } = some blk := rfl
    simp only [List.filterMap_cons, hcc, List.nodup_cons] at hnd
    let w2 : World := { w with heap := w.heap.setIfInBounds blk (.deferred none) }
    have po : PostB β x p h w p h w2 := .taken i hβ hbk rfl ⟨rfl, rfl, rfl⟩
    have hd2 : DefsRel x β p w2 ds l := DefsRel.taken (w := w) (o := .deferred none) rfl hnd.1 ⟨ht, hnd.2⟩
    obtain ⟨p', w', fr', g1, g2, g3, g4, g5, g6, g7⟩ := unwind_sound ks ds pv h pv' h' e p w2 { fr with defers := l } po.inv hd2 hm (by simpa [w2] using hb)
    refine ⟨p', w', fr', .head ?_ g1, po.trans hb g2, g3, g4, g5, g6, g7⟩
    refine step_lone_go ?_
    rw [stepG_unwind hm.not_run]
    have hgo : (Instr.takeDeferred blk).run x.P w = .ok [] w2 := by simp [Instr.takeDeferred, getObj, setObj, Sem.run, hbk, w2]
    simp [Go.unwind, hl, hgo]
  | .fn fv args :: ds, pv, h, pv', h', e, p, w, fr, i, hd, hm, hb => by
    simp only [Dee.unwind, Option.bind_eq_some_iff] at e
    obtain ⟨⟨co, rc, h1⟩, hk, e⟩ := e
    cases co with
    | panic v => simp at e
    | ret v =>
    dsimp only at e
    obtain ⟨d1, l, hl, hr1, ht⟩ := hd.1.cons_left
    obtain ⟨vf, vs, r1, r2, r3⟩ := hr1
    let fr1 : Frame := { fr with defers := l }
    have hrck : RcK p .deferred (fr1 :: cs) (rcOf pv) := by
      cases pv with
      | none => exact ⟨rfl, fr1, cs, rfl, hm⟩
      | some v => obtain ⟨y, hy, hmo⟩ := hm; exact ⟨rfl, fr1, cs, y, rfl, hmo, hy⟩
    obtain ⟨n, frc, p1, w1, w3, cs', fr', g1, g2, g3, g4, g5, g6, g7⟩ := ks _ _ _ _ _ _ _ hk p w vf vs .deferred (fr1 :: cs) i r1 r2 hrck
    have hinv : (invoke d1.target d1.args).run x.P w = .ok n w := by
      have := g1
      unfold Invoked at this
      rw [Sem.run_bind, r3 w, Result.andThen_ok] at this
      exact this
    obtain ⟨fn', cap', htg⟩ : ∃ fn' cap', d1.target = .fn fn' cap' := by
      have := r3 w
      cases vf <;> simp [Deferred.ofValue] at this
      · subst this; exact ⟨_, _, rfl⟩
      · subst this
        simp [invoke, runtimePanic, Sem.run] at hinv
    rw [htg] at hinv
    have hcoll : ∀ b, d1.target ≠ .collected b := by
      intro b h; rw [htg] at h; simp at h
    have hstep : step x.P (lone fr cs w) = .next (lone frc (fr1 :: cs) w) := by
      refine step_lone_go ?_
      rw [stepG_unwind hm.not_run]
      have hun : Go.unwind x.P true fr cs none w = callDeferred x.P fr1 cs none d1 w := by
        unfold Go.unwind
        rw [hl]
        split
        · rename_i h; simp at h; exact absurd (by rw [h.1]) (hcoll _)
        · rename_i h; simp at h; obtain ⟨rfl, rfl⟩ := h; rfl
        · rename_i h; simp at h
      rw [hun]
      rcases g2 with ⟨f, as, rfl, rfl⟩ | ⟨l', f, tmps, as, body, rfl, rfl⟩ <;> simp [callDeferred, htg, hinv]
    obtain ⟨y, hy, hleft⟩ := g7
    have po1 : PostB β x p h w p1 h1 w1 := .of hb g3
    have hb1 : β ≤ w1.heap.size := Nat.le_trans hb g3.size
    have hd1 : DefsRel x β p1 w1 ds l := by
      have hnd : (l.filterMap collOf).Nodup := by
        have := hd.2
        rw [hl] at this
        simp only [List.filterMap_cons] at this
        split at this
        · exact this
        · exact (List.nodup_cons.1 this).2
      exact DefsRel.post i g3 ⟨ht, hnd⟩
    have hgo : ∃ c', step x.P (lone fr' cs' w3) = .next (lone c' cs w1) ∧ Md p1 (pvOf rc) c'.mode ∧ c'.defers = l ∧ c'.tmps = fr.tmps ∧ c'.fn = fr.fn ∧ c'.kind = fr.kind := by
      rcases g4 with ⟨rfl, rfl⟩ | ⟨v', c, rest, y', e1, rfl, e2, e3, rfl⟩
      · refine ⟨fr1, step_lone_go ?_, ?_, rfl, rfl, rfl, rfl⟩
        · rw [hleft]
          have hm1 : ∀ v older, fr1.mode ≠ .panicking ({ v := v, recovered := true, goexit := false } :: older) := by
            intro v2 older hc
            cases pv with
            | none => rw [show fr1.mode = .returning from hm] at hc; simp at hc
            | some v => obtain ⟨y, _, hmo⟩ := hm; rw [show fr1.mode = .panicking [{ v := y, recovered := false }] from hmo] at hc; simp at hc
          cases pv with
          | none => simp [doReturn, g5, show fr1.mode = .returning from hm]
          | some v => obtain ⟨y, _, hmo⟩ := hm; simp [doReturn, g5, show fr1.mode = .panicking [{ v := y, recovered := false }] from hmo]
        · have := hm.mono g3.ext
          cases pv with
          | none => exact this
          | some v => exact this
      · simp only [List.cons.injEq] at e2
        obtain ⟨rfl, rfl⟩ := e2
        refine ⟨{ fr1 with mode := .returning }, step_lone_go ?_, rfl, rfl, rfl, rfl, rfl⟩
        rw [hleft]
        simp [doReturn, g5]
    obtain ⟨c', k1, k2, k3, k4, k5, k6⟩ := hgo
    obtain ⟨p', w', fr2, q1, q2, q3, q4, q5, q6, q7⟩ := unwind_sound ks ds (pvOf rc) h1 pv' h' e p1 w1 c' g3.inv (by rw [k3]; exact hd1) k2 hb1
    exact ⟨p', w', fr2, .head hstep (g6.trans (.head k1 q1)), po1.trans hb q2, q3, q4, q5.trans k4, q6.trans k5, q7.trans k6⟩
end
end Go.Dee
end
section
/- A function's call. -/
namespace Go.Dee
section
variable {x : Cx} {β : Nat} {p q : Pl} {h h1 h' : Heap} {w w1 w' : World} {k : CallK} {cs : List Frame}
theorem LoopRel.at {s pend tm params assign body l} (n : Nat) (r : LoopRel x p s pend tm params assign body l) : LoopRel (x.at n) p s pend tm params assign body l := ⟨r.st, r.pend, r.tm, r.params, r.assign, r.body⟩
theorem LoopRel.un {s pend tm params assign body l} {n : Nat} (r : LoopRel (x.at n) p s pend tm params assign body l) : LoopRel x p s pend tm params assign body l := ⟨r.st, r.pend, r.tm, r.params, r.assign, r.body⟩
theorem BlkRel.at {id : Nat} {blk : Blk} (n : Nat) (r : BlkRel x p w id blk) : BlkRel (x.at n) p w id blk := by
  cases blk with
  | cells => exact r
  | map => exact r
  | loop => obtain ⟨b, l, h1, h2, h3, h4⟩ := r; exact ⟨b, l, h1, h2, h3.at n, h4⟩
theorem BlkRel.un {id : Nat} {blk : Blk} {n : Nat} (r : BlkRel (x.at n) p w id blk) : BlkRel x p w id blk := by
  cases blk with
  | cells => exact r
  | map => exact r
  | loop => obtain ⟨b, l, h1, h2, h3, h4⟩ := r; exact ⟨b, l, h1, h2, h3.un, h4⟩
theorem Inv.at (n : Nat) (i : Inv x p h w) : Inv (x.at n) p h w := ⟨i.M, i.K, fun id b hb => (i.B id b hb).at n, i.sep, i.nx, i.dom, i.G⟩
theorem Inv.un {n : Nat} (i : Inv (x.at n) p h w) : Inv x p h w := ⟨i.M, i.K, fun id b hb => (i.B id b hb).un, i.sep, i.nx, i.dom, i.G⟩
theorem Post.at (n : Nat) (r : Post x p h w q h1 w1) : Post (x.at n) p h w q h1 w1 := ⟨r.inv.at n, r.ext, r.next, r.log, r.mod, r.own, r.size, r.mnew, r.inew, r.env⟩
theorem Post.un {n : Nat} (r : Post (x.at n) p h w q h1 w1) : Post x p h w q h1 w1 := ⟨r.inv.un, r.ext, r.next, r.log, r.mod, r.own, r.size, r.mnew, r.inew, r.env⟩
theorem Left.at {fr : Frame} {o : COut} (n : Nat) (r : Left x p fr cs w1 w' o) : Left (x.at n) p fr cs w1 w' o := by cases o <;> exact r
theorem Left.un {fr : Frame} {o : COut} {n : Nat} (r : Left (x.at n) p fr cs w1 w' o) : Left x p fr cs w1 w' o := by cases o <;> exact r
theorem KSound.at (n : Nat) (ks : KSound x k) : KSound (x.at n) k := by
  intro fv args rc h o rc' h' e p w vf vs kind cs i hf ha hr
  obtain ⟨n', fr, p', w', w1, cs', fr', r1, r2, r3, r4, r5, r6, r7⟩ := ks fv args rc h o rc' h' e p w vf vs kind cs i.un hf ha hr
  exact ⟨n', fr, p', w', w1, cs', fr', r1, r2, r3.at n, r4, r5, r6, r7.at n⟩
theorem slots_get : ∀ (l : List DV) (i : Nat) (tm : Tm) (t : Nat), i + l.length ≤ 500000 → t < 500000 → (slots l i tm).get (slot t) = if i ≤ t ∧ t < i + l.length then l[t - i]? else tm.get (slot t)
  | [], i, tm, t, _, _ => by
    have : ¬ (i ≤ t ∧ t < i + 0) := by omega
    simp only [slots, List.length_nil, if_neg this]
  | v :: l, i, tm, t, hl, ht => by
    simp only [List.length_cons] at hl
    unfold slots
    rw [slots_get l (i + 1) _ t (by omega) ht]
    by_cases h1 : i + 1 ≤ t ∧ t < i + 1 + l.length
    · have h2 : i ≤ t ∧ t < i + (l.length + 1) := by omega
      rw [if_pos h1]
      simp only [List.length_cons]
      rw [if_pos h2, show t - i = (t - (i + 1)) + 1 by omega]
      simp
    · rw [if_neg h1]
      by_cases h3 : t = i
      · subst h3
        have h2 : t ≤ t ∧ t < t + (l.length + 1) := by omega
        simp only [List.length_cons]
        rw [Tm.get_set_same, if_pos h2]; simp
      · have h2 : ¬ (i ≤ t ∧ t < i + (l.length + 1)) := by omega
        simp only [List.length_cons]
        rw [if_neg h2, Tm.get_set_other]
        exact fun e => h3 (slot_inj (by omega) ht e).symm
theorem slots_rel {args : List DV} {vs : List Value} (ha : CD p args vs) {n : Nat} (hn : args.length ≤ n) (h5 : n < 500000) : TmRel p (slots args 0 .leaf) (vs.toArray ++ Array.replicate (n - vs.toArray.size) undef) := by
  have hlen := ha.1
  refine ⟨by simp; omega, fun t d ht hd => ?_⟩
  simp at ht
  have ht5 : t < 500000 := by omega
  rw [slots_get args 0 .leaf t (by omega) ht5] at hd
  split at hd
  · rename_i hc
    obtain ⟨y, hy, hr⟩ := ha.get hd
    simp only [Nat.sub_zero] at hy
    have : t < vs.toArray.size := by simp; omega
    exact ⟨y, by rw [Array.getElem?_append_left this]; simpa using hy, hr⟩
  · rw [Tm.get_leaf] at hd; simp at hd
theorem readRes_sound (i : Inv x p h w) {tm : Tm} {tmps : Array Value} (ht : TmRel p tm tmps) (hnt : tmps.size = x.nt) : ∀ {rs : List ResultVar} {ds : List DRes} {l : List DV}, x.results rs = some ds → readRes tm h ds = some l →
    ∃ ys, CD p l ys ∧ (rs.mapM fun r => (match r with | .tmp t => Pure.pure (tmps.getD t undef) | .cell a t => do loadVar t (← asAddr (tmps.getD a undef)) : Sem Value)).run x.P w = .ok ys w
  | [], ds, l, hr, hl => by
    simp [Cx.results] at hr; subst hr
    simp [readRes] at hl; subst hl
    exact ⟨[], .nil, by simp⟩
  | .tmp t :: rs, ds, l, hr, hl => by
    simp only [Cx.results] at hr
    obtain ⟨h1, hr⟩ := chk_some hr
    simp only [Option.bind_eq_some_iff, Option.some.injEq] at hr
    obtain ⟨r, hr', rfl⟩ := hr
    simp only [readRes, Option.bind_eq_some_iff, Option.some.injEq] at hl
    obtain ⟨v, hv, vs, hvs, rfl⟩ := hl
    obtain ⟨ys, hy, hrun⟩ := readRes_sound i ht hnt hr' hvs
    have htl : t < tmps.size := by rw [hnt]; exact Nat.lt_of_succ_le (Nat.le_of_ble_eq_true h1)
    obtain ⟨y, h2, h3⟩ := ht.2 t v htl hv
    refine ⟨y :: ys, .cons h3 hy, ?_⟩
    have : tmps.getD t undef = y := by simp [Array.getD_eq_getD_getElem?, h2]
    simp only [List.mapM_cons, Sem.run_bind, Sem.run_pure, Result.andThen_ok, hrun, this]
  | .cell a t :: rs, ds, l, hr, hl => by
    simp only [Cx.results] at hr
    obtain ⟨h1, hr⟩ := chk_some hr
    simp only [Option.bind_eq_some_iff] at hr
    obtain ⟨ag, hag, sz, hsz, hr⟩ := hr
    obtain ⟨h4, hr⟩ := chk_some hr
    simp only [Option.bind_eq_some_iff, Option.some.injEq] at hr
    obtain ⟨r, hr', rfl⟩ := hr
    simp only [readRes, Option.bind_eq_some_iff, Option.some.injEq] at hl
    obtain ⟨pd, hpd, v, hv, vs, hvs, rfl⟩ := hl
    obtain ⟨ys, hy, hrun⟩ := readRes_sound i ht hnt hr' hvs
    have htl : a < tmps.size := by rw [hnt]; exact Nat.lt_of_succ_le (Nat.le_of_ble_eq_true h1)
    obtain ⟨pv, h2, h3⟩ := ht.2 a pd htl hpd
    obtain ⟨y, ad, rfl, h5, h6⟩ := loadDV_sound i hag hsz (fun e => by subst e; exact Nat.eq_of_beq_eq_true (by simpa using h4)) h3 hv
    refine ⟨y :: ys, .cons h6 hy, ?_⟩
    have : tmps.getD a undef = .pointer (some ad) := by simp [Array.getD_eq_getD_getElem?, h2]
    have has : (asAddr (.pointer (some ad))).run x.P w = .ok ad w := by simp [asAddr]
    simp only [List.mapM_cons, Sem.run_bind, Sem.run_pure, Result.andThen_ok, hrun, this, has, h5]
theorem results_sound (i : Inv x p h w) {tm : Tm} {tmps : Array Value} (ht : TmRel p tm tmps) (hnt : tmps.size = x.nt) {fn : Func} {ds : List DRes} {l : List DV} (hr : x.results fn.results.toList = some ds) (hl : readRes tm h ds = some l) :
    ∃ y, DRel p (resVal l) y ∧ (Go.results fn tmps).run x.P w = .ok y w := by
  obtain ⟨ys, hy, hrun⟩ := readRes_sound i ht hnt hr hl
  have hm : (fn.results.mapM fun r => (match r with | .tmp t => Pure.pure (tmps.getD t undef) | .cell a t => do loadVar t (← asAddr (tmps.getD a undef)) : Sem Value)).run x.P w = .ok ys.toArray w := by
    rw [← Array.toArray_toList (xs := fn.results), List.mapM_toArray]
    have hrun' := hrun
    simp only [Array.getD_eq_getD_getElem?] at hrun'
    simp [hrun']
  have hlen := hy.1
  unfold Go.results
  refine ⟨if h : ys.toArray.size = 1 then ys.toArray[0] else .tuple ys.toArray, ?_, ?_⟩
  · unfold resVal
    split
    · obtain ⟨y, t, rfl, h1, h2⟩ := hy.cons_left
      have := h2.nil_left; subst this
      simpa using h1
    · rename_i hne
      have : ¬ ys.toArray.size = 1 := by
        intro h1
        simp at h1
        have : l.length = 1 := by omega
        obtain ⟨v, rfl⟩ := List.length_eq_one_iff.1 this
        exact hne v rfl
      rw [dif_neg this]
      exact mkTuple_rel hy
  · refine Eq.trans (Sem.run_bind ..) ?_
    refine Eq.trans (congrArg (fun r => Result.andThen r _) hm) ?_
    simp
end
end Go.Dee
end
section
/- Every call. -/
namespace Go.Dee
def FnOk (x : Cx) (f : FuncId) (df : DFunc) : Prop := ∃ fn c, x.P.funcs[f]? = some fn ∧ (fn.name == "runtime.NumGoroutine") = false ∧ fn.body = some c ∧ Ok (x.at fn.ntmps) c df.body ∧
  (x.at fn.ntmps).results fn.results.toList = some df.results ∧ fn.ntmps < 500000 ∧ df.nt = fn.ntmps
def EnvOk (x : Cx) (env : FuncId → Option DFunc) : Prop := ∀ f df, env f = some df → FnOk x f df
def DrawOk (x : Cx) : Prop := ∀ k n, KSound x k → DrawSound (x.at n) k ∧ IncSound (x.at n) k
section
variable {x : Cx} {β : Nat} {p q : Pl} {h h1 h' : Heap} {w w1 w' : World} {k : CallK} {cs : List Frame} {b : Frame} {a : Act}
theorem mstep_leave {P : Program} (hr : b.roundOf = none) : step P (lone (fat b a []) cs w) = .next (lone { fat b a [] with mode := .returning } cs w) := step_lone_go (by simp [stepG, stepG.exec, fat, hr])
theorem mstep_ret {P : Program} {K : List Item} (hr : b.roundOf = none) : step P (lone (fat b a (.code .ret :: K)) cs w) = .next (lone { fat b a (.code .ret :: K) with mode := .returning } cs w) := step_lone_go (by simp [stepG, stepG.exec, fat, hr])
theorem leave_sound (ks : KSound x k) {f : FuncId} {df : DFunc} {fn : Func} (hfn : x.P.funcs[f]? = some fn) (hres : x.results fn.results.toList = some df.results) {pv : Option FV} {s : St} {o : COut} {rc' : Rc} (he : leave k df pv s = some (o, rc', h'))
    {fr : Frame} (hf : fr.fn = f) (i : Inv x p s.hp w) (ht : TmRel p s.tm fr.tmps) (hnt : fr.tmps.size = x.nt) (hd : DefsRel x β p w s.defs fr.defers) (hm : Md p pv fr.mode) (hb : β ≤ w.heap.size) :
    rc' = s.rc ∧ ∃ p' w' fr', PostB β x p s.hp w p' h' w' ∧ fr'.kind = fr.kind ∧ Steps x.P (lone fr cs w) (lone fr' cs w') ∧ Left x p' fr' cs w' w' o := by
  simp only [leave, Option.bind_eq_some_iff] at he
  obtain ⟨⟨p1, h1⟩, hu, he⟩ := he
  obtain ⟨p', w', fr', g1, g2, g3, g4, g5, g6, g7⟩ := unwind_sound (cs := cs) ks s.defs pv s.hp p1 h1 hu p w fr i hd hm hb
  cases p1 with
  | none =>
    simp only [Option.bind_eq_some_iff, Option.some.injEq, Prod.mk.injEq] at he
    obtain ⟨l, hl, rfl, rfl, rfl⟩ := he
    refine ⟨rfl, p', w', fr', g2, g7, g1, ?_⟩
    obtain ⟨y, hy, hrun⟩ := results_sound g2.inv (ht.mono g2.ext) hnt hres hl
    refine ⟨y, hy, ?_⟩
    rw [stepG_unwind g3.not_run]
    have hfr : x.P.funcs[fr'.fn]? = some fn := by rw [g6, hf]; exact hfn
    have hmode : fr'.mode = .returning := g3
    have hrun' : (Go.results fn fr'.tmps).run x.P w' = .ok y w' := by rw [g5]; exact hrun
    simp [Go.unwind, g4, hmode, hfr, hrun']
  | some v =>
    simp only [Option.some.injEq, Prod.mk.injEq] at he
    obtain ⟨rfl, rfl, rfl⟩ := he
    obtain ⟨y, hy, hmo⟩ := g3
    refine ⟨rfl, p', w', fr', g2, g7, g1, y, hy, rfl, hmo, g4, ?_⟩
    have hfr : x.P.funcs[fr'.fn]? = some fn := by rw [g6, hf]; exact hfn
    simp [Frame.catches, hfr]
theorem enter_sound (hfol : x.P.follows .mixedOrders = true) (hdr : DrawOk x) (ks : KSound x k) {f : FuncId} {df : DFunc} (hfn : FnOk x f df) {n : Nat} {args : List DV} {vs : List Value} {kind : CallKind} {rc rc' : Rc} {o : COut}
    (he : enter k n df args rc h = some (o, rc', h')) (i : Inv x p h w) (ha : CD p args vs) (hr : RcK p kind cs rc) :
    ∃ p' w' w1 cs' fr', Post x p h w p' h' w' ∧ csTo rc cs rc' cs' ∧ fr'.kind = kind ∧ Steps x.P (lone (Frame.enter x.P f vs.toArray kind) cs w) (lone fr' cs' w1) ∧ Left x p' fr' cs' w1 w' o := by
  obtain ⟨fn, c, e1, _, e2, e3, e4, e5, e6⟩ := hfn
  unfold enter at he
  obtain ⟨hlen, he⟩ := chk_some he
  have hlen := Nat.le_of_ble_eq_true hlen
  rw [e6] at hlen
  simp only [Option.bind_eq_some_iff] at he
  obtain ⟨⟨out, s1⟩, hex, he⟩ := he
  let x1 := x.at fn.ntmps
  let a0 : Act := ⟨vs.toArray ++ Array.replicate (fn.ntmps - vs.toArray.size) undef, []⟩
  let b : Frame := Frame.enter x.P f vs.toArray kind
  have hfat : Frame.enter x.P f vs.toArray kind = fat b a0 [.code c] := by simp [b, fat, Frame.enter, e1, e2, a0]
  have hbk : b.kind = kind := rfl
  have hbr : b.roundOf = none := rfl
  have hbf : b.fn = f := rfl
  have hvl := ha.1
  have sr : SRel x1 w.heap.size p ⟨slots args 0 .leaf, [], rc, h⟩ w b a0 cs := by
    refine ⟨i.at _, slots_rel ha hlen e5, ?_, ⟨.nil, by simp [a0]⟩, ?_, Nat.le_refl _⟩
    · have : x1.nt = fn.ntmps := rfl
      rw [this]
      simp [a0]; omega
    · cases rc with
      | loop => exact absurd hr (by simp [RcK])
      | _ => exact ⟨hbr, hr⟩
  obtain ⟨hd1, hd2⟩ := hdr k fn.ntmps ks
  obtain ⟨p1, w1, a1, cs1, g1, g2, g3, g4⟩ := (exec_sound (x := x1) hfol (ks.at fn.ntmps) hd1 hd2 n).1 df.body _ out s1 hex w.heap.size c p w b a0 cs [] e3 sr
  rw [← hfat] at g4
  have fin : ∀ (pv : Option FV) (fr : Frame), leave k df pv s1 = some (o, rc', h') → Steps x.P (lone (Frame.enter x.P f vs.toArray kind) cs w) (lone fr cs1 w1) → fr.fn = f → fr.tmps = a1.tmps → fr.defers = a1.defers → fr.kind = kind → Md p1 pv fr.mode →
      ∃ p' w' w1 cs' fr', Post x p h w p' h' w' ∧ csTo rc cs rc' cs' ∧ fr'.kind = kind ∧ Steps x.P (lone (Frame.enter x.P f vs.toArray kind) cs w) (lone fr' cs' w1) ∧ Left x p' fr' cs' w1 w' o := by
    intro pv fr hl hs hf ht hd hk hm
    obtain ⟨rfl, p2, w2, fr2, k1, k2, k3, k4⟩ := leave_sound (x := x1) (cs := cs1) (ks.at fn.ntmps) e1 e4 hl hf g2.inv (by rw [ht]; exact g2.tm) (by rw [ht]; exact g2.nt) (by rw [hd]; exact g2.defs) hm g2.base
    exact ⟨p2, w2, w2, cs1, fr2, (PostB.join g1 k1).un, g3, k2.trans hk, hs.trans k3, k4.un⟩
  cases out with
  | normal => exact fin none _ he (Steps.trans g4 (.one (mstep_leave hbr))) rfl rfl rfl rfl rfl
  | ret =>
    obtain ⟨k', g4⟩ := g4
    exact fin none _ he (Steps.trans g4 (.one (mstep_ret hbr))) rfl rfl rfl rfl rfl
  | panic v =>
    obtain ⟨k', y, hy, g4⟩ := g4
    exact fin (some v) _ he g4 rfl rfl rfl rfl ⟨y, hy, rfl⟩
  | exit id => simp at he
  | goto l => simp at he
theorem setParams_rel {n : Nat} : ∀ {ps : List Tmp} {pps : List Pos} {args : List DV} {vs : List Value} {tm tm' : Tm} {tmps : Array Value}, (x.at n).slotL ps = some pps → setParams pps args tm = some tm' → CD p args vs → TmRel p tm tmps → tmps.size = n →
    ps.length = vs.length ∧ TmRel p tm' ((ps.zip vs).foldl (fun (t : Array Value) (y : Tmp × Value) => t.setIfInBounds y.1 y.2) tmps) ∧ ((ps.zip vs).foldl (fun (t : Array Value) (y : Tmp × Value) => t.setIfInBounds y.1 y.2) tmps).size = n
  | [], pps, args, vs, tm, tm', tmps, hp, hs, ha, ht, hn => by
    simp [Cx.slotL] at hp; subst hp
    cases args with
    | nil => simp [setParams] at hs; subst hs; have := ha.nil_left; subst this; exact ⟨rfl, ht, hn⟩
    | cons d l => simp [setParams] at hs
  | t :: ps, pps, args, vs, tm, tm', tmps, hp, hs, ha, ht, hn => by
    simp only [Cx.slotL] at hp
    obtain ⟨h1, hp⟩ := chk_some hp
    simp only [Option.bind_eq_some_iff, Option.some.injEq] at hp
    obtain ⟨r, hr, rfl⟩ := hp
    cases args with
    | nil => simp [setParams] at hs
    | cons d l =>
      obtain ⟨v, vs, rfl, hv, hvs⟩ := ha.cons_left
      simp only [setParams] at hs
      have htl : t < tmps.size := by rw [hn]; exact Nat.lt_of_succ_le (Nat.le_of_ble_eq_true h1)
      obtain ⟨k1, k2, k3⟩ := setParams_rel hr hs hvs (ht.put htl hv) (by simpa using hn)
      exact ⟨by simp [k1], k2, k3⟩
theorem jump_rel {o : Out} {c : DCode} (h : jumpCode o = some c) : ∃ c', jumpRel (some c) (some c') ∧ (match o with | .exit id => c' = .exit id | .goto l => c' = .goto l | .ret => c' = .ret | _ => False) := by
  cases o <;> simp [jumpCode] at h <;> subst h
  · exact ⟨.exit _, rfl, rfl⟩
  · exact ⟨.goto _, rfl, rfl⟩
  · exact ⟨.ret, trivial, rfl⟩
theorem csTo.loop {cs cs' : List Frame} {rc' : Rc} (h : csTo .loop cs rc' cs') : rc' = .loop ∧ cs' = cs := by
  rcases h with h | ⟨v, c, rest, x, h, _⟩
  · exact h
  · simp at h
theorem turn_loop (i : Inv x p h w) {id blk : Nat} {s s' : LSt} {pend pend' : Option DCode} {tm tm' : Tm} {ps ps' : List Pos} {as as' bd bd' : DCode} {l l' : Loop} (hb : h.get id = some (.loop s pend tm ps as bd)) (hι : p.ι id 0 = some (blk, 0)) (hl : w.heap[blk]? = some (.loop l))
    (hr : LoopRel x p s' pend' tm' ps' as' bd' l') : Post x p h w p (h.set id (.loop s' pend' tm' ps' as' bd')) { w with heap := w.heap.setIfInBounds blk (.loop l') } := by
  refine Post.turn i (.loop l') _ _ id blk hb hι rfl ⟨rfl, rfl, rfl⟩ ?_ (.refl p) (.inl rfl) hι ?_
  · intro arr e fz hh; rw [hl] at hh; simp at hh
  · obtain ⟨k, l2, h1, h2, h3, h4, h5⟩ := i.B id _ hb
    rw [hι] at h1; simp at h1; subst h1
    obtain ⟨hlt, _⟩ := Array.getElem?_eq_some_iff.1 hl
    exact ⟨blk, l', hι, by simp [hlt], hr, h4, h5⟩
theorem round_sound (hfol : x.P.follows .mixedOrders = true) (hdr : DrawOk x) (ks : KSound x k) {n id : Nat} {args : List DV} {vs : List Value} {rc' : Rc} {o : COut} (he : round k n id args h = some (o, rc', h')) (i : Inv x p h w) (ha : CD p args vs)
    {blk : Nat} (hι : p.ι id 0 = some (blk, 0)) : rc' = .off ∧ ∃ nx fr p' w' w1 fr', (Instr.yield blk vs.toArray).run x.P w = .ok nx w ∧ Enters x.P nx .normal fr ∧ Post x p h w p' h' w' ∧ fr'.kind = .normal ∧ Steps x.P (lone fr cs w) (lone fr' cs w1) ∧ Left x p' fr' cs w1 w' o := by
  unfold round at he
  split at he
  case h_2 => simp at he
  rename_i st0 tm params assign body hget
  simp only [Option.bind_eq_some_iff] at he
  obtain ⟨tm1, htm1, ⟨o1, s1⟩, hex, he⟩ := he
  obtain ⟨blk', l, k1, k2, k3, k4, k5⟩ := i.B id _ hget
  rw [hι] at k1; simp at k1; subst k1
  obtain ⟨q1, q2, q3⟩ := setParams_rel k3.params htm1 ha k3.tm rfl
  let x1 := x.at l.tmps.size
  let tmps1 := (l.params.toList.zip vs).foldl (fun (t : Array Value) (y : Tmp × Value) => t.setIfInBounds y.1 y.2) l.tmps
  let a0 : Act := ⟨tmps1, []⟩
  let b : Frame := Frame.round blk l.fn tmps1 l.assign l.body .normal
  have hfat : b = fat b a0 [.code l.assign, .beginRound, .code l.body] := by simp [b, fat, Frame.round, a0]
  have hbr : b.roundOf = some blk := rfl
  have hy : (Instr.yield blk vs.toArray).run x.P w = .ok (.round blk l.fn tmps1 l.assign l.body) w := by
    have hsz : ¬ (vs.toArray.size ≠ l.params.size) := by
      have : l.params.toList.length = vs.length := q1
      simp at this ⊢; omega
    have hz : (l.params.zip vs.toArray).foldl (fun (tmps : Array Value) (y : Tmp × Value) => tmps.setIfInBounds y.1 y.2) l.tmps = tmps1 := by
      rw [← Array.foldl_toList, Array.toList_zip]
    simp only [Instr.yield, Instr.getLoop, Sem.run_bind, getObj_loop k2, Result.andThen_ok, Sem.run_pure, if_neg hsz]
    rw [← hz]
  have sr : SRel x1 w.heap.size p ⟨tm1, [], .loop, h⟩ w b a0 cs := ⟨i.at _, q2, q3, ⟨.nil, by simp [a0]⟩, ⟨blk, hbr⟩, Nat.le_refl _⟩
  obtain ⟨hd1, hd2⟩ := hdr k l.tmps.size ks
  have hExec := (exec_sound (x := x1) hfol (ks.at l.tmps.size) hd1 hd2 n).1
  obtain ⟨p1, w1, a1, cs1, g1, g2, g3, g4⟩ := hExec assign _ o1 s1 hex w.heap.size l.assign p w b a0 cs [.beginRound, .code l.body] k3.assign sr
  obtain ⟨hrc1, rfl⟩ := g3.loop
  dsimp only at he
  split at he
  case h_2 => simp at he
  rename_i pend2 tm2 ps2 as2 bd2 hget2
  simp only [Option.bind_eq_some_iff] at he
  obtain ⟨⟨out, s2⟩, hex2, he⟩ := he
  have hι1 : p1.ι id 0 = some (blk, 0) := g1.ext.ι _ _ _ hι
  obtain ⟨blk2, l2, m1, m2, m3, m4, m5⟩ := g1.inv.B id _ hget2
  rw [hι1] at m1; simp at m1; subst m1
  let w2 : World := { w1 with heap := w1.heap.setIfInBounds blk (.loop { l2 with state := .busy }) }
  have po2 : Post x1 p1 s1.hp w1 p1 (s1.hp.set id (.loop .busy pend2 tm2 ps2 as2 bd2)) w2 := turn_loop g1.inv hget2 hι1 m2 ⟨trivial, m3.pend, m3.tm, m3.params, m3.assign, m3.body⟩
  have hst2 : l2.state = .ready := by
    have := m3.st
    cases hl : l2.state <;> rw [hl] at this <;> simp [stRel] at this ⊢
  have hbegin : step x.P (lone (fat b a1 [.beginRound, .code l.body]) cs1 w1) = .next (lone (fat b a1 [.code l.body]) cs1 w2) := by
    refine step_lone_go ?_
    have hgo : (Instr.beginRound blk).run x.P w1 = .ok () w2 := by
      simp only [Instr.beginRound, Instr.getLoop, Sem.run_bind, getObj_loop m2, Result.andThen_ok, Sem.run_pure, setObj_loop m2, hst2]
      rfl
    simp [stepG, stepG.exec, stepG.apply, fat, hbr, hgo, Frame.finish]
  have sr2 : SRel x1 w.heap.size p1 ⟨s1.tm, s1.defs, s1.rc, s1.hp.set id (.loop .busy pend2 tm2 ps2 as2 bd2)⟩ w2 b a1 cs1 := g2.heap po2
  obtain ⟨p3, w3, a3, cs3, r1, r2, r3, r4⟩ := hExec body _ out s2 hex2 w.heap.size l.body p1 w2 b a1 cs1 [] k3.body sr2
  have hrc1' : s1.rc = .loop := hrc1
  have r3' : csTo .loop cs1 s2.rc cs3 := by
    have : (⟨s1.tm, s1.defs, s1.rc, s1.hp.set id (.loop .busy pend2 tm2 ps2 as2 bd2)⟩ : St).rc = .loop := hrc1'
    rw [this] at r3; exact r3
  obtain ⟨_, rfl⟩ := r3'.loop
  have hι3 : p3.ι id 0 = some (blk, 0) := r1.ext.ι _ _ _ hι1
  have hpo : Post x p h w p3 s2.hp w3 := ((g1.trans po2).trans r1).un
  have hpre : Steps x.P (lone b cs3 w) (lone (fat b a1 [.code l.body]) cs3 w2) := by
    rw [hfat]; exact Steps.trans g4 (.one hbegin)
  -- the end of the round
  have fin : ∀ (j : Option DCode) (jc : Option Code) (fr' : Frame) (st : LSt), jumpRel j jc → (st = if jc.isNone then .ready else .done) → j.isNone = jc.isNone → fr'.kind = .normal → Steps x.P (lone b cs3 w) (lone fr' cs3 w3) →
      (∀ y w4, (Instr.endRound blk jc).run x.P w3 = .ok y w4 → (stepG x.P true { frame := fr', callers := cs3, status := .running, dying := none } w3).bare = (doReturn x.P true fr' cs3 none y w4).bare) →
      ∀ {pend3 tm3 ps3 as3 bd3}, s2.hp.get id = some (.loop .busy pend3 tm3 ps3 as3 bd3) → some (COut.ret (.f (.bool j.isNone)), Rc.off, s2.hp.set id (.loop st j tm3 ps3 as3 bd3)) = some (o, rc', h') →
      rc' = .off ∧ ∃ nx fr p' w' w1 fr', (Instr.yield blk vs.toArray).run x.P w = .ok nx w ∧ Enters x.P nx .normal fr ∧ Post x p h w p' h' w' ∧ fr'.kind = .normal ∧ Steps x.P (lone fr cs3 w) (lone fr' cs3 w1) ∧ Left x p' fr' cs3 w1 w' o := by
    intro j jc fr' st hj hst hjn hk hs hend pend3 tm3 ps3 as3 bd3 hget3 hout
    simp only [Option.some.injEq, Prod.mk.injEq] at hout
    obtain ⟨rfl, rfl, rfl⟩ := hout
    obtain ⟨blk3, l3, n1, n2, n3, n4, n5⟩ := hpo.inv.B id _ hget3
    rw [hι3] at n1; simp at n1; subst n1
    have hgo : (Instr.endRound blk jc).run x.P w3 = .ok (.bool jc.isNone) { w3 with heap := w3.heap.setIfInBounds blk (.loop { l3 with state := if jc.isNone then .ready else .done, pending := jc }) } := by
      simp only [Instr.endRound, Instr.getLoop, Sem.run_bind, getObj_loop n2, Result.andThen_ok, Sem.run_pure, setObj_loop n2]
    have po4 : Post x p3 s2.hp w3 p3 (s2.hp.set id (.loop st j tm3 ps3 as3 bd3)) { w3 with heap := w3.heap.setIfInBounds blk (.loop { l3 with state := if jc.isNone then .ready else .done, pending := jc }) } := by
      refine turn_loop hpo.inv hget3 hι3 n2 ⟨?_, hj, n3.tm, n3.params, n3.assign, n3.body⟩
      rw [hst]
      cases jc <;> exact trivial
    refine ⟨rfl, _, b, p3, _, w3, fr', hy, .inr ⟨_, _, _, _, _, rfl, rfl⟩, hpo.trans po4, hk, hs, .bool jc.isNone, by rw [hjn]; exact .f (.bool _), hend _ _ hgo⟩
  split at he
  · simp at he
  · rename_i hget3 hnp
    cases out with
    | panic v => exact absurd rfl (hnp v)
    | normal =>
      refine fin none none (fat b a3 []) .ready trivial rfl rfl rfl (hpre.trans r4) ?_ hget3 he
      intro y w4 hr
      simp [stepG, stepG.exec, fat, hbr, hr]
    | exit e =>
      obtain ⟨k', c1, c2⟩ := r4
      have hx : exitTo e k' = none := c1
      refine fin (some (.exit e)) (some (.exit e)) (fat b a3 (.code (.exit e) :: k')) .done rfl rfl rfl rfl (hpre.trans c2) ?_ hget3 he
      intro y w4 hr
      simp [stepG, stepG.exec, fat, hbr, hr, hx]
    | goto e =>
      obtain ⟨k', c1, c2⟩ := r4
      have hx : gotoIn e k' = none := c1
      refine fin (some (.goto e)) (some (.goto e)) (fat b a3 (.code (.goto e) :: k')) .done rfl rfl rfl rfl (hpre.trans c2) ?_ hget3 he
      intro y w4 hr
      simp [stepG, stepG.exec, fat, hbr, hr, hx]
    | ret =>
      obtain ⟨k', c2⟩ := r4
      refine fin (some .ret) (some .ret) (fat b a3 (.code .ret :: k')) .done trivial rfl rfl rfl (hpre.trans c2) ?_ hget3 he
      intro y w4 hr
      simp [stepG, stepG.exec, fat, hbr, hr]
  · simp at he
theorem callV_sound (hfol : x.P.follows .mixedOrders = true) (hdr : DrawOk x) {env : FuncId → Option DFunc} (henv : EnvOk x env) : ∀ n, KSound x (callV env n)
  | 0 => by intro fv args rc h o rc' h' e; simp [callV] at e
  | n + 1 => by
    have ks := callV_sound hfol hdr henv n
    intro fv args rc h o rc' h' e p w vf vs kind cs i hf ha hr
    have fnc : ∀ (f : FuncId) (first cap : List DV) (fs cps : List Value) (df : DFunc), env f = some df → CD p first fs → CD p cap cps → enter (callV env n) n df (first ++ (args ++ cap)) rc h = some (o, rc', h') →
        vf = .func (.func f) fs.toArray cps.toArray → Run x p h w vf vs kind cs rc rc' o h' := by
      rintro f first cap fs cps df hdf hfi hca he rfl
      have hfn := henv f df hdf
      obtain ⟨p', w', w1, cs', fr', g1, g2, g3, g4, g5⟩ := enter_sound (cs := cs) hfol hdr ks hfn he i (hfi.append (ha.append hca)) hr
      obtain ⟨fn, c, e1, e0, e2, _⟩ := hfn
      refine ⟨.enter f (fs ++ (vs ++ cps)).toArray, _, p', w', w1, cs', fr', ?_, .inl ⟨f, _, rfl, rfl⟩, g1, g2, g3, g4, g5⟩
      have e0' : ¬ fn.name = "runtime.NumGoroutine" := by simpa using e0
      simp [Invoked, Deferred.ofValue, invoke, callFunc, e1, e0', e2]
    unfold callV at e
    split at e
    · rename_i f first cap
      simp only [Option.bind_eq_some_iff] at e
      obtain ⟨df, hdf, he⟩ := e
      cases hf with | f hf =>
      cases hf with
      | func as bs hal hbl h1 h2 =>
        exact fnc f (first.map .f) (cap.map .f) as bs df hdf (CF.toD ⟨hal, h1⟩) (CF.toD ⟨hbl, h2⟩) he rfl
    · rename_i f first cap
      simp only [Option.bind_eq_some_iff] at e
      obtain ⟨df, hdf, he⟩ := e
      cases hf with
      | func as bs hal hbl h1 h2 => exact fnc f first cap as bs df hdf ⟨hal, h1⟩ ⟨hbl, h2⟩ he rfl
    · rename_i id
      cases rc with
      | off =>
        dsimp only at e
        cases hf with
        | yield blk hι =>
          have hk : kind = .normal := hr
          subst hk
          obtain ⟨rfl, nx, fr, p', w', w1, fr', g1, g2, g3, g4, g5, g6⟩ := round_sound (cs := cs) hfol hdr ks e i ha hι
          refine ⟨nx, fr, p', w', w1, cs, fr', ?_, g2, g3, .refl _ _, g4, g5, g6⟩
          simp [Invoked, Deferred.ofValue, invoke, g1]
      | _ => simp at e
    · simp at e
end
end Go.Dee
end
section
/- Regions that draw their order: what an operation hangs on. -/
namespace Go.Dee
theorem getB_pickIn (bs : List (Nat × Blk)) (id : Nat) : ∀ (F : List Nat), getB id (pickIn bs F) = if id ∈ F then getB id bs else none
  | [] => by simp [pickIn, getB]
  | j :: F => by
    have ih := getB_pickIn bs id F
    unfold pickIn
    by_cases hj : j = id
    · subst hj
      cases hb : getB j bs with
      | some b => simp [getB, Nat.beq_refl]
      | none => simp only [ih, hb]; simp
    · cases hb : getB j bs with
      | some b =>
        simp only [getB, beq_false hj, cond_false, ih, List.mem_cons, Ne.symm hj, false_or]
      | none => simp only [ih, List.mem_cons, Ne.symm hj, false_or]
theorem pickIn_congr {bs bs' : List (Nat × Blk)} : ∀ {F : List Nat}, (∀ id ∈ F, getB id bs = getB id bs') → pickIn bs F = pickIn bs' F
  | [], _ => rfl
  | j :: F, h => by
    unfold pickIn
    rw [h j (List.mem_cons_self ..), pickIn_congr fun id hid => h id (List.mem_cons_of_mem _ hid)]
/- the heap's next id does not matter to what is only read -/
section
variable {n1 n2 : Nat} {bs : List (Nat × Blk)} {l1 l2 : List Nat}
theorem cells_next (b g : Nat) : (⟨n1, bs, l1⟩ : Heap).cells b g = (⟨n2, bs, l2⟩ : Heap).cells b g := rfl
theorem map_next (b : Nat) : (⟨n1, bs, l1⟩ : Heap).map b = (⟨n2, bs, l2⟩ : Heap).map b := rfl
theorem freeze_next0 : ∀ (n : Nat), freeze n ⟨n1, bs, l1⟩ = freeze n ⟨n2, bs, l2⟩
  | 0 => rfl
  | n + 1 => by
    have h := freeze_next0 n
    funext d
    unfold freeze
    cases d <;> simp only [h, cells_next (n1 := n1) (n2 := n2) (l1 := l1) (l2 := l2)]
theorem freeze_next (n : Nat) : (∀ d, freeze n ⟨n1, bs, l1⟩ d = freeze n ⟨n2, bs, l2⟩ d) ∧ (∀ l, freezeL n ⟨n1, bs, l1⟩ l = freezeL n ⟨n2, bs, l2⟩ l) :=
  ⟨fun d => by rw [freeze_next0 n], fun l => by unfold freezeL; rw [freeze_next0 n]⟩
theorem loadDV_next (ag : Bool) (sz : Nat) (d : DV) : loadDV ⟨n1, bs, l1⟩ ag sz d = loadDV ⟨n2, bs, l2⟩ ag sz d := by cases d <;> rfl
theorem firstCells_next (sz n : Nat) (d : DV) : firstCells ⟨n1, bs, l1⟩ sz n d = firstCells ⟨n2, bs, l2⟩ sz n d := by
  unfold firstCells
  split <;> rfl
theorem opLen_next (k : LK) (d : DV) : opLen ⟨n1, bs, l1⟩ k d = opLen ⟨n2, bs, l2⟩ k d := by cases k <;> cases d <;> rfl
theorem opLookup_next (t : ETy) (z : FV) (ok : Bool) (d : DV) (k : FV) : opLookup ⟨n1, bs, l1⟩ t z ok d k = opLookup ⟨n2, bs, l2⟩ t z ok d k := by
  unfold opLookup
  congr 1
def QN (h1 h2 : Heap) (f1 f2 : R) : Prop := ∀ v h, f1 = some (v, h) → h = h1 ∧ f2 = some (v, h2)
variable {h1 h2 : Heap}
theorem QN.bind {α : Type} {y : Option α} {f g : α → R} (h : ∀ a, QN h1 h2 (f a) (g a)) : QN h1 h2 (y.bind f) (y.bind g) := by
  intro v hh e
  simp only [Option.bind_eq_some_iff] at e ⊢
  obtain ⟨a, ha, e⟩ := e
  obtain ⟨k1, k2⟩ := h a v hh e
  exact ⟨k1, a, ha, k2⟩
theorem QN.chk {b : Bool} {f g : R} (h : QN h1 h2 f g) : QN h1 h2 (Dee.chk b f) (Dee.chk b g) := by
  intro v hh e
  obtain ⟨hb, e⟩ := chk_some e
  subst hb
  exact h v hh e
theorem QN.keep (y : Option DV) : QN h1 h2 (Dee.keep h1 y) (Dee.keep h2 y) := by
  intro v hh e
  simp only [Dee.keep, Option.bind_eq_some_iff, Option.some.injEq, Prod.mk.injEq] at e
  obtain ⟨v', hv, rfl, rfl⟩ := e
  exact ⟨rfl, by simp [Dee.keep, hv]⟩
theorem QN.some (v : DV) : QN h1 h2 (some (v, h1)) (some (v, h2)) := by
  intro v' hh e
  simp only [Option.some.injEq, Prod.mk.injEq] at e
  obtain ⟨rfl, rfl⟩ := e
  exact ⟨rfl, rfl⟩
theorem QN.none : QN h1 h2 none none := by intro v hh e; simp at e
theorem evalOp_next {ρ : Env} {o : DOp} (hq : o.quiet = true) (hp : o.plain = true) : QN ⟨n1, bs, l1⟩ ⟨n2, bs, l2⟩ (evalOp ρ ⟨n1, bs, l1⟩ o) (evalOp ρ ⟨n2, bs, l2⟩ o) := by
  cases o <;> simp only [DOp.quiet, DOp.plain, reduceCtorEq, Bool.false_eq_true] at hq hp
  all_goals simp only [evalOp]
  all_goals try simp only [loadDV_next (n1 := n1) (n2 := n2) (l1 := l1) (l2 := l2), firstCells_next (n1 := n1) (n2 := n2) (l1 := l1) (l2 := l2), opLen_next (n1 := n1) (n2 := n2) (l1 := l1) (l2 := l2), opLookup_next (n1 := n1) (n2 := n2) (l1 := l1) (l2 := l2)]
  all_goals repeat first
    | exact .keep _
    | exact .some _
    | exact .none
    | (refine .bind ?_; intro _)
    | refine .chk ?_
    | split
end
/- an operation hangs on its operands alone -/
section
variable {ρ ρ' : Env}
theorem getAll_congr : ∀ {l : List Opnd}, (∀ y ∈ l, ρ y = ρ' y) → getAll ρ l = getAll ρ' l
  | [], _ => rfl
  | y :: l, h => by simp only [getAll, h y (List.mem_cons_self ..), getAll_congr fun z hz => h z (List.mem_cons_of_mem _ hz)]
theorem fillParts_congr : ∀ {l : List (Nat × Nat × Opnd)} {cs : List DV}, (∀ y ∈ l.map (·.2.2), ρ y = ρ' y) → fillParts ρ l cs = fillParts ρ' l cs
  | [], _, _ => rfl
  | (off, sz, y) :: l, cs, h => by
    have h1 : ρ y = ρ' y := h y (by simp)
    have h2 : ∀ cs, fillParts ρ l cs = fillParts ρ' l cs := fun cs => fillParts_congr fun z hz => h z (by simp only [List.map_cons]; exact List.mem_cons_of_mem _ hz)
    simp only [fillParts, h1, h2]
theorem optNat_congr {d : Nat} {o : Option Opnd} (h : ∀ y ∈ o.toList, ρ y = ρ' y) : optNat ρ d o = optNat ρ' d o := by
  cases o with
  | none => rfl
  | some y => simp only [optNat, h y (by simp)]
theorem evalOp_congr {o : DOp} {hp : Heap} (h : ∀ y ∈ o.all, ρ y = ρ' y) : evalOp ρ hp o = evalOp ρ' hp o := by
  cases o with
  | build zero parts => simp only [evalOp, fillParts_congr (l := parts) h]
  | buildSlice ag sz len zero parts => simp only [evalOp, fillParts_congr (l := parts) h]
  | mkFunc f a b =>
    have ha : getAll ρ a = getAll ρ' a := getAll_congr fun y hy => h y (List.mem_append_left _ hy)
    have hb : getAll ρ b = getAll ρ' b := getAll_congr fun y hy => h y (List.mem_append_right _ hy)
    simp only [evalOp, ha, hb]
  | minmax mx l => simp only [evalOp, getAll_congr (l := l) h]
  | sliceA ag n sz x lo hi =>
    have h1 : ρ x = ρ' x := h x (by simp [DOp.all])
    have h2 : ∀ d, optNat ρ d lo = optNat ρ' d lo := fun d => optNat_congr fun y hy => h y (by simp [DOp.all] at hy ⊢; simp [hy])
    have h3 : ∀ d, optNat ρ d hi = optNat ρ' d hi := fun d => optNat_congr fun y hy => h y (by simp [DOp.all] at hy ⊢; simp [hy])
    simp only [evalOp, opSliceA, h1, h2, h3]
  | strSlice x lo hi =>
    have h1 : ρ x = ρ' x := h x (by simp [DOp.all])
    have h2 : ∀ d, optNat ρ d lo = optNat ρ' d lo := fun d => optNat_congr fun y hy => h y (by simp [DOp.all] at hy ⊢; simp [hy])
    have h3 : ∀ d, optNat ρ d hi = optNat ρ' d hi := fun d => optNat_congr fun y hy => h y (by simp [DOp.all] at hy ⊢; simp [hy])
    simp only [evalOp, h1, h2, h3]
  | slice sz x lo hi mx =>
    have h1 : ρ x = ρ' x := h x (by simp [DOp.all])
    have h2 : ∀ d, optNat ρ d lo = optNat ρ' d lo := fun d => optNat_congr fun y hy => h y (by simp [DOp.all] at hy ⊢; simp [hy])
    have h3 : ∀ d, optNat ρ d hi = optNat ρ' d hi := fun d => optNat_congr fun y hy => h y (by simp [DOp.all] at hy ⊢; simp [hy])
    have h4 : ∀ d, optNat ρ d mx = optNat ρ' d mx := fun d => optNat_congr fun y hy => h y (by simp [DOp.all] at hy ⊢; simp [hy])
    have h5 : ∀ (d : Nat) (y : Opnd), mx = some y → optNat ρ d (some y) = optNat ρ' d (some y) := by rintro d y rfl; exact h4 d
    simp only [evalOp, opSlice, h1, h2, h3, h4]
    cases mx with
    | none => rfl
    | some y => simp only [h5 _ y rfl]
  | _ => simp only [evalOp, DOp.all, List.mem_cons, List.not_mem_nil, or_false, forall_eq_or_imp, forall_eq] at h ⊢ <;> simp [h]
end
theorem getB_append (id : Nat) : ∀ (a b : List (Nat × Blk)), getB id (a ++ b) = match getB id a with | some x => some x | none => getB id b
  | [], b => by simp [getB]
  | (k, y) :: a, b => by
    simp only [List.cons_append, getB]
    cases hk : Nat.beq k id with
    | true => simp
    | false => simpa using getB_append id a b
theorem getB_keepW (W : List Nat) (lo hi id : Nat) : ∀ (l : List (Nat × Blk)), getB id (keepW W lo hi l) = if inW W lo hi id then getB id l else none
  | [] => by simp [keepW, getB]
  | (k, y) :: l => by
    have ih := getB_keepW W lo hi id l
    unfold keepW
    by_cases hk : k = id
    · subst hk
      cases hw : inW W lo hi k with
      | true => simp [getB, Nat.beq_refl]
      | false => simp [ih, hw]
    · cases hw : inW W lo hi k with
      | true => simp only [cond_true, getB, beq_false hk, cond_false, ih]
      | false => simp only [cond_false, getB, beq_false hk, ih]
theorem getB_dropW (W : List Nat) (lo hi id : Nat) : ∀ (l : List (Nat × Blk)), getB id (dropW W lo hi l) = if inW W lo hi id then none else getB id l
  | [] => by simp [dropW, getB]
  | (k, y) :: l => by
    have ih := getB_dropW W lo hi id l
    unfold dropW
    by_cases hk : k = id
    · subst hk
      cases hw : inW W lo hi k with
      | true => simp [ih, hw]
      | false => simp [getB, Nat.beq_refl]
    · cases hw : inW W lo hi k with
      | true => simp only [cond_true, getB, beq_false hk, cond_false, ih]
      | false => simp only [cond_false, getB, beq_false hk, ih]
end Go.Dee
end
section
/- A run on a part of the heap. -/
namespace Go.Dee
section
variable {x : Cx} {p q p' : Pl} {h h' hF hm : Heap} {w w' : World} {N : Nat}
theorem merge_get {lo : Nat} {id : Nat} : (mergeAt lo h h').get id = if inW h'.log lo h'.next id then h'.get id else h.get id := by
  simp only [Heap.get, mergeAt, getB_append, getB_keepW, getB_dropW]
  cases inW h'.log lo h'.next id with
  | true => simp; cases getB id h'.bs <;> rfl
  | false => simp
theorem part_inv (i : Inv x p h w) (hn : h.next ≤ hF.next) (hg : ∀ id b, hF.get id = some b → h.get id = some b) : Inv x p hF w := by
  refine ⟨i.M, i.K, fun id b hb => i.B id b (hg id b hb), ?_, fun id g y hy => Nat.lt_of_lt_of_le (i.nx id g y hy) hn, i.dom, i.G⟩
  rintro id id' b ⟨bl, hb, ho⟩ ⟨bl', hb', ho'⟩
  exact i.sep id id' b ⟨bl, hg id bl hb, ho⟩ ⟨bl', hg id' bl' hb', ho'⟩
theorem part_owns (hg : ∀ id b, hF.get id = some b → h.get id = some b) {id b : Nat} (o : Owns p hF id b) : Owns p h id b := by
  obtain ⟨bl, hb, ho⟩ := o; exact ⟨bl, hg id bl hb, ho⟩
theorem inW_iff {W : List Nat} {lo hi id : Nat} : inW W lo hi id = true ↔ id ∈ W ∨ (lo ≤ id ∧ id < hi) := by
  unfold inW
  simp only [Bool.or_eq_true, Bool.and_eq_true, elemN_mem]
  constructor
  · rintro (h | ⟨h1, h2⟩)
    · exact .inl h
    · exact .inr ⟨Nat.le_of_ble_eq_true h1, Nat.lt_of_succ_le (Nat.le_of_ble_eq_true h2)⟩
  · rintro (h | ⟨h1, h2⟩)
    · exact .inl h
    · exact .inr ⟨Nat.ble_eq_true_of_le h1, Nat.ble_eq_true_of_le h2⟩
/- what was done on a part of the heap, on all of it -/
theorem Post.frame (i : Inv x p h w) (hn : hF.next = h.next) (hg : ∀ id b, hF.get id = some b → h.get id = some b) (po : Post x p hF w p' h' w')
    (m1 : ∀ id, hm.get id = if inW h'.log h.next h'.next id then h'.get id else h.get id) (m2 : hm.next = h'.next) (m3 : ∀ n, n ∈ h.log ∨ n ∈ h'.log → n ∈ hm.log) : Post x p h w p' hm w' := by
  have hlog : ∀ id b blk, h.get id = some blk → OwnsB p id blk b → inW h'.log h.next h'.next id = false → ∀ id' ∈ h'.log, ¬ Owns p hF id' b := by
    intro id b blk hb ho hw id' hid' ho'
    have := i.sep id id' b ⟨blk, hb, ho⟩ (part_owns hg ho')
    subst this
    rw [inW_iff.2 (.inl hid')] at hw; simp at hw
  have hback : ∀ id b, inW h'.log h.next h'.next id = false → Owns p' hm id b → Owns p h id b := by
    rintro id b hw ⟨blk, hb, ho⟩
    rw [m1, hw] at hb
    exact ⟨blk, hb, ho.back po.ext (i.B id blk hb)⟩
  have hin : ∀ id b, inW h'.log h.next h'.next id = true → Owns p' hm id b → Owns p' h' id b := by
    rintro id b hw ⟨blk, hb, ho⟩
    rw [m1, hw] at hb
    exact ⟨blk, hb, ho⟩
  have hmix : ∀ id id' b, inW h'.log h.next h'.next id = true → inW h'.log h.next h'.next id' = false → Owns p' hm id b → Owns p' hm id' b → False := by
    intro id id' b h1 h2 o1 o2
    have o2 := hback id' b h2 o2
    have := i.sep id id' b (part_owns hg (po.own id b (hin id b h1 o1) (i.lt o2))) o2
    subst this
    rw [h1] at h2; simp at h2
  refine ⟨⟨po.inv.M, po.inv.K, ?_, ?_, ?_, po.inv.dom, po.inv.G⟩, po.ext, ?_, fun n hn => m3 n (.inl hn), ?_, ?_, po.size, ?_, ?_, po.env⟩
  · intro id blk hb
    rw [m1] at hb
    cases hw : inW h'.log h.next h'.next id with
    | true => rw [hw] at hb; exact po.inv.B id blk hb
    | false =>
      rw [hw] at hb
      refine (i.B id blk hb).keep po.ext (fun k ho => po.mod k (i.lt ⟨blk, hb, ho⟩) (hlog id k blk hb ho hw)) (fun k ho a ha => ?_) (fun g hg' => ?_)
      · cases hm' : p'.M a with
        | none => rfl
        | some v =>
          rcases po.mnew a v hm' with h1 | h1 | ⟨id', h1, h2⟩
          · rw [i.ownsM ⟨blk, hb, ho⟩ a ha] at h1; simp at h1
          · have := i.lt ⟨blk, hb, ho⟩; omega
          · rw [ha] at h2; exact absurd h2 (hlog id k blk hb ho hw id' h1)
      · cases hι : p'.ι id g with
        | none => rfl
        | some y =>
          have hlt := i.idlt hb
          rcases po.inew id g y hι with h1 | h1 | h1
          · rw [hg'] at h1; simp at h1
          · omega
          · rw [inW_iff.2 (.inl h1)] at hw; simp at hw
  · intro id id' b o1 o2
    cases h1 : inW h'.log h.next h'.next id with
    | true =>
      cases h2 : inW h'.log h.next h'.next id' with
      | true => exact po.inv.sep id id' b (hin id b h1 o1) (hin id' b h2 o2)
      | false => exact (hmix id id' b h1 h2 o1 o2).elim
    | false =>
      cases h2 : inW h'.log h.next h'.next id' with
      | true => exact (hmix id' id b h2 h1 o2 o1).elim
      | false => exact i.sep id id' b (hback id b h1 o1) (hback id' b h2 o2)
  · intro id g y hy; rw [m2]; exact po.inv.nx id g y hy
  · rw [m2, ← hn]; exact po.next
  · intro b hb hno
    exact po.mod b hb fun id hid ho => hno id (m3 id (.inr hid)) (part_owns hg ho)
  · intro id b o hb
    cases h1 : inW h'.log h.next h'.next id with
    | true => exact part_owns hg (po.own id b (hin id b h1 o) hb)
    | false => exact hback id b h1 o
  · intro a v hv
    rcases po.mnew a v hv with h1 | h1 | ⟨id', h1, h2⟩
    · exact .inl h1
    · exact .inr (.inl h1)
    · exact .inr (.inr ⟨id', m3 id' (.inr h1), part_owns hg h2⟩)
  · intro id g y hy
    rcases po.inew id g y hy with h1 | h1 | h1
    · exact .inl h1
    · exact .inr (.inl (by omega))
    · exact .inr (.inr (m3 id (.inr h1)))
/- as Post, but what is new may lie from N on -/
structure PostN (N : Nat) (x : Cx) (p : Pl) (h : Heap) (w : World) (p' : Pl) (h' : Heap) (w' : World) : Prop where
  inv : Inv x p' h' w'
  ext : Ext p p'
  next : h.next ≤ h'.next
  log : ∀ n ∈ h.log, n ∈ h'.log
  mod : ∀ b, b < w.heap.size → (∀ id ∈ h'.log, ¬ Owns p h id b) → w'.heap[b]? = w.heap[b]?
  own : ∀ id b, Owns p' h' id b → b < w.heap.size → Owns p h id b
  size : w.heap.size ≤ w'.heap.size
  mnew : ∀ a v, p'.M a = some v → p.M a = some v ∨ w.heap.size ≤ a.block ∨ ∃ id ∈ h'.log, Owns p h id a.block
  inew : ∀ id g y, p'.ι id g = some y → p.ι id g = some y ∨ N ≤ id ∨ id ∈ h'.log
  env : w'.os = w.os ∧ w'.output = w.output ∧ w'.tape = w.tape
theorem Post.toN (po : Post x p h w p' h' w') (hN : N ≤ h.next) : PostN N x p h w p' h' w' :=
  ⟨po.inv, po.ext, po.next, po.log, po.mod, po.own, po.size, po.mnew, fun j g y hy => (po.inew j g y hy).imp id (Or.imp (Nat.le_trans hN) id), po.env⟩
theorem Post.transN {r : Pl} {h1 h2 : Heap} {w1 w2 : World} (a : Post x p h w q h1 w1) (b : PostN h.next x q h1 w1 r h2 w2) : Post x p h w r h2 w2 := by
  refine ⟨b.inv, a.ext.trans b.ext, Nat.le_trans a.next b.next, fun n hn => b.log n (a.log n hn), ?_, ?_, Nat.le_trans a.size b.size, ?_, ?_, ?_⟩
  · intro k hk hno
    have e1 := a.mod k hk (fun id hid => hno id (b.log id hid))
    rw [← e1]
    exact b.mod k (Nat.lt_of_lt_of_le hk a.size) (fun id hid ho => hno id hid (a.own id k ho hk))
  · intro id k ho hk
    exact a.own id k (b.own id k ho (Nat.lt_of_lt_of_le hk a.size)) hk
  · intro ad v hv
    rcases b.mnew ad v hv with h | h | ⟨id, hid, h⟩
    · rcases a.mnew ad v h with h | h | ⟨id, hid, h⟩
      · exact .inl h
      · exact .inr (.inl h)
      · exact .inr (.inr ⟨id, b.log id hid, h⟩)
    · exact .inr (.inl (Nat.le_trans a.size h))
    · by_cases hb : ad.block < w.heap.size
      · exact .inr (.inr ⟨id, hid, a.own id _ h hb⟩)
      · exact .inr (.inl (by omega))
  · intro id g y hy
    rcases b.inew id g y hy with k | k | k
    · rcases a.inew id g y k with k | k | k
      · exact .inl k
      · exact .inr (.inl k)
      · exact .inr (.inr (b.log id k))
    · exact .inr (.inl k)
    · exact .inr (.inr k)
  · obtain ⟨e1, e2, e3⟩ := a.env
    obtain ⟨f1, f2, f3⟩ := b.env
    exact ⟨f1.trans e1, f2.trans e2, f3.trans e3⟩
/- a heap that says the same -/
theorem Post.like {h2 : Heap} (po : Post x p h w p' h' w') (hg : ∀ id, h2.get id = h'.get id) (hn : h2.next = h'.next) (hl : ∀ n ∈ h'.log, n ∈ h2.log) : Post x p h w p' h2 w' := by
  have hown : ∀ {id b}, Owns p' h2 id b → Owns p' h' id b := by
    rintro id b ⟨blk, hb, ho⟩; rw [hg] at hb; exact ⟨blk, hb, ho⟩
  refine ⟨⟨po.inv.M, po.inv.K, fun id blk hb => po.inv.B id blk (by rw [← hg]; exact hb), fun id id' b o1 o2 => po.inv.sep id id' b (hown o1) (hown o2), fun id g y hy => by rw [hn]; exact po.inv.nx id g y hy, po.inv.dom, po.inv.G⟩,
    po.ext, by rw [hn]; exact po.next, fun n h => hl n (po.log n h), fun b hb hno => po.mod b hb fun id hid => hno id (hl id hid), fun id b o hb => po.own id b (hown o) hb, po.size, ?_, ?_, po.env⟩
  · intro a v hv
    rcases po.mnew a v hv with h1 | h1 | ⟨id, h1, h2⟩
    · exact .inl h1
    · exact .inr (.inl h1)
    · exact .inr (.inr ⟨id, hl id h1, h2⟩)
  · intro j g y hy
    exact (po.inew j g y hy).imp id (Or.imp id (hl j))
/- the block m under another name -/
def Pl.mv (p : Pl) (m r : Nat) : Pl := ⟨p.M, p.K, fun i g => if i = r then p.ι m g else if i = m then none else p.ι i g⟩
mutual
theorem DRel.mv {m r : Nat} (hr : ∀ g, p.ι r g = none) : ∀ {d : DV} {v : Value}, below m d = true → DRel p d v → DRel (p.mv m r) d v
  | .f _, _, _, h => by cases h with | f h => exact .f h
  | .ptr b g off, _, hb, h => by
    cases h with | ptr blk base h =>
    refine .ptr blk base ?_
    have hb := Nat.le_of_ble_eq_true hb
    have h1 : b ≠ r := fun e => by subst e; rw [hr] at h; simp at h
    have h2 : b ≠ m := by omega
    simp [Pl.mv, h1, h2, h]
  | .slice ag sz b g off len cap, _, hb, h => by
    cases h with | slice blk base o c n h hk hl ho hcap =>
    refine .slice blk base o c n ?_ hk hl ho hcap
    have hb := Nat.le_of_ble_eq_true hb
    have h1 : b ≠ r := fun e => by subst e; rw [hr] at h; simp at h
    have h2 : b ≠ m := by omega
    simp [Pl.mv, h1, h2, h]
  | .map b, _, hb, h => by
    cases h with | map blk h =>
    refine .map blk ?_
    have hb := Nat.le_of_ble_eq_true hb
    have h1 : b ≠ r := fun e => by subst e; rw [hr] at h; simp at h
    have h2 : b ≠ m := by omega
    simp [Pl.mv, h1, h2, h]
  | .yield b, _, hb, h => by
    cases h with | yield blk h =>
    refine .yield blk ?_
    have hb := Nat.le_of_ble_eq_true hb
    have h1 : b ≠ r := fun e => by subst e; rw [hr] at h; simp at h
    have h2 : b ≠ m := by omega
    simp [Pl.mv, h1, h2, h]
  | .func f a c, _, hb, h => by
    cases h with | func as bs hal hbl h1 h2 =>
    simp only [below, Bool.and_eq_true] at hb
    have e1 := CD.mv hr (l := a) (vs := as) hb.1 ⟨hal, h1⟩
    have e2 := CD.mv hr (l := c) (vs := bs) hb.2 ⟨hbl, h2⟩
    exact .func as bs e1.1 e2.1 e1.2 e2.2
  | .agg l, _, hb, h => by
    cases h with | agg vs hl h1 =>
    have e1 := CD.mv hr (l := l) (vs := vs) hb ⟨hl, h1⟩
    exact .agg vs e1.1 e1.2
  | .tuple l, _, hb, h => by
    cases h with | tuple vs hl h1 =>
    have e1 := CD.mv hr (l := l) (vs := vs) hb ⟨hl, h1⟩
    exact .tuple vs e1.1 e1.2
theorem CD.mv {m r : Nat} (hr : ∀ g, p.ι r g = none) : ∀ {l : List DV} {vs : List Value}, belowL m l = true → CD p l vs → CD (p.mv m r) l vs
  | [], _, _, h => by rw [h.nil_left]; exact .nil
  | d :: l, _, hb, h => by
    obtain ⟨v, t, rfl, h1, h2⟩ := h.cons_left
    simp only [belowL, Bool.and_eq_true] at hb
    exact .cons (DRel.mv hr hb.1 h1) (CD.mv hr hb.2 h2)
end
theorem Post.moved {m r : Nat} {blk : Blk} (i : Inv x p h w) (hnx : h.next = m) (hr : r < m) (hfree : ∀ g, p.ι r g = none) (hN : N ≤ r) (po : Post x p ⟨m, [], []⟩ w p' ⟨m + 1, [(m, blk)], []⟩ w')
    (hb : (∃ cs, blk = .cells 0 cs ∧ belowL m cs = true) ∨ blk = .map [] 0) (m1 : ∀ id, hm.get id = if id = r then some blk else h.get id) (m2 : hm.next = m) (m3 : ∀ n ∈ h.log, n ∈ hm.log) : PostN N x p h w (p'.mv m r) hm w' ∧ ∀ id g y, (p'.mv m r).ι id g = some y → p.ι id g = some y ∨ id = r := by
  have hfree' : ∀ g, p'.ι r g = none := by
    intro g
    cases e : p'.ι r g with
    | none => rfl
    | some y =>
      rcases po.inew r g y e with h1 | h1 | h1
      · rw [hfree] at h1; simp at h1
      · exact absurd h1 (by show ¬ m ≤ r; omega)
      · simp at h1
  have hlt : ∀ id g y, p.ι id g = some y → id < m ∧ id ≠ r := by
    intro id g y hy
    refine ⟨by rw [← hnx]; exact i.nx id g y hy, fun e => ?_⟩
    subst e; rw [hfree] at hy; simp at hy
  have hgm : (⟨m + 1, [(m, blk)], []⟩ : Heap).get m = some blk := by simp [Heap.get, getB, Nat.beq_refl]
  have hext : Ext p (p'.mv m r) := by
    refine ⟨po.ext.M, po.ext.K, fun id g y hy => ?_⟩
    obtain ⟨h1, h2⟩ := hlt id g y hy
    have h3 : id ≠ m := by omega
    simpa [Pl.mv, h2, h3] using po.ext.ι id g y hy
  have hback : ∀ id b, id ≠ r → Owns (p'.mv m r) hm id b → Owns p h id b := by
    rintro id b hid ⟨bl, h1, h2⟩
    rw [m1, if_neg hid] at h1
    exact ⟨bl, h1, h2.back hext (i.B id bl h1)⟩
  have hown : ∀ b, Owns (p'.mv m r) hm r b → w.heap.size ≤ b := by
    rintro b ⟨bl, h1, h2⟩
    rw [m1, if_pos rfl] at h1; simp at h1; subst h1
    have ho : Owns p' ⟨m + 1, [(m, blk)], []⟩ m b := by
      refine ⟨blk, hgm, ?_⟩
      rcases hb with ⟨cs, rfl, _⟩ | rfl
      · obtain ⟨base, h3⟩ := h2; exact ⟨base, by simpa [Pl.mv] using h3⟩
      · have h2 : (p'.mv m r).ι r 0 = some (b, 0) := h2
        show p'.ι m 0 = some (b, 0)
        simpa [Pl.mv] using h2
    rcases Nat.lt_or_ge b w.heap.size with hlt | hge
    · obtain ⟨bl, h3, _⟩ := po.own m b ho hlt
      simp [Heap.get, getB] at h3
    · exact hge
  have hnew : ∀ id g y, (p'.mv m r).ι id g = some y → p.ι id g = some y ∨ id = r := by
    intro id g y hy
    simp only [Pl.mv] at hy
    split at hy
    · exact .inr (by assumption)
    · split at hy
      · simp at hy
      · rename_i h1 h2
        rcases po.inew id g y hy with k | k | k
        · exact .inl k
        · have : id < m + 1 := po.inv.nx id g y hy
          exact absurd k (by show ¬ m ≤ id; omega)
        · simp at k
  refine ⟨⟨⟨po.inv.M, po.inv.K, ?_, ?_, ?_, ?_, po.inv.G⟩, hext, by omega, m3, fun b hb' _ => po.mod b hb' (fun id hid => by simp at hid), ?_, po.size, ?_, ?_, po.env⟩, hnew⟩
  · intro id bl hbl
    rw [m1] at hbl
    by_cases hid : id = r
    · subst hid
      rw [if_pos rfl] at hbl; simp at hbl; subst hbl
      have br := po.inv.B m blk hgm
      rcases hb with ⟨cs, rfl, hcs⟩ | rfl
      · obtain ⟨b, base, e, arr, h1, h2, h3, h4, h5, h6, h7⟩ := br
        exact ⟨b, base, e, arr, by simpa [Pl.mv] using h1, h2, h3, h4, CD.mv hfree' hcs h5, h6, fun g' hg => by simpa [Pl.mv] using h7 g' hg⟩
      · obtain ⟨b, arr, h1, h2, h3, h4, h5⟩ := br
        have := h3.nil_left
        exact ⟨b, arr, by simpa [Pl.mv] using h1, h2, by rw [this]; exact .nil, fun g' hg => by simpa [Pl.mv] using h4 g' hg, h5⟩
    · rw [if_neg hid] at hbl
      refine (i.B id bl hbl).keep hext (fun k ho => po.mod k (i.lt ⟨bl, hbl, ho⟩) (fun id hid => by simp at hid)) (fun k ho a ha => ?_) (fun g hg => ?_)
      · cases hm' : p'.M a with
        | none => exact hm'
        | some v =>
          rcases po.mnew a v hm' with h1 | h1 | ⟨id', h1, _⟩
          · rw [i.ownsM ⟨bl, hbl, ho⟩ a ha] at h1; simp at h1
          · have := i.lt ⟨bl, hbl, ho⟩; omega
          · simp at h1
      · have hlt' := i.idlt hbl
        have h3 : id ≠ m := by omega
        simp only [Pl.mv, if_neg hid, if_neg h3]
        cases hι : p'.ι id g with
        | none => rfl
        | some y =>
          rcases po.inew id g y hι with h1 | h1 | h1
          · rw [hg] at h1; simp at h1
          · exact absurd h1 (by show ¬ m ≤ id; omega)
          · simp at h1
  · intro id id' b o1 o2
    by_cases h1 : id = r
    · by_cases h2 : id' = r
      · rw [h1, h2]
      · have := i.lt (hback id' b h2 o2); rw [h1] at o1; have := hown b o1; omega
    · by_cases h2 : id' = r
      · have := i.lt (hback id b h1 o1); rw [h2] at o2; have := hown b o2; omega
      · exact i.sep id id' b (hback id b h1 o1) (hback id' b h2 o2)
  · intro id g y hy
    rw [m2]
    simp only [Pl.mv] at hy
    split at hy
    · omega
    · split at hy
      · simp at hy
      · have : id < m + 1 := po.inv.nx id g y hy
        omega
  · intro id g b base hy
    simp only [Pl.mv] at hy
    split at hy
    · exact po.inv.dom _ _ _ _ hy
    · split at hy
      · simp at hy
      · exact po.inv.dom _ _ _ _ hy
  · intro id b o hb'
    by_cases h1 : id = r
    · rw [h1] at o; have := hown b o; omega
    · exact hback id b h1 o
  · intro a v hv
    rcases po.mnew a v hv with h1 | h1 | ⟨id', h1, _⟩
    · exact .inl h1
    · exact .inr (.inl h1)
    · simp at h1
  · intro id g y hy
    rcases hnew id g y hy with h1 | h1
    · exact .inl h1
    · exact .inr (.inl (by omega))
end
end Go.Dee
end
section
/- An operation in another state; the trace of a region that draws. -/
namespace Go.Dee
theorem Pos.beq_iff : ∀ {p q : Pos}, Pos.beq p q = true ↔ p = q
  | .h, .h => by simp [Pos.beq]
  | .h, .o _ | .h, .i _ | .o _, .h | .i _, .h | .o _, .i _ | .i _, .o _ => by simp [Pos.beq]
  | .o p, .o q => by simp [Pos.beq, Pos.beq_iff (p := p) (q := q)]
  | .i p, .i q => by simp [Pos.beq, Pos.beq_iff (p := p) (q := q)]
theorem posIn_iff {p : Pos} : ∀ {l : List Pos}, posIn p l = true ↔ p ∈ l
  | [] => by simp [posIn]
  | q :: l => by
    unfold posIn
    cases h : Pos.beq p q with
    | true => have := Pos.beq_iff.1 h; subst this; simp
    | false =>
      have : p ≠ q := fun e => by rw [Pos.beq_iff.2 e] at h; simp at h
      simp [this, posIn_iff (l := l)]
theorem slotsApart_spec {a b : DOper} (h : slotsApart a b = true) : (∀ d, a.dst = some d → d ∉ b.reads ∧ b.dst ≠ some d) ∧ (∀ d, b.dst = some d → d ∉ a.reads ∧ a.dst ≠ some d) := by
  unfold slotsApart at h
  simp only [Bool.and_eq_true] at h
  obtain ⟨h1, h2⟩ := h
  have key : ∀ d, a.dst = some d → d ∉ b.reads ∧ b.dst ≠ some d := by
    intro d hd
    rw [hd] at h1
    simp only [Bool.and_eq_true, Bool.not_eq_true'] at h1
    refine ⟨fun hm => by rw [posIn_iff.2 hm] at h1; simp at h1, fun e => ?_⟩
    rw [e] at h1
    have := h1.2
    simp [Pos.beq_iff.2 (rfl : d = d)] at this
  refine ⟨key, fun d hd => ⟨fun hm => ?_, fun e => (key d e).2 hd⟩⟩
  rw [hd] at h2
  simp only [Bool.not_eq_true'] at h2
  rw [posIn_iff.2 hm] at h2; simp at h2
def DOp.isRec : DOp → Bool
  | .recover => true
  | _ => false
section
variable {k : CallK} {o : DOp} {tm tm2 : Tm} {defs defs2 : List Def} {rc rc2 : Rc} {hp : Heap} {out : Out} {v : DV} {s' : St}
theorem exec_like (ha : o.allowed = true) (hev : ∀ y ∈ o.all, ev tm y = ev tm2 y) (hrc : o.isRec = true → rc2 = rc) (he : Dee.execOp k o ⟨tm, defs, rc, hp⟩ = some (out, v, s')) :
    s'.tm = tm ∧ s'.defs = defs ∧ (o.isRec = false → s'.rc = rc) ∧ Dee.execOp k o ⟨tm2, defs2, rc2, hp⟩ = some (out, v, ⟨tm2, defs2, bif o.isRec then s'.rc else rc2, s'.hp⟩) := by
  have plain : o.plain = true → s'.tm = tm ∧ s'.defs = defs ∧ (o.isRec = false → s'.rc = rc) ∧ Dee.execOp k o ⟨tm2, defs2, rc2, hp⟩ = some (out, v, ⟨tm2, defs2, bif o.isRec then s'.rc else rc2, s'.hp⟩) := by
    intro hpl
    have hr : o.isRec = false := by cases o <;> first | rfl | simp [DOp.plain] at hpl
    have e1 : ∀ s : St, Dee.execOp k o s = (evalOp (ev s.tm) s.hp o).bind (fun (v, h) => some (.normal, v, s.heap h)) := by
      intro s; unfold Dee.execOp; cases o <;> first | rfl | simp [DOp.plain] at hpl
    rw [e1] at he ⊢
    simp only [Option.bind_eq_some_iff, Option.some.injEq, Prod.mk.injEq] at he
    obtain ⟨⟨v1, h1⟩, hev1, rfl, rfl, rfl⟩ := he
    have e2 := evalOp_congr (ρ := ev tm) (ρ' := ev tm2) (hp := hp) hev
    simp only at hev1 ⊢
    rw [e2] at hev1
    exact ⟨rfl, rfl, fun _ => rfl, by simp [hev1, hr, St.heap]⟩
  cases o with
  | call m f args =>
    have e1 : ev tm f = ev tm2 f := hev f (by simp [DOp.all])
    have e2 : getAll (ev tm) args = getAll (ev tm2) args := getAll_congr fun y hy => hev y (by simp [DOp.all, hy])
    simp only [Dee.execOp, Option.bind_eq_some_iff] at he ⊢
    obtain ⟨fv, hfv, vs, hvs, ⟨co, h1⟩, hcm, he⟩ := he
    cases co with
    | ret z =>
      simp only [Option.some.injEq, Prod.mk.injEq] at he
      obtain ⟨rfl, rfl, rfl⟩ := he
      exact ⟨rfl, rfl, fun _ => rfl, fv, by rw [← e1]; exact hfv, vs, by rw [← e2]; exact hvs, ⟨_, h1⟩, hcm, rfl⟩
    | panic z =>
      simp only [Option.some.injEq, Prod.mk.injEq] at he
      obtain ⟨rfl, rfl, rfl⟩ := he
      exact ⟨rfl, rfl, fun _ => rfl, fv, by rw [← e1]; exact hfv, vs, by rw [← e2]; exact hvs, ⟨_, h1⟩, hcm, rfl⟩
  | recover =>
    have := hrc rfl; subst this
    simp only [Dee.execOp] at he ⊢
    cases rc2 <;> simp only [Option.some.injEq, Prod.mk.injEq, reduceCtorEq] at he <;> obtain ⟨rfl, rfl, rfl⟩ := he <;> simp [DOp.isRec]
  | defer f args => simp [DOp.allowed] at ha
  | panic x => simp [DOp.allowed] at ha
  | _ => exact plain rfl
theorem reach_next {n1 n2 : Nat} {bs : List (Nat × Blk)} {l1 l2 : List Nat} : ∀ (n : Nat) (todo acc : List Nat), reach ⟨n1, bs, l1⟩ n todo acc = reach ⟨n2, bs, l2⟩ n todo acc
  | 0, _, _ => rfl
  | n + 1, todo, acc => by
    cases todo with
    | nil => rfl
    | cons id todo =>
      have : ∀ l a, reach ⟨n1, bs, l1⟩ n l a = reach ⟨n2, bs, l2⟩ n l a := fun l a => reach_next n l a
      simp only [reach, this]
      rfl
theorem unionLog_nil : ∀ {F : List Nat}, unionLog [] F = [] → F = []
  | [], _ => rfl
  | n :: l, h => by
    simp only [unionLog] at h
    have : n ∈ addLog n (unionLog [] l) := mem_addLog.2 (.inl rfl)
    rw [h] at this; simp at this
theorem dropIn_nil : ∀ (bs : List (Nat × Blk)), dropIn [] bs = bs
  | [] => rfl
  | (k, b) :: l => by simp [dropIn, elemN, dropIn_nil l]
theorem quiet_next {n1 n2 : Nat} {bs : List (Nat × Blk)} (hq : o.quiet = true) (he : Dee.execOp k o ⟨tm, defs, rc, ⟨n1, bs, []⟩⟩ = some (out, v, s')) (hl : s'.hp.log = []) :
    s'.hp = ⟨n1, bs, []⟩ ∧ Dee.execOp k o ⟨tm, defs, rc, ⟨n2, bs, []⟩⟩ = some (out, v, s'.heap ⟨n2, bs, []⟩) := by
  have plain : o.plain = true → s'.hp = ⟨n1, bs, []⟩ ∧ Dee.execOp k o ⟨tm, defs, rc, ⟨n2, bs, []⟩⟩ = some (out, v, s'.heap ⟨n2, bs, []⟩) := by
    intro hpl
    have e1 : ∀ s : St, Dee.execOp k o s = (evalOp (ev s.tm) s.hp o).bind (fun (v, h) => some (.normal, v, s.heap h)) := by
      intro s; unfold Dee.execOp; cases o <;> first | rfl | simp [DOp.plain] at hpl
    rw [e1] at he ⊢
    simp only [Option.bind_eq_some_iff, Option.some.injEq, Prod.mk.injEq] at he
    obtain ⟨⟨v1, h1⟩, hev1, rfl, rfl, rfl⟩ := he
    obtain ⟨rfl, h2⟩ := evalOp_next (n1 := n1) (n2 := n2) (bs := bs) (l1 := []) (l2 := []) hq hpl v1 h1 hev1
    exact ⟨rfl, by simp [h2, St.heap]⟩
  cases o with
  | call m f args =>
    cases m with
    | full => simp [DOp.quiet] at hq
    | val =>
      have hcall : ∀ {fv : DV} {vs : List DV} {co : COut} {h1 : Heap}, callMode k .val fv vs ⟨n1, bs, []⟩ = some (co, h1) → h1.log = [] → h1 = ⟨n1, bs, []⟩ ∧ callMode k .val fv vs ⟨n2, bs, []⟩ = some (co, ⟨n2, bs, []⟩) := by
        intro fv vs co h1 e hl
        simp only [callMode, Option.bind_eq_some_iff] at e ⊢
        obtain ⟨ff, hff, e⟩ := e
        cases hal : allF vs with
        | some fs =>
          rw [hal] at e
          simp only [Option.bind_eq_some_iff] at e
          obtain ⟨⟨o1, rc1, h2⟩, hk, e⟩ := e
          cases o1 with
          | ret z =>
            simp only [Option.bind_eq_some_iff, Option.some.injEq, Prod.mk.injEq] at e
            obtain ⟨fz, hfz, rfl, rfl⟩ := e
            exact ⟨rfl, ff, hff, by simp [hk, hfz]⟩
          | panic z =>
            simp only [Option.some.injEq, Prod.mk.injEq] at e
            obtain ⟨rfl, rfl⟩ := e
            exact ⟨rfl, ff, hff, by simp [hk]⟩
        | none =>
          rw [hal] at e
          simp only [Option.bind_eq_some_iff] at e
          obtain ⟨fs, hfs, ⟨o1, rc1, h2⟩, hk, e⟩ := e
          have hfs2 : freezeL freezeDepth ⟨n2, bs, []⟩ vs = some fs := by rw [← (freeze_next (n1 := n1) (n2 := n2) (bs := bs) (l1 := []) (l2 := []) freezeDepth).2]; exact hfs
          cases o1 with
          | ret z =>
            simp only [Option.bind_eq_some_iff] at e
            obtain ⟨fz, hfz, e⟩ := e
            cases hfl : fz.flat with
            | true =>
              rw [hfl] at e
              simp only [cond_true, Option.some.injEq, Prod.mk.injEq] at e
              obtain ⟨rfl, rfl⟩ := e
              exact ⟨rfl, ff, hff, by simp [hfs2, hk, hfz, hfl]⟩
            | false =>
              rw [hfl] at e
              simp only [cond_false, Option.bind_eq_some_iff, Option.some.injEq, Prod.mk.injEq] at e
              obtain ⟨F, hF, rfl, rfl⟩ := e
              have hF0 : F = [] := unionLog_nil hl
              subst hF0
              have hF2 : reach ⟨n2, bs, []⟩ 2000 (namesL vs) [] = some [] := by rw [← reach_next (n1 := n1) (l1 := [])]; exact hF
              refine ⟨by simp [Heap.give, dropIn_nil, unionLog], ff, hff, ?_⟩
              simp [hfs2, hk, hfz, hfl, hF2, Heap.give, dropIn_nil, unionLog]
          | panic z =>
            obtain ⟨hfl, e⟩ := chk_some e
            simp only [Option.some.injEq, Prod.mk.injEq] at e
            obtain ⟨rfl, rfl⟩ := e
            exact ⟨rfl, ff, hff, by simp [hfs2, hk, hfl, chk]⟩
      simp only [Dee.execOp, Option.bind_eq_some_iff] at he ⊢
      obtain ⟨fv, hfv, vs, hvs, ⟨co, h1⟩, hcm, he⟩ := he
      cases co with
      | ret z =>
        simp only [Option.some.injEq, Prod.mk.injEq] at he
        obtain ⟨rfl, rfl, rfl⟩ := he
        obtain ⟨e1, e2⟩ := hcall hcm hl
        exact ⟨e1, fv, hfv, vs, hvs, ⟨_, _⟩, e2, rfl⟩
      | panic z =>
        simp only [Option.some.injEq, Prod.mk.injEq] at he
        obtain ⟨rfl, rfl, rfl⟩ := he
        obtain ⟨e1, e2⟩ := hcall hcm hl
        exact ⟨e1, fv, hfv, vs, hvs, ⟨_, _⟩, e2, rfl⟩
  | recover => simp [DOp.quiet] at hq
  | defer f args => simp [DOp.quiet] at hq
  | panic x => simp [DOp.quiet] at hq
  | _ => exact plain rfl
end
/- what makes one block -/
inductive MkV : (Nat → DV) → Prop
  | ptr : MkV fun n => .ptr n 0 0
  | slice (ag : Bool) (sz len : Nat) (cap : Option Nat) : MkV fun n => .slice ag sz n 0 0 len cap
  | map : MkV fun n => .map n
theorem belowL_iff {m : Nat} : ∀ {l : List DV}, belowL m l = true ↔ ∀ d ∈ l, below m d = true
  | [] => by simp [belowL]
  | d :: l => by simp [belowL, belowL_iff (l := l)]
theorem below_f (m : Nat) (v : FV) : below m (.f v) = true := by simp [below]
theorem below_cells {m : Nat} {d : DV} (h : below m d = true) : belowL m d.cells = true := by
  cases d with
  | f v => exact belowL_iff.2 fun d hd => by simp only [DV.cells, List.mem_map] at hd; obtain ⟨y, _, rfl⟩ := hd; exact below_f m y
  | agg cs => simpa [below, DV.cells] using h
  | _ => simpa [DV.cells, belowL] using h
theorem belowL_zeros {m : Nat} (z : List FV) : ∀ n, belowL m (zeros z n) = true
  | 0 => rfl
  | n + 1 => belowL_iff.2 fun d hd => by
    simp only [zeros, List.mem_append, List.mem_map] at hd
    rcases hd with ⟨y, _, rfl⟩ | hd
    · exact below_f m y
    · exact belowL_iff.1 (belowL_zeros z n) d hd
theorem belowL_putAt {m off : Nat} {l new r : List DV} (h : putAt l off new = some r) (h1 : belowL m l = true) (h2 : belowL m new = true) : belowL m r = true := by
  obtain ⟨_, rfl⟩ := putAt_some h
  refine belowL_iff.2 fun d hd => ?_
  simp only [List.mem_append] at hd
  rcases hd with hd | hd | hd
  · exact belowL_iff.1 h1 d (List.mem_of_mem_take hd)
  · exact belowL_iff.1 h2 d hd
  · exact belowL_iff.1 h1 d (List.mem_of_mem_drop hd)
theorem belowL_fill {m : Nat} {ρ : Env} : ∀ {ps : List (Nat × Nat × Opnd)} {cs r : List DV}, (∀ y ∈ ps.map (·.2.2), ∀ d, ρ y = some d → below m d = true) → fillParts ρ ps cs = some r → belowL m cs = true → belowL m r = true
  | [], cs, r, _, h, hc => by simp [fillParts] at h; subst h; exact hc
  | (off, sz, y) :: ps, cs, r, hb, h, hc => by
    simp only [fillParts, Option.bind_eq_some_iff] at h
    obtain ⟨v, hv, h⟩ := h
    obtain ⟨_, h⟩ := chk_some h
    simp only [Option.bind_eq_some_iff] at h
    obtain ⟨cs', hp, h⟩ := h
    exact belowL_fill (fun z hz => hb z (by simp only [List.map_cons]; exact List.mem_cons_of_mem _ hz)) h (belowL_putAt hp hc (below_cells (hb y (by simp) v hv)))
theorem makes_shape {ρ : Env} {n m : Nat} {o : DOp} {v : DV} {h1 : Heap} (hm : o.makes = true) (hb : ∀ y ∈ o.all, ∀ d, ρ y = some d → below m d = true) (he : evalOp ρ ⟨n, [], []⟩ o = some (v, h1)) :
    ∃ (blk : Blk) (f : Nat → DV), MkV f ∧ v = f n ∧ h1 = ⟨n + 1, [(n, blk)], []⟩ ∧ ((∃ cs, blk = .cells 0 cs ∧ belowL m cs = true) ∨ blk = .map [] 0) ∧ ∀ n', evalOp ρ ⟨n', [], []⟩ o = some (f n', ⟨n' + 1, [(n', blk)], []⟩) := by
  cases o <;> simp only [DOp.makes, reduceCtorEq, Bool.false_eq_true] at hm
  case alloc zero =>
    simp only [evalOp, Option.some.injEq, Prod.mk.injEq] at he
    obtain ⟨rfl, rfl⟩ := he
    exact ⟨_, _, .ptr, rfl, rfl, .inl ⟨_, rfl, belowL_iff.2 fun d hd => by simp only [List.mem_map] at hd; obtain ⟨y, _, rfl⟩ := hd; exact below_f m y⟩, fun n' => rfl⟩
  case box x =>
    simp only [evalOp, Option.bind_eq_some_iff, Option.some.injEq, Prod.mk.injEq] at he
    obtain ⟨d, hd, rfl, rfl⟩ := he
    exact ⟨_, _, .ptr, rfl, rfl, .inl ⟨_, rfl, below_cells (hb x (by simp [DOp.all]) d hd)⟩, fun n' => by simp [evalOp, hd, Heap.new]⟩
  case buildSlice ag sz len zero parts =>
    simp only [evalOp, Option.bind_eq_some_iff, Option.some.injEq, Prod.mk.injEq] at he
    obtain ⟨cs, hcs, rfl, rfl⟩ := he
    exact ⟨_, _, .slice ag sz len (some len), rfl, rfl, .inl ⟨_, rfl, belowL_fill hb hcs (belowL_zeros _ _)⟩, fun n' => by simp [evalOp, hcs, Heap.new]⟩
  case mkMap =>
    simp only [evalOp, Option.some.injEq, Prod.mk.injEq] at he
    obtain ⟨rfl, rfl⟩ := he
    exact ⟨_, _, .map, rfl, rfl, .inr rfl, fun n' => rfl⟩
  case mkMapR x =>
    simp only [evalOp, Option.bind_eq_some_iff, Option.some.injEq, Prod.mk.injEq] at he
    obtain ⟨d, hd, y, hy, rfl, rfl⟩ := he
    exact ⟨_, _, .map, rfl, rfl, .inr rfl, fun n' => by simp [evalOp, hd, hy, Heap.new]⟩
  case mkSlice ag sz bytes zero l c =>
    simp only [evalOp, Option.bind_eq_some_iff] at he
    obtain ⟨d1, h1, d2, h2, ln, h3, cn, h4, he⟩ := he
    obtain ⟨h5, he⟩ := chk_some he
    simp only [Option.some.injEq, Prod.mk.injEq] at he
    obtain ⟨rfl, rfl⟩ := he
    exact ⟨_, _, .slice ag sz ln (some cn), rfl, rfl, .inl ⟨_, rfl, belowL_zeros _ _⟩, fun n' => by simp [evalOp, h1, h2, h3, h4, h5, chk, Heap.new]⟩
theorem MkV.moved {p : Pl} {m r : Nat} {f : Nat → DV} {y : Value} (hf : MkV f) (h : DRel p (f m) y) : DRel (p.mv m r) (f r) y := by
  cases hf with
  | ptr => cases h with | ptr blk base h => exact .ptr blk base (by simpa [Pl.mv] using h)
  | slice ag sz len cap => cases h with | slice blk base o c n h hk hl ho hcap => exact .slice blk base o c n (by simpa [Pl.mv] using h) hk hl ho hcap
  | map => cases h with | map blk h => exact .map blk (by simpa [Pl.mv] using h)
end Go.Dee
end
section
/- The trace of a region that draws, in the order of the text. -/
namespace Go.Dee
def Rec.wr (r : Rec) (id : Nat) : Prop := inW r.W r.lo r.hi id = true
/- an operation that is wanted, as the text's run does it; s2: the state before its value is put -/
structure RunAt (k : CallK) (B : Nat) (o : DOper) (rid : Nat) (s : St) (F : List Nat) (lo : Nat) (out : Out) (v : DV) (s' s2 : St) (r : Rec) : Prop where
  want : wanted s.tm o.guard = some true
  allowed : o.op.allowed = true
  hlo : lo = bif o.op.makes then rid else s.hp.next
  he : Dee.execOp k o.op (s.heap ⟨lo, bif o.op.makes then [] else pickIn s.hp.bs F, []⟩) = some (out, v, s')
  hr : r = bif o.op.quiet && s'.hp.log.isEmpty then ⟨F, [], 0, 0, false⟩ else ⟨F, s'.hp.log, lo, s'.hp.next, !o.op.makes⟩
  hin : inOr F lo s'.hp.log = true
  s2 : s2 = ⟨s'.tm, s'.defs, s'.rc, bif o.op.quiet && s'.hp.log.isEmpty then s.hp else mergeAt lo s.hp s'.hp⟩
  kept : o.op.makes = true → rid < B
  future : outIn rid B F = true
  B : B ≤ s.hp.next
inductive StepAt (k : CallK) (B : Nat) (o : DOper) (rid : Nat) (s : St) : St → Rec → Prop
  | skip (hw : wanted s.tm o.guard = some false) : StepAt k B o rid s (s.put o.dst Dee.unit) Rec.none
  | run (F : List Nat) (lo : Nat) (v : DV) (s' s2 : St) (r : Rec) (h : RunAt k B o rid s F lo .normal v s' s2 r) : StepAt k B o rid s (s2.put o.dst v) r
theorem put_heap (s : St) (d : Option Pos) (v : DV) : (s.put d v).hp = s.hp := by cases d <;> rfl
theorem put_rc (s : St) (d : Option Pos) (v : DV) : (s.put d v).rc = s.rc := by cases d <;> rfl
theorem put_defs (s : St) (d : Option Pos) (v : DV) : (s.put d v).defs = s.defs := by cases d <;> rfl
theorem put_tm (s : St) (d : Option Pos) (v : DV) (p : Pos) (h : d ≠ some p) : (s.put d v).tm.get p = s.tm.get p := by
  cases d with
  | none => rfl
  | some q => exact Tm.get_set_other _ _ _ _ fun e => h (by rw [e])
theorem put_tm_same (s : St) (v : DV) (p : Pos) : (s.put (some p) v).tm.get p = some v := Tm.get_set_same _ _ _
section
variable {k : CallK} {B rid : Nat} {o : DOper} {s s1 : St} {r : Rec}
theorem makes_plain {o : DOp} (h : o.makes = true) : o.plain = true ∧ o.quiet = false ∧ o.isRec = false := by cases o <;> simp [DOp.makes] at h <;> simp [DOp.plain, DOp.quiet, DOp.isRec]
theorem exec_plain {o : DOp} (h : o.plain = true) (s : St) : Dee.execOp k o s = (evalOp (ev s.tm) s.hp o).bind (fun (v, h) => some (.normal, v, s.heap h)) := by
  unfold Dee.execOp; cases o <;> first | rfl | simp [DOp.plain] at h
theorem quiet_rec {o : DOp} (h : o.quiet = true) : o.isRec = false := by cases o <;> first | rfl | simp [DOp.quiet] at h
variable {F : List Nat} {lo : Nat} {out : Out} {v : DV} {s' s2 : St}
theorem below_big (o : DOp) (ρ : Env) : ∃ m, ∀ y ∈ o.all, ∀ d, ρ y = some d → below m d = true := by
  have one : ∀ d : DV, ∃ m, ∀ m', m ≤ m' → below m' d = true := by
    intro d
    refine DV.rec (motive_1 := fun d => ∃ m, ∀ m', m ≤ m' → below m' d = true) (motive_2 := fun l => ∃ m, ∀ m', m ≤ m' → belowL m' l = true) ?_ ?_ ?_ ?_ ?_ ?_ ?_ ?_ ?_ ?_ d
    · exact fun v => ⟨0, fun m _ => by simp [below]⟩
    · exact fun b g off => ⟨b + 1, fun m h => by simp only [below]; exact Nat.ble_eq_true_of_le h⟩
    · exact fun ag sz b g off len cap => ⟨b + 1, fun m h => by simp only [below]; exact Nat.ble_eq_true_of_le h⟩
    · exact fun b => ⟨b + 1, fun m h => by simp only [below]; exact Nat.ble_eq_true_of_le h⟩
    · rintro f a b ⟨m1, h1⟩ ⟨m2, h2⟩
      exact ⟨max m1 m2, fun m h => by simp only [below, Bool.and_eq_true]; exact ⟨h1 m (by omega), h2 m (by omega)⟩⟩
    · exact fun b => ⟨b + 1, fun m h => by simp only [below]; exact Nat.ble_eq_true_of_le h⟩
    · exact fun l ⟨m, h⟩ => ⟨m, fun m' h' => by simp only [below]; exact h m' h'⟩
    · exact fun l ⟨m, h⟩ => ⟨m, fun m' h' => by simp only [below]; exact h m' h'⟩
    · exact ⟨0, fun m _ => by simp [belowL]⟩
    · rintro d l ⟨m1, h1⟩ ⟨m2, h2⟩
      exact ⟨max m1 m2, fun m h => by simp only [belowL, Bool.and_eq_true]; exact ⟨h1 m (by omega), h2 m (by omega)⟩⟩
  have all : ∀ l : List Opnd, ∃ m, ∀ m', m ≤ m' → ∀ y ∈ l, ∀ d, ρ y = some d → below m' d = true := by
    intro l
    induction l with
    | nil => exact ⟨0, fun _ _ y hy => by simp at hy⟩
    | cons y l ih =>
      obtain ⟨m1, h1⟩ := ih
      cases hy : ρ y with
      | none =>
        refine ⟨m1, fun m' hm z hz d hd => ?_⟩
        rcases List.mem_cons.1 hz with rfl | hz
        · rw [hy] at hd; simp at hd
        · exact h1 m' hm z hz d hd
      | some e =>
        obtain ⟨m2, h2⟩ := one e
        refine ⟨max m1 m2, fun m' hm z hz d hd => ?_⟩
        rcases List.mem_cons.1 hz with rfl | hz
        · rw [hy] at hd; simp at hd; subst hd; exact h2 m' (by omega)
        · exact h1 m' (by omega) z hz d hd
  obtain ⟨m, h⟩ := all o.all
  exact ⟨m, h m (Nat.le_refl _)⟩
theorem RunAt.makes (h : RunAt k B o rid s F lo out v s' s2 r) (hm : o.op.makes = true) : lo = rid ∧ r = ⟨F, [], rid, rid + 1, false⟩ ∧ s'.rc = s.rc ∧ s2.hp.next = s.hp.next ∧ s2.rc = s.rc ∧ out = .normal := by
  obtain ⟨h1, h2, h3⟩ := makes_plain hm
  have hlo : lo = rid := by rw [h.hlo, hm]; rfl
  have he := h.he
  rw [hm, exec_plain h1] at he
  simp only [Option.bind_eq_some_iff, Option.some.injEq, Prod.mk.injEq] at he
  obtain ⟨⟨v1, hp1⟩, he, rfl, rfl, rfl⟩ := he
  obtain ⟨m, hb⟩ := below_big o.op (ev s.tm)
  obtain ⟨blk, f, _, _, rfl, _⟩ := makes_shape (m := m) hm hb he
  have hr := h.hr
  have hs2 := h.s2
  simp only [h2, Bool.false_and, cond_false, hm, Bool.not_true] at hr hs2
  have hlt := h.kept hm
  have hB := h.B
  refine ⟨hlo, by rw [hr, hlo]; rfl, rfl, ?_, by rw [hs2]; rfl, rfl⟩
  rw [hs2]
  show Nat.max s.hp.next (lo + 1) = s.hp.next
  rw [hlo]
  exact Nat.max_eq_left (by omega)
theorem RunAt.quietAt (h : RunAt k B o rid s F lo out v s' s2 r) (hq : (o.op.quiet && s'.hp.log.isEmpty) = true) : r = ⟨F, [], 0, 0, false⟩ ∧ s2 = ⟨s'.tm, s'.defs, s'.rc, s.hp⟩ ∧ s'.rc = s.rc := by
  have hr := h.hr
  have hs2 := h.s2
  rw [hq] at hr hs2
  refine ⟨hr, hs2, ?_⟩
  simp only [Bool.and_eq_true] at hq
  exact (exec_like (tm2 := s.tm) (defs2 := s.defs) (rc2 := s.rc) h.allowed (fun _ _ => rfl) (fun _ => rfl) h.he).2.2.1 (quiet_rec hq.1)
theorem RunAt.loudAt (h : RunAt k B o rid s F lo out v s' s2 r) (hq : (o.op.quiet && s'.hp.log.isEmpty) = false) (hm : o.op.makes = false) : r = ⟨F, s'.hp.log, s.hp.next, s'.hp.next, true⟩ ∧ lo = s.hp.next := by
  have hr := h.hr
  have hlo : lo = s.hp.next := by rw [h.hlo, hm]; rfl
  rw [hq, hm, hlo] at hr
  exact ⟨hr, hlo⟩
theorem RunAt.tmd (h : RunAt k B o rid s F lo out v s' s2 r) : s2.tm = s.tm ∧ s2.defs = s.defs := by
  have := exec_like (tm2 := s.tm) (defs2 := s.defs) (rc2 := s.rc) h.allowed (fun _ _ => rfl) (fun _ => rfl) h.he
  rw [h.s2]; exact ⟨this.1, this.2.1⟩
theorem RunAt.get (h : RunAt k B o rid s F lo out v s' s2 r) (id : Nat) : s2.hp.get id = if inW r.W r.lo r.hi id then s'.hp.get id else s.hp.get id := by
  cases hq : (o.op.quiet && s'.hp.log.isEmpty) with
  | true =>
    obtain ⟨rfl, rfl, _⟩ := h.quietAt hq
    simp [inW, elemN]
  | false =>
    have hr := h.hr
    have hs2 := h.s2
    rw [hq] at hr hs2
    rw [hs2, hr]
    exact merge_get
theorem RunAt.quiet_of (h : RunAt k B o rid s F lo out v s' s2 r) (hl : r.loud = false) : s2.hp.next = s.hp.next ∧ s2.rc = s.rc := by
  cases hm : o.op.makes with
  | true => exact ⟨(h.makes hm).2.2.2.1, (h.makes hm).2.2.2.2.1⟩
  | false =>
    cases hq : (o.op.quiet && s'.hp.log.isEmpty) with
    | true => obtain ⟨_, h2, h3⟩ := h.quietAt hq; rw [h2]; exact ⟨rfl, h3⟩
    | false => obtain ⟨h1, _⟩ := h.loudAt hq hm; rw [h1] at hl; simp at hl
theorem RunAt.next_le (h : RunAt k B o rid s F lo out v s' s2 r) : s.hp.next ≤ s2.hp.next := by
  rw [h.s2]
  cases (o.op.quiet && s'.hp.log.isEmpty) with
  | true => exact Nat.le_refl _
  | false => exact Nat.le_max_left _ _
theorem RunAt.log (h : RunAt k B o rid s F lo out v s' s2 r) : (∀ n ∈ s.hp.log, n ∈ s2.hp.log) ∧ ∀ n ∈ r.W, n ∈ s2.hp.log := by
  have hr := h.hr
  have hs2 := h.s2
  cases hq : (o.op.quiet && s'.hp.log.isEmpty) with
  | true => rw [hq] at hr hs2; rw [hr, hs2]; exact ⟨fun n h => h, fun n h => by simp at h⟩
  | false =>
    rw [hq] at hr hs2
    rw [hr, hs2]
    exact ⟨fun n hn => mem_unionLog.2 (.inl hn), fun n hn => mem_unionLog.2 (.inr hn)⟩
theorem StepAt.tm (h : StepAt k B o rid s s1 r) (p : Pos) (hp : o.dst ≠ some p) : s1.tm.get p = s.tm.get p := by
  cases h with
  | skip hw => exact put_tm _ _ _ _ hp
  | run F lo v s' s2 r h => rw [put_tm _ _ _ _ hp, h.tmd.1]
theorem StepAt.get (h : StepAt k B o rid s s1 r) (id : Nat) (hw : ¬ r.wr id) : s1.hp.get id = s.hp.get id := by
  cases h with
  | skip hw => rw [put_heap]
  | run F lo v s' s2 r h => rw [put_heap, h.get]; exact if_neg hw
theorem StepAt.loud (h : StepAt k B o rid s s1 r) (hl : r.loud = false) : s1.hp.next = s.hp.next ∧ s1.rc = s.rc := by
  cases h with
  | skip hw => rw [put_heap, put_rc]; exact ⟨rfl, rfl⟩
  | run F lo v s' s2 r h => rw [put_heap, put_rc]; exact h.quiet_of hl
theorem StepAt.defs (h : StepAt k B o rid s s1 r) : s1.defs = s.defs := by
  cases h with
  | skip hw => rw [put_defs]
  | run F lo v s' s2 r h => rw [put_defs]; exact h.tmd.2
theorem StepAt.next_le (h : StepAt k B o rid s s1 r) : s.hp.next ≤ s1.hp.next := by
  cases h with
  | skip hw => rw [put_heap]; exact Nat.le_refl _
  | run F lo v s' s2 r h => rw [put_heap]; exact h.next_le
theorem StepAt.log (h : StepAt k B o rid s s1 r) : (∀ n ∈ s.hp.log, n ∈ s1.hp.log) ∧ ∀ n ∈ r.W, n ∈ s1.hp.log := by
  cases h with
  | skip hw => rw [put_heap]; exact ⟨fun n h => h, fun n h => by simp [Rec.none] at h⟩
  | run F lo v s' s2 r h => rw [put_heap]; exact h.log
end
/- THE TRACE: S i: the state before operation i; R i: its record; I i: the id that is kept; c: how many were done -/
structure Trace (k : CallK) (B : Nat) (L : List DOper) (n c : Nat) (S : Nat → St) (R : Nat → Rec) (I : Nat → Nat) : Prop where
  le : n ≤ c
  hc : c ≤ L.length
  step : ∀ i o, n ≤ i → i < c → L[i]? = some o → StepAt k B o (I i) (S i) (S (i + 1)) (R i)
  kept : ∀ i o, n ≤ i → i < c → L[i]? = some o → I (i + 1) = bif o.op.makes then I i + 1 else I i
  apart : ∀ i o, n ≤ i → i < c → L[i]? = some o → ∀ j ∈ o.un, j < i → (R i).apart (R j) = true
def Ends (k : CallK) (B : Nat) (L : List DOper) (c : Nat) (S : Nat → St) (I : Nat → Nat) (out : Out) (s' : St) : Prop :=
  (c = L.length ∧ out = .normal ∧ s' = S c) ∨
  (∃ o pv F lo v s1 r, L[c]? = some o ∧ out = .panic pv ∧ RunAt k B o (I c) (S c) F lo (.panic pv) v s1 s' r ∧ o.un = [] ∧ ∀ i o', c < i → L[i]? = some o' → c ∉ o'.un)
theorem none_apart (r : Rec) : Rec.none.apart r = true := by
  simp [Rec.none, Rec.apart, disjoint, outIn, elemN]
theorem apartAll_spec {r : Rec} {recs : List Rec} {n : Nat} {R : Nat → Rec} (hR : ∀ j, j < n → recs[n - 1 - j]? = some (R j)) : ∀ {un : List Nat}, apartAll r recs n un = true → ∀ j ∈ un, j < n → r.apart (R j) = true
  | [], _, j, hj, _ => by simp at hj
  | i :: un, h, j, hj, hlt => by
    simp only [apartAll, Bool.and_eq_true] at h
    rcases List.mem_cons.1 hj with rfl | hj
    · have := h.1; rw [hR j hlt] at this; exact this
    · exact apartAll_spec hR h.2 j hj hlt
theorem makesN_le : ∀ {l : List DOper}, makesN l = (l.filter fun o => o.op.makes).length
  | [] => rfl
  | o :: l => by simp only [makesN, makesN_le (l := l)]; cases h : o.op.makes <;> simp [h]
theorem drawOps_trace {k : CallK} {B : Nat} {L : List DOper} {out : Out} {s' : St} : ∀ (l pre : List DOper) (rid n : Nat) (recs : List Rec) (s : St) (R0 : Nat → Rec), L = pre ++ l → n = pre.length → (∀ j, j < n → recs[n - 1 - j]? = some (R0 j)) → rid + makesN l = B → B ≤ s.hp.next →
    drawOps k l rid n recs s = some (out, s') → ∃ (c : Nat) (S : Nat → St) (R : Nat → Rec) (I : Nat → Nat), S n = s ∧ I n = rid ∧ (∀ j, j < n → R j = R0 j) ∧ Trace k B L n c S R I ∧ Ends k B L c S I out s'
  | [], pre, rid, n, recs, s, R0, hL, hn, hR, hB, hBn, h => by
    simp only [drawOps, Option.some.injEq, Prod.mk.injEq] at h
    obtain ⟨rfl, rfl⟩ := h
    refine ⟨n, fun _ => s, R0, fun _ => rid, rfl, rfl, fun _ _ => rfl, ⟨Nat.le_refl _, by rw [hL, hn]; simp, ?_, ?_, ?_⟩, .inl ⟨by rw [hL, hn]; simp, rfl, rfl⟩⟩ <;> (intro i o h1 h2; omega)
  | o :: l, pre, rid, n, recs, s, R0, hL, hn, hR, hB, hBn, h => by
    have hLn : L[n]? = some o := by rw [hL, hn]; simp
    have hL' : L = (pre ++ [o]) ++ l := by rw [hL]; simp
    have hn' : n + 1 = (pre ++ [o]).length := by rw [hn]; simp
    have hkept : (bif o.op.makes then rid + 1 else rid) + makesN l = B := by
      simp only [makesN] at hB
      cases hm : o.op.makes <;> simp only [hm, cond_true, cond_false] at hB ⊢ <;> omega
    -- from the trace of what follows
    have glue : ∀ (s1 : St) (r : Rec), StepAt k B o rid s s1 r → (∀ j ∈ o.un, j < n → r.apart (R0 j) = true) → B ≤ s1.hp.next → drawOps k l (bif o.op.makes then rid + 1 else rid) (n + 1) (r :: recs) s1 = some (out, s') →
        ∃ (c : Nat) (S : Nat → St) (R : Nat → Rec) (I : Nat → Nat), S n = s ∧ I n = rid ∧ (∀ j, j < n → R j = R0 j) ∧ Trace k B L n c S R I ∧ Ends k B L c S I out s' := by
      intro s1 r hst hap hB1 hd
      obtain ⟨c, S, R, I, e1, e2, e3, T, E⟩ := drawOps_trace l (pre ++ [o]) _ (n + 1) (r :: recs) s1 (fun j => if j = n then r else R0 j) hL' hn' (by
        intro j hj
        by_cases e : j = n
        · subst e; simp
        · have : n + 1 - 1 - j = (n - 1 - j) + 1 := by omega
          rw [this, List.getElem?_cons_succ, if_neg e]
          exact hR j (by omega)) hkept hB1 hd
      have hc := T.le
      have hRn : R n = r := by have := e3 n (by omega); simpa using this
      refine ⟨c, fun i => if i = n then s else S i, R, fun i => if i = n then rid else I i, by simp, by simp, fun j hj => by have := e3 j (by omega); rw [this, if_neg (by omega)], ⟨by omega, T.hc, ?_, ?_, ?_⟩, ?_⟩
      · intro i o' h1 h2 h3
        by_cases e : i = n
        · subst e
          rw [hLn] at h3; simp at h3; subst h3
          have : i + 1 ≠ i := by omega
          simp only [if_pos, if_neg this, e1, hRn]
          exact hst
        · have h4 : i + 1 ≠ n := by omega
          simp only [if_neg e, if_neg h4]
          exact T.step i o' (by omega) h2 h3
      · intro i o' h1 h2 h3
        by_cases e : i = n
        · subst e
          rw [hLn] at h3; simp at h3; subst h3
          have : i + 1 ≠ i := by omega
          simp only [if_pos, if_neg this, e2]
        · have h4 : i + 1 ≠ n := by omega
          simp only [if_neg e, if_neg h4]
          exact T.kept i o' (by omega) h2 h3
      · intro i o' h1 h2 h3 j hj hji
        by_cases e : i = n
        · subst e
          rw [hLn] at h3; simp at h3; subst h3
          have hj0 : R j = R0 j := by have := e3 j (by omega); rw [this, if_neg (by omega)]
          rw [hRn, hj0]
          exact hap j hj hji
        · exact T.apart i o' (by omega) h2 h3 j hj hji
      · have h4 : c ≠ n := by omega
        rcases E with ⟨h1, h2, h3⟩ | ⟨o', pv, F, lo, v, s3, r', h1, h2, h3, h5, h6⟩
        · exact .inl ⟨h1, h2, by simpa [h4] using h3⟩
        · exact .inr ⟨o', pv, F, lo, v, s3, r', h1, h2, by simpa [h4] using h3, h5, h6⟩
    simp only [drawOps, Option.bind_eq_some_iff] at h
    obtain ⟨want, hw, h⟩ := h
    cases want with
    | false =>
      simp only [cond_false] at h
      exact glue _ _ (.skip hw) (fun j _ _ => none_apart _) (by rw [put_heap]; exact hBn) h
    | true =>
      simp only [cond_true, Option.bind_eq_some_iff] at h
      obtain ⟨F, hF, h⟩ := h
      obtain ⟨hal, h⟩ := chk_some h
      simp only [Option.bind_eq_some_iff] at h
      obtain ⟨⟨out1, v, s3⟩, hex, h⟩ := h
      obtain ⟨hck, h⟩ := chk_some h
      simp only [Bool.and_eq_true] at hck
      have hrid : o.op.makes = true → rid < B := by
        intro hm
        simp only [makesN, hm, cond_true] at hB
        omega
      have hrun : ∀ out', out1 = out' → RunAt k B o rid s F (bif o.op.makes then rid else s.hp.next) out' v s3 ⟨s3.tm, s3.defs, s3.rc, bif o.op.quiet && s3.hp.log.isEmpty then s.hp else mergeAt (bif o.op.makes then rid else s.hp.next) s.hp s3.hp⟩
          (bif o.op.quiet && s3.hp.log.isEmpty then ⟨F, [], 0, 0, false⟩ else ⟨F, s3.hp.log, bif o.op.makes then rid else s.hp.next, s3.hp.next, !o.op.makes⟩) := by
        rintro out' rfl
        exact ⟨hw, hal, rfl, hex, rfl, hck.1, rfl, hrid, by rw [← hB]; exact hck.2.1, hBn⟩
      cases out1 with
      | normal =>
        dsimp only at h
        have hr := hrun .normal rfl
        exact glue _ _ (.run F _ v s3 _ _ hr) (fun j hj hji => apartAll_spec hR hck.2.2 j hj hji) (by rw [put_heap]; exact Nat.le_trans hBn hr.next_le) h
      | panic pv =>
        dsimp only at h
        obtain ⟨hun, h⟩ := chk_some h
        simp only [Bool.and_eq_true, List.isEmpty_iff, List.all_eq_true, Bool.not_eq_true'] at hun
        simp only [Option.some.injEq, Prod.mk.injEq] at h
        obtain ⟨rfl, rfl⟩ := h
        refine ⟨n, fun _ => s, R0, fun _ => rid, rfl, rfl, fun _ _ => rfl, ⟨Nat.le_refl _, by rw [hL, hn]; simp, ?_, ?_, ?_⟩, .inr ⟨o, pv, F, _, v, s3, _, hLn, rfl, hrun _ rfl, hun.1, ?_⟩⟩
        · intro i o h1 h2; omega
        · intro i o h1 h2; omega
        · intro i o h1 h2; omega
        · intro i o' hi ho' hm
          have hmem : o' ∈ l := by
            rw [hL'] at ho'
            rw [List.getElem?_append_right (by omega)] at ho'
            exact List.mem_of_getElem? ho'
          have := hun.2 o' hmem
          rw [elemN_mem.2 hm] at this; simp at this
      | exit id => simp at h
      | goto id => simp at h
      | ret => simp at h
end Go.Dee
end
section
/- A region that draws, in any order: its state after some of its operations. -/
namespace Go.Dee
open Classical in
/- one more than the last of D below n that W says of; 0: none -/
noncomputable def last (W D : Nat → Prop) : Nat → Nat
  | 0 => 0
  | n + 1 => if D n ∧ W n then n + 1 else last W D n
theorem last_congr {W D D' : Nat → Prop} : ∀ {n : Nat}, (∀ i, i < n → W i → (D i ↔ D' i)) → last W D n = last W D' n
  | 0, _ => rfl
  | n + 1, h => by
    have ih := last_congr (W := W) (D := D) (D' := D') (n := n) fun i hi => h i (by omega)
    have h1 := h n (by omega)
    simp only [last]
    rw [ih]
    by_cases hW : W n
    · have h2 := h1 hW
      by_cases hD : D n
      · rw [if_pos ⟨hD, hW⟩, if_pos ⟨h2.1 hD, hW⟩]
      · rw [if_neg (fun e => hD e.1), if_neg (fun e => hD (h2.2 e.1))]
    · rw [if_neg (fun e => hW e.2), if_neg (fun e => hW e.2)]
theorem last_cut {W D : Nat → Prop} {n : Nat} : ∀ {c : Nat}, n ≤ c → (∀ i, n ≤ i → i < c → W i → ¬ D i) → last W D c = last W D n
  | 0, hn, _ => by have : n = 0 := by omega
                   rw [this]
  | c + 1, hn, h => by
    by_cases e : n = c + 1
    · rw [e]
    · have ih := last_cut (W := W) (D := D) (n := n) (c := c) (by omega) fun i h1 h2 => h i h1 (by omega)
      have h1 := h c (by omega) (by omega)
      simp only [last]
      rw [if_neg (fun e => h1 e.2 e.1), ih]
theorem last_eq {W D : Nat → Prop} {n c : Nat} (hn : n ≤ c) (h : ∀ i, i < c → W i → (i < n → D i) ∧ (n ≤ i → ¬ D i)) : last W D c = last W (fun _ => True) n := by
  rw [last_cut hn fun i h1 h2 hW => (h i h2 hW).2 h1]
  exact last_congr fun i hi hW => ⟨fun _ => trivial, fun _ => (h i (by omega) hW).1 hi⟩
theorem last_same {α : Type} (f : Nat → α) {W : Nat → Prop} : ∀ {n : Nat}, (∀ i, i < n → ¬ W i → f (i + 1) = f i) → f (last W (fun _ => True) n) = f n
  | 0, _ => rfl
  | n + 1, h => by
    simp only [last]
    by_cases hW : W n
    · simp [hW]
    · simp only [hW, and_false, if_false]
      rw [last_same f fun i hi => h i (by omega), h n (by omega) hW]
theorem last_add {W D : Nat → Prop} {n : Nat} (hW : W n) : ∀ {c : Nat}, n < c → (∀ i, i < c → n < i → D i → ¬ W i) → last W (fun i => D i ∨ i = n) c = n + 1
  | 0, hn, _ => by omega
  | c + 1, hn, h => by
    simp only [last]
    by_cases e : c = n
    · subst e; simp [hW]
    · have ih := last_add (W := W) (D := D) (n := n) hW (c := c) (by omega) fun i h1 => h i (by omega)
      have : ¬ ((D c ∨ c = n) ∧ W c) := by
        rintro ⟨h1 | h1, h2⟩
        · exact h c (by omega) (by omega) h1 h2
        · exact e h1
      rw [if_neg this, ih]
theorem last_skip {W D : Nat → Prop} {n c : Nat} (hW : ¬ W n) : last W (fun i => D i ∨ i = n) c = last W D c :=
  last_congr fun i _ hi => ⟨fun h => h.elim id fun e => absurd (e ▸ hi) hW, .inl⟩
theorem last_le {W D : Nat → Prop} : ∀ {c : Nat}, last W D c ≤ c
  | 0 => Nat.le_refl _
  | c + 1 => by
    simp only [last]
    split
    · exact Nat.le_refl _
    · exact Nat.le_succ_of_le last_le
def wT (L : List DOper) (p : Pos) (i : Nat) : Prop := ∃ o, L[i]? = some o ∧ o.dst = some p
structure Like (L : List DOper) (c : Nat) (S : Nat → St) (R : Nat → Rec) (D : Nat → Prop) (s : St) : Prop where
  tm : ∀ p, s.tm.get p = (S (last (wT L p) D c)).tm.get p
  hp : ∀ id, s.hp.get id = (S (last (fun i => (R i).wr id) D c)).hp.get id
  next : s.hp.next = (S (last (fun i => (R i).loud = true) D c)).hp.next
  rc : s.rc = (S (last (fun i => (R i).loud = true) D c)).rc
  defs : s.defs = (S 0).defs
  log : ∀ n ∈ s.hp.log, n ∈ (S c).hp.log
def SlotSep (a b : DOper) : Prop := (∀ d, a.dst = some d → d ∉ b.reads ∧ b.dst ≠ some d) ∧ (∀ d, b.dst = some d → d ∉ a.reads ∧ a.dst ≠ some d)
def RecSep (a b : Rec) : Prop := (∀ id ∈ b.F, ¬ a.wr id) ∧ (∀ id ∈ a.F, ¬ b.wr id) ∧ ¬ (a.loud = true ∧ b.loud = true)
theorem SlotSep.symm {a b : DOper} (h : SlotSep a b) : SlotSep b a := ⟨h.2, h.1⟩
theorem RecSep.symm {a b : Rec} (h : RecSep a b) : RecSep b a := ⟨h.2.1, h.1, fun ⟨x, y⟩ => h.2.2 ⟨y, x⟩⟩
theorem disjoint_spec {a b : List Nat} (h : disjoint a b = true) {n : Nat} (ha : n ∈ a) (hb : n ∈ b) : False := by
  simp only [disjoint, List.all_eq_true, Bool.not_eq_true'] at h
  have := h n ha
  rw [elemN_mem.2 hb] at this; simp at this
theorem outIn_spec {lo hi : Nat} {F : List Nat} (h : outIn lo hi F = true) {n : Nat} (hn : n ∈ F) : ¬ (lo ≤ n ∧ n < hi) := by
  simp only [outIn, List.all_eq_true, Bool.or_eq_true] at h
  rintro ⟨h1, h2⟩
  rcases h n hn with h | h
  · have := Nat.le_of_ble_eq_true h; omega
  · have := Nat.le_of_ble_eq_true h; omega
theorem apart_spec {a b : Rec} (h : a.apart b = true) : RecSep a b := by
  simp only [Rec.apart, Bool.and_eq_true, Bool.not_eq_true'] at h
  obtain ⟨h1, h2, h3, h4, h5⟩ := h
  refine ⟨fun id hid hw => ?_, fun id hid hw => ?_, fun ⟨h6, h7⟩ => by rw [h6, h7] at h5; simp at h5⟩
  · rcases inW_iff.1 hw with hw | hw
    · exact disjoint_spec h1 hw hid
    · exact outIn_spec h3 hid hw
  · rcases inW_iff.1 hw with hw | hw
    · exact disjoint_spec h2 hw hid
    · exact outIn_spec h4 hid hw
section
variable {k : CallK} {B : Nat} {L : List DOper} {c : Nat} {S : Nat → St} {R : Nat → Rec} {I : Nat → Nat} {D : Nat → Prop}
theorem inOr_spec {F W : List Nat} {lo : Nat} (h : inOr F lo W = true) {n : Nat} (hn : n ∈ W) : n ∈ F ∨ lo ≤ n := by
  simp only [inOr, List.all_eq_true, Bool.or_eq_true] at h
  rcases h n hn with h | h
  · exact .inl (elemN_mem.1 h)
  · exact .inr (Nat.le_of_ble_eq_true h)
theorem wr_in {o : DOper} {rid : Nat} {s s1 : St} {r : Rec} (h : StepAt k B o rid s s1 r) {id : Nat} (hw : r.wr id) : id ∈ r.F ∨ (r.loud = true ∧ r.lo ≤ id) ∨ (r.lo ≤ id ∧ id < r.hi) := by
  cases h with
  | skip _ => simp [Rec.wr, Rec.none, inW, elemN] at hw
  | run F lo v s' s2 r h =>
    rcases inW_iff.1 hw with hw | hw
    · cases hq : (o.op.quiet && s'.hp.log.isEmpty) with
      | true => obtain ⟨rfl, _⟩ := h.quietAt hq; simp at hw
      | false =>
        cases hm : o.op.makes with
        | true => obtain ⟨_, rfl, _⟩ := h.makes hm; simp at hw
        | false =>
          obtain ⟨rfl, hlo⟩ := h.loudAt hq hm
          rcases inOr_spec h.hin hw with h | h
          · exact .inl h
          · exact .inr (.inl ⟨rfl, by rw [hlo] at h; exact h⟩)
    · exact .inr (.inr hw)
theorem range_of {o : DOper} {rid : Nat} {s s1 : St} {r : Rec} (h : StepAt k B o rid s s1 r) : (r.loud = false ∧ r.lo = 0 ∧ r.hi = 0) ∨ (r.loud = false ∧ o.op.makes = true ∧ r.lo = rid ∧ r.hi = rid + 1 ∧ rid < B) ∨ (r.loud = true ∧ B ≤ r.lo) := by
  cases h with
  | skip _ => exact .inl ⟨rfl, rfl, rfl⟩
  | run F lo v s' s2 r h =>
    cases hm : o.op.makes with
    | true => obtain ⟨_, rfl, _⟩ := h.makes hm; exact .inr (.inl ⟨rfl, rfl, rfl, rfl, h.kept hm⟩)
    | false =>
      cases hq : (o.op.quiet && s'.hp.log.isEmpty) with
      | true => obtain ⟨rfl, _⟩ := h.quietAt hq; exact .inl ⟨rfl, rfl, rfl⟩
      | false => obtain ⟨rfl, _⟩ := h.loudAt hq hm; exact .inr (.inr ⟨rfl, h.B⟩)
theorem Trace.at (T : Trace k B L 0 c S R I) {i : Nat} (hi : i < c) : ∃ o, L[i]? = some o := by
  have := T.hc
  exact ⟨L[i], List.getElem?_eq_getElem (by omega)⟩
theorem Trace.mono (T : Trace k B L 0 c S R I) {i : Nat} : ∀ {j : Nat}, i ≤ j → j ≤ c → I i ≤ I j ∧ (S i).hp.next ≤ (S j).hp.next ∧ (∀ n ∈ (S i).hp.log, n ∈ (S j).hp.log)
  | 0, h, _ => by have : i = 0 := by omega
                  subst this; exact ⟨Nat.le_refl _, Nat.le_refl _, fun _ h => h⟩
  | j + 1, h, hc => by
    by_cases e : i = j + 1
    · subst e; exact ⟨Nat.le_refl _, Nat.le_refl _, fun _ h => h⟩
    · obtain ⟨h1, h2, h3⟩ := T.mono (i := i) (j := j) (by omega) (by omega)
      obtain ⟨o, ho⟩ := T.at (i := j) (by omega)
      have st := T.step j o (by omega) (by omega) ho
      have kp := T.kept j o (by omega) (by omega) ho
      refine ⟨?_, Nat.le_trans h2 st.next_le, fun n hn => st.log.1 n (h3 n hn)⟩
      rw [kp]; cases o.op.makes <;> simp <;> omega
theorem Trace.kept_ne (T : Trace k B L 0 c S R I) {i j : Nat} {oi oj : DOper} (hi : i < c) (hj : j < c) (hij : i ≠ j) (h1 : L[i]? = some oi) (h2 : L[j]? = some oj) (m1 : oi.op.makes = true) (m2 : oj.op.makes = true) : I i ≠ I j := by
  rcases Nat.lt_or_gt_of_ne hij with h | h
  · have k1 := T.kept i oi (by omega) hi h1
    have := (T.mono (i := i + 1) (j := j) (by omega) (by omega)).1
    rw [k1, m1] at this; simp at this; omega
  · have k1 := T.kept j oj (by omega) hj h2
    have := (T.mono (i := j + 1) (j := i) (by omega) (by omega)).1
    rw [k1, m2] at this; simp at this; omega
/- two that are apart do not write the same -/
theorem Trace.wr_apart (T : Trace k B L 0 c S R I) {i j : Nat} (hi : i < c) (hj : j < c) (hij : i ≠ j) (hs : RecSep (R i) (R j)) {id : Nat} (h1 : (R i).wr id) (h2 : (R j).wr id) : False := by
  obtain ⟨oi, hoi⟩ := T.at hi
  obtain ⟨oj, hoj⟩ := T.at hj
  have si := T.step i oi (by omega) hi hoi
  have sj := T.step j oj (by omega) hj hoj
  rcases wr_in si h1 with k1 | k1
  · exact hs.2.1 id k1 h2
  · rcases wr_in sj h2 with k2 | k2
    · exact hs.1 id k2 h1
    · rcases range_of si with ⟨a1, a2, a3⟩ | ⟨a1, a2, a3, a4, a5⟩ | ⟨a1, a2⟩
      · rcases k1 with ⟨k1, _⟩ | k1
        · rw [a1] at k1; simp at k1
        · omega
      · rcases k1 with ⟨k1, _⟩ | k1
        · rw [a1] at k1; simp at k1
        · rcases range_of sj with ⟨b1, b2, b3⟩ | ⟨b1, b2, b3, b4, b5⟩ | ⟨b1, b2⟩
          · rcases k2 with ⟨k2, _⟩ | k2
            · rw [b1] at k2; simp at k2
            · omega
          · rcases k2 with ⟨k2, _⟩ | k2
            · rw [b1] at k2; simp at k2
            · have := T.kept_ne hi hj hij hoi hoj a2 b2; omega
          · rcases k2 with ⟨_, k2⟩ | k2 <;> omega
      · rcases range_of sj with ⟨b1, b2, b3⟩ | ⟨b1, b2, b3, b4, b5⟩ | ⟨b1, b2⟩
        · rcases k2 with ⟨k2, _⟩ | k2
          · rw [b1] at k2; simp at k2
          · omega
        · rcases k2 with ⟨k2, _⟩ | k2
          · rw [b1] at k2; simp at k2
          · rcases k1 with ⟨_, k1⟩ | k1 <;> omega
        · exact hs.2.2 ⟨a1, b1⟩
/- n: an operation that may come next -/
structure Next (L : List DOper) (R : Nat → Rec) (c : Nat) (D : Nat → Prop) (n : Nat) (o : DOper) : Prop where
  out : ¬ D n
  at' : L[n]? = some o
  le : n ≤ c
  slots : ∀ i oi, i < c → ((i < n ∧ ¬ D i) ∨ (n < i ∧ D i)) → L[i]? = some oi → SlotSep oi o
  recs : ∀ i, i < c → ((i < n ∧ ¬ D i) ∨ (n < i ∧ D i)) → RecSep (R i) (R n)
section
variable {n : Nat} {o : DOper} {s : St}
theorem Next.cut (nx : Next L R c D n o) {W : Nat → Prop} (h : ∀ i, i < c → ((i < n ∧ ¬ D i) ∨ (n < i ∧ D i)) → ¬ W i) : last W D c = last W (fun _ => True) n := by
  refine last_eq nx.le fun i hi hW => ⟨fun h1 => ?_, fun h1 h2 => ?_⟩
  · exact Classical.byContradiction fun h2 => h i hi (.inl ⟨h1, h2⟩) hW
  · have : n ≠ i := fun e => by subst e; exact nx.out h2
    exact h i hi (.inr ⟨by omega, h2⟩) hW
theorem Like.reads (T : Trace k B L 0 c S R I) (lk : Like L c S R D s) (nx : Next L R c D n o) {p : Pos} (hp : p ∈ o.reads) : s.tm.get p = (S n).tm.get p := by
  rw [lk.tm, nx.cut]
  · refine last_same (fun i => (S i).tm.get p) fun i hi hW => ?_
    have hc := nx.le
    obtain ⟨oi, hoi⟩ := T.at (i := i) (by omega)
    exact (T.step i oi (by omega) (by omega) hoi).tm p fun e => hW ⟨oi, hoi, e⟩
  · rintro i hi h ⟨oi, hoi, hd⟩
    exact ((nx.slots i oi hi h hoi).1 p hd).1 hp
theorem Like.heapAt (T : Trace k B L 0 c S R I) (lk : Like L c S R D s) (nx : Next L R c D n o) {id : Nat} (hid : ∀ i, i < c → ((i < n ∧ ¬ D i) ∨ (n < i ∧ D i)) → ¬ (R i).wr id) : s.hp.get id = (S n).hp.get id := by
  rw [lk.hp, nx.cut hid]
  refine last_same (fun i => (S i).hp.get id) fun i hi hW => ?_
  have hc := nx.le
  obtain ⟨oi, hoi⟩ := T.at (i := i) (by omega)
  exact (T.step i oi (by omega) (by omega) hoi).get id hW
theorem Like.loudAt (T : Trace k B L 0 c S R I) (lk : Like L c S R D s) (nx : Next L R c D n o) (hl : ∀ i, i < c → ((i < n ∧ ¬ D i) ∨ (n < i ∧ D i)) → ¬ (R i).loud = true) : s.hp.next = (S n).hp.next ∧ s.rc = (S n).rc := by
  have hs : ∀ i, i < n → ¬ (R i).loud = true → (S (i + 1)).hp.next = (S i).hp.next ∧ (S (i + 1)).rc = (S i).rc := by
    intro i hi hW
    have hc := nx.le
    obtain ⟨oi, hoi⟩ := T.at (i := i) (by omega)
    exact (T.step i oi (by omega) (by omega) hoi).loud (by simpa using hW)
  rw [lk.next, lk.rc, nx.cut hl]
  exact ⟨last_same (fun i => (S i).hp.next) fun i hi hW => (hs i hi hW).1, last_same (fun i => (S i).rc) fun i hi hW => (hs i hi hW).2⟩
theorem Like.big (T : Trace k B L 0 c S R I) (lk : Like L c S R D s) (hB : B ≤ (S 0).hp.next) : B ≤ s.hp.next := by
  rw [lk.next]
  exact Nat.le_trans hB (T.mono (Nat.zero_le _) last_le).2.1
theorem Like.step (T : Trace k B L 0 c S R I) (lk : Like L c S R D s) (nx : Next L R c D n o) (hn : n < c) {s1 : St} (h1 : ∀ p, s1.tm.get p = if o.dst = some p then (S (n + 1)).tm.get p else s.tm.get p)
    (h2 : ∀ id, ((R n).wr id → s1.hp.get id = (S (n + 1)).hp.get id) ∧ (¬ (R n).wr id → s1.hp.get id = s.hp.get id))
    (h3 : ((R n).loud = true → s1.hp.next = (S (n + 1)).hp.next ∧ s1.rc = (S (n + 1)).rc) ∧ ((R n).loud = false → s1.hp.next = s.hp.next ∧ s1.rc = s.rc))
    (h4 : s1.defs = s.defs) (h5 : ∀ m ∈ s1.hp.log, m ∈ s.hp.log ∨ m ∈ (R n).W) : Like L c S R (fun i => D i ∨ i = n) s1 := by
  have hne : ∀ i, i < c → n < i → D i → i ≠ n := fun i _ h _ => by omega
  refine ⟨fun p => ?_, fun id => ?_, ?_, ?_, h4.trans lk.defs, fun m hm => ?_⟩
  · rw [h1]
    by_cases hd : o.dst = some p
    · rw [if_pos hd, last_add (W := wT L p) ⟨o, nx.at', hd⟩ hn]
      rintro i hi hni hDi ⟨oi, hoi, hd'⟩
      exact ((nx.slots i oi hi (.inr ⟨hni, hDi⟩) hoi).1 p hd').2 hd
    · rw [if_neg hd, last_skip, lk.tm]
      rintro ⟨o', ho', hd'⟩
      rw [nx.at'] at ho'; simp at ho'; subst ho'
      exact hd hd'
  · by_cases hw : (R n).wr id
    · rw [(h2 id).1 hw, last_add (W := fun i => (R i).wr id) hw hn]
      intro i hi hni hDi hw'
      exact T.wr_apart hi hn (hne i hi hni hDi) (nx.recs i hi (.inr ⟨hni, hDi⟩)) hw' hw
    · rw [(h2 id).2 hw, last_skip (W := fun i => (R i).wr id) hw, lk.hp]
  · cases hl : (R n).loud with
    | true =>
      rw [(h3.1 hl).1, last_add (W := fun i => (R i).loud = true) hl hn]
      intro i hi hni hDi hl'
      exact (nx.recs i hi (.inr ⟨hni, hDi⟩)).2.2 ⟨hl', hl⟩
    | false => rw [(h3.2 hl).1, last_skip (by simp [hl]), lk.next]
  · cases hl : (R n).loud with
    | true =>
      rw [(h3.1 hl).2, last_add (W := fun i => (R i).loud = true) hl hn]
      intro i hi hni hDi hl'
      exact (nx.recs i hi (.inr ⟨hni, hDi⟩)).2.2 ⟨hl', hl⟩
    | false => rw [(h3.2 hl).2, last_skip (by simp [hl]), lk.rc]
  · rcases h5 m hm with h | h
    · exact lk.log m h
    · obtain ⟨o', ho'⟩ := T.at hn
      exact (T.mono (i := n + 1) (j := c) (by omega) (Nat.le_refl _)).2.2 m ((T.step n o' (by omega) hn ho').log.2 m h)
theorem reads_ev (h : ∀ p ∈ o.reads, s.tm.get p = (S n).tm.get p) : (∀ y ∈ o.op.all, ev (S n).tm y = ev s.tm y) ∧ wanted s.tm o.guard = wanted (S n).tm o.guard := by
  constructor
  · intro y hy
    cases y with
    | c v => rfl
    | t p => exact (h p (List.mem_append_left _ (List.mem_flatMap.2 ⟨_, hy, by simp [Opnd.reads]⟩))).symm
  · unfold wanted
    cases hg : o.guard with
    | none => rfl
    | some g =>
      obtain ⟨p, b⟩ := g
      simp only
      rw [h p (List.mem_append_right _ (by rw [hg]; simp))]
end
end
end Go.Dee
end
