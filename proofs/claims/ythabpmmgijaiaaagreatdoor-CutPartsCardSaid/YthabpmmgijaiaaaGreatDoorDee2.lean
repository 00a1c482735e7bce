/- Part of the proof: an interpreter that is proved sound over the model. -/
import Derived.Test.YthabpmmgijaiaaaGreatDoorDee1
import Derived.IntWalk
set_option linter.unusedSimpArgs false
set_option linter.unusedVariables false
section
/- Reading parts, slicing, counting. -/
namespace Go.Dee
section
variable {x : Cx} {p q : Pl} {h h' : Heap} {w w' : World} {τ : Operand → Value} {ρ : Env}
theorem sound_fieldAddr {t : TypeId} {fs : Array Field} {f : Nat} (hfs : x.under t = some (.struct fs)) {pl : Nat × Nat} (hpl : x.fieldPlace fs f = some pl) (h0 : pl.2 ≠ 0) {d v : DV} {a : Value} (hd : DRel p d a)
    (e : opFieldAddr pl.1 d = some v) : ∃ y, DRel p v y ∧ ∀ w, (Instr.fieldAt t a f).run x.P w = .ok y w := by
  simp only [Cx.fieldPlace, Option.bind_eq_some_iff, Option.some.injEq] at hpl
  obtain ⟨fd, hfd, s, hs, rfl⟩ := hpl
  have key : ∀ (b o : Nat) w, (Instr.fieldAt t (.pointer (some ⟨b, o, none⟩)) f).run x.P w = .ok (.pointer (some ⟨b, o + fd.offset, none⟩)) w := by
    intro b o w
    simp only [Instr.fieldAt, Sem.run_bind, run_under hfs, Result.andThen_ok, hfd, Instr.sureAddr, Sem.run_pure, fieldPlace, run_size hs, Sem.run_ite, if_neg h0, add_none]
  unfold opFieldAddr at e
  cases hd with
  | ptr blk base hι => simp at e; subst e; exact ⟨_, .ptr blk base hι, fun w => by rw [key, Nat.add_assoc]⟩
  | f hf =>
    cases hf with
    | ptr blk o X hsz hM hr => simp at e; subst e; exact ⟨_, .f (.ptr blk o X hsz hM hr), fun w => by rw [key]; simp [Nat.add_assoc]⟩
    | _ => simp at e
  | _ => simp at e
theorem sound_part {ty : TypeId} {ag : Bool} {sz off : Nat} (ha : x.agg ty = some ag) (hs : x.size ty = some sz) (h1 : ag = false → sz = 1) {d v : DV} {a : Value} (hd : DRel p d a)
    (e : partOf ag sz off d = some v) : ∃ cs y, a = .agg cs ∧ DRel p v y ∧ ∀ w, (Go.part ty cs off).run x.P w = .ok y w := by
  unfold partOf at e
  cases hd with
  | agg vs hl hh =>
    dsimp only at e
    have hc : CD p _ vs := ⟨hl, hh⟩
    obtain ⟨us, rfl, hu, hr⟩ := pickD_rel e hc h1
    refine ⟨_, _, rfl, hr, fun w => ?_⟩
    have hlen : off + sz ≤ vs.toArray.size := by
      simp at hu ⊢
      cases ag with
      | true => simp only [pickD, cond_true, Option.bind_eq_some_iff] at e; obtain ⟨l, hl', _⟩ := e; have := (part_some hl').1; omega
      | false => have := h1 rfl; omega
    have := run_part (w := w) ha hs hlen h1
    simpa using this
  | f hf =>
    cases hf with
    | agg vs hl hh =>
      dsimp only at e
      have hc : CF p.M _ vs := ⟨hl, hh⟩
      obtain ⟨us, rfl, hu, z, rfl, hr⟩ := pickF_rel e hc h1
      refine ⟨_, _, rfl, .f hr, fun w => ?_⟩
      have hlen : off + sz ≤ vs.toArray.size := by
        simp at hu ⊢
        cases ag with
        | true => simp only [pickF, cond_true, Option.bind_eq_some_iff] at e; obtain ⟨l, hl', _⟩ := e; have := (part_some hl').1; omega
        | false => have := h1 rfl; omega
      have := run_part (w := w) ha hs hlen h1
      simpa using this
    | _ => simp at e
  | _ => simp at e
theorem sound_indexA {t el : TypeId} {n sz : Nat} (ht : x.under t = some (.array n el)) (hs : x.size el = some sz) {d v : DV} {a : Value} {k : IntKind} {i : Int} (hd : DRel p d a)
    (e : opIndexA n sz d i = some v) : ∃ y, DRel p v y ∧ ∀ w, (Instr.indexAt t a (.int k i)).run x.P w = .ok y w := by
  obtain ⟨hc, e⟩ := chk_some e
  simp only [Bool.and_eq_true, decide_eq_true_eq] at hc
  obtain ⟨h0, hlt⟩ := hc
  have hlt : i.toNat < n := Nat.lt_of_succ_le (Nat.le_of_ble_eq_true hlt)
  have hlt' : i < (n : Int) := by omega
  have key : ∀ (b o : Nat) w, (Instr.indexAt t (.pointer (some ⟨b, o, none⟩)) (.int k i)).run x.P w = .ok (.pointer (some ⟨b, o + i.toNat * sz, none⟩)) w := by
    intro b o w
    simp only [Instr.indexAt, asIntOf, Sem.run_bind, Sem.run_pure, Result.andThen_ok, run_under ht, Instr.sureAddr, Sem.run_ite]
    rw [if_pos ⟨h0, hlt'⟩]
    simp only [run_size hs, Result.andThen_ok, add_none]
  cases hd with
  | ptr blk base hι => simp at e; subst e; exact ⟨_, .ptr blk base hι, fun w => by rw [key, Nat.add_assoc]⟩
  | f hf =>
    cases hf with
    | ptr blk o X hsz hM hr => simp at e; subst e; exact ⟨_, .f (.ptr blk o X hsz hM hr), fun w => by rw [key]; simp [Nat.add_assoc]⟩
    | _ => simp at e
  | _ => simp at e
theorem sound_indexS {t el : TypeId} {sz : Nat} (ht : x.under t = some (.slice el)) (hs : x.size el = some sz) {d v : DV} {a : Value} {k : IntKind} {i : Int} (hd : DRel p d a)
    (e : opIndexS sz d i = some v) : ∃ y, DRel p v y ∧ ∀ w, (Instr.indexAt t a (.int k i)).run x.P w = .ok y w := by
  obtain ⟨h0, e⟩ := chk_some e
  simp only [decide_eq_true_eq] at h0
  have key : ∀ (b o len c : Nat) w, i.toNat < len → (Instr.indexAt t (.slice (some ⟨b, o, none⟩) len c) (.int k i)).run x.P w = .ok (.pointer (some ⟨b, o + i.toNat * sz, none⟩)) w := by
    intro b o len c w hlt
    have hlt' : i < (len : Int) := by omega
    simp only [Instr.indexAt, asIntOf, Sem.run_bind, Sem.run_pure, Result.andThen_ok, run_under ht, Sem.run_ite]
    rw [if_pos ⟨h0, hlt'⟩]
    simp only [run_size hs, Result.andThen_ok, add_none]
  cases hd with
  | slice blk base o c n hι hk hl ho hcap =>
    dsimp only at e
    obtain ⟨hc, e⟩ := chk_some e
    simp only [Bool.and_eq_true] at hc
    have hz := Nat.eq_of_beq_eq_true hc.1
    have hlt := Nat.lt_of_succ_le (Nat.le_of_ble_eq_true hc.2)
    simp only [Option.some.injEq] at e; subst e; subst hz
    have ho' : o = base + _ := ho.resolve_left (by omega)
    subst ho'
    exact ⟨_, .ptr blk base hι, fun w => by rw [key _ _ _ _ _ hlt, Nat.add_assoc]⟩
  | f hf =>
    cases hf with
    | slice ad c X hlc hcap ha hsz hM hr =>
      dsimp only at e
      obtain ⟨hc, e⟩ := chk_some e
      simp only [Bool.and_eq_true] at hc
      have hz := Nat.eq_of_beq_eq_true hc.1
      have hlt := Nat.lt_of_succ_le (Nat.le_of_ble_eq_true hc.2)
      simp only [Option.some.injEq] at e; subst e; subst hz
      have hsp : ad.spot = none := ha.resolve_left (fun h => by rw [h] at hlt; simp at hlt)
      obtain ⟨b, o, s⟩ := ad
      simp at hsp; subst hsp
      exact ⟨_, .f (.ptr b o X hsz hM hr), fun w => by rw [key _ _ _ _ _ hlt]; simp⟩
    | _ => simp at e
  | _ => simp at e
theorem lenDV_rel {d : DV} {v : Value} (hd : DRel p d v) {n : Nat} (e : lenDV d = some n) : (∃ a c, v = .slice a n c ∧ n ≤ c) ∨ ∃ s : ByteArray, v = .string s ∧ s.size = n ∧ d = .f (.str s) := by
  unfold lenDV at e
  cases hd with
  | slice blk base o c m hι hk hl ho hcap => simp at e; subst e; exact .inl ⟨_, _, rfl, hl⟩
  | f hf =>
    cases hf with
    | nilslice => simp at e; subst e; exact .inl ⟨_, _, rfl, Nat.le_refl _⟩
    | slice ad c X hlc hcap ha hsz hM hr => simp at e; subst e; exact .inl ⟨_, _, rfl, hlc⟩
    | str s => simp at e; exact .inr ⟨s, rfl, e, rfl⟩
    | _ => simp at e
  | _ => simp at e
theorem opCap_rel {d : DV} {v : Value} (hd : DRel p d v) {n : Nat} (e : opCap d = some n) : ∃ a l, v = .slice a l n := by
  unfold opCap at e
  cases hd with
  | @slice ag sz b g off len cap blk base o c m hι hk hl ho hcap =>
    cases cap with
    | none => simp at e
    | some k => simp at e; subst e; exact ⟨_, _, by rw [hcap.1]⟩
  | f hf =>
    cases hf with
    | nilslice => simp at e; subst e; exact ⟨_, _, rfl⟩
    | @slice sz es cap ad c X hlc hcap ha hsz hM hr =>
      cases cap with
      | none => simp at e
      | some k => simp at e; subst e; simp at hcap; subst hcap; exact ⟨_, _, rfl⟩
    | _ => simp at e
  | _ => simp at e
theorem sound_extract {d v : DV} {a : Value} {k : Nat} (hd : DRel p d a) (e : opExtract k d = some v) : ∃ y, DRel p v y ∧ ∀ w, (Instr.extract a k).run x.P w = .ok y w := by
  unfold opExtract at e
  cases hd with
  | tuple vs hl hh =>
    obtain ⟨y, hy, hr⟩ := PW.get ⟨hl, hh⟩ e
    exact ⟨y, hr, fun w => by simp [Instr.extract, hy]⟩
  | f hf =>
    cases hf with
    | tuple vs hl hh =>
      simp only [Option.bind_eq_some_iff, Option.some.injEq] at e
      obtain ⟨z, hz, rfl⟩ := e
      obtain ⟨y, hy, hr⟩ := PW.get ⟨hl, hh⟩ hz
      exact ⟨y, .f hr, fun w => by simp [Instr.extract, hy]⟩
    | _ => simp at e
  | _ => simp at e
theorem sound_typeAssert {t xt : TypeId} {z : FV} (hz : x.zero t = some z) {td : TypeDesc} (ht : x.under t = some td) (hn : ∀ ms, td ≠ .interface ms) {d v : DV} {a : Value} (hd : DRel p d a)
    (e : opTypeAssert t z d = some v) : ∃ y, DRel p v y ∧ ∀ w, (Instr.typeAssert a xt t true).run x.P w = .ok y w := by
  obtain ⟨zv, hzv', hzr, _⟩ := run_zeroA hz
  have T : ∀ (z : FV) (y : Value) (b : Bool), FRel p.M z y → DRel p (.f (.tuple [z, .bool b])) (.tuple #[y, .bool b]) := by
    intro z y b hr
    exact .f (.tuple [y, .bool b] rfl (by
      intro i a c ha hc
      match i with
      | 0 => simp at ha hc; subst ha; subst hc; exact hr
      | 1 => simp at ha hc; subst ha; subst hc; exact .bool _
      | i + 2 => simp at ha))
  unfold opTypeAssert at e
  cases hd with
  | f hf =>
    cases hf with
    | @iface t' z' y' hv =>
      dsimp only at e
      by_cases hc : t' = t
      · subst hc
        simp [Nat.beq_refl] at e; subst e
        refine ⟨_, T _ _ _ hv, fun w => ?_⟩
        simp only [Instr.typeAssert, Sem.run_bind, run_under ht, Result.andThen_ok]
        cases td <;> simp_all
      · simp [beq_false hc] at e; subst e
        refine ⟨_, T _ _ _ (hzr _), fun w => ?_⟩
        simp only [Instr.typeAssert, Sem.run_bind, run_under ht, Result.andThen_ok]
        cases td <;> simp_all
    | niliface =>
      simp at e; subst e
      refine ⟨_, T _ _ _ (hzr _), fun w => ?_⟩
      simp only [Instr.typeAssert, Sem.run_bind, run_under ht, Result.andThen_ok]
      cases td <;> simp_all
    | _ => simp at e
  | _ => simp at e
theorem sound_typeAssert1 {t xt : TypeId} {td : TypeDesc} (ht : x.under t = some td) (hn : ∀ ms, td ≠ .interface ms) {d v : DV} {a : Value} (hd : DRel p d a)
    (e : opTypeAssert1 t d = some v) : ∃ y, DRel p v y ∧ ∀ w, (Instr.typeAssert a xt t false).run x.P w = .ok y w := by
  unfold opTypeAssert1 at e
  cases hd with
  | f hf =>
    cases hf with
    | iface hv =>
      obtain ⟨h1, e⟩ := chk_some e
      have h1 := Nat.eq_of_beq_eq_true h1
      simp at e; subst e; subst h1
      refine ⟨_, .f hv, fun w => ?_⟩
      simp only [Instr.typeAssert, Sem.run_bind, run_under ht, Result.andThen_ok]
      cases td <;> simp_all
    | _ => simp at e
  | _ => simp at e
/- s[lo:hi:mx] of a slice -/
theorem sound_slice (hρ : ERho x p ρ τ) {t el : TypeId} {sz : Nat} (ht : x.under t = some (.slice el)) (hs : x.size el = some sz) {lo hi mx : Option Operand} {l' h' m' : Option Opnd}
    (hl : x.opt lo = some l') (hh : x.opt hi = some h') (hm : x.opt mx = some m') (hmh : (mx.isNone || hi.isSome) = true) {d v : DV} {a : Value} (hd : DRel p d a)
    (e : opSlice ρ sz d l' h' m' = some v) : ∃ y, DRel p v y ∧ ∀ w, (Instr.sliceAt t a (lo.map τ) (hi.map τ) (mx.map τ)).run x.P w = .ok y w := by
  have hmh' : mx.isNone ∨ hi.isSome := by simpa using hmh
  have key : ∀ (a : Option Addr) (len c l h m : Nat) (w : World), (Instr.sliceBounds true len c (lo.map τ) (hi.map τ) (mx.map τ)).run x.P w = .ok (l, h, m) w →
      (Instr.sliceAt t (.slice a len c) (lo.map τ) (hi.map τ) (mx.map τ)).run x.P w = .ok (.slice (if m = l then a else a.map (·.add (l * sz))) (h - l) (m - l)) w := by
    intro a len c l h m w hb
    simp only [Instr.sliceAt, Sem.run_bind, run_under ht, Result.andThen_ok, Instr.slice, hb, run_size hs, Sem.run_pure]
  unfold opSlice at e
  simp only [Option.bind_eq_some_iff] at e
  obtain ⟨len, hlen, hi', ehi, lo', elo, e⟩ := e
  replace e := chk_some e
  obtain ⟨h1, e⟩ := e
  have h1 := Nat.le_of_ble_eq_true h1
  have hmnone : m' = none → mx = none := by intro e; subst e; cases mx with | none => rfl | some o => simp only [Cx.opt, Option.bind_eq_some_iff] at hm; obtain ⟨_, _, h⟩ := hm; simp at h
  cases hd with
  | @slice ag sz' b g off len' cap blk base o c n hι hk hl' ho hcap =>
    simp [lenDV] at hlen; subst hlen
    dsimp only at e
    replace e := chk_some e
    obtain ⟨hc, e⟩ := e
    simp only [Bool.and_eq_true, Bool.or_eq_true] at hc
    have hz := Nat.eq_of_beq_eq_true hc.1; subst hz
    have hhc : hi' ≤ c := by
      rcases hc.2 with h | h
      · have := Nat.le_of_ble_eq_true h; omega
      · unfold capAdd at h; cases cap with
        | none => simp at h
        | some k => have := Nat.le_of_ble_eq_true h; have := hcap.1; omega
    cases m' with
    | none =>
      have := hmnone rfl; subst this
      simp only [Option.some.injEq] at e; subst e
      have eb : optNat ρ c none = some c := rfl
      refine ⟨_, ?_, fun w => key _ _ _ _ _ _ w (run_bounds hρ hl hh hm elo ehi eb hmh' h1 hhc (Nat.le_refl _))⟩
      have hfin : (c - lo' = 0 ∨ o + lo' * sz = base + (off + lo' * sz)) := by
        rcases ho with h | h
        · left; omega
        · right; omega
      have hadd : (if c = lo' then (some ⟨blk, o, none⟩ : Option Addr) else (some (⟨blk, o, none⟩ : Addr)).map (·.add (lo' * sz))) = some ⟨blk, if c = lo' then o else o + lo' * sz, none⟩ := by
        split <;> simp [add_none]
      rw [hadd]
      have hmul : (c - lo') * sz = c * sz - lo' * sz := Nat.sub_mul _ _ _
      have hle : lo' * sz ≤ c * sz := Nat.mul_le_mul_right _ (by omega)
      refine .slice blk base _ _ n hι hk (by omega) ?_ ?_
      · by_cases hcl : c = lo'
        · left; omega
        · rw [if_neg hcl]; exact hfin
      · cases cap with
        | none => simp only [Option.map_none]; have := hcap; omega
        | some k => simp only [Option.map_some]; obtain ⟨hk1, hk2⟩ := hcap; subst hk1; exact ⟨rfl, by omega⟩
    | some ox =>
      simp only [Option.bind_eq_some_iff] at e
      obtain ⟨m, em, e⟩ := e
      replace e := chk_some e
      obtain ⟨hc2, e⟩ := e
      simp only [Bool.and_eq_true, Bool.or_eq_true] at hc2
      simp only [Option.some.injEq] at e; subst e
      have h2 := Nat.le_of_ble_eq_true hc2.1
      have hmc : m ≤ c := by
        rcases hc2.2 with h | h
        · have := Nat.le_of_ble_eq_true h; omega
        · unfold capAdd at h; cases cap with
          | none => simp at h
          | some k => have := Nat.le_of_ble_eq_true h; have := hcap.1; omega
      have em' : optNat ρ c (some ox) = some m := em
      refine ⟨_, ?_, fun w => key _ _ _ _ _ _ w (run_bounds hρ hl hh hm elo ehi em' hmh' h1 h2 hmc)⟩
      have hadd : (if m = lo' then (some ⟨blk, o, none⟩ : Option Addr) else (some (⟨blk, o, none⟩ : Addr)).map (·.add (lo' * sz))) = some ⟨blk, if m = lo' then o else o + lo' * sz, none⟩ := by
        split <;> simp [add_none]
      rw [hadd]
      have hmul : (m - lo') * sz = m * sz - lo' * sz := Nat.sub_mul _ _ _
      have hle : lo' * sz ≤ m * sz := Nat.mul_le_mul_right _ (by omega)
      have hle2 : m * sz ≤ c * sz := Nat.mul_le_mul_right _ hmc
      refine .slice blk base _ _ n hι hk (by omega) ?_ ⟨rfl, ?_⟩
      · by_cases hcl : m = lo'
        · left; omega
        · rw [if_neg hcl]
          rcases ho with h | h
          · left; omega
          · right; omega
      · cases cap with
        | none => have := hcap; omega
        | some k => obtain ⟨hk1, hk2⟩ := hcap; omega
  | f hf =>
    cases hf with
    | nilslice =>
      simp [lenDV] at hlen; subst hlen
      dsimp only at e
      replace e := chk_some e
      obtain ⟨hc, e⟩ := e
      have hc := Nat.eq_of_beq_eq_true hc; subst hc
      simp only [Option.bind_eq_some_iff] at e
      obtain ⟨m, em, e⟩ := e
      replace e := chk_some e
      obtain ⟨hc2, e⟩ := e
      have hc2 := Nat.eq_of_beq_eq_true hc2; subst hc2
      simp only [Option.some.injEq] at e; subst e
      have : lo' = 0 := by omega
      subst this
      exact ⟨_, .f .nilslice, fun w => by rw [key _ _ _ _ _ _ w (run_bounds hρ hl hh hm elo ehi em hmh' (Nat.le_refl _) (Nat.le_refl _) (Nat.le_refl _))]; simp⟩
    | @slice sz' es cap ad c X hlc hcap ha hsz hM hr =>
      simp [lenDV] at hlen; subst hlen
      dsimp only at e
      replace e := chk_some e
      obtain ⟨hc, e⟩ := e
      simp only [Bool.and_eq_true] at hc
      have hz := Nat.eq_of_beq_eq_true hc.1; subst hz
      have hhl := Nat.le_of_ble_eq_true hc.2
      have fin : ∀ (m : Nat) (cap' : Option Nat), hi' ≤ m → m ≤ c → (cap' = none ∨ cap' = some (m - lo')) → DRel p (.f (.slice sz ((es.drop lo').take (hi' - lo')) cap')) (.slice (if m = lo' then some ad else (some ad).map (·.add (lo' * sz))) (hi' - lo') (m - lo')) := by
        intro m cap' hm1 hm2 hcap'
        have hlen : ((es.drop lo').take (hi' - lo')).length = hi' - lo' := by simp; omega
        have hget : ∀ (k : Nat) (e : FV), ((es.drop lo').take (hi' - lo'))[k]? = some e → es[lo' + k]? = some e := by
          intro k e hk; rw [List.getElem?_take] at hk; split at hk
          · rwa [List.getElem?_drop] at hk
          · simp at hk
        by_cases hml : m = lo'
        · rw [if_pos hml]
          have hnil : (es.drop lo').take (hi' - lo') = [] := by rw [show hi' - lo' = 0 by omega]; simp
          have := FRel.slice (M := p.M) (sz := sz) (es := []) (cap := cap') ad (m - lo') X (by simp) hcap' (.inl rfl) (by simp) (by simp) (by simp)
          rw [hnil, show hi' - lo' = ([] : List FV).length by simp; omega]; exact .f this
        · rw [if_neg hml]
          by_cases hnl : hi' = lo'
          · have hnil : (es.drop lo').take (hi' - lo') = [] := by rw [show hi' - lo' = 0 by omega]; simp
            have := FRel.slice (M := p.M) (sz := sz) (es := []) (cap := cap') (ad.add (lo' * sz)) (m - lo') X (by simp) hcap' (.inl rfl) (by simp) (by simp) (by simp)
            rw [hnil, show hi' - lo' = ([] : List FV).length by simp; omega]; exact .f this
          · have hsp : ad.spot = none := ha.resolve_left (fun h => by rw [h] at hhl; simp at hhl; omega)
            obtain ⟨b, o, s⟩ := ad
            simp at hsp; subst hsp
            have := FRel.slice (M := p.M) (sz := sz) (es := (es.drop lo').take (hi' - lo')) (cap := cap') ⟨b, o + lo' * sz, none⟩ (m - lo') (fun k j => X (lo' + k) j) (by rw [hlen]; omega) hcap' (.inr rfl)
              (fun k e hk => hsz _ e (hget k e hk)) (fun k e j cc hk hj => by
                have := hM _ e j cc (hget k e hk) hj
                rw [Nat.add_mul] at this
                rw [← this]; congr 2; simp; omega) (fun k e j cc hk hj => hr _ e j cc (hget k e hk) hj)
            rw [hlen] at this
            simp only [Option.map_some, add_none]
            exact .f this
      cases m' with
      | none =>
        have := hmnone rfl; subst this
        simp only [Option.some.injEq] at e; subst e
        have eb : optNat ρ c none = some c := rfl
        refine ⟨_, fin c _ (by omega) (Nat.le_refl _) ?_, fun w => key _ _ _ _ _ _ w (run_bounds hρ hl hh hm elo ehi eb hmh' h1 (by omega) (Nat.le_refl _))⟩
        rcases hcap with rfl | rfl
        · exact .inl rfl
        · exact .inr rfl
      | some ox =>
        simp only [Option.bind_eq_some_iff] at e
        obtain ⟨m, em, e⟩ := e
        replace e := chk_some e
        obtain ⟨hc2, e⟩ := e
        simp only [Bool.and_eq_true, Bool.or_eq_true] at hc2
        simp only [Option.some.injEq] at e; subst e
        have h2 := Nat.le_of_ble_eq_true hc2.1
        have hmc : m ≤ c := by
          rcases hc2.2 with h | h
          · have := Nat.le_of_ble_eq_true h; omega
          · unfold capAdd at h; cases cap with
            | none => simp at h
            | some k => have := Nat.le_of_ble_eq_true h; simp at hcap; omega
        have em' : optNat ρ c (some ox) = some m := em
        exact ⟨_, fin m _ h2 hmc (.inr rfl), fun w => key _ _ _ _ _ _ w (run_bounds hρ hl hh hm elo ehi em' hmh' h1 h2 hmc)⟩
    | _ => simp [lenDV] at hlen <;> simp at e
  | _ => simp [lenDV] at hlen
theorem sound_sliceA (i : Inv x p h w) (hρ : ERho x p ρ τ) {t el : TypeId} {n sz : Nat} {ag : Bool} (ht : x.under t = some (.array n el)) (hs : x.size el = some sz) {lo hi : Option Operand} {l' h' : Option Opnd}
    (hl : x.opt lo = some l') (hh : x.opt hi = some h') {d v : DV} {a : Value} (hd : DRel p d a)
    (e : opSliceA h ρ ag n sz d l' h' = some v) : ∃ y, DRel p v y ∧ ∀ w, (Instr.sliceAt t a (lo.map τ) (hi.map τ) none).run x.P w = .ok y w := by
  unfold opSliceA at e
  simp only [Option.bind_eq_some_iff] at e
  obtain ⟨hi', ehi, lo', elo, e⟩ := e
  replace e := chk_some e
  obtain ⟨hc, e⟩ := e
  simp only [Bool.and_eq_true] at hc
  have h1 := Nat.le_of_ble_eq_true hc.1
  have h2 := Nat.le_of_ble_eq_true hc.2
  cases hd with
  | @ptr b g off blk base hι =>
    simp only [Option.bind_eq_some_iff] at e
    obtain ⟨cs, hcs, e⟩ := e
    replace e := chk_some e
    obtain ⟨h3, e⟩ := e
    have h3 := Nat.le_of_ble_eq_true h3
    simp only [Option.some.injEq] at e; subst e
    obtain ⟨te, arr, k1, k2, k3, k4, k5⟩ := own_at i hcs hι
    have em : optNat ρ n none = some n := rfl
    have hmul : (n - lo') * sz = n * sz - lo' * sz := Nat.sub_mul _ _ _
    have hle : lo' * sz ≤ n * sz := Nat.mul_le_mul_right _ (by omega)
    refine ⟨.slice (some ⟨blk, if n = lo' then base + off else base + off + lo' * sz, none⟩) (hi' - lo') (n - lo'), ?_, fun w => ?_⟩
    · refine .slice blk base _ _ arr.size hι k4 (by omega) ?_ ⟨rfl, by omega⟩
      by_cases hcl : n = lo'
      · left; omega
      · right; rw [if_neg hcl]; omega
    · have hb := run_bounds (w := w) (isS := false) (mx := none) (m' := none) (cap := n) hρ hl hh rfl elo ehi em (.inl rfl) h1 h2 (Nat.le_refl _)
      simp only [Option.map_none] at hb
      simp only [Instr.sliceAt, Sem.run_bind, run_under ht, Result.andThen_ok, Instr.sureAddr, Sem.run_pure, hb, run_size hs]
      split <;> simp [add_none]
  | f hf => cases hf <;> simp at e
  | _ => simp at e
end
end Go.Dee
end
section
/- Maps. -/
namespace Go.Dee
section
variable {x : Cx} {p q : Pl} {h h' : Heap} {w w' : World} {τ : Operand → Value} {ρ : Env}
theorem mapTy_some {t : TypeId} {ty : ETy} {e : TypeId} (h : x.mapTy t = some (ty, e)) : ∃ k, x.under t = some (.map k e) ∧ x.ety 100 k = some ty ∧
    (((∃ d, x.under k = some d ∧ scalar d = true) ∧ ∀ l, ty ≠ .parts l) ∨ ∃ n c d, x.under k = some (.array n c) ∧ x.under c = some d ∧ scalar d = true) := by
  unfold Cx.mapTy at h
  split at h
  · rename_i k e' hu
    split at h
    · rename_i d hk
      simp only [Option.bind_eq_some_iff, Option.some.injEq, Prod.mk.injEq] at h
      obtain ⟨ty', h1, rfl, rfl⟩ := h
      refine ⟨k, hu, h1, .inl ⟨⟨_, hk, rfl⟩, ?_⟩⟩
      intro l hl; subst hl; unfold Cx.ety at h1; rw [hk] at h1; simp at h1
    · rename_i hk
      simp only [Option.bind_eq_some_iff, Option.some.injEq, Prod.mk.injEq] at h
      obtain ⟨ty', h1, rfl, rfl⟩ := h
      refine ⟨k, hu, h1, .inl ⟨⟨_, hk, rfl⟩, ?_⟩⟩
      intro l hl; subst hl; unfold Cx.ety at h1; rw [hk] at h1; simp at h1
    · rename_i hk
      simp only [Option.bind_eq_some_iff, Option.some.injEq, Prod.mk.injEq] at h
      obtain ⟨ty', h1, rfl, rfl⟩ := h
      refine ⟨k, hu, h1, .inl ⟨⟨_, hk, rfl⟩, ?_⟩⟩
      intro l hl; subst hl; unfold Cx.ety at h1; rw [hk] at h1; simp at h1
    · rename_i n c hk
      simp only [Option.bind_eq_some_iff] at h
      obtain ⟨d, hd, h⟩ := h
      obtain ⟨hs, h⟩ := chk_some h
      simp only [Option.bind_eq_some_iff, Option.some.injEq, Prod.mk.injEq] at h
      obtain ⟨ty', h1, rfl, rfl⟩ := h
      exact ⟨k, hu, h1, .inr ⟨n, c, d, hk, hd, hs⟩⟩
    · simp at h
  · simp at h
theorem checkKey_scalar {k : TypeId} {d : TypeDesc} (hk : x.under k = some d) (hs : scalar d = true) (em : Bool) (n : Nat) (v : Value) (w : World) : (Instr.checkKey em (n + 1) k v).run x.P w = .ok () w := by
  simp only [Instr.checkKey, Sem.run_bind, run_under hk, Result.andThen_ok]
  cases d <;> simp_all [scalar]
theorem forIn_unit (P : Program) (g : Nat → Sem (ForInStep PUnit)) (w : World) (l : List Nat) (h : ∀ i ∈ l, (g i).run P w = .ok (.yield PUnit.unit) w) :
    (forIn l PUnit.unit fun i _ => g i).run P w = .ok PUnit.unit w := by
  induction l with
  | nil => simp
  | cons i l ih =>
    simp only [List.forIn_cons, Sem.run_bind, h i (by simp), Result.andThen_ok]
    exact ih fun j hj => h j (by simp [hj])
theorem checkKey_sound {k : TypeId} {ty : ETy} (ht : x.ety 100 k = some ty)
    (hk : ((∃ d, x.under k = some d ∧ scalar d = true) ∧ ∀ l, ty ≠ .parts l) ∨ ∃ n c d, x.under k = some (.array n c) ∧ x.under c = some d ∧ scalar d = true)
    {kf : FV} {v : Value} {M : Addr → Option Value} (hr : FRel M kf v) (hok : keyOK ty kf = true) (em : Bool) (w : World) : (Instr.checkKey em 10000 k v).run x.P w = .ok () w := by
  show (Instr.checkKey em (9998 + 1 + 1) k v).run x.P w = _
  generalize 9998 = m
  rcases hk with ⟨⟨d, hd, hs⟩, _⟩ | ⟨n, c, d, hd, hc, hs⟩
  · exact checkKey_scalar hd hs em _ v w
  · unfold Cx.ety at ht
    rw [hd] at ht
    simp only [Option.bind_eq_some_iff] at ht
    obtain ⟨et, het, sz, hsz, ag, hag, ht⟩ := ht
    obtain ⟨hone, ht⟩ := chk_some ht
    simp at ht; subst ht
    unfold keyOK at hok
    split at hok <;> first | (exfalso; simp_all; done) | skip
    rename_i l cs hl
    simp at hl; subst hl
    cases hr with | agg vs hlen hh =>
    simp only [Bool.and_eq_true] at hok
    replace hok := hok.2
    simp only [List.all_eq_true, List.mem_map, List.mem_range] at hok
    rw [Instr.checkKey]
    simp only [Sem.run_bind, run_under hd, Result.andThen_ok]
    rw [Std.Legacy.Range.forIn_eq_forIn_range']
    refine (congrArg (fun r : Result PUnit => Result.andThen r fun a w' => (Pure.pure () : Sem Unit).run x.P w') (forIn_unit x.P _ w _ ?_)).trans rfl
    intro i hi
    have hi : i < n := by simpa [Std.Legacy.Range.size] using hi
    have := Nat.le_of_ble_eq_true (hok _ ⟨i, hi, rfl⟩)
    simp only at this
    have hp := run_part (w := w) (off := i * sz) (cs := vs.toArray) hag hsz (by simp; omega) (fun e => by subst e; exact Nat.eq_of_beq_eq_true (by simpa using hone))
    simp only [Sem.run_bind, run_size hsz, Result.andThen_ok, hp, checkKey_scalar hc hs em _ _ w, Sem.run_pure]
def KRes (p : Pl) (l : List MapEntry) (off : Nat) : Option (Nat × DV × Nat) → Option (Nat × Value) → Prop
  | none, none => True
  | some (i, d, n), some (j, v) => j = off + i ∧ ∃ e, l[i]? = some e ∧ e.val = v ∧ DRel p d v ∧ e.born = n
  | _, _ => False
theorem findKey_sound {k : TypeId} {ty : ETy} (ht : x.ety 100 k = some ty)
    (hk : ((∃ d, x.under k = some d ∧ scalar d = true) ∧ ∀ l, ty ≠ .parts l) ∨ ∃ n c d, x.under k = some (.array n c) ∧ x.under c = some d ∧ scalar d = true)
    {kf : FV} {v : Value} (hr : FRel p.M kf v) {es : List (FV × DV × Nat)} {l : List MapEntry} (hl : PW (ERel p) es l) {r : Option (Nat × DV × Nat)} (e : findKey ty kf es = some r) (w : World) :
    ∃ r', (Instr.findKey k v l).run x.P w = .ok r' w ∧ KRes p l 0 r r' := by
  rcases hk with ⟨⟨d, hd, hs⟩, hnp⟩ | ⟨n, c, d, hd, hc, hs⟩
  · have key : ∀ (es : List (FV × DV × Nat)) (l : List MapEntry) (r : Option (Nat × DV × Nat)) (off : Nat), PW (ERel p) es l → findKey ty kf es = some r → ∃ r', Instr.findNow d v l off = some r' ∧ KRes p l off r r' := by
      intro es
      induction es with
      | nil =>
        intro l r off hl e
        rw [hl.nil_left]
        simp [findKey] at e; subst e
        exact ⟨none, rfl, trivial⟩
      | cons a es ih =>
        intro l r off hl e
        obtain ⟨k', v', n'⟩ := a
        obtain ⟨m, l, rfl, hm, hl⟩ := hl.cons_left
        simp only [findKey, Option.bind_eq_some_iff] at e
        obtain ⟨q, hq, e⟩ := e
        have hsame : Instr.sameNow d v m.key = some q := by
          have hkey := hm.key
          unfold Cx.ety at ht
          rw [hd] at ht
          cases d <;> simp only [scalar, Bool.false_eq_true] at hs <;> simp only [Option.some.injEq] at ht <;> subst ht
          · obtain ⟨_, _, rfl, h2, rfl⟩ := eqF_bool hq
            subst h2
            cases hr; generalize m.key = mk at hkey; cases hkey; rfl
          · obtain ⟨_, _, _, rfl, h2, rfl⟩ := eqF_int hq
            subst h2
            cases hr; generalize m.key = mk at hkey; cases hkey
            simp [Instr.sameNow]; rfl
          · obtain ⟨_, _, rfl, h2, rfl⟩ := eqF_str hq
            subst h2
            cases hr; generalize m.key = mk at hkey; cases hkey
            simp only [Instr.sameNow]; congr 1; rw [beq_toListBytes, Bool.eq_iff_iff]; simp
        simp only [Instr.findNow, hsame]
        cases q with
        | true =>
          simp only [cond_true, Option.some.injEq] at e; subst e
          exact ⟨_, rfl, by simp [KRes], m, rfl, rfl, hm.val, hm.born⟩
        | false =>
          simp only [cond_false, Option.bind_eq_some_iff, Option.some.injEq] at e
          obtain ⟨y, hy, rfl⟩ := e
          obtain ⟨r', h1, h2⟩ := ih l y (off + 1) hl hy
          refine ⟨r', h1, ?_⟩
          cases y with
          | none => cases r' <;> simp_all [KRes]
          | some y =>
            obtain ⟨i, dv, nb⟩ := y
            cases r' with
            | none => simp [KRes] at h2
            | some r' => obtain ⟨h3, e0, h4, h5⟩ := h2; exact ⟨by omega, e0, by simpa using h4, h5⟩
    obtain ⟨r', h1, h2⟩ := key es l r 0 hl e
    exact ⟨r', by simp only [Instr.findKey, Sem.run_bind, run_under hd, Result.andThen_ok, h1, Sem.run_pure], h2⟩
  · have key : ∀ (es : List (FV × DV × Nat)) (l : List MapEntry) (r : Option (Nat × DV × Nat)) (off : Nat), PW (ERel p) es l → findKey ty kf es = some r → ∃ r', (Instr.findAsking k v l off).run x.P w = .ok r' w ∧ KRes p l off r r' := by
      intro es
      induction es with
      | nil =>
        intro l r off hl e
        rw [hl.nil_left]
        simp [findKey] at e; subst e
        exact ⟨none, rfl, trivial⟩
      | cons a es ih =>
        intro l r off hl e
        obtain ⟨k', v', n'⟩ := a
        obtain ⟨m, l, rfl, hm, hl⟩ := hl.cons_left
        simp only [findKey, Option.bind_eq_some_iff] at e
        obtain ⟨q, hq, e⟩ := e
        have heq : (Op.equal k v m.key).run x.P w = .ok q w := eqF_sound x 100 k ty 10000 kf k' v m.key q p.M ht (by omega) hr hm.key hq w
        simp only [Instr.findAsking, Sem.run_bind, heq, Result.andThen_ok]
        cases q with
        | true =>
          simp only [cond_true, Option.some.injEq] at e; subst e
          exact ⟨_, rfl, by simp, m, rfl, rfl, hm.val, hm.born⟩
        | false =>
          simp only [cond_false, Option.bind_eq_some_iff, Option.some.injEq] at e
          obtain ⟨y, hy, rfl⟩ := e
          obtain ⟨r', h1, h2⟩ := ih l y (off + 1) hl hy
          refine ⟨r', by simpa using h1, ?_⟩
          cases y with
          | none => cases r' <;> simp_all [KRes]
          | some y =>
            obtain ⟨i, dv, nb⟩ := y
            cases r' with
            | none => simp [KRes] at h2
            | some r' => obtain ⟨h3, e0, h4, h5⟩ := h2; exact ⟨by omega, e0, by simpa using h4, h5⟩
    cases l with
    | nil =>
      obtain ⟨r', h1, h2⟩ := key es [] r 0 hl e
      refine ⟨none, by simp only [Instr.findKey, Sem.run_bind, run_under hd, Result.andThen_ok, Instr.findNow, Sem.run_pure], ?_⟩
      simp [Instr.findAsking] at h1; subst h1; exact h2
    | cons m l =>
      obtain ⟨r', h1, h2⟩ := key es (m :: l) r 0 hl e
      refine ⟨r', ?_, h2⟩
      have : Instr.findNow (.array n c) v (m :: l) 0 = none := by simp [Instr.findNow, Instr.sameNow]
      simp only [Instr.findKey, Sem.run_bind, run_under hd, Result.andThen_ok, this, h1]
theorem map_at (i : Inv x p h w) {b c : Nat} {es : List (FV × DV × Nat)} (hm : h.map b = some (es, c)) {blk : Nat} (hι : p.ι b 0 = some (blk, 0)) :
    ∃ arr, w.heap[blk]? = some (.map arr c) ∧ PW (ERel p) es arr.toList := by
  obtain ⟨k, arr, h1, h2, h3, h4, h5⟩ := i.B b _ (Heap.map_some hm)
  rw [hι] at h1; simp at h1; subst h1
  exact ⟨arr, h2, h3⟩
/- a map's entries are turned -/
theorem map_turn (i : Inv x p h w) {b c c' : Nat} {es es' : List (FV × DV × Nat)} (hm : h.map b = some (es, c)) {blk : Nat} (hι : p.ι b 0 = some (blk, 0)) {arr arr' : Array MapEntry}
    (hw : w.heap[blk]? = some (.map arr c)) (hr : PW (ERel p) es' arr'.toList) :
    Post x p h w p (h.set b (.map es' c')) { w with heap := w.heap.setIfInBounds blk (.map arr' c') } := by
  have hb := Heap.map_some hm
  refine Post.turn i (.map arr' c') (.map es c) _ b blk hb hι rfl ⟨rfl, rfl, rfl⟩ ?_ (.refl p) (.inl rfl) hι ?_
  · intro a e fz hh; rw [hw] at hh; simp at hh
  · obtain ⟨k, arr2, h1, h2, h3, h4, h5⟩ := i.B b _ hb
    rw [hι] at h1; simp at h1; subst h1
    obtain ⟨hlt, _⟩ := Array.getElem?_eq_some_iff.1 hw
    exact ⟨blk, arr', hι, by simp [hlt], hr, h4, h5⟩
theorem getObj_map {blk : Nat} {arr : Array MapEntry} {c : Nat} (hw : w.heap[blk]? = some (.map arr c)) : (getObj blk).run x.P w = .ok (.map arr c) w := by
  simp [getObj, Sem.run, hw]
theorem setObj_map {blk : Nat} {arr arr' : Array MapEntry} {c c' : Nat} (hw : w.heap[blk]? = some (.map arr c)) : (setObj blk (.map arr' c')).run x.P w = .ok () { w with heap := w.heap.setIfInBounds blk (.map arr' c') } := by
  simp [setObj, Sem.run, hw]
theorem okPair_rel {d : DV} {v : Value} (hd : DRel p d v) (ok b : Bool) : DRel p (okPair ok d b) (if ok then .tuple #[v, .bool b] else v) := by
  cases ok with
  | false => exact hd
  | true => exact mkTuple_rel (vs := [v, .bool b]) (.cons hd (.cons (.f (.bool b)) .nil))
theorem sound_lookup (i : Inv x p h w) {t e : TypeId} {ty : ETy} (ht : x.mapTy t = some (ty, e)) {z : FV} (hz : x.zero e = some z) {ok : Bool} {d v : DV} {k : FV} {a kv : Value} (hd : DRel p d a) (hk : FRel p.M k kv)
    (he : opLookup h ty z ok d k = some v) : ∃ y, DRel p v y ∧ (Instr.lookup t a kv ok).run x.P w = .ok y w := by
  obtain ⟨kt, hu, hety, hkind⟩ := mapTy_some ht
  obtain ⟨zv, hzv, hzr, _⟩ := run_zeroA hz
  obtain ⟨hok, he⟩ := chk_some he
  have hck := fun em => checkKey_sound hety hkind hk hok em w
  split at he
  · cases hd with | f hf => cases hf with | nilmap =>
    simp only [Option.some.injEq] at he; subst he
    refine ⟨_, okPair_rel (.f (hzr _)) ok false, ?_⟩
    simp only [Instr.lookup, Sem.run_bind, run_under hu, Result.andThen_ok, Sem.run_pure, hck]
    obtain ⟨r', h1, h2⟩ := findKey_sound hety hkind hk (p := p) (es := []) (l := []) .nil rfl w
    rw [h1]
    cases r' with
    | some r => simp [KRes] at h2
    | none => simp only [Result.andThen_ok, Sem.run_bind, hzv, Sem.run_pure]; try (cases ok <;> rfl)
  · rename_i b
    cases hd with | map blk hι =>
    simp only [Option.bind_eq_some_iff] at he
    obtain ⟨⟨es, c⟩, hm, r, hr, he⟩ := he
    obtain ⟨arr, hw, hl⟩ := map_at i hm hι
    obtain ⟨r', h1, h2⟩ := findKey_sound hety hkind hk hl hr w
    cases r with
    | none =>
      cases r' with
      | some r => simp [KRes] at h2
      | none =>
        simp only [Option.some.injEq] at he; subst he
        refine ⟨_, okPair_rel (.f (hzr _)) ok false, ?_⟩
        simp only [Instr.lookup, Sem.run_bind, run_under hu, Result.andThen_ok, Sem.run_pure, hck, getObj_map hw, h1, hzv]
        try (cases ok <;> rfl)
    | some r =>
      obtain ⟨j, dv, nb⟩ := r
      cases r' with
      | none => simp [KRes] at h2
      | some r' =>
        obtain ⟨h3, e0, h4, h5, h6, h7⟩ := h2
        simp only [Option.some.injEq] at he; subst he
        refine ⟨_, okPair_rel h6 ok true, ?_⟩
        simp only [Instr.lookup, Sem.run_bind, run_under hu, Result.andThen_ok, Sem.run_pure, hck, getObj_map hw, h1]
        try (cases ok <;> rfl)
  · simp at he
end
end Go.Dee
end
section
/- Maps that are written. -/
namespace Go.Dee
section
variable {x : Cx} {p q : Pl} {h h' : Heap} {w w' : World} {τ : Operand → Value} {ρ : Env}
theorem ety_scalar {c : TypeId} {d : TypeDesc} {et : ETy} {n : Nat} (hc : x.under c = some d) (hs : scalar d = true) (h : x.ety n c = some et) : et = .int ∨ et = .bool ∨ et = .str := by
  cases n with
  | zero => simp [Cx.ety] at h
  | succ n =>
    unfold Cx.ety at h
    rw [hc] at h
    cases d <;> simp [scalar] at hs <;> simp at h <;> simp [← h]
theorem eq_one {et : ETy} (he : et = .int ∨ et = .bool ∨ et = .str) {a b : FV} (h : eqF et a b = some true) {u v : Value} {M : Addr → Option Value} (ha : FRel M a u) (hb : FRel M b v) : u = v ∧ ∀ n, Instr.sameBits n v u = true := by
  rcases he with rfl | rfl | rfl
  · obtain ⟨k, m, n, rfl, rfl, hq⟩ := eqF_int h
    cases ha; cases hb; simp at hq; subst hq
    exact ⟨rfl, fun n => by cases n <;> simp [Instr.sameBits]⟩
  · obtain ⟨m, n, rfl, rfl, hq⟩ := eqF_bool h
    cases ha; cases hb; simp at hq; subst hq
    exact ⟨rfl, fun n => by cases n <;> simp [Instr.sameBits]⟩
  · obtain ⟨m, n, rfl, rfl, hq⟩ := eqF_str h
    cases ha; cases hb; simp at hq
    have : m = n := by
      rw [ByteArray.toList_eq, ByteArray.toList_eq] at hq
      obtain ⟨⟨a⟩⟩ := m; obtain ⟨⟨b⟩⟩ := n; simp at hq; subst hq; rfl
    subst this
    have hb : (m == m) = true := by rw [beq_toListBytes]; simp
    exact ⟨rfl, fun n => by cases n <;> simp only [Instr.sameBits, hb]⟩
theorem key_same {k : TypeId} {ty : ETy} (ht : x.ety 100 k = some ty)
    (hk : ((∃ d, x.under k = some d ∧ scalar d = true) ∧ ∀ l, ty ≠ .parts l) ∨ ∃ n c d, x.under k = some (.array n c) ∧ x.under c = some d ∧ scalar d = true)
    {a b : FV} {u v : Value} {M : Addr → Option Value} (hok : keyOK ty a = true) (ha : FRel M a u) (hb : FRel M b v) (h : eqF ty a b = some true) : Instr.sameBits 10000 v u = true := by
  rcases hk with ⟨⟨d, hd, hs⟩, _⟩ | ⟨n, c, d, hd, hc, hs⟩
  · exact (eq_one (ety_scalar hd hs ht) h ha hb).2 _
  · unfold Cx.ety at ht
    rw [hd] at ht
    simp only [Option.bind_eq_some_iff] at ht
    obtain ⟨et, het, sz, hsz, ag, hag, ht⟩ := ht
    obtain ⟨hone, ht⟩ := chk_some ht
    simp at ht; subst ht
    have hag' : ag = false := by
      simp only [Cx.agg, hc, Option.bind_some, Option.some.injEq] at hag
      subst hag; cases d <;> simp_all [scalar, aggDesc]
    subst hag'
    have hz : sz = 1 := Nat.eq_of_beq_eq_true (by simpa using hone)
    subst hz
    have hets := ety_scalar hc hs het
    obtain ⟨as, bs, rfl, rfl, he⟩ := eqF_parts h
    have hlen := eqF_len h
    simp only [keyOK, Bool.and_eq_true, List.length_map, List.length_range] at hok
    have hn : as.length = n := Nat.eq_of_beq_eq_true hok.1
    cases ha with | agg us hl1 h1 => cases hb with | agg vs hl2 h2 =>
    have all : ∀ (l : List Nat), eqFs (l.map fun i => (i * 1, 1, et)) as bs = some true → ∀ i ∈ l, ∃ x y, as[i]? = some x ∧ bs[i]? = some y ∧ eqF et x y = some true := by
      intro l
      induction l with
      | nil => intro _ i hi; simp at hi
      | cons j l ih =>
        intro hh i hi
        simp only [List.map_cons, eqFs, Option.bind_eq_some_iff] at hh
        obtain ⟨xa, hxa, yb, hyb, q, hq, hh⟩ := hh
        have sa : as[j]? = some xa := by rcases hets with rfl | rfl | rfl <;> simpa [subF] using hxa
        have sb : bs[j]? = some yb := by rcases hets with rfl | rfl | rfl <;> simpa [subF] using hyb
        cases q with
        | false => simp at hh
        | true =>
          simp only [cond_true] at hh
          rcases List.mem_cons.1 hi with rfl | hi
          · exact ⟨xa, yb, sa, sb, hq⟩
          · exact ih hh i hi
    have hall := all _ he
    show Instr.sameBits (9999 + 1) _ _ = true
    generalize 9999 = m
    simp only [Instr.sameBits, Bool.and_eq_true, beq_iff_eq, List.size_toArray, List.all_eq_true]
    refine ⟨by omega, ?_⟩
    intro ⟨y, z⟩ hyz
    obtain ⟨i, hi, hget⟩ := List.mem_iff_getElem.1 hyz
    simp at hi
    have hin : i < n := by omega
    obtain ⟨xa, yb, e1, e2, e3⟩ := hall i (by simpa using hin)
    have g1 : us[i]? = some z := by simp at hget; rw [List.getElem?_eq_getElem (by omega)]; simp [← hget.2]
    have g2 : vs[i]? = some y := by simp at hget; rw [List.getElem?_eq_getElem (by omega)]; simp [← hget.1]
    exact (eq_one hets e3 (h1 i xa z e1 g1) (h2 i yb y e2 g2)).2 m
theorem findKey_eq {ty : ETy} {k : FV} : ∀ {es : List (FV × DV × Nat)} {i : Nat} {v : DV} {n : Nat}, findKey ty k es = some (some (i, v, n)) → ∃ k', es[i]? = some (k', v, n) ∧ eqF ty k k' = some true
  | [], _, _, _, h => by simp [findKey] at h
  | (k', v', n') :: es, i, v, n, h => by
    simp only [findKey, Option.bind_eq_some_iff] at h
    obtain ⟨q, hq, h⟩ := h
    cases q with
    | true => simp at h; obtain ⟨rfl, rfl, rfl⟩ := h; exact ⟨k', rfl, hq⟩
    | false =>
      simp only [cond_false, Option.bind_eq_some_iff, Option.some.injEq] at h
      obtain ⟨y, hy, h⟩ := h
      cases y with
      | none => simp at h
      | some y =>
        obtain ⟨j, a, b⟩ := y
        simp at h; obtain ⟨rfl, rfl, rfl⟩ := h
        obtain ⟨k2, h1, h2⟩ := findKey_eq hy
        exact ⟨k2, by simpa using h1, h2⟩
theorem setKV_rel {k : FV} {v : DV} {key val : Value} (hk : FRel p.M k key) (hv : DRel p v val) : ∀ {es : List (FV × DV × Nat)} {l : List MapEntry} (i : Nat), PW (ERel p) es l → PW (ERel p) (setKV i k v es) (l.modify i fun e => { e with key, val })
  | [], l, i, h => by rw [h.nil_left]; simpa [setKV] using PW.nil
  | (k', x', n) :: es, l, i, h => by
    obtain ⟨m, l, rfl, hm, h⟩ := h.cons_left
    cases i with
    | zero => exact .cons ⟨hk, hv, hm.born⟩ h
    | succ i => exact .cons hm (setKV_rel hk hv i h)
theorem setVal_rel {v : DV} {val : Value} (hv : DRel p v val) : ∀ {es : List (FV × DV × Nat)} {l : List MapEntry} (i : Nat), PW (ERel p) es l → PW (ERel p) (setVal i v es) (l.modify i fun e => { e with val })
  | [], l, i, h => by rw [h.nil_left]; simpa [setVal] using PW.nil
  | (k', x', n) :: es, l, i, h => by
    obtain ⟨m, l, rfl, hm, h⟩ := h.cons_left
    cases i with
    | zero => exact .cons ⟨hm.key, hv, hm.born⟩ h
    | succ i => exact .cons hm (setVal_rel hv i h)
theorem keyStays {arr : Array MapEntry} {i : Nat} {e0 : MapEntry} {kv : Value} (h4 : arr.toList[i]? = some e0) (hsame : Instr.sameBits 10000 e0.key kv = true) (w : World) :
    (Instr.keyThatStays (((arr[i]?).map (·.key)).getD kv) kv).run x.P w = .ok kv w := by
  have : arr[i]? = some e0 := by simpa using h4
  simp [Instr.keyThatStays, this, hsame]
theorem sound_insert (i : Inv x p h w) {t e : TypeId} {ty : ETy} (ht : x.mapTy t = some (ty, e)) {d v : DV} {k : FV} {a kv vv : Value} (hd : DRel p d a) (hk : FRel p.M k kv) (hv : DRel p v vv) {h2 : Heap}
    (he : opInsert h ty d k v = some h2) : OpU x p h w (Instr.mapUpdate t a kv vv) h2 := by
  obtain ⟨kt, hu, hety, hkind⟩ := mapTy_some ht
  obtain ⟨hok, he⟩ := chk_some he
  have hck := fun em => checkKey_sound hety hkind hk hok em w
  split at he
  · rename_i b
    cases hd with | map blk hι =>
    simp only [Option.bind_eq_some_iff] at he
    obtain ⟨⟨es, c⟩, hm, r, hr, he⟩ := he
    obtain ⟨arr, hw, hl⟩ := map_at i hm hι
    obtain ⟨r', h1, h2⟩ := findKey_sound hety hkind hk hl hr w
    cases r with
    | none =>
      cases r' with
      | some r => simp [KRes] at h2
      | none =>
        simp only [Option.some.injEq] at he; subst he
        refine ⟨p, _, map_turn (c' := c + 1) (arr' := arr.push { key := kv, val := vv, born := c }) i hm hι hw ?_, ?_⟩
        · simp only [Array.toList_push]
          exact hl.append (.cons ⟨hk, hv, rfl⟩ .nil)
        · simp only [Instr.mapUpdate, Sem.run_bind, run_under hu, Result.andThen_ok, hck, getObj_map hw, h1, setObj_map hw]
    | some r =>
      obtain ⟨j, dv, nb⟩ := r
      cases r' with
      | none => simp [KRes] at h2
      | some r' =>
        obtain ⟨i', v'⟩ := r'
        obtain ⟨h3, e0, h4, h5, h6, h7⟩ := h2
        simp only [Option.some.injEq] at he; subst he
        obtain ⟨k', g1, g2⟩ := findKey_eq hr
        have hsame := key_same hety hkind hok hk (hl.2 j _ _ g1 h4).key g2
        have hi : i' = j := by omega
        subst hi
        refine ⟨p, _, map_turn (c' := c) (arr' := arr.modify i' fun e => { e with key := kv, val := vv }) i hm hι hw ?_, ?_⟩
        · rw [Array.toList_modify]; exact setKV_rel hk hv i' hl
        · simp only [Instr.mapUpdate, Sem.run_bind, run_under hu, Result.andThen_ok, hck, getObj_map hw, h1, keyStays h4 hsame, setObj_map hw]
  · simp at he
theorem sound_mapEntry (i : Inv x p h w) {t e : TypeId} {ty : ETy} (ht : x.mapTy t = some (ty, e)) {z : FV} (hz : x.zero e = some z) {d : DV} {k : FV} {a kv : Value} (hd : DRel p d a) (hk : FRel p.M k kv) {r : DV × Heap}
    (he : opMapEntry h ty z d k = some r) : OpV x p h w (Instr.mapEntry t a kv) r := by
  obtain ⟨kt, hu, hety, hkind⟩ := mapTy_some ht
  obtain ⟨zv, hzv, hzr, _⟩ := run_zeroA hz
  obtain ⟨hok, he⟩ := chk_some he
  obtain ⟨_, he⟩ := chk_some he
  have hck := fun em => checkKey_sound hety hkind hk hok em w
  split at he
  · rename_i b
    cases hd with | map blk hι =>
    simp only [Option.bind_eq_some_iff] at he
    obtain ⟨⟨es, c⟩, hm, r, hr, he⟩ := he
    obtain ⟨arr, hw, hl⟩ := map_at i hm hι
    obtain ⟨r', h1, h2⟩ := findKey_sound hety hkind hk hl hr w
    cases r with
    | none =>
      cases r' with
      | some r => simp [KRes] at h2
      | none =>
        simp only [Option.some.injEq] at he; subst he
        refine ⟨p, _, _, map_turn (c' := c + 1) (arr' := arr.push { key := kv, val := zv, born := c }) i hm hι hw ?_, mkTuple_rel (vs := [zv, .int .i64 c]) (.cons (.f (hzr _)) (.cons (.f (.int _ _)) .nil)), ?_⟩
        · simp only [Array.toList_push]
          exact hl.append (.cons ⟨hk, .f (hzr _), rfl⟩ .nil)
        · simp only [Instr.mapEntry, Sem.run_bind, run_under hu, Result.andThen_ok, hck, getObj_map hw, h1, hzv, setObj_map hw, Sem.run_pure]
          rfl
    | some r =>
      obtain ⟨j, dv, nb⟩ := r
      cases r' with
      | none => simp [KRes] at h2
      | some r' =>
        obtain ⟨i', v'⟩ := r'
        obtain ⟨h3, e0, h4, h5, h6, h7⟩ := h2
        simp only [Option.some.injEq] at he; subst he
        obtain ⟨k', g1, g2⟩ := findKey_eq hr
        have hsame := key_same hety hkind hok hk (hl.2 j _ _ g1 h4).key g2
        have hi : i' = j := by omega
        subst hi
        have hge : arr[i']? = some e0 := by simpa using h4
        refine ⟨p, _, _, map_turn (c' := c) (arr' := arr.modify i' fun e => { e with key := kv }) i hm hι hw ?_, mkTuple_rel (vs := [v', .int .i64 nb]) (.cons h6 (.cons (.f (.int _ _)) .nil)), ?_⟩
        · rw [Array.toList_modify]
          have := setKV_rel (val := v') hk h6 i' hl
          have e2 : (arr.toList.modify i' fun e => { e with key := kv }) = arr.toList.modify i' fun e => { e with key := kv, val := v' } := by
            apply List.ext_getElem?
            intro m
            rw [List.getElem?_modify, List.getElem?_modify]
            by_cases hm : i' = m
            · subst hm; rw [h4]; simp [← h5]
            · simp [hm]
          rw [e2]; exact this
        · have hks := keyStays (x := x) h4 hsame w
          simp only [hge, Option.map_some, Option.getD_some] at hks
          simp only [Instr.mapEntry, Sem.run_bind, run_under hu, Result.andThen_ok, hck, getObj_map hw, h1, hge, Option.map_some, Option.getD_some, hks, setObj_map hw, Sem.run_pure, h7]
          rfl
  · simp at he
theorem findBorn_rel {st : Int} : ∀ {es : List (FV × DV × Nat)} {l : List MapEntry} {i : Nat}, PW (ERel p) es l → findBorn st es = some i → l.findIdx? (fun e => (e.born : Int) == st) = some i
  | [], l, i, h, e => by simp [findBorn] at e
  | (k, v, n) :: es, l, i, h, e => by
    obtain ⟨m, l, rfl, hm, h⟩ := h.cons_left
    have hb := hm.born
    simp only at hb
    simp only [findBorn] at e
    rw [List.findIdx?_cons]
    by_cases hc : (n : Int) = st
    · simp only [hc, decide_true, cond_true, Option.some.injEq] at e; subst e
      simp [hb, hc]
    · simp only [hc, decide_false, cond_false, Option.bind_eq_some_iff, Option.some.injEq] at e
      obtain ⟨j, hj, rfl⟩ := e
      simp [hb, hc, findBorn_rel h hj]
theorem arr_findIdx {α : Type} (arr : Array α) (f : α → Bool) : arr.findIdx? f = arr.toList.findIdx? f := by
  obtain ⟨l⟩ := arr
  simp
theorem sound_entryStore (i : Inv x p h w) {t : TypeId} {d v : DV} {st : Int} {k : IntKind} {a vv : Value} (hd : DRel p d a) (hv : DRel p v vv) {h2 : Heap}
    (he : opEntryStore h d st v = some h2) : OpU x p h w (Instr.entryStore t a (.int k st) vv) h2 := by
  unfold opEntryStore at he
  split at he
  · rename_i b
    cases hd with | map blk hι =>
    simp only [Option.bind_eq_some_iff, Option.some.injEq] at he
    obtain ⟨⟨es, c⟩, hm, j, hj, rfl⟩ := he
    obtain ⟨arr, hw, hl⟩ := map_at i hm hι
    have hf := findBorn_rel hl hj
    have hf' : arr.findIdx? (fun e => (e.born : Int) == st) = some j := by rw [← hf, arr_findIdx]
    refine ⟨p, _, map_turn (c' := c) (arr' := arr.modify j fun e => { e with val := vv }) i hm hι hw ?_, ?_⟩
    · rw [Array.toList_modify]; exact setVal_rel hv j hl
    · simp only [Instr.entryStore, Sem.run_bind, Result.andThen_ok, getObj_map hw, asInt, asIntOf, Sem.run_pure, hf', setObj_map hw]
  · simp at he
theorem sound_mkMap (i : Inv x p h w) : ∃ p' w', Post x p h w p' (h.new (.map [] 0)) w' ∧ DRel p' (.map h.next) (.map (some w.heap.size)) ∧ w' = w.alloc (.map #[] 0) := by
  have hn := i.fresh 0
  refine ⟨p.add h.next 0 w.heap.size 0, _, ?_, .map _ (by simp [Pl.add]), rfl⟩
  refine Post.make i _ (.map [] 0) (h.new (.map [] 0)) h.next 0 0 rfl hn (Heap.get_new_same h _) (fun j hj => Heap.get_new_other h _ j hj) (by simp [Heap.new]) (by simp [Heap.new]) (fun n hn => hn) (.inl (Nat.le_refl _)) _
    (.inl rfl) (by show (p.add h.next 0 w.heap.size 0).ι h.next 0 = _; simp [Pl.add]) ?_
  refine ⟨w.heap.size, #[], by simp [Pl.add], heap_alloc_new' w _, .nil, ?_, ?_⟩
  · intro g' hg
    have : ¬ g' = 0 := by omega
    simp [Pl.add, this, i.fresh g']
  · intro a ha
    cases hm : p.M a with
    | none => simpa [Pl.add] using hm
    | some v => have := i.Mlt hm; omega
end
end Go.Dee
end
section
/- Appending, copying, clearing, making slices. -/
namespace Go.Dee
section
variable {x : Cx} {p q : Pl} {h h' : Heap} {w w' : World} {τ : Operand → Value} {ρ : Env}
theorem At.heap {b o : Nat} {vs : List Value} (a : At w b o vs) (hh : w'.heap = w.heap) : At w' b o vs := by
  intro j v hj; have := a j v hj; unfold World.cell? at this ⊢; rw [hh]; exact this
theorem At.append {b o : Nat} {vs us : List Value} (a : At w b o vs) (c : At w b (o + vs.length) us) : At w b o (vs ++ us) := by
  intro j v hj
  by_cases h1 : j < vs.length
  · rw [List.getElem?_append_left h1] at hj; exact a j v hj
  · rw [List.getElem?_append_right (by omega)] at hj
    have := c _ v hj
    rw [show o + vs.length + (j - vs.length) = o + j by omega] at this; exact this
theorem flatCells_eq : ∀ (es : List FV), flatCells es = (es.flatMap FV.cells).map .f
  | [] => rfl
  | e :: es => by simp [flatCells, flatCells_eq es]
theorem fc_frozen (i : Inv x p h w) {blk sz : Nat} : ∀ (es : List FV) (o : Nat) (X : Nat → Nat → Value), (∀ (k : Nat) (e : FV), es[k]? = some e → e.cells.length = sz) →
    (∀ (k : Nat) (e : FV) (j : Nat) (c : FV), es[k]? = some e → e.cells[j]? = some c → p.M ⟨blk, o + k * sz + j, none⟩ = some (X k j)) →
    (∀ (k : Nat) (e : FV) (j : Nat) (c : FV), es[k]? = some e → e.cells[j]? = some c → FRel p.M c (X k j)) → ∀ n, n ≤ es.length → ∃ vs, CF p.M ((es.take n).flatMap FV.cells) vs ∧ At w blk o vs ∧ vs.length = n * sz
  | [], o, X, _, _, _, n, hn => ⟨[], by simpa using PW.nil, by intro j v hj; simp at hj, by simp at hn; simp [hn]⟩
  | e :: es, o, X, hsz, hM, hr, 0, hn => ⟨[], by simpa using PW.nil, by intro j v hj; simp at hj, by simp⟩
  | e :: es, o, X, hsz, hM, hr, n + 1, hn => by
    obtain ⟨us, h1, h2⟩ := frz_at i hM hr (k := 0) (e := e) rfl
    have h0 := hsz 0 e rfl
    have hul : us.length = sz := by rw [← h1.1]; exact h0
    obtain ⟨vs, h3, h4, h5⟩ := fc_frozen i (blk := blk) (sz := sz) es (o + sz) (fun k j => X (k + 1) j) (fun k e hk => hsz (k + 1) e (by simpa using hk))
      (fun k e j c hk hj => by have := hM (k + 1) e j c (by simpa using hk) hj; rw [Nat.succ_mul] at this; rw [show o + sz + k * sz + j = o + (k * sz + sz) + j by omega]; exact this)
      (fun k e j c hk hj => hr (k + 1) e j c (by simpa using hk) hj) n (by simpa using hn)
    refine ⟨us ++ vs, ?_, ?_, ?_⟩
    · simp only [List.take_succ_cons, List.flatMap_cons]; exact PW.append h1 h3
    · simp only [Nat.zero_mul, Nat.add_zero] at h2
      exact h2.append (by rw [hul]; exact h4)
    · rw [List.length_append, hul, h5, Nat.succ_mul]; omega
/- the first cells of a slice or a string, whatever was drawn since -/
def FC (x : Cx) (w : World) (sz n : Nat) (v : Value) (vs : List Value) : Prop := ∀ w', w'.heap = w.heap → (Builtin.firstCells sz n v).run x.P w' = .ok vs.toArray w'
theorem firstCells_sound (i : Inv x p h w) {sz n : Nat} {d : DV} {v : Value} (hd : DRel p d v) {cs : List DV} (e : firstCells h sz n d = some cs) (hn : ∀ s : ByteArray, v = .string s → n = s.size) : ∃ vs, CD p cs vs ∧ FC x w sz n v vs ∧ vs.length = n * sz := by
  unfold firstCells at e
  cases hd with
  | @slice ag sz' b g off len cap blk base o c m hι hk hl ho hcap =>
    dsimp only at e
    replace e := chk_some e
    obtain ⟨hc, e⟩ := e
    simp only [Bool.and_eq_true] at hc
    have hz := Nat.eq_of_beq_eq_true hc.1; subst hz
    have hnl := Nat.le_of_ble_eq_true hc.2
    simp only [Option.bind_eq_some_iff] at e
    obtain ⟨cs0, hcs, e⟩ := e
    obtain ⟨te, arr, k1, k2, k3, k4, k5⟩ := own_at i hcs hι
    obtain ⟨h2, rfl, h3⟩ := part_some e
    have hlen := k1.1
    refine ⟨_, (k1.drop off).take (n * sz), ?_, ?_⟩
    · intro w' hw'
      have hlen2 : ((((arr.toList.drop base).take cs0.length).drop off).take (n * sz)).length = n * sz := by simp at hlen ⊢; omega
      by_cases hc0 : c = 0
      · have hn0 : n = 0 := by omega
        subst hn0
        simp [Builtin.firstCells, loadCells, loadCellsFrom]
      · have ho' := ho.resolve_left hc0; subst ho'
        have := run_loadCells_list (P := x.P) w' ⟨blk, base + off, none⟩ _ (fun j v hj => by rw [add_none]; exact ((k2.sub off (n * sz)).heap hw') j v hj)
        rw [hlen2] at this
        simp only [Builtin.firstCells]; exact this
    · simp at hlen ⊢; omega
  | f hf =>
    cases hf with
    | nilslice =>
      dsimp only at e
      replace e := chk_some e
      obtain ⟨hc, e⟩ := e
      have hc := Nat.eq_of_beq_eq_true hc; subst hc
      simp at e; subst e
      exact ⟨[], .nil, fun w' _ => by simp [Builtin.firstCells], by simp⟩
    | @slice sz' es cap ad c X hlc hcap ha hsz hM hr =>
      dsimp only at e
      replace e := chk_some e
      obtain ⟨hc, e⟩ := e
      simp only [Bool.and_eq_true] at hc
      have hz := Nat.eq_of_beq_eq_true hc.1; subst hz
      have hnl := Nat.le_of_ble_eq_true hc.2
      simp only [Option.some.injEq] at e; subst e
      obtain ⟨vs, h1, h2, h3⟩ := fc_frozen i (blk := ad.block) es ad.off X hsz hM hr n hnl
      refine ⟨vs, by rw [flatCells_eq]; exact CF.toD h1, ?_, h3⟩
      intro w' hw'
      by_cases hes : es = []
      · subst hes
        have : n = 0 := by simpa using hnl
        subst this
        have : vs = [] := by simpa using h3
        subst this
        simp [Builtin.firstCells, loadCells, loadCellsFrom]
      · have hsp := ha.resolve_left hes
        obtain ⟨b, o, s⟩ := ad
        simp at hsp; subst hsp
        have := run_loadCells_list (P := x.P) w' ⟨b, o, none⟩ vs (fun j v hj => by rw [add_none]; exact (h2.heap hw') j v hj)
        rw [h3] at this
        simp only [Builtin.firstCells]; exact this
    | str s =>
      dsimp only at e
      replace e := chk_some e
      obtain ⟨hc, e⟩ := e
      have hc := Nat.eq_of_beq_eq_true hc; subst hc
      simp only [Option.some.injEq] at e; subst e
      have hns := hn s rfl
      subst hns
      refine ⟨s.data.toList.map fun b => .int .u8 b.toNat, ?_, ?_, ?_⟩
      · have : s.data.toList.take s.size = s.data.toList := List.take_of_length_le (by simp)
        rw [this]
        refine ⟨by simp, ?_⟩
        intro k a b ha hb
        simp only [List.getElem?_map, Option.map_eq_some_iff] at ha hb
        obtain ⟨u, hu, rfl⟩ := ha
        obtain ⟨v, hv, rfl⟩ := hb
        rw [hu] at hv; simp at hv; subst hv; exact .f (.int _ _)
      · intro w' _
        have : s.extract 0 s.size = s := by simp
        simp only [Builtin.firstCells, this, Sem.run_pure]
        congr 1
        apply Array.ext'
        simp
      · simp
    | _ => simp at e
  | _ => simp at e
/- what is appended: how many elements, and their cells -/
def AppX (x : Cx) (w : World) (t u e : TypeId) (sz by' : Nat) (xv : Value) (n : Nat) (vs : List Value) : Prop :=
  (∃ d, x.under u = some d ∧ (∀ k, d ≠ .int k) ∧ Builtin.lenOf xv = Pure.pure n ∧ FC x w sz n xv vs) ∨
  (∃ k k', x.under u = some (.int k) ∧ xv = .int k' n ∧ ∃ zv, (∀ w, (zeroValue e).run x.P w = .ok zv w) ∧ zv.cells.size = sz ∧ vs = ((Array.range (n * sz)).map (zv.cells[· % zv.cells.size]!)).toList)
theorem wrap_small {n : Nat} (h : n < 1099511627776) : IntKind.i64.wrap (n : Int) = n := by
  exact IntWalk.i64_in _ (by omega)
theorem run_append_in {t u e ty : TypeId} {sz by' m n c : Nat} {base : Option Addr} {xv : Value} {vs : List Value} (ht : x.under t = some (.slice e)) (hs : x.size e = some sz) (hb : x.bytes e = some by')
    (hx : AppX x w t u e sz by' xv n vs) (hfit : n * by' < mostBytes ∧ n < mostBytes) (hin : m + n ≤ c) {w1 : World} (hst : ∀ a, base = some a → (storeCells (a.add (m * sz)) vs).run x.P w = .ok () w1) (hno : base = none → w1 = w) :
    (Builtin.append_ #[t, u] ty #[.slice base m c, xv]).run x.P w = .ok (.slice base (m + n) c) w1 := by
  simp only [Cx.bytes, Option.bind_eq_some_iff, Option.some.injEq] at hb
  obtain ⟨inf, hinf, hby⟩ := hb
  rcases hx with ⟨d, hu, hd, hlen, hfc⟩ | ⟨k, k', hu, rfl, zv, hz, hzs, hvs⟩
  · have hz : (match d with | .int _ => true | _ => false) = false := by cases d <;> first | rfl | exact absurd rfl (hd _)
    simp only [Builtin.append_, List.getElem?_toArray, List.getElem?_cons_zero, List.getElem?_cons_succ, Sem.run_bind, run_under ht, Result.andThen_ok, run_size hs, run_under hu, Sem.run_pure, hz, Bool.false_eq_true, if_false, hlen, Sem.run_ite, Bool.not_false, if_true]
    rw [if_pos hin]
    simp only [hfc w rfl, Result.andThen_ok]
    cases base with
    | none => simp [hno rfl]
    | some a => simp [hst a rfl]
  · have hw := wrap_small hfit.2
    have h1 : ¬ ((n : Int) < 0) := by omega
    have h2 : ¬ ((n : Int) * inf.bytes > 2 ^ 48) := by
      rw [hby]; unfold mostBytes at hfit
      have : ((n * by' : Nat) : Int) = (n : Int) * by' := by simp
      rw [← this]; omega
    simp only [Builtin.append_, List.getElem?_toArray, List.getElem?_cons_zero, List.getElem?_cons_succ, Sem.run_bind, run_under ht, Result.andThen_ok, run_size hs, run_under hu, Sem.run_pure, if_true, asInt, asIntOf, hw, Sem.run_ite, typeInfo, run_program, hinf, Bool.not_true, Bool.false_eq_true, if_false]
    rw [if_neg h1, if_neg h2]
    simp only [Int.toNat_natCast]
    rw [if_pos hin]
    by_cases h0 : n * sz = 0
    · have hv0 : vs = [] := by rw [hvs, h0]; simp
      subst hv0
      rw [if_pos h0]
      simp only [Result.andThen_ok]
      cases base with
      | none => simp [hno rfl]
      | some a => simp [hst a rfl]
    · rw [if_neg h0]
      have hzc : Builtin.zeroCells zv.cells n = vs.toArray := by rw [hvs, Array.toArray_toList]; unfold Builtin.zeroCells; rw [hzs]
      simp only [Sem.run_bind, hz, Result.andThen_ok, Sem.run_pure, hzc]
      cases base with
      | none => simp [hno rfl]
      | some a => simp [hst a rfl]
theorem fin1 (w : World) (d m k : Nat) (e : TypeId) (old vs : List Value) (rest : Array Value) :
    (Result.ok (Value.slice (some ⟨w.heap.size, 0, none⟩) m k) { w with drawn := d, heap := w.heap.push (.cells (old.toArray ++ vs.toArray ++ rest) e) } : Result Value) =
      .ok (.slice (some ⟨w.heap.size, 0, none⟩) m k) ({ w with drawn := d }.alloc (.cells (old ++ vs ++ rest.toList).toArray e)) := by
  have : (old.toArray ++ vs.toArray ++ rest) = (old ++ vs ++ rest.toList).toArray := by
    apply Array.ext'; simp
  rw [this]; rfl
theorem run_append_out {t u e ty : TypeId} {sz by' m n c : Nat} {base : Option Addr} {xv : Value} {vs old : List Value} (ht : x.under t = some (.slice e)) (hs : x.size e = some sz) (hb : x.bytes e = some by') {z : FV} (hzero : x.zero e = some z)
    (hx : AppX x w t u e sz by' xv n vs) (hfit : (m + n) * by' < mostBytes ∧ m + n < mostBytes) (hb0 : by' ≠ 0) (hout : c < m + n) (hold : FC x w sz m (.slice base m c) old) :
    ∃ (k : Nat) (rest : List Value), m + n ≤ k ∧ rest.length = (k - (m + n)) * sz ∧ (Builtin.append_ #[t, u] ty #[.slice base m c, xv]).run x.P w =
      .ok (.slice (some ⟨w.heap.size, 0, none⟩) (m + n) k) ({ w with drawn := w.drawn + 1 }.alloc (.cells (old ++ vs ++ rest).toArray e)) := by
  obtain ⟨zv, hzv, hzr, inf, hinf, hiz, hzl⟩ := run_zeroA hzero
  have hby : inf.bytes = by' := by simp [Cx.bytes, hinf] at hb; exact hb
  have hsz : inf.size = sz := by simp [Cx.size, hinf] at hs; exact hs
  have hzs : zv.cells.size = sz := by have := (hzr fun _ => none).cells.1; simp at this; omega
  let k := (Question.appendCap (m + n) c e).cut (w.tape w.drawn (.appendCap (m + n) c e))
  have hk : m + n ≤ k := by simp only [k, Question.cut]; omega
  refine ⟨k, (Builtin.zeroCells zv.cells (k - (m + n))).toList, hk, by simp [Builtin.zeroCells, hzs], ?_⟩
  have hnot : ¬ m + n ≤ c := by omega
  have hcap := nextslicecap_le hout
  have hbig : ¬ Builtin.nextslicecap (m + n) c * inf.bytes > 2 ^ 48 := by
    rw [hby]
    have := Nat.mul_le_mul_right by' hcap
    rw [Nat.mul_assoc] at this
    unfold mostBytes at hfit; omega
  have hmax : ¬ (((m + n : Nat) : Int) > IntKind.i64.max) := by unfold mostBytes at hfit; rw [IntKind.max_i64]; omega
  rcases hx with ⟨d, hu, hd, hlen, hfc⟩ | ⟨k1, k', hu, rfl, zv', hz, hzs', hvs⟩
  · have hz : (match d with | .int _ => true | _ => false) = false := by cases d <;> first | rfl | exact absurd rfl (hd _)
    simp only [Builtin.append_, List.getElem?_toArray, List.getElem?_cons_zero, List.getElem?_cons_succ, Sem.run_bind, run_under ht, Result.andThen_ok, run_size hs, run_under hu, Sem.run_pure, hz, Bool.false_eq_true, if_false, hlen, Sem.run_ite, Bool.not_false, if_true]
    rw [if_neg hnot]
    simp only [typeInfo, Sem.run_bind, run_program, hinf, Sem.run_pure, Result.andThen_ok]
    rw [if_neg (fun hh => hmax hh.1), if_neg hbig]
    simp only [Sem.run_bind, run_choose, Question.forced, Bool.false_eq_true, if_false, Result.andThen_ok, run_askRoom, hold { w with drawn := w.drawn + 1 } rfl, hfc { w with drawn := w.drawn + 1 } rfl, hzv, Sem.run_pure, newRow, run_newObj]
    exact fin1 _ _ _ _ _ _ _ _
  · have hw := wrap_small (show n < 1099511627776 by unfold mostBytes at hfit; omega)
    have h1 : ¬ ((n : Int) < 0) := by omega
    have h2 : ¬ ((n : Int) * inf.bytes > 2 ^ 48) := by
      rw [hby]; unfold mostBytes at hfit
      have e1 : ((n * by' : Nat) : Int) = (n : Int) * by' := by simp
      have e2 : n * by' ≤ (m + n) * by' := Nat.mul_le_mul_right _ (by omega)
      rw [← e1]; omega
    have hzz : zv' = zv := by have := hz w; rw [hzv] at this; simp at this; exact this.symm
    subst hzz
    simp only [Builtin.append_, List.getElem?_toArray, List.getElem?_cons_zero, List.getElem?_cons_succ, Sem.run_bind, run_under ht, Result.andThen_ok, run_size hs, run_under hu, Sem.run_pure, if_true, asInt, asIntOf, hw, Sem.run_ite, typeInfo, run_program, hinf, Bool.not_true, Bool.false_eq_true, if_false]
    rw [if_neg h1, if_neg h2]
    simp only [Int.toNat_natCast]
    rw [if_neg hnot, if_neg (fun hh => hmax hh.1), if_neg hbig]
    simp only [Sem.run_bind, run_choose, Question.forced, Bool.false_eq_true, if_false, Result.andThen_ok, run_askRoom, hold { w with drawn := w.drawn + 1 } rfl, Sem.run_ite, Sem.run_pure]
    have hfin : ∀ w', (zeroValue e).run x.P w' = .ok zv' w' := hzv
    split
    · rename_i h0
      have : vs = [] := by rw [hvs, h0]; simp
      subst this
      simp only [hfin, Result.andThen_ok, newRow, Sem.run_bind, run_newObj, Sem.run_pure]
      exact fin1 _ _ _ _ _ _ _ _
    · have hzc : Builtin.zeroCells zv'.cells n = vs.toArray := by rw [hvs, Array.toArray_toList]; unfold Builtin.zeroCells; rw [hzs]
      simp only [hfin, Result.andThen_ok, newRow, Sem.run_bind, run_newObj, Sem.run_pure, hzc]
      exact fin1 _ _ _ _ _ _ _ _
end
end Go.Dee
end
section
/- Appending, copying, clearing: what the interpreter says of them. -/
namespace Go.Dee
section
variable {x : Cx} {p q : Pl} {h h' : Heap} {w w' : World} {τ : Operand → Value} {ρ : Env}
theorem drew_inv (i : Inv x p h w) : Inv x p h { w with drawn := w.drawn + 1 } := i.world rfl
theorem drew_post (i : Inv x p h w) : Post x p h w p h { w with drawn := w.drawn + 1 } := .world i rfl ⟨rfl, rfl, rfl⟩
theorem CD.one_row (i : Inv x p h w) (e : TypeId) {cs : List DV} {vs rest : List Value} (hc : CD p cs vs) :
    ∃ p', Post x p h w p' (h.new (.cells 0 cs)) ({ w with drawn := w.drawn + 1 }.alloc (.cells (vs ++ rest).toArray e)) ∧ p'.ι h.next 0 = some (w.heap.size, 0) ∧ p'.K w.heap.size = some (vs.length + rest.length) := by
  obtain ⟨p', h1, h2, h3⟩ := new_sound (rest := rest) (drew_inv i) e hc
  exact ⟨p', (drew_post i).trans h1, h2, h3⟩
/- a live block that is given up for a longer one elsewhere -/
theorem bump_new (i : Inv x p h w) (e : TypeId) {b g : Nat} {cs0 cs : List DV} {vs rest : List Value} (hb : h.cells b g = some cs0) (hc : CD p cs vs) :
    ∃ p', Post x p h w p' (h.set b (.cells (g + 1) cs)) (w.alloc (.cells (vs ++ rest).toArray e)) ∧ p'.ι b (g + 1) = some (w.heap.size, 0) ∧ p'.K w.heap.size = some (vs.length + rest.length) := by
  have hblk := Heap.cells_some hb
  obtain ⟨k, bs, te, arr, h1, h2, h3, h4, h5, h6, h7⟩ := i.B b _ hblk
  have hn : p.ι b (g + 1) = none := h7 _ (by omega)
  refine ⟨(p.add b (g + 1) w.heap.size 0).row w.heap.size (vs.length + rest.length), ?_, by simp [Pl.add, Pl.row], by simp [Pl.row]⟩
  have ext : Ext p ((p.add b (g + 1) w.heap.size 0).row w.heap.size (vs.length + rest.length)) := (Pl.add_ext hn).trans (Pl.row_ext (.inl i.Kfresh))
  refine Post.make i _ (.cells (g + 1) cs) (h.set b (.cells (g + 1) cs)) b (g + 1) 0 rfl hn (Heap.get_set_same h b _ _ hblk) (fun j hj => Heap.get_set_other h b j _ hj) (i.idlt hblk) (Nat.le_refl _) (fun n hn => mem_addLog.2 (.inr hn)) (.inr (mem_addLog.2 (.inl rfl))) _
    (.inr ⟨_, _, e, _, rfl, rfl, by simp⟩) ⟨0, by simp [Pl.add, Pl.row]⟩ ?_
  refine ⟨w.heap.size, 0, e, _, by simp [Pl.add, Pl.row], by simp [Pl.row], heap_alloc_new' w _, ?_, ?_, ?_, ?_⟩
  · simp; have := hc.1; omega
  · have := hc.mono ext
    simpa [hc.1] using this
  · intro a ha
    cases hm : p.M a with
    | none => simpa [Pl.add, Pl.row] using hm
    | some v => have := i.Mlt hm; omega
  · intro g' hg
    have : ¬ g' = g + 1 := by omega
    simp [Pl.add, Pl.row, this, h7 g' (by omega)]
/- a live block that grows where it lies -/
theorem bump_in (i : Inv x p h w) {b g off : Nat} {cs0 old new : List DV} (hb : h.cells b g = some cs0) {m : Nat} (ho : part cs0 off m = some old) {blk base n : Nat} (hι : p.ι b g = some (blk, base)) (hk : p.K blk = some n)
    {vs : List Value} (hv : CD p new vs) (h1 : ∀ v ∈ vs, v.oneCell' = true) (hfit : base + off + m + vs.length ≤ n) :
    ∃ p' w', (storeCells ⟨blk, base + off + m, none⟩ vs).run x.P w = .ok () w' ∧ Post x p h w p' (h.set b (.cells (g + 1) (old ++ new))) w' ∧ p'.ι b (g + 1) = some (blk, base + off) ∧ p'.K blk = some n := by
  have hblk := Heap.cells_some hb
  obtain ⟨e, arr, k1, k2, k3, k4, k5⟩ := own_at i hb hι
  rw [hk] at k4; simp at k4
  obtain ⟨k, bs, te, arr2, m1, m2, m3, m4, m5, m6, m7⟩ := i.B b _ hblk
  have hn : p.ι b (g + 1) = none := m7 _ (by omega)
  obtain ⟨h2, rfl, h3⟩ := part_some ho
  have run := run_storeCells_at x.P blk (base + off + m) e vs 0 arr w k3 (by omega) h1
  have ext : Ext p (p.add b (g + 1) blk (base + off)) := Pl.add_ext hn
  have hlen := k1.1
  refine ⟨p.add b (g + 1) blk (base + off), _, run, ?_, by simp [Pl.add], by simp [Pl.add, hk]⟩
  have hsz : (arr.toList.take (base + off + m + 0) ++ vs ++ arr.toList.drop (base + off + m + 0 + vs.length)).toArray.size = arr.size := by
    simp; omega
  refine Post.turn i (.cells (arr.toList.take (base + off + m + 0) ++ vs ++ arr.toList.drop (base + off + m + 0 + vs.length)).toArray e (0, 0)) (.cells g cs0) _ b blk hblk ⟨base, hι⟩ (setRow_eq w blk _ arr e (0, 0) k3) ⟨rfl, rfl, rfl⟩ ?_ ext (.inr ⟨_, _, rfl, hn⟩) ⟨base + off, by simp [Pl.add]⟩ ?_
  · intro arr' e' fz' hh
    rw [k3] at hh; simp at hh; obtain ⟨rfl, rfl, rfl⟩ := hh
    exact ⟨_, rfl, hsz⟩
  · refine ⟨blk, base + off, e, _, by simp [Pl.add], by rw [hsz]; simp [Pl.add, hk, k4], ?_, ?_, ?_, ?_, ?_⟩
    · rw [setRow_eq w blk _ arr e (0, 0) k3]
      obtain ⟨hlt, _⟩ := Array.getElem?_eq_some_iff.1 k3
      simp [hlt]
    · rw [hsz]; have := hv.1; simp; omega
    · have hvl := hv.1
      have e1 : (((arr.toList.take (base + off + m + 0) ++ vs ++ arr.toList.drop (base + off + m + 0 + vs.length)).toArray.toList.drop (base + off)).take ((List.take m (List.drop off cs0)) ++ new).length) = ((((arr.toList.drop base).take cs0.length).drop off).take m) ++ vs := by
        apply List.ext_getElem?
        intro j
        simp only [List.getElem?_take, List.getElem?_drop, List.getElem?_append, List.length_take, List.length_append, List.length_drop, List.append_assoc, Nat.add_zero, Array.length_toList]
        have q1 : min (base + off + m) arr.size = base + off + m := by omega
        have q2 : min m (cs0.length - off) = m := by omega
        have q3 : min m (min cs0.length (arr.size - base) - off) = m := by omega
        rw [q1, q2, q3]
        by_cases c1 : j < m
        · simp [c1, show j < m + new.length by omega, show base + off + j < base + off + m by omega, show off + j < cs0.length by omega, Nat.add_assoc]
        · by_cases c2 : j < m + vs.length
          · simp [c1, show j < m + new.length by omega, show ¬ base + off + j < base + off + m by omega, show base + off + j - (base + off + m) = j - m by omega, show j - m < vs.length by omega]
          · simp [c1, show ¬ j < m + new.length by omega, show ¬ j - m < vs.length by omega]
      rw [e1]
      exact CD.mono ext (((k1.drop off).take m).append hv)
    · intro a ha
      have : p.M a = none := i.ownsM ⟨_, hblk, ⟨base, hι⟩⟩ a ha
      simpa [Pl.add] using this
    · intro g' hg
      have : ¬ g' = g + 1 := by omega
      simp [Pl.add, this, m7 g' (by omega)]
theorem sound_append (i : Inv x p h w) {t u e ty : TypeId} {ag : Bool} {sz by' m n : Nat} {xv v : Value} {vs : List Value} (ht : x.under t = some (.slice e)) (hs : x.size e = some sz) (hb : x.bytes e = some by') {z : FV} (hz : x.zero e = some z)
    (hsz0 : sz ≠ 0) (hb0 : by' ≠ 0) (hx : AppX x w t u e sz by' xv n vs) {d : DV} (hd : DRel p d v) (hm : lenDV d = some m) {new : List DV} (hnew : CD p new vs) (hvl : vs.length = n * sz) {r : DV × Heap}
    (he : opAppend h ag sz by' d m n new = some r) : OpV x p h w (Builtin.append_ #[t, u] ty #[v, xv]) r := by
  unfold opAppend at he
  replace he := chk_some he
  obtain ⟨hc, he⟩ := he
  simp only [Bool.and_eq_true] at hc
  have hfit1 : (m + n) * by' < mostBytes := Nat.lt_of_succ_le (Nat.le_of_ble_eq_true hc.1)
  have hfit2 : m + n < mostBytes := Nat.lt_of_succ_le (Nat.le_of_ble_eq_true hc.2)
  have hfit : n * by' < mostBytes ∧ n < mostBytes := ⟨Nat.lt_of_le_of_lt (Nat.mul_le_mul_right _ (by omega)) hfit1, by omega⟩
  by_cases hn : n = 0
  · subst hn
    simp only [Nat.beq_refl, cond_true] at he
    have hv0 : vs = [] := by simpa using hvl
    subst hv0
    rcases lenDV_rel hd hm with ⟨a, c, rfl, hlc⟩ | ⟨s, rfl, _, rfl⟩
    · have hr : r = (d, h) := by
        split at he
        · simp at he
        · simpa using he.symm
      subst hr
      have := run_append_in (ty := ty) (base := a) (m := m) (c := c) (w1 := w) ht hs hb hx hfit (by omega) (fun a _ => by simp [storeCells]) (fun _ => rfl)
      exact .pure i hd this
    · simp at he
  · simp only [beq_false hn, cond_false] at he
    unfold appendCells at he
    cases hd with
    | @slice ag' sz' b g off len cap blk base o c k hι hk hl ho hcap =>
      simp [lenDV] at hm; subst hm
      dsimp only at he
      replace he := chk_some he
      obtain ⟨hc, he⟩ := he
      simp only [Bool.and_eq_true] at hc
      have hzz := Nat.eq_of_beq_eq_true hc.1; subst hzz
      have hone := allOne_rel hnew hc.2
      simp only [Option.bind_eq_some_iff] at he
      obtain ⟨cs, hcs, he⟩ := he
      obtain ⟨te, arr, k1, k2, k3, k4, k5⟩ := own_at i hcs hι
      rw [hk] at k4; simp at k4
      have hmul : (len + n) * sz = len * sz + n * sz := Nat.add_mul _ _ _
      cases hcond : (Nat.ble (off + (len + n) * sz) cs.length && fitsIn cap (len + n)) with
      | true =>
        simp only [hcond, cond_true, Option.bind_eq_some_iff, Option.some.injEq] at he
        obtain ⟨cs', hcs', rfl⟩ := he
        simp only [Bool.and_eq_true] at hcond
        have g1 := Nat.le_of_ble_eq_true hcond.1
        have hin : len + n ≤ c := by
          cases cap with
          | some k0 => have := Nat.le_of_ble_eq_true hcond.2; have := hcap.1; omega
          | none =>
            have hc' := hcap
            simp only at hc'
            have : (len + n) * sz ≤ c * sz := by omega
            exact Nat.le_of_mul_le_mul_right this (by omega)
        have hc0 : c ≠ 0 := by omega
        have ho' := ho.resolve_left hc0; subst ho'
        obtain ⟨w2, hrun, hpost⟩ := put_sound i hcs hcs' hι hnew hone
        refine ⟨p, w2, .slice (some ⟨blk, base + off, none⟩) (len + n) c, hpost, .slice blk base _ c k hι hk hin (.inr rfl) hcap, ?_⟩
        refine run_append_in ht hs hb hx hfit hin (fun a ha => ?_) (fun h0 => by simp at h0)
        simp at ha; subst ha
        rw [add_none, Nat.add_assoc]; exact hrun
      | false =>
        simp only [hcond, cond_false, Option.bind_eq_some_iff] at he
        obtain ⟨old, hold', he⟩ := he
        obtain ⟨q1, q2, q3⟩ := part_some hold'
        have hfc : ∃ ovs, CD p old ovs ∧ FC x w sz len (.slice (some ⟨blk, o, none⟩) len c) ovs ∧ ovs.length = len * sz := by
          have e1 : firstCells h sz len (.slice ag' sz b g off len cap) = some old := by
            simp only [firstCells, Nat.beq_refl, Bool.true_and, hcs, Option.bind_some, hold']
            have : Nat.ble len len = true := Nat.ble_eq_true_of_le (Nat.le_refl _)
            simp [this, chk]
          exact firstCells_sound i (.slice blk base o c k hι hk hl ho hcap) e1 (fun s hs => by simp at hs)
        obtain ⟨ovs, o1, o2, o3⟩ := hfc
        cases cap with
        | some k0 =>
          replace he := chk_some he
          obtain ⟨hlt, he⟩ := he
          have hlt := Nat.lt_of_succ_le (Nat.le_of_ble_eq_true hlt)
          simp only [Option.some.injEq] at he; subst he
          have hout : c < len + n := by have := hcap.1; omega
          obtain ⟨kk, rest, r1, r2, r3⟩ := run_append_out (w := w) (ty := ty) ht hs hb hz hx ⟨hfit1, hfit2⟩ hb0 hout o2
          obtain ⟨p', s1, s2, s3⟩ := CD.one_row (rest := rest) i e (o1.append hnew)
          refine ⟨p', _, _, s1, .slice w.heap.size 0 0 kk _ s2 s3 r1 (.inr rfl) ?_, r3⟩
          simp only [List.length_append, o3, hvl, r2]
          have := Nat.sub_mul kk (len + n) sz
          have := Nat.mul_le_mul_right sz r1
          omega
        | none =>
          simp only [Option.some.injEq] at he; subst he
          by_cases hin : len + n ≤ c
          · have hc0 : c ≠ 0 := by omega
            have ho' := ho.resolve_left hc0; subst ho'
            have hc' := hcap
            simp only at hc'
            have hmm := Nat.mul_le_mul_right sz hin
            obtain ⟨p', w2, s1, s2, s3, s4⟩ := bump_in i hcs hold' hι hk hnew hone (by rw [hvl]; omega)
            refine ⟨p', w2, .slice (some ⟨blk, base + off, none⟩) (len + n) c, s2, .slice blk (base + off) _ c k s3 s4 hin (.inr (by omega)) (by simpa using hc'), ?_⟩
            refine run_append_in ht hs hb hx hfit hin (fun a ha => ?_) (fun h0 => by simp at h0)
            simp at ha; subst ha
            rw [add_none]; exact s1
          · have hout : c < len + n := by omega
            obtain ⟨kk, rest, r1, r2, r3⟩ := run_append_out (w := w) (ty := ty) ht hs hb hz hx ⟨hfit1, hfit2⟩ hb0 hout o2
            obtain ⟨p', s1, s2, s3⟩ := bump_new (w := { w with drawn := w.drawn + 1 }) (rest := rest) (drew_inv i) e hcs (o1.append hnew)
            refine ⟨p', _, _, (drew_post i).trans s1, .slice w.heap.size 0 0 kk _ s2 s3 r1 (.inr rfl) ?_, r3⟩
            simp only [List.length_append, o3, hvl, r2]
            have := Nat.sub_mul kk (len + n) sz
            have := Nat.mul_le_mul_right sz r1
            omega
    | f hf =>
      cases hf with
      | nilslice =>
        simp [lenDV] at hm; subst hm
        simp only [Option.some.injEq] at he; subst he
        have hout : 0 < 0 + n := by omega
        obtain ⟨kk, rest, r1, r2, r3⟩ := run_append_out (w := w) (ty := ty) (base := none) (old := []) ht hs hb hz hx ⟨hfit1, hfit2⟩ hb0 hout (fun w' _ => by simp [Builtin.firstCells])
        obtain ⟨p', s1, s2, s3⟩ := CD.one_row (rest := rest) i e hnew
        simp only [Nat.zero_add] at r1 r2 r3
        refine ⟨p', _, _, s1, .slice w.heap.size 0 0 kk _ s2 s3 r1 (.inr rfl) ?_, by simpa using r3⟩
        simp only [hvl, r2]
        have := Nat.sub_mul kk n sz
        have := Nat.mul_le_mul_right sz r1
        omega
      | @slice sz' es cap ad c X hlc hcap ha hsz hM hr =>
        simp [lenDV] at hm; subst hm
        cases cap with
        | none => simp at he
        | some k0 =>
          dsimp only at he
          replace he := chk_some he
          obtain ⟨hc, he⟩ := he
          simp only [Bool.and_eq_true] at hc
          have hzz := Nat.eq_of_beq_eq_true hc.1; subst hzz
          have hlt := Nat.lt_of_succ_le (Nat.le_of_ble_eq_true hc.2)
          simp only [Option.some.injEq] at he; subst he
          simp at hcap; subst hcap
          have e1 : firstCells h sz es.length (.f (.slice sz es (some k0))) = some (flatCells es) := by
            have : Nat.ble es.length es.length = true := Nat.ble_eq_true_of_le (Nat.le_refl _)
            simp [firstCells, chk, this]
          obtain ⟨ovs, o1, o2, o3⟩ := firstCells_sound i (.f (.slice ad k0 X hlc (.inr rfl) ha hsz hM hr)) e1 (fun s hs => by simp at hs)
          obtain ⟨kk, rest, r1, r2, r3⟩ := run_append_out (w := w) (ty := ty) ht hs hb hz hx ⟨hfit1, hfit2⟩ hb0 hlt o2
          obtain ⟨p', s1, s2, s3⟩ := CD.one_row (rest := rest) i e (o1.append hnew)
          refine ⟨p', _, _, s1, .slice w.heap.size 0 0 kk _ s2 s3 r1 (.inr rfl) ?_, r3⟩
          simp only [List.length_append, o3, hvl, r2]
          have := Nat.sub_mul kk (es.length + n) sz
          have := Nat.mul_le_mul_right sz r1
          have := Nat.add_mul es.length n sz
          omega
      | _ => simp at he
    | _ => simp [lenDV] at hm
end
end Go.Dee
end
section
/- The other operations. -/
namespace Go.Dee
section
variable {x : Cx} {p q : Pl} {h h' : Heap} {w w' : World} {τ : Operand → Value} {ρ : Env}
theorem storeCells_nil {a : Addr} : (storeCells a []).run x.P w = .ok () w := by simp [storeCells]
/- writing the first cells of a live slice -/
theorem slice_put (i : Inv x p h w) {ag : Bool} {sz b g off len : Nat} {cap : Option Nat} {v : Value} (hd : DRel p (.slice ag sz b g off len cap) v) {cs cs' new : List DV} (hcs : h.cells b g = some cs) (hp : putAt cs off new = some cs')
    {vs : List Value} (hv : CD p new vs) (h1 : ∀ v ∈ vs, v.oneCell' = true) (hn : new.length ≤ len * sz) : ∃ a c w', v = .slice (some a) len c ∧ (storeCells a vs).run x.P w = .ok () w' ∧ Post x p h w p (h.set b (.cells g cs')) w' := by
  cases hd with
  | slice blk base o c n hι hk hl ho hcap =>
    obtain ⟨w2, hrun, hpost⟩ := put_sound i hcs hp hι hv h1
    by_cases hc : c = 0
    · have hl0 : len = 0 := by omega
      subst hl0
      have hnil : vs = [] := by have := hv.1; simp at hn; simp [hn] at this; exact List.length_eq_zero_iff.1 this.symm
      subst hnil
      refine ⟨_, c, w2, rfl, ?_, hpost⟩
      simp only [storeCells, Sem.run_pure] at hrun ⊢
      exact hrun
    · have ho' := ho.resolve_left hc; subst ho'
      exact ⟨_, c, w2, rfl, hrun, hpost⟩
theorem sound_copy (i : Inv x p h w) {t u e ty : TypeId} {sz m n : Nat} (ht : x.under t = some (.slice e)) (hs : x.size e = some sz) {a b : DV} {va vb : Value} (ha : DRel p a va) (hb : DRel p b vb) (hm : lenDV a = some m) (hn : lenDV b = some n)
    {new : List DV} (hf : firstCells h sz (Nat.min n m) b = some new) (hstr : ∀ s : ByteArray, vb ≠ .string s) {r : DV × Heap} (he : opCopy h sz a new (Nat.min n m) = some r) : OpV x p h w (Builtin.copy_ #[t, u] ty #[va, vb]) r := by
  obtain ⟨vs, f1, f2, f3⟩ := firstCells_sound i hb hf (fun s hs => absurd hs (hstr s))
  have hlen : ∃ q c, vb = .slice q n c := by
    rcases lenDV_rel hb hn with ⟨q, c, rfl, _⟩ | ⟨s, rfl, _⟩
    · exact ⟨q, c, rfl⟩
    · exact absurd rfl (hstr s)
  obtain ⟨q, c, rfl⟩ := hlen
  unfold opCopy at he
  cases ha with
  | @slice ag sz' b' g off len cap blk base o cc k hι hk hl ho hcap =>
    simp [lenDV] at hm; subst hm
    dsimp only at he
    replace he := chk_some he
    obtain ⟨hc, he⟩ := he
    simp only [Bool.and_eq_true] at hc
    have hzz := Nat.eq_of_beq_eq_true hc.1; subst hzz
    simp only [Option.bind_eq_some_iff, Option.some.injEq] at he
    obtain ⟨cs, hcs, cs', hcs', rfl⟩ := he
    have hnl : new.length ≤ len * sz := by rw [f1.1, f3]; exact Nat.mul_le_mul_right _ (Nat.min_le_right _ _)
    obtain ⟨a, c2, w2, e1, e2, e3⟩ := slice_put (ag := ag) i (.slice blk base o cc k hι hk hl ho hcap) hcs hcs' f1 (allOne_rel f1 hc.2) hnl
    simp only [Value.slice.injEq] at e1
    obtain ⟨e1a, _, e1c⟩ := e1
    refine ⟨p, w2, _, e3, .f (.int _ _), ?_⟩
    have hfw := f2 w rfl
    simp only [Builtin.copy_, List.getElem?_toArray, List.getElem?_cons_zero, List.getElem?_cons_succ, Sem.run_bind, run_under ht, Result.andThen_ok, Builtin.lenOf, Sem.run_pure, run_size hs, hfw]
    have : a = ⟨blk, o, none⟩ := by simpa using e1a.symm
    subst this
    simp only [e2, Result.andThen_ok]
    rfl
  | f hfa =>
    cases hfa with
    | nilslice =>
      simp [lenDV] at hm; subst hm
      simp only [Option.some.injEq] at he; subst he
      refine .pure i (.f (.int _ _)) ?_
      have hfw := f2 w rfl
      simp only [Builtin.copy_, List.getElem?_toArray, List.getElem?_cons_zero, List.getElem?_cons_succ, Sem.run_bind, run_under ht, Result.andThen_ok, Builtin.lenOf, Sem.run_pure, run_size hs, hfw]
      rfl
    | _ => simp at he
  | _ => simp at he
theorem sound_clear (i : Inv x p h w) {t e ty : TypeId} {sz : Nat} (ht : x.under t = some (.slice e)) (hs : x.size e = some sz) {z : FV} (hz : x.zero e = some z) {a : DV} {va : Value} (ha : DRel p a va) {h2 : Heap} (he : opClear h sz z.cells a = some h2) :
    ∃ p' w', Post x p h w p' h2 w' ∧ (Builtin.clear_ #[t] ty #[va]).run x.P w = .ok (.tuple #[]) w' := by
  obtain ⟨zv, hzv, hzr, inf, hinf, hiz, hzl⟩ := run_zeroA hz
  have hsz : inf.size = sz := by simp [Cx.size, hinf] at hs; exact hs
  have hzs : zv.cells.size = sz := by have := (hzr p.M).cells.1; simp at this; omega
  unfold opClear at he
  cases ha with
  | @slice ag sz' b' g off len cap blk base o cc k hι hk hl ho hcap =>
    dsimp only at he
    replace he := chk_some he
    obtain ⟨hc, he⟩ := he
    simp only [Bool.and_eq_true] at hc
    have hzz := Nat.eq_of_beq_eq_true hc.1; subst hzz
    simp only [Option.bind_eq_some_iff, Option.some.injEq] at he
    obtain ⟨cs, hcs, cs', hcs', rfl⟩ := he
    have hzc : CD p (zeros z.cells len) ((List.range len).flatMap fun _ => zv.cells.toList) := zeros_rel (hzr p.M)
    have hnl : (zeros z.cells len).length ≤ len * sz := by rw [hzc.1, flatMap_len]; simp [hzs]
    obtain ⟨a, c2, w2, e1, e2, e3⟩ := slice_put (ag := ag) i (.slice blk base o cc k hι hk hl ho hcap) hcs hcs' hzc (allOne_rel hzc hc.2) hnl
    simp only [Value.slice.injEq] at e1
    have : a = ⟨blk, o, none⟩ := by simpa using e1.1.symm
    subst this
    by_cases h0 : len = 0
    · subst h0
      simp only [List.range_zero, List.flatMap_nil, storeCells, Sem.run_pure, Result.ok.injEq, true_and] at e2
      subst e2
      refine ⟨p, _, e3, ?_⟩
      simp only [Builtin.clear_, List.getElem?_toArray, List.getElem?_cons_zero, Sem.run_bind, run_under ht, Result.andThen_ok, Sem.run_pure]
    · refine ⟨p, w2, e3, ?_⟩
      obtain ⟨len', rfl⟩ : ∃ k, len = k + 1 := ⟨len - 1, by omega⟩
      have hzc2 : (Builtin.zeroCells zv.cells (len' + 1)).toList = (List.range (len' + 1)).flatMap fun _ => zv.cells.toList := by
        by_cases hs0 : 0 < zv.cells.size
        · exact range_cells zv.cells (len' + 1) hs0
        · have h00 : zv.cells = #[] := by apply Array.eq_empty_of_size_eq_zero; omega
          rw [h00]; simp [Builtin.zeroCells]
      simp only [Builtin.clear_, List.getElem?_toArray, List.getElem?_cons_zero, Sem.run_bind, run_under ht, Result.andThen_ok, hzv, hzc2, e2, Sem.run_pure]
  | f hfa =>
    cases hfa with
    | nilslice =>
      simp only [Option.some.injEq] at he; subst he
      refine ⟨p, w, .refl i, ?_⟩
      simp only [Builtin.clear_, List.getElem?_toArray, List.getElem?_cons_zero, Sem.run_bind, run_under ht, Result.andThen_ok, Sem.run_pure]
    | _ => simp at he
  | _ => simp at he
theorem sound_mkSlice (i : Inv x p h w) {t e : TypeId} {ag : Bool} {sz by' l c : Nat} {kl kc : IntKind} (ht : x.under t = some (.slice e)) (hs : x.size e = some sz) (hb : x.bytes e = some by') {z : FV} (hz : x.zero e = some z) (h0 : sz ≠ 0)
    (hlc : l ≤ c) (hfit : c * by' < mostBytes ∧ c < mostBytes) : OpV x p h w (Instr.makeSlice t (.int kl l) (.int kc c)) (.slice ag sz h.next 0 0 l (some c), h.new (.cells 0 (zeros z.cells c))) := by
  obtain ⟨zv, hzv, hzr, inf, hinf, hiz, hzl⟩ := run_zeroA hz
  have hsz : inf.size = sz := by simp [Cx.size, hinf] at hs; exact hs
  have hby : inf.bytes = by' := by simp [Cx.bytes, hinf] at hb; exact hb
  have hzs : zv.cells.size = sz := by have := (hzr p.M).cells.1; simp at this; omega
  have hzc : CD p (zeros z.cells c) ((List.range c).flatMap fun _ => zv.cells.toList) := zeros_rel (hzr p.M)
  have hwl := wrap_small (show l < 1099511627776 by unfold mostBytes at hfit; omega)
  have hwc := wrap_small (show c < 1099511627776 by unfold mostBytes at hfit; omega)
  obtain ⟨p', s1, s2, s3⟩ := new_sound (rest := []) i e hzc
  have harr : ((Array.range (c * sz)).map (zv.cells[· % zv.cells.size]!)).toList = (List.range c).flatMap fun _ => zv.cells.toList := by
    have := range_cells zv.cells c (by omega)
    rw [hzs] at this ⊢; exact this
  have hN : ((List.range c).flatMap fun _ => zv.cells.toList).length = c * sz := by rw [flatMap_len]; simp [hzs]
  refine ⟨p', _, .slice (some ⟨w.heap.size, 0, none⟩) l c, s1, .slice w.heap.size 0 0 c _ s2 s3 hlc (.inr rfl) ⟨rfl, by rw [hN]; simp⟩, ?_⟩
  have hm := run_make (P := x.P) w t e inf zv ht hinf hiz kl kc l c (by omega) (by omega) (by
    rw [hby]
    have e1 : ((c * by' : Nat) : Int) = (by' : Int) * c := by simp [Int.mul_comm]
    rw [← e1]; unfold mostBytes at hfit; omega) (by unfold mostBytes at hfit; omega)
  rw [hm]
  have e2 : madeCells zv.cells ((c : Int).toNat * inf.size) = (((List.range c).flatMap fun _ => zv.cells.toList) ++ []).toArray := by
    apply Array.ext'; rw [hsz]; simpa [madeCells] using harr
  rw [e2]
  simp
theorem mmGo_rel {mx : Bool} {k : IntKind} : ∀ {l : List DV} {vs : List Value} {a n : Int}, CD p l vs → mmGo mx k a l = some n → (vs.foldlM (if mx then Builtin.max2 else Builtin.min2) (.int k a)).run x.P w = .ok (.int k n) w
  | [], vs, a, n, h, e => by rw [h.nil_left]; simp [mmGo] at e; subst e; simp
  | d :: l, vs, a, n, h, e => by
    obtain ⟨v, vs, rfl, hr, hT⟩ := h.cons_left
    unfold mmGo at e
    split at e
    · simp at *
    · rename_i k2 b l2 heq
      simp at heq; obtain ⟨rfl, rfl⟩ := heq
      cases hr with | f hf => cases hf with | int =>
      have ih := mmGo_rel hT e
      rw [List.foldlM_cons]
      simp only [Sem.run_bind]
      cases mx with
      | true =>
        simp only [if_true, Builtin.max2, Sem.run_pure, Result.andThen_ok]
        simp only [if_true, cond_true] at ih
        by_cases hc : a < b
        · simp_all
        · rw [if_neg hc]; simpa [hc] using ih
      | false =>
        simp only [Bool.false_eq_true, if_false, Builtin.min2, Sem.run_pure, Result.andThen_ok]
        simp only [Bool.false_eq_true, if_false, cond_false] at ih
        by_cases hc : b < a
        · simp_all
        · rw [if_neg hc]; simpa [hc] using ih
    · simp at e
theorem sound_minmax {mx : Bool} {ts : Array TypeId} {ty : TypeId} {l : List DV} {vs : List Value} (hl : CD p l vs) {d : DV} (e : minmax mx l = some d) : ∃ y, DRel p d y ∧ ((if mx then Builtin.max_ ts ty vs.toArray else Builtin.min_ ts ty vs.toArray)).run x.P w = .ok y w := by
  unfold minmax at e
  split at e
  · rename_i k a l
    obtain ⟨v, vs, rfl, hr, hT⟩ := hl.cons_left
    simp only [Option.bind_eq_some_iff, Option.some.injEq] at e
    obtain ⟨n, hn, rfl⟩ := e
    cases hr with | f hf => cases hf with | int =>
    refine ⟨_, .f (.int k n), ?_⟩
    have := mmGo_rel (x := x) (w := w) hT hn
    cases mx with
    | true => simpa [Builtin.max_] using this
    | false => simpa [Builtin.min_] using this
  · simp at e
theorem sound_strSlice (hρ : ERho x p ρ τ) {t : TypeId} (ht : x.under t = some .string) {lo hi : Option Operand} {l' h' : Option Opnd} (hl : x.opt lo = some l') (hh : x.opt hi = some h') {s : ByteArray} {hi' lo' : Nat}
    (eh : optNat ρ s.size h' = some hi') (el : optNat ρ 0 l' = some lo') (h1 : lo' ≤ hi') (h2 : hi' ≤ s.size) (w : World) : (Instr.sliceAt t (.string s) (lo.map τ) (hi.map τ) none).run x.P w = .ok (.string (s.extract lo' hi')) w := by
  have hb := run_bounds (w := w) (isS := false) (mx := none) (m' := none) (cap := s.size) hρ hl hh rfl el eh rfl (.inl rfl) h1 h2 (Nat.le_refl _)
  simp only [Option.map_none] at hb
  simp [Instr.sliceAt, run_under ht, Instr.slice, hb]
theorem sound_strIndex {t : TypeId} (ht : x.under t = some .string) {s : ByteArray} {k : IntKind} {i : Int} (h0 : 0 ≤ i) {b : UInt8} (hb : s.data.toList[i.toNat]? = some b) (w : World) :
    (Instr.index t (.string s) (.int k i)).run x.P w = .ok (.int .u8 b.toNat) w := by
  have : s[i.toNat]? = some b := by
    obtain ⟨hlt, he⟩ := List.getElem?_eq_some_iff.1 hb
    have hlt' : i.toNat < s.size := by simpa using hlt
    rw [getElem?_pos s i.toNat hlt']
    simp at he ⊢
    exact he
  simp only [Instr.index, asIntOf, Sem.run_bind, Sem.run_pure, Result.andThen_ok, run_under ht, if_pos h0, this]
theorem toBytes_rel (f : Value → ByteArray → Sem (ForInStep ByteArray)) (hf : ∀ (n : Int) (r : ByteArray) (w : World), (f (.int .u8 n) r).run x.P w = .ok (.yield (r.push (UInt8.ofNat n.toNat))) w) :
    ∀ {cs : List DV} {vs : List Value} {bs : List UInt8}, CD p cs vs → toBytes cs = some bs → ∀ (acc : ByteArray) (w : World), (forIn vs acc f).run x.P w = .ok (⟨acc.data ++ bs.toArray⟩) w
  | [], vs, bs, h, e, acc, w => by rw [h.nil_left]; simp [toBytes] at e; subst e; simp
  | d :: cs, vs, bs, h, e, acc, w => by
    obtain ⟨v, vs, rfl, hr, hT⟩ := h.cons_left
    unfold toBytes at e
    split at e
    · simp at *
    · rename_i heq
      simp at heq; obtain ⟨rfl, rfl⟩ := heq
      simp only [Option.bind_eq_some_iff, Option.some.injEq] at e
      obtain ⟨r, hr', rfl⟩ := e
      cases hr with | f hf' => cases hf' with | int =>
      simp only [List.forIn_cons, Sem.run_bind, hf, Result.andThen_ok]
      rw [toBytes_rel f hf hT hr']
      congr 1
      simp [ByteArray.push]
    · simp at e
end
end Go.Dee
end
section
/- Every operation that is no call. -/
namespace Go.Dee
section
variable {x : Cx} {p q : Pl} {h h' : Heap} {w w' : World} {τ : Operand → Value} {ρ : Env}
def OpN (x : Cx) (p : Pl) (h : Heap) (w : World) (s : Sem Next) (r : DV × Heap) : Prop :=
  ∃ p' w' n v, Post x p h w p' r.2 w' ∧ DRel p' r.1 v ∧ s.run x.P w = .ok n w' ∧ (n = .value v ∨ n = .skip ∧ v = undef)
theorem OpN.v {s : Sem Value} {r : DV × Heap} (o : OpV x p h w s r) : OpN x p h w (do Pure.pure (.value (← s))) r := by
  obtain ⟨p', w', v, h1, h2, h3⟩ := o
  exact ⟨p', w', _, v, h1, h2, by simp [h3], .inl rfl⟩
theorem OpN.u {s : Sem Unit} {h2 : Heap} (o : OpU x p h w s h2) : OpN x p h w (do s; Pure.pure .skip) (Dee.unit, h2) := by
  obtain ⟨p', w', h1, h3⟩ := o
  exact ⟨p', w', _, undef, h1, .f (.tuple [] rfl (by simp)), by simp [h3], .inr ⟨rfl, rfl⟩⟩
theorem OpN.pv (i : Inv x p h w) {d : DV} {v : Value} (hd : DRel p d v) : OpN x p h w (Pure.pure (.value v)) (d, h) :=
  ⟨p, w, _, v, .refl i, hd, by simp, .inl rfl⟩
theorem sound_bytesStr (i : Inv x p h w) {s t e : TypeId} (hs : x.under s = some (.slice e)) (he : x.under e = some (.int .u8)) (ht : x.under t = some .string) {d : DV} {v : Value} (hd : DRel p d v) {n : Nat} (hn : lenDV d = some n)
    {cs : List DV} (hf : firstCells h 1 n d = some cs) {bs : List UInt8} (hb : toBytes cs = some bs) (hstr : ∀ b, d ≠ .f (.str b)) : (convert s t v).run x.P w = .ok (.string ⟨bs.toArray⟩) w := by
  rcases lenDV_rel hd hn with ⟨a, c, rfl, hc⟩ | ⟨b, rfl, hb, rfl⟩
  · obtain ⟨vs, f1, f2, f3⟩ := firstCells_sound i hd hf (by simp)
    have hfw := f2 w rfl
    simp only [Nat.mul_one] at f3
    have := run_convert_bytes_string w s t e a n c hs he ht
    rw [this]
    cases a with
    | none =>
      simp only [Builtin.firstCells, Sem.run_pure, Result.ok.injEq, and_true] at hfw
      have h0 : vs = [] := by simpa using hfw.symm
      subst h0
      have : cs = [] := by have := f1.1; simpa using this
      subst this
      simp [toBytes] at hb; subst hb
      simp only [Conv.bytesToString, Sem.run_pure]; rfl
    | some a =>
      simp only [Builtin.firstCells, Nat.mul_one] at hfw
      simp only [Conv.bytesToString, Sem.run_bind, hfw, Result.andThen_ok, List.forIn_toArray]
      rw [toBytes_rel (x := x) _ (by intro n r w; simp) f1 hb .empty w]
      simp
  · exact absurd rfl (hstr b)
theorem sound_sliceArr {t e : TypeId} {n : Nat} (ht : x.under t = some (.array n e)) {ag : Bool} {sz b g off len : Nat} {cap : Option Nat} {v : Value} (hd : DRel p (.slice ag sz b g off len cap) v) (hn : n ≤ len) (h0 : 0 < n) (w : World) :
    ∃ y, DRel p (.ptr b g off) y ∧ (Instr.arrayAt t v).run x.P w = .ok y w := by
  cases hd with
  | slice blk base o c k hι hk hl ho hcap =>
    have : o = base + off := ho.resolve_left (by omega)
    subst this
    exact ⟨_, .ptr blk base hι, by simp only [Instr.arrayAt, Sem.run_bind, run_under ht, Result.andThen_ok, show ¬ len < n by omega, if_false, Sem.run_pure]⟩
theorem sound_index {t e : TypeId} {n sz : Nat} {ag : Bool} (ht : x.under t = some (.array n e)) (ha : x.agg e = some ag) (hs : x.size e = some sz) (h1 : (ag || Nat.beq sz 1) = true) {d v : DV} {a : Value} (hd : DRel p d a) {k : IntKind} {i : Int} (h0 : 0 ≤ i) (hi : i.toNat < n)
    (he : partOf ag sz (i.toNat * sz) d = some v) (w : World) : ∃ y, DRel p v y ∧ (Instr.index t a (.int k i)).run x.P w = .ok y w := by
  obtain ⟨cs, y, rfl, hy, hr⟩ := sound_part (ty := e) ha hs (by intro hag; subst hag; simpa using h1) hd he
  refine ⟨y, hy, ?_⟩
  have : 0 ≤ i ∧ i < (n : Int) := ⟨h0, by omega⟩
  simp only [Instr.index, asIntOf, Sem.run_bind, Sem.run_pure, Result.andThen_ok, run_under ht, if_pos this, run_size hs, hr]
theorem sound_field {t : TypeId} {fs : Array Field} {f : Nat} {fd : Field} (ht : x.under t = some (.struct fs)) (hf : fs[f]? = some fd) {ag : Bool} {sz : Nat} (ha : x.agg fd.type = some ag) (hs : x.size fd.type = some sz) (h1 : (ag || Nat.beq sz 1) = true)
    {d v : DV} {a : Value} (hd : DRel p d a) (he : partOf ag sz fd.offset d = some v) (w : World) : ∃ y, DRel p v y ∧ (Instr.field t a f).run x.P w = .ok y w := by
  obtain ⟨cs, y, rfl, hy, hr⟩ := sound_part (ty := fd.type) ha hs (by intro hag; subst hag; simpa using h1) hd he
  exact ⟨y, hy, by simp only [Instr.field, Sem.run_bind, run_under ht, Result.andThen_ok, hf, asAgg, Sem.run_pure, hr]⟩
theorem sound_len (i : Inv x p h w) {t ty : TypeId} {td : TypeDesc} (ht : x.under t = some td) {lk : LK} (hk : td = .string ∧ lk = .str ∨ (∃ e, td = .slice e ∧ lk = .slice) ∨ ∃ k e, td = .map k e ∧ lk = .map) {d : DV} {v : Value} (hd : DRel p d v) {n : Nat} (he : opLen h lk d = some n) :
    (Builtin.len_ #[t] ty #[v]).run x.P w = .ok (goInt n) w := by
  unfold opLen at he
  rcases hk with ⟨rfl, rfl⟩ | ⟨e, rfl, rfl⟩ | ⟨k, e, rfl, rfl⟩ <;> dsimp only at he
  · simp only [Option.bind_eq_some_iff, Option.some.injEq] at he
    obtain ⟨s, hs, rfl⟩ := he
    obtain ⟨_, rfl⟩ := theStr_rel hd hs
    simp only [Builtin.len_, List.getElem?_toArray, List.getElem?_cons_zero, Sem.run_bind, run_under ht, Result.andThen_ok, Sem.run_pure]
  · split at he
    · simp at he
    · rename_i hns
      rcases lenDV_rel hd he with ⟨a, c, rfl, _⟩ | ⟨s, rfl, hs, rfl⟩
      · simp only [Builtin.len_, List.getElem?_toArray, List.getElem?_cons_zero, Sem.run_bind, run_under ht, Result.andThen_ok, Sem.run_pure]
      · exact absurd rfl (hns s)
  · split at he
    · rename_i b
      simp only [Option.bind_eq_some_iff, Option.some.injEq] at he
      obtain ⟨⟨es, c⟩, hm, rfl⟩ := he
      cases hd with
      | map blk hι =>
        obtain ⟨arr, h1, h2⟩ := map_at i hm hι
        have hlen : es.length = arr.size := by have := h2.1; simpa using this
        simp only [Builtin.len_, List.getElem?_toArray, List.getElem?_cons_zero, Sem.run_bind, run_under ht, Result.andThen_ok, getObj_map h1, Sem.run_pure, hlen]
    · simp at he; subst he
      cases hd with | f hf => cases hf with | nilmap =>
      simp only [Builtin.len_, List.getElem?_toArray, List.getElem?_cons_zero, Sem.run_bind, run_under ht, Result.andThen_ok, Sem.run_pure]
      rfl
    · simp at he
end
end Go.Dee
end
section
/- Every operation that is no call: the one lemma. -/
namespace Go.Dee
section
variable {x : Cx} {p q : Pl} {h h' : Heap} {w w' : World} {τ : Operand → Value} {ρ : Env}
theorem opnds_arr (hρ : ERho x p ρ τ) {os : Array Operand} {ds : List Opnd} {vs : List DV} (ho : x.opnds os.toList = some ds) (hv : getAll ρ ds = some vs) : CD p vs (os.map τ).toList := by
  have := opnds_rel hρ ho hv
  simpa using this
theorem elem_some {t e : TypeId} (he : x.elem t = some e) : x.under t = some (.slice e) := by
  unfold Cx.elem at he
  split at he
  · rename_i e' ht; simp at he; subst he; exact ht
  · simp at he
theorem sound_eq (i : Inv x p h w) (hρ : ERho x p ρ τ) (hc : ∀ c, τ (.const c) = c) {neg : Bool} {t : TypeId} {a b : Operand} {d : DOp} (hd : x.eq neg t a b = some d) {r : DV × Heap} (he : evalOp ρ h d = some r) :
    OpV x p h w (do eqGuard (if neg then .neq else .eql) t a b (τ a) (τ b); Go.binOp (if neg then .neq else .eql) t (τ a) (τ b)) r := by
  unfold Cx.eq at hd
  simp only [Option.bind_eq_some_iff] at hd
  obtain ⟨td, ht, hd⟩ := hd
  cases hsc : scalar td with
  | true =>
    simp only [hsc, cond_true, Option.bind_eq_some_iff] at hd
    obtain ⟨pa, ha, pb, hb, hd⟩ := hd
    cases td with
    | bool =>
      simp only [Option.some.injEq] at hd; subst hd
      simp only [evalOp, Option.bind_eq_some_iff, Option.some.injEq] at he
      obtain ⟨da, hda, db, hdb, fa, hfa, fb, hfb, res, hres, rfl⟩ := he
      obtain ⟨_, _, rfl, rfl, rfl⟩ := eqF_bool hres
      obtain ⟨_, ra⟩ := theF_rel (hρ a pa da ha hda) hfa
      obtain ⟨_, rb⟩ := theF_rel (hρ b pb db hb hdb) hfb
      generalize τ a = va at ra ⊢
      generalize τ b = vb at rb ⊢
      cases ra; cases rb
      refine .pure i (.f (.bool _)) ?_
      cases neg <;> simp [eqGuard, Go.binOp, run_equal_bool _ t _ _ ht]
    | int k =>
      simp only [Option.some.injEq] at hd; subst hd
      simp only [evalOp, Option.bind_eq_some_iff] at he
      obtain ⟨da, hda, db, hdb, he⟩ := he
      obtain ⟨v, hv, rfl⟩ := keep_some he
      have ra := hρ a pa da ha hda
      have rb := hρ b pb db hb hdb
      obtain ⟨y, hy, hr⟩ := binOp_sound (x := x) (w := w) ra rb hv t
      refine ⟨p, w, y, .refl i, hy, ?_⟩
      have hg : (eqGuard (if neg then .neq else .eql) t a b (τ a) (τ b)).run x.P w = .ok () w := by
        unfold Dee.binOp at hv
        split at hv
        · generalize τ a = va at ra ⊢
          cases ra with | f ra => cases ra with | int => cases neg <;> simp [eqGuard]
        · generalize τ a = va at ra ⊢
          cases ra with | f ra => cases ra with | str => cases neg <;> simp [eqGuard]
        · simp at hv
      have : (if neg = true then BinOp.neq else BinOp.eql) = (bif neg then BinOp.neq else BinOp.eql) := by cases neg <;> rfl
      rw [Sem.run_bind, hg, Result.andThen_ok, this, hr]
    | string =>
      simp only [Option.some.injEq] at hd; subst hd
      simp only [evalOp, Option.bind_eq_some_iff] at he
      obtain ⟨da, hda, db, hdb, he⟩ := he
      obtain ⟨v, hv, rfl⟩ := keep_some he
      have ra := hρ a pa da ha hda
      have rb := hρ b pb db hb hdb
      obtain ⟨y, hy, hr⟩ := binOp_sound (x := x) (w := w) ra rb hv t
      refine ⟨p, w, y, .refl i, hy, ?_⟩
      have hg : (eqGuard (if neg then .neq else .eql) t a b (τ a) (τ b)).run x.P w = .ok () w := by
        unfold Dee.binOp at hv
        split at hv
        · generalize τ a = va at ra ⊢
          cases ra with | f ra => cases ra with | int => cases neg <;> simp [eqGuard]
        · generalize τ a = va at ra ⊢
          cases ra with | f ra => cases ra with | str => cases neg <;> simp [eqGuard]
        · simp at hv
      have : (if neg = true then BinOp.neq else BinOp.eql) = (bif neg then BinOp.neq else BinOp.eql) := by cases neg <;> rfl
      rw [Sem.run_bind, hg, Result.andThen_ok, this, hr]
    | _ => simp [scalar] at hsc
  | false =>
    simp only [hsc, cond_false] at hd
    cases hag : aggDesc td with
    | false =>
      simp only [hag, Bool.not_false, cond_true, Option.bind_eq_some_iff, Option.some.injEq] at hd
      obtain ⟨k, hk, pa, ha, rfl⟩ := hd
      simp only [evalOp, Option.bind_eq_some_iff, Option.some.injEq] at he
      obtain ⟨da, hda, res, hres, rfl⟩ := he
      have ra := hρ a pa da ha hda
      obtain ⟨c, rfl, hr⟩ := isNil_sound (x := x) (w := w) ra hres ht hk
      refine .pure i (v := .bool (bif neg then !res else res)) (.f (.bool _)) ?_
      have hcc := hc c
      rw [hcc]
      generalize τ a = va at ra hr ⊢
      have hne : (∀ k n, va ≠ .int k n) ∧ (∀ s, va ≠ .string s) ∧ (∀ k n, va ≠ .float k n) ∧ (∀ k a b, va ≠ .complex k a b) ∧ (∀ a, va ≠ .agg a) := by
        unfold isNilDV at hres
        split at hres <;> try simp only [reduceCtorEq] at hres
        all_goals cases ra
        all_goals try (rename_i hf; cases hf)
        all_goals simp
      obtain ⟨n1, n2, n3, n4, n5⟩ := hne
      cases va
      all_goals first | exact absurd rfl (n1 _ _) | exact absurd rfl (n2 _) | exact absurd rfl (n3 _ _) | exact absurd rfl (n4 _ _ _) | exact absurd rfl (n5 _) | skip
      all_goals cases neg <;> cases c <;> simp [eqGuard, Go.binOp, hr]
    | true =>
      simp only [hag, Bool.not_true, cond_false] at hd
      obtain ⟨hg, hd⟩ := chk_some hd
      simp only [Option.bind_eq_some_iff, Option.some.injEq] at hd
      obtain ⟨e, hety, pa, ha, pb, hb, rfl⟩ := hd
      simp only [evalOp, Option.bind_eq_some_iff, Option.some.injEq] at he
      obtain ⟨da, hda, db, hdb, fa, hfa, fb, hfb, res, hres, rfl⟩ := he
      obtain ⟨_, ra⟩ := theF_rel (hρ a pa da ha hda) hfa
      obtain ⟨_, rb⟩ := theF_rel (hρ b pb db hb hdb) hfb
      refine .pure i (v := .bool (bif neg then !res else res)) (.f (.bool _)) ?_
      have hr := eqF_sound x 100 t e 10000 fa fb _ _ res p.M hety (by decide) ra rb hres w
      have hr' : (Op.equal t (τ a) (τ b)).run x.P w = .ok res w := hr
      have hpar : ∃ l, e = .parts l := by
        unfold Cx.ety at hety
        rw [ht] at hety
        cases td with
        | struct fs =>
          simp only at hety
          obtain ⟨_, hety⟩ := chk_some hety
          simp only [Option.bind_eq_some_iff, Option.some.injEq] at hety
          obtain ⟨l, _, rfl⟩ := hety; exact ⟨l, rfl⟩
        | array k el =>
          simp only [Option.bind_eq_some_iff] at hety
          obtain ⟨t1, _, sz, _, ag, _, hety⟩ := hety
          obtain ⟨_, hety⟩ := chk_some hety
          simp only [Option.some.injEq] at hety
          exact ⟨_, hety.symm⟩
        | _ => simp [aggDesc] at hag
      obtain ⟨l, rfl⟩ := hpar
      obtain ⟨m, n, rfl, rfl, _⟩ := eqF_parts hres
      generalize τ a = va at ra hr' ⊢
      generalize τ b = vb at rb hr' ⊢
      cases ra; cases rb
      have hg' : x.P.eqGuardType x.P.depth t = false := by simpa using hg
      cases neg <;> simp [eqGuard, Go.binOp, hr', hg']
theorem OpN.congr {s s' : Sem Next} {r : DV × Heap} (e : s.run x.P w = s'.run x.P w) (o : OpN x p h w s' r) : OpN x p h w s r := by
  obtain ⟨p', w', n, v, h1, h2, h3, h4⟩ := o
  exact ⟨p', w', n, v, h1, h2, e.trans h3, h4⟩
theorem builtin_sound (i : Inv x p h w) (hρ : ERho x p ρ τ) {b : Builtin} {args : Array Operand} {ts : Array TypeId} {ty : TypeId} {cs : Array Bool} {d : DOp} (hd : x.builtin b args.toList ts.toList = some d) {r : DV × Heap} (he : evalOp ρ h d = some r) :
    OpN x p h w (Go.builtin b ts ty cs (args.map τ)) r := by
  obtain ⟨as, rfl⟩ : ∃ as : List Operand, args = as.toArray := ⟨args.toList, by simp⟩
  obtain ⟨tl, rfl⟩ : ∃ as : List TypeId, ts = as.toArray := ⟨ts.toList, by simp⟩
  simp only [List.map_toArray]
  unfold Cx.builtin at hd
  split at hd
  · rename_i a t h1 h2
    subst h1 h2
    split at hd
    · rename_i n e ht
      simp only [Option.some.injEq] at hd; subst hd
      simp only [evalOp, Option.some.injEq] at he; subst he
      refine .v ⟨p, w, _, .refl i, .f (.int _ _), ?_⟩
      simp [Builtin.len_, run_under ht, goInt]
    · rename_i e ht
      split at hd
      · rename_i n e' ht'
        simp only [Option.some.injEq] at hd; subst hd
        simp only [evalOp, Option.some.injEq] at he; subst he
        refine .v ⟨p, w, _, .refl i, .f (.int _ _), ?_⟩
        simp [Builtin.len_, run_under ht, run_under ht', goInt]
      · simp at hd
    · rename_i ht
      simp only [Option.bind_eq_some_iff, Option.some.injEq] at hd
      obtain ⟨pa, ha, rfl⟩ := hd
      simp only [evalOp, Option.bind_eq_some_iff, Option.some.injEq] at he
      obtain ⟨da, hda, n, hn, rfl⟩ := he
      exact .v ⟨p, w, _, .refl i, .f (.int _ _), sound_len i ht (.inl ⟨rfl, rfl⟩) (hρ _ _ _ ha hda) hn⟩
    · rename_i e ht
      simp only [Option.bind_eq_some_iff, Option.some.injEq] at hd
      obtain ⟨pa, ha, rfl⟩ := hd
      simp only [evalOp, Option.bind_eq_some_iff, Option.some.injEq] at he
      obtain ⟨da, hda, n, hn, rfl⟩ := he
      exact .v ⟨p, w, _, .refl i, .f (.int _ _), sound_len i ht (.inr (.inl ⟨_, rfl, rfl⟩)) (hρ _ _ _ ha hda) hn⟩
    · rename_i k e ht
      simp only [Option.bind_eq_some_iff, Option.some.injEq] at hd
      obtain ⟨pa, ha, rfl⟩ := hd
      simp only [evalOp, Option.bind_eq_some_iff, Option.some.injEq] at he
      obtain ⟨da, hda, n, hn, rfl⟩ := he
      exact .v ⟨p, w, _, .refl i, .f (.int _ _), sound_len i ht (.inr (.inr ⟨_, _, rfl, rfl⟩)) (hρ _ _ _ ha hda) hn⟩
    · simp at hd
  · rename_i a t h1 h2
    subst h1 h2
    split at hd
    · rename_i e ht
      simp only [Option.bind_eq_some_iff, Option.some.injEq] at hd
      obtain ⟨pa, ha, rfl⟩ := hd
      simp only [evalOp, Option.bind_eq_some_iff, Option.some.injEq] at he
      obtain ⟨da, hda, n, hn, rfl⟩ := he
      obtain ⟨q, l, hv⟩ := opCap_rel (hρ _ _ _ ha hda) hn
      refine .v ⟨p, w, _, .refl i, .f (.int _ _), ?_⟩
      simp [Builtin.cap_, run_under ht, goInt, hv]
    · simp at hd
  · rename_i a b t u h1 h2
    subst h1 h2
    simp only [Option.bind_eq_some_iff] at hd
    obtain ⟨e, hel, ag, hag, sz, hsz, by', hby, z, hz, pa, ha, pb, hb, hd⟩ := hd
    obtain ⟨h0, hd⟩ := chk_some hd
    have ht := elem_some hel
    simp only [Bool.and_eq_true, Bool.not_eq_true'] at h0
    split at hd
    · rename_i k hu
      simp only [Option.some.injEq] at hd; subst hd
      simp only [evalOp, Option.bind_eq_some_iff] at he
      obtain ⟨da, hda, db, hdb, n, hn, m, hm, he⟩ := he
      obtain ⟨k2, hbv, rfl⟩ := natOf_rel (hρ _ _ _ hb hdb) hn
      obtain ⟨zv, hzv, hzr, inf, hinf, hiz, hzl⟩ := run_zeroA hz
      have hsz' : inf.size = sz := by simp [Cx.size, hinf] at hsz; exact hsz
      have hzs : zv.cells.size = sz := by have := (hzr p.M).cells.1; simp at this; omega
      have hpos : 0 < zv.cells.size := by rw [hzs]; exact Nat.pos_of_ne_zero (by intro h; simp [h] at h0)
      have hrc : ((Array.range (n * sz)).map (zv.cells[· % zv.cells.size]!)).toList = (List.range n).flatMap fun _ => zv.cells.toList := by
        have := range_cells zv.cells n hpos
        rw [hzs] at this ⊢; exact this
      have hzc : CD p (zeros z.cells n) ((List.range n).flatMap fun _ => zv.cells.toList) := zeros_rel (hzr p.M)
      exact .v (sound_append (u := u) i ht hsz hby hz (by intro h; simp [h] at h0) (by intro h; simp [h] at h0)
        (.inr ⟨k, k2, hu, hbv, zv, hzv, hzs, hrc.symm⟩) (hρ _ _ _ ha hda) hm hzc (by rw [flatMap_len]; simp [hzs]) he)
    · rename_i d hni hu
      simp only [Option.some.injEq] at hd; subst hd
      simp only [evalOp, Option.bind_eq_some_iff] at he
      obtain ⟨da, hda, db, hdb, m, hm, n, hn, new, hnew, he⟩ := he
      have hbr := hρ _ _ _ hb hdb
      have hlb := lenDV_rel hbr hn
      obtain ⟨vs, f1, f2, f3⟩ := firstCells_sound i hbr hnew (by
        intro s hs
        rcases hlb with ⟨q, c, h, _⟩ | ⟨s', h, h', _⟩
        · rw [h] at hs; simp at hs
        · rw [h] at hs; simp at hs; subst hs; exact h'.symm)
      have hlo : Builtin.lenOf (τ b) = Pure.pure n := by
        rcases hlb with ⟨q, c, h, _⟩ | ⟨s', h, h', _⟩
        · rw [h]; rfl
        · rw [h, ← h']; rfl
      exact .v (sound_append (u := u) i ht hsz hby hz (by intro h; simp [h] at h0) (by intro h; simp [h] at h0)
        (.inl ⟨d, hu, fun k hk => hni k (by rw [hk]), hlo, f2⟩) (hρ _ _ _ ha hda) hm f1 f3 he)
    · simp at hd
  · rename_i a b t u h1 h2
    subst h1 h2
    simp only [Option.bind_eq_some_iff, Option.some.injEq] at hd
    obtain ⟨e, hel, sz, hsz, pa, ha, pb, hb, rfl⟩ := hd
    have ht := elem_some hel
    simp only [evalOp, Option.bind_eq_some_iff] at he
    obtain ⟨da, hda, db, hdb, m, hm, n, hn, new, hnew, he⟩ := he
    split at he
    · simp at he
    · rename_i hns
      have hbr := hρ _ _ _ hb hdb
      have hstr : ∀ s : ByteArray, τ b ≠ .string s := by
        intro s hs
        rcases lenDV_rel hbr hn with ⟨q, c, h, _⟩ | ⟨s', h, _, h'⟩
        · rw [h] at hs; simp at hs
        · exact hns s' h'
      exact .v (sound_copy i ht hsz (hρ _ _ _ ha hda) hbr hm hn hnew hstr he)
  · rename_i a t h1 h2
    subst h1 h2
    simp only [Option.bind_eq_some_iff, Option.some.injEq] at hd
    obtain ⟨e, hel, sz, hsz, z, hz, pa, ha, rfl⟩ := hd
    have ht := elem_some hel
    simp only [evalOp, Option.bind_eq_some_iff] at he
    obtain ⟨da, hda, he⟩ := he
    obtain ⟨h2, hh, rfl⟩ := void_some he
    obtain ⟨p', w', g1, g2⟩ := sound_clear (ty := ty) i ht hsz hz (hρ _ _ _ ha hda) hh
    exact .v ⟨p', w', _, g1, .f (.tuple [] rfl (by simp)), g2⟩
  · rename_i h1
    simp only [Option.bind_eq_some_iff, Option.some.injEq] at hd
    obtain ⟨ps, hps, rfl⟩ := hd
    simp only [evalOp, Option.bind_eq_some_iff] at he
    obtain ⟨l', hl, he⟩ := he
    obtain ⟨v, hv, rfl⟩ := keep_some he
    obtain ⟨y, hy, hr⟩ := sound_minmax (x := x) (w := w) (ts := tl.toArray) (ty := ty) (opnds_rel hρ hps hl) hv
    exact .v ⟨p, w, y, .refl i, hy, by simpa using hr⟩
  · rename_i h1
    simp only [Option.bind_eq_some_iff, Option.some.injEq] at hd
    obtain ⟨ps, hps, rfl⟩ := hd
    simp only [evalOp, Option.bind_eq_some_iff] at he
    obtain ⟨l', hl, he⟩ := he
    obtain ⟨v, hv, rfl⟩ := keep_some he
    obtain ⟨y, hy, hr⟩ := sound_minmax (x := x) (w := w) (ts := tl.toArray) (ty := ty) (opnds_rel hρ hps hl) hv
    exact .v ⟨p, w, y, .refl i, hy, by simpa using hr⟩
  · simp only [Option.some.injEq] at hd; subst hd
    simp [evalOp] at he
  · simp at hd
theorem evalOp_sound (i : Inv x p h w) (hρ : ERho x p ρ τ) (hcst : ∀ c, τ (.const c) = c) {o : Oper} {d : DOp} (hd : x.op o.op = some d) {r : DV × Heap} (he : evalOp ρ h d = some r) : OpN x p h w (Go.execOp τ o) r := by
  unfold Go.execOp
  generalize o.op = op at hd
  cases op with
  | move a =>
    simp only [Cx.op, Option.bind_eq_some_iff, Option.some.injEq] at hd
    obtain ⟨pa, ha, rfl⟩ := hd
    obtain ⟨v, hv, rfl⟩ := keep_some he
    exact .pv i (hρ _ _ _ ha hv)
  | assign a =>
    simp only [Cx.op, Option.bind_eq_some_iff, Option.some.injEq] at hd
    obtain ⟨pa, ha, rfl⟩ := hd
    obtain ⟨v, hv, rfl⟩ := keep_some he
    exact .pv i (hρ _ _ _ ha hv)
  | pick c a b =>
    simp only [Cx.op, Option.bind_eq_some_iff, Option.some.injEq] at hd
    obtain ⟨pc, hc, pa, ha, pb, hb, rfl⟩ := hd
    simp only [evalOp, Option.bind_eq_some_iff] at he
    obtain ⟨dc, hdc, t, ht, he⟩ := he
    obtain ⟨v, hv, rfl⟩ := keep_some he
    obtain ⟨rfl, hcv⟩ := theBool_rel (hρ _ _ _ hc hdc) ht
    cases t with
    | true => exact ⟨p, w, _, τ a, .refl i, hρ _ _ _ ha hv, by simp [hcv, asBool], .inl rfl⟩
    | false => exact ⟨p, w, _, τ b, .refl i, hρ _ _ _ hb hv, by simp [hcv, asBool], .inl rfl⟩
  | alloc t =>
    simp only [Cx.op, Option.bind_eq_some_iff, Option.some.injEq] at hd
    obtain ⟨z, hz, rfl⟩ := hd
    simp only [evalOp, Option.some.injEq] at he; subst he
    exact .v (sound_alloc i hz)
  | box t a =>
    simp only [Cx.op, Option.bind_eq_some_iff, Option.some.injEq] at hd
    obtain ⟨pa, ha, rfl⟩ := hd
    simp only [evalOp, Option.bind_eq_some_iff, Option.some.injEq] at he
    obtain ⟨v, hv, rfl⟩ := he
    exact .v (sound_box i (hρ _ _ _ ha hv))
  | build t ps => exact .v (sound_build i hρ hd he)
  | buildSlice t n ps => exact .v (sound_buildSlice i hρ hd he)
  | load t a =>
    simp only [Cx.op, Option.bind_eq_some_iff] at hd
    obtain ⟨ag, hag, sz, hsz, pa, ha, hd⟩ := hd
    obtain ⟨h1, hd⟩ := chk_some hd
    simp only [Option.some.injEq] at hd; subst hd
    simp only [evalOp, Option.bind_eq_some_iff] at he
    obtain ⟨da, hda, he⟩ := he
    obtain ⟨v, hv, rfl⟩ := keep_some he
    exact .v (sound_load i hag hsz h1 (hρ _ _ _ ha hda) hv)
  | store t a b =>
    simp only [Cx.op, Option.bind_eq_some_iff, Option.some.injEq] at hd
    obtain ⟨sz, hsz, pa, ha, pb, hb, rfl⟩ := hd
    simp only [evalOp, Option.bind_eq_some_iff] at he
    obtain ⟨da, hda, db, hdb, he⟩ := he
    obtain ⟨h1, he⟩ := chk_some he
    obtain ⟨h2, hh, rfl⟩ := void_some he
    exact .u (sound_store i hsz (hρ _ _ _ ha hda) (hρ _ _ _ hb hdb) (Nat.eq_of_beq_eq_true h1) hh)
  | nilCheck a =>
    simp only [Cx.op, Option.bind_eq_some_iff, Option.some.injEq] at hd
    obtain ⟨pa, ha, rfl⟩ := hd
    simp only [evalOp, Option.bind_eq_some_iff] at he
    obtain ⟨da, hda, he⟩ := he
    obtain ⟨v, hv, rfl⟩ := keep_some he
    obtain ⟨h1, h2⟩ := sound_nilCheck (x := x) (w := w) (o := { o with op := .nilCheck a }) rfl rfl (hρ _ _ _ ha hda) hv
    exact ⟨p, w, _, τ a, .refl i, h1, h2, .inl rfl⟩
  | binOp op t a b fl =>
    simp only [Cx.op] at hd
    split at hd
    · exact .v (sound_eq (neg := false) i hρ hcst hd he)
    · exact .v (sound_eq (neg := true) i hρ hcst hd he)
    · rename_i hn1 hn2
      simp only [Option.bind_eq_some_iff, Option.some.injEq] at hd
      obtain ⟨pa, ha, pb, hb, rfl⟩ := hd
      simp only [evalOp, Option.bind_eq_some_iff] at he
      obtain ⟨da, hda, db, hdb, he⟩ := he
      obtain ⟨v, hv, rfl⟩ := keep_some he
      obtain ⟨y, hy, hr⟩ := binOp_sound (x := x) (w := w) (hρ _ _ _ ha hda) (hρ _ _ _ hb hdb) hv t
      refine .v ⟨p, w, y, .refl i, hy, ?_⟩
      have hg : (eqGuard op t a b (τ a) (τ b)).run x.P w = .ok () w := by
        cases op <;> simp [eqGuard] at *
      rw [Sem.run_bind, hg, Result.andThen_ok, hr]
  | unOp op t a =>
    simp only [Cx.op, Option.bind_eq_some_iff, Option.some.injEq] at hd
    obtain ⟨pa, ha, rfl⟩ := hd
    simp only [evalOp, Option.bind_eq_some_iff] at he
    obtain ⟨da, hda, he⟩ := he
    obtain ⟨v, hv, rfl⟩ := keep_some he
    obtain ⟨y, hy, hr⟩ := unOp_sound (x := x) (w := w) (hρ _ _ _ ha hda) hv
    exact .v ⟨p, w, y, .refl i, hy, hr⟩
  | convert s t a =>
    simp only [Cx.op, Cx.conv, Option.bind_eq_some_iff] at hd
    obtain ⟨pa, ha, hd⟩ := hd
    split at hd
    · rename_i k1 k hs ht
      simp only [Option.some.injEq] at hd; subst hd
      simp only [evalOp, Option.bind_eq_some_iff, Option.some.injEq] at he
      obtain ⟨da, hda, n, hn, rfl⟩ := he
      obtain ⟨k2, rfl, hv⟩ := theInt_rel (hρ _ _ _ ha hda) hn
      refine .v ⟨p, w, _, .refl i, .f (.int _ _), ?_⟩
      simp [hv, convert, run_under hs, run_under ht, Conv.intToInt]
    · rename_i e hs ht
      split at hd
      · rename_i he'
        simp only [Option.some.injEq] at hd; subst hd
        simp only [evalOp, Option.bind_eq_some_iff, Option.some.injEq] at he
        obtain ⟨da, hda, s', hs', rfl⟩ := he
        obtain ⟨rfl, hv⟩ := theStr_rel (hρ _ _ _ ha hda) hs'
        obtain ⟨p', w', v, h1, h2, h3⟩ := sound_strBytes (t := e) (s := s') i
        refine .v ⟨p', w', v, h1, h2, ?_⟩
        simp [hv, convert, run_under hs, run_under ht, run_under he', h3]
      · simp at hd
    · rename_i e hs ht
      split at hd
      · rename_i he'
        simp only [Option.some.injEq] at hd; subst hd
        simp only [evalOp, Option.bind_eq_some_iff] at he
        obtain ⟨da, hda, n, hn, cs, hcs, bs, hbs, he⟩ := he
        split at he
        · simp at he
        · rename_i hns
          simp only [Option.some.injEq] at he; subst he
          exact .v ⟨p, w, _, .refl i, .f (.str _), sound_bytesStr i hs he' ht (hρ _ _ _ ha hda) hn hcs hbs hns⟩
      · simp at hd
    · rename_i hs ht
      simp only [Option.some.injEq] at hd; subst hd
      simp only [evalOp, Option.bind_eq_some_iff, Option.some.injEq] at he
      obtain ⟨da, hda, s', hs', rfl⟩ := he
      obtain ⟨rfl, hv⟩ := theStr_rel (hρ _ _ _ ha hda) hs'
      refine .v ⟨p, w, _, .refl i, .f (.str _), ?_⟩
      simp [hv, convert, run_under hs, run_under ht]
    · simp at hd
  | sliceToArrayPointer t a =>
    simp only [Cx.op] at hd
    split at hd
    · rename_i n e ht
      simp only [Option.bind_eq_some_iff, Option.some.injEq] at hd
      obtain ⟨pa, ha, rfl⟩ := hd
      simp only [evalOp, Option.bind_eq_some_iff] at he
      obtain ⟨da, hda, he⟩ := he
      obtain ⟨v, hv, rfl⟩ := keep_some he
      split at hv
      · obtain ⟨hc, hv⟩ := chk_some hv
        simp only [Bool.and_eq_true] at hc
        simp only [Option.some.injEq] at hv; subst hv
        obtain ⟨y, hy, hr⟩ := sound_sliceArr ht (hρ _ _ _ ha hda) (Nat.le_of_ble_eq_true hc.1) (Nat.lt_of_succ_le (Nat.le_of_ble_eq_true hc.2)) w
        exact .v ⟨p, w, y, .refl i, hy, hr⟩
      · simp at hv
    · simp at hd
  | makeInterface t a =>
    simp only [Cx.op] at hd
    split at hd
    · simp at hd
    · rename_i td hns ht
      simp only [Option.bind_eq_some_iff, Option.some.injEq] at hd
      obtain ⟨pa, ha, rfl⟩ := hd
      simp only [evalOp, Option.bind_eq_some_iff, Option.some.injEq] at he
      obtain ⟨da, hda, v, hv, rfl⟩ := he
      obtain ⟨_, hr⟩ := theF_rel (hρ _ _ _ ha hda) hv
      refine .v ⟨p, w, _, .refl i, .f (.iface hr), ?_⟩
      simp only [Instr.makeInterface, Sem.run_bind, run_under ht, Result.andThen_ok]
      cases td <;> simp at hns ⊢
    · simp at hd
  | makeFunc fn a b =>
    simp only [Cx.op] at hd
    split at hd
    · rename_i f
      simp only [Option.bind_eq_some_iff, Option.some.injEq] at hd
      obtain ⟨pa, ha, pb, hb, rfl⟩ := hd
      simp only [evalOp, Option.bind_eq_some_iff, Option.some.injEq] at he
      obtain ⟨da, hda, db, hdb, rfl⟩ := he
      have := mkFn_rel (f := f) (opnds_arr hρ ha hda) (opnds_arr hρ hb hdb)
      rw [Array.toArray_toList, Array.toArray_toList] at this
      exact .v ⟨p, w, _, .refl i, this, by simp [Instr.makeFunc]⟩
    · simp at hd
  | makeMap t res =>
    cases res with
    | none =>
      simp only [Cx.op, Option.some.injEq] at hd; subst hd
      simp only [evalOp, Option.some.injEq] at he; subst he
      obtain ⟨p', w', h1, h2, rfl⟩ := sound_mkMap i
      exact .v ⟨p', _, _, h1, h2, by simp [Instr.makeMap]⟩
    | some a =>
      simp only [Cx.op] at hd
      split at hd
      · rename_i k e ht
        simp only [Option.bind_eq_some_iff, Option.some.injEq] at hd
        obtain ⟨pa, ha, rfl⟩ := hd
        simp only [evalOp, Option.bind_eq_some_iff, Option.some.injEq] at he
        obtain ⟨da, hda, n, hn, rfl⟩ := he
        obtain ⟨k2, rfl, hv⟩ := theInt_rel (hρ _ _ _ ha hda) hn
        obtain ⟨p', w', h1, h2, rfl⟩ := sound_mkMap i
        refine .v ⟨p', _, _, h1, h2, ?_⟩
        simp [Instr.makeMap, hv, run_under ht, asInt, asIntOf]
      · simp at hd
  | makeSlice t l c =>
    simp only [Cx.op, Option.bind_eq_some_iff] at hd
    obtain ⟨e, hel, ag, hag, sz, hsz, by', hby, z, hz, pl, hl, pc, hc, hd⟩ := hd
    obtain ⟨h0, hd⟩ := chk_some hd
    simp only [Option.some.injEq] at hd; subst hd
    simp only [evalOp, Option.bind_eq_some_iff] at he
    obtain ⟨dl, hdl, dc, hdc, nl, hnl, nc, hnc, he⟩ := he
    obtain ⟨h1, he⟩ := chk_some he
    simp only [Option.some.injEq] at he; subst he
    obtain ⟨k1, hv1, rfl⟩ := natOf_rel (hρ _ _ _ hl hdl) hnl
    obtain ⟨k2, hv2, rfl⟩ := natOf_rel (hρ _ _ _ hc hdc) hnc
    have hel' : x.under t = some (.slice e) := elem_some hel
    refine .v ?_
    rw [hv1, hv2]
    simp only [Bool.and_eq_true, Bool.not_eq_true'] at h0 h1
    exact sound_mkSlice i hel' hsz hby hz (by intro h; simp [h] at h0) (Nat.le_of_ble_eq_true h1.1) ⟨Nat.lt_of_succ_le (Nat.le_of_ble_eq_true h1.2.1), Nat.lt_of_succ_le (Nat.le_of_ble_eq_true h1.2.2)⟩
  | slice t a lo hi mx =>
    simp only [Cx.op, Cx.slice, Option.bind_eq_some_iff] at hd
    obtain ⟨pa, ha, l', hl, h', hh, hd⟩ := hd
    split at hd
    · rename_i ht
      cases mx with
      | some m => simp at hd
      | none =>
      simp only [Option.isNone_none, cond_true, Option.some.injEq] at hd; subst hd
      simp only [evalOp, Option.bind_eq_some_iff] at he
      obtain ⟨da, hda, s, hs, hi', hhi, lo', hlo, he⟩ := he
      obtain ⟨h1, he⟩ := chk_some he
      simp only [Option.some.injEq] at he; subst he
      obtain ⟨rfl, hav⟩ := theStr_rel (hρ _ _ _ ha hda) hs
      simp only [Bool.and_eq_true] at h1
      refine .v ⟨p, w, _, .refl i, .f (.str _), ?_⟩
      rw [hav]
      exact sound_strSlice hρ ht hl hh hhi hlo (Nat.le_of_ble_eq_true h1.1) (Nat.le_of_ble_eq_true h1.2) w
    · rename_i e ht
      simp only [Option.bind_eq_some_iff] at hd
      obtain ⟨sz, hsz, m', hm, hd⟩ := hd
      obtain ⟨h1, hd⟩ := chk_some hd
      simp only [Option.some.injEq] at hd; subst hd
      simp only [evalOp, Option.bind_eq_some_iff] at he
      obtain ⟨da, hda, he⟩ := he
      obtain ⟨v, hv, rfl⟩ := keep_some he
      obtain ⟨y, hy, hr⟩ := sound_slice hρ ht hsz hl hh hm h1 (hρ _ _ _ ha hda) hv
      exact .v ⟨p, w, y, .refl i, hy, hr w⟩
    · rename_i n e ht
      simp only [Option.bind_eq_some_iff] at hd
      obtain ⟨ag, hag, sz, hsz, hd⟩ := hd
      cases mx with
      | some m => simp at hd
      | none =>
      simp only [Option.isNone_none, cond_true, Option.some.injEq] at hd; subst hd
      simp only [evalOp, Option.bind_eq_some_iff] at he
      obtain ⟨da, hda, he⟩ := he
      obtain ⟨v, hv, rfl⟩ := keep_some he
      obtain ⟨y, hy, hr⟩ := sound_sliceA i hρ ht hsz hl hh (hρ _ _ _ ha hda) hv
      exact .v ⟨p, w, y, .refl i, hy, hr w⟩
    · simp at hd
  | fieldAddr t a f =>
    simp only [Cx.op] at hd
    split at hd
    · rename_i fs ht
      simp only [Option.bind_eq_some_iff] at hd
      obtain ⟨pl, hpl, pa, ha, hd⟩ := hd
      obtain ⟨h0, hd⟩ := chk_some hd
      simp only [Option.some.injEq] at hd; subst hd
      simp only [evalOp, Option.bind_eq_some_iff] at he
      obtain ⟨da, hda, he⟩ := he
      obtain ⟨v, hv, rfl⟩ := keep_some he
      obtain ⟨y, hy, hr⟩ := sound_fieldAddr ht hpl (by intro h; simp [h] at h0) (hρ _ _ _ ha hda) hv
      exact .v ⟨p, w, y, .refl i, hy, hr w⟩
    · simp at hd
  | field t a f =>
    simp only [Cx.op] at hd
    split at hd
    · rename_i fs ht
      simp only [Option.bind_eq_some_iff] at hd
      obtain ⟨fd, hfd, ag, hag, sz, hsz, pa, ha, hd⟩ := hd
      obtain ⟨h0, hd⟩ := chk_some hd
      simp only [Option.some.injEq] at hd; subst hd
      simp only [evalOp, Option.bind_eq_some_iff] at he
      obtain ⟨da, hda, he⟩ := he
      obtain ⟨v, hv, rfl⟩ := keep_some he
      obtain ⟨y, hy, hr⟩ := sound_field ht hfd hag hsz h0 (hρ _ _ _ ha hda) hv w
      exact .v ⟨p, w, y, .refl i, hy, hr⟩
    · simp at hd
  | indexAddr t a b =>
    simp only [Cx.op, Option.bind_eq_some_iff] at hd
    obtain ⟨pa, ha, pb, hb, hd⟩ := hd
    split at hd
    · rename_i e ht
      simp only [Option.bind_eq_some_iff, Option.some.injEq] at hd
      obtain ⟨sz, hsz, rfl⟩ := hd
      simp only [evalOp, Option.bind_eq_some_iff] at he
      obtain ⟨da, hda, db, hdb, n, hn, he⟩ := he
      obtain ⟨v, hv, rfl⟩ := keep_some he
      obtain ⟨k2, rfl, hbv⟩ := theInt_rel (hρ _ _ _ hb hdb) hn
      obtain ⟨y, hy, hr⟩ := sound_indexS (k := k2) ht hsz (hρ _ _ _ ha hda) hv
      exact .v ⟨p, w, y, .refl i, hy, by rw [hbv]; exact hr w⟩
    · rename_i n' e ht
      simp only [Option.bind_eq_some_iff, Option.some.injEq] at hd
      obtain ⟨sz, hsz, rfl⟩ := hd
      simp only [evalOp, Option.bind_eq_some_iff] at he
      obtain ⟨da, hda, db, hdb, n, hn, he⟩ := he
      obtain ⟨v, hv, rfl⟩ := keep_some he
      obtain ⟨k2, rfl, hbv⟩ := theInt_rel (hρ _ _ _ hb hdb) hn
      obtain ⟨y, hy, hr⟩ := sound_indexA (k := k2) ht hsz (hρ _ _ _ ha hda) hv
      exact .v ⟨p, w, y, .refl i, hy, by rw [hbv]; exact hr w⟩
    · simp at hd
  | index t a b =>
    simp only [Cx.op, Option.bind_eq_some_iff] at hd
    obtain ⟨pa, ha, pb, hb, hd⟩ := hd
    split at hd
    · rename_i ht
      simp only [Option.some.injEq] at hd; subst hd
      simp only [evalOp, Option.bind_eq_some_iff] at he
      obtain ⟨da, hda, db, hdb, s, hs, n, hn, he⟩ := he
      obtain ⟨h0, he⟩ := chk_some he
      simp only [Option.bind_eq_some_iff, Option.some.injEq] at he
      obtain ⟨b', hb', rfl⟩ := he
      obtain ⟨rfl, hav⟩ := theStr_rel (hρ _ _ _ ha hda) hs
      obtain ⟨k2, rfl, hbv⟩ := theInt_rel (hρ _ _ _ hb hdb) hn
      refine .v ⟨p, w, _, .refl i, .f (.int _ _), ?_⟩
      rw [hav, hbv]
      exact sound_strIndex ht (by simpa using h0) hb' w
    · rename_i n' e ht
      simp only [Option.bind_eq_some_iff] at hd
      obtain ⟨ag, hag, sz, hsz, hd⟩ := hd
      obtain ⟨h1, hd⟩ := chk_some hd
      simp only [Option.some.injEq] at hd; subst hd
      simp only [evalOp, Option.bind_eq_some_iff] at he
      obtain ⟨da, hda, db, hdb, n, hn, he⟩ := he
      obtain ⟨h0, he⟩ := chk_some he
      obtain ⟨v, hv, rfl⟩ := keep_some he
      simp only [Bool.and_eq_true, decide_eq_true_eq] at h0
      obtain ⟨k2, rfl, hbv⟩ := theInt_rel (hρ _ _ _ hb hdb) hn
      obtain ⟨y, hy, hr⟩ := sound_index (k := k2) ht hag hsz h1 (hρ _ _ _ ha hda) h0.1 (Nat.lt_of_succ_le (Nat.le_of_ble_eq_true h0.2)) hv w
      exact .v ⟨p, w, y, .refl i, hy, by rw [hbv]; exact hr⟩
    · simp at hd
  | lookup t a b ok =>
    simp only [Cx.op, Option.bind_eq_some_iff, Option.some.injEq] at hd
    obtain ⟨⟨ty, e⟩, hm, z, hz, pa, ha, pb, hb, rfl⟩ := hd
    simp only [evalOp, Option.bind_eq_some_iff] at he
    obtain ⟨da, hda, db, hdb, k, hk, he⟩ := he
    obtain ⟨v, hv, rfl⟩ := keep_some he
    obtain ⟨_, hkr⟩ := theF_rel (hρ _ _ _ hb hdb) hk
    obtain ⟨y, hy, hr⟩ := sound_lookup i hm hz (hρ _ _ _ ha hda) hkr hv
    exact .v ⟨p, w, y, .refl i, hy, hr⟩
  | mapUpdate t m k v =>
    simp only [Cx.op, Option.bind_eq_some_iff, Option.some.injEq] at hd
    obtain ⟨⟨ty, e⟩, hm, pm, hpm, pk, hpk, pv, hpv, rfl⟩ := hd
    simp only [evalOp, Option.bind_eq_some_iff] at he
    obtain ⟨dm, hdm, dk, hdk, dv, hdv, fk, hfk, he⟩ := he
    obtain ⟨h2, hh, rfl⟩ := void_some he
    obtain ⟨_, hkr⟩ := theF_rel (hρ _ _ _ hpk hdk) hfk
    exact .u (sound_insert i hm (hρ _ _ _ hpm hdm) hkr (hρ _ _ _ hpv hdv) hh)
  | insert t m k v =>
    simp only [Cx.op, Option.bind_eq_some_iff, Option.some.injEq] at hd
    obtain ⟨⟨ty, e⟩, hm, pm, hpm, pk, hpk, pv, hpv, rfl⟩ := hd
    simp only [evalOp, Option.bind_eq_some_iff] at he
    obtain ⟨dm, hdm, dk, hdk, dv, hdv, fk, hfk, he⟩ := he
    obtain ⟨h2, hh, rfl⟩ := void_some he
    obtain ⟨_, hkr⟩ := theF_rel (hρ _ _ _ hpk hdk) hfk
    exact .u (sound_insert i hm (hρ _ _ _ hpm hdm) hkr (hρ _ _ _ hpv hdv) hh)
  | mapEntry t m k =>
    simp only [Cx.op, Option.bind_eq_some_iff, Option.some.injEq] at hd
    obtain ⟨⟨ty, e⟩, hm, z, hz, pm, hpm, pk, hpk, rfl⟩ := hd
    simp only [evalOp, Option.bind_eq_some_iff] at he
    obtain ⟨dm, hdm, dk, hdk, fk, hfk, he⟩ := he
    obtain ⟨_, hkr⟩ := theF_rel (hρ _ _ _ hpk hdk) hfk
    exact .v (sound_mapEntry i hm hz (hρ _ _ _ hpm hdm) hkr he)
  | entryStore t m k v =>
    simp only [Cx.op, Option.bind_eq_some_iff, Option.some.injEq] at hd
    obtain ⟨pm, hpm, pk, hpk, pv, hpv, rfl⟩ := hd
    simp only [evalOp, Option.bind_eq_some_iff] at he
    obtain ⟨dm, hdm, dk, hdk, dv, hdv, n, hn, he⟩ := he
    obtain ⟨h2, hh, rfl⟩ := void_some he
    obtain ⟨k2, rfl, hkv⟩ := theInt_rel (hρ _ _ _ hpk hdk) hn
    refine .u ?_
    rw [hkv]
    exact sound_entryStore i (hρ _ _ _ hpm hdm) (hρ _ _ _ hpv hdv) hh
  | typeAssert a xt t ok =>
    simp only [Cx.op] at hd
    split at hd
    · simp at hd
    · rename_i td hns ht
      simp only [Option.bind_eq_some_iff] at hd
      obtain ⟨pa, ha, hd⟩ := hd
      cases ok with
      | true =>
        simp only [cond_true, Option.bind_eq_some_iff, Option.some.injEq] at hd
        obtain ⟨z, hz, rfl⟩ := hd
        simp only [evalOp, Option.bind_eq_some_iff] at he
        obtain ⟨da, hda, he⟩ := he
        obtain ⟨v, hv, rfl⟩ := keep_some he
        obtain ⟨y, hy, hr⟩ := sound_typeAssert (xt := xt) hz ht (by intro ms h; exact hns ms h) (hρ _ _ _ ha hda) hv
        exact .v ⟨p, w, y, .refl i, hy, hr w⟩
      | false =>
        simp only [cond_false, Option.some.injEq] at hd; subst hd
        simp only [evalOp, Option.bind_eq_some_iff] at he
        obtain ⟨da, hda, he⟩ := he
        obtain ⟨v, hv, rfl⟩ := keep_some he
        obtain ⟨y, hy, hr⟩ := sound_typeAssert1 (xt := xt) ht (by intro ms h; exact hns ms h) (hρ _ _ _ ha hda) hv
        exact .v ⟨p, w, y, .refl i, hy, hr w⟩
    · simp at hd
  | extract a k =>
    simp only [Cx.op, Option.bind_eq_some_iff, Option.some.injEq] at hd
    obtain ⟨pa, ha, rfl⟩ := hd
    simp only [evalOp, Option.bind_eq_some_iff] at he
    obtain ⟨da, hda, he⟩ := he
    obtain ⟨v, hv, rfl⟩ := keep_some he
    obtain ⟨y, hy, hr⟩ := sound_extract (x := x) (hρ _ _ _ ha hda) hv
    exact .v ⟨p, w, y, .refl i, hy, hr w⟩
  | panic a =>
    simp only [Cx.op, Option.bind_eq_some_iff, Option.some.injEq] at hd
    obtain ⟨pa, ha, rfl⟩ := hd
    simp [evalOp] at he
  | defer c =>
    simp only [Cx.op] at hd
    split at hd
    · simp only [Option.bind_eq_some_iff, Option.some.injEq] at hd
      obtain ⟨pa, ha, pb, hb, rfl⟩ := hd
      simp [evalOp] at he
    · simp at hd
  | call c =>
    simp only [Cx.op] at hd
    split at hd
    · simp only [Option.bind_eq_some_iff, Option.some.injEq] at hd
      obtain ⟨pa, ha, pb, hb, rfl⟩ := hd
      simp [evalOp] at he
    · rename_i b hb
      refine .congr (s' := builtin b c.argTypes o.type (c.args.map fun | .const _ => true | _ => false) (c.args.map τ)) (by simp [resolve, hb, invoke]; rfl) ?_
      exact builtin_sound i hρ hd he
    · simp at hd
  | _ => simp [Cx.op] at hd
end
end Go.Dee
end
section
/- Frames and steps. -/
namespace Go.Dee
def fat (b : Frame) (a : Act) (todo : List Item) : Frame := { b with tmps := a.tmps, todo, defers := a.defers, mode := .run }
theorem fat_eval (b : Frame) (a : Act) (todo : List Item) (x : Operand) : (fat b a todo).eval x = a.eval x := by cases x <;> rfl
section
variable {P : Program} {b : Frame} {a : Act} {k : List Item} {cs : List Frame} {w : World} {ops : Array Oper}
theorem mstep_skip : step P (lone (fat b a (.code .skip :: k)) cs w) = .next (lone (fat b a k) cs w) := step_lone_go (by simp [stepG, stepG.exec, fat])
theorem mstep_label {l : Nat} : step P (lone (fat b a (.code (.label l) :: k)) cs w) = .next (lone (fat b a k) cs w) := step_lone_go (by simp [stepG, stepG.exec, fat])
theorem mstep_inBlock {l : Nat} : step P (lone (fat b a (.inBlock l :: k)) cs w) = .next (lone (fat b a k) cs w) := step_lone_go (by simp [stepG, stepG.exec, fat])
theorem mstep_inScope {c : Code} : step P (lone (fat b a (.inScope c :: k)) cs w) = .next (lone (fat b a k) cs w) := step_lone_go (by simp [stepG, stepG.exec, fat])
theorem mstep_seq {x y : Code} : step P (lone (fat b a (.code (.seq x y) :: k)) cs w) = .next (lone (fat b a (.code x :: .code y :: k)) cs w) := step_lone_go (by simp [stepG, stepG.exec, fat])
theorem mstep_cond {c : Operand} {x y : Code} {t : Bool} (h : a.eval c = .bool t) : step P (lone (fat b a (.code (.cond c x y) :: k)) cs w) = .next (lone (fat b a (.code (if t then x else y) :: k)) cs w) :=
  step_lone_go (by
    have := fat_eval b a (.code (.cond c x y) :: k) c
    simp only [fat] at this
    simp [stepG, stepG.exec, fat, this, h])
theorem mstep_block {id : Nat} {c : Code} : step P (lone (fat b a (.code (.block id c) :: k)) cs w) = .next (lone (fat b a (.code c :: .inBlock id :: k)) cs w) := step_lone_go (by simp [stepG, stepG.exec, fat])
theorem mstep_loop {c : Code} : step P (lone (fat b a (.code (.loop c) :: k)) cs w) = .next (lone (fat b a (.code c :: .inLoop c :: k)) cs w) := step_lone_go (by simp [stepG, stepG.exec, fat])
theorem mstep_inLoop {c : Code} : step P (lone (fat b a (.inLoop c :: k)) cs w) = .next (lone (fat b a (.code c :: .inLoop c :: k)) cs w) := step_lone_go (by simp [stepG, stepG.exec, fat])
theorem mstep_scope {c : Code} : step P (lone (fat b a (.code (.scope c) :: k)) cs w) = .next (lone (fat b a (.code c :: .inScope c :: k)) cs w) := step_lone_go (by simp [stepG, stepG.exec, fat])
theorem mstep_exit {id : Nat} {k' : List Item} (h : exitTo id k = some k') : step P (lone (fat b a (.code (.exit id) :: k)) cs w) = .next (lone (fat b a k') cs w) := step_lone_go (by simp [stepG, stepG.exec, fat, h])
theorem mstep_goto {l : Nat} {k' : List Item} (h : gotoIn l k = some k') : step P (lone (fat b a (.code (.goto l) :: k)) cs w) = .next (lone (fat b a k') cs w) := step_lone_go (by simp [stepG, stepG.exec, fat, h])
theorem mstep_region {id : Nat} : step P (lone (fat b a (.code (.region id ops false) :: k)) cs w) = .next (lone (fat b a (.inRegion ops (List.range ops.size) :: k)) cs w) := step_lone_go (by simp [stepG, stepG.exec, fat])
theorem mstep_draw {id : Nat} : step P (lone (fat b a (.code (.region id ops true) :: k)) cs w) =
    .next (lone (fat b a (.inRegion ops (Region.schedule (P.follows .mixedOrders) ops (w.tape w.drawn (.order b.fn id))) :: k)) cs { w with drawn := w.drawn + 1 }) :=
  step_lone_go (by simp [stepG, stepG.exec, fat, choose, Sem.run, Question.forced, Question.cut])
theorem mstep_end : step P (lone (fat b a (.inRegion ops [] :: k)) cs w) = .next (lone (fat b a k) cs w) := step_lone_go (by simp [stepG, stepG.exec, fat])
theorem fat_finish {i : Nat} {rest : List Nat} (v : Value) : (fat b a (.inRegion ops (i :: rest) :: k)).finish v = fat b (a.put ((ops[i]?).bind (·.dst)) v) (.inRegion ops rest :: k) := by
  cases h : (ops[i]?).bind (·.dst) <;> simp [Frame.finish, fat, h, Act.put]
theorem mstep_out {i : Nat} {rest : List Nat} (h : ((ops[i]?).map (Region.wanted · (yielded ops a.tmps))).getD false = false) :
    step P (lone (fat b a (.inRegion ops (i :: rest) :: k)) cs w) = .next (lone (fat b (a.put ((ops[i]?).bind (·.dst)) undef) (.inRegion ops rest :: k)) cs w) := by
  rw [← fat_finish]
  exact step_lone_go (by
    have h' := h
    simp only [fat] at *
    simp [stepG, stepG.exec, h'])
theorem stepG_fat {i : Nat} {rest : List Nat} {o : Oper} (ho : ops[i]? = some o) (hw : Region.wanted o (yielded ops a.tmps) = true) (hd : b.roundOf = none ∨ ∀ c, o.op ≠ .defer c) :
    stepG P true { frame := fat b a (.inRegion ops (i :: rest) :: k), callers := cs, status := .running, dying := none } w =
      stepG.apply P true (fat b a (.inRegion ops (i :: rest) :: k)) cs none (Go.execOp a.eval o) w := by
  have he : (fat b a (.inRegion ops (i :: rest) :: k)).eval = a.eval := by funext x; exact fat_eval ..
  simp only [fat] at he
  simp only [stepG, stepG.exec, stepG.oper, Frame.oper?, fat, ho, hw, he, Option.map_some, Option.getD_some, if_true, Bool.and_true]
  split
  · rename_i l c h1 h2
    rcases hd with h | h
    · rw [h] at h1; simp at h1
    · exact absurd h2 (h c)
  · rfl
/- an operation that gives a value, or nothing -/
theorem mstep_value {i : Nat} {rest : List Nat} {o : Oper} (ho : ops[i]? = some o) (hw : Region.wanted o (yielded ops a.tmps) = true) (hd : b.roundOf = none ∨ ∀ c, o.op ≠ .defer c)
    {n : Next} {v : Value} {w' : World} (hr : (Go.execOp a.eval o).run P w = .ok n w') (hn : n = .value v ∨ n = .skip ∧ v = undef) :
    step P (lone (fat b a (.inRegion ops (i :: rest) :: k)) cs w) = .next (lone (fat b (a.put o.dst v) (.inRegion ops rest :: k)) cs w') := by
  have hf := fat_finish (b := b) (a := a) (ops := ops) (i := i) (rest := rest) (k := k) v
  rw [ho] at hf
  refine step_lone_go ?_
  rw [stepG_fat ho hw hd]
  simp only [Option.bind_some] at hf
  rw [← hf]
  rcases hn with rfl | ⟨rfl, rfl⟩ <;> simp [stepG.apply, hr]
/- how a statement is left -/
def Arr (P : Program) (M : Addr → Option Value) (m : Machine) (b : Frame) (k : List Item) (cs : List Frame) (a : Act) (w : World) : Out → Prop
  | .normal => Steps P m (lone (fat b a k) cs w)
  | .exit id => ∃ k', exitTo id k' = exitTo id k ∧ Steps P m (lone (fat b a (.code (.exit id) :: k')) cs w)
  | .goto l => ∃ k', gotoIn l k' = gotoIn l k ∧ Steps P m (lone (fat b a (.code (.goto l) :: k')) cs w)
  | .ret => ∃ k', Steps P m (lone (fat b a (.code .ret :: k')) cs w)
  | .panic v => ∃ k' x, FRel M v x ∧ Steps P m (lone { fat b a k' with mode := .panicking [{ v := x, recovered := false }] } cs w)
theorem Arr.steps {M : Addr → Option Value} {m m1 : Machine} {a' : Act} {w' : World} {o : Out} (h : Steps P m m1) (r : Arr P M m1 b k cs a' w' o) : Arr P M m b k cs a' w' o := by
  cases o with
  | normal => exact h.trans r
  | exit id => obtain ⟨k', e, s⟩ := r; exact ⟨k', e, h.trans s⟩
  | goto l => obtain ⟨k', e, s⟩ := r; exact ⟨k', e, h.trans s⟩
  | ret => obtain ⟨k', s⟩ := r; exact ⟨k', h.trans s⟩
  | panic v => obtain ⟨k', x, e, s⟩ := r; exact ⟨k', x, e, h.trans s⟩
/- items that no jump ends at -/
theorem Arr.pass {M : Addr → Option Value} {m : Machine} {a' : Act} {w' : World} {o : Out} {y : Item} (hy : y.plain = true) (hn : o ≠ .normal) (r : Arr P M m b (y :: k) cs a' w' o) : Arr P M m b k cs a' w' o := by
  cases o with
  | normal => exact absurd rfl hn
  | exit id => obtain ⟨k', e, s⟩ := r; exact ⟨k', by rw [e]; cases y <;> simp_all [exitTo, Item.plain], s⟩
  | goto l => obtain ⟨k', e, s⟩ := r; exact ⟨k', by rw [e]; cases y <;> simp_all [gotoIn, Item.plain], s⟩
  | ret => exact r
  | panic v => exact r
end
end Go.Dee
end
section
/- The state of a frame, and calls. -/
namespace Go.Dee
def csTo (rc : Rc) (cs : List Frame) (rc' : Rc) (cs' : List Frame) : Prop :=
  (rc' = rc ∧ cs' = cs) ∨ ∃ v c rest x, rc = .pend v ∧ rc' = .done v ∧ cs = c :: rest ∧ c.mode = .panicking [{ v := x, recovered := false }] ∧ cs' = { c with mode := .panicking [{ v := x, recovered := true }] } :: rest
theorem csTo.refl (rc : Rc) (cs : List Frame) : csTo rc cs rc cs := .inl ⟨rfl, rfl⟩
theorem csTo.trans {r1 r2 r3 : Rc} {c1 c2 c3 : List Frame} (h : csTo r1 c1 r2 c2) (h' : csTo r2 c2 r3 c3) : csTo r1 c1 r3 c3 := by
  rcases h with ⟨rfl, rfl⟩ | ⟨v, c, rest, x, rfl, rfl, e1, e2, e3⟩
  · exact h'
  · rcases h' with ⟨rfl, rfl⟩ | ⟨v', c', rest', x', e4, _⟩
    · exact .inr ⟨v, c, rest, x, rfl, rfl, e1, e2, e3⟩
    · simp at e4
theorem csTo.off {cs cs' : List Frame} {rc' : Rc} (h : csTo .off cs rc' cs') : rc' = .off ∧ cs' = cs := by
  rcases h with h | ⟨v, c, rest, x, h, _⟩
  · exact h
  · simp at h
def RcK (p : Pl) (kind : CallKind) (cs : List Frame) : Rc → Prop
  | .off => kind = .normal
  | .loop => False
  | .idle => kind = .deferred ∧ ∃ c rest, cs = c :: rest ∧ c.mode = .returning
  | .pend v => kind = .deferred ∧ ∃ c rest x, cs = c :: rest ∧ c.mode = .panicking [{ v := x, recovered := false }] ∧ FRel p.M v x
  | .done v => kind = .deferred ∧ ∃ c rest x, cs = c :: rest ∧ c.mode = .panicking [{ v := x, recovered := true }] ∧ FRel p.M v x
def RcF (p : Pl) (b : Frame) (cs : List Frame) (rc : Rc) : Prop :=
  match rc with
  | .loop => ∃ l, b.roundOf = some l
  | rc => b.roundOf = none ∧ RcK p b.kind cs rc
theorem RcK.mono {p q : Pl} (e : Ext p q) {kind : CallKind} {cs : List Frame} {rc : Rc} (h : RcK p kind cs rc) : RcK q kind cs rc := by
  cases rc with
  | off => exact h
  | idle => exact h
  | loop => exact h
  | pend v => obtain ⟨h1, c, rest, x, h2, h3, h4⟩ := h; exact ⟨h1, c, rest, x, h2, h3, h4.mono e.M⟩
  | done v => obtain ⟨h1, c, rest, x, h2, h3, h4⟩ := h; exact ⟨h1, c, rest, x, h2, h3, h4.mono e.M⟩
theorem RcF.mono {p q : Pl} (e : Ext p q) {b : Frame} {cs : List Frame} {rc : Rc} (h : RcF p b cs rc) : RcF q b cs rc := by
  cases rc with
  | loop => exact h
  | _ => exact ⟨h.1, RcK.mono e h.2⟩
def DefRel (x : Cx) (β : Nat) (p : Pl) (w : World) : Def → Deferred → Prop
  | .coll, d => ∃ blk, d = { target := .collected blk, args := #[] } ∧ β ≤ blk ∧ w.heap[blk]? = some (.deferred (some []))
  | .fn fv args, d => ∃ vf vs, DRel p fv vf ∧ CD p args vs ∧ ∀ w, (Deferred.ofValue vf vs.toArray).run x.P w = .ok d w
def collOf (d : Deferred) : Option Nat := match d.target with | .collected b => some b | _ => none
def DefsRel (x : Cx) (β : Nat) (p : Pl) (w : World) (ds : List Def) (l : List Deferred) : Prop := PW (DefRel x β p w) ds l ∧ (l.filterMap collOf).Nodup
section
variable {x : Cx} {β : Nat} {p q : Pl} {h h' : Heap} {w w' : World}
theorem Inv.not_owned (i : Inv x p h w) {b : Nat} {ds : Option (List Deferred)} (hb : w.heap[b]? = some (.deferred ds)) (id : Nat) : ¬ Owns p h id b := by
  intro ⟨blk, hbl, ho⟩
  have br := i.B id blk hbl
  cases blk with
  | cells g cs =>
    obtain ⟨k, base, e, arr, h1, h2, h3, _⟩ := br
    obtain ⟨base', ho⟩ := ho
    rw [h1] at ho; simp at ho; obtain ⟨rfl, _⟩ := ho
    rw [h3] at hb; simp at hb
  | map es c =>
    obtain ⟨k, arr, h1, h3, _⟩ := br
    have ho : p.ι id 0 = some (b, 0) := ho
    rw [h1] at ho; simp at ho; subst ho
    rw [h3] at hb; simp at hb
  | loop =>
    obtain ⟨k, l, h1, h3, _⟩ := br
    have ho : p.ι id 0 = some (b, 0) := ho
    rw [h1] at ho; simp at ho; subst ho
    rw [h3] at hb; simp at hb
theorem DefRel.post (i : Inv x p h w) (po : Post x p h w q h' w') {d : Def} {e : Deferred} (r : DefRel x β p w d e) : DefRel x β q w' d e := by
  cases d with
  | coll =>
    obtain ⟨blk, rfl, hβ, hb⟩ := r
    refine ⟨blk, rfl, hβ, ?_⟩
    have hlt : blk < w.heap.size := by
      rcases Nat.lt_or_ge blk w.heap.size with h | h
      · exact h
      · simp [Array.getElem?_eq_none h] at hb
    rw [po.mod blk hlt (fun id _ => i.not_owned hb id)]
    exact hb
  | fn fv args =>
    obtain ⟨vf, vs, h1, h2, h3⟩ := r
    exact ⟨vf, vs, h1.mono po.ext, h2.mono po.ext, h3⟩
theorem DefsRel.post (i : Inv x p h w) (po : Post x p h w q h' w') {ds : List Def} {l : List Deferred} (r : DefsRel x β p w ds l) : DefsRel x β q w' ds l := ⟨r.1.mono fun _ _ r => r.post i po, r.2⟩
structure SRel (x : Cx) (β : Nat) (p : Pl) (s : St) (w : World) (b : Frame) (a : Act) (cs : List Frame) : Prop where
  inv : Inv x p s.hp w
  tm : TmRel p s.tm a.tmps
  nt : a.tmps.size = x.nt
  defs : DefsRel x β p w s.defs a.defers
  rc : RcF p b cs s.rc
  base : β ≤ w.heap.size
def Ex (x : Cx) (β : Nat) (p : Pl) (s : St) (w : World) (b : Frame) (k : List Item) (m : Machine) (cs : List Frame) (o : Out) (s' : St) : Prop :=
  ∃ p' w' a' cs', Post x p s.hp w p' s'.hp w' ∧ SRel x β p' s' w' b a' cs' ∧ csTo s.rc cs s'.rc cs' ∧ Arr x.P p'.M m b k cs' a' w' o
/- A CALL -/
def Invoked (P : Program) (vf : Value) (vs : List Value) (w : World) (n : Next) : Prop := (do let d ← Deferred.ofValue vf vs.toArray; invoke d.target d.args : Sem Next).run P w = .ok n w
def Enters (P : Program) (n : Next) (kind : CallKind) (fr : Frame) : Prop :=
  (∃ f as, n = .enter f as ∧ fr = Frame.enter P f as kind) ∨ (∃ l f tmps as body, n = .round l f tmps as body ∧ fr = Frame.round l f tmps as body kind)
def Left (x : Cx) (p' : Pl) (fr : Frame) (cs : List Frame) (w1 w' : World) : COut → Prop
  | .ret v => ∃ y, DRel p' v y ∧ (stepG x.P true { frame := fr, callers := cs, status := .running, dying := none } w1).bare = (doReturn x.P true fr cs none y w').bare
  | .panic v => ∃ y, FRel p'.M v y ∧ w1 = w' ∧ fr.mode = .panicking [{ v := y, recovered := false }] ∧ fr.defers = [] ∧ fr.catches x.P = false
def Run (x : Cx) (p : Pl) (h : Heap) (w : World) (vf : Value) (vs : List Value) (kind : CallKind) (cs : List Frame) (rc rc' : Rc) (o : COut) (h' : Heap) : Prop :=
  ∃ n fr p' w' w1 cs' fr', Invoked x.P vf vs w n ∧ Enters x.P n kind fr ∧ Post x p h w p' h' w' ∧ csTo rc cs rc' cs' ∧ fr'.kind = kind ∧ Steps x.P (lone fr cs w) (lone fr' cs' w1) ∧ Left x p' fr' cs' w1 w' o
def KSound (x : Cx) (k : CallK) : Prop := ∀ fv args rc h o rc' h', k fv args rc h = some (o, rc', h') → ∀ p w vf vs kind cs, Inv x p h w → DRel p fv vf → CD p args vs → RcK p kind cs rc → Run x p h w vf vs kind cs rc rc' o h'
/- a caller goes on -/
theorem left_ret {p' : Pl} {fr c : Frame} {cs : List Frame} {w1 w' : World} {v : DV} (hl : Left x p' fr (c :: cs) w1 w' (.ret v)) (hk : fr.kind = .normal) : ∃ y, DRel p' v y ∧ step x.P (lone fr (c :: cs) w1) = .next (lone (c.finish y) cs w') := by
  obtain ⟨y, hy, he⟩ := hl
  refine ⟨y, hy, step_lone_go ?_⟩
  rw [he]
  simp [doReturn, hk]
theorem left_panic {p' : Pl} {fr c : Frame} {cs : List Frame} {w1 w' : World} {v : FV} (hl : Left x p' fr (c :: cs) w1 w' (.panic v)) : ∃ y, FRel p'.M v y ∧ step x.P (lone fr (c :: cs) w1) = .next (lone (c.raise [{ v := y, recovered := false }]) cs w') := by
  obtain ⟨y, hy, rfl, hm, hd, hc⟩ := hl
  refine ⟨y, hy, step_lone_go ?_⟩
  simp [stepG, Go.unwind, hm, hd, hc]
variable {b : Frame} {a : Act} {k : List Item} {cs : List Frame} {ops : Array Oper}
theorem mstep_enter {i : Nat} {rest : List Nat} {o : Oper} (ho : ops[i]? = some o) (hw : Region.wanted o (yielded ops a.tmps) = true) (hd : ∀ c, o.op ≠ .defer c)
    {n : Next} {fr : Frame} (hr : (Go.execOp a.eval o).run x.P w = .ok n w') (hn : Enters x.P n .normal fr) :
    step x.P (lone (fat b a (.inRegion ops (i :: rest) :: k)) cs w) = .next (lone fr (fat b a (.inRegion ops (i :: rest) :: k) :: cs) w') := by
  refine step_lone_go ?_
  rw [stepG_fat ho hw (.inr hd)]
  rcases hn with ⟨f, as, rfl, rfl⟩ | ⟨l, f, tmps, as, body, rfl, rfl⟩ <;> simp [stepG.apply, hr, fat]
/- an operation that calls -/
theorem call_op {i : Nat} {rest : List Nat} {o : Oper} (ho : ops[i]? = some o) (hw : Region.wanted o (yielded ops a.tmps) = true) (hd : ∀ c, o.op ≠ .defer c) {vf : Value} {vs : List Value}
    (hr : (Go.execOp a.eval o).run x.P w = (do let d ← Deferred.ofValue vf vs.toArray; invoke d.target d.args : Sem Next).run x.P w) {co : COut} {rc' : Rc}
    (run : Run x p h w vf vs .normal (fat b a (.inRegion ops (i :: rest) :: k) :: cs) .off rc' co h') :
    ∃ p' w', Post x p h w p' h' w' ∧
      (∀ v, co = .ret v → ∃ y, DRel p' v y ∧ Steps x.P (lone (fat b a (.inRegion ops (i :: rest) :: k)) cs w) (lone (fat b (a.put o.dst y) (.inRegion ops rest :: k)) cs w')) ∧
      (∀ v, co = .panic v → ∃ y, FRel p'.M v y ∧ Steps x.P (lone (fat b a (.inRegion ops (i :: rest) :: k)) cs w) (lone { fat b a (.inRegion ops (i :: rest) :: k) with mode := .panicking [{ v := y, recovered := false }] } cs w')) := by
  obtain ⟨n, fr, p', w', w1, cs', fr', hinv, hent, hpost, hcs, hk, hst, hleft⟩ := run
  obtain ⟨_, rfl⟩ := hcs.off
  have h1 := mstep_enter (b := b) (k := k) (cs := cs) (rest := rest) ho hw hd (hr.trans hinv) hent
  refine ⟨p', w', hpost, ?_, ?_⟩
  · rintro v rfl
    obtain ⟨y, hy, h2⟩ := left_ret hleft hk
    refine ⟨y, hy, .head h1 (hst.trans (.one ?_))⟩
    rw [h2, fat_finish, ho]; rfl
  · rintro v rfl
    obtain ⟨y, hy, h2⟩ := left_panic hleft
    exact ⟨y, hy, .head h1 (hst.trans (.one h2))⟩
end
end Go.Dee
end
section
/- What was made and is not needed any more. -/
namespace Go.Dee
theorem getB_keepBelow (c id : Nat) : ∀ (l : List (Nat × Blk)), getB id (keepBelow c l) = if id < c then getB id l else none
  | [] => by simp [keepBelow, getB]
  | (k, b) :: l => by
    have ih := getB_keepBelow c id l
    unfold keepBelow
    cases hk : Nat.blt k c with
    | true =>
      have hkc : k < c := Nat.lt_of_succ_le (Nat.le_of_ble_eq_true hk)
      simp only [cond_true, getB, ih]
      cases hkid : Nat.beq k id with
      | true =>
        have := Nat.eq_of_beq_eq_true hkid; subst this
        simp [hkc]
      | false => simp
    | false =>
      simp only [cond_false, ih, getB]
      cases hkid : Nat.beq k id with
      | true =>
        have := Nat.eq_of_beq_eq_true hkid; subst this
        have : ¬ k < c := fun h => by
          have := Nat.ble_eq_true_of_le (Nat.succ_le_of_lt h)
          simp [Nat.blt, this] at hk
        simp [this]
      | false => simp
theorem belowL_get {c : Nat} : ∀ {l : List DV}, belowL c l = true → ∀ (i : Nat) (d : DV), l[i]? = some d → below c d = true
  | [], _, i, d, h => by simp at h
  | d' :: l, hb, 0, d, h => by simp [belowL] at hb; simp at h; subst h; exact hb.1
  | d' :: l, hb, i + 1, d, h => by simp [belowL] at hb; simp at h; exact belowL_get hb.2 i d h
theorem tmBelow_get {c : Nat} : ∀ {t : Tm} {p : Pos} {d : DV}, tmBelow c t = true → t.get p = some d → below c d = true
  | .leaf, p, d, _, h => by rw [Tm.get_leaf] at h; simp at h
  | .node l v r, p, d, hb, h => by
    simp only [tmBelow, Bool.and_eq_true] at hb
    cases p with
    | h => simp [Tm.get] at h; subst h; exact hb.2.2
    | o p => exact tmBelow_get hb.1 (by simpa [Tm.get] using h)
    | i p => exact tmBelow_get hb.2.1 (by simpa [Tm.get] using h)
theorem bsBelow_get {c id : Nat} : ∀ {l : List (Nat × Blk)} {b : Blk}, bsBelow c l = true → getB id l = some b → blkBelow c b = true
  | [], b, _, h => by simp [getB] at h
  | (k, b') :: l, b, hb, h => by
    simp only [bsBelow, Bool.and_eq_true] at hb
    unfold getB at h
    cases hk : Nat.beq k id with
    | true => simp [hk] at h; subst h; exact hb.1
    | false => simp [hk] at h; exact bsBelow_get hb.2 h
theorem keepLive_get {tm : Tm} : ∀ {l : List Pos} {p : Pos} {d : DV}, (keepLive tm l).get p = some d → tm.get p = some d
  | [], p, d, h => by simp [keepLive, Tm.get_leaf] at h
  | q :: l, p, d, h => by
    unfold keepLive at h
    split at h
    · rename_i d' hd'
      by_cases hpq : q = p
      · subst hpq; rw [Tm.get_set_same] at h; simp at h; subst h; exact hd'
      · rw [Tm.get_set_other _ _ _ _ hpq] at h; exact keepLive_get h
    · exact keepLive_get h
def Pl.cut (q : Pl) (c : Nat) : Pl := ⟨q.M, q.K, fun id g => if id < c then q.ι id g else none⟩
theorem cut_rel {q : Pl} {c : Nat} {d : DV} {v : Value} (r : DRel q d v) : below c d = true → DRel (q.cut c) d v := by
  induction r with
  | f h => intro _; exact .f h
  | ptr blk base h =>
    intro hb
    have : _ < c := Nat.lt_of_succ_le (Nat.le_of_ble_eq_true hb)
    exact .ptr blk base (by simp [Pl.cut, this, h])
  | slice blk base o cc n h hk hl ho hcap =>
    intro hb
    have : _ < c := Nat.lt_of_succ_le (Nat.le_of_ble_eq_true hb)
    exact .slice blk base o cc n (by simp [Pl.cut, this, h]) hk hl ho hcap
  | map blk h =>
    intro hb
    have : _ < c := Nat.lt_of_succ_le (Nat.le_of_ble_eq_true hb)
    exact .map blk (by simp [Pl.cut, this, h])
  | yield blk h =>
    intro hb
    have : _ < c := Nat.lt_of_succ_le (Nat.le_of_ble_eq_true hb)
    exact .yield blk (by simp [Pl.cut, this, h])
  | func as bs hal hbl ha hb iha ihb =>
    intro hbb
    simp only [below, Bool.and_eq_true] at hbb
    exact .func as bs hal hbl (fun i x y h1 h2 => iha i x y h1 h2 (belowL_get hbb.1 i x h1)) (fun i x y h1 h2 => ihb i x y h1 h2 (belowL_get hbb.2 i x h1))
  | agg vs hl h ih =>
    intro hb
    simp only [below] at hb
    exact .agg vs hl (fun i x y h1 h2 => ih i x y h1 h2 (belowL_get hb i x h1))
  | tuple vs hl h ih =>
    intro hb
    simp only [below] at hb
    exact .tuple vs hl (fun i x y h1 h2 => ih i x y h1 h2 (belowL_get hb i x h1))
section
variable {x : Cx} {p q : Pl} {h h1 : Heap} {w w1 : World}
theorem CD.cut {c : Nat} {l : List DV} {vs : List Value} (r : CD q l vs) (hb : belowL c l = true) : CD (q.cut c) l vs := ⟨r.1, fun i x y h1 h2 => cut_rel (r.2 i x y h1 h2) (belowL_get hb i x h1)⟩
theorem cut_owns {c id b : Nat} {blk : Blk} (o : OwnsB (q.cut c) id blk b) : OwnsB q id blk b := by
  have key : ∀ g y, (q.cut c).ι id g = some y → q.ι id g = some y := by
    intro g y hy
    simp only [Pl.cut] at hy
    split at hy
    · exact hy
    · simp at hy
  cases blk with
  | cells g cs => obtain ⟨base, ho⟩ := o; exact ⟨base, key _ _ ho⟩
  | map es c => exact key _ _ o
  | loop => exact key _ _ o
theorem cut_blk {c id : Nat} {blk : Blk} (hid : id < c) (hb : blkBelow c blk = true) (r : BlkRel x q w1 id blk) : BlkRel x (q.cut c) w1 id blk := by
  have key : ∀ g, (q.cut c).ι id g = q.ι id g := by intro g; simp [Pl.cut, hid]
  cases blk with
  | cells g cs =>
    obtain ⟨b, base, e, arr, h1, h2, h3, h4, h5, h6, h7⟩ := r
    exact ⟨b, base, e, arr, by rw [key]; exact h1, h2, h3, h4, h5.cut hb, h6, fun g' hg => by rw [key]; exact h7 g' hg⟩
  | map es cl =>
    obtain ⟨b, arr, h1, h2, h3, h4, h5⟩ := r
    refine ⟨b, arr, by rw [key]; exact h1, h2, ⟨h3.1, fun i e m he hm => ?_⟩, fun g' hg => by rw [key]; exact h4 g' hg, h5⟩
    have er := h3.2 i e m he hm
    have hbe : below c e.2.1 = true := by
      simp only [blkBelow] at hb
      exact List.all_eq_true.1 hb e (List.mem_iff_getElem?.2 ⟨i, he⟩)
    exact ⟨er.key, cut_rel er.val hbe, er.born⟩
  | loop s pend tm params assign body =>
    obtain ⟨b, l, h1, h2, h3, h4, h5⟩ := r
    refine ⟨b, l, by rw [key]; exact h1, h2, ⟨h3.st, h3.pend, ⟨h3.tm.1, fun t d ht hd => ?_⟩, h3.params, h3.assign, h3.body⟩, fun g' hg => by rw [key]; exact h4 g' hg, h5⟩
    obtain ⟨v, hv, hr⟩ := h3.tm.2 t d ht hd
    exact ⟨v, hv, cut_rel hr (tmBelow_get hb hd)⟩
theorem gc_sound (i : Inv x p h w) (po : Post x p h w q h1 w1) (ok : Bool) : ∃ r, Post x p h w r (h1.gc h.next ok) w1 ∧ r.M = q.M ∧ ∀ d v, (ok = true → below h.next d = true) → DRel q d v → DRel r d v := by
  unfold Heap.gc
  cases hn : Nat.beq h1.next h.next with
  | true => exact ⟨q, by simpa using po, rfl, fun _ _ _ h => h⟩
  | false =>
    cases hok : (ok && bsBelow h.next (keepBelow h.next h1.bs)) with
    | false => simp only [hok, cond_false]; exact ⟨q, po, rfl, fun _ _ _ h => h⟩
    | true =>
      simp only [hok, cond_true, cond_false]
      simp only [Bool.and_eq_true] at hok
      have hget : ∀ id blk, (⟨h.next, keepBelow h.next h1.bs, h1.log⟩ : Heap).get id = some blk → id < h.next ∧ h1.get id = some blk := by
        intro id blk hb
        simp only [Heap.get, getB_keepBelow] at hb
        split at hb
        · rename_i hlt; exact ⟨hlt, hb⟩
        · simp at hb
      have hown : ∀ id b, Owns (q.cut h.next) ⟨h.next, keepBelow h.next h1.bs, h1.log⟩ id b → Owns q h1 id b := by
        rintro id b ⟨blk, hb, ho⟩
        exact ⟨blk, (hget id blk hb).2, cut_owns ho⟩
      refine ⟨q.cut h.next, ⟨⟨po.inv.M, po.inv.K, ?_, ?_, ?_, ?_, po.inv.G⟩, ⟨po.ext.M, po.ext.K, ?_⟩, Nat.le_refl _, po.log, po.mod, fun id b ho hlt => po.own id b (hown id b ho) hlt, po.size, po.mnew, fun id g y hy => by
        simp only [Pl.cut] at hy
        split at hy
        · exact po.inew id g y hy
        · simp at hy, po.env⟩, rfl, fun d v hb r => cut_rel r (hb hok.1)⟩
      · intro id blk hb
        obtain ⟨hlt, hb'⟩ := hget id blk hb
        exact cut_blk hlt (bsBelow_get hok.2 hb) (po.inv.B id blk hb')
      · intro id id' b ho ho'
        exact po.inv.sep id id' b (hown id b ho) (hown id' b ho')
      · intro id g y hy
        simp only [Pl.cut] at hy
        split at hy
        · assumption
        · simp at hy
      · intro id g b base hy
        simp only [Pl.cut] at hy
        split at hy
        · exact po.inv.dom id g b base hy
        · simp at hy
      · intro id g y hy
        have := po.ext.ι id g y hy
        simp only [Pl.cut, i.nx id g y hy, if_true]; exact this
theorem defsBelow_get {c : Nat} : ∀ {ds : List Def}, defsBelow c ds = true → ∀ (i : Nat) (d : Def), ds[i]? = some d → defsBelow c [d] = true
  | [], _, i, d, h => by simp at h
  | .coll :: l, hb, 0, d, h => by simp at h; subst h; rfl
  | .fn fv args :: l, hb, 0, d, h => by simp at h; subst h; simp [defsBelow] at hb ⊢; exact ⟨hb.1, hb.2.1⟩
  | .coll :: l, hb, i + 1, d, h => by simp at h; exact defsBelow_get (by simpa [defsBelow] using hb) i d h
  | .fn fv args :: l, hb, i + 1, d, h => by simp at h; simp [defsBelow] at hb; exact defsBelow_get hb.2.2 i d h
/- the state at a loop's head -/
theorem stgc_sound {β : Nat} {s0 s : St} {b : Frame} {a : Act} {cs : List Frame} (i : Inv x p s0.hp w) (po : Post x p s0.hp w q s.hp w1) (sr : SRel x β q s w1 b a cs) (live : List Pos) :
    ∃ r, Post x p s0.hp w r (s.gc s0.hp.next live).hp w1 ∧ SRel x β r (s.gc s0.hp.next live) w1 b a cs := by
  obtain ⟨r, h1, h2, h3⟩ := gc_sound i po (tmBelow s0.hp.next (keepLive s.tm live) && defsBelow s0.hp.next s.defs)
  have hx : Post x p s0.hp w r (s.gc s0.hp.next live).hp w1 := h1
  refine ⟨r, hx, ⟨hx.inv, ⟨sr.tm.1, fun t d ht hd => ?_⟩, sr.nt, ?_, ?_, sr.base⟩⟩
  · have hd' : (keepLive s.tm live).get (slot t) = some d := hd
    obtain ⟨v, hv, hr⟩ := sr.tm.2 t d ht (keepLive_get hd')
    refine ⟨v, hv, h3 d v (fun hok => ?_) hr⟩
    simp only [Bool.and_eq_true] at hok
    exact tmBelow_get hok.1 hd'
  · refine ⟨⟨sr.defs.1.1, fun j d e hj he => ?_⟩, sr.defs.2⟩
    have hd := sr.defs.1.2 j d e hj he
    cases d with
    | coll => exact hd
    | fn fv args =>
      obtain ⟨vf, vs, k1, k2, k3⟩ := hd
      have hb : (tmBelow s0.hp.next (keepLive s.tm live) && defsBelow s0.hp.next s.defs) = true → below s0.hp.next fv = true ∧ belowL s0.hp.next args = true := by
        intro hok
        simp only [Bool.and_eq_true] at hok
        have := defsBelow_get hok.2 j _ hj
        simp only [defsBelow, Bool.and_eq_true] at this
        exact ⟨this.1, this.2.1⟩
      exact ⟨vf, vs, h3 _ _ (fun hok => (hb hok).1) k1, ⟨k2.1, fun i x y hx hy => h3 _ _ (fun hok => belowL_get (hb hok).2 i x hx) (k2.2 i x y hx hy)⟩, k3⟩
  · have : (s.gc s0.hp.next live).rc = s.rc := rfl
    rw [this]
    have hrc := sr.rc
    unfold RcF at hrc ⊢
    split at hrc
    · exact hrc
    · refine ⟨hrc.1, ?_⟩
      have := hrc.2
      unfold RcK at this ⊢
      rw [h2]; exact this
end
end Go.Dee
end
section
/- Calls on values alone. -/
namespace Go.Dee
theorem getB_dropIn (F : List Nat) (id : Nat) : ∀ (l : List (Nat × Blk)), getB id (dropIn F l) = bif elemN id F then none else getB id l
  | [] => by simp [dropIn, getB]
  | (k, b) :: l => by
    have ih := getB_dropIn F id l
    unfold dropIn
    cases hk : elemN k F with
    | true =>
      simp only [cond_true, ih, getB]
      cases hkid : Nat.beq k id with
      | true =>
        have := Nat.eq_of_beq_eq_true hkid; subst this
        simp [hk]
      | false => simp
    | false =>
      simp only [cond_false, getB, ih]
      cases hkid : Nat.beq k id with
      | true =>
        have := Nat.eq_of_beq_eq_true hkid; subst this
        simp [hk]
      | false => simp
theorem elemN_mem {n : Nat} : ∀ {l : List Nat}, elemN n l = true ↔ n ∈ l
  | [] => by simp [elemN]
  | m :: l => by
    unfold elemN
    cases h : Nat.beq n m with
    | true => have := Nat.eq_of_beq_eq_true h; subst this; simp
    | false =>
      have : n ≠ m := fun e => by subst e; simp [Nat.beq_refl] at h
      simp [elemN_mem, this]
theorem mem_unionLog {n : Nat} {a : List Nat} : ∀ {l : List Nat}, n ∈ unionLog a l ↔ n ∈ a ∨ n ∈ l
  | [] => by simp [unionLog]
  | m :: l => by simp only [unionLog, mem_addLog, mem_unionLog, List.mem_cons]; constructor <;> (rintro (h | h | h) <;> simp [h])
theorem reach_sound {h : Heap} : ∀ {k : Nat} {todo acc F : List Nat}, reach h k todo acc = some F → (∀ n ∈ acc, n ∈ F) ∧ (∀ n ∈ todo, n ∈ F) ∧ (∀ n ∈ F, n ∈ acc ∨ ∀ b, h.get n = some b → ∀ m ∈ blkNames b, m ∈ F)
  | 0, todo, acc, F, e => by simp [reach] at e
  | k + 1, [], acc, F, e => by simp [reach] at e; subst e; exact ⟨fun _ h => h, by simp, fun n hn => .inl hn⟩
  | k + 1, id :: todo, acc, F, e => by
    unfold reach at e
    cases hin : elemN id acc with
    | true =>
      simp only [hin, cond_true] at e
      obtain ⟨h1, h2, h3⟩ := reach_sound e
      refine ⟨h1, ?_, h3⟩
      intro n hn
      rcases List.mem_cons.1 hn with rfl | hn
      · exact h1 _ (elemN_mem.1 hin)
      · exact h2 n hn
    | false =>
      simp only [hin, cond_false] at e
      obtain ⟨h1, h2, h3⟩ := reach_sound e
      refine ⟨fun n hn => h1 n (List.mem_cons_of_mem _ hn), ?_, ?_⟩
      · intro n hn
        rcases List.mem_cons.1 hn with rfl | hn
        · exact h1 _ (List.mem_cons_self ..)
        · exact h2 n (List.mem_append_right _ hn)
      · intro n hn
        rcases h3 n hn with h | h
        · rcases List.mem_cons.1 h with rfl | h
          · right
            intro b hb m hm
            exact h2 m (List.mem_append_left _ (by rw [hb]; exact hm))
          · exact .inl h
        · exact .inr h
theorem namesL_get {l : List DV} {i : Nat} {d : DV} (h : l[i]? = some d) : ∀ n ∈ names d, n ∈ namesL l := by
  induction l generalizing i with
  | nil => simp at h
  | cons d' l ih =>
    intro n hn
    cases i with
    | zero => simp at h; subst h; exact List.mem_append_left _ hn
    | succ i => exact List.mem_append_right _ (ih h n hn)
theorem chunk_sound {sz : Nat} {ag : Bool} : ∀ {n : Nat} {cs : List FV} {es : List FV}, chunk sz ag n cs = some es → es.length = n ∧ (∀ (k : Nat) (e : FV), es[k]? = some e → e.cells.length = sz ∧ ∀ (j : Nat) (c : FV), e.cells[j]? = some c → cs[k * sz + j]? = some c)
  | 0, cs, es, h => by simp [chunk] at h; subst h; simp
  | n + 1, cs, es, h => by
    unfold chunk at h
    cases ag with
    | true =>
      simp only [cond_true, Option.bind_eq_some_iff, Option.some.injEq] at h
      obtain ⟨e, he, r, hr, rfl⟩ := h
      obtain ⟨h1, h2⟩ := chunk_sound hr
      obtain ⟨h3, rfl, h5⟩ := part_some he
      refine ⟨by simp [h1], fun k e hk => ?_⟩
      cases k with
      | zero =>
        simp at hk; subst hk
        refine ⟨by simpa [FV.cells] using h5, fun j c hj => ?_⟩
        simp only [FV.cells, List.drop_zero] at hj
        rw [List.getElem?_take] at hj
        split at hj
        · simpa using hj
        · simp at hj
      | succ k =>
        simp at hk
        obtain ⟨h6, h7⟩ := h2 k e hk
        refine ⟨h6, fun j c hj => ?_⟩
        have := h7 j c hj
        rw [List.getElem?_drop] at this
        rw [show (k + 1) * sz + j = sz + (k * sz + j) by rw [Nat.succ_mul]; omega]
        exact this
    | false =>
      simp only [cond_false] at h
      split at h
      · rename_i c rest
        obtain ⟨hc, h⟩ := chk_some h
        simp only [Bool.and_eq_true] at hc
        have hsz := Nat.eq_of_beq_eq_true hc.1; subst hsz
        simp only [Option.bind_eq_some_iff, Option.some.injEq] at h
        obtain ⟨r, hr, rfl⟩ := h
        obtain ⟨h1, h2⟩ := chunk_sound hr
        refine ⟨by simp [h1], fun k e hk => ?_⟩
        cases k with
        | zero =>
          simp at hk; subst hk
          have hcc : c.cells = [c] := by cases c <;> simp [oneD] at hc <;> rfl
          refine ⟨by simp [hcc], fun j d hj => ?_⟩
          rw [hcc] at hj
          cases j with
          | zero => simpa using hj
          | succ j => simp at hj
        | succ k =>
          simp at hk
          obtain ⟨h6, h7⟩ := h2 k e hk
          refine ⟨h6, fun j d hj => ?_⟩
          have := h7 j d hj
          rw [show (k + 1) * 1 + j = (k * 1 + j) + 1 by omega]
          simpa using this
      · simp at h
section
variable {x : Cx} {p q : Pl} {h h1 : Heap} {w w1 : World}
theorem freezeW_sound {S : Nat → Prop} {M : Addr → Option Value} {f : DV → Option FV} (hf : ∀ d v y, f d = some v → DRel p d y → (∀ m ∈ names d, S m) → FRel M v y) : ∀ l vs ys, freezeW f l = some vs → CD p l ys → (∀ m ∈ namesL l, S m) → CF M vs ys
  | [], vs, ys, e, r, _ => by simp [freezeW] at e; subst e; rw [r.nil_left]; exact .nil
  | d :: l, vs, ys, e, r, hS => by
    simp only [freezeW, Option.bind_eq_some_iff, Option.some.injEq] at e
    obtain ⟨v, hv, vs, hvs, rfl⟩ := e
    obtain ⟨y, ys, rfl, hr, ht⟩ := r.cons_left
    exact .cons (hf d v y hv hr fun m hm => hS m (List.mem_append_left _ hm)) (freezeW_sound hf l vs ys hvs ht fun m hm => hS m (List.mem_append_right _ hm))
/- what is frozen: S names the blocks that M covers -/
theorem freeze_sound (i : Inv x p h w) (S : Nat → Prop) {M : Addr → Option Value} (hM : ∀ a v, p.M a = some v → M a = some v)
    (hcov : ∀ id b o v, S id → Owns p h id b → w.cell? ⟨b, o, none⟩ = some v → M ⟨b, o, none⟩ = some v)
    (hcl : ∀ id b, S id → h.get id = some b → ∀ n ∈ blkNames b, S n) : ∀ (n : Nat),
    (∀ d v y, freeze n h d = some v → DRel p d y → (∀ m ∈ names d, S m) → FRel M v y) ∧ (∀ l vs ys, freezeL n h l = some vs → CD p l ys → (∀ m ∈ namesL l, S m) → CF M vs ys)
  | 0 => by
    have h0 : ∀ d v y, freeze 0 h d = some v → DRel p d y → (∀ m ∈ names d, S m) → FRel M v y := fun d v y e => by simp [freeze] at e
    exact ⟨h0, freezeW_sound h0⟩
  | n + 1 => by
    obtain ⟨ih1, ih2⟩ := freeze_sound i S hM hcov hcl n
    have ih2 : ∀ l vs ys, freezeW (freeze n h) l = some vs → CD p l ys → (∀ m ∈ namesL l, S m) → CF M vs ys := ih2
    have h1 : ∀ d v y, freeze (n + 1) h d = some v → DRel p d y → (∀ m ∈ names d, S m) → FRel M v y := by
      intro d v y e r hS
      unfold freeze at e
      cases r with
      | f hf => simp at e; subst e; exact hf.mono hM
      | agg vs hl hr =>
        simp only [Option.bind_eq_some_iff, Option.some.injEq] at e
        obtain ⟨fl, hfl, rfl⟩ := e
        exact FRel.aggList (ih2 _ _ _ hfl ⟨hl, hr⟩ hS)
      | tuple vs hl hr =>
        simp only [Option.bind_eq_some_iff, Option.some.injEq] at e
        obtain ⟨fl, hfl, rfl⟩ := e
        have := ih2 _ _ _ hfl ⟨hl, hr⟩ hS
        exact .tuple vs this.1 this.2
      | @slice ag sz b g off len cap blk base o c k hι hk hl ho hcap =>
        simp only [Option.bind_eq_some_iff, Option.some.injEq] at e
        obtain ⟨cs, hcs, l, hpl, fl, hfl, es, hes, rfl⟩ := e
        obtain ⟨te, arr, k1, k2, k3, k4, k5⟩ := own_at i hcs hι
        obtain ⟨hlen, rfl, hpl2⟩ := part_some hpl
        obtain ⟨c1, c2⟩ := chunk_sound hes
        have hSb : S b := hS b (by simp [names])
        have hown : Owns p h b blk := ⟨_, Heap.cells_some hcs, base, hι⟩
        have hcf := ih2 _ _ _ hfl ((k1.drop off).take (len * sz)) (by
          intro m hm
          refine hcl b _ hSb (Heap.cells_some hcs) m ?_
          simp only [blkNames]
          have : ∀ (l : List DV) (m : Nat), m ∈ namesL l → ∃ (i : Nat) (d : DV), l[i]? = some d ∧ m ∈ names d := by
            intro l
            induction l with
            | nil => intro m hm; simp [namesL] at hm
            | cons d l ih =>
              intro m hm
              rcases List.mem_append.1 hm with hm | hm
              · exact ⟨0, d, rfl, hm⟩
              · obtain ⟨i, d', h1, h2⟩ := ih m hm; exact ⟨i + 1, d', h1, h2⟩
          obtain ⟨j, d, hj, hd⟩ := this _ m hm
          rw [List.getElem?_take] at hj
          split at hj
          · rw [List.getElem?_drop] at hj; exact namesL_get hj m hd
          · simp at hj)
        rw [show (Value.slice (some ⟨blk, o, none⟩) len c) = Value.slice (some ⟨blk, o, none⟩) es.length c by rw [c1]]
        have key : ∀ (k : Nat) (e : FV) (j : Nat) (c' : FV), es[k]? = some e → e.cells[j]? = some c' → ∃ y, ((((arr.toList.drop base).take cs.length).drop off).take (len * sz))[k * sz + j]? = some y ∧ M ⟨blk, o + k * sz + j, none⟩ = some y ∧ FRel M c' y := by
          intro k e j c' hk' hj
          obtain ⟨c3, c4⟩ := c2 k e hk'
          have hfl' := c4 j c' hj
          obtain ⟨y, hy, hr⟩ := hcf.get hfl'
          refine ⟨y, hy, ?_, hr⟩
          have hjl : j < sz := by
            have := (List.getElem?_eq_some_iff.1 hj).1; omega
          have hkl : k < len := by
            have := (List.getElem?_eq_some_iff.1 hk').1; omega
          have hc0 : c ≠ 0 := by omega
          have ho' := ho.resolve_left hc0
          subst ho'
          have hat := (k2.sub off (len * sz)) (k * sz + j) y hy
          refine hcov b blk _ y hSb hown ?_
          rw [show base + off + k * sz + j = base + off + (k * sz + j) by omega]
          exact hat
        refine .slice ⟨blk, o, none⟩ c (fun k j => (((((arr.toList.drop base).take cs.length).drop off).take (len * sz))[k * sz + j]?).getD default) (by omega) ?_ (.inr rfl) (fun k e hk' => (c2 k e hk').1) ?_ ?_
        · cases cap with
          | none => exact .inl rfl
          | some k => exact .inr (by rw [hcap.1])
        · intro k e j c' hk' hj
          obtain ⟨y, h1, h2, h3⟩ := key k e j c' hk' hj
          simp only [h1, Option.getD_some]; exact h2
        · intro k e j c' hk' hj
          obtain ⟨y, h1, h2, h3⟩ := key k e j c' hk' hj
          simp only [h1, Option.getD_some]; exact h3
      | _ => simp at e
    exact ⟨h1, freezeW_sound h1⟩
theorem val_inv (i : Inv x p h w) {N : Addr → Option Value} (h0 : ∀ a v, p.M a = some v → N a = some v) (hN : ∀ a v, N a = some v → a.spot = none ∧ w.cell? a = some v) : Inv x ⟨N, p.K, fun _ _ => none⟩ Heap.empty w := by
  refine ⟨hN, i.K, ?_, ?_, ?_, ?_, ?_⟩
  · intro id blk hb; simp [Heap.get, Heap.empty, getB] at hb
  · rintro id id' b ⟨blk, hb, _⟩; simp [Heap.get, Heap.empty, getB] at hb
  · intro id g y hy; simp at hy
  · intro id g b base hy; simp at hy
  · intro g v hv
    obtain ⟨X, hX⟩ := i.G g v hv
    exact ⟨X, fun j c hc => ⟨h0 _ _ (hX j c hc).1, (hX j c hc).2.mono h0⟩⟩
theorem not_owns_empty {p : Pl} {id b : Nat} : ¬ Owns p Heap.empty id b := by rintro ⟨blk, hb, _⟩; simp [Heap.get, Heap.empty, getB] at hb
theorem val_post (i : Inv x p h w) {N : Addr → Option Value} {h2 h' : Heap} (po : Post x ⟨N, p.K, fun _ _ => none⟩ Heap.empty w q h' w1) (F : List Nat) (M' : Addr → Option Value)
    (h0 : ∀ a v, p.M a = some v → M' a = some v) (hM : ∀ a v, M' a = some v → a.spot = none ∧ w1.cell? a = some v ∧ (p.M a = some v ∨ w.heap.size ≤ a.block ∨ ∃ id ∈ F, Owns p h id a.block))
    (e1 : h2.next = h.next) (e2 : ∀ id blk, h2.get id = some blk → h.get id = some blk ∧ id ∉ F) (e3 : ∀ n ∈ h.log, n ∈ h2.log) (e4 : ∀ n ∈ F, n ∈ h2.log) : Post x p h w ⟨M', q.K, p.ι⟩ h2 w1 := by
  have hsame : ∀ b, b < w.heap.size → w1.heap[b]? = w.heap[b]? := fun b hb => po.mod b hb fun id _ => not_owns_empty
  have hext : Ext p ⟨M', q.K, p.ι⟩ := ⟨h0, po.ext.K, fun _ _ _ h => h⟩
  have hown : ∀ id b, Owns ⟨M', q.K, p.ι⟩ h2 id b → Owns p h id b ∧ id ∉ F := by
    rintro id b ⟨blk, hb, ho⟩
    obtain ⟨hb', hF⟩ := e2 id blk hb
    refine ⟨⟨blk, hb', ?_⟩, hF⟩
    cases blk <;> exact ho
  refine ⟨⟨fun a v hv => ⟨(hM a v hv).1, (hM a v hv).2.1⟩, po.inv.K, ?_, ?_, ?_, ?_, i.G.mono hext⟩, hext, by omega, e3, fun b hb _ => hsame b hb, fun id b ho _ => (hown id b ho).1, po.size, ?_, fun _ _ _ h => .inl h, po.env⟩
  · intro id blk hb
    obtain ⟨hb', hF⟩ := e2 id blk hb
    refine (i.B id blk hb').keep hext (fun k ho => hsame k (i.lt ⟨blk, hb', ho⟩)) ?_ (fun _ h => h)
    intro k ho a ha
    cases hm : M' a with
    | none => exact hm
    | some v =>
      obtain ⟨_, _, h3⟩ := hM a v hm
      have hoo : Owns p h id k := ⟨blk, hb', ho⟩
      rcases h3 with h3 | h3 | ⟨id', hid', h3⟩
      · have := i.ownsM hoo a ha; rw [this] at h3; simp at h3
      · have := i.lt hoo; omega
      · rw [ha] at h3
        have := i.sep id id' k hoo h3
        subst this; exact absurd hid' hF
  · intro id id' b ho ho'
    exact i.sep id id' b (hown id b ho).1 (hown id' b ho').1
  · intro id g y hy; rw [e1]; exact i.nx id g y hy
  · intro id g b base hy; exact Nat.lt_of_lt_of_le (i.dom id g b base hy) po.size
  · intro a v hv
    rcases (hM a v hv).2.2 with h | h | ⟨id, hid, h⟩
    · exact .inl h
    · exact .inr (.inl h)
    · exact .inr (.inr ⟨id, e4 id hid, h⟩)
/- the memory that a run on values made, frozen -/
open Classical in
noncomputable def frozenAll (q : Pl) (h' : Heap) (w : World) (a : Addr) : Option Value :=
  match q.M a with
  | some v => some v
  | none => if a.spot = none ∧ ∃ id, Owns q h' id a.block then w.cell? a else none
theorem frozenAll_old {h' : Heap} {a : Addr} {v : Value} (e : q.M a = some v) : frozenAll q h' w a = some v := by simp [frozenAll, e]
theorem frozenAll_cov (i : Inv x q h1 w) {id b o : Nat} {v : Value} (ho : Owns q h1 id b) (hc : w.cell? ⟨b, o, none⟩ = some v) : frozenAll q h1 w ⟨b, o, none⟩ = some v := by
  have hn := i.ownsM ho ⟨b, o, none⟩ rfl
  have : ∃ id, Owns q h1 id b := ⟨id, ho⟩
  simp [frozenAll, hn, this, hc]
theorem frozenAll_some (i : Inv x q h1 w) {a : Addr} {v : Value} (e : frozenAll q h1 w a = some v) : a.spot = none ∧ w.cell? a = some v ∧ (q.M a = some v ∨ ∃ id, Owns q h1 id a.block) := by
  unfold frozenAll at e
  split at e
  · rename_i v' hv
    simp at e; subst e
    exact ⟨(i.M a _ hv).1, (i.M a _ hv).2, .inl hv⟩
  · split at e
    · rename_i hc; exact ⟨hc.1, e, .inr hc.2⟩
    · simp at e
/- the memory of some blocks, frozen -/
open Classical in
noncomputable def frozenSome (p : Pl) (h : Heap) (S : Nat → Prop) (w : World) (a : Addr) : Option Value :=
  match p.M a with
  | some v => some v
  | none => if a.spot = none ∧ ∃ id, S id ∧ Owns p h id a.block then w.cell? a else none
theorem frozenSome_old {S : Nat → Prop} {a : Addr} {v : Value} (e : p.M a = some v) : frozenSome p h S w a = some v := by simp [frozenSome, e]
theorem frozenSome_cov (i : Inv x p h w) {S : Nat → Prop} {id b o : Nat} {v : Value} (hS : S id) (ho : Owns p h id b) (hc : w.cell? ⟨b, o, none⟩ = some v) : frozenSome p h S w ⟨b, o, none⟩ = some v := by
  have hn := i.ownsM ho ⟨b, o, none⟩ rfl
  have : ∃ id, S id ∧ Owns p h id b := ⟨id, hS, ho⟩
  simp [frozenSome, hn, this, hc]
theorem frozenSome_some (i : Inv x p h w) {S : Nat → Prop} {a : Addr} {v : Value} (e : frozenSome p h S w a = some v) : a.spot = none ∧ w.cell? a = some v ∧ (p.M a = some v ∨ ∃ id, S id ∧ Owns p h id a.block) := by
  unfold frozenSome at e
  split at e
  · rename_i v' hv
    simp at e; subst e
    exact ⟨(i.M a _ hv).1, (i.M a _ hv).2, .inl hv⟩
  · split at e
    · rename_i hc; exact ⟨hc.1, e, .inr hc.2⟩
    · simp at e
theorem flat_rel {M N : Addr → Option Value} {v : FV} {y : Value} (r : FRel M v y) : v.flat = true → FRel N v y := by
  have hL : ∀ {l : List FV}, FV.flatL l = true → ∀ (i : Nat) (d : FV), l[i]? = some d → d.flat = true := by
    intro l
    induction l with
    | nil => intro _ i d h; simp at h
    | cons d' l ih =>
      intro hb i d h
      simp only [FV.flatL, Bool.and_eq_true] at hb
      cases i with
      | zero => simp at h; subst h; exact hb.1
      | succ i => exact ih hb.2 i d h
  induction r with
  | int k n => intro _; exact .int k n
  | bool b => intro _; exact .bool b
  | str s => intro _; exact .str s
  | agg vs hl h ih => intro hf; simp only [FV.flat] at hf; exact .agg vs hl fun i x y h1 h2 => ih i x y h1 h2 (hL hf i x h1)
  | tuple vs hl h ih => intro hf; simp only [FV.flat] at hf; exact .tuple vs hl fun i x y h1 h2 => ih i x y h1 h2 (hL hf i x h1)
  | _ => intro hf; simp [FV.flat] at hf
end
end Go.Dee
end
