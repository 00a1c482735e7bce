/- Part of the proof: what the law's functions answer. -/
import Derived.Test.YthabpmmgijaiaaaGreatDoorCut2
import Derived.Test.YthabpmmgijaiaaaGreatDoorHeadb1
import Derived.Test.YthabpmmgijaiaaaGreatDoorTie
import Derived.Test.YthabpmmgijaiaaaGreatDoorCards
import Derived.ProofKit
import Derived.LaidMore
import Derived.Stop.Joined
set_option linter.unusedSimpArgs false
set_option linter.unusedVariables false
section
/- CutParts: the row. -/
set_option maxRecDepth 100000
namespace Go.Dee
section
variable {x : Cx} {w : World}
theorem enter_view {env : FuncId → Option DFunc} {prim : Prim} {n : Nat} {df : DFunc} {args : List FV} {r : Out × St} {p : Pos} {v : FV} (hlen : Nat.ble args.length df.nt = true) (hres : df.results = [.slot p])
    (he : exec (callP env prim n) n df.body ⟨slots (args.map .f) 0 .leaf, [], .off, Heap.empty⟩ = some r) (hv : viewR p r = (true, some (.f v), true, true)) :
    enter (callP env prim n) n df (args.map .f) .off Heap.empty = some (.ret (.f v), .off, r.2.hp) := by
  obtain ⟨o, s⟩ := r
  obtain ⟨v1, v2, v3, v4⟩ := viewR_eq hv
  simp only at v1 v2 v3 v4; subst v1
  unfold enter
  have : Nat.ble (args.map DV.f).length df.nt = true := by simpa using hlen
  rw [this]
  have hr : readRes s.tm s.hp df.results = some [.f v] := by simp [hres, readRes, v2]
  simp only [chk, cond_true, he, Option.bind_some]
  simp [leave, v3, Dee.unwind, hr, v4, resVal]
theorem cf_toD {p : Pl} {fs : List FV} {vs : List Value} (h : CF p.M fs vs) : CD p (fs.map .f) vs :=
  ⟨by rw [List.length_map]; exact h.1, fun i x y h1 h2 => by
    rw [List.getElem?_map, Option.map_eq_some_iff] at h1
    obtain ⟨v, hv, rfl⟩ := h1
    exact .f (h.2 i v y hv h2)⟩
/- a law that answers a truth, on arguments that are read as data -/
theorem law_calls (hfol : x.P.follows .mixedOrders = true) {env : FuncId → Option DFunc} (henv : EnvOk x env) {prim : Prim} (hp : PrimOk x prim) {n : Nat} {f : FuncId} {df : DFunc} {args : List FV} {vs : List Value} {r : Out × St} {p : Pos} {b : Bool} (hdf : env f = some df)
    (hG : Glob x ⟨allM w, fun _ => none, fun _ _ => none⟩) (ha : CF (allM w) args vs) (hlen : Nat.ble args.length df.nt = true) (hres : df.results = [.slot p])
    (he : exec (callP env prim n) n df.body ⟨slots (args.map .f) 0 .leaf, [], .off, Heap.empty⟩ = some r) (hv : viewR p r = (true, some (.f (.bool b)), true, true)) :
    Calls x.P f vs.toArray w fun e w' => e = .returned (.bool b) ∧ RowKit.Below w.heap.size w w' := by
  have hc := callP_calls hfol henv hp hdf (enter_view hlen hres he hv) (start_inv hG) (cf_toD ha)
  refine hc.mono fun e w' ⟨y, p', he, hr, po⟩ => ⟨?_, po.below⟩
  subst he
  cases hr with
  | f hr => cases hr; rfl
end
end Go.Dee
namespace Go.Dee.L
open Go.Proofs Go.Proofs.YthabpmmgijaiaaaGreatDoor Go.ChangeShapes Go.WideShapes Go.ChangeAt Go.RowKit
theorem own : ownKnob Tryz.prog.godebug = none := by kernel_rfl
theorem laidOut : laidOutB Tryz.prog = true := by kernel_rfl
theorem door_met (os : Os) (args : Array Value) : laidMetH Tryz.prog laidL ((World.doorLaid Tryz.prog 400 os).forCall (fun _ _ => 0) ⟨#[], args, []⟩).memory :=
  laidMetH_of_parts3 (fuel := 8) (laidMet_of_run' 8 (by kernel_rfl) (by kernel_rfl)) (by kernel_rfl) (by kernel_rfl)
theorem slice_cf {H : Type} {W : World} {a : Option Addr} {len cap : Nat} {d : DataW H} {ps : List MemPlace} {enc : TypeId × Value → H} (h : DataW.Trod enc Tryz.prog W 0 (fun _ => true) true 22 (.slice a len cap) d ps) : ∃ s : Segs, FRel (allM W) s.fv (.slice a len cap) := by
  obtain ⟨fuel, hf⟩ := h
  obtain ⟨fv, h1, h2⟩ := trod_cells fuel 20 22 _ _ d ps tyArg hf
  obtain ⟨s, rfl⟩ := segs_of h1
  have hc : s.fv.cells = [s.fv] := by cases s <;> rfl
  rw [hc] at h2
  have hv : (Value.slice a len cap).cells.toList = [.slice a len cap] := by simp [Value.cells]
  rw [hv] at h2
  obtain ⟨y, hy, hr⟩ := h2.get (i := 0) rfl
  simp at hy; subst hy
  exact ⟨s, hr⟩
theorem cf_cons {M : Addr → Option Value} {v : FV} {y : Value} {vs : List FV} {ys : List Value} (h : FRel M v y) (hs : CF M vs ys) : CF M (v :: vs) (y :: ys) := .cons h hs
theorem parts_calls {W : World} (hL : laidMetH Tryz.prog laidL W) {s : Segs} {y : Value} (hs : FRel (allM W) s.fv y) {x : Int} (hw : (Lit.int .u8 x).wf = true) :
    Calls Tryz.prog 3 #[y, .int .u8 x] W fun e w' => e = .returned (.bool true) ∧ Below W.heap.size W w' := by
  have hx : 0 ≤ x ∧ x < 256 := by simp [Lit.wf, IntKind.min, IntKind.max, IntKind.signed, IntKind.bits] at hw; omega
  obtain ⟨r, h1, h2⟩ := parts_run 199 200 s x hx.1 hx.2 (Nat.le_refl _)
  exact law_calls (x := cx) (vs := [y, .int .u8 x]) fol envOk (pC_ok H.h42) (f := 3) (df := d3) (by kernel_rfl) (globOk hL) (cf_cons hs (cf_cons (.int _ _) .nil)) (by kernel_rfl) (by kernel_rfl) h1 h2
theorem parts_lifted (os : Os) (started : os.Started) (H : Type) (enc : TypeId × Value → H) :
    ReturnsInHanded {} Tryz.checked os 3 .any (fun w args => (Rows.cutPartsSpec.pre enc Tryz.prog Tryz.f3 [] false w args ∧ laidMetH Tryz.prog laidL w) ∧ sizedMet enc Tryz.prog Tryz.f3 (OpenSpec.ofChange Rows.cutPartsSpec) false w args)
      (Rows.cutPartsSpec.post enc Tryz.prog Tryz.f3 false true false false) := by
  refine returnsInHanded_of_change_and (C := Tryz.checked) (X := fun w _ => laidMetH Tryz.prog laidL w) (fun _ _ _ hh h => h.of_heap hh) own started (by kernel_rfl) Tryz.func3
    (ChangeSpec.witness_shaped (enc := enc) (C := Tryz.checked) (os := os) (X := fun w _ => laidMetH Tryz.prog laidL w) false (World.doorLaid Tryz.prog 400 os) #[.slice none 0 0, .int .u8 0] 8 rfl (World.shaped_of_RefB (by kernel_rfl) (by kernel_rfl)) (by kernel_rfl) (by kernel_rfl) (by kernel_rfl) (door_met os _)) ?_
  intro W base args ds gs before hval0 hW _ _ hL _
  have hval : ∀ (j : Nat) t v, Tryz.f3.params[j]? = some t → args[j]? = some v → Value.okWide Tryz.prog W .any base t v := hval0
  have hW' := hW
  obtain ⟨p, q, hA0, hV, rfl, hfz, hnd⟩ := hW
  have hA : DataW.TrodAll enc Tryz.prog W 0 (fun _ => true) true Tryz.f3.params.toList args.toList ds p := hA0
  rw [Tryz.params3] at hA hval
  obtain ⟨v0, vs0, d0, ds0, p0, q0, hargs, rfl, rfl, h0, r0⟩ := trodAll_cons hA
  obtain ⟨v1, vs1, d1, ds1, p1, q1, rfl, rfl, rfl, h1, r1⟩ := trodAll_cons r0
  obtain ⟨rfl, rfl, rfl⟩ := trodAll_nil r1
  obtain rfl : args = #[v0, v1] := by cases args; simp_all
  obtain ⟨rfl, rfl⟩ := trodVars_none hV
  obtain ⟨a0, len0, cap0, rfl⟩ := okWide_slice Tryz.underlying22 (hval 0 22 v0 rfl rfl)
  obtain ⟨a1, rfl, rfl, rfl, w1⟩ := open_int Tryz.underlying5 (hval 1 5 v1 rfl rfl) h1
  have lt0 : ∀ x ∈ p0, x.block < W.heap.size := by obtain ⟨m, hm⟩ := h0; exact DataW.trod_lt m _ _ _ hm
  obtain ⟨s, hs⟩ := slice_cf h0
  clear hA0 hval0
  refine (parts_calls hL hs w1).mono fun e W' ⟨he, bel⟩ => ?_
  subst he
  exact ⟨_, rfl, _, _, _, [], _, [], hW', trodAll_mk1 (shut_bool Tryz.underlying4 _), (trodAll_cons_mk (Below.trod laidOut (by kernel_rfl) (of_decide_eq_true (by kernel_rfl)) h0 bel lt0) (trodAll_cons_mk (shut_int Tryz.underlying5 w1) trodAll_mk0)), rfl, bel.frame _, fun h => by cases h⟩
end Go.Dee.L
end
