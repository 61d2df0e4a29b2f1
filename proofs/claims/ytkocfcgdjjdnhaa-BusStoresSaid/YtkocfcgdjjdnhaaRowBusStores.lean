/- The law BusStores: for every input it answers true, and its arguments read behind the call as they did. No condition. -/
import Derived.Test.YtkocfcgdjjdnhaaRows
import Derived.Test.YtkocfcgdjjdnhaaRowA
import Derived.Test.YtkocfcgdjjdnhaaLawStore
namespace Go.Proofs.Ytkocfcgdjjdnhaa.busStores
open Go.ChangeShapes Go.WideShapes Go.ChangeAt Go.RowKit Go.Joins Go.Deep Go.Proofs.Ytkocfcgdjjdnhaa.BW
set_option linter.unusedVariables false
theorem own : ownKnob Try.prog.godebug = none := by kernel_rfl
theorem laidOut : laidOutB Try.prog = true := by kernel_rfl
set_option maxRecDepth 100000 in
/-- A story's calls are not too many to be copied. -/
theorem story_len {H : Type} {enc : TypeId × Value → H} {W : World} {held : Bool} {v1 v2 v3 vops : Value} {s : St} {ops : List OpV} {d : DataW H} {p : List MemPlace} (h : DataW.Trod enc Try.prog W 0 (fun _ => true) held 43 (.agg (yCells v1 v2 v3 s vops)) d p) (hs : Sized 43 d) (ho : OpsAt W vops ops) : ops.length * 88 ≤ 140737488351232 := by
  obtain ⟨fuel, hf⟩ := h
  obtain ⟨xs, m, _, hx, _, hlen, hg⟩ := DataW.trod_struct Try.underlying43 hf
  match xs, hlen with
  | [y0, y1], _ =>
    have hx1 : d = .agg [y0.1, y1.1] := by have := congrArg Prod.fst hx; simpa using this
    subst hx1
    have g1 : DataW.trod enc Try.prog W 0 (fun _ => true) held m 41 [vops] = some y1 := fld hg 1 41 15 1 rfl cells_41
    have s1 : Sized 41 y1.1 := sized_part Try.underlying43 hs (j := 1) rfl rfl
    rcases open_slice Try.underlying41 g1 with ⟨hcs, hx⟩ | ⟨a, len, cap, m', n', D, Pl, hcs, _, hl, hm, hmm, hx, he⟩
    · obtain rfl : vops = _ := (List.cons.inj hcs).1
      rcases ho.2 with ⟨_, e⟩ | ⟨g, off, cap, e, _⟩
      · rw [e]; simp
      · simp at e
    · obtain rfl : vops = _ := (List.cons.inj hcs).1
      have hw : (len + (m' - len)) * 88 ≤ reachBytes := s1 ((len + (m' - len)) * 88) (by rw [hx, DataW.weights, Try.underlying41]; simp [bytes_54])
      have hln : ops.length = len := by
        rcases ho.2 with ⟨e, _⟩ | ⟨g, off, cap', e, _⟩
        · simp at e
        · simp only [Value.slice.injEq] at e; exact e.2.1.symm
      rw [hln]
      unfold reachBytes at hw
      omega
set_option maxRecDepth 100000 in
theorem lifted (os : Os) (started : os.Started) (H : Type) (enc : TypeId × Value → H) :
    ReturnsInHanded {} Try.checked os 9 .any (Rows.busStoresSpec.pre6 enc Try.prog Try.f9 Rows.busStoresRow.domain false) (Rows.busStoresSpec.post enc Try.prog Try.f9 false true false false) := by
  refine returnsInHanded_of_change_sized (C := Try.checked) own started (by kernel_rfl) Try.func9
    (ChangeSpec.witness6 (enc := enc) (C := Try.checked) false ⟨#[], #[.agg #[.slice none 0 0, .int .u32 0, .int .u64 0, .int .u64 0, .bool false, .bool false, .int .u8 0, .int .u8 0, .int .u8 0, .int .u8 0, .bool false, .slice none 0 0, .slice none 0 0, .int .i64 0, .int .i64 0, .slice none 0 0]], []⟩ 8 (by kernel_rfl) (by kernel_rfl) (by kernel_rfl) (by kernel_rfl)) ?_
  intro W base args ds gs before hval0 hW hcnd hsz0 _
  have hsz : (DataW.weightsEach Try.prog (Try.f9.params.toList ++ Rows.busStoresSpec.plain.varTypes Try.prog) (ds ++ gs)).all (· ≤ reachBytes) = true := hsz0
  have hval : ∀ (j : Nat) t v, Try.f9.params[j]? = some t → args[j]? = some v → Value.okWide Try.prog W .any base t v := hval0
  have hW' := hW
  obtain ⟨p, q, hA0, hV, rfl, hfz, hnd⟩ := hW
  have hA : DataW.TrodAll enc Try.prog W 0 (fun _ => true) true Try.f9.params.toList args.toList ds p := hA0
  rw [Try.params9] at hA hval hsz
  obtain ⟨v0, vs0, d0, ds0, p0, q0, hargs, rfl, rfl, h0, r0⟩ := trodAll_cons hA
  obtain ⟨rfl, rfl, rfl⟩ := trodAll_nil r0
  obtain rfl : args = #[v0] := by cases args; simp_all
  obtain ⟨rfl, rfl⟩ := trodVars_none hV
  have k0 := h0
  have lt0 : ∀ x ∈ p0, x.block < W.heap.size := by obtain ⟨m, hm⟩ := k0; exact DataW.trod_lt m _ _ _ hm
  have hs : Sized 43 d0 := fun k hk => by have := List.all_eq_true.1 hsz k (List.mem_append_left _ hk); simpa using this
  clear hA0 hval0 hsz0
  obtain ⟨v1, v2, v3, vops, s, ops, rfl, h1, h2, h3, hin, ho⟩ := story_open (hval 0 43 v0 rfl rfl) h0 hs
  refine (law_BusStores W s hin v1 v2 v3 vops ops h1 h2 h3 ho (story_len h0 hs ho)).mono ?_
  rintro e W' ⟨rfl, hk⟩
  have bel : Below W.heap.size W W' := hk.below (Nat.le_refl _) (by simp)
  exact ⟨_, rfl, _, _, _, [], _, [], hW', trodAll_mk1 (shut_bool Try.underlying4 _), (trodAll_cons_mk (Below.trod laidOut (by kernel_rfl) (of_decide_eq_true (by kernel_rfl)) k0 bel lt0) trodAll_mk0), rfl, bel.frame _, fun h => by cases h⟩
theorem proved : Rows.BusStoresSaid :=
  OpenClaim.holds_of_wide 9 Try.f9 rfl rfl rfl rfl rfl rfl rfl ⟨rfl, rfl, rfl, rfl, rfl⟩ rfl rfl rfl rfl rfl (by kernel_rfl) Try.func9 (by kernel_rfl)
    (of_decide_eq_true (by kernel_rfl)) (by unfold Func.isWrapper; first | (rw [if_pos (by decide +kernel)]; kernel_rfl) | (rw [if_neg (by decide +kernel)]; exact ⟨rfl, rfl⟩))
    (fun os started H enc _ => lifted os started H enc)
#print axioms proved
end Go.Proofs.Ytkocfcgdjjdnhaa.busStores
namespace Go.Proofs.Ytkocfcgdjjdnhaa
/-- The row, under a short name, for the claim. -/
theorem busStores_holds : Rows.BusStoresSaid := busStores.proved
end Go.Proofs.Ytkocfcgdjjdnhaa
