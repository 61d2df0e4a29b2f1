/- How a bus's state and a story of calls are read out of an argument. No condition. -/
import Derived.Test.YtkocfcgdjjdnhaaPairF
import Derived.ProofKit
import Derived.OpenShut
import Derived.ShutString
import Derived.ChangeOld
import Derived.SizedLaws
import Derived.Lib.SmallJoins
import Derived.Lib.LaidU8
import Derived.Deep.Slices
import Derived.Deep.Fields
import Derived.ChangeSame
namespace Go.Proofs.Ytkocfcgdjjdnhaa.BW
open Go.ChangeShapes Go.WideShapes Go.ChangeAt Go.RowKit Go.Joins Go.Deep
set_option linter.unusedVariables false
set_option linter.unusedSimpArgs false
set_option maxRecDepth 100000
section
variable {H : Type} {enc : TypeId × Value → H} {W : World} {held : Bool}
abbrev Sized (t : TypeId) (d : DataW H) : Prop := ∀ n ∈ DataW.weights Try.prog t d, n ≤ reachBytes
theorem sized_part {t : TypeId} {fs : Array Field} (hu : Try.prog.underlying t = some (.struct fs)) {parts : List (DataW H)} (h : Sized t (.agg parts)) {j : Nat} {u : TypeId} {d : DataW H} (ht : (fs.toList.map (·.type))[j]? = some u) (hd : parts[j]? = some d) : Sized u d := by
  intro n hn
  refine h n ?_
  rw [DataW.weights, hu]
  exact DataW.weights_mem_each ht hd n hn
theorem sized_elem {e : TypeId} : ∀ {l : List (DataW H)} {d : DataW H}, d ∈ l → ∀ n ∈ DataW.weights Try.prog e d, n ∈ DataW.weightsAll Try.prog e l
  | x :: r, d, hd, n, hn => by
    rw [DataW.weightsAll, List.mem_append]
    rcases List.mem_cons.mp hd with rfl | hd
    · exact .inl hn
    · exact .inr (sized_elem hd n hn)
/-- A field of a struct that was read. -/
theorem fld {P : Program} {w : World} {base : Nat} {spare : Nat → Bool} {n : Nat} {cs : List Value} {xs : List (DataW H × List MemPlace)} {fs : Array Field} (hg : ∀ (i : Nat) (f : Field), fs[i]? = some f → DataW.trod enc P w base spare held n f.type ((cs.drop f.offset).take (P.cellsOf f.type)) = xs[i]?) (i t o k : Nat) (hf : (fs[i]?).map (fun f => (f.type, f.offset)) = some (t, o)) (hk : P.cellsOf t = k) :
    DataW.trod enc P w base spare held n t ((cs.drop o).take k) = xs[i]? := by
  cases hq : fs[i]? with
  | none => simp [hq] at hf
  | some f =>
    rw [hq] at hf
    simp only [Option.map_some, Option.some.injEq, Prod.mk.injEq] at hf
    have := hg i f hq
    rw [hf.1, hf.2, hk] at this
    exact this
theorem cells1_5 : Try.prog.cellsOf 5 = 1 := by kernel_rfl
theorem bytes1_5 : Try.prog.bytesOf 5 = 1 := by kernel_rfl
/-- A slice of bytes. -/
theorem bytes_open {n : Nat} {v : Value} {x : DataW H × List MemPlace} (h : DataW.trod enc Try.prog W 0 (fun _ => true) held n 22 [v] = some x) :
    ∃ l, RdW W v l ∧ Byts l ∧ (Sized 22 x.1 → l.length ≤ 140737488351232) := by
  rcases open_ints Try.underlying22 Try.underlying5 cells1_5 h with ⟨hcs, hx⟩ | ⟨a, len, cap, zs, hcs, _, hl, hm, hz, hx, hcell, hwz⟩
  · obtain rfl : v = _ := (List.cons.inj hcs).1
    exact ⟨[], .inl (.inl ⟨rfl, rfl⟩), by intro n hn; simp at hn, fun _ => by simp⟩
  · obtain rfl : v = _ := (List.cons.inj hcs).1
    simp only [if_true] at hz
    have htl : (zs.take len).length = len := by rw [List.length_take]; omega
    refine ⟨zs.take len, ?_, fun n hn => bounds_u8 (hwz n (List.mem_of_mem_take hn)), fun hs => ?_⟩
    · by_cases h0 : len = 0
      · subst h0
        exact .inr ⟨by simp, a, cap, rfl⟩
      · obtain ⟨b, o, sp⟩ := a
        have c0 := hcell 0 (by omega)
        rw [show (⟨b, o, sp⟩ : Addr).add 0 = ⟨b, o, sp⟩ by unfold Addr.add; rw [if_pos rfl]] at c0
        obtain rfl := cell_spot c0
        refine .inl (.inr ⟨cap, b, o, by rw [htl], fun i y hy => ?_⟩)
        have hi : i < len := by have := (List.getElem?_eq_some_iff.mp hy).1; omega
        have c1 := hcell i (by omega)
        rw [addr_add] at c1
        rw [c1]
        rw [List.getElem?_take_of_lt hi] at hy
        simp [List.getD, hy]
    · have := hs ((zs.take len).length + (zs.drop len).length) (by rw [hx, DataW.weights, Try.underlying22]; simp [lits, bytes1_5])
      unfold reachBytes at this
      omega
theorem RdW.plain {v : Value} {l : List Int} (h : RdW W v l) (hp : ∀ a n c, v = .slice (some a) n c → a.spot = none) : Rd W v l := by
  rcases h with h | ⟨rfl, ⟨b, o, sp⟩, c, rfl⟩
  · exact h
  · obtain rfl : sp = none := hp _ _ _ rfl
    exact .inr ⟨c, b, o, rfl, by simp⟩
theorem int_open {n t : Nat} {k : IntKind} {v : Value} {x : DataW H × List MemPlace} (hu : Try.prog.underlying t = some (.int k)) (h : DataW.trod enc Try.prog W 0 (fun _ => true) held n t [v] = some x) : ∃ a, v = .int k a ∧ (Lit.int k a).wf = true := by
  obtain ⟨a, e, _, hw⟩ := DataW.trod_int hu h
  exact ⟨a, (List.cons.inj e).1, hw⟩
theorem bool_open {n t : Nat} {v : Value} {x : DataW H × List MemPlace} (hu : Try.prog.underlying t = some .bool) (h : DataW.trod enc Try.prog W 0 (fun _ => true) held n t [v] = some x) : ∃ a, v = .bool a := by
  obtain ⟨a, e, _⟩ := DataW.trod_bool hu h
  exact ⟨a, (List.cons.inj e).1⟩
theorem cells1_22 : Try.prog.cellsOf 22 = 1 := by kernel_rfl
theorem cells1_23 : Try.prog.cellsOf 23 = 1 := by kernel_rfl
theorem cells1_24 : Try.prog.cellsOf 24 = 1 := by kernel_rfl
theorem cells1_4 : Try.prog.cellsOf 4 = 1 := by kernel_rfl
theorem cells1_3 : Try.prog.cellsOf 3 = 1 := by kernel_rfl
theorem cells_26 : Try.prog.cellsOf 26 = 15 := by kernel_rfl
theorem cells_52 : Try.prog.cellsOf 52 = 4 := by kernel_rfl
theorem cells_54 : Try.prog.cellsOf 54 = 9 := by kernel_rfl
theorem cells_43 : Try.prog.cellsOf 43 = 16 := by kernel_rfl
theorem cells_41 : Try.prog.cellsOf 41 = 1 := by kernel_rfl
theorem bytes_54 : Try.prog.bytesOf 54 = 88 := by kernel_rfl
set_option maxRecDepth 100000 in
/-- A bus's state. -/
theorem bus_open {n : Nat} {cs : List Value} {x : DataW H × List MemPlace} (h : DataW.trod enc Try.prog W 0 (fun _ => true) held n 26 cs = some x) :
    ∃ v1 v2 v3 s, cs = (sCells v1 v2 v3 s).toList ∧ RdW W v1 s.ram ∧ RdW W v2 s.inp ∧ RdW W v3 s.out ∧ (Sized 26 x.1 → s.In) := by
  obtain ⟨xs, m, _, hx, hl, hlen, hg⟩ := DataW.trod_struct Try.underlying26 h
  rw [cells_26] at hl
  match cs, hl with
  | [c0, c1, c2, c3, c4, c5, c6, c7, c8, c9, c10, c11, c12, c13, c14], _ =>
    match xs, hlen with
    | [y0, y1, y2, y3, y4, y5, y6, y7, y8, y9, y10, y11, y12, y13, y14], _ =>
      have hx1 : x.1 = .agg [y0.1, y1.1, y2.1, y3.1, y4.1, y5.1, y6.1, y7.1, y8.1, y9.1, y10.1, y11.1, y12.1, y13.1, y14.1] := by rw [hx]; rfl
      have g0 : DataW.trod enc Try.prog W 0 (fun _ => true) held m 22 [c0] = some y0 := fld hg 0 22 0 1 rfl cells1_22
      have g1 : DataW.trod enc Try.prog W 0 (fun _ => true) held m 23 [c1] = some y1 := fld hg 1 23 1 1 rfl cells1_23
      have g2 : DataW.trod enc Try.prog W 0 (fun _ => true) held m 24 [c2] = some y2 := fld hg 2 24 2 1 rfl cells1_24
      have g3 : DataW.trod enc Try.prog W 0 (fun _ => true) held m 24 [c3] = some y3 := fld hg 3 24 3 1 rfl cells1_24
      have g4 : DataW.trod enc Try.prog W 0 (fun _ => true) held m 4 [c4] = some y4 := fld hg 4 4 4 1 rfl cells1_4
      have g5 : DataW.trod enc Try.prog W 0 (fun _ => true) held m 4 [c5] = some y5 := fld hg 5 4 5 1 rfl cells1_4
      have g6 : DataW.trod enc Try.prog W 0 (fun _ => true) held m 5 [c6] = some y6 := fld hg 6 5 6 1 rfl cells1_5
      have g7 : DataW.trod enc Try.prog W 0 (fun _ => true) held m 5 [c7] = some y7 := fld hg 7 5 7 1 rfl cells1_5
      have g8 : DataW.trod enc Try.prog W 0 (fun _ => true) held m 5 [c8] = some y8 := fld hg 8 5 8 1 rfl cells1_5
      have g9 : DataW.trod enc Try.prog W 0 (fun _ => true) held m 5 [c9] = some y9 := fld hg 9 5 9 1 rfl cells1_5
      have g10 : DataW.trod enc Try.prog W 0 (fun _ => true) held m 4 [c10] = some y10 := fld hg 10 4 10 1 rfl cells1_4
      have g11 : DataW.trod enc Try.prog W 0 (fun _ => true) held m 22 [c11] = some y11 := fld hg 11 22 11 1 rfl cells1_22
      have g12 : DataW.trod enc Try.prog W 0 (fun _ => true) held m 22 [c12] = some y12 := fld hg 12 22 12 1 rfl cells1_22
      have g13 : DataW.trod enc Try.prog W 0 (fun _ => true) held m 3 [c13] = some y13 := fld hg 13 3 13 1 rfl cells1_3
      have g14 : DataW.trod enc Try.prog W 0 (fun _ => true) held m 3 [c14] = some y14 := fld hg 14 3 14 1 rfl cells1_3
      obtain ⟨l0, r0, b0, z0⟩ := bytes_open g0
      obtain ⟨a1, rfl, w1⟩ := int_open Try.underlying23 g1
      obtain ⟨a2, rfl, w2⟩ := int_open Try.underlying24 g2
      obtain ⟨a3, rfl, w3⟩ := int_open Try.underlying24 g3
      obtain ⟨a4, rfl⟩ := bool_open Try.underlying4 g4
      obtain ⟨a5, rfl⟩ := bool_open Try.underlying4 g5
      obtain ⟨a6, rfl, w6⟩ := int_open Try.underlying5 g6
      obtain ⟨a7, rfl, w7⟩ := int_open Try.underlying5 g7
      obtain ⟨a8, rfl, w8⟩ := int_open Try.underlying5 g8
      obtain ⟨a9, rfl, w9⟩ := int_open Try.underlying5 g9
      obtain ⟨a10, rfl⟩ := bool_open Try.underlying4 g10
      obtain ⟨l11, r11, b11, z11⟩ := bytes_open g11
      obtain ⟨l12, r12, b12, z12⟩ := bytes_open g12
      obtain ⟨a13, rfl, w13⟩ := int_open Try.underlying3 g13
      obtain ⟨a14, rfl, w14⟩ := int_open Try.underlying3 g14
      refine ⟨c0, c11, c12, { ram := l0, msip := a1, cmp := a2, now := a3, ext := a4, soft := a5, ier := a6, lcr := a7, mcr := a8, scr := a9, over := a10, inp := l11, out := l12, off := a13, code := a14 }, rfl, r0, r11, r12, fun hs => ?_⟩
      rw [hx1] at hs
      exact ⟨(z0 (sized_part Try.underlying26 hs (j := 0) rfl rfl)), (z11 (sized_part Try.underlying26 hs (j := 11) rfl rfl)), (z12 (sized_part Try.underlying26 hs (j := 12) rfl rfl)), b0, b11, b12, bounds_u32 w1, bounds_u64 w2, bounds_u64 w3, bounds_u8 w6, bounds_u8 w7, bounds_u8 w8, bounds_u8 w9, bounds_i64 w13, bounds_i64 w14⟩
set_option maxRecDepth 100000 in
/-- One call of a story. -/
theorem op_open {n : Nat} {cs : List Value} {x : DataW H × List MemPlace} (h : DataW.trod enc Try.prog W 0 (fun _ => true) held n 54 cs = some x) :
    ∃ o : OpV, cs = o.cells.toList ∧ (Sized 54 x.1 → o.At W) := by
  obtain ⟨xs, m, _, hx, hl, hlen, hg⟩ := DataW.trod_struct Try.underlying54 h
  rw [cells_54] at hl
  match cs, hl with
  | [c0, c1, c2, c3, c4, c5, c6, c7, c8], _ =>
    match xs, hlen with
    | [y0, y1, y2, y3, y4, y5], _ =>
      have hx1 : x.1 = .agg [y0.1, y1.1, y2.1, y3.1, y4.1, y5.1] := by rw [hx]; rfl
      have g0 : DataW.trod enc Try.prog W 0 (fun _ => true) held m 3 [c0] = some y0 := fld hg 0 3 0 1 rfl cells1_3
      have g1 : DataW.trod enc Try.prog W 0 (fun _ => true) held m 24 [c1] = some y1 := fld hg 1 24 1 1 rfl cells1_24
      have g2 : DataW.trod enc Try.prog W 0 (fun _ => true) held m 3 [c2] = some y2 := fld hg 2 3 2 1 rfl cells1_3
      have g3 : DataW.trod enc Try.prog W 0 (fun _ => true) held m 24 [c3] = some y3 := fld hg 3 24 3 1 rfl cells1_24
      have g4 : DataW.trod enc Try.prog W 0 (fun _ => true) held m 22 [c4] = some y4 := fld hg 4 22 4 1 rfl cells1_22
      have g5 : DataW.trod enc Try.prog W 0 (fun _ => true) held m 52 [c5, c6, c7, c8] = some y5 := fld hg 5 52 5 4 rfl cells_52
      obtain ⟨xs', m', _, hx', hl', hlen', hg'⟩ := DataW.trod_struct Try.underlying52 g5
      match xs', hlen' with
      | [u0, u1, u2, u3], _ =>
        have hy5 : y5.1 = .agg [u0.1, u1.1, u2.1, u3.1] := by rw [hx']; rfl
        have k0 : DataW.trod enc Try.prog W 0 (fun _ => true) held m' 4 [c5] = some u0 := fld hg' 0 4 0 1 rfl cells1_4
        have k1 : DataW.trod enc Try.prog W 0 (fun _ => true) held m' 4 [c6] = some u1 := fld hg' 1 4 1 1 rfl cells1_4
        have k2 : DataW.trod enc Try.prog W 0 (fun _ => true) held m' 4 [c7] = some u2 := fld hg' 2 4 2 1 rfl cells1_4
        have k3 : DataW.trod enc Try.prog W 0 (fun _ => true) held m' 22 [c8] = some u3 := fld hg' 3 22 3 1 rfl cells1_22
        obtain ⟨a0, rfl, w0⟩ := int_open Try.underlying3 g0
        obtain ⟨a1, rfl, w1⟩ := int_open Try.underlying24 g1
        obtain ⟨a2, rfl, w2⟩ := int_open Try.underlying3 g2
        obtain ⟨a3, rfl, w3⟩ := int_open Try.underlying24 g3
        obtain ⟨l4, r4, b4, z4⟩ := bytes_open g4
        obtain ⟨a5, rfl⟩ := bool_open Try.underlying4 k0
        obtain ⟨a6, rfl⟩ := bool_open Try.underlying4 k1
        obtain ⟨a7, rfl⟩ := bool_open Try.underlying4 k2
        obtain ⟨l8, r8, b8, z8⟩ := bytes_open k3
        refine ⟨⟨a0, a1, a2, a3, c4, l4, a5, a6, a7, c8, l8⟩, rfl, fun hs => ?_⟩
        rw [hx1] at hs
        have hs5 : Sized 52 y5.1 := sized_part Try.underlying54 hs (j := 5) rfl rfl
        rw [hy5] at hs5
        exact ⟨bounds_i64 w0, bounds_u64 w1, bounds_i64 w2, bounds_u64 w3, r4, b4, z4 (sized_part Try.underlying54 hs (j := 4) rfl rfl), r8, b8, z8 (sized_part Try.underlying52 hs5 (j := 3) rfl rfl)⟩
/-- The calls of a story. -/
theorem ops_open {n : Nat} {v : Value} {x : DataW H × List MemPlace} (h : DataW.trod enc Try.prog W 0 (fun _ => true) held n 41 [v] = some x) (hp : ∀ a n c, v = .slice (some a) n c → a.spot = none) (hs : Sized 41 x.1) :
    ∃ ops, OpsAt W v ops := by
  rcases open_slice Try.underlying41 h with ⟨hcs, hx⟩ | ⟨a, len, cap, m, n', D, Pl, hcs, _, hl, hm, hmm, hx, he⟩
  · obtain rfl : v = _ := (List.cons.inj hcs).1
    exact ⟨[], by simp, .inl ⟨rfl, rfl⟩⟩
  · obtain rfl : v = _ := (List.cons.inj hcs).1
    obtain ⟨b, off, sp⟩ := a
    obtain rfl : sp = none := hp _ _ _ rfl
    simp only [if_true] at hmm
    subst hmm
    have hw : (len + (m - len)) * 88 ≤ reachBytes := hs ((len + (m - len)) * 88) (by rw [hx, DataW.weights, Try.underlying41]; simp [bytes_54])
    have hwe : ∀ i, i < len → Sized 54 (D i) := by
      intro i hi k hk
      refine hs k ?_
      rw [hx, DataW.weights, Try.underlying41]
      refine List.mem_cons_of_mem _ (List.mem_append_left _ (sized_elem (d := D i) (List.mem_map.mpr ⟨i, by simpa using hi, rfl⟩) k hk))
    have hex : ∀ i, i < len → ∃ o : OpV, W.rangeAt b (off + i * 9) o.cells.toList ∧ o.At W := by
      intro i hi
      obtain ⟨cs', h1, h2⟩ := he i (by omega)
      rw [cells_54] at h1
      obtain ⟨o, e, ho⟩ := op_open h2
      refine ⟨o, ?_, ho (hwe i hi)⟩
      subst e
      obtain ⟨_, _, hc⟩ := World.cells?_some h1
      intro j v hv
      have hj : j < 9 := by have := (List.getElem?_eq_some_iff.mp hv).1; simpa [OpV.cells] using this
      have := hc j hj
      rw [addr_add, addr_add, hv] at this
      exact this
    haveI : Inhabited OpV := ⟨⟨0, 0, 0, 0, .slice none 0 0, [], false, false, false, .slice none 0 0, []⟩⟩
    obtain ⟨O, hO⟩ := choose_lt hex
    refine ⟨(List.range len).map O, by simp; unfold reachBytes at hw; omega, .inr ⟨b, off, m, by simp, fun i o hi => ?_⟩⟩
    have hil : i < len := by have := (List.getElem?_eq_some_iff.mp hi).1; simpa using this
    have : O i = o := by simpa [hil] using hi
    rw [← this]
    exact hO i hil
theorem types_43 : Try.prog.cellTypes Try.prog.depth 43 = some [22, 23, 24, 24, 4, 4, 5, 5, 5, 5, 4, 22, 22, 3, 3, 41] := by kernel_rfl
theorem types_26 : Try.prog.cellTypes Try.prog.depth 26 = some [22, 23, 24, 24, 4, 4, 5, 5, 5, 5, 4, 22, 22, 3, 3] := by kernel_rfl
theorem cell_plain {base : Nat} {t e : TypeId} {a : Addr} {n c : Nat} (hu : Try.prog.underlying t = some (.slice e)) (h : Cell.okWide Try.prog W .any base t (.slice (some a) n c)) : a.spot = none := by
  unfold Cell.okWide at h
  rw [hu] at h
  simp only at h
  unfold Cell.ok at h
  rw [hu] at h
  exact h.2.2.2.1
theorem row_plain {base t : Nat} {cs : Array Value} {ts : List TypeId} (hts : Try.prog.cellTypes Try.prog.depth t = some ts) (h : Row.okWide Try.prog W .any base t cs) (i : Nat) (u e : TypeId) (v : Value) (hi : cs[i]? = some v) (hu : ts[i % ts.length]? = some u) (he : Try.prog.underlying u = some (.slice e)) : ∀ a n c, v = .slice (some a) n c → a.spot = none := by
  intro a n c hv
  subst hv
  obtain ⟨ts', h1, _, h2⟩ := h
  rw [hts] at h1
  obtain rfl := Option.some.inj h1
  obtain ⟨u', h3, h4⟩ := h2 i _ hi
  rw [hu] at h3
  obtain rfl := Option.some.inj h3
  exact cell_plain he h4
set_option maxRecDepth 100000 in
/-- A story, as the argument of a law. -/
theorem story_open {base : Nat} {v : Value} {d : DataW H} {p : List MemPlace} (hv : Value.okWide Try.prog W .any base 43 v) (h : DataW.Trod enc Try.prog W 0 (fun _ => true) held 43 v d p) (hs : Sized 43 d) :
    ∃ v1 v2 v3 vops s ops, v = .agg (yCells v1 v2 v3 s vops) ∧ Rd W v1 s.ram ∧ Rd W v2 s.inp ∧ Rd W v3 s.out ∧ s.In ∧ OpsAt W vops ops := by
  have hv' := hv
  unfold Value.okWide at hv'
  rw [Try.underlying43] at hv'
  obtain ⟨cs, rfl, hsz, hrow⟩ := hv'
  obtain ⟨l⟩ := cs
  match l, hsz.trans cells_43 with
  | [c0, c1, c2, c3, c4, c5, c6, c7, c8, c9, c10, c11, c12, c13, c14, c15], _ =>
    obtain ⟨fuel, hf⟩ := h
    obtain ⟨xs, m, _, hx, _, hlen, hg⟩ := DataW.trod_struct Try.underlying43 hf
    match xs, hlen with
    | [y0, y1], _ =>
      have hx1 : d = .agg [y0.1, y1.1] := by have := congrArg Prod.fst hx; simpa using this
      subst hx1
      have g0 : DataW.trod enc Try.prog W 0 (fun _ => true) held m 26 [c0, c1, c2, c3, c4, c5, c6, c7, c8, c9, c10, c11, c12, c13, c14] = some y0 := fld hg 0 26 0 15 rfl cells_26
      have g1 : DataW.trod enc Try.prog W 0 (fun _ => true) held m 41 [c15] = some y1 := fld hg 1 41 15 1 rfl cells_41
      obtain ⟨v1, v2, v3, s, e, r1, r2, r3, hin⟩ := bus_open g0
      obtain ⟨ops, ho⟩ := ops_open g1 (row_plain types_43 hrow 15 41 54 c15 rfl rfl Try.underlying41) (sized_part Try.underlying43 hs (j := 1) rfl rfl)
      unfold sCells at e
      simp only [List.cons.injEq, and_true] at e
      obtain ⟨rfl, rfl, rfl, rfl, rfl, rfl, rfl, rfl, rfl, rfl, rfl, rfl, rfl, rfl, rfl⟩ := e
      exact ⟨_, _, _, c15, s, ops, rfl, r1.plain (row_plain types_43 hrow 0 22 5 _ rfl rfl Try.underlying22), r2.plain (row_plain types_43 hrow 11 22 5 _ rfl rfl Try.underlying22), r3.plain (row_plain types_43 hrow 12 22 5 _ rfl rfl Try.underlying22), hin (sized_part Try.underlying43 hs (j := 0) rfl rfl), ho⟩
set_option maxRecDepth 100000 in
/-- A bus's state, as the argument of a law. -/
theorem busarg_open {base : Nat} {v : Value} {d : DataW H} {p : List MemPlace} (hv : Value.okWide Try.prog W .any base 26 v) (h : DataW.Trod enc Try.prog W 0 (fun _ => true) held 26 v d p) (hs : Sized 26 d) :
    ∃ v1 v2 v3 s, v = .agg (sCells v1 v2 v3 s) ∧ Rd W v1 s.ram ∧ Rd W v2 s.inp ∧ Rd W v3 s.out ∧ s.In := by
  have hv' := hv
  unfold Value.okWide at hv'
  rw [Try.underlying26] at hv'
  obtain ⟨cs, rfl, hsz, hrow⟩ := hv'
  obtain ⟨fuel, hf⟩ := h
  obtain ⟨v1, v2, v3, s, e, r1, r2, r3, hin⟩ := bus_open hf
  have e' : cs.toList = (sCells v1 v2 v3 s).toList := by simpa [Value.cells] using e
  have e2 : cs = sCells v1 v2 v3 s := Array.toList_inj.mp e'
  subst e2
  exact ⟨v1, v2, v3, s, rfl, r1.plain (row_plain types_26 hrow 0 22 5 _ rfl rfl Try.underlying22), r2.plain (row_plain types_26 hrow 11 22 5 _ rfl rfl Try.underlying22), r3.plain (row_plain types_26 hrow 12 22 5 _ rfl rfl Try.underlying22), hin hs⟩
end
end Go.Proofs.Ytkocfcgdjjdnhaa.BW
