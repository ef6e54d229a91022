/- How rows of fields and of lines that came in read as lists, and that their texts and they themselves are no longer than the form's reach. -/
import Derived.Test.YthmdkkhcpdbdgaaRows
import Derived.Test.YthmdkkhcpdbdgaaCf
import Derived.ProofKit
import Derived.OpenShut
import Derived.SizedLaws
import Derived.Deep.Slices
namespace Go.Proofs.Ythmdkkhcpdbdgaa.Rl
open Go.ChangeShapes Go.WideShapes Go.ChangeAt Go.RowKit Go.Deep Go.Proofs.Ythmdkkhcpdbdgaa.Q Go.Proofs.Ythmdkkhcpdbdgaa.Cl Go.Proofs.YthmdkkhcpdbdgaaW.PrintWords Go.Proofs.YthmdkkhcpdbdgaaW.PrintLast Go.Proofs.YthmdkkhcpdbdgaaW.PrintMore

variable {H : Type} {enc : TypeId × Value → H} {W : World} {base : Nat} {spare : Nat → Bool} {held : Bool}

theorem weightsAll_mem {P : Program} {e : TypeId} : ∀ {ds : List (DataW H)} {d : DataW H}, d ∈ ds → ∀ n ∈ d.weights P e, n ∈ DataW.weightsAll P e ds
  | d0 :: ds, d, hd, n, hn => by
    rw [DataW.weightsAll, List.mem_append]
    rcases List.mem_cons.1 hd with rfl | hd
    · exact .inl hn
    · exact .inr (weightsAll_mem hd n hn)
  | [], _, hd, _, _ => by cases hd
theorem cells23 : Try.prog.cellsOf 23 = 2 := by kernel_rfl
theorem cells36 : Try.prog.cellsOf 36 = 3 := by kernel_rfl
theorem cells9 : Try.prog.cellsOf 9 = 1 := by kernel_rfl
theorem cells4 : Try.prog.cellsOf 4 = 1 := by kernel_rfl
theorem bytes23 : Try.prog.bytesOf 23 = 32 := by kernel_rfl
theorem bytes36 : Try.prog.bytesOf 36 = 40 := by kernel_rfl

/-- A field's cells. -/
theorem open23 {n : Nat} {cs : List Value} {x : DataW H × List MemPlace} (h : DataW.trod enc Try.prog W base spare held n 23 cs = some x) :
    ∃ f : S23, cs = [.string f.f0, .string f.f1] ∧ x.1 = .agg [.lit (.string f.f0.data.toList), .lit (.string f.f1.data.toList)] := by
  obtain ⟨y0, y1, m, rfl, hl, h0, h1⟩ := trod_struct2 Try.underlying23 h
  rw [cells23] at hl
  obtain ⟨c0, c1, rfl⟩ : ∃ a b, cs = [a, b] := by
    match cs, hl with
    | [a, b], _ => exact ⟨a, b, rfl⟩
  simp only [cells9] at h0 h1
  obtain ⟨s0, e0, rfl, _⟩ := DataW.trod_string Try.underlying9 h0
  obtain ⟨s1, e1, rfl, _⟩ := DataW.trod_string Try.underlying9 h1
  simp only [List.drop_zero, List.take_succ_cons, List.take_zero, List.cons.injEq, and_true, List.drop_succ_cons] at e0 e1
  subst e0 e1
  exact ⟨⟨s0, s1⟩, rfl, rfl⟩
theorem open36 {n : Nat} {cs : List Value} {x : DataW H × List MemPlace} (h : DataW.trod enc Try.prog W base spare held n 36 cs = some x) :
    ∃ f : S36, cs = [.string f.f0.f0, .string f.f0.f1, .bool f.f1] ∧ x.1 = .agg [.agg [.lit (.string f.f0.f0.data.toList), .lit (.string f.f0.f1.data.toList)], .lit (.bool f.f1)] := by
  obtain ⟨y0, y1, m, rfl, hl, h0, h1⟩ := trod_struct2 Try.underlying36 h
  rw [cells36] at hl
  obtain ⟨c0, c1, c2, rfl⟩ : ∃ a b c, cs = [a, b, c] := by
    match cs, hl with
    | [a, b, c], _ => exact ⟨a, b, c, rfl⟩
  simp only [cells23, cells4] at h0 h1
  obtain ⟨f, e0, hf⟩ := open23 h0
  obtain ⟨b, e1, rfl⟩ := DataW.trod_bool Try.underlying4 h1
  simp only [List.drop_zero, List.take_succ_cons, List.take_zero, List.cons.injEq, and_true, List.drop_succ_cons] at e0 e1
  obtain ⟨rfl, rfl⟩ := e0
  subst e1
  exact ⟨⟨f, b⟩, rfl, by show DataW.agg [y0.1, _] = _; rw [hf]⟩

/-- A field by value that came in. -/
theorem field_of {cs : Array Value} {d : DataW H} {ps : List MemPlace} (h : DataW.Trod enc Try.prog W base spare held 23 (.agg cs) d ps) : ∃ f : S23, cs = #[.string f.f0, .string f.f1] := by
  obtain ⟨fuel, hf⟩ := h
  obtain ⟨f, hc, _⟩ := open23 hf
  refine ⟨f, ?_⟩
  have : cs.toList = [.string f.f0, .string f.f1] := by simpa [Value.cells] using hc
  rw [← Array.toArray_toList (xs := cs), this]
/-- A row of fields that came in. -/
theorem row23 {ts : List TypeId} {ds : List (DataW H)} {j : Nat} {a : Option Addr} {len cap : Nat} {d : DataW H} {ps : List MemPlace}
    (hsz : (DataW.weightsEach Try.prog ts ds).all (· ≤ reachBytes) = true) (ht : ts[j]? = some 29) (hd : ds[j]? = some d)
    (h : DataW.Trod enc Try.prog W base spare held 29 (.slice a len cap) d ps) :
    ∃ l : List S23, l.length = len ∧ len ≤ cap ∧ Kd.C k23 W a l.length l ∧ Short 140737488351232 l ∧ l.length ≤ 4398046511104 := by
  obtain ⟨fuel, hf⟩ := h
  rcases open_slice Try.underlying29 hf with ⟨hcs, hx⟩ | ⟨x, len', cap', m, n, D, Pl, hcs, _, hl, hc, hm, hx, hel⟩
  · simp [Value.cells] at hcs
    obtain ⟨rfl, rfl, rfl⟩ := hcs
    exact ⟨[], rfl, Nat.le_refl _, ⟨rfl, by decide, fun h => absurd h (by decide)⟩, fun f hf => by (cases hf), by decide⟩
  · simp [Value.cells] at hcs
    obtain ⟨rfl, rfl, rfl⟩ := hcs
    obtain ⟨hx1, _⟩ := Prod.mk.inj hx
    subst hx1
    have hlm : len ≤ m := by rw [hm]; split <;> omega
    have each : ∀ i, i < len → ∃ f : S23, (∀ q u, ([.string f.f0, .string f.f1] : List Value)[q]? = some u → W.cell? (x.add (i * 2 + q)) = some u) ∧ D i = .agg [.lit (.string f.f0.data.toList), .lit (.string f.f1.data.toList)] := fun i hi => by
      obtain ⟨cs', h1, h2⟩ := hel i (by omega)
      rw [cells23] at h1
      obtain ⟨f, rfl, hD⟩ := open23 h2
      obtain ⟨_, _, h3⟩ := World.cells?_some h1
      refine ⟨f, fun q u hq => ?_, hD⟩
      have hq2 : q < 2 := by rw [List.getElem?_eq_some_iff] at hq; exact hq.1
      rw [← hq, ← h3 q hq2, Addr.add_add]
    haveI : Inhabited S23 := ⟨z23⟩
    obtain ⟨X, hX⟩ := choose_lt each
    have hlen : ((List.range len).map X).length = len := by rw [List.length_map, List.length_range]
    have hz := sized_slice hsz ht hd Try.underlying29
    rw [bytes23, List.length_map, List.length_range] at hz
    have hrb : reachBytes = 140737488351232 := rfl
    refine ⟨(List.range len).map X, hlen, hl, ⟨rfl, by rw [hlen]; unfold maxLen at hc; omega, fun _ => ⟨x, rfl, fun i p hp => ?_⟩⟩, fun f hf => ?_, by rw [hlen]; omega⟩
    · have hi : i < len := by
        have := (List.getElem?_eq_some_iff.1 hp).1
        omega
      have hpi : p = X i := by rw [List.getElem?_map, List.getElem?_range hi] at hp; exact (Option.some.inj hp).symm
      subst hpi
      exact ⟨[.string (X i).f0, .string (X i).f1], rfl, k23_mk W _, fun q u hq => (hX i hi).1 q u hq⟩
    · obtain ⟨i, hi, rfl⟩ := List.mem_map.1 hf
      have hi' : i < len := List.mem_range.1 hi
      have hmem : D i ∈ (List.range len).map D := List.mem_map_of_mem hi
      have hw : ∀ q ∈ (D i).weights Try.prog 23, q ≤ reachBytes := fun q hq => by
        have := List.all_eq_true.1 hsz q (DataW.weights_mem_each ht hd q (by
          simp only [DataW.weights, Try.underlying29]
          exact List.mem_cons_of_mem _ (List.mem_append_left _ (weightsAll_mem hmem q hq))))
        simpa using this
      rw [(hX i hi').2] at hw
      simp only [DataW.weights, Try.underlying23, List.map_cons, List.map_nil, DataW.weightsEach] at hw
      have a0 := hw (X i).f0.data.toList.length (by simp)
      have a1 := hw (X i).f1.data.toList.length (by simp)
      rw [← Lib.size_eq] at a0 a1
      exact ⟨by omega, by omega⟩
/-- A row of lines that came in. -/
theorem row36 {ts : List TypeId} {ds : List (DataW H)} {j : Nat} {a : Option Addr} {len cap : Nat} {d : DataW H} {ps : List MemPlace}
    (hsz : (DataW.weightsEach Try.prog ts ds).all (· ≤ reachBytes) = true) (ht : ts[j]? = some 31) (hd : ds[j]? = some d)
    (h : DataW.Trod enc Try.prog W base spare held 31 (.slice a len cap) d ps) :
    ∃ l : List S36, l.length = len ∧ len ≤ cap ∧ Kd.C k36 W a l.length l ∧ Short 140737488351232 (l.map S36.f0) ∧ l.length ≤ 3518437208780 := by
  obtain ⟨fuel, hf⟩ := h
  rcases open_slice Try.underlying31 hf with ⟨hcs, hx⟩ | ⟨x, len', cap', m, n, D, Pl, hcs, _, hl, hc, hm, hx, hel⟩
  · simp [Value.cells] at hcs
    obtain ⟨rfl, rfl, rfl⟩ := hcs
    exact ⟨[], rfl, Nat.le_refl _, ⟨rfl, by decide, fun h => absurd h (by decide)⟩, fun f hf => by (cases hf), by decide⟩
  · simp [Value.cells] at hcs
    obtain ⟨rfl, rfl, rfl⟩ := hcs
    obtain ⟨hx1, _⟩ := Prod.mk.inj hx
    subst hx1
    have hlm : len ≤ m := by rw [hm]; split <;> omega
    have each : ∀ i, i < len → ∃ f : S36, (∀ q u, ([.string f.f0.f0, .string f.f0.f1, .bool f.f1] : List Value)[q]? = some u → W.cell? (x.add (i * 3 + q)) = some u) ∧ D i = .agg [.agg [.lit (.string f.f0.f0.data.toList), .lit (.string f.f0.f1.data.toList)], .lit (.bool f.f1)] := fun i hi => by
      obtain ⟨cs', h1, h2⟩ := hel i (by omega)
      rw [cells36] at h1
      obtain ⟨f, rfl, hD⟩ := open36 h2
      obtain ⟨_, _, h3⟩ := World.cells?_some h1
      refine ⟨f, fun q u hq => ?_, hD⟩
      have hq2 : q < 3 := by rw [List.getElem?_eq_some_iff] at hq; exact hq.1
      rw [← hq, ← h3 q hq2, Addr.add_add]
    haveI : Inhabited S36 := ⟨z36⟩
    obtain ⟨X, hX⟩ := choose_lt each
    have hlen : ((List.range len).map X).length = len := by rw [List.length_map, List.length_range]
    have hz := sized_slice hsz ht hd Try.underlying31
    rw [bytes36, List.length_map, List.length_range] at hz
    have hrb : reachBytes = 140737488351232 := rfl
    refine ⟨(List.range len).map X, hlen, hl, ⟨rfl, by rw [hlen]; unfold maxLen at hc; omega, fun _ => ⟨x, rfl, fun i p hp => ?_⟩⟩, fun f hf => ?_, by rw [hlen]; omega⟩
    · have hi : i < len := by
        have := (List.getElem?_eq_some_iff.1 hp).1
        omega
      have hpi : p = X i := by rw [List.getElem?_map, List.getElem?_range hi] at hp; exact (Option.some.inj hp).symm
      subst hpi
      exact ⟨[.string (X i).f0.f0, .string (X i).f0.f1, .bool (X i).f1], rfl, k36_mk W _, fun q u hq => (hX i hi).1 q u hq⟩
    · obtain ⟨g, hg, rfl⟩ := List.mem_map.1 hf
      obtain ⟨i, hi, rfl⟩ := List.mem_map.1 hg
      have hi' : i < len := List.mem_range.1 hi
      have hmem : D i ∈ (List.range len).map D := List.mem_map_of_mem hi
      have hw : ∀ q ∈ (D i).weights Try.prog 36, q ≤ reachBytes := fun q hq => by
        have := List.all_eq_true.1 hsz q (DataW.weights_mem_each ht hd q (by
          simp only [DataW.weights, Try.underlying31]
          exact List.mem_cons_of_mem _ (List.mem_append_left _ (weightsAll_mem hmem q hq))))
        simpa using this
      rw [(hX i hi').2] at hw
      simp only [DataW.weights, Try.underlying36, Try.underlying23, List.map_cons, List.map_nil, DataW.weightsEach] at hw
      have a0 := hw (X i).f0.f0.data.toList.length (by simp)
      have a1 := hw (X i).f0.f1.data.toList.length (by simp)
      rw [← Lib.size_eq] at a0 a1
      exact ⟨by omega, by omega⟩
end Go.Proofs.Ythmdkkhcpdbdgaa.Rl
