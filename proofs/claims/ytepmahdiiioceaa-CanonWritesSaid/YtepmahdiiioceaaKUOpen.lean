import Derived.Test.YtepmahdiiioceaaKPr0
import Derived.Deep.Slices
import Derived.Deep.Fields
import Derived.ChangeSame
import Derived.ChangeMaps5
import Derived.ChangeArms
import Derived.SizedLaws
namespace Go.Proofs.Ytepmahdiiioceaa.U
open Go.RowKit Go.Proofs.YtepmahdiiioceaaW.PrintWords Go.Proofs.YtepmahdiiioceaaW.PrintLast Go.Proofs.YtepmahdiiioceaaW.PrintMore Go.ChangeShapes Go.WideShapes Go.Deep
set_option linter.unusedVariables false

/-- What a reading of at most n steps tells of cells of type t: they are of kind d, and G holds of what they say. -/
def OpN {α : Type} (P : Program) (n : Nat) (d : Kd α) (t : TypeId) (G : α → Prop) : Prop :=
  ∀ (H : Type) (enc : TypeId × Value → H) (w : World) (base : Nat) (spare : Nat → Bool) (held : Bool) (fuel : Nat) (cs : List Value) (x : DataW H × List MemPlace),
    fuel ≤ n → DataW.trod enc P w base spare held fuel t cs = some x → (∀ z ∈ x.1.weights P t, z ≤ reachBytes) → ∃ a, d.K w a cs ∧ G a
theorem OpN.le {α : Type} {P : Program} {n m : Nat} {d : Kd α} {t : TypeId} {G : α → Prop} (h : OpN P n d t G) (hm : m ≤ n) : OpN P m d t G :=
  fun H enc w base spare held fuel cs x hf ht hz => h H enc w base spare held fuel cs x (Nat.le_trans hf hm) ht hz
theorem opn_int {P : Program} (n : Nat) {t : TypeId} {k : IntKind} (hu : P.underlying t = some (.int k)) : OpN P n (Kd.int k) t (fun a => (Lit.int k a).wf = true) := by
  intro H enc w base spare held fuel cs x _ ht _
  obtain ⟨a, rfl, _, hw⟩ := DataW.trod_int hu ht
  exact ⟨a, rfl, hw⟩
theorem opn_string {P : Program} (n : Nat) {t : TypeId} (hu : P.underlying t = some .string) : OpN P n Kd.string t (fun a => a.size ≤ reachBytes) := by
  intro H enc w base spare held fuel cs x _ ht hz
  obtain ⟨a, rfl, rfl, _⟩ := DataW.trod_string hu ht
  exact ⟨a, rfl, hz _ (by simp [DataW.weights])⟩
theorem weights_all_mem {H : Type} {P : Program} {e : TypeId} {ds : List (DataW H)} {d : DataW H} (h : d ∈ ds) {z : Nat} (hz : z ∈ d.weights P e) : z ∈ DataW.weightsAll P e ds := by
  induction ds with
  | nil => cases h
  | cons a r ih =>
    rw [DataW.weightsAll]
    rcases List.mem_cons.1 h with rfl | h
    · exact List.mem_append_left _ hz
    · exact List.mem_append_right _ (ih h)
theorem choose_list {α : Type} (n : Nat) (Q : Nat → α → Prop) (h : ∀ i, i < n → ∃ a, Q i a) : ∃ l : List α, l.length = n ∧ ∀ i a, l[i]? = some a → Q i a := by
  induction n with
  | zero => exact ⟨[], rfl, fun i a hi => by simp at hi⟩
  | succ n ih =>
    obtain ⟨l, hl, hq⟩ := ih (fun i hi => h i (by omega))
    obtain ⟨a, ha⟩ := h n (by omega)
    refine ⟨l ++ [a], by simp [hl], fun i b hb => ?_⟩
    by_cases hi : i < l.length
    · rw [List.getElem?_append_left hi] at hb; exact hq i b hb
    · rw [List.getElem?_append_right (by omega)] at hb
      have : i - l.length = 0 := by
        rcases Nat.eq_zero_or_pos (i - l.length) with h0 | h0
        · exact h0
        · rw [List.getElem?_eq_none (by simp; omega)] at hb; cases hb
      rw [this] at hb
      simp at hb
      subst hb
      rw [show i = n from by omega]; exact ha
theorem opn_slice {α : Type} {P : Program} {n : Nat} {d : Kd α} {t e : TypeId} {G : α → Prop} (hu : P.underlying t = some (.slice e)) (hc : P.cellsOf e = d.sz) (h : ∀ m, m < n → OpN P m d e G) :
    OpN P n (Kd.slice e d) t (fun l => l.length * P.bytesOf e ≤ reachBytes ∧ l.length ≤ 9223372036854775807 ∧ ∀ y ∈ l, G y) := by
  intro H enc w base spare held fuel cs x hf ht hz
  rcases DataW.trod_slice hu ht with ⟨rfl, rfl⟩ | ⟨a, len, cap, elems, rest, m, rfl, rfl, rfl, hb, hl, hm, hlen, hel, _, _⟩
  · refine ⟨[], ⟨none, 0, rfl, Nat.le_refl _, rfl, by simp, fun h => by simp at h⟩, by simp, by simp, by simp⟩
  · have hall : ∀ i, i < len → ∃ y : α, (∃ c, c.length = d.sz ∧ d.K w y c ∧ ∀ j u, c[j]? = some u → w.cell? (a.add (i * d.sz + j)) = some u) ∧ G y := by
      intro i hi
      have hi' := hel i hi
      rw [List.getElem?_eq_getElem (by omega)] at hi'
      obtain ⟨c, h1, h2⟩ := Option.bind_eq_some_iff.1 hi'
      obtain ⟨_, hcl, hcell⟩ := World.cells?_some h1
      obtain ⟨y, hK, hG⟩ := h m (by omega) H enc w base spare held m c _ (Nat.le_refl _) h2 (fun z hz2 => hz z (by
        simp only [DataW.weights, hu]
        refine List.mem_cons_of_mem _ (List.mem_append_left _ (weights_all_mem (d := (elems[i]'(by omega)).1) ?_ hz2))
        exact List.mem_map.2 ⟨_, List.getElem_mem _, rfl⟩))
      refine ⟨y, ⟨c, by rw [hcl, hc], hK, fun j u hj => ?_⟩, hG⟩
      have hjl : j < c.length := (List.getElem?_eq_some_iff.1 hj).1
      have := hcell j (by omega)
      rw [Go.Deep.add_add, hc, hj] at this
      exact this
    obtain ⟨l, hll, hq⟩ := choose_list len _ hall
    subst hll
    have hw := hz ((elems.length + rest.length) * P.bytesOf e) (by simp only [DataW.weights, hu, List.length_map]; exact List.mem_cons_self ..)
    have hmx : l.length ≤ 9223372036854775807 := by unfold maxLen at hm; omega
    refine ⟨l, ⟨some a, cap, rfl, hl, rfl, hmx, fun _ => ⟨a, rfl, fun j p hj => ?_⟩⟩, ?_, hmx, ?_⟩
    · obtain ⟨⟨c, h1, h2, h3⟩, _⟩ := hq j p hj
      exact ⟨c, h1, h2, h3⟩
    · refine Nat.le_trans (Nat.mul_le_mul_right _ ?_) hw
      omega
    · intro y hy
      obtain ⟨i, hi, rfl⟩ := List.getElem_of_mem hy
      exact (hq i _ (List.getElem?_eq_getElem hi)).2

/-- The same of some fields, each of one cell, in line. -/
def OpF {α : Type} (P : Program) (n : Nat) (d : Kd α) (ts : List TypeId) (G : α → Prop) : Prop :=
  ∀ (H : Type) (enc : TypeId × Value → H) (w : World) (base : Nat) (spare : Nat → Bool) (held : Bool) (cs : List Value) (ys : List (DataW H × List MemPlace)),
    cs.length = ts.length → (∀ (i : Nat) t v, ts[i]? = some t → cs[i]? = some v → ∃ y, ys[i]? = some y ∧ DataW.trod enc P w base spare held n t [v] = some y ∧ ∀ z ∈ y.1.weights P t, z ≤ reachBytes) → ∃ a, d.K w a cs ∧ G a
theorem OpF.one {α : Type} {P : Program} {n : Nat} {d : Kd α} {t : TypeId} {G : α → Prop} (h : OpN P n d t G) : OpF P n d [t] G := by
  intro H enc w base spare held cs ys hl hi
  match cs, hl with
  | [v], _ =>
    obtain ⟨y, _, h1, h2⟩ := hi 0 t v rfl rfl
    exact h H enc w base spare held n [v] y (Nat.le_refl _) h1 h2
theorem OpF.cons {α β : Type} {P : Program} {n : Nat} {d : Kd α} {d' : Kd β} {t : TypeId} {ts : List TypeId} {G : α → Prop} {G' : β → Prop} (h : OpN P n d t G) (h' : OpF P n d' ts G') : OpF P n (Kd.pair d d') (t :: ts) (fun a => G a.1 ∧ G' a.2) := by
  intro H enc w base spare held cs ys hl hi
  match cs, hl with
  | v :: cs, hl =>
    obtain ⟨y, hy, h1, h2⟩ := hi 0 t v rfl rfl
    obtain ⟨a, k1, g1⟩ := h H enc w base spare held n [v] y (Nat.le_refl _) h1 h2
    obtain ⟨b, k2, g2⟩ := h' H enc w base spare held cs (ys.drop 1) (by simpa using hl) (fun i t v ht hv => by
      obtain ⟨y, hy, h⟩ := hi (i + 1) t v (by simpa using ht) (by simpa using hv)
      exact ⟨y, by rw [List.getElem?_drop, Nat.add_comm]; exact hy, h⟩)
    exact ⟨(a, b), ⟨[v], cs, rfl, k1, k2⟩, g1, g2⟩
theorem opn_struct {α : Type} {P : Program} {n : Nat} {d : Kd α} {t : TypeId} {fs : Array Field} {ts : List TypeId} {G : α → Prop} (hu : P.underlying t = some (.struct fs)) (hone : oneCellFields P fs = true) (hC : P.cellsOf t = fs.size) (hts : fs.toList.map (·.type) = ts)
    (h : ∀ m, m < n → OpF P m d ts G) : OpN P n d t G := by
  intro H enc w base spare held fuel cs x hf ht hz
  obtain ⟨ys, m, rfl, rfl, hl, hlen, hg⟩ := DataW.trod_struct hu ht
  refine h m (by omega) H enc w base spare held cs ys ?_ (fun i t v hti hvi => ?_)
  · rw [hl, hC, ← hts]; simp
  · rw [← hts, List.getElem?_map] at hti
    obtain ⟨f, hfi, rfl⟩ := Option.map_eq_some_iff.1 hti
    rw [Array.getElem?_toList] at hfi
    obtain ⟨ho, hk⟩ := hone_of hone i f hfi
    have h1 := hg i f hfi
    have hvl : i < cs.length := (List.getElem?_eq_some_iff.1 hvi).1
    have hyl : i < ys.length := by have := (Array.getElem?_eq_some_iff.1 hfi).1; omega
    rw [ho, hk, List.drop_eq_getElem_cons hvl, List.getElem?_eq_getElem hyl] at h1
    rw [List.getElem?_eq_getElem hvl] at hvi
    rw [Option.some.inj hvi] at h1
    refine ⟨_, List.getElem?_eq_getElem hyl, h1, fun z hzz => hz z ?_⟩
    simp only [DataW.weights, hu]
    exact DataW.weights_mem_each (j := i) (t := f.type) (d := (ys[i]'hyl).1) (by simp [hfi]) (by simp [List.getElem?_eq_getElem hyl]) z hzz
/-- Another name for what is said. -/
theorem OpN.iso {α β : Type} {P : Program} {n : Nat} {d : Kd α} {t : TypeId} {G : α → Prop} (f : β → α) (g : α → β) (hfg : ∀ a, f (g a) = a) (h : OpN P n d t G) : OpN P n (Kd.iso d f) t (fun b => G (f b)) := by
  intro H enc w base spare held fuel cs x hf ht hz
  obtain ⟨a, k, hG⟩ := h H enc w base spare held fuel cs x hf ht hz
  exact ⟨g a, by show d.K w (f (g a)) cs; rw [hfg]; exact k, by show G (f (g a)); rw [hfg]; exact hG⟩
theorem OpN.imp {α : Type} {P : Program} {n : Nat} {d : Kd α} {t : TypeId} {G G' : α → Prop} (h : OpN P n d t G) (hi : ∀ a, G a → G' a) : OpN P n d t G' := by
  intro H enc w base spare held fuel cs x hf ht hz
  obtain ⟨a, k, hG⟩ := h H enc w base spare held fuel cs x hf ht hz
  exact ⟨a, k, hi a hG⟩
/-- An argument's cells. -/
theorem open_arg {α : Type} {P : Program} {d : Kd α} {t : TypeId} {G : α → Prop} (h : ∀ n, OpN P n d t G) {H : Type} {enc : TypeId × Value → H} {w : World} {base : Nat} {spare : Nat → Bool} {held : Bool} {v : Value} {dt : DataW H} {p : List MemPlace}
    (ht : DataW.Trod enc P w base spare held t v dt p) {ts : List TypeId} {ds : List (DataW H)} (hz : (DataW.weightsEach P ts ds).all (· ≤ reachBytes) = true) {j : Nat} (h1 : ts[j]? = some t) (h2 : ds[j]? = some dt) : ∃ a, d.K w a v.cells.toList ∧ G a := by
  obtain ⟨fuel, hf⟩ := ht
  refine h fuel H enc w base spare held fuel _ _ (Nat.le_refl _) hf (fun z hzz => ?_)
  have := List.all_eq_true.1 hz _ (DataW.weights_mem_each h1 h2 z hzz)
  simpa using this
end Go.Proofs.Ytepmahdiiioceaa.U
