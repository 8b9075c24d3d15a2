/- JudgeCheck: for every scheme, every automaton and everything that may be known, of bulk at most 1048576 together, the call returns true, and each argument reads afterwards as it read before; the card is tied to the text of the program. -/
import Derived.Test.YtjdknnlhhenpnaaGreatDoorMachC
import Derived.ProofKit
import Derived.WalkKit
import Derived.Deep.DeepHandedRow
import Derived.OpenShut
import Derived.Lib.LaidTab
import Derived.Test.YtjdknnlhhenpnaaGreatDoorLawsB
import Derived.Test.YtjdknnlhhenpnaaGreatDoorCards
import Derived.Test.YtjdknnlhhenpnaaGreatDoorTie
import Derived.Test.YtjdknnlhhenpnaaGreatDoorEval
set_option linter.unusedVariables false
set_option linter.unusedSimpArgs false
namespace Go.Abs
def g0 : Gh := { σ := [], τ := [], ψ := [], O := fun _ => none, M := fun _ => 0 }
theorem g0_imm (b o : Nat) : g0.imm b o := .inl rfl
theorem g0_st (w : World) : StR g0 ⟨[], []⟩ w := by
  refine ⟨rfl, rfl, fun id cs h => ?_, fun id cs h => ?_, fun t n sz h => ?_, fun id h => ?_, fun id T e l h => ?_, fun id id' b h => ?_⟩ <;> simp at h
mutual
def bulkD {H : Type} : DataW H → Nat
  | .lit (.string b) => b.length + 1
  | .slice es _ => bulkL es + 1
  | .agg ps => bulkL ps + 1
  | _ => 1
def bulkL {H : Type} : List (DataW H) → Nat
  | [] => 0
  | d :: l => bulkD d + bulkL l
end
def RdC (w : World) (us : List PV) (cs : List Value) : Prop := us.length = cs.length ∧ ∀ i, i < us.length → g0.VR w (us.getD i .undef) (cs.getD i Go.undef) ∧ (cs.getD i Go.undef).oneCell' = true
theorem RdC.one {w : World} {u : PV} {c : Value} (h : g0.VR w u c) (h1 : c.oneCell' = true) : RdC w [u] [c] := by
  refine ⟨rfl, fun i hi => ?_⟩
  obtain rfl : i = 0 := by simpa using hi
  exact ⟨h, h1⟩
theorem RdC.append {w : World} {us us' : List PV} {cs cs' : List Value} (h : RdC w us cs) (h' : RdC w us' cs') : RdC w (us ++ us') (cs ++ cs') := by
  refine ⟨by simp [h.1, h'.1], fun i hi => ?_⟩
  by_cases c : i < us.length
  · have := h.2 i c
    have c' : i < cs.length := by rw [← h.1]; exact c
    simpa [List.getD_eq_getElem?_getD, List.getElem?_append_left c, List.getElem?_append_left c'] using this
  · have hl : cs.length ≤ i := by rw [← h.1]; omega
    have := h'.2 (i - us.length) (by simp at hi; omega)
    rw [show i - us.length = i - cs.length from by rw [h.1]] at this
    simp only [List.getD_eq_getElem?_getD, List.getElem?_append_right (Nat.not_lt.1 c), List.getElem?_append_right hl] at this ⊢
    rw [show i - us.length = i - cs.length from by rw [h.1]]
    exact this
theorem RdC.agg {w : World} {us : List PV} {cs : Array Value} (h : RdC w us cs.toList) : g0.VR w (.agg us) (.agg cs) := by
  have hg : ∀ i, cs.toList.getD i Go.undef = cs.getD i Go.undef := fun i => by
    simp [List.getD_eq_getElem?_getD, Array.getD_eq_getD_getElem?]
  exact .agg us cs (by rw [h.1]; simp) (fun i hi => by rw [← hg]; exact (h.2 i hi).2) (fun i hi => by rw [← hg]; exact (h.2 i hi).1)
section
variable {H : Type} (enc : TypeId × Value → H) (P : Program) (w : World)
def Rd (t : TypeId) {α : Type} (Q : α → List PV → Prop) (μ : α → Nat) (fuel : Nat) : Prop :=
  ∀ cs d ps, DataW.trod enc P w 0 (fun _ => true) true fuel t cs = some (d, ps) → bulkD d < 4611686018427387904 → ∃ x us, RdC w us cs ∧ Q x us ∧ μ x ≤ bulkD d
def LRel (sz : Nat) {α : Type} (Q : α → List PV → Prop) : List α → List PV → Prop
  | [], es => es = []
  | x :: l, es => ∃ e es', es = e :: es' ∧ Q x (e.proj sz) ∧ LRel sz Q l es'
def SlQ (sz : Nat) {α : Type} (Q : α → List PV → Prop) (l : List α) (us : List PV) : Prop := ∃ es v, us = [v] ∧ Sl sz es v ∧ LRel sz Q l es
variable {enc P w}
theorem Rd.map {t : TypeId} {α β : Type} {Q : α → List PV → Prop} {μ : α → Nat} {Q' : β → List PV → Prop} {μ' : β → Nat} {fuel : Nat} (h : Rd enc P w t Q μ fuel) (f : α → β) (hQ : ∀ x us, Q x us → Q' (f x) us) (hμ : ∀ x, μ' (f x) ≤ μ x) : Rd enc P w t Q' μ' fuel := by
  intro cs d ps hr hB
  obtain ⟨x, us, h1, h2, h3⟩ := h cs d ps hr hB
  exact ⟨f x, us, h1, hQ x us h2, Nat.le_trans (hμ x) h3⟩
theorem rd_int {t : TypeId} {k : IntKind} (ht : P.underlying t = some (.int k)) (fuel : Nat) : Rd enc P w t (fun (n : Int) us => us = [.int k n]) (fun _ => 1) fuel := by
  intro cs d ps h hB
  obtain ⟨n, rfl, hx, _⟩ := DataW.trod_int ht h
  cases hx
  exact ⟨n, _, RdC.one (.int k n) rfl, rfl, by simp [bulkD]⟩
theorem rd_bool {t : TypeId} (ht : P.underlying t = some .bool) (fuel : Nat) : Rd enc P w t (fun (b : Bool) us => us = [.bool b]) (fun _ => 1) fuel := by
  intro cs d ps h hB
  obtain ⟨n, rfl, hx⟩ := DataW.trod_bool ht h
  cases hx
  exact ⟨n, _, RdC.one (.bool n) rfl, rfl, by simp [bulkD]⟩
theorem rd_str {t : TypeId} (ht : P.underlying t = some .string) (fuel : Nat) : Rd enc P w t (fun (s : ByteArray) us => us = [.str s]) (fun s => s.size + 1) fuel := by
  intro cs d ps h hB
  obtain ⟨s, rfl, hx, _⟩ := DataW.trod_string ht h
  cases hx
  refine ⟨s, _, RdC.one (.str s) rfl, rfl, ?_⟩
  rw [bulkD, Array.length_toList]
  exact Nat.le_refl _
theorem bulk_pos (d : DataW H) : 1 ≤ bulkD d := by
  unfold bulkD
  split <;> omega
theorem bulk_len : ∀ l : List (DataW H), l.length ≤ bulkL l
  | [] => Nat.le_refl _
  | d :: l => by
    have h1 := bulk_pos d
    have h2 := bulk_len l
    simp only [List.length_cons, bulkL]; omega
theorem bulk_mem : ∀ {l : List (DataW H)} {i : Nat} {d : DataW H}, l[i]? = some d → bulkD d ≤ bulkL l
  | [], i, d, h => by simp at h
  | x :: l, 0, d, h => by cases h; simp only [bulkL]; omega
  | x :: l, i + 1, d, h => by
    have := bulk_mem (l := l) (i := i) (by simpa using h)
    simp only [bulkL]; omega
theorem collect {β : Type} {R : Nat → β → Prop} : ∀ len, (∀ i, i < len → ∃ y, R i y) → ∃ l : List β, l.length = len ∧ ∀ i, i < len → ∃ y, l[i]? = some y ∧ R i y
  | 0, _ => ⟨[], rfl, fun i hi => by omega⟩
  | len + 1, h => by
    obtain ⟨l, h1, h2⟩ := collect len (fun i hi => h i (by omega))
    obtain ⟨y, hy⟩ := h len (by omega)
    refine ⟨l ++ [y], by simp [h1], fun i hi => ?_⟩
    by_cases c : i < len
    · obtain ⟨z, q1, q2⟩ := h2 i c
      exact ⟨z, by rw [List.getElem?_append_left (by omega)]; exact q1, q2⟩
    · obtain rfl : i = len := by omega
      exact ⟨y, by rw [List.getElem?_append_right (by omega)]; simp [h1], hy⟩
theorem lrel_of {sz : Nat} {α : Type} {Q : α → List PV → Prop} : ∀ l : List (α × List PV × List Value), (∀ y ∈ l, Q y.1 y.2.1 ∧ y.2.1.length = sz) → LRel sz Q (l.map (·.1)) (l.map fun y => .agg y.2.1)
  | [], _ => rfl
  | y :: l, h => by
    refine ⟨_, _, rfl, ?_, lrel_of l (fun z hz => h z (by simp [hz]))⟩
    obtain ⟨h1, h2⟩ := h y (by simp)
    have : (PV.agg y.2.1).proj sz = y.2.1 := by
      subst h2
      unfold PV.proj PV.cell PV.cells
      apply List.ext_getElem
      · simp
      · intro i h1 h2
        simp [List.getD_eq_getElem?_getD, h2]
    rw [this]
    exact h1
theorem sum_le {α γ : Type} {μ : α → Nat} : ∀ (l : List (α × γ)) (es : List (DataW H × List MemPlace)), l.length = es.length → (∀ (i : Nat) y z, l[i]? = some y → es[i]? = some z → μ y.1 ≤ bulkD z.1) → ((l.map (·.1)).map μ).sum ≤ bulkL (es.map (·.1))
  | [], [], _, _ => Nat.le_refl _
  | [], _ :: _, h, _ => by simp at h
  | _ :: _, [], h, _ => by simp at h
  | y :: l, z :: es, h, h' => by
    have h1 := h' 0 y z rfl rfl
    have h2 := sum_le (μ := μ) l es (by simpa using h) (fun i a b ha hb => h' (i + 1) a b (by simpa using ha) (by simpa using hb))
    simp only [List.map_cons, List.sum_cons, bulkL]
    omega
theorem cells_get {base : Nat} {a : Addr} {n : Nat} {cs : List Value} (h : w.cells? base a n = some cs) : cs.length = n ∧ ∀ j, j < n → w.cell? (a.add j) = cs[j]? := by
  unfold World.cells? at h
  split at h
  · refine ⟨by simpa using mapM_some_length h, fun j hj => mapM_some_get h j j (by simp [hj])⟩
  · cases h
theorem rd_slice {t e : TypeId} {sz : Nat} (ht : P.underlying t = some (.slice e)) (hsz : P.cellsOf e = sz) (hp : 0 < sz) {α : Type} {Q : α → List PV → Prop} {μ : α → Nat} {fuel : Nat} (he : ∀ n, n < fuel → Rd enc P w e Q μ n) :
    Rd enc P w t (SlQ sz Q) (fun l => (l.map μ).sum + 1) fuel := by
  intro cs d ps h hB
  rcases DataW.trod_slice ht h with ⟨rfl, hx⟩ | ⟨a, len, cap, elems, rest, n, rfl, rfl, hx, _, hle, hmax, hlen, hel, hrest, _⟩
  · cases hx
    exact ⟨[], [.snil], RdC.one .snil rfl, ⟨[], .snil, rfl, .inl ⟨rfl, rfl⟩, rfl⟩, by simp [bulkD]⟩
  · cases hx
    rw [hsz] at hel hrest
    rw [bulkD] at hB
    have hBl := bulk_len (elems.map (·.1))
    rw [List.length_map] at hBl
    have hE : ∀ i, i < len → ∃ y : α × List PV × List Value, w.cells? 0 (a.add (i * sz)) sz = some y.2.2 ∧ RdC w y.2.1 y.2.2 ∧ Q y.1 y.2.1 ∧ ∀ z, elems[i]? = some z → μ y.1 ≤ bulkD z.1 := by
      intro i hi
      have h1 := hel i hi
      rw [List.getElem?_eq_getElem (by omega)] at h1
      obtain ⟨csi, h2, h3⟩ := Option.bind_eq_some_iff.1 h1
      have hbi := bulk_mem (l := elems.map (·.1)) (i := i) (d := elems[i].1) (by rw [List.getElem?_map, List.getElem?_eq_getElem (by omega)]; rfl)
      obtain ⟨x, us, r1, r2, r3⟩ := he n (by omega) csi _ _ h3 (by show bulkD (elems[i]).1 < _; omega)
      exact ⟨(x, us, csi), h2, r1, r2, fun z hz => by rw [List.getElem?_eq_getElem (by omega)] at hz; cases hz; exact r3⟩
    obtain ⟨l, hl, hR⟩ := collect len hE
    have hmem : ∀ y ∈ l, Q y.1 y.2.1 ∧ y.2.1.length = sz := by
      intro y hy
      obtain ⟨i, hi⟩ := List.getElem?_of_mem hy
      have hil := (List.getElem?_eq_some_iff.1 hi).1
      obtain ⟨y', q1, q2, q3, q4, _⟩ := hR i (by omega)
      rw [hi] at q1; cases q1
      exact ⟨q4, by rw [q3.1, (cells_get q2).1]⟩
    have hlr := lrel_of l hmem
    have hsum := sum_le (μ := μ) l elems (by omega) (fun i y z hy hz => by
      obtain ⟨y', q1, _, _, _, q5⟩ := hR i (by have := (List.getElem?_eq_some_iff.1 hy).1; omega)
      rw [hy] at q1; cases q1
      exact q5 z hz)
    have hbulk : ((l.map (·.1)).map μ).sum + 1 ≤ bulkD (.slice (elems.map (·.1)) (rest.map (·.1))) := by rw [bulkD]; omega
    have hes : (l.map fun y => PV.agg y.2.1).length = len := by simp [hl]
    have hmx : len < 4611686018427387904 := by omega
    have hget : ∀ i y, l[i]? = some y → (l.map fun y => PV.agg y.2.1).getD i .undef = .agg y.2.1 := fun i y hy => by simp [List.getD_eq_getElem?_getD, hy]
    refine ⟨l.map (·.1), [.sl none sz (l.map fun y => .agg y.2.1)], RdC.one ?_ rfl, ⟨_, _, rfl, .inr ⟨none, rfl, by omega⟩, hlr⟩, hbulk⟩
    by_cases c0 : cap = 0
    · have : l = [] := List.eq_nil_of_length_eq_zero (by omega)
      subst this
      obtain rfl : len = 0 := by omega
      subst c0
      exact .sl0 sz a hp
    · have hspot : a.spot = none := by
        have hc : ∃ v, w.cell? ((a.add (0 * sz)).add 0) = some v := by
          by_cases c : 0 < len
          · obtain ⟨y, _, q2, _⟩ := hR 0 c
            obtain ⟨g1, g2⟩ := cells_get q2
            exact ⟨_, (g2 0 hp).trans (List.getElem?_eq_getElem (by omega))⟩
          · obtain ⟨g1, g2⟩ := hrest rfl
            have h1 := g2 0 (by omega)
            rw [List.getElem?_eq_getElem (by omega)] at h1
            obtain ⟨csi, h2, h3⟩ := Option.bind_eq_some_iff.1 h1
            obtain ⟨k1, k2⟩ := cells_get h2
            have : len = 0 := by omega
            subst this
            exact ⟨_, (k2 0 hp).trans (List.getElem?_eq_getElem (by omega))⟩
        obtain ⟨v, hv⟩ := hc
        rw [Nat.zero_mul] at hv
        have e : (a.add 0).add 0 = a := by simp [Addr.add]
        rw [e] at hv
        unfold World.cell? at hv
        split at hv
        · split at hv
          · cases hv
          · rename_i hs; simpa using hs
        · cases hv
      obtain ⟨b, o, s⟩ := a
      simp only at hspot
      subst hspot
      have key : ∀ i j, i < len → j < sz → ∃ y, l[i]? = some y ∧ w.cell? ⟨b, o + (i * sz + j), none⟩ = some (y.2.2.getD j Go.undef) ∧ g0.VR w (y.2.1.getD j .undef) (y.2.2.getD j Go.undef) ∧ (y.2.2.getD j Go.undef).oneCell' = true := by
        intro i j hi hj
        obtain ⟨y, q1, q2, q3, q4, _⟩ := hR i hi
        obtain ⟨k1, k2⟩ := cells_get q2
        have h1 := k2 j hj
        rw [addr_add, addr_add, List.getElem?_eq_getElem (by omega)] at h1
        refine ⟨y, q1, ?_, q3.2 j (by rw [q3.1]; omega)⟩
        rw [← Nat.add_assoc, h1, List.getD_eq_getElem?_getD, List.getElem?_eq_getElem (by omega)]
        rfl
      have hv := VR.sl (σ := g0.σ) (I := g0.imm) (N := g0.plain w) (w := w) none sz (l.map fun y => PV.agg y.2.1) b o cap (fun k => (w.cell? ⟨b, o + k, none⟩).getD Go.undef) hp (.inl rfl) (by omega) (fun i hi => ?_) (fun k hk => ?_) (fun i j hi hj => ?_)
      · rw [hes] at hv; exact hv
      · rw [hes] at hi
        obtain ⟨y, q1, q2, q3, q4, _⟩ := hR i hi
        rw [hget i y q1]
        exact (hmem y (List.mem_of_getElem? q1)).2
      · rw [hes] at hk
        obtain ⟨y, q1, q2, q3, q4⟩ := key (k / sz) (k % sz) (Nat.div_lt_of_lt_mul (by rw [Nat.mul_comm]; exact hk)) (Nat.mod_lt _ hp)
        rw [Nat.div_add_mod'] at q2
        simp only [q2, Option.getD_some]
        exact ⟨trivial, g0_imm _ _, q4⟩
      · rw [hes] at hi
        obtain ⟨y, q1, q2, q3, q4⟩ := key i j hi hj
        simp only [hget i y q1, q2, Option.getD_some]
        exact q3
def fieldsP (P : Program) (t : TypeId) : Option (List (TypeId × Nat × Nat) × Nat) := match P.underlying t with
  | some (.struct fs) => some (fs.toList.map (fun f => (f.type, f.offset, P.cellsOf f.type)), P.cellsOf t)
  | _ => none
theorem trod_fields {t : TypeId} {l : List (TypeId × Nat × Nat)} {m : Nat} (hf : fieldsP P t = some (l, m)) {fuel : Nat} {cs : List Value} {d : DataW H} {ps : List MemPlace} (h : DataW.trod enc P w 0 (fun _ => true) true fuel t cs = some (d, ps)) :
    ∃ (n : Nat) (xs : List (DataW H × List MemPlace)), fuel = n + 1 ∧ d = .agg (xs.map (·.1)) ∧ cs.length = m ∧ xs.length = l.length ∧ ∀ (i : Nat) f, l[i]? = some f → DataW.trod enc P w 0 (fun _ => true) true n f.1 ((cs.drop f.2.1).take f.2.2) = xs[i]? := by
  unfold fieldsP at hf
  split at hf
  · rename_i fs ht
    cases hf
    obtain ⟨xs, n, h1, h2, h3, h4, h5⟩ := DataW.trod_struct ht h
    cases h2
    refine ⟨n, xs, h1, rfl, h3, by simp [h4], fun i f hi => ?_⟩
    simp only [List.getElem?_map, Option.map_eq_some_iff] at hi
    obtain ⟨f0, q1, rfl⟩ := hi
    exact h5 i f0 (by simpa using q1)
  · cases hf
theorem take_drop_split {α : Type} (l : List α) (n m : Nat) (h : l.length = n + m) : l = l.take n ++ (l.drop n).take m := by
  rw [List.take_of_length_le (l := l.drop n) (by simp; omega), List.take_append_drop]
theorem rd_s1 {t t1 : TypeId} {n1 : Nat} (hf : fieldsP P t = some ([(t1, 0, n1)], n1)) {α : Type} {Q : α → List PV → Prop} {μ : α → Nat} {fuel : Nat} (h1 : ∀ n, n < fuel → Rd enc P w t1 Q μ n) : Rd enc P w t Q (fun x => μ x + 1) fuel := by
  intro cs d ps h hB
  obtain ⟨n, xs, rfl, rfl, hl, hx, hi⟩ := trod_fields hf h
  rw [bulkD] at hB
  match xs, hx, hB with
  | [a], _, hB =>
    simp only [List.map_cons, List.map_nil, bulkL] at hB
    have e1 := hi 0 (t1, 0, n1) rfl
    rw [List.drop_zero, List.take_of_length_le (by simp; omega)] at e1
    obtain ⟨x, us, r1, r2, r3⟩ := h1 n (by omega) cs _ _ e1 (by omega)
    exact ⟨x, us, r1, r2, by simp only [List.map_cons, List.map_nil, bulkD, bulkL]; omega⟩
theorem rd_s2 {t t1 t2 : TypeId} {n1 n2 : Nat} (hf : fieldsP P t = some ([(t1, 0, n1), (t2, n1, n2)], n1 + n2)) {α β : Type} {Q : α → List PV → Prop} {μ : α → Nat} {Q' : β → List PV → Prop} {μ' : β → Nat} {fuel : Nat}
    (h1 : ∀ n, n < fuel → Rd enc P w t1 Q μ n) (h2 : ∀ n, n < fuel → Rd enc P w t2 Q' μ' n) : Rd enc P w t (fun (x : α × β) us => ∃ u1 u2, us = u1 ++ u2 ∧ Q x.1 u1 ∧ Q' x.2 u2) (fun x => μ x.1 + μ' x.2 + 1) fuel := by
  intro cs d ps h hB
  obtain ⟨n, xs, rfl, rfl, hl, hx, hi⟩ := trod_fields hf h
  rw [bulkD] at hB
  match xs, hx, hB with
  | [a, b], _, hB =>
    simp only [List.map_cons, List.map_nil, bulkL] at hB
    have e1 := hi 0 (t1, 0, n1) rfl
    have e2 := hi 1 (t2, n1, n2) rfl
    rw [List.drop_zero] at e1
    obtain ⟨x, us, r1, r2, r3⟩ := h1 n (by omega) _ _ _ e1 (by omega)
    obtain ⟨y, us', s1, s2, s3⟩ := h2 n (by omega) _ _ _ e2 (by omega)
    refine ⟨(x, y), us ++ us', ?_, ⟨us, us', rfl, r2, s2⟩, by simp only [List.map_cons, List.map_nil, bulkD, bulkL]; omega⟩
    rw [take_drop_split cs n1 n2 hl]
    exact r1.append s1
theorem rd_s3 {t t1 t2 t3 : TypeId} {n1 n2 n3 : Nat} (hf : fieldsP P t = some ([(t1, 0, n1), (t2, n1, n2), (t3, n1 + n2, n3)], n1 + n2 + n3)) {α β γ : Type} {Q : α → List PV → Prop} {μ : α → Nat} {Q' : β → List PV → Prop} {μ' : β → Nat} {Q'' : γ → List PV → Prop} {μ'' : γ → Nat} {fuel : Nat}
    (h1 : ∀ n, n < fuel → Rd enc P w t1 Q μ n) (h2 : ∀ n, n < fuel → Rd enc P w t2 Q' μ' n) (h3 : ∀ n, n < fuel → Rd enc P w t3 Q'' μ'' n) :
    Rd enc P w t (fun (x : α × β × γ) us => ∃ u1 u2 u3, us = u1 ++ u2 ++ u3 ∧ Q x.1 u1 ∧ Q' x.2.1 u2 ∧ Q'' x.2.2 u3) (fun x => μ x.1 + μ' x.2.1 + μ'' x.2.2 + 1) fuel := by
  intro cs d ps h hB
  obtain ⟨n, xs, rfl, rfl, hl, hx, hi⟩ := trod_fields hf h
  rw [bulkD] at hB
  match xs, hx, hB with
  | [a, b, c], _, hB =>
    simp only [List.map_cons, List.map_nil, bulkL] at hB
    have e1 := hi 0 (t1, 0, n1) rfl
    have e2 := hi 1 (t2, n1, n2) rfl
    have e3 := hi 2 (t3, n1 + n2, n3) rfl
    rw [List.drop_zero] at e1
    obtain ⟨x, us, r1, r2, r3⟩ := h1 n (by omega) _ _ _ e1 (by omega)
    obtain ⟨y, us', s1, s2, s3⟩ := h2 n (by omega) _ _ _ e2 (by omega)
    obtain ⟨z, us'', q1, q2, q3⟩ := h3 n (by omega) _ _ _ e3 (by omega)
    refine ⟨(x, y, z), us ++ us' ++ us'', ?_, ⟨us, us', us'', rfl, r2, s2, q2⟩, by simp only [List.map_cons, List.map_nil, bulkD, bulkL]; omega⟩
    have e : cs = cs.take n1 ++ (cs.drop n1).take n2 ++ (cs.drop (n1 + n2)).take n3 := by
      rw [List.append_assoc]
      conv => lhs; rw [← List.take_append_drop n1 cs]
      congr 1
      have := take_drop_split (cs.drop n1) n2 n3 (by simp; omega)
      rw [List.drop_drop] at this
      exact this
    rw [e]
    exact (r1.append s1).append q1
end
end Go.Abs
namespace Go.Abs
open Go.ChangeShapes Go.WideShapes Go.ChangeAt Go.RowKit
section
variable {P : Program} {T : Hints}
theorem calls_law (hs : ∀ k, CallS P (run P T k)) {f : FuncId} {us : List PV} {vs : Array Value} {W : World} (hrun : Run P T f us ⟨[], []⟩ = some (.bool true, ⟨[], []⟩)) (hl : us.length = vs.size)
    (hv : ∀ i, i < us.length → g0.VR W (us.getD i .undef) (vs.getD i Go.undef)) :
    Calls P f vs W fun e W' => e = .returned (.bool true) ∧ W'.os = W.os ∧ W'.output = W.output ∧ ∀ i, i < W.heap.size → W'.heap[i]? = W.heap[i]? := by
  obtain ⟨k, h⟩ := Run_some.1 hrun
  refine (hs k f us ⟨[], []⟩ _ _ g0 W vs h (g0_st W) hl hv).mono ?_
  rintro e W' ⟨v, g1, rfl, hst, hvr, htr, htok, hpsi⟩
  have hv : v = .bool true := by cases hvr; rfl
  subst hv
  exact ⟨rfl, htr.os, htr.output, fun i hi => (htr.none i hi rfl).2⟩
variable {H : Type} {enc : TypeId × Value → H}
theorem trodAll_stays (hl : laidOutB P = true) {W W' : World} {sp : Nat → Bool} (hh : ∀ i, i < W.heap.size → W'.heap[i]? = W.heap[i]?) : ∀ {ts : List TypeId} {vs : List Value} {ds : List (DataW H)} {ps : List MemPlace},
    (∀ t ∈ ts, P.readableRec t = true ∧ t < P.types.size) → DataW.TrodAll enc P W 0 (fun _ => true) true ts vs ds ps → (∀ p ∈ ps, p.block < W.heap.size ∧ sp p.block = true) → DataW.TrodAll enc P W' 0 sp true ts vs ds ps
  | [], [], [], _, _, h, _ => h
  | t :: ts, v :: vs, d :: ds, ps, ht, ⟨p, q, h1, h2, h3⟩, hp => by
    subst h3
    refine ⟨p, q, ?_, trodAll_stays hl hh (fun t h => ht t (by simp [h])) h2 (fun x hx => hp x (by simp [hx])), rfl⟩
    refine WideElems.Trod_stays hl (ht t (by simp)).1 (ht t (by simp)).2 h1 (fun x hx => ?_) (fun x hx => (hp x (by simp [hx])).2)
    have := hh _ (hp x (by simp [hx])).1
    cases x with
    | cell b off => exact World.cell?_of_block (w := W) (a := ⟨b, off, none⟩) this
    | map b => exact this
  | [], [], _ :: _, _, _, h, _ => h.elim
  | [], _ :: _, _, _, _, h, _ => h.elim
  | _ :: _, [], _, _, _, h, _ => h.elim
  | _ :: _, _ :: _, [], _, _, h, _ => h.elim
theorem kept_of {W W' : World} (may : MemPlace → Prop) (h1 : W'.os = W.os) (h2 : W'.output = W.output) (hh : ∀ i, i < W.heap.size → W'.heap[i]? = W.heap[i]?) : W.keptBut W' may := by
  refine ⟨h1, h2, fun i hi => ?_⟩
  rw [hh i hi]
  generalize W.heap[i]? = o
  cases o with
  | none => rfl
  | some o => cases o <;> first | exact ⟨rfl, rfl, rfl, fun _ _ => rfl⟩ | exact .inr ⟨rfl, rfl⟩ | rfl
theorem law_post {f : Func} {s : ChangeSpec} {W W' : World} {args : Array Value} {ds gs : List (DataW H)} {before : List MemPlace} {tb : TypeId} (hvars : s.vars = []) (hres : f.resultTypes = #[tb]) (hb : P.underlying tb = some .bool)
    (hfn : s.fn H ds = { results := [.lit (.bool true)], args := ds }) (hW : DataW.Whole enc P f.params.toList s.vars false W args.toList ds gs before) (hl : laidOutB P = true)
    (hts : ∀ t ∈ f.params.toList, P.readableRec t = true ∧ t < P.types.size) (h1 : W'.os = W.os) (h2 : W'.output = W.output) (hh : ∀ i, i < W.heap.size → W'.heap[i]? = W.heap[i]?) :
    s.post enc P f false true false false W args (.bool true) W' := by
  have hlt := hW.lt
  have hW' := hW
  obtain ⟨p, q, hA, hV, rfl, hfz, hnd⟩ := hW
  rw [hvars] at hV
  obtain ⟨rfl, rfl⟩ := trodVars_none hV
  refine ⟨ds, [], _, [], p, [], hW', ?_, ?_, ?_, kept_of _ h1 h2 hh, fun h => by cases h⟩
  · rw [List.append_nil, hfn, hres]
    exact trodAll_cons_mk (shut_bool hb _) trodAll_mk0
  · rw [List.append_nil, hfn]
    exact trodAll_stays hl hh hts hA (fun x hx => ⟨hlt x (by simp [hx]), by simpa using hlt x (by simp [hx])⟩)
  · rw [hvars, List.append_nil, hfn]
    rfl
theorem rd_arg {W : World} {t : TypeId} {l : List (TypeId × Nat × Nat)} {m : Nat} (hf : fieldsP P t = some (l, m)) {α : Type} {Q : α → List PV → Prop} {μ : α → Nat} (hr : ∀ fuel, Rd enc P W t Q μ fuel) {v : Value} {d : DataW H} {ps : List MemPlace} {base : Nat}
    (hok : Value.okWide P W .any base t v) (h : DataW.Trod enc P W 0 (fun _ => true) true t v d ps) (hB : bulkD d < 4611686018427387904) : ∃ x us, g0.VR W (.agg us) v ∧ Q x us ∧ μ x ≤ bulkD d := by
  obtain ⟨fuel, hn⟩ := h
  have hc : ∃ cs, v = .agg cs := by
    unfold fieldsP at hf
    split at hf
    · rename_i fs ht
      unfold Value.okWide at hok
      rw [ht] at hok
      obtain ⟨cs, h1, _⟩ := hok
      exact ⟨cs, h1⟩
    · cases hf
  obtain ⟨cs, rfl⟩ := hc
  obtain ⟨x, us, h1, h2, h3⟩ := hr fuel _ _ _ hn hB
  exact ⟨x, us, h1.agg, h2, h3⟩
end
end Go.Abs
namespace Go.Vir
open Go Go.Abs
theorem mem_sum {α : Type} (μ : α → Nat) : ∀ {l : List α} {x : α}, x ∈ l → μ x ≤ (l.map μ).sum
  | y :: l, x, h => by
    rw [List.map_cons, List.sum_cons]
    rcases List.mem_cons.1 h with rfl | h
    · omega
    · have := mem_sum μ h; omega
def SrtQ (s : Srt) (us : List PV) : Prop := ∃ v, us = [v] ∧ SrtV s v
def TypQ (t : Typ) (us : List PV) : Prop := ∃ v, us = [.int .i64 t.st, v] ∧ TypV t v
def TrmQ (t : Trm) (us : List PV) : Prop := ∃ v, us = [.int .i64 t.k, .int .i64 t.i, v] ∧ TrmV t v
def SymQ (x : Sym) (us : List PV) : Prop := us = [.str x.1, .int .i64 x.2]
def FnQ (f : Vir.Fn) (us : List PV) : Prop := ∃ sv av, us = [.str f.name, sv, .int .i64 f.body.k, .int .i64 f.body.i, av] ∧ SrtV f.sort sv ∧ TrmV f.body av
def IntQ (n : Int) (us : List PV) : Prop := us = [.int .i64 n]
def NdQ (x : Nd) (us : List PV) : Prop := us = [.int .i64 x.1, .int .i64 x.2]
def BndQ (b : Bnd) (us : List PV) : Prop := ∃ v, us = [.int .i64 b.1, .int .i64 b.2.st, v] ∧ TypV b.2 v
theorem one_cell {e v : PV} (h : e.proj 1 = [v]) : e.cell 0 = v := by
  have : e.proj 1 = [e.cell 0] := rfl
  rw [this] at h
  exact (List.cons.inj h).1
theorem srtL_l : ∀ {l : List Srt} {es : List PV}, LRel 1 SrtQ l es → SrtL l es
  | [], _, h => by unfold SrtL; exact h
  | s :: l, _, ⟨e, es', h1, ⟨v, h2, h3⟩, h4⟩ => by unfold SrtL; exact ⟨e, es', h1, by rw [one_cell h2]; exact h3, srtL_l h4⟩
theorem typL_l : ∀ {l : List Typ} {es : List PV}, LRel 2 TypQ l es → TypL l es
  | [], _, h => by unfold TypL; exact h
  | s :: l, _, ⟨e, es', h1, h2, h4⟩ => by unfold TypL; exact ⟨e, es', h1, h2, typL_l h4⟩
theorem setsL_l : ∀ {l : List (List Typ)} {es : List PV}, LRel 1 (SlQ 2 TypQ) l es → SetsL l es
  | [], _, h => by unfold SetsL; exact h
  | s :: l, _, ⟨e, es', h1, ⟨xs, v, h2, h3, h5⟩, h4⟩ => by unfold SetsL; exact ⟨e, es', h1, ⟨xs, by rw [one_cell h2]; exact h3, typL_l h5⟩, setsL_l h4⟩
theorem trmL_l : ∀ {l : List Trm} {es : List PV}, LRel 3 TrmQ l es → TrmL l es
  | [], _, h => by unfold TrmL; exact h
  | s :: l, _, ⟨e, es', h1, h2, h4⟩ => by unfold TrmL; exact ⟨e, es', h1, h2, trmL_l h4⟩
theorem symL_l : ∀ {l : List Sym} {es : List PV}, LRel 2 SymQ l es → SymL l es
  | [], _, h => h
  | s :: l, _, ⟨e, es', h1, h2, h4⟩ => ⟨e, es', h1, h2, symL_l h4⟩
theorem fnL_l : ∀ {l : List Vir.Fn} {es : List PV}, LRel 5 FnQ l es → FnL l es
  | [], _, h => h
  | s :: l, _, ⟨e, es', h1, h2, h4⟩ => ⟨e, es', h1, h2, fnL_l h4⟩
theorem intL_l : ∀ {l : List Int} {es : List PV}, LRel 1 IntQ l es → IntL l es
  | [], _, h => h
  | s :: l, _, ⟨e, es', h1, h2, h4⟩ => ⟨e, es', h1, one_cell h2, intL_l h4⟩
theorem ndL_l : ∀ {l : List Nd} {es : List PV}, LRel 2 NdQ l es → NdL l es
  | [], _, h => h
  | s :: l, _, ⟨e, es', h1, h2, h4⟩ => ⟨e, es', h1, h2, ndL_l h4⟩
theorem bndL_l : ∀ {l : List Bnd} {es : List PV}, LRel 3 BndQ l es → BndL l es
  | [], _, h => h
  | s :: l, _, ⟨e, es', h1, h2, h4⟩ => ⟨e, es', h1, h2, bndL_l h4⟩
theorem liL_l {α : Type} {Q : α → List PV → Prop} {R : α → PV → Prop} (hQ : ∀ x us, Q x us → ∃ v, us = [v] ∧ R x v) : ∀ {l : List α} {es : List PV}, LRel 1 Q l es → LiL R l es
  | [], _, h => h
  | s :: l, _, ⟨e, es', h1, h2, h4⟩ => by
    obtain ⟨v, h5, h6⟩ := hQ _ _ h2
    exact ⟨e, es', h1, by rw [one_cell h5]; exact h6, liL_l hQ h4⟩
theorem ndV_q {l : List Nd} {us : List PV} (h : SlQ 2 NdQ l us) : ∃ v, us = [v] ∧ NdV l v := by
  obtain ⟨es, v, h1, h2, h3⟩ := h
  exact ⟨v, h1, es, h2, ndL_l h3⟩
theorem liV_q {α : Type} {Q : α → List PV → Prop} {R : α → PV → Prop} (hQ : ∀ x us, Q x us → ∃ v, us = [v] ∧ R x v) {l : List α} {us : List PV} (h : SlQ 1 Q l us) : ∃ v, us = [v] ∧ LiV R l v := by
  obtain ⟨es, v, h1, h2, h3⟩ := h
  exact ⟨v, h1, es, h2, liL_l hQ h3⟩
theorem nL_sum : ∀ l : List Srt, Srt.nL l = (l.map Srt.n).sum
  | [] => rfl
  | a :: l => by rw [Srt.nL, List.map_cons, List.sum_cons, nL_sum l]
theorem nT_sum : ∀ l : List Typ, Typ.nT l = (l.map Typ.n).sum
  | [] => rfl
  | a :: l => by rw [Typ.nT, List.map_cons, List.sum_cons, nT_sum l]
theorem nS_sum : ∀ l : List (List Typ), Typ.nS l ≤ (l.map fun x => (x.map Typ.n).sum + 1).sum
  | [] => Nat.le_refl _
  | a :: l => by
    rw [Typ.nS, List.map_cons, List.sum_cons, nT_sum]
    have := nS_sum l
    omega
theorem shL_sum : ∀ l : List Trm, Srt.nL (Trm.shL l) = (l.map fun t => t.sh.n).sum
  | [] => rfl
  | a :: l => by rw [Trm.shL, Srt.nL, List.map_cons, List.sum_cons, shL_sum l]
end Go.Vir
namespace Go.Proofs.YtjdknnlhhenpnaaGreatDoor
open Go Go.Abs Go.Vir
section
variable {H : Type} {enc : TypeId × Value → H} {w : World}
theorem ft93 : fieldsP P 93 = some ([(30, 0, 1)], 1) := by kernel_rfl
theorem ft47 : fieldsP P 47 = some ([(3, 0, 1), (31, 1, 1)], 2) := by kernel_rfl
theorem ft45 : fieldsP P 45 = some ([(3, 0, 1), (3, 1, 1), (43, 2, 1)], 3) := by kernel_rfl
theorem ft121 : fieldsP P 121 = some ([(9, 0, 1), (3, 1, 1)], 2) := by kernel_rfl
theorem ft116 : fieldsP P 116 = some ([(9, 0, 1), (93, 1, 1), (45, 2, 3)], 5) := by kernel_rfl
theorem ft25 : fieldsP P 25 = some ([(22, 0, 1), (23, 1, 1)], 2) := by kernel_rfl
theorem ft66 : fieldsP P 66 = some ([(3, 0, 1), (3, 1, 1)], 2) := by kernel_rfl
theorem ft29 : fieldsP P 29 = some ([(26, 0, 1), (3, 1, 1), (27, 2, 1)], 3) := by kernel_rfl
theorem ft58 : fieldsP P 58 = some ([(3, 0, 1), (47, 1, 2)], 3) := by kernel_rfl
theorem ft34 : fieldsP P 34 = some ([(30, 0, 1), (31, 1, 1), (32, 2, 1)], 3) := by kernel_rfl
theorem ui3 : P.underlying 3 = some (.int .i64) := by kernel_rfl
theorem us30 : P.underlying 30 = some (.slice 93) := by kernel_rfl
theorem us31 : P.underlying 31 = some (.slice 73) := by kernel_rfl
theorem us73 : P.underlying 73 = some (.slice 47) := by kernel_rfl
theorem us43 : P.underlying 43 = some (.slice 45) := by kernel_rfl
theorem us22 : P.underlying 22 = some (.slice 121) := by kernel_rfl
theorem us23 : P.underlying 23 = some (.slice 116) := by kernel_rfl
theorem us26 : P.underlying 26 = some (.slice 3) := by kernel_rfl
theorem us27 : P.underlying 27 = some (.slice 63) := by kernel_rfl
theorem us63 : P.underlying 63 = some (.slice 62) := by kernel_rfl
theorem us62 : P.underlying 62 = some (.slice 64) := by kernel_rfl
theorem us64 : P.underlying 64 = some (.slice 66) := by kernel_rfl
theorem us32 : P.underlying 32 = some (.slice 58) := by kernel_rfl
theorem rd_sort (fuel : Nat) : Rd enc P w 93 SrtQ Srt.n fuel := by
  induction fuel using Nat.strongRecOn with
  | _ fuel ih =>
    refine (rd_s1 ft93 (fun n hn => rd_slice us30 (sz := 1) (by kernel_rfl) (by decide) (fun m hm => ih m (by omega)))).map Srt.mk ?_ ?_
    · rintro l us ⟨es, v, rfl, h1, h2⟩
      exact ⟨v, rfl, srtV_of h1 (srtL_l h2)⟩
    · intro l
      rw [Srt.n, nL_sum]; omega
theorem rd_type (fuel : Nat) : Rd enc P w 47 TypQ Typ.n fuel := by
  induction fuel using Nat.strongRecOn with
  | _ fuel ih =>
    refine (rd_s2 ft47 (fun n hn => rd_int ui3 n) (fun n hn => rd_slice us31 (sz := 1) (by kernel_rfl) (by decide) (fun m hm => rd_slice us73 (sz := 2) (by kernel_rfl) (by decide) (fun k hk => ih k (by omega))))).map (fun x => Typ.mk x.1 x.2) ?_ ?_
    · rintro x us ⟨u1, u2, rfl, rfl, es, v, rfl, h1, h2⟩
      exact ⟨v, rfl, by unfold TypV; exact ⟨es, h1, setsL_l h2⟩⟩
    · intro x
      rw [Typ.n]
      have := nS_sum x.2
      omega
theorem rd_term (fuel : Nat) : Rd enc P w 45 TrmQ (fun t => t.sh.n) fuel := by
  induction fuel using Nat.strongRecOn with
  | _ fuel ih =>
    refine (rd_s3 ft45 (fun n hn => rd_int ui3 n) (fun n hn => rd_int ui3 n) (fun n hn => rd_slice us43 (sz := 3) (by kernel_rfl) (by decide) (fun m hm => ih m (by omega)))).map (fun x => Trm.mk x.1 x.2.1 x.2.2) ?_ ?_
    · rintro x us ⟨u1, u2, u3, rfl, rfl, rfl, es, v, rfl, h1, h2⟩
      exact ⟨v, rfl, by unfold TrmV; exact ⟨es, h1, trmL_l h2⟩⟩
    · intro x
      rw [Trm.sh, Srt.n, shL_sum]; omega
theorem rd_sym (fuel : Nat) : Rd enc P w 121 SymQ (fun _ => 1) fuel := by
  refine (rd_s2 ft121 (fun n hn => rd_str u9 n) (fun n hn => rd_int ui3 n)).map id ?_ (fun x => by omega)
  rintro x us ⟨u1, u2, rfl, rfl, rfl⟩
  rfl
theorem rd_fn (fuel : Nat) : Rd enc P w 116 FnQ (fun f => f.sort.n + f.body.sh.n) fuel := by
  refine (rd_s3 ft116 (fun n hn => rd_str u9 n) (fun n hn => rd_sort n) (fun n hn => rd_term n)).map (fun x => ⟨x.1, x.2.1, x.2.2⟩) ?_ (fun x => by dsimp only; omega)
  rintro x us ⟨u1, u2, u3, rfl, rfl, ⟨v, rfl, h1⟩, ⟨v', rfl, h2⟩⟩
  exact ⟨v, v', rfl, h1, h2⟩
def SchQ (x : List Sym × List Vir.Fn) (us : List PV) : Prop := ∃ sv fv, us = [sv, fv] ∧ SymV x.1 sv ∧ FnV x.2 fv
def schM (x : List Sym × List Vir.Fn) : Nat := (x.2.map fun f => f.sort.n + f.body.sh.n).sum
theorem rd_scheme (fuel : Nat) : Rd enc P w 25 SchQ schM fuel := by
  refine (rd_s2 ft25 (fun n hn => rd_slice us22 (sz := 2) (by kernel_rfl) (by decide) (fun m hm => rd_sym m)) (fun n hn => rd_slice us23 (sz := 5) (by kernel_rfl) (by decide) (fun m hm => rd_fn m))).map id ?_ (fun x => by unfold schM; simp only [id]; omega)
  rintro x us ⟨u1, u2, rfl, ⟨es, v, rfl, h1, h2⟩, ⟨es', v', rfl, h3, h4⟩⟩
  exact ⟨v, v', rfl, ⟨es, h1, symL_l h2⟩, ⟨es', h3, fnL_l h4⟩⟩
theorem rd_need (fuel : Nat) : Rd enc P w 66 NdQ (fun _ => 1) fuel := by
  refine (rd_s2 ft66 (fun n hn => rd_int ui3 n) (fun n hn => rd_int ui3 n)).map id ?_ (fun x => by omega)
  rintro x us ⟨u1, u2, rfl, rfl, rfl⟩
  rfl
abbrev AutD := List Int × Int × List (List (List (List Nd)))
def AutQ (x : AutD) (us : List PV) : Prop := ∃ rv mv, us = [rv, .int .i64 x.2.1, mv] ∧ IntV x.1 rv ∧ LiV (LiV (LiV NdV)) x.2.2 mv
theorem rd_auto (fuel : Nat) : Rd enc P w 29 AutQ (fun _ => 1) fuel := by
  refine (rd_s3 ft29 (fun n hn => rd_slice us26 (sz := 1) (by kernel_rfl) (by decide) (fun m hm => rd_int ui3 m)) (fun n hn => rd_int ui3 n)
    (fun n hn => rd_slice us27 (sz := 1) (by kernel_rfl) (by decide) (fun m hm => rd_slice us63 (sz := 1) (by kernel_rfl) (by decide) (fun m hm => rd_slice us62 (sz := 1) (by kernel_rfl) (by decide) (fun m hm => rd_slice us64 (sz := 2) (by kernel_rfl) (by decide) (fun m hm => rd_need m)))))).map id ?_ (fun x => by omega)
  rintro x us ⟨u1, u2, u3, rfl, ⟨es, v, rfl, h1, h2⟩, rfl, h3⟩
  obtain ⟨v', rfl, h4⟩ := liV_q (R := LiV (LiV NdV)) (fun x us h => liV_q (R := LiV NdV) (fun x us h => liV_q (R := NdV) (fun x us h => ndV_q h) h) h) h3
  exact ⟨v, v', rfl, ⟨es, h1, intL_l h2⟩, h4⟩
theorem rd_bind (fuel : Nat) : Rd enc P w 58 BndQ (fun b => b.2.n) fuel := by
  refine (rd_s2 ft58 (fun n hn => rd_int ui3 n) (fun n hn => rd_type n)).map id ?_ (fun x => by simp only [id]; omega)
  rintro x us ⟨u1, u2, rfl, rfl, ⟨v, rfl, h1⟩⟩
  exact ⟨v, rfl, h1⟩
abbrev KnD := List Srt × List (List Typ) × List Bnd
def KnQ (x : KnD) (us : List PV) : Prop := ∃ pv xv bv, us = [pv, xv, bv] ∧ KnV x.1 x.2.1 x.2.2 pv xv bv
def knM (x : KnD) : Nat := (x.1.map Srt.n).sum + (x.2.1.map fun l => (l.map Typ.n).sum).sum + (x.2.2.map fun b => b.2.n).sum
theorem sum_le_sum {α : Type} {f g : α → Nat} (h : ∀ x, f x ≤ g x) : ∀ l : List α, (l.map f).sum ≤ (l.map g).sum
  | [] => Nat.le_refl _
  | x :: l => by
    rw [List.map_cons, List.map_cons, List.sum_cons, List.sum_cons]
    have h1 := h x
    have h2 := sum_le_sum h l
    omega
theorem rd_known (fuel : Nat) : Rd enc P w 34 KnQ knM fuel := by
  refine (rd_s3 ft34 (fun n hn => rd_slice us30 (sz := 1) (by kernel_rfl) (by decide) (fun m hm => rd_sort m)) (fun n hn => rd_slice us31 (sz := 1) (by kernel_rfl) (by decide) (fun m hm => rd_slice us73 (sz := 2) (by kernel_rfl) (by decide) (fun m hm => rd_type m)))
    (fun n hn => rd_slice us32 (sz := 3) (by kernel_rfl) (by decide) (fun m hm => rd_bind m))).map id ?_ ?_
  · rintro x us ⟨u1, u2, u3, rfl, ⟨es, v, rfl, h1, h2⟩, ⟨es', v', rfl, h3, h4⟩, ⟨es'', v'', rfl, h5, h6⟩⟩
    exact ⟨v, v', v'', rfl, srtV_of h1 (srtL_l h2), ⟨es', h3, setsL_l h4⟩, ⟨es'', h5, bndL_l h6⟩⟩
  · intro x
    have := sum_le_sum (f := fun l : List Typ => (l.map Typ.n).sum) (g := fun l => (l.map Typ.n).sum + 1) (fun l => by omega) x.2.1
    unfold knM
    simp only [id]
    omega
theorem small_of {x : List Sym × List Vir.Fn} {k : KnD} (h1 : schM x < 4611686018427387904) (h2 : knM k < 4611686018427387904) : Small x.2 k.1 k.2.1 k.2.2 := by
  unfold schM at h1
  unfold knM at h2
  refine ⟨fun f hf => ?_, fun p hp => ?_, fun l hl t ht => ?_, fun b hb => ?_⟩
  · have := mem_sum (fun f : Vir.Fn => f.sort.n + f.body.sh.n) hf
    omega
  · have := mem_sum Srt.n hp; omega
  · have h3 := mem_sum (fun l : List Typ => (l.map Typ.n).sum) hl
    have h4 := mem_sum Typ.n ht
    omega
  · have := mem_sum (fun b : Bnd => b.2.n) hb
    omega
end
end Go.Proofs.YtjdknnlhhenpnaaGreatDoor
namespace Go.Proofs.YtjdknnlhhenpnaaGreatDoor
open Go Go.Abs Go.ChangeShapes Go.WideShapes Go.ChangeAt Go.RowKit
def litsOf : DataW Unit → Array Value
  | .agg l => (l.map fun | .lit (.int k n) => .int k n | _ => Go.undef).toArray
  | _ => #[]
def setCs (d : DataW Unit) : Obj → Obj
  | .cells _ t frozen => .cells (litsOf d) t frozen
  | o => o
noncomputable def laidWorld (os : Os) : World :=
  { World.holding Tryz.prog os ⟨#[], #[], []⟩ with heap := (((World.holding Tryz.prog os ⟨#[], #[], []⟩).heap.modify 0 (setCs Rows.laid_internal_strconv_uint64pow10)).modify 1 (setCs Rows.laid_math_bits_deBruijn32tab)).modify 2 (setCs Rows.laid_math_bits_deBruijn64tab) }
theorem own : ownKnob Tryz.prog.godebug = none := by kernel_rfl
theorem laidOut : laidOutB Tryz.prog = true := by kernel_rfl
theorem ub4 : Tryz.prog.underlying 4 = some .bool := by kernel_rfl
mutual
theorem bulk_le {H : Type} (d : DataW H) : bulkD d ≤ Rows.uptoBulk d := by
  match d with
  | .lit l => cases l <;> simp [bulkD, Rows.uptoBulk]
  | .nil => simp [bulkD, Rows.uptoBulk]
  | .ptr d => simp [bulkD, Rows.uptoBulk]
  | .slice es sp =>
    have := bulkL_le es
    simp only [bulkD, Rows.uptoBulk]; omega
  | .agg ps =>
    have := bulkL_le ps
    simp only [bulkD, Rows.uptoBulk]; omega
  | .iface t d => simp [bulkD, Rows.uptoBulk]
  | .map es => simp [bulkD, Rows.uptoBulk]
  | .held h => simp [bulkD, Rows.uptoBulk]
theorem bulkL_le {H : Type} (l : List (DataW H)) : bulkL l ≤ Rows.uptoBulkAll l := by
  match l with
  | [] => simp [bulkL, Rows.uptoBulkAll]
  | d :: l =>
    have h1 := bulk_le d
    have h2 := bulkL_le l
    simp only [bulkL, Rows.uptoBulkAll]; omega
end
theorem bulk_small {H : Type} {l : List (DataW H)} (hk : Rows.uptoSmall H l = true) : bulkL l ≤ 1048576 := by
  have h : Rows.uptoBulkAll l ≤ 1048576 := of_decide_eq_true hk
  have := bulkL_le l
  omega
end Go.Proofs.YtjdknnlhhenpnaaGreatDoor
namespace Go.Proofs.YtjdknnlhhenpnaaGreatDoor
open Go Go.Abs Go.Vir Go.ChangeShapes Go.WideShapes Go.ChangeAt Go.RowKit
set_option maxRecDepth 100000 in
theorem judgeCheck_contract (H : Type) (enc : TypeId × Value → H) (W : World) (base : Nat) (args : Array Value) (ds gs : List (DataW H)) (before : List MemPlace)
    (hval : ∀ (j : Nat) t v, Tryz.f3.params[j]? = some t → args[j]? = some v → Value.okWide Tryz.prog W .any base t v)
    (hW : DataW.Whole enc Tryz.prog Tryz.f3.params.toList Rows.judgeCheckSpec.vars false W args.toList ds gs before) (hk : Rows.uptoSmall H (ds ++ gs) = true) :
    Calls Tryz.prog 3 args W fun e W' => ∃ v, e = .returned v ∧ Rows.judgeCheckSpec.post enc Tryz.prog Tryz.f3 false true false false W args v W' := by
  have hW' := hW
  obtain ⟨p, q, hA0, hV, rfl, hfz, hnd⟩ := hW
  have hA : DataW.TrodAll enc Tryz.prog W 0 (fun _ => true) true Tryz.f3.params.toList args.toList ds p := hA0
  rw [Tryz.params3] at hA hval
  obtain ⟨v0, v1, v2, d0, d1, d2, p0, p1, p2, rfl, rfl, rfl, h0, h1, h2⟩ := trodAll_three hA
  obtain ⟨rfl, rfl⟩ := trodVars_none hV
  have hB := bulk_small hk
  simp only [List.append_nil, bulkL] at hB
  have hv0 : Value.okWide P W .any base 25 v0 := hval 0 25 v0 rfl rfl
  have hv1 : Value.okWide P W .any base 29 v1 := hval 1 29 v1 rfl rfl
  have hv2 : Value.okWide P W .any base 34 v2 := hval 2 34 v2 rfl rfl
  have B0 : bulkD d0 < 4611686018427387904 := by omega
  have B1 : bulkD d1 < 4611686018427387904 := by omega
  have B2 : bulkD d2 < 4611686018427387904 := by omega
  clear hval hB
  obtain ⟨x, us, a1, a2, a3⟩ := rd_arg ft25 rd_scheme hv0 h0 B0
  obtain ⟨y, us', b1, b2, b3⟩ := rd_arg ft29 rd_auto hv1 h1 B1
  obtain ⟨k, us'', c1, c2, c3⟩ := rd_arg ft34 rd_known hv2 h2 B2
  obtain ⟨sv, fv, rfl, s1, s2⟩ := a2
  obtain ⟨rv, mv, rfl, r1, r2⟩ := b2
  obtain ⟨pv, xv, bv, rfl, hkn⟩ := c2
  have hrun := judgeCheck_run s1 s2 y.2.1 r1 r2 hkn (small_of (x := x) (k := k) (by omega) (by omega)) ⟨[], []⟩
  refine (calls_law sound (f := 3) (vs := #[v0, v1, v2]) (W := W) hrun rfl ?_).mono ?_
  · intro i hi
    match i, hi with
    | 0, _ => exact a1
    | 1, _ => exact b1
    | 2, _ => exact c1
  · rintro e W' ⟨rfl, e1, e2, e3⟩
    refine ⟨_, rfl, law_post rfl rfl ub4 rfl hW' laidOut ?_ e1 e2 e3⟩
    intro t ht
    rw [Tryz.params3] at ht
    have hall : ([25, 29, 34].all fun t => Tryz.prog.readableRec t && decide (t < Tryz.prog.types.size)) = true := by kernel_rfl
    have := List.all_eq_true.1 hall t ht
    simpa using this
theorem judgeCheck_reads (os : Os) {H : Type} (enc : TypeId × Value → H) : ∃ places, DataW.whole enc Tryz.prog ((laidWorld os).forCall (fun _ _ => 0) ⟨#[], #[.agg #[.slice none 0 0, .slice none 0 0], .agg #[.slice none 0 0, .int .i64 0, .slice none 0 0], .agg #[.slice none 0 0, .slice none 0 0, .slice none 0 0]], []⟩).memory Tryz.f3.params.toList Rows.judgeCheckSpec.vars false
    [Value.agg #[.slice none 0 0, .slice none 0 0], .agg #[.slice none 0 0, .int .i64 0, .slice none 0 0], .agg #[.slice none 0 0, .slice none 0 0, .slice none 0 0]] 8 = some ([.agg [.nil, .nil], .agg [.nil, .lit (.int .i64 0), .nil], .agg [.nil, .nil, .nil]], [], places) :=
  ⟨[], by kernel_rfl⟩
theorem judgeCheck_met (os : Os) : laidMet Tryz.prog Rows.judgeCheckUptoRow.laid ((laidWorld os).forCall (fun _ _ => 0) ⟨#[], #[.agg #[.slice none 0 0, .slice none 0 0], .agg #[.slice none 0 0, .int .i64 0, .slice none 0 0], .agg #[.slice none 0 0, .slice none 0 0, .slice none 0 0]], []⟩).memory :=
  laidMet_of_run' 8 (by kernel_rfl) (by kernel_rfl)
set_option maxRecDepth 100000 in
theorem judgeCheck_lifted (os : Os) (started : os.Started) (H : Type) (enc : TypeId × Value → H) (F : Stop.Interp) :
    ReturnsInHanded {} Tryz.checked os 3 .any ((Rows.OpenSpec.upto Rows.judgeCheckSpec).preRow enc Tryz.prog Tryz.f3 Rows.judgeCheckUptoRow.domain false Rows.judgeCheckUptoRow.laid) (((Rows.OpenSpec.upto Rows.judgeCheckSpec).at F).post enc Tryz.prog Tryz.f3 false true false false) := by
  obtain ⟨places, hx⟩ := judgeCheck_reads os enc
  refine returnsInHanded_of_row (C := Tryz.checked) (s := Rows.OpenSpec.upto Rows.judgeCheckSpec) own started (by kernel_rfl) Tryz.func3
    (witness_row_at (enc := enc) (C := Tryz.checked) false (laidWorld os) #[.agg #[.slice none 0 0, .slice none 0 0], .agg #[.slice none 0 0, .int .i64 0, .slice none 0 0], .agg #[.slice none 0 0, .slice none 0 0, .slice none 0 0]] rfl (by kernel_rfl) (by kernel_rfl) (by kernel_rfl)
      (OpenSpec.preRow_of_cond 8 hx (by kernel_rfl) (fun k hk => by cases hk; kernel_rfl) (by kernel_rfl) (judgeCheck_met os))) ?_
  intro W base args ds gs before hval hW _ hcond _ hL _ _
  exact judgeCheck_contract H enc W base args ds gs before hval hW (hcond _ rfl)
theorem judgeCheck_said : Rows.JudgeCheckUptoSaid :=
  OpenClaim.holds_of_cond 3 Tryz.f3 rfl rfl rfl rfl rfl rfl rfl ⟨rfl, rfl, rfl, rfl, rfl⟩ rfl rfl rfl rfl rfl (by kernel_rfl) Tryz.func3 (by kernel_rfl)
    (of_decide_eq_true (by kernel_rfl)) (by unfold Func.isWrapper; first | (rw [if_pos (by decide +kernel)]; kernel_rfl) | (rw [if_neg (by decide +kernel)]; exact ⟨rfl, rfl⟩))
    (fun os started H enc _ F => by rw [OpenClaim.pre_eq_preRow]; exact judgeCheck_lifted os started H enc F)
theorem judgeCheck_plain (f : FuncId) (fn : Func) (hf : Tryz.pinned.checked.prog.funcNamed "virgation/virgationlaw14.JudgeCheck" = some f) (hfn : Tryz.pinned.checked.prog.funcs[f]? = some fn) :
    false = Tryz.pinned.checked.prog.looks [] ∧ ∀ (j : Nat) t, fn.params[j]? = some t → Tryz.pinned.checked.prog.wantsStandIn t = false := by
  obtain rfl : f = 3 := Option.some.inj ((show Tryz.prog.funcNamed "virgation/virgationlaw14.JudgeCheck" = some 3 by kernel_rfl).symm.trans hf) |>.symm
  obtain rfl : fn = Tryz.f3 := (Option.some.inj (Tryz.func3.symm.trans hfn)).symm
  refine ⟨by kernel_rfl, fun j t ht => ?_⟩
  rw [Tryz.params3] at ht
  have hm : t ∈ [25, 29, 34] := by simpa using Array.mem_of_getElem? ht
  have hall : ([25, 29, 34].all fun u => !Tryz.prog.wantsStandIn u) = true := by kernel_rfl
  exact (show Tryz.prog.wantsStandIn t = false by simpa using List.all_eq_true.1 hall t hm)
theorem judgeCheckUpto_holds : Rows.JudgeCheckUptoCardSaid :=
  Claim7.holds_tied_plain_at .later [] _ _ _ _ judgeCheck_said (fun _ h => by cases h) (by kernel_rfl) (fun _ h => by cases h) judgeCheckUpto_row_tie rfl ⟨rfl, rfl⟩ (by kernel_rfl) rfl judgeCheck_plain (by kernel_rfl)
#print axioms judgeCheckUpto_holds
end Go.Proofs.YtjdknnlhhenpnaaGreatDoor
