/- A part of the proof of one statement: an abstract machine for the model, proved sound; equations of the functions over it; what they reckon. -/
import Derived.Test.YtjdknnlhhenpnaaGreatDoorMachC
import Derived.Test.YtjdknnlhhenpnaaGreatDoorLawsA
import Derived.Test.YtjdknnlhhenpnaaGreatDoorEqsB
set_option linter.unusedVariables false
set_option linter.unusedSimpArgs false
namespace Go.Proofs.YtjdknnlhhenpnaaGreatDoor
open Go Go.Abs Go.Vir
theorem u9 : P.underlying 9 = some .string := by kernel_rfl
theorem name_L (s : ByteArray) (k i : Nat) (hk : i + k = s.size) (hs : s.size < 4611686018427387904) (S : St) :
    term_Name_L1 true S s (Int.ofNat s.size) i S = some (.bool (nameL s i k), S) := by
  induction k generalizing i with
  | zero =>
    refine term_Name_L1_of ?_
    unfold term_Name_L1_b
    rw [if_neg (by simp; omega), fin_self, nameL]
  | succ k ih =>
    refine term_Name_L1_of ?_
    unfold term_Name_L1_b
    rw [if_pos (by simp; omega), idxc (by omega)]
    simp only [Option.bind_some]
    have hJ : ∀ b : Bool, term_Name_J2 true S s (Int.ofNat s.size) i b S = some (.bool (!b && nameL s (i + 1) k), S) := by
      intro b
      refine term_Name_J2_of ?_
      unfold term_Name_J2_b
      cases b with
      | true => rw [if_pos rfl, fin_self]; rfl
      | false =>
        rw [if_neg (by decide), wrap_in (by omega)]
        exact ih (i + 1) (by omega)
    simp only [hJ]
    rw [nameL, badc]
    generalize byteAt s i = c
    by_cases h1 : c < 97
    · by_cases h2 : c < 48
      · simp [h1, h2]
      · by_cases h3 : c > 57
        · simp [h1, h2, h3]
        · simp [h1, h2, h3]
    · by_cases h4 : c > 122
      · by_cases h2 : c < 48
        · simp [h1, h2, h4]
        · by_cases h3 : c > 57
          · simp [h1, h2, h3, h4]
          · simp [h1, h2, h3, h4]
      · simp [h1, h4]
theorem name_run (s : ByteArray) (S : St) : R true n_term_Name [.str s] S = some (.bool (nameE s), S) := by
  refine term_Name_of ?_
  unfold term_Name_b
  have hJ : ∀ b : Bool, (b = false → s.size ≤ 24) → term_Name_J1 true S s b S = some (.bool (!b && nameL s 0 s.size), S) := by
    intro b hb
    refine term_Name_J1_of ?_
    unfold term_Name_J1_b
    cases b with
    | true => rw [if_pos rfl, fin_self]; rfl
    | false =>
      rw [if_neg (by decide)]
      exact name_L s s.size 0 (by omega) (by have := hb rfl; omega) S
  rw [nameE]
  by_cases h1 : s.size = 0
  · rw [if_pos (by simp [h1]), hJ true (fun h => by cases h)]
    simp [h1]
  · rw [if_neg (by simpa using h1)]
    by_cases h2 : s.size > 24
    · rw [if_pos (by simp; omega), hJ true (fun h => by cases h)]
      simp; omega
    · rw [if_neg (by simp; omega), idxc0 (by omega)]
      simp only [Option.bind_some]
      have e1 : decide ((s.size : Int) < 1) = false := by simp; omega
      have e2 : decide ((s.size : Int) > 24) = false := by simp; omega
      by_cases h3 : byteAt s 0 < 97
      · rw [if_pos (decide_eq_true h3), hJ true (fun h => by cases h)]
        simp [h3]
      · rw [if_neg (show ¬ decide (byteAt s 0 < 97) = true from by simpa using h3), hJ _ (fun _ => by omega), e1, e2, decide_eq_false h3]
        simp
theorem name'_L (s : ByteArray) (k i : Nat) (hk : i + k = s.size) (hs : s.size < 4611686018427387904) (S : St) :
    vref02_Name_L1 true S s i S = some (.bool (nameL s i k), S) := by
  induction k generalizing i with
  | zero =>
    refine vref02_Name_L1_of ?_
    unfold vref02_Name_L1_b
    rw [if_neg (by simp; omega), fin_self, nameL]
  | succ k ih =>
    refine vref02_Name_L1_of ?_
    unfold vref02_Name_L1_b
    rw [if_pos (by simp; omega), idxc (by omega)]
    simp only [Option.bind_some]
    have hJ : ∀ b : Bool, vref02_Name_J2 true S s i b S = some (.bool (!b && nameL s (i + 1) k), S) := by
      intro b
      refine vref02_Name_J2_of ?_
      unfold vref02_Name_J2_b
      cases b with
      | true => rw [if_pos rfl, fin_self]; rfl
      | false =>
        rw [if_neg (by decide), wrap_in (by omega)]
        exact ih (i + 1) (by omega)
    simp only [hJ]
    rw [nameL, badc]
    generalize byteAt s i = c
    by_cases h1 : c < 97
    · by_cases h2 : c < 48
      · simp [h1, h2]
      · by_cases h3 : c > 57
        · simp [h1, h2, h3]
        · simp [h1, h2, h3]
    · by_cases h4 : c > 122
      · by_cases h2 : c < 48
        · simp [h1, h2, h4]
        · by_cases h3 : c > 57
          · simp [h1, h2, h3, h4]
          · simp [h1, h2, h3, h4]
      · simp [h1, h4]
theorem name'_run (s : ByteArray) (S : St) : R true n_vref02_Name [.str s] S = some (.bool (nameE s), S) := by
  refine vref02_Name_of ?_
  unfold vref02_Name_b
  have hJ : ∀ b : Bool, (b = false → s.size ≤ 24) → vref02_Name_J1 true S s b S = some (.bool (!b && nameL s 0 s.size), S) := by
    intro b hb
    refine vref02_Name_J1_of ?_
    unfold vref02_Name_J1_b
    cases b with
    | true => rw [if_pos rfl, fin_self]; rfl
    | false =>
      rw [if_neg (by decide)]
      exact name'_L s s.size 0 (by omega) (by have := hb rfl; omega) S
  rw [nameE]
  by_cases h1 : s.size = 0
  · rw [if_pos (by simp [h1]), hJ true (fun h => by cases h)]
    simp [h1]
  · rw [if_neg (by simp; omega)]
    by_cases h2 : s.size > 24
    · rw [if_pos (by simp; omega), hJ true (fun h => by cases h)]
      simp; omega
    · rw [if_neg (by simp; omega), idxc0 (by omega)]
      simp only [Option.bind_some]
      have e1 : decide ((s.size : Int) < 1) = false := by simp; omega
      have e2 : decide ((s.size : Int) > 24) = false := by simp; omega
      by_cases h3 : byteAt s 0 < 97
      · rw [if_pos (decide_eq_true h3), hJ true (fun h => by cases h)]
        simp [h3]
      · rw [if_neg (show ¬ decide (byteAt s 0 < 97) = true from by simpa using h3), hJ _ (fun _ => by omega), e1, e2, decide_eq_false h3]
        simp
theorem hasN_eq (seen : List ByteArray) (s : ByteArray) : (seen.any fun x => decide (s = x)) = hasN seen s := rfl
theorem symsL_run (l : List Sym) (l0 : List Sym) {es es' : List PV} {v : PV} (h1 : Sl 2 es v) (h0 : SymL l0 es) (h2 : SymL l es') (pre : List PV) (he : es = pre ++ es') (seen : List ByteArray) (S : St) :
    term_Symbols_L1 true S v S.objs.length es.length pre.length (S.withMap (nameEs seen)) = some (.bool (symP seen l && decide ((l0.length : Int) ≤ 24)), S) := by
  induction l generalizing es' pre seen with
  | nil =>
    refine term_Symbols_L1_of ?_
    unfold term_Symbols_L1_b
    unfold SymL at h2
    subst h2
    rw [show decide ((pre.length : Int) < (es.length : Int)) = false from by subst he; exact lt_done pre, if_neg (by decide), h1.len, h0.len]
    simp only [Option.bind_some]
    rw [fin_map _ rfl, symP, Bool.true_and]
  | cons x l ih =>
    refine term_Symbols_L1_of ?_
    unfold term_Symbols_L1_b
    have hm := h1.max
    unfold SymL at h2
    obtain ⟨e, es', rfl, h3, h4⟩ := h2
    rw [show decide ((pre.length : Int) < (es.length : Int)) = true from by subst he; exact lt_more pre e es', if_pos rfl, h1.elt he, okCells_agg _ (PV.proj_length e 2), h3]
    simp only [Option.bind_some, c0, c1]
    rw [name_run]
    simp only [Option.bind_some, Abs.asBool]
    have hJ : ∀ b : Bool, (b = false → hasN seen x.1 = false) → term_Symbols_J1 true S v S.objs.length (.str x.1) (.int .i64 x.2) es.length pre.length b (S.withMap (nameEs seen)) =
        some (.bool (!b && (symP (seen ++ [x.1]) l && decide ((l0.length : Int) ≤ 24))), S) := by
      intro b hb
      refine term_Symbols_J1_of ?_
      unfold term_Symbols_J1_b
      cases b with
      | true => rw [if_pos rfl, fin_map _ rfl]; rfl
      | false =>
        rw [if_neg (by decide), upName u9 S x.1 seen (hb rfl)]
        simp only [Option.bind_some]
        rw [idx_next pre e es' (by rw [← he]; exact hm)]
        exact ih h4 (pre ++ [e]) (by simp [he]) (seen ++ [x.1])
    rw [symP]
    cases nameE x.1 with
    | false => rw [if_pos (by decide), hJ true (fun h => by cases h)]; rfl
    | true =>
      rw [if_neg (by decide), mapEs_with]
      simp only [Option.bind_some]
      rw [findName u9, hasN_eq]
      simp only [Option.bind_some]
      cases hh : hasN seen x.1 with
      | true =>
        rw [if_pos rfl]
        simp only [Option.getD_some, Abs.asBool, Option.bind_some]
        rw [if_pos trivial, hJ true (fun h => by cases h)]; rfl
      | false =>
        rw [if_neg (by decide)]
        simp only [Option.getD_none, Abs.asBool, Option.bind_some]
        rw [if_neg (by decide)]
        rw [lss_i64, gtr_i64]
        simp only [Option.bind_some]
        by_cases h5 : x.2 < 0
        · rw [if_pos (decide_eq_true h5), hJ true (fun h => by cases h)]; simp [h5]
        · rw [if_neg (show ¬ decide (x.2 < 0) = true from by simpa using h5), hJ _ (fun _ => hh)]; simp [h5, Bool.and_assoc]
theorem syms_run (l : List Sym) {v : PV} (h : SymV l v) (S : St) : R true n_term_Symbols [v] S = some (.bool (symsE l), S) := by
  obtain ⟨es, h1, h2⟩ := h
  refine term_Symbols_of ?_
  unfold term_Symbols_b
  rw [h1.len]
  simp only [Option.bind_some]
  exact symsL_run l l h1 h2 h2 [] rfl [] S
theorem slc_pre {sz : Nat} {es pre suf : List PV} {v : PV} (h : Sl sz es v) (he : es = pre ++ suf) : ∃ u, slc sz v none (some (pre.length : Int)) none = some (u, none) ∧ Sl sz pre u := by
  rcases h with ⟨rfl, rfl⟩ | ⟨a, rfl, hl⟩
  · have hp : pre = [] := by
      have := congrArg List.length he
      simp at this
      exact List.eq_nil_of_length_eq_zero (by omega)
    subst hp
    exact ⟨.snil, rfl, .inl ⟨rfl, rfl⟩⟩
  · subst he
    refine ⟨.sl a sz pre, ?_, .inr ⟨a, rfl, by simp at hl ⊢; omega⟩⟩
    have e1 : decide ((0 : Int) ≤ pre.length) = true := by simp
    have e2 : decide ((pre.length : Int) ≤ ((pre ++ suf).length : Int)) = true := by simp; omega
    simp [slc, chk, e2]
    omega
theorem slc_suf {sz : Nat} {es pre suf : List PV} {v : PV} (h : Sl sz es v) (he : es = pre ++ suf) : ∃ u, slc sz v (some (pre.length : Int)) none none = some (u, none) ∧ Sl sz suf u := by
  rcases h with ⟨rfl, rfl⟩ | ⟨a, rfl, hl⟩
  · have hp : pre = [] ∧ suf = [] := by
      have := congrArg List.length he
      simp at this
      exact ⟨List.eq_nil_of_length_eq_zero (by omega), List.eq_nil_of_length_eq_zero (by omega)⟩
    obtain ⟨rfl, rfl⟩ := hp
    exact ⟨.snil, rfl, .inl ⟨rfl, rfl⟩⟩
  · subst he
    refine ⟨.sl none sz suf, ?_, .inr ⟨none, rfl, by simp at hl ⊢; omega⟩⟩
    have e2 : decide ((pre.length : Int) ≤ ((pre ++ suf).length : Int)) = true := by simp; omega
    simp [slc, chk, e2]
    exact ⟨by omega, List.take_of_length_le (by omega)⟩
theorem symQ_run (x : ByteArray) (k0 : PV) (l : List Sym) {es es' : List PV} {y13 : PV} (h1 : Sl 2 es y13) (h2 : SymL l es') (ipre : List PV) (he : es = ipre ++ es') (v : PV) (y11 y12 : Int) (k : Option Tk) (S : St) {K : Bool}
    (hK : vref02_Symbols_L1 true S v y11 (IntKind.wrap .i64 (y12 + 1)) S = some (.bool K, S)) :
    vref02_Symbols_L2 true S v (.str x) k0 y11 y12 y13 k es.length ipre.length S = some (.bool (!hasN (l.map (·.1)) x && K), S) := by
  induction l generalizing es' ipre with
  | nil =>
    refine vref02_Symbols_L2_of ?_
    unfold vref02_Symbols_L2_b
    unfold SymL at h2
    subst h2
    rw [show decide ((ipre.length : Int) < (es.length : Int)) = false from by subst he; exact lt_done ipre, if_neg (by decide), hK]
    rfl
  | cons y l ih =>
    refine vref02_Symbols_L2_of ?_
    unfold vref02_Symbols_L2_b
    have hm := h1.max
    unfold SymL at h2
    obtain ⟨e, es', rfl, h3, h4⟩ := h2
    rw [show decide ((ipre.length : Int) < (es.length : Int)) = true from by subst he; exact lt_more ipre e es', if_pos rfl, h1.elt he, okCells_agg _ (PV.proj_length e 2), h3]
    simp only [Option.bind_some, c0]
    rw [eql_str]
    simp only [Option.bind_some]
    rw [List.map_cons, hasN, List.any_cons]
    by_cases c : x = y.1
    · rw [if_pos (decide_eq_true c), fin_self, decide_eq_true c]; rfl
    · rw [if_neg (show ¬ decide (x = y.1) = true from by simpa using c), decide_eq_false c, Bool.false_or, idx_next ipre e es' (by rw [← he]; exact hm)]
      exact ih h4 (ipre ++ [e]) (by simp [he])
theorem _root_.Go.Vir.SymL.append : ∀ {l : List Sym} {es : List PV} {l' : List Sym} {es' : List PV}, SymL l es → SymL l' es' → SymL (l ++ l') (es ++ es')
  | [], _, _, _, h, h' => by unfold SymL at h; subst h; exact h'
  | x :: l, _, _, _, h, h' => by
    unfold SymL at h
    obtain ⟨e, es', rfl, h3, h4⟩ := h
    exact ⟨e, _, rfl, h3, h4.append h'⟩
theorem syms'L_run (l lp : List Sym) {es es' : List PV} {v : PV} (h1 : Sl 2 es v) (h2 : SymL l es') (pre : List PV) (hp : SymL lp pre) (he : es = pre ++ es') (S : St) :
    vref02_Symbols_L1 true S v es.length pre.length S = some (.bool (symP (lp.map (·.1)) l), S) := by
  induction l generalizing es' pre lp with
  | nil =>
    refine vref02_Symbols_L1_of ?_
    unfold vref02_Symbols_L1_b
    unfold SymL at h2
    subst h2
    rw [show decide ((pre.length : Int) < (es.length : Int)) = false from by subst he; exact lt_done pre, if_neg (by decide), fin_self, symP]
  | cons x l ih =>
    refine vref02_Symbols_L1_of ?_
    unfold vref02_Symbols_L1_b
    have hm := h1.max
    unfold SymL at h2
    obtain ⟨e, es', rfl, h3, h4⟩ := h2
    rw [show decide ((pre.length : Int) < (es.length : Int)) = true from by subst he; exact lt_more pre e es', if_pos rfl, h1.elt he, okCells_agg _ (PV.proj_length e 2), h3]
    simp only [Option.bind_some, c0, c1]
    rw [name'_run]
    simp only [Option.bind_some, Abs.asBool]
    have hJ : ∀ b : Bool, vref02_Symbols_J1 true S v pre.length (.str x.1) (.int .i64 x.2) es.length b S = some (.bool (!b && (!hasN (lp.map (·.1)) x.1 && symP (lp.map (·.1) ++ [x.1]) l)), S) := by
      intro b
      refine vref02_Symbols_J1_of ?_
      unfold vref02_Symbols_J1_b
      cases b with
      | true => rw [if_pos rfl, fin_self]; rfl
      | false =>
        obtain ⟨u, hu, hs⟩ := slc_pre h1 he
        rw [if_neg (by decide), hu]
        simp only [Option.bind_some]
        rw [hs.len]
        simp only [Option.bind_some]
        have hn : vref02_Symbols_L1 true S v es.length (IntKind.wrap .i64 ((pre.length : Int) + 1)) S = some (.bool (symP (lp.map (·.1) ++ [x.1]) l), S) := by
          rw [idx_next pre e es' (by rw [← he]; exact hm)]
          have := ih (lp ++ [x]) h4 (pre ++ [e]) (hp.append ⟨e, [], rfl, h3, rfl⟩) (by simp [he])
          simpa using this
        exact symQ_run x.1 (.int .i64 x.2) lp hs hp [] rfl v es.length pre.length none S hn
    rw [symP]
    cases nameE x.1 with
    | false => rw [if_pos (by decide), hJ true]; rfl
    | true =>
      rw [if_neg (by decide), lss_i64, gtr_i64]
      simp only [Option.bind_some]
      by_cases h5 : x.2 < 0
      · rw [if_pos (decide_eq_true h5), hJ true]; simp [h5]
      · rw [if_neg (show ¬ decide (x.2 < 0) = true from by simpa using h5), hJ]
        cases hasN (lp.map (·.1)) x.1 <;> simp [h5]
theorem syms'_run (l : List Sym) {v : PV} (h : SymV l v) (S : St) : R true n_vref02_Symbols [v] S = some (.bool (symsE l), S) := by
  obtain ⟨es, h1, h2⟩ := h
  refine vref02_Symbols_of ?_
  unfold vref02_Symbols_b
  rw [h1.len]
  simp only [Option.bind_some]
  rw [symsE, h2.len]
  by_cases c : (l.length : Int) > 24
  · rw [if_pos (decide_eq_true c), fin_self, decide_eq_false (by omega), Bool.and_false]
  · rw [if_neg (show ¬ decide ((l.length : Int) > 24) = true from by simpa using c), decide_eq_true (by omega), Bool.and_true, ← h2.len]
    exact syms'L_run l [] h1 h2 [] rfl rfl S
end Go.Proofs.YtjdknnlhhenpnaaGreatDoor
namespace Go.Vir
open Go Go.Abs
theorem SrtL.split : ∀ {l : List Srt} {es : List PV} (n : Nat), SrtL l es → n < l.length → ∃ pre e suf s, es = pre ++ e :: suf ∧ pre.length = n ∧ l[n]? = some s ∧ SrtV s (e.cell 0)
  | [], _, n, _, hn => by simp at hn
  | a :: l, _, 0, h, _ => by
    unfold SrtL at h
    obtain ⟨e, es', rfl, h1, h2⟩ := h
    exact ⟨[], e, es', a, rfl, rfl, rfl, h1⟩
  | a :: l, _, n + 1, h, hn => by
    unfold SrtL at h
    obtain ⟨e, es', rfl, h1, h2⟩ := h
    obtain ⟨pre, e', suf, s, rfl, hp, hs, hv⟩ := h2.split n (by simpa using hn)
    exact ⟨e :: pre, e', suf, s, rfl, by simp [hp], by simpa using hs, hv⟩
theorem SymL.split : ∀ {l : List Sym} {es : List PV} (n : Nat), SymL l es → n < l.length → ∃ pre e suf x, es = pre ++ e :: suf ∧ pre.length = n ∧ l[n]? = some x ∧ e.proj 2 = [.str x.1, .int .i64 x.2]
  | [], _, n, _, hn => by simp at hn
  | a :: l, _, 0, h, _ => by
    unfold SymL at h
    obtain ⟨e, es', rfl, h1, h2⟩ := h
    exact ⟨[], e, es', a, rfl, rfl, rfl, h1⟩
  | a :: l, _, n + 1, h, hn => by
    unfold SymL at h
    obtain ⟨e, es', rfl, h1, h2⟩ := h
    obtain ⟨pre, e', suf, s, rfl, hp, hs, hv⟩ := h2.split n (by simpa using hn)
    exact ⟨e :: pre, e', suf, s, rfl, by simp [hp], by simpa using hs, hv⟩
theorem srtV_mk {l : List Srt} {v : PV} (h : SrtV (.mk l) v) : ∃ es, Sl 1 es v ∧ SrtL l es := by unfold SrtV at h; exact h
theorem srtV_of {l : List Srt} {v : PV} {es : List PV} (h1 : Sl 1 es v) (h2 : SrtL l es) : SrtV (.mk l) v := by unfold SrtV; exact ⟨es, h1, h2⟩
theorem srtV_zero : SrtV (.mk []) .snil := srtV_of (.inl ⟨rfl, rfl⟩) (by unfold SrtL; rfl)
theorem srtL_zeros (n : Nat) : SrtL (List.replicate n (.mk [])) (List.replicate n (.agg [.snil])) := by
  induction n with
  | zero => unfold SrtL; rfl
  | succ n ih =>
    rw [List.replicate_succ, List.replicate_succ]
    unfold SrtL
    exact ⟨_, _, rfl, srtV_zero, ih⟩
theorem srtV_ok {s : Srt} {v : PV} (h : SrtV s v) : chk (v.okCells 1) = some () := by
  cases s
  obtain ⟨es, h1, _⟩ := srtV_mk h
  exact h1.ok1
theorem srtV_c0 {s : Srt} {v : PV} (h : SrtV s v) : v.cell 0 = v := by
  cases s
  obtain ⟨es, h1, _⟩ := srtV_mk h
  exact h1.cell0
end Go.Vir
namespace Go.Proofs.YtjdknnlhhenpnaaGreatDoor
open Go Go.Abs Go.Vir
mutual
theorem tnodes2_run (t : Trm) {v : PV} (h : TrmV t v) (most : Int) (S : St) : R true n_vref02_Nodes [.agg [.int .i64 t.k, .int .i64 t.i, v], .int .i64 most] S = some (.int .i64 (t.sh.nodes most), S) := by
  match t, h with
  | .mk k n l, h =>
    unfold TrmV at h
    obtain ⟨es, h1, h2⟩ := h
    refine vref02_Nodes_of ?_
    unfold vref02_Nodes_b
    rw [Trm.sh, Srt.nodes]
    exact tnodes2L_run l h1 h2 [] rfl k n most 1 S
theorem tnodes2L_run (l : List Trm) {es es' : List PV} {v : PV} (h1 : Sl 3 es v) (h2 : TrmL l es') (pre : List PV) (he : es = pre ++ es') (k1 n1 most n : Int) (S : St) :
    vref02_Nodes_L1 true S most k1 n1 v n pre.length S = some (.int .i64 (Srt.nodesL (Trm.shL l) most n), S) := by
  match l, h2 with
  | [], h2 =>
    unfold TrmL at h2
    subst h2
    refine vref02_Nodes_L1_of ?_
    unfold vref02_Nodes_L1_b
    subst he
    rw [h1.len]
    simp only [Option.bind_some]
    rw [lt_done, if_neg (by decide)]
    refine vref02_Nodes_J1_of ?_
    unfold vref02_Nodes_J1_b
    rw [if_neg (by decide), fin_self]
    rfl
  | a :: l, h2 =>
    unfold TrmL at h2
    obtain ⟨e, es', rfl, ⟨u, h3, h3'⟩, h4⟩ := h2
    refine vref02_Nodes_L1_of ?_
    unfold vref02_Nodes_L1_b
    have hm := h1.max
    subst he
    rw [h1.len]
    simp only [Option.bind_some]
    rw [lt_more, if_pos rfl]
    refine vref02_Nodes_J1_of ?_
    unfold vref02_Nodes_J1_b
    rw [Trm.shL, Srt.nodesL]
    by_cases hc : n ≤ most
    · rw [if_pos (decide_eq_true hc), if_pos hc, h1.elt rfl, h3, tnodes2_run a h3' _ S]
      simp only [Option.bind_some, intOf, if_true]
      rw [idx_next pre e es' hm]
      exact tnodes2L_run l h1 h4 (pre ++ [e]) (by simp) _ _ _ _ S
    · rw [if_neg (by simpa using hc), if_neg hc, fin_self]
end
mutual
theorem tdepth_run (t : Trm) {v : PV} (h : TrmV t v) (S : St) : R true n_vref02_Depth [.agg [.int .i64 t.k, .int .i64 t.i, v]] S = some (.int .i64 t.sh.depth, S) := by
  match t, h with
  | .mk k n l, h =>
    unfold TrmV at h
    obtain ⟨es, h1, h2⟩ := h
    refine vref02_Depth_of ?_
    unfold vref02_Depth_b
    rw [h1.len]
    simp only [Option.bind_some]
    rw [Trm.sh, Srt.depth]
    exact tdepthL_run l h1 h2 [] rfl 0 S
theorem tdepthL_run (l : List Trm) {es es' : List PV} {v : PV} (h1 : Sl 3 es v) (h2 : TrmL l es') (pre : List PV) (he : es = pre ++ es') (d : Int) (S : St) :
    vref02_Depth_L1 true S v es.length d pre.length S = some (.int .i64 (IntKind.wrap .i64 (Srt.depthL (Trm.shL l) d + 1)), S) := by
  match l, h2 with
  | [], h2 =>
    unfold TrmL at h2
    subst h2
    refine vref02_Depth_L1_of ?_
    unfold vref02_Depth_L1_b
    subst he
    rw [lt_done, if_neg (by decide), fin_self]
    rfl
  | a :: l, h2 =>
    unfold TrmL at h2
    obtain ⟨e, es', rfl, ⟨u, h3, h3'⟩, h4⟩ := h2
    refine vref02_Depth_L1_of ?_
    unfold vref02_Depth_L1_b
    have hm := h1.max
    subst he
    rw [lt_more, if_pos rfl, h1.elt rfl, okCells_agg _ (PV.proj_length e 3), h3]
    simp only [Option.bind_some, c0, c1, c2]
    rw [tdepth_run a h3' S]
    simp only [Option.bind_some, intOf, if_true]
    rw [idx_next pre e es' hm]
    exact tdepthL_run l h1 h4 (pre ++ [e]) (by simp) _ S
end
mutual
theorem tmeas_run (t : Trm) {v : PV} (h : TrmV t v) {S : St} {id : Nat} {k : Int} (hc : Cnt S id k) : R true n_term_measure [.agg [.int .i64 t.k, .int .i64 t.i, v], .ref id 0] S = some (.int .i64 (t.sh.measure k).1, S.put id (t.sh.measure k).2) := by
  match t, h with
  | .mk tk tn l, h =>
    unfold TrmV at h
    obtain ⟨es, h1, h2⟩ := h
    refine term_measure_of ?_
    unfold term_measure_b
    simp only [nilV, Option.bind_some]
    rw [hc.ld]
    simp only [Option.bind_some]
    rw [hc.sto]
    simp only [Option.bind_some]
    rw [h1.len]
    simp only [Option.bind_some]
    rw [Trm.sh, Srt.measure]
    exact tmeasL_run l h1 h2 [] rfl 0 hc _ _
theorem tmeasL_run (l : List Trm) {es es' : List PV} {v : PV} (h1 : Sl 3 es v) (h2 : TrmL l es') (pre : List PV) (he : es = pre ++ es') (d : Int) {S : St} {id : Nat} {k0 : Int} (hc : Cnt S id k0) (k : Int) (ts : Toks) :
    term_measure_L1 true S (.ref id 0) v es.length d pre.length ts (S.put id k) = some (.int .i64 (Srt.measureL (Trm.shL l) k d).1, S.put id (Srt.measureL (Trm.shL l) k d).2) := by
  match l, h2 with
  | [], h2 =>
    unfold TrmL at h2
    subst h2
    refine term_measure_L1_of ?_
    unfold term_measure_L1_b
    subst he
    rw [lt_done, if_neg (by decide), fin_put]
    rfl
  | a :: l, h2 =>
    unfold TrmL at h2
    obtain ⟨e, es', rfl, ⟨u, h3, h3'⟩, h4⟩ := h2
    refine term_measure_L1_of ?_
    unfold term_measure_L1_b
    have hm := h1.max
    subst he
    rw [lt_more, if_pos rfl, h1.elt rfl, okCells_agg _ (PV.proj_length e 3), h3]
    simp only [Option.bind_some, nilV, c0, c1, c2]
    rw [(hc.put k).ld]
    simp only [Option.bind_some]
    rw [Trm.shL, Srt.measureL]
    by_cases hk : k < 0
    · rw [if_pos (decide_eq_true hk), if_pos hk, fin_put]
    · rw [if_neg (by simpa using hk), if_neg hk, tmeas_run a h3' (hc.put k), St.put_put]
      simp only [Option.bind_some, intOf, if_true]
      rw [idx_next pre e es' hm]
      exact tmeasL_run l h1 h4 (pre ++ [e]) (by simp) _ hc _ _
end
theorem tsize2_run (t : Trm) {v : PV} (h : TrmV t v) (S : St) : R true n_term_Size [.agg [.int .i64 t.k, .int .i64 t.i, v]] S = some (.tup [.int .i64 t.size.1, .int .i64 t.size.2], S) := by
  refine term_Size_of ?_
  unfold term_Size_b
  have hc := Cnt.new S 0
  rw [hc.sto]
  simp only [Option.bind_some]
  rw [tmeas_run t h (hc.put 100000), St.put_put]
  simp only [Option.bind_some, intOf, if_true]
  rw [(hc.put _).ld]
  simp only [Option.bind_some]
  rw [Trm.size]
  have hf : ∀ r : PV, r.pure = true → fin true S r ((S.new [(.int .i64 0, none)]).put S.objs.length (t.sh.measure 100000).2) = (r, S) := fun r hr => fin_new (ts := []) (St.new_put S _ _) (by simp [St.put, St.new]) hr
  by_cases hk : (t.sh.measure 100000).2 < 0
  · rw [if_pos (decide_eq_true hk), if_pos hk, hf _ rfl]
  · rw [if_neg (by simpa using hk), if_neg hk, hf _ rfl]
mutual
theorem same_run (a b : Srt) {v w : PV} (h : SrtV a v) (h' : SrtV b w) (S : St) : R true n_sorts_same [.agg [v], .agg [w]] S = some (.bool (a.eq b), S) := by
  match a, b, h, h' with
  | .mk l, .mk m, h, h' =>
    obtain ⟨es, h1, h2⟩ := srtV_mk h
    obtain ⟨fs, g1, g2⟩ := srtV_mk h'
    refine sorts_same_of ?_
    unfold sorts_same_b
    rw [h1.len, g1.len]
    simp only [Option.bind_some]
    rw [Srt.eq]
    by_cases c : l.length = m.length
    · rw [if_neg (by rw [h2.len, g2.len, c]; simp), if_neg (show ¬ (l.length ≠ m.length) from by simpa using c)]
      exact sameL_run l m c h1 h2 [] rfl g1 g2 [] rfl rfl S
    · rw [if_pos (by rw [h2.len, g2.len]; simp; omega), if_pos c, fin_self]
theorem sameL_run (l m : List Srt) (hlm : l.length = m.length) {es es' : List PV} {v : PV} (h1 : Sl 1 es v) (h2 : SrtL l es') (pre : List PV) (he : es = pre ++ es') {fs fs' : List PV} {w : PV} (g1 : Sl 1 fs w) (g2 : SrtL m fs') (qre : List PV) (hf : fs = qre ++ fs') (hq : pre.length = qre.length) (S : St) :
    sorts_same_L1 true S v w es.length pre.length S = some (.bool (Srt.eqL l m), S) := by
  match l, m, hlm, h2, g2 with
  | [], [], _, h2, g2 =>
    unfold SrtL at h2
    subst h2
    refine sorts_same_L1_of ?_
    unfold sorts_same_L1_b
    subst he
    rw [lt_done, if_neg (by decide), fin_self]
    rfl
  | a :: l, b :: m, hlm, h2, g2 =>
    unfold SrtL at h2 g2
    obtain ⟨e, es', rfl, h3, h4⟩ := h2
    obtain ⟨f, fs', rfl, g3, g4⟩ := g2
    refine sorts_same_L1_of ?_
    unfold sorts_same_L1_b
    have hm := h1.max
    rw [show decide ((pre.length : Int) < (es.length : Int)) = true from by subst he; exact lt_more pre e es', if_pos rfl, h1.elt he]
    rw [hq, g1.elt hf]
    rw [show e.proj 1 = [e.cell 0] from rfl, show f.proj 1 = [f.cell 0] from rfl, same_run a b h3 g3 S]
    simp only [Option.bind_some, Abs.asBool]
    rw [Srt.eqL]
    cases a.eq b with
    | false => rw [if_pos (by decide), fin_self]; rfl
    | true =>
      rw [if_neg (by decide), if_pos rfl, ← hq, idx_next pre e es' (by rw [← he]; exact hm)]
      exact sameL_run l m (by simpa using hlm) h1 h4 (pre ++ [e]) (by simp [he]) g1 g4 (qre ++ [f]) (by simp [hf]) (by simp [hq]) S
end
mutual
theorem equal_run (a b : Srt) {v w : PV} (h : SrtV a v) (h' : SrtV b w) (S : St) : R true n_vref01_Equal [.agg [v], .agg [w]] S = some (.bool (a.eq b), S) := by
  match a, b, h, h' with
  | .mk l, .mk m, h, h' =>
    obtain ⟨es, h1, h2⟩ := srtV_mk h
    obtain ⟨fs, g1, g2⟩ := srtV_mk h'
    refine vref01_Equal_of ?_
    unfold vref01_Equal_b
    rw [h1.len, g1.len]
    simp only [Option.bind_some]
    rw [Srt.eq]
    by_cases c : l.length = m.length
    · rw [if_neg (by rw [h2.len, g2.len, c]; simp), if_neg (show ¬ (l.length ≠ m.length) from by simpa using c)]
      exact equalL_run l m c h1 h2 [] rfl g1 g2 [] rfl rfl S
    · rw [if_pos (by rw [h2.len, g2.len]; simp; omega), if_pos c, fin_self]
theorem equalL_run (l m : List Srt) (hlm : l.length = m.length) {es es' : List PV} {v : PV} (h1 : Sl 1 es v) (h2 : SrtL l es') (pre : List PV) (he : es = pre ++ es') {fs fs' : List PV} {w : PV} (g1 : Sl 1 fs w) (g2 : SrtL m fs') (qre : List PV) (hf : fs = qre ++ fs') (hq : pre.length = qre.length) (S : St) :
    vref01_Equal_L1 true S v w es.length pre.length S = some (.bool (Srt.eqL l m), S) := by
  match l, m, hlm, h2, g2 with
  | [], [], _, h2, g2 =>
    unfold SrtL at h2
    subst h2
    refine vref01_Equal_L1_of ?_
    unfold vref01_Equal_L1_b
    subst he
    rw [lt_done, if_neg (by decide), fin_self]
    rfl
  | a :: l, b :: m, hlm, h2, g2 =>
    unfold SrtL at h2 g2
    obtain ⟨e, es', rfl, h3, h4⟩ := h2
    obtain ⟨f, fs', rfl, g3, g4⟩ := g2
    refine vref01_Equal_L1_of ?_
    unfold vref01_Equal_L1_b
    have hm := h1.max
    rw [show decide ((pre.length : Int) < (es.length : Int)) = true from by subst he; exact lt_more pre e es', if_pos rfl, h1.elt he]
    rw [hq, g1.elt hf]
    rw [show e.proj 1 = [e.cell 0] from rfl, show f.proj 1 = [f.cell 0] from rfl, equal_run a b h3 g3 S]
    simp only [Option.bind_some, Abs.asBool]
    rw [Srt.eqL]
    cases a.eq b with
    | false => rw [if_pos (by decide), fin_self]; rfl
    | true =>
      rw [if_neg (by decide), if_pos rfl, ← hq, idx_next pre e es' (by rw [← he]; exact hm)]
      exact equalL_run l m (by simpa using hlm) h1 h4 (pre ++ [e]) (by simp [he]) g1 g4 (qre ++ [f]) (by simp [hf]) (by simp [hq]) S
end
theorem sameS_run (a b : Srt) {v w : PV} (h : SrtV a v) (h' : SrtV b w) (S : St) : R true n_sorts_Same [.agg [v], .agg [w]] S = some (.bool (a.same b), S) := by
  refine sorts_Same_of ?_
  unfold sorts_Same_b
  rw [size_run a h]
  simp only [Option.bind_some, chkT0, chkT1, getT0, getT1, intOf, if_true]
  rw [size_run b h']
  simp only [Option.bind_some, chkT0, chkT1, getT0, getT1, intOf, if_true]
  rw [Srt.same]
  by_cases c1 : a.size.1 ≤ 60
  · rw [if_pos (decide_eq_true c1), decide_eq_true c1, Bool.true_and]
    by_cases c2 : a.size.1 = b.size.1
    · rw [if_pos (by simpa using c2), same_run a b h h']
      simp only [Option.bind_some, Abs.asBool]
      rw [fin_self, decide_eq_true c2, Bool.true_and]
    · rw [if_neg (by simpa using c2), fin_self, decide_eq_false c2, Bool.false_and]
  · rw [if_neg (by simpa using c1), fin_self, decide_eq_false c1, Bool.false_and]
structure PlV (syms : List Sym) (funs params : List Srt) (sv fv pv : PV) : Prop where
  s : SymV syms sv
  f : SrtV (.mk funs) fv
  p : SrtV (.mk params) pv
  r : ∀ x ∈ syms, 0 ≤ x.2 ∧ x.2 ≤ 4
theorem elt_srt {l : List Srt} {v : PV} (h : SrtV (.mk l) v) {n : Int} (h0 : 0 ≤ n) (h1 : n < (l.length : Int)) (S : Option St) : ∃ s u, l[n.toNat]? = some s ∧ SrtV s u ∧
    ∀ {α : Type} (K : PV → Option α), ((iadr 1 v n).bind fun y => (ldP S true 1 y).bind K) = K (.agg [u]) := by
  obtain ⟨es, g1, g2⟩ := srtV_mk h
  obtain ⟨pre, e, suf, s, he, hp, hs, hv⟩ := g2.split n.toNat (by omega)
  refine ⟨s, e.cell 0, hs, hv, fun K => ?_⟩
  have := g1.elt he S K
  rw [hp] at this
  rw [show ((n.toNat : Nat) : Int) = n from by omega] at this
  exact this
theorem elt_rank {l : List Sym} {v : PV} (h : SymV l v) {n : Int} (h0 : 0 ≤ n) (h1 : n < (l.length : Int)) (S : Option St) : ∃ x, l[n.toNat]? = some x ∧
    ∀ {α : Type} (K : Int → Option α), ((iadr 2 v n).bind fun y => (fadrV 1 y).bind fun y => ((ldP S false 1 y).bind (intOf .i64)).bind K) = K x.2 := by
  obtain ⟨es, g1, g2⟩ := h
  obtain ⟨pre, e, suf, x, he, hp, hs, hv⟩ := g2.split n.toNat (by omega)
  refine ⟨x, hs, fun K => ?_⟩
  obtain ⟨a, ha⟩ := g1.iadr he
  rw [hp, show ((n.toNat : Nat) : Int) = n from by omega] at ha
  rw [ha, hv]
  rfl
theorem rank_ok {r : Int} (h : 0 ≤ r ∧ r ≤ 4) : chk (decide (r = r) && decide (0 ≤ r) && decide (0 < 1) && decide (r.toNat * 24 ≤ room) && decide (r.toNat ≤ room)) = some () := by
  have h1 : r.toNat * 24 ≤ room := by unfold room; omega
  have h2 : r.toNat ≤ room := by unfold room; omega
  simp [chk, h.1, h1, h2]
theorem rank_srt {r : Int} (h : 0 ≤ r ∧ r ≤ 4) : SrtV (.mk (List.replicate r.toNat (.mk []))) (.sl none 1 (List.replicate r.toNat (.agg [.snil]))) :=
  srtV_of (.inr ⟨none, rfl, by simp; omega⟩) (srtL_zeros _)
theorem head_run {syms : List Sym} {funs params : List Srt} {sv fv pv : PV} (h : PlV syms funs params sv fv pv) (k n : Int) (av : PV) (S : St) :
    ∃ u, R true n_term_Place_head [.agg [sv, fv, pv], .agg [.int .i64 k, .int .i64 n, av]] S = some (.tup [.agg [u], .bool (hd syms funs params k n).isSome], S) ∧ ∀ s, hd syms funs params k n = some s → SrtV s u := by
  have hf' := h.f
  have hp' := h.p
  obtain ⟨fes, f1, f2⟩ := srtV_mk h.f
  obtain ⟨pes, p1, p2⟩ := srtV_mk h.p
  obtain ⟨ses, s1, s2⟩ := h.s
  have hJ4 : term_Place_head_J4 true S sv fv pv k n av S = some (.tup [.agg [.snil], .bool false], S) := by
    refine term_Place_head_J4_of ?_
    unfold term_Place_head_J4_b
    rw [fin_self]
  have red : ∀ {r : PV × St}, (∀ x, term_Place_head_b true (R true) (term_Place_head_J1 true) (term_Place_head_J4 true) S sv fv pv k n av = some x → R true n_term_Place_head [.agg [sv, fv, pv], .agg [.int .i64 k, .int .i64 n, av]] S = some x) := fun x hx => term_Place_head_of hx
  unfold hd
  by_cases c0 : n < 0
  · refine ⟨.snil, term_Place_head_of ?_, fun s hs => by rw [if_pos c0] at hs; cases hs⟩
    unfold term_Place_head_b
    rw [if_pos (decide_eq_true c0), hJ4, if_pos c0]
    rfl
  · rw [if_neg c0]
    have key : ∀ b1 : Bool, (b1 = true ↔ (k = 0 ∧ n < (params.length : Int))) → ∃ u, term_Place_head_J1 true S sv fv pv k n av b1 S = some (.tup [.agg [u], .bool (hd syms funs params k n).isSome], S) ∧ ∀ s, hd syms funs params k n = some s → SrtV s u := by
      intro b1 hb1
      have hdef : hd syms funs params k n = if k = 0 ∧ n < (params.length : Int) then params[n.toNat]? else if k = 1 ∧ n < (funs.length : Int) then funs[n.toNat]?
        else if k = 2 ∧ n < (syms.length : Int) then syms[n.toNat]?.map fun x => .mk (List.replicate x.2.toNat (.mk [])) else none := by unfold hd; rw [if_neg c0]
      cases b1 with
      | true =>
        have hc := hb1.1 rfl
        obtain ⟨s, u, e1, e2, e3⟩ := elt_srt h.p (by omega) hc.2 (some S)
        refine ⟨u, term_Place_head_J1_of ?_, fun s' hs' => ?_⟩
        · unfold term_Place_head_J1_b
          rw [if_pos rfl, e3]
          simp only [okCells_agg _ (show [u].length = 1 from rfl), Option.bind_some, c0]
          rw [fin_self, hdef, if_pos hc, e1]
          rfl
        · rw [hdef, if_pos hc, e1] at hs'
          cases hs'
          exact e2
      | false =>
        have hc : ¬ (k = 0 ∧ n < (params.length : Int)) := fun x => by have := hb1.2 x; cases this
        rw [if_neg hc] at hdef
        have key2 : ∀ b2 : Bool, (b2 = true ↔ (k = 1 ∧ n < (funs.length : Int))) → ∃ u, term_Place_head_J2 true S sv fv pv k n av b2 S = some (.tup [.agg [u], .bool (hd syms funs params k n).isSome], S) ∧ ∀ s, hd syms funs params k n = some s → SrtV s u := by
          intro b2 hb2
          cases b2 with
          | true =>
            have hc := hb2.1 rfl
            obtain ⟨s, u, e1, e2, e3⟩ := elt_srt h.f (by omega) hc.2 (some S)
            refine ⟨u, term_Place_head_J2_of ?_, fun s' hs' => ?_⟩
            · unfold term_Place_head_J2_b
              rw [if_pos rfl, e3]
              simp only [okCells_agg _ (show [u].length = 1 from rfl), Option.bind_some, c0]
              rw [fin_self, hdef, if_pos hc, e1]
              rfl
            · rw [hdef, if_pos hc, e1] at hs'
              cases hs'
              exact e2
          | false =>
            have hc : ¬ (k = 1 ∧ n < (funs.length : Int)) := fun x => by have := hb2.2 x; cases this
            rw [if_neg hc] at hdef
            have key3 : ∀ b3 : Bool, (b3 = true ↔ (k = 2 ∧ n < (syms.length : Int))) → ∃ u, term_Place_head_J3 true S sv fv pv k n av b3 S = some (.tup [.agg [u], .bool (hd syms funs params k n).isSome], S) ∧ ∀ s, hd syms funs params k n = some s → SrtV s u := by
              intro b3 hb3
              cases b3 with
              | true =>
                have hc := hb3.1 rfl
                obtain ⟨x, e1, e3⟩ := elt_rank h.s (by omega) hc.2 (some S)
                have hr := h.r x (List.mem_of_getElem? e1)
                refine ⟨.sl none 1 (List.replicate x.2.toNat (.agg [.snil])), term_Place_head_J3_of ?_, fun s' hs' => ?_⟩
                · unfold term_Place_head_J3_b
                  rw [if_pos rfl, e3]
                  rw [rank_ok hr]
                  simp only [Option.bind_some]
                  rw [show chk (PV.okCells (.sl none 1 (List.replicate x.2.toNat (.agg [.snil]))) 1) = some () from rfl]
                  simp only [Option.bind_some]
                  rw [fin_self, hdef, if_pos hc, e1]
                  rfl
                · rw [hdef, if_pos hc, e1] at hs'
                  cases hs'
                  exact rank_srt hr
              | false =>
                have hc : ¬ (k = 2 ∧ n < (syms.length : Int)) := fun x => by have := hb3.2 x; cases this
                rw [if_neg hc] at hdef
                refine ⟨.snil, term_Place_head_J3_of ?_, fun s' hs' => by rw [hdef] at hs'; cases hs'⟩
                unfold term_Place_head_J3_b
                rw [if_neg (by decide), hJ4, hdef]
                rfl
            by_cases d : k = 2
            · obtain ⟨u, hu, hv⟩ := key3 (decide (n < (syms.length : Int))) (by simp [d])
              refine ⟨u, term_Place_head_J2_of ?_, hv⟩
              unfold term_Place_head_J2_b
              rw [if_neg (by decide), if_pos (by simpa using d), s1.len, s2.len]
              exact hu
            · obtain ⟨u, hu, hv⟩ := key3 false (by simp [d])
              refine ⟨u, term_Place_head_J2_of ?_, hv⟩
              unfold term_Place_head_J2_b
              rw [if_neg (by decide), if_neg (by simpa using d)]
              exact hu
        by_cases d : k = 1
        · obtain ⟨u, hu, hv⟩ := key2 (decide (n < (funs.length : Int))) (by simp [d])
          refine ⟨u, term_Place_head_J1_of ?_, hv⟩
          unfold term_Place_head_J1_b
          rw [if_neg (by decide), if_pos (by simpa using d), f1.len, f2.len]
          exact hu
        · obtain ⟨u, hu, hv⟩ := key2 false (by simp [d])
          refine ⟨u, term_Place_head_J1_of ?_, hv⟩
          unfold term_Place_head_J1_b
          rw [if_neg (by decide), if_neg (by simpa using d)]
          exact hu
    have hfin : ∀ {u : PV}, term_Place_head_b true (R true) (term_Place_head_J1 true) (term_Place_head_J4 true) S sv fv pv k n av = some (.tup [.agg [u], .bool (hd syms funs params k n).isSome], S) → (∀ s, hd syms funs params k n = some s → SrtV s u) →
        ∃ u, R true n_term_Place_head [.agg [sv, fv, pv], .agg [.int .i64 k, .int .i64 n, av]] S = some (.tup [.agg [u], .bool (hd syms funs params k n).isSome], S) ∧ ∀ s, hd syms funs params k n = some s → SrtV s u := fun h1 h2 => ⟨_, term_Place_head_of h1, h2⟩
    have hh : hd syms funs params k n = (if k = 0 ∧ n < (params.length : Int) then params[n.toNat]? else if k = 1 ∧ n < (funs.length : Int) then funs[n.toNat]?
        else if k = 2 ∧ n < (syms.length : Int) then syms[n.toNat]?.map fun x => .mk (List.replicate x.2.toNat (.mk [])) else none) := by unfold hd; rw [if_neg c0]
    rw [← hh]
    by_cases d : k = 0
    · obtain ⟨u, hu, hv⟩ := key (decide (n < (params.length : Int))) (by simp [d])
      refine hfin ?_ hv
      unfold term_Place_head_b
      rw [if_neg (by simpa using c0), if_pos (by simpa using d), p1.len, p2.len]
      exact hu
    · obtain ⟨u, hu, hv⟩ := key false (by simp [d])
      refine hfin ?_ hv
      unfold term_Place_head_b
      rw [if_neg (by simpa using c0), if_neg (by simpa using d)]
      exact hu
end Go.Proofs.YtjdknnlhhenpnaaGreatDoor
namespace Go.Proofs.YtjdknnlhhenpnaaGreatDoor
open Go Go.Abs Go.Vir
theorem head'_run {syms : List Sym} {funs params : List Srt} {sv fv pv : PV} (h : PlV syms funs params sv fv pv) (k n : Int) (av : PV) (S : St) :
    ∃ u, R true n_vref02_head [.agg [sv, fv, pv], .agg [.int .i64 k, .int .i64 n, av]] S = some (.tup [.agg [u], .bool (hd syms funs params k n).isSome], S) ∧ ∀ s, hd syms funs params k n = some s → SrtV s u := by
  obtain ⟨fes, f1, f2⟩ := srtV_mk h.f
  obtain ⟨pes, p1, p2⟩ := srtV_mk h.p
  obtain ⟨ses, s1, s2⟩ := h.s
  have hJ : vref02_head_J1 true S sv fv pv k n av S = some (.tup [.agg [.snil], .bool false], S) := by
    refine vref02_head_J1_of ?_
    unfold vref02_head_J1_b
    rw [fin_self]
  have hfin : ∀ {u : PV} {o : Option Srt}, hd syms funs params k n = o → vref02_head_b true (R true) (vref02_head_J1 true) S sv fv pv k n av = some (.tup [.agg [u], .bool o.isSome], S) → (∀ s, o = some s → SrtV s u) →
      ∃ u, R true n_vref02_head [.agg [sv, fv, pv], .agg [.int .i64 k, .int .i64 n, av]] S = some (.tup [.agg [u], .bool (hd syms funs params k n).isSome], S) ∧ ∀ s, hd syms funs params k n = some s → SrtV s u :=
    fun h0 h1 h2 => by subst h0; exact ⟨_, vref02_head_of h1, h2⟩
  have none_ : ∀ {o : Option Srt}, o = none → ∀ s, o = some s → SrtV s .snil := fun h s hs => by rw [h] at hs; cases hs
  have some_ : ∀ {o : Option Srt} {s : Srt} {u : PV}, o = some s → SrtV s u → ∀ s', o = some s' → SrtV s' u := fun h hu s' hs => by rw [h] at hs; cases hs; exact hu
  unfold vref02_head_b at hfin
  by_cases c0 : n < 0
  · refine hfin (o := none) (u := .snil) (by unfold hd; rw [if_pos c0]) ?_ (none_ rfl)
    rw [if_pos (decide_eq_true c0), fin_self]
    rfl
  · rw [if_neg (show ¬ decide (n < 0) = true from by simpa using c0)] at hfin
    by_cases d0 : k = 0
    · subst d0
      rw [if_pos (by decide), p1.len, p2.len] at hfin
      simp only [Option.bind_some] at hfin
      by_cases e0 : n < (params.length : Int)
      · obtain ⟨s, u, e1, e2, e3⟩ := elt_srt h.p (by omega) e0 (some S)
        rw [if_pos (decide_eq_true e0), e3] at hfin
        refine hfin (o := some s) (u := u) (by unfold hd; rw [if_neg c0, if_pos ⟨rfl, e0⟩, e1]) ?_ (some_ rfl e2)
        simp only [okCells_agg _ (show [u].length = 1 from rfl), Option.bind_some, Abs.c0]
        rw [fin_self]
        rfl
      · rw [if_neg (show ¬ decide (n < (params.length : Int)) = true from by simpa using e0), hJ] at hfin
        exact hfin (o := none) (u := .snil) (by unfold hd; rw [if_neg c0, if_neg (fun x => e0 x.2), if_neg (fun x => by omega), if_neg (fun x => by omega)]) rfl (none_ rfl)
    · rw [if_neg (show ¬ (k == 0) = true from by simpa using d0)] at hfin
      by_cases d1 : k = 1
      · subst d1
        rw [if_pos (by decide), f1.len, f2.len] at hfin
        simp only [Option.bind_some] at hfin
        by_cases e0 : n < (funs.length : Int)
        · obtain ⟨s, u, e1, e2, e3⟩ := elt_srt h.f (by omega) e0 (some S)
          rw [if_pos (decide_eq_true e0), e3] at hfin
          refine hfin (o := some s) (u := u) (by unfold hd; rw [if_neg c0, if_neg (fun x => by omega), if_pos ⟨rfl, e0⟩, e1]) ?_ (some_ rfl e2)
          simp only [okCells_agg _ (show [u].length = 1 from rfl), Option.bind_some, Abs.c0]
          rw [fin_self]
          rfl
        · rw [if_neg (show ¬ decide (n < (funs.length : Int)) = true from by simpa using e0), hJ] at hfin
          exact hfin (o := none) (u := .snil) (by unfold hd; rw [if_neg c0, if_neg (fun x => by omega), if_neg (fun x => e0 x.2), if_neg (fun x => by omega)]) rfl (none_ rfl)
      · rw [if_neg (show ¬ (k == 1) = true from by simpa using d1)] at hfin
        by_cases d2 : k = 2
        · subst d2
          rw [if_pos (by decide), s1.len, s2.len, Option.bind_some] at hfin
          by_cases e0 : n < (syms.length : Int)
          · obtain ⟨x, e1, e3⟩ := elt_rank h.s (by omega) e0 (some S)
            have hr := h.r x (List.mem_of_getElem? e1)
            rw [if_pos (decide_eq_true e0), e3, rank_ok hr] at hfin
            refine hfin (o := some (.mk (List.replicate x.2.toNat (.mk [])))) (u := .sl none 1 (List.replicate x.2.toNat (.agg [.snil]))) (by unfold hd; rw [if_neg c0, if_neg (fun x => by omega), if_neg (fun x => by omega), if_pos ⟨rfl, e0⟩, e1]; rfl) ?_ (some_ rfl (rank_srt hr))
            simp only [Option.bind_some]
            rw [show chk (PV.okCells (.sl none 1 (List.replicate x.2.toNat (.agg [.snil]))) 1) = some () from rfl]
            simp only [Option.bind_some]
            rw [fin_self]
            rfl
          · rw [if_neg (show ¬ decide (n < (syms.length : Int)) = true from by simpa using e0), hJ] at hfin
            exact hfin (o := none) (u := .snil) (by unfold hd; rw [if_neg c0, if_neg (fun x => by omega), if_neg (fun x => by omega), if_neg (fun x => e0 x.2)]) rfl (none_ rfl)
        · rw [if_neg (show ¬ (k == 2) = true from by simpa using d2), hJ] at hfin
          exact hfin (o := none) (u := .snil) (by unfold hd; rw [if_neg c0, if_neg (fun x => d0 x.1), if_neg (fun x => d1 x.1), if_neg (fun x => d2 x.1)]) rfl (none_ rfl)
theorem srtL_drop : ∀ (n : Nat) {l : List Srt} {es : List PV}, SrtL l es → SrtL (l.drop n) (es.drop n)
  | 0, _, _, h => h
  | n + 1, [], _, h => by unfold SrtL at h; subst h; unfold SrtL; rfl
  | n + 1, a :: l, _, h => by
    unfold SrtL at h
    obtain ⟨e, es', rfl, _, h2⟩ := h
    exact srtL_drop n h2
mutual
theorem sort_run {syms : List Sym} {funs params : List Srt} {sv fv pv : PV} (h : PlV syms funs params sv fv pv) (t : Trm) {av : PV} (ht : TrmV t av) (S : St) :
    ∃ u, R true n_term_Place_sort [.agg [sv, fv, pv], .agg [.int .i64 t.k, .int .i64 t.i, av]] S = some (.tup [.agg [u], .bool (t.of Srt.same (hd syms funs params)).isSome], S) ∧ ∀ s, t.of Srt.same (hd syms funs params) = some s → SrtV s u := by
  match t, ht with
  | .mk k n a, ht =>
    unfold TrmV at ht
    obtain ⟨es, h1, h2⟩ := ht
    obtain ⟨u0, hu, hv⟩ := head_run h k n av S
    rw [Trm.of]
    have step : ∀ {r : PV × St}, term_Place_sort_b true (R true) (term_Place_sort_J1 true) S sv fv pv k n av = some r → R true n_term_Place_sort [.agg [sv, fv, pv], .agg [.int .i64 k, .int .i64 n, av]] S = some r := fun hh => term_Place_sort_of hh
    unfold term_Place_sort_b at step
    rw [hu] at step
    simp only [Option.bind_some, chkT0, chkT1, getT0, getT1, Abs.asBool, okCells_agg _ (show [u0].length = 1 from rfl), Abs.c0] at step
    have hbad : term_Place_sort_J1 true S sv fv pv k n av u0 true S = some (.tup [.agg [.snil], .bool false], S) := by
      refine term_Place_sort_J1_of ?_
      unfold term_Place_sort_J1_b
      rw [if_pos rfl, fin_self]
    cases hs : hd syms funs params k n with
    | none =>
      rw [hs] at step
      simp only [Option.isSome_none, Bool.not_false, if_true] at step
      rw [hbad] at step
      exact ⟨.snil, step rfl, fun s hs => by cases hs⟩
    | some s =>
      rw [hs] at step
      simp only [Option.isSome_some, Bool.not_true, Bool.false_eq_true, if_false] at step
      have hsu := hv s hs
      cases s with
      | mk l =>
      obtain ⟨ses, g1, g2⟩ := srtV_mk hsu
      rw [h1.len, g1.len] at step
      simp only [Option.bind_some] at step
      dsimp only
      rw [show (Srt.mk l).args = l from rfl]
      by_cases c : (a.length : Int) > (l.length : Int)
      · rw [decide_eq_true (show (es.length : Int) > (ses.length : Int) by rw [h2.len, g2.len]; exact c), hbad] at step
        rw [if_pos c]
        exact ⟨.snil, step rfl, fun s hs => by cases hs⟩
      · rw [decide_eq_false (show ¬ (es.length : Int) > (ses.length : Int) by rw [h2.len, g2.len]; exact c)] at step
        rw [if_neg c]
        obtain ⟨u, hu, hv⟩ := sortL_run h a l (by omega) h1 h2 [] rfl g1 g2 [] rfl rfl k n .snil S
        have hgood : term_Place_sort_J1 true S sv fv pv k n av u0 false S = some (.tup [.agg [u], .bool (Trm.ofL Srt.same (hd syms funs params) a l)], S) := by
          refine term_Place_sort_J1_of ?_
          unfold term_Place_sort_J1_b
          rw [if_neg (by decide), h1.len]
          simp only [Option.bind_some]
          exact hu
        rw [hgood] at step
        refine ⟨u, ?_, fun s hs => ?_⟩
        · refine Eq.trans (step rfl) ?_
          cases Trm.ofL Srt.same (hd syms funs params) a l <;> rfl
        · split at hs
          · rename_i hh
            cases hs
            exact hv hh
          · cases hs
theorem sortL_run {syms : List Sym} {funs params : List Srt} {sv fv pv : PV} (h : PlV syms funs params sv fv pv) (a : List Trm) (l : List Srt) (hl : a.length ≤ l.length)
    {es es' : List PV} {av : PV} (h1 : Sl 3 es av) (h2 : TrmL a es') (pre : List PV) (he : es = pre ++ es') {ses ses' : List PV} {u0 : PV} (g1 : Sl 1 ses u0) (g2 : SrtL l ses') (qre : List PV) (hf : ses = qre ++ ses') (hq : pre.length = qre.length)
    (k n : Int) (y : PV) (S : St) :
    ∃ u, term_Place_sort_L1 true S sv fv pv k n av u0 es.length y pre.length S = some (.tup [.agg [u], .bool (Trm.ofL Srt.same (hd syms funs params) a l)], S) ∧ (Trm.ofL Srt.same (hd syms funs params) a l = true → SrtV (.mk (l.drop a.length)) u) := by
  match a, l, hl, h2, g2 with
  | [], l, hl, h2, g2 =>
    unfold TrmL at h2
    subst h2
    obtain ⟨u, hu, hs⟩ := slc_suf g1 hf
    refine ⟨u, ?_, fun _ => srtV_of hs g2⟩
    refine term_Place_sort_L1_of ?_
    unfold term_Place_sort_L1_b
    rw [show decide ((pre.length : Int) < (es.length : Int)) = false from by subst he; exact lt_done pre, if_neg (by decide), h1.len]
    simp only [Option.bind_some]
    rw [show (es.length : Int) = (qre.length : Int) from by subst he; rw [← hq]; simp, hu]
    simp only [Option.bind_some]
    rw [hs.ok1]
    simp only [Option.bind_some]
    rw [fin_self, hs.cell0, Trm.ofL]
  | t :: a, s :: l, hl, h2, g2 =>
    unfold TrmL at h2
    unfold SrtL at g2
    obtain ⟨e, es', rfl, ⟨tv, h3, h3'⟩, h4⟩ := h2
    obtain ⟨f, ses', rfl, g3, g4⟩ := g2
    have hm := h1.max
    obtain ⟨u1, hu, hv⟩ := sort_run h t h3' S
    obtain ⟨u2, hu2, hv2⟩ := sortL_run h a l (by simpa using hl) h1 h4 (pre ++ [e]) (by simp [he]) g1 g4 (qre ++ [f]) (by simp [hf]) (by simp [hq]) k n y S
    have hJ : ∀ b : Bool, term_Place_sort_J2 true S sv fv pv k n av y u0 es.length pre.length b S = some (if b then .tup [.agg [.snil], .bool false] else .tup [.agg [u2], .bool (Trm.ofL Srt.same (hd syms funs params) a l)], S) := by
      intro b
      refine term_Place_sort_J2_of ?_
      unfold term_Place_sort_J2_b
      cases b with
      | true => rw [if_pos rfl, fin_self]; rfl
      | false =>
        rw [if_neg (by decide), idx_next pre e es' (by rw [← he]; exact hm)]
        exact hu2
    have step : ∀ {r : PV × St}, term_Place_sort_L1_b true (R true) (term_Place_sort_J2 true) S sv fv pv k n av u0 es.length y pre.length S = some r → term_Place_sort_L1 true S sv fv pv k n av u0 es.length y pre.length S = some r := fun hh => term_Place_sort_L1_of hh
    unfold term_Place_sort_L1_b at step
    rw [show decide ((pre.length : Int) < (es.length : Int)) = true from by subst he; exact lt_more pre e es', if_pos rfl, h1.elt he, okCells_agg _ (PV.proj_length e 3), h3] at step
    simp only [Option.bind_some, Abs.c0, c1, c2] at step
    rw [hu] at step
    simp only [Option.bind_some, chkT0, chkT1, getT0, getT1, Abs.asBool, okCells_agg _ (show [u1].length = 1 from rfl), Abs.c0] at step
    rw [Trm.ofL]
    cases hx : t.of Srt.same (hd syms funs params) with
    | none =>
      rw [hx] at step
      simp only [Option.isSome_none, Bool.not_false, if_true] at step
      rw [hJ] at step
      exact ⟨.snil, step rfl, fun hh => by cases hh⟩
    | some x =>
      rw [hx] at step
      simp only [Option.isSome_some, Bool.not_true, Bool.false_eq_true, if_false] at step
      rw [hq, g1.elt hf, show f.proj 1 = [f.cell 0] from rfl, sameS_run x s (hv x hx) g3 S, ← hq] at step
      simp only [Option.bind_some, Abs.asBool] at step
      rw [hJ] at step
      dsimp only
      cases hc : x.same s with
      | false =>
        rw [hc] at step
        exact ⟨.snil, step rfl, fun hh => by cases hh⟩
      | true =>
        rw [hc] at step
        exact ⟨u2, step rfl, hv2⟩
end
mutual
theorem sort'_run {syms : List Sym} {funs params : List Srt} {sv fv pv : PV} (h : PlV syms funs params sv fv pv) (t : Trm) {av : PV} (ht : TrmV t av) (S : St) :
    ∃ u, R true n_vref02_Of [.agg [sv, fv, pv], .agg [.int .i64 t.k, .int .i64 t.i, av]] S = some (.tup [.agg [u], .bool (t.of Srt.eq (hd syms funs params)).isSome], S) ∧ ∀ s, t.of Srt.eq (hd syms funs params) = some s → SrtV s u := by
  match t, ht with
  | .mk k n a, ht =>
    unfold TrmV at ht
    obtain ⟨es, h1, h2⟩ := ht
    obtain ⟨u0, hu, hv⟩ := head'_run h k n av S
    rw [Trm.of]
    have step : ∀ {r : PV × St}, vref02_Of_b true (R true) (vref02_Of_J1 true) S sv fv pv k n av = some r → R true n_vref02_Of [.agg [sv, fv, pv], .agg [.int .i64 k, .int .i64 n, av]] S = some r := fun hh => vref02_Of_of hh
    unfold vref02_Of_b at step
    rw [hu] at step
    simp only [Option.bind_some, chkT0, chkT1, getT0, getT1, Abs.asBool, okCells_agg _ (show [u0].length = 1 from rfl), Abs.c0] at step
    have hbad : vref02_Of_J1 true S sv fv pv k n av u0 true S = some (.tup [.agg [.snil], .bool false], S) := by
      refine vref02_Of_J1_of ?_
      unfold vref02_Of_J1_b
      rw [if_pos rfl, fin_self]
    cases hs : hd syms funs params k n with
    | none =>
      rw [hs] at step
      simp only [Option.isSome_none, Bool.not_false, if_true] at step
      rw [hbad] at step
      exact ⟨.snil, step rfl, fun s hs => by cases hs⟩
    | some s =>
      rw [hs] at step
      simp only [Option.isSome_some, Bool.not_true, Bool.false_eq_true, if_false] at step
      have hsu := hv s hs
      cases s with
      | mk l =>
      obtain ⟨ses, g1, g2⟩ := srtV_mk hsu
      rw [h1.len, g1.len] at step
      simp only [Option.bind_some] at step
      dsimp only
      rw [show (Srt.mk l).args = l from rfl]
      by_cases c : (a.length : Int) > (l.length : Int)
      · rw [decide_eq_true (show (es.length : Int) > (ses.length : Int) by rw [h2.len, g2.len]; exact c), hbad] at step
        rw [if_pos c]
        exact ⟨.snil, step rfl, fun s hs => by cases hs⟩
      · rw [decide_eq_false (show ¬ (es.length : Int) > (ses.length : Int) by rw [h2.len, g2.len]; exact c)] at step
        rw [if_neg c]
        obtain ⟨u, hu, hv⟩ := sort'L_run h a l (by omega) h1 h2 [] rfl g1 g2 [] rfl rfl k n .snil S
        have hgood : vref02_Of_J1 true S sv fv pv k n av u0 false S = some (.tup [.agg [u], .bool (Trm.ofL Srt.eq (hd syms funs params) a l)], S) := by
          refine vref02_Of_J1_of ?_
          unfold vref02_Of_J1_b
          rw [if_neg (by decide), h1.len]
          simp only [Option.bind_some]
          exact hu
        rw [hgood] at step
        refine ⟨u, ?_, fun s hs => ?_⟩
        · refine Eq.trans (step rfl) ?_
          cases Trm.ofL Srt.eq (hd syms funs params) a l <;> rfl
        · split at hs
          · rename_i hh
            cases hs
            exact hv hh
          · cases hs
theorem sort'L_run {syms : List Sym} {funs params : List Srt} {sv fv pv : PV} (h : PlV syms funs params sv fv pv) (a : List Trm) (l : List Srt) (hl : a.length ≤ l.length)
    {es es' : List PV} {av : PV} (h1 : Sl 3 es av) (h2 : TrmL a es') (pre : List PV) (he : es = pre ++ es') {ses ses' : List PV} {u0 : PV} (g1 : Sl 1 ses u0) (g2 : SrtL l ses') (qre : List PV) (hf : ses = qre ++ ses') (hq : pre.length = qre.length)
    (k n : Int) (y : PV) (S : St) :
    ∃ u, vref02_Of_L1 true S sv fv pv k n av u0 es.length y pre.length S = some (.tup [.agg [u], .bool (Trm.ofL Srt.eq (hd syms funs params) a l)], S) ∧ (Trm.ofL Srt.eq (hd syms funs params) a l = true → SrtV (.mk (l.drop a.length)) u) := by
  match a, l, hl, h2, g2 with
  | [], l, hl, h2, g2 =>
    unfold TrmL at h2
    subst h2
    obtain ⟨u, hu, hs⟩ := slc_suf g1 hf
    refine ⟨u, ?_, fun _ => srtV_of hs g2⟩
    refine vref02_Of_L1_of ?_
    unfold vref02_Of_L1_b
    rw [show decide ((pre.length : Int) < (es.length : Int)) = false from by subst he; exact lt_done pre, if_neg (by decide), h1.len]
    simp only [Option.bind_some]
    rw [show (es.length : Int) = (qre.length : Int) from by subst he; rw [← hq]; simp, hu]
    simp only [Option.bind_some]
    rw [hs.ok1]
    simp only [Option.bind_some]
    rw [fin_self, hs.cell0, Trm.ofL]
  | t :: a, s :: l, hl, h2, g2 =>
    unfold TrmL at h2
    unfold SrtL at g2
    obtain ⟨e, es', rfl, ⟨tv, h3, h3'⟩, h4⟩ := h2
    obtain ⟨f, ses', rfl, g3, g4⟩ := g2
    have hm := h1.max
    obtain ⟨u1, hu, hv⟩ := sort'_run h t h3' S
    obtain ⟨u2, hu2, hv2⟩ := sort'L_run h a l (by simpa using hl) h1 h4 (pre ++ [e]) (by simp [he]) g1 g4 (qre ++ [f]) (by simp [hf]) (by simp [hq]) k n y S
    have hJ : ∀ b : Bool, vref02_Of_J2 true S sv fv pv k n av y u0 es.length pre.length b S = some (if b then .tup [.agg [.snil], .bool false] else .tup [.agg [u2], .bool (Trm.ofL Srt.eq (hd syms funs params) a l)], S) := by
      intro b
      refine vref02_Of_J2_of ?_
      unfold vref02_Of_J2_b
      cases b with
      | true => rw [if_pos rfl, fin_self]; rfl
      | false =>
        rw [if_neg (by decide), idx_next pre e es' (by rw [← he]; exact hm)]
        exact hu2
    have step : ∀ {r : PV × St}, vref02_Of_L1_b true (R true) (vref02_Of_J2 true) S sv fv pv k n av u0 es.length y pre.length S = some r → vref02_Of_L1 true S sv fv pv k n av u0 es.length y pre.length S = some r := fun hh => vref02_Of_L1_of hh
    unfold vref02_Of_L1_b at step
    rw [show decide ((pre.length : Int) < (es.length : Int)) = true from by subst he; exact lt_more pre e es', if_pos rfl, h1.elt he, okCells_agg _ (PV.proj_length e 3), h3] at step
    simp only [Option.bind_some, Abs.c0, c1, c2] at step
    rw [hu] at step
    simp only [Option.bind_some, chkT0, chkT1, getT0, getT1, Abs.asBool, okCells_agg _ (show [u1].length = 1 from rfl), Abs.c0] at step
    rw [Trm.ofL]
    cases hx : t.of Srt.eq (hd syms funs params) with
    | none =>
      rw [hx] at step
      simp only [Option.isSome_none, Bool.not_false, if_true] at step
      rw [hJ] at step
      exact ⟨.snil, step rfl, fun hh => by cases hh⟩
    | some x =>
      rw [hx] at step
      simp only [Option.isSome_some, Bool.not_true, Bool.false_eq_true, if_false] at step
      rw [hq, g1.elt hf, show f.proj 1 = [f.cell 0] from rfl, equal_run x s (hv x hx) g3 S, ← hq] at step
      simp only [Option.bind_some, Abs.asBool] at step
      rw [hJ] at step
      dsimp only
      cases hc : x.eq s with
      | false =>
        rw [hc] at step
        exact ⟨.snil, step rfl, fun hh => by cases hh⟩
      | true =>
        rw [hc] at step
        exact ⟨u2, step rfl, hv2⟩
end
theorem of_run {syms : List Sym} {funs params : List Srt} {sv fv pv : PV} (h : PlV syms funs params sv fv pv) (t : Trm) {av : PV} (ht : TrmV t av) (S : St) :
    ∃ u, R true n_term_Place_Of [.agg [sv, fv, pv], .agg [.int .i64 t.k, .int .i64 t.i, av]] S = some (.tup [.agg [u], .bool (t.of Srt.same (hd syms funs params)).isSome], S) ∧ ∀ s, t.of Srt.same (hd syms funs params) = some s → SrtV s u := by
  obtain ⟨u, hu, hv⟩ := sort_run h t ht S
  refine ⟨u, term_Place_Of_of ?_, hv⟩
  unfold term_Place_Of_b
  rw [hu]
  simp only [Option.bind_some, chkT0, chkT1, getT0, getT1, Abs.asBool, okCells_agg _ (show [u].length = 1 from rfl), Abs.c0]
  rw [fin_self]
end Go.Proofs.YtjdknnlhhenpnaaGreatDoor
namespace Go.Vir
open Go Go.Abs
theorem SrtL.snoc : ∀ {l : List Srt} {es : List PV} {s : Srt} {e : PV}, SrtL l es → SrtV s (e.cell 0) → SrtL (l ++ [s]) (es ++ [e])
  | [], _, s, e, h, h' => by unfold SrtL at h; subst h; unfold SrtL; exact ⟨e, [], rfl, h', by unfold SrtL; rfl⟩
  | x :: l, _, _, _, h, h' => by
    unfold SrtL at h
    obtain ⟨e, es', rfl, h3, h4⟩ := h
    rw [List.cons_append, List.cons_append]
    unfold SrtL
    exact ⟨e, _, rfl, h3, h4.snoc h'⟩
theorem IntL.snoc : ∀ {l : List Int} {es : List PV} {n : Int} {e : PV}, IntL l es → e.cell 0 = .int .i64 n → IntL (l ++ [n]) (es ++ [e])
  | [], _, s, e, h, h' => by unfold IntL at h; subst h; exact ⟨e, [], rfl, h', rfl⟩
  | x :: l, _, _, _, h, h' => by
    unfold IntL at h
    obtain ⟨e, es', rfl, h3, h4⟩ := h
    exact ⟨e, _, rfl, h3, h4.snoc h'⟩
theorem FnL.append : ∀ {l : List Vir.Fn} {es : List PV} {l' : List Vir.Fn} {es' : List PV}, FnL l es → FnL l' es' → FnL (l ++ l') (es ++ es')
  | [], _, _, _, h, h' => by unfold FnL at h; subst h; exact h'
  | x :: l, _, _, _, h, h' => by
    unfold FnL at h
    obtain ⟨e, es', rfl, h3, h4⟩ := h
    exact ⟨e, _, rfl, h3, h4.append h'⟩
theorem srtV_args {s : Srt} {v : PV} (h : SrtV s v) : SrtV (.mk s.args) v := by cases s; exact h
end Go.Vir
namespace Go.Proofs.YtjdknnlhhenpnaaGreatDoor
open Go Go.Abs Go.Vir
theorem e30 : Abs.elemOf P 30 = some (1, 24, true) := by kernel_rfl
theorem z30 : zeroOk P 30 = true := by kernel_rfl
theorem e26 : Abs.elemOf P 26 = some (1, 8, false) := by kernel_rfl
theorem z26 : zeroOk P 26 = true := by kernel_rfl
theorem placeL_run (l : List Vir.Fn) (l0 : List Srt) {es es' acc : List PV} {v : PV} (h1 : Sl 5 es v) (h2 : FnL l es') (pre : List PV) (he : es = pre ++ es') {p2 : PV} {k2 : Option Tk} {ts : Toks} (ha : AppSt 1 acc p2 k2 ts) (hl0 : SrtL l0 acc) (hlen : acc.length = pre.length) (hs : es.length < 1000000000)
    (sv pv : PV) (S : St) : ∃ fv, scheme_Place_L1 true S v es.length sv none p2 k2 pv none pre.length ts S = some (.agg [sv, fv, pv], S) ∧ SrtV (.mk (l0 ++ l.map (·.sort))) fv := by
  induction l generalizing es' pre l0 acc p2 k2 ts with
  | nil =>
    unfold FnL at h2
    subst h2
    have hpl : es.length = pre.length := by subst he; simp
    refine ⟨p2, scheme_Place_L1_of ?_, by simpa using srtV_of (ha.sl (by omega)) hl0⟩
    unfold scheme_Place_L1_b
    rw [show decide ((pre.length : Int) < (es.length : Int)) = false from by subst he; exact lt_done pre, if_neg (by decide), fin_self]
  | cons f l ih =>
    have hm := h1.max
    unfold FnL at h2
    obtain ⟨e, es', rfl, ⟨sv', av, h3, h4, h5⟩, h6⟩ := h2
    have hpl : pre.length < es.length := by subst he; simp
    obtain ⟨p', k', ts', q1, q2⟩ := AppSt.step e30 z30 (by decide) (by decide) ha (by omega) S.htoks (.agg [sv'])
    obtain ⟨fv, r1, r2⟩ := ih (l0 ++ [f.sort]) h6 (pre ++ [e]) (by simp [he]) q2 (hl0.snoc h4) (by simp [hlen])
    refine ⟨fv, scheme_Place_L1_of ?_, by simpa using r2⟩
    unfold scheme_Place_L1_b
    rw [show decide ((pre.length : Int) < (es.length : Int)) = true from by subst he; exact lt_more pre e es', if_pos rfl, h1.elt he, okCells_agg _ (PV.proj_length e 5), h3]
    simp only [Option.bind_some, c1]
    rw [q1]
    simp only [Option.bind_some]
    rw [q2.one, idx_next pre e es' (by rw [← he]; exact hm)]
    exact r1
theorem place_s_run (funs : List Vir.Fn) {ses pes : List PV} {sv v pv : PV} (hs : Sl 2 ses sv) (h : FnV funs v) (hp : Sl 1 pes pv) (hl : funs.length < 1000000000) (S : St) :
    ∃ fv, R true n_scheme_Place [.agg [sv, v], pv] S = some (.agg [sv, fv, pv], S) ∧ SrtV (.mk (funs.map (·.sort))) fv := by
  obtain ⟨es, h1, h2⟩ := h
  obtain ⟨fv, r1, r2⟩ := placeL_run funs [] h1 h2 [] rfl (AppSt.nil 1) (by unfold SrtL; rfl) rfl (by rw [h2.len]; exact hl) sv pv S
  refine ⟨fv, scheme_Place_of ?_, r2⟩
  unfold scheme_Place_b
  rw [hs.ok1, hp.ok1, h1.len, hs.cell0, hp.cell0]
  exact r1
theorem place'L_run (l : List Vir.Fn) (l0 : List Srt) {es es' acc : List PV} {v : PV} (h1 : Sl 5 es v) (h2 : FnL l es') (pre : List PV) (he : es = pre ++ es') {p2 : PV} {k2 : Option Tk} {ts : Toks} (ha : AppSt 1 acc p2 k2 ts) (hl0 : SrtL l0 acc) (hlen : acc.length = pre.length) (hs : es.length < 1000000000)
    (sv pv : PV) (S : St) : ∃ fv, vref03_Place_L1 true S v es.length sv none p2 k2 pv none pre.length ts S = some (.agg [sv, fv, pv], S) ∧ SrtV (.mk (l0 ++ l.map (·.sort))) fv := by
  induction l generalizing es' pre l0 acc p2 k2 ts with
  | nil =>
    unfold FnL at h2
    subst h2
    have hpl : es.length = pre.length := by subst he; simp
    refine ⟨p2, vref03_Place_L1_of ?_, by simpa using srtV_of (ha.sl (by omega)) hl0⟩
    unfold vref03_Place_L1_b
    rw [show decide ((pre.length : Int) < (es.length : Int)) = false from by subst he; exact lt_done pre, if_neg (by decide), fin_self]
  | cons f l ih =>
    have hm := h1.max
    unfold FnL at h2
    obtain ⟨e, es', rfl, ⟨sv', av, h3, h4, h5⟩, h6⟩ := h2
    have hpl : pre.length < es.length := by subst he; simp
    obtain ⟨p', k', ts', q1, q2⟩ := AppSt.step e30 z30 (by decide) (by decide) ha (by omega) S.htoks (.agg [sv'])
    obtain ⟨fv, r1, r2⟩ := ih (l0 ++ [f.sort]) h6 (pre ++ [e]) (by simp [he]) q2 (hl0.snoc h4) (by simp [hlen])
    refine ⟨fv, vref03_Place_L1_of ?_, by simpa using r2⟩
    unfold vref03_Place_L1_b
    rw [show decide ((pre.length : Int) < (es.length : Int)) = true from by subst he; exact lt_more pre e es', if_pos rfl, h1.elt he, okCells_agg _ (PV.proj_length e 5), h3]
    simp only [Option.bind_some, c1]
    rw [q1]
    simp only [Option.bind_some]
    rw [q2.one, idx_next pre e es' (by rw [← he]; exact hm)]
    exact r1
theorem elt_fn {es pre suf : List PV} {e v sv av : PV} {s : PV} {k n : Int} (h1 : Sl 5 es v) (he : es = pre ++ e :: suf) (h3 : e.proj 5 = [s, sv, .int .i64 k, .int .i64 n, av]) (S : Option St) {α : Type} (K : PV × Option Tk → Option α) :
    ((iadr 5 v (pre.length : Int)).bind fun y => (fadrV 1 y).bind fun y2 => (fadrV 0 y2).bind fun y3 => (ldV S false 1 y3).bind K) = K (sv, none) := by
  obtain ⟨a, ha⟩ := h1.iadr he
  rw [ha, h3]
  rfl
theorem place'_run (funs : List Vir.Fn) {ses : List PV} {sv v : PV} (hs : Sl 2 ses sv) {es pre suf : List PV} {e : PV} (h1 : Sl 5 es v) (h2 : FnL funs es) (he : es = pre ++ e :: suf) {f : Vir.Fn} {sv' av : PV}
    (h3 : e.proj 5 = [.str f.name, sv', .int .i64 f.body.k, .int .i64 f.body.i, av]) (h4 : SrtV f.sort sv') (hl : funs.length < 1000000000) (S : St) :
    ∃ fv, R true n_vref03_Place [.agg [sv, v], .int .i64 pre.length] S = some (.agg [sv, fv, sv'], S) ∧ SrtV (.mk (funs.map (·.sort))) fv := by
  obtain ⟨fv, r1, r2⟩ := place'L_run funs [] h1 h2 [] rfl (AppSt.nil 1) (by unfold SrtL; rfl) rfl (by rw [h2.len]; exact hl) sv sv' S
  refine ⟨fv, vref03_Place_of ?_, r2⟩
  unfold vref03_Place_b
  rw [elt_fn h1 he h3]
  simp only [Option.bind_some]
  rw [hs.ok1, srtV_ok h4, h1.len, hs.cell0, srtV_c0 h4]
  exact r1
section
variable {syms : List Sym} {funs : List Vir.Fn} {ses fes : List PV} {sv fv : PV}
theorem scheme_J4 (S0 : St) (seen : List ByteArray) (i n : Int) (sv fv : PV) (b : Bool) {K : Int} (hK : scheme_Check_L2 true S0 sv fv n (IntKind.wrap .i64 (i + 1)) (S0.withMap (nameEs seen)) = some (.int .i64 K, S0)) :
    scheme_Check_J4 true S0 sv fv n i b (S0.withMap (nameEs seen)) = some (.int .i64 (if b then 7 else K), S0) := by
  refine scheme_Check_J4_of ?_
  unfold scheme_Check_J4_b
  cases b with
  | true => rw [if_pos rfl, fin_map _ rfl]; rfl
  | false => rw [if_neg (by decide), hK]; rfl
theorem scheme_L2 (h0 : ∀ x ∈ syms, 0 ≤ x.2 ∧ x.2 ≤ 4) (hs1 : Sl 2 ses sv) (hs2 : SymL syms ses) (hf1 : Sl 5 fes fv) (hf2 : FnL funs fes) (hl : funs.length < 1000000000) (S : St) (seen : List ByteArray) (l : List Vir.Fn) {es' : List PV} (h2 : FnL l es') (pre : List PV) (he : fes = pre ++ es') :
    scheme_Check_L2 true S sv fv fes.length pre.length (S.withMap (nameEs seen)) = some (.int .i64 (if l.all (bodyP syms funs) then 0 else 7), S) := by
  induction l generalizing es' pre with
  | nil =>
    refine scheme_Check_L2_of ?_
    unfold scheme_Check_L2_b
    unfold FnL at h2
    subst h2
    rw [show decide ((pre.length : Int) < (fes.length : Int)) = false from by subst he; exact lt_done pre, if_neg (by decide), fin_map _ rfl]
    rfl
  | cons f l ih =>
    have hm := hf1.max
    unfold FnL at h2
    obtain ⟨e, es', rfl, ⟨sv', av, h3, h4, h5⟩, h6⟩ := h2
    have hnext : scheme_Check_L2 true S sv fv fes.length (IntKind.wrap .i64 ((pre.length : Int) + 1)) (S.withMap (nameEs seen)) = some (.int .i64 (if l.all (bodyP syms funs) then 0 else 7), S) := by
      rw [idx_next pre e es' (by rw [← he]; exact hm)]
      exact ih h6 (pre ++ [e]) (by simp [he])
    have hJ3 : ∀ b : Bool, scheme_Check_J3 true S sv fv (.str f.name) sv' (.int .i64 f.body.k) (.int .i64 f.body.i) av fes.length pre.length b (S.withMap (nameEs seen)) =
        some (.int .i64 (if !b && bodyE Srt.same (hd syms (funs.map (·.sort)) f.sort.args) f.body && l.all (bodyP syms funs) then 0 else 7), S) := by
      intro b
      refine scheme_Check_J3_of ?_
      unfold scheme_Check_J3_b
      cases b with
      | true => rw [if_pos rfl, fin_map _ rfl]; rfl
      | false =>
        obtain ⟨pes, p1, p2⟩ := srtV_mk (srtV_args h4)
        obtain ⟨gv, r1, r2⟩ := place_s_run funs hs1 ⟨fes, hf1, hf2⟩ p1 hl (S.withMap (nameEs seen))
        rw [if_neg (by decide), r1]
        simp only [Option.bind_some]
        obtain ⟨u, hu, hv⟩ := of_run ⟨⟨ses, hs1, hs2⟩, r2, srtV_args h4, h0⟩ f.body h5 (S.withMap (nameEs seen))
        rw [hu]
        simp only [Option.bind_some, chkT0, chkT1, getT0, getT1, Abs.asBool, okCells_agg _ (show [u].length = 1 from rfl), c0]
        rw [bodyE]
        cases hx : f.body.of Srt.same (hd syms (funs.map (·.sort)) f.sort.args) with
        | none =>
          rw [if_pos (by rfl), scheme_J4 S seen _ _ _ _ _ hnext]
          rfl
        | some x =>
          cases x with
          | mk xl =>
          obtain ⟨xes, x1, x2⟩ := srtV_mk (hv _ hx)
          rw [if_neg (by simp), x1.len]
          simp only [Option.bind_some]
          rw [scheme_J4 S seen _ _ _ _ _ hnext, x2.len]
          cases xl with
          | nil => simp [Srt.args]
          | cons y xl =>
            simp [Srt.args]
    refine scheme_Check_L2_of ?_
    unfold scheme_Check_L2_b
    rw [show decide ((pre.length : Int) < (fes.length : Int)) = true from by subst he; exact lt_more pre e es', if_pos rfl, hf1.elt he, okCells_agg _ (PV.proj_length e 5), h3]
    simp only [Option.bind_some, c0, c1, c2, c3, c4]
    rw [tsize2_run f.body h5]
    simp only [Option.bind_some, chkT0, chkT1, getT0, getT1, intOf, if_true]
    simp only [hJ3]
    rw [List.all_cons, bodyP]
    by_cases c : f.body.size.1 > 400
    · rw [if_pos (decide_eq_true c), decide_eq_true c]
      simp
    · rw [if_neg (show ¬ decide (f.body.size.1 > 400) = true from by simpa using c), decide_eq_false c, Bool.false_or]
theorem scheme_L1 (h0 : ∀ x ∈ syms, 0 ≤ x.2 ∧ x.2 ≤ 4) (hs1 : Sl 2 ses sv) (hs2 : SymL syms ses) (hf1 : Sl 5 fes fv) (hf2 : FnL funs fes) (hl : funs.length < 1000000000) (S : St) (l : List Vir.Fn) (seen : List ByteArray) {es' : List PV} (h2 : FnL l es') (pre : List PV) (he : fes = pre ++ es') :
    scheme_Check_L1 true S sv fv S.objs.length fes.length pre.length (S.withMap (nameEs seen)) = some (.int .i64 (if funP seen l && funs.all (bodyP syms funs) then 0 else 7), S) := by
  induction l generalizing es' pre seen with
  | nil =>
    refine scheme_Check_L1_of ?_
    unfold scheme_Check_L1_b
    unfold FnL at h2
    subst h2
    rw [show decide ((pre.length : Int) < (fes.length : Int)) = false from by subst he; exact lt_done pre, if_neg (by decide), hf1.len]
    simp only [Option.bind_some]
    rw [funP, Bool.true_and]
    exact scheme_L2 h0 hs1 hs2 hf1 hf2 hl S seen funs hf2 [] rfl
  | cons f l ih =>
    have hm := hf1.max
    unfold FnL at h2
    obtain ⟨e, es', rfl, ⟨sv', av, h3, h4, h5⟩, h6⟩ := h2
    have hJ2 : ∀ b : Bool, (b = false → hasN seen f.name = false) → scheme_Check_J2 true S sv fv S.objs.length (.str f.name) sv' (.int .i64 f.body.k) (.int .i64 f.body.i) av fes.length pre.length b (S.withMap (nameEs seen)) =
        some (.int .i64 (if !b && (funP (seen ++ [f.name]) l && funs.all (bodyP syms funs)) then 0 else 7), S) := by
      intro b hb
      refine scheme_Check_J2_of ?_
      unfold scheme_Check_J2_b
      cases b with
      | true => rw [if_pos rfl, fin_map _ rfl]; rfl
      | false =>
        rw [if_neg (by decide), upName u9 S f.name seen (hb rfl)]
        simp only [Option.bind_some]
        rw [idx_next pre e es' (by rw [← he]; exact hm)]
        exact ih (seen ++ [f.name]) h6 (pre ++ [e]) (by simp [he])
    refine scheme_Check_L1_of ?_
    unfold scheme_Check_L1_b
    rw [show decide ((pre.length : Int) < (fes.length : Int)) = true from by subst he; exact lt_more pre e es', if_pos rfl, hf1.elt he, okCells_agg _ (PV.proj_length e 5), h3]
    simp only [Option.bind_some, c0, c1, c2, c3, c4]
    rw [name_run]
    simp only [Option.bind_some, Abs.asBool]
    rw [funP]
    cases nameE f.name with
    | false => rw [if_pos (by decide), hJ2 true (fun h => by cases h)]; rfl
    | true =>
      rw [if_neg (by decide), mapEs_with]
      simp only [Option.bind_some]
      rw [findName u9, hasN_eq]
      simp only [Option.bind_some]
      cases hh : hasN seen f.name with
      | true =>
        rw [if_pos rfl]
        simp only [Option.getD_some, Abs.asBool, Option.bind_some]
        rw [if_pos trivial, hJ2 true (fun h => by cases h)]; rfl
      | false =>
        rw [if_neg (by decide)]
        simp only [Option.getD_none, Abs.asBool, Option.bind_some]
        rw [if_neg (by decide), check_run f.sort h4]
        simp only [Option.bind_some, intOf, if_true]
        rw [hJ2 _ (fun _ => hh)]
        by_cases c : f.sort.check = 0 <;> simp [c]
theorem scheme_run (hs : SymV syms sv) (hf : FnV funs fv) (S : St) : R true n_scheme_Check [.agg [sv, fv]] S = some (.int .i64 (if schE syms funs then 0 else 7), S) := by
  obtain ⟨ses, hs1, hs2⟩ := hs
  obtain ⟨fes, hf1, hf2⟩ := hf
  refine scheme_Check_of ?_
  unfold scheme_Check_b
  have hbad : scheme_Check_J1 true S sv fv true S = some (.int .i64 7, S) := by
    refine scheme_Check_J1_of ?_
    unfold scheme_Check_J1_b
    rw [if_pos rfl, fin_self]
  rw [hs1.len, schE]
  simp only [Option.bind_some]
  rw [hs2.len]
  by_cases c1 : (syms.length : Int) > 24
  · rw [if_pos (decide_eq_true c1), hbad]; simp [c1]
  · rw [if_neg (show ¬ decide ((syms.length : Int) > 24) = true from by simpa using c1), decide_eq_false c1, syms_run syms ⟨ses, hs1, hs2⟩]
    simp only [Option.bind_some, Abs.asBool]
    cases hc2 : symsE syms with
    | false => rw [if_pos (by decide), hbad]; rfl
    | true =>
      have h0 := symP_rank syms [] (by rw [symsE, Bool.and_eq_true] at hc2; exact hc2.1)
      rw [if_neg (by decide), hf1.len]
      simp only [Option.bind_some]
      rw [hf2.len]
      by_cases c3 : (funs.length : Int) = 0
      · rw [if_pos (by simpa using c3), hbad]; simp [c3]
      · rw [if_neg (show ¬ ((funs.length : Int) == 0) = true from by simpa using c3), decide_eq_false c3]
        by_cases c4 : (funs.length : Int) > 64
        · rw [if_pos (decide_eq_true c4), hbad]; simp [c4]
        · rw [if_neg (show ¬ decide ((funs.length : Int) > 64) = true from by simpa using c4), decide_eq_false c4]
          cases funs with
          | nil => simp at c3
          | cons f funs =>
          have hf2' := hf2
          unfold FnL at hf2'
          obtain ⟨e, es', rfl, ⟨sv', av, h3, h4, h5⟩, h6⟩ := hf2'
          obtain ⟨pes, p1, p2⟩ := srtV_mk (srtV_args h4)
          have := elt_fn (K := fun y5 => (lenSl y5.1).bind fun n4 => scheme_Check_J1 true S sv fv (decide (n4 > 0)) S) hf1 (pre := []) rfl h3 (some S)
          refine Eq.trans this ?_
          rw [p1.len]
          simp only [Option.bind_some]
          rw [arity0, p2.len]
          have hJ : ∀ b : Bool, scheme_Check_J1 true S sv fv b S = some (.int .i64 (if !b && (funP [] (f :: funs) && (f :: funs).all (bodyP syms (f :: funs))) then 0 else 7), S) := by
            intro b
            cases b with
            | true => rw [hbad]; rfl
            | false =>
              refine scheme_Check_J1_of ?_
              unfold scheme_Check_J1_b
              rw [if_neg (by decide), hf1.len]
              simp only [Option.bind_some]
              exact scheme_L1 h0 hs1 hs2 hf1 hf2 (by omega) S (f :: funs) [] hf2 [] rfl
          rw [hJ]
          rfl
end
end Go.Proofs.YtjdknnlhhenpnaaGreatDoor
namespace Go.Vir
open Go Go.Abs
def ranksS (l : List Sym) : List Int := l.map (·.2)
def pairE (syms : List Sym) (funs : List Vir.Fn) (rks : List Int) (start : Int) (moves : List (List (List (List Nd)))) : Int :=
  if schE syms funs then (if autoE rks start moves ≠ 0 then autoE rks start moves else if decide (ranksS syms = rks) then 0 else 2) else 7
def pairR (syms : List Sym) (funs : List Vir.Fn) (rks : List Int) (start : Int) (moves : List (List (List (List Nd)))) : Int :=
  if schR syms funs then (if autoR rks start moves then (if decide (ranksS syms = rks) then 0 else 2) else 10) else 7
theorem pair_eq (syms : List Sym) (funs : List Vir.Fn) (h : ∀ f ∈ funs, f.sort.n < 4611686018427387904 ∧ f.body.sh.n < 4611686018427387904) (rks : List Int) (start : Int) (moves : List (List (List (List Nd)))) :
    pairE syms funs rks start moves = pairR syms funs rks start moves := by
  rw [pairE, pairR, sch_eq syms funs h, auto_eq]
  cases schR syms funs <;> cases autoR rks start moves <;> simp
end Go.Vir
namespace Go.Proofs.YtjdknnlhhenpnaaGreatDoor
open Go Go.Abs Go.Vir
section
variable {syms : List Sym} {funs : List Vir.Fn} {ses fes : List PV} {sv fv : PV}
theorem is_J3 (S : St) (i n : Int) (sv fv : PV) (b : Bool) {K : Bool} (hK : vref03_Is_L3 true S sv fv n (IntKind.wrap .i64 (i + 1)) S = some (.bool K, S)) :
    vref03_Is_J3 true S sv fv n i b S = some (.bool (!b && K), S) := by
  refine vref03_Is_J3_of ?_
  unfold vref03_Is_J3_b
  cases b with
  | true => rw [if_pos rfl, fin_self]; rfl
  | false => rw [if_neg (by decide), hK]; rfl
theorem is_L3 (h0 : ∀ x ∈ syms, 0 ≤ x.2 ∧ x.2 ≤ 4) (hs1 : Sl 2 ses sv) (hs2 : SymL syms ses) (hf1 : Sl 5 fes fv) (hf2 : FnL funs fes) (hl : funs.length < 1000000000) (S : St) (l : List Vir.Fn) {es' : List PV} (h2 : FnL l es') (pre : List PV) (he : fes = pre ++ es') :
    vref03_Is_L3 true S sv fv fes.length pre.length S = some (.bool (l.all (bodyR syms funs)), S) := by
  induction l generalizing es' pre with
  | nil =>
    refine vref03_Is_L3_of ?_
    unfold vref03_Is_L3_b
    unfold FnL at h2
    subst h2
    rw [show decide ((pre.length : Int) < (fes.length : Int)) = false from by subst he; exact lt_done pre, if_neg (by decide), fin_self]
    rfl
  | cons f l ih =>
    have hm := hf1.max
    unfold FnL at h2
    obtain ⟨e, es', rfl, ⟨sv', av, h3, h4, h5⟩, h6⟩ := h2
    have hnext : vref03_Is_L3 true S sv fv fes.length (IntKind.wrap .i64 ((pre.length : Int) + 1)) S = some (.bool (l.all (bodyR syms funs)), S) := by
      rw [idx_next pre e es' (by rw [← he]; exact hm)]
      exact ih h6 (pre ++ [e]) (by simp [he])
    refine vref03_Is_L3_of ?_
    unfold vref03_Is_L3_b
    rw [show decide ((pre.length : Int) < (fes.length : Int)) = true from by subst he; exact lt_more pre e es', if_pos rfl, hf1.elt he, okCells_agg _ (PV.proj_length e 5), h3]
    simp only [Option.bind_some, c0, c1, c2, c3, c4]
    obtain ⟨gv, r1, r2⟩ := place'_run funs hs1 hf1 hf2 he h3 h4 hl S
    rw [r1]
    simp only [Option.bind_some]
    obtain ⟨u, hu, hv⟩ := sort'_run ⟨⟨ses, hs1, hs2⟩, r2, srtV_args h4, h0⟩ f.body h5 S
    rw [hu]
    simp only [Option.bind_some, chkT0, chkT1, getT0, getT1, Abs.asBool, okCells_agg _ (show [u].length = 1 from rfl), c0]
    rw [List.all_cons, bodyR, bodyE]
    cases hx : f.body.of Srt.eq (hd syms (funs.map (·.sort)) f.sort.args) with
    | none =>
      rw [if_pos (by rfl), is_J3 S _ _ _ _ _ hnext]
      rfl
    | some x =>
      cases x with
      | mk xl =>
      obtain ⟨xes, x1, x2⟩ := srtV_mk (hv _ hx)
      rw [if_neg (by simp), x1.len]
      simp only [Option.bind_some]
      rw [is_J3 S _ _ _ _ _ hnext, x2.len]
      cases xl with
      | nil => simp [Srt.args]
      | cons y xl => simp [Srt.args]
theorem isQ_run (x : ByteArray) (k1 k2 k3 k4 : PV) (l : List Vir.Fn) {es es' : List PV} {y16 : PV} (h1 : Sl 5 es y16) (h2 : FnL l es') (ipre : List PV) (he : es = ipre ++ es') (sv fv : PV) (y14 y15 : Int) (k : Option Tk) (S : St) {K : Bool}
    (hK : vref03_Is_L1 true S sv fv y14 (IntKind.wrap .i64 (y15 + 1)) S = some (.bool K, S)) :
    vref03_Is_L2 true S sv fv (.str x) k1 k2 k3 k4 y14 y15 y16 k es.length ipre.length S = some (.bool (!hasN (l.map (·.name)) x && K), S) := by
  induction l generalizing es' ipre with
  | nil =>
    refine vref03_Is_L2_of ?_
    unfold vref03_Is_L2_b
    unfold FnL at h2
    subst h2
    rw [show decide ((ipre.length : Int) < (es.length : Int)) = false from by subst he; exact lt_done ipre, if_neg (by decide), hK]
    rfl
  | cons y l ih =>
    refine vref03_Is_L2_of ?_
    unfold vref03_Is_L2_b
    have hm := h1.max
    unfold FnL at h2
    obtain ⟨e, es', rfl, ⟨sv', av, h3, _, _⟩, h4⟩ := h2
    rw [show decide ((ipre.length : Int) < (es.length : Int)) = true from by subst he; exact lt_more ipre e es', if_pos rfl, h1.elt he, okCells_agg _ (PV.proj_length e 5), h3]
    simp only [Option.bind_some, c0]
    rw [eql_str]
    simp only [Option.bind_some]
    rw [List.map_cons, hasN, List.any_cons]
    by_cases c : x = y.name
    · rw [if_pos (decide_eq_true c), fin_self, decide_eq_true c]; rfl
    · rw [if_neg (show ¬ decide (x = y.name) = true from by simpa using c), decide_eq_false c, Bool.false_or, idx_next ipre e es' (by rw [← he]; exact hm)]
      exact ih h4 (ipre ++ [e]) (by simp [he])
theorem is_L1 (h0 : ∀ x ∈ syms, 0 ≤ x.2 ∧ x.2 ≤ 4) (hs1 : Sl 2 ses sv) (hs2 : SymL syms ses) (hf1 : Sl 5 fes fv) (hf2 : FnL funs fes) (hpos : 0 < funs.length) (hl : funs.length < 1000000000) (S : St) (l lp : List Vir.Fn) {es' : List PV} (h2 : FnL l es') (pre : List PV) (hp : FnL lp pre) (he : fes = pre ++ es') :
    vref03_Is_L1 true S sv fv fes.length pre.length S = some (.bool (funR (lp.map (·.name)) l && (!decide ((arity0 funs : Int) > 0) && funs.all (bodyR syms funs))), S) := by
  induction l generalizing es' pre lp with
  | nil =>
    refine vref03_Is_L1_of ?_
    unfold vref03_Is_L1_b
    unfold FnL at h2
    subst h2
    rw [show decide ((pre.length : Int) < (fes.length : Int)) = false from by subst he; exact lt_done pre, if_neg (by decide), funR, Bool.true_and]
    cases funs with
    | nil => simp at hpos
    | cons f funs =>
    have hf2' := hf2
    unfold FnL at hf2'
    obtain ⟨e, es', he', ⟨sv', av, h3, h4, h5⟩, h6⟩ := hf2'
    obtain ⟨pes, p1, p2⟩ := srtV_mk (srtV_args h4)
    refine Eq.trans (elt_fn (K := fun y25 => (lenSl y25.1).bind fun n5 => if decide (n5 > 0) = true then some (fin true S (.bool false) S) else (lenSl fv).bind fun n6 => vref03_Is_L3 true S sv fv n6 0 S) hf1 (pre := []) he' h3 (some S)) ?_
    rw [p1.len]
    simp only [Option.bind_some]
    rw [arity0, p2.len]
    by_cases c : (f.sort.args.length : Int) > 0
    · rw [if_pos (decide_eq_true c), fin_self, decide_eq_true c]; rfl
    · rw [if_neg (show ¬ decide ((f.sort.args.length : Int) > 0) = true from by simpa using c), decide_eq_false c, hf1.len]
      simp only [Option.bind_some]
      exact is_L3 h0 hs1 hs2 hf1 hf2 hl S (f :: funs) hf2 [] rfl
  | cons f l ih =>
    have hm := hf1.max
    unfold FnL at h2
    obtain ⟨e, es', rfl, ⟨sv', av, h3, h4, h5⟩, h6⟩ := h2
    have hJ2 : ∀ b : Bool, vref03_Is_J2 true S sv fv pre.length (.str f.name) sv' (.int .i64 f.body.k) (.int .i64 f.body.i) av fes.length b S =
        some (.bool (!b && (!hasN (lp.map (·.name)) f.name && (funR (lp.map (·.name) ++ [f.name]) l && (!decide ((arity0 funs : Int) > 0) && funs.all (bodyR syms funs))))), S) := by
      intro b
      refine vref03_Is_J2_of ?_
      unfold vref03_Is_J2_b
      cases b with
      | true => rw [if_pos rfl, fin_self]; rfl
      | false =>
        obtain ⟨u, hu, hs⟩ := slc_pre hf1 he
        rw [if_neg (by decide), hu]
        simp only [Option.bind_some]
        rw [hs.len]
        simp only [Option.bind_some]
        have hn : vref03_Is_L1 true S sv fv fes.length (IntKind.wrap .i64 ((pre.length : Int) + 1)) S = some (.bool (funR (lp.map (·.name) ++ [f.name]) l && (!decide ((arity0 funs : Int) > 0) && funs.all (bodyR syms funs))), S) := by
          rw [idx_next pre e es' (by rw [← he]; exact hm)]
          have := ih (lp ++ [f]) h6 (pre ++ [e]) (hp.append (by unfold FnL; exact ⟨e, [], rfl, ⟨sv', av, h3, h4, h5⟩, by unfold FnL; rfl⟩)) (by simp [he])
          simpa using this
        exact isQ_run f.name sv' (.int .i64 f.body.k) (.int .i64 f.body.i) av lp hs hp [] rfl sv fv fes.length pre.length none S hn
    refine vref03_Is_L1_of ?_
    unfold vref03_Is_L1_b
    rw [show decide ((pre.length : Int) < (fes.length : Int)) = true from by subst he; exact lt_more pre e es', if_pos rfl, hf1.elt he, okCells_agg _ (PV.proj_length e 5), h3]
    simp only [Option.bind_some, c0, c1, c2, c3, c4]
    rw [name'_run]
    simp only [Option.bind_some, Abs.asBool]
    rw [funR, is_run f.sort h4]
    simp only [Option.bind_some, Abs.asBool]
    rw [tnodes2_run f.body h5]
    simp only [Option.bind_some, intOf, if_true]
    rw [tdepth_run f.body h5]
    simp only [Option.bind_some, intOf, if_true, hJ2]
    cases nameE f.name with
    | false => rfl
    | true =>
      rw [if_neg (by decide)]
      cases f.sort.is with
      | false => rfl
      | true =>
        rw [if_neg (by decide)]
        by_cases c : f.body.sh.nodes 400 > 400
        · rw [if_pos (decide_eq_true c), decide_eq_true c]; rfl
        · rw [if_neg (show ¬ decide (f.body.sh.nodes 400 > 400) = true from by simpa using c), decide_eq_false c]
          cases hasN (lp.map (·.name)) f.name <;> cases decide (f.body.sh.depth > 30) <;> simp
theorem isSch_run (hs : SymV syms sv) (hf : FnV funs fv) (S : St) : R true n_vref03_Is [.agg [sv, fv]] S = some (.bool (schR syms funs), S) := by
  have hs0 := hs
  obtain ⟨ses, hs1, hs2⟩ := hs
  obtain ⟨fes, hf1, hf2⟩ := hf
  refine vref03_Is_of ?_
  unfold vref03_Is_b
  have hbad : vref03_Is_J1 true S sv fv true S = some (.bool false, S) := by
    refine vref03_Is_J1_of ?_
    unfold vref03_Is_J1_b
    rw [if_pos rfl, fin_self]
  rw [schR, syms'_run syms hs0]
  simp only [Option.bind_some, Abs.asBool]
  cases hc2 : symsE syms with
  | false => rw [if_pos (by decide), hbad]; rfl
  | true =>
    have h0 := symP_rank syms [] (by rw [symsE, Bool.and_eq_true] at hc2; exact hc2.1)
    rw [if_neg (by decide), hf1.len]
    simp only [Option.bind_some]
    rw [hf2.len]
    by_cases c3 : (funs.length : Int) < 1
    · rw [if_pos (decide_eq_true c3), hbad]; simp [c3]
    · rw [if_neg (show ¬ decide ((funs.length : Int) < 1) = true from by simpa using c3), decide_eq_false c3]
      by_cases c4 : (funs.length : Int) > 64
      · rw [decide_eq_true c4, hbad]; rfl
      · rw [decide_eq_false c4]
        refine vref03_Is_J1_of ?_
        unfold vref03_Is_J1_b
        rw [if_neg (by decide), hf1.len]
        simp only [Option.bind_some]
        exact is_L1 h0 hs1 hs2 hf1 hf2 (by omega) (by omega) S funs [] hf2 [] (by unfold FnL; rfl) rfl
theorem ranksL_run (l : List Sym) (l0 : List Int) {es es' acc : List PV} {v : PV} (h1 : Sl 2 es v) (h2 : SymL l es') (pre : List PV) (he : es = pre ++ es') {p2 : PV} {k2 : Option Tk} {ts : Toks} (ha : AppSt 1 acc p2 k2 ts) (hl0 : IntL l0 acc) (hlen : acc.length = pre.length) (hs : es.length < 1000000000)
    (S : St) : ∃ rv, scheme_Ranks_L1 true S v es.length p2 k2 pre.length ts S = some (.tup [rv, .int .i64 0], S) ∧ IntV (l0 ++ ranksS l) rv := by
  induction l generalizing es' pre l0 acc p2 k2 ts with
  | nil =>
    unfold SymL at h2
    subst h2
    have hpl : es.length = pre.length := by subst he; simp
    refine ⟨p2, scheme_Ranks_L1_of ?_, acc, ha.sl (by omega), by simpa [ranksS] using hl0⟩
    unfold scheme_Ranks_L1_b
    rw [show decide ((pre.length : Int) < (es.length : Int)) = false from by subst he; exact lt_done pre, if_neg (by decide), fin_self]
  | cons x l ih =>
    have hm := h1.max
    unfold SymL at h2
    obtain ⟨e, es', rfl, h3, h6⟩ := h2
    have hpl : pre.length < es.length := by subst he; simp
    obtain ⟨p', k', ts', q1, q2⟩ := AppSt.step e26 z26 (by decide) (by decide) ha (by omega) S.htoks (.int .i64 x.2)
    obtain ⟨rv, r1, r2⟩ := ih (l0 ++ [x.2]) h6 (pre ++ [e]) (by simp [he]) q2 (hl0.snoc rfl) (by simp [hlen])
    refine ⟨rv, scheme_Ranks_L1_of ?_, by simpa [ranksS] using r2⟩
    unfold scheme_Ranks_L1_b
    rw [show decide ((pre.length : Int) < (es.length : Int)) = true from by subst he; exact lt_more pre e es', if_pos rfl, h1.elt he, okCells_agg _ (PV.proj_length e 2), h3]
    simp only [Option.bind_some, c1]
    rw [show chk ((PV.int .i64 x.2).okCells 1) = some () from rfl, show (PV.int .i64 x.2).cell 0 = .int .i64 x.2 from rfl]
    simp only [Option.bind_some]
    rw [q1]
    simp only [Option.bind_some]
    rw [idx_next pre e es' (by rw [← he]; exact hm)]
    exact r1
theorem ranks_run (hs : SymV syms sv) (hf : FnV funs fv) (S : St) : if schE syms funs then ∃ rv, R true n_scheme_Ranks [.agg [sv, fv]] S = some (.tup [rv, .int .i64 0], S) ∧ IntV (ranksS syms) rv
    else R true n_scheme_Ranks [.agg [sv, fv]] S = some (.tup [.snil, .int .i64 7], S) := by
  have hr := scheme_run hs hf S
  obtain ⟨ses, hs1, hs2⟩ := hs
  cases hc : schE syms funs with
  | true =>
    rw [hc] at hr
    have hlen : syms.length ≤ 24 := by
      unfold schE at hc
      simp only [Bool.and_eq_true, Bool.not_eq_true', Bool.or_eq_false_iff, decide_eq_false_iff_not] at hc
      omega
    obtain ⟨rv, r1, r2⟩ := ranksL_run syms [] hs1 hs2 [] rfl (AppSt.nil 1) rfl rfl (by rw [hs2.len]; omega) S
    rw [if_pos rfl]
    refine ⟨rv, scheme_Ranks_of ?_, by simpa using r2⟩
    unfold scheme_Ranks_b
    rw [hr]
    simp only [Option.bind_some, intOf, if_true]
    rw [if_neg (by decide), hs1.len]
    exact r1
  | false =>
    rw [hc] at hr
    rw [if_neg (by decide)]
    refine scheme_Ranks_of ?_
    unfold scheme_Ranks_b
    rw [hr]
    simp only [Option.bind_some, intOf, if_true]
    rw [if_pos (by decide), fin_self]
    rfl
theorem ranks'L_run (l : List Sym) (l0 : List Int) {es es' acc : List PV} {v : PV} (h1 : Sl 2 es v) (h2 : SymL l es') (pre : List PV) (he : es = pre ++ es') {p2 : PV} {k2 : Option Tk} {ts : Toks} (ha : AppSt 1 acc p2 k2 ts) (hl0 : IntL l0 acc) (hlen : acc.length = pre.length) (hs : es.length < 1000000000)
    (S : St) : ∃ rv, vref06_RanksOf_L1 true S v es.length p2 k2 pre.length ts S = some (rv, S) ∧ IntV (l0 ++ ranksS l) rv := by
  induction l generalizing es' pre l0 acc p2 k2 ts with
  | nil =>
    unfold SymL at h2
    subst h2
    have hpl : es.length = pre.length := by subst he; simp
    refine ⟨p2, vref06_RanksOf_L1_of ?_, acc, ha.sl (by omega), by simpa [ranksS] using hl0⟩
    unfold vref06_RanksOf_L1_b
    rw [show decide ((pre.length : Int) < (es.length : Int)) = false from by subst he; exact lt_done pre, if_neg (by decide), fin_self]
  | cons x l ih =>
    have hm := h1.max
    unfold SymL at h2
    obtain ⟨e, es', rfl, h3, h6⟩ := h2
    have hpl : pre.length < es.length := by subst he; simp
    obtain ⟨p', k', ts', q1, q2⟩ := AppSt.step e26 z26 (by decide) (by decide) ha (by omega) S.htoks (.int .i64 x.2)
    obtain ⟨rv, r1, r2⟩ := ih (l0 ++ [x.2]) h6 (pre ++ [e]) (by simp [he]) q2 (hl0.snoc rfl) (by simp [hlen])
    refine ⟨rv, vref06_RanksOf_L1_of ?_, by simpa [ranksS] using r2⟩
    unfold vref06_RanksOf_L1_b
    rw [show decide ((pre.length : Int) < (es.length : Int)) = true from by subst he; exact lt_more pre e es', if_pos rfl, h1.elt he, okCells_agg _ (PV.proj_length e 2), h3]
    simp only [Option.bind_some, c1]
    rw [show chk ((PV.int .i64 x.2).okCells 1) = some () from rfl, show (PV.int .i64 x.2).cell 0 = .int .i64 x.2 from rfl]
    simp only [Option.bind_some]
    rw [q1]
    simp only [Option.bind_some]
    rw [idx_next pre e es' (by rw [← he]; exact hm)]
    exact r1
theorem ranks'_run (hs : SymV syms sv) (hl : syms.length < 1000000000) (S : St) : ∃ rv, R true n_vref06_RanksOf [sv] S = some (rv, S) ∧ IntV (ranksS syms) rv := by
  obtain ⟨ses, hs1, hs2⟩ := hs
  obtain ⟨rv, r1, r2⟩ := ranks'L_run syms [] hs1 hs2 [] rfl (AppSt.nil 1) rfl rfl (by rw [hs2.len]; omega) S
  refine ⟨rv, vref06_RanksOf_of ?_, by simpa using r2⟩
  unfold vref06_RanksOf_b
  rw [hs1.len]
  exact r1
end
theorem eqIL_run (l m : List Int) (hlm : l.length = m.length) {es es' : List PV} {v : PV} (h1 : Sl 1 es v) (h2 : IntL l es') (pre : List PV) (he : es = pre ++ es') {fs fs' : List PV} {w : PV} (g1 : Sl 1 fs w) (g2 : IntL m fs') (qre : List PV) (hf : fs = qre ++ fs') (hq : pre.length = qre.length) (S : St) :
    slices_Equal_of_int_L1 true S v w es.length pre.length S = some (.bool (decide (l = m)), S) := by
  induction l generalizing es' fs' pre qre m with
  | nil =>
    cases m with
    | cons b m => simp at hlm
    | nil =>
    unfold IntL at h2
    subst h2
    refine slices_Equal_of_int_L1_of ?_
    unfold slices_Equal_of_int_L1_b
    subst he
    rw [lt_done, if_neg (by decide), fin_self]
    rfl
  | cons a l ih =>
    cases m with
    | nil => simp at hlm
    | cons b m =>
    unfold IntL at h2 g2
    obtain ⟨e, es', rfl, h3, h4⟩ := h2
    obtain ⟨f, fs', rfl, g3, g4⟩ := g2
    refine slices_Equal_of_int_L1_of ?_
    unfold slices_Equal_of_int_L1_b
    have hm := h1.max
    rw [show decide ((pre.length : Int) < (es.length : Int)) = true from by subst he; exact lt_more pre e es', if_pos rfl, eltI h1 he h3, hq, eltI g1 hf g3]
    by_cases c : a = b
    · rw [if_neg (by simpa using c), ← hq, idx_next pre e es' (by rw [← he]; exact hm), ih m (by simpa using hlm) h4 (pre ++ [e]) (by simp [he]) g4 (qre ++ [f]) (by simp [hf]) (by simp [hq])]
      simp [c]
    · rw [if_pos (by simpa using c), fin_self]
      simp [c]
theorem eqI_run (l m : List Int) {v w : PV} (h : IntV l v) (h' : IntV m w) (S : St) : R true n_slices_Equal_of_int [v, w] S = some (.bool (decide (l = m)), S) := by
  obtain ⟨es, h1, h2⟩ := h
  obtain ⟨fs, g1, g2⟩ := h'
  refine slices_Equal_of_int_of ?_
  unfold slices_Equal_of_int_b
  rw [h1.len, g1.len]
  simp only [Option.bind_some]
  by_cases c : l.length = m.length
  · rw [if_neg (by rw [h2.len, g2.len, c]; simp)]
    exact eqIL_run l m c h1 h2 [] rfl g1 g2 [] rfl rfl S
  · rw [if_pos (by rw [h2.len, g2.len]; simp; omega), fin_self, decide_eq_false (fun e => c (by rw [e]))]
theorem eqI'L_run (l m : List Int) (hlm : l.length = m.length) {es es' : List PV} {v : PV} (h1 : Sl 1 es v) (h2 : IntL l es') (pre : List PV) (he : es = pre ++ es') {fs fs' : List PV} {w : PV} (g1 : Sl 1 fs w) (g2 : IntL m fs') (qre : List PV) (hf : fs = qre ++ fs') (hq : pre.length = qre.length) (S : St) :
    vref09_SameRanks_L1 true S v w es.length pre.length S = some (.bool (decide (l = m)), S) := by
  induction l generalizing es' fs' pre qre m with
  | nil =>
    cases m with
    | cons b m => simp at hlm
    | nil =>
    unfold IntL at h2
    subst h2
    refine vref09_SameRanks_L1_of ?_
    unfold vref09_SameRanks_L1_b
    subst he
    rw [lt_done, if_neg (by decide), fin_self]
    rfl
  | cons a l ih =>
    cases m with
    | nil => simp at hlm
    | cons b m =>
    unfold IntL at h2 g2
    obtain ⟨e, es', rfl, h3, h4⟩ := h2
    obtain ⟨f, fs', rfl, g3, g4⟩ := g2
    refine vref09_SameRanks_L1_of ?_
    unfold vref09_SameRanks_L1_b
    have hm := h1.max
    rw [show decide ((pre.length : Int) < (es.length : Int)) = true from by subst he; exact lt_more pre e es', if_pos rfl, eltI h1 he h3, hq, eltI g1 hf g3]
    by_cases c : a = b
    · rw [if_neg (by simpa using c), ← hq, idx_next pre e es' (by rw [← he]; exact hm), ih m (by simpa using hlm) h4 (pre ++ [e]) (by simp [he]) g4 (qre ++ [f]) (by simp [hf]) (by simp [hq])]
      simp [c]
    · rw [if_pos (by simpa using c), fin_self]
      simp [c]
theorem eqI'_run (l m : List Int) {v w : PV} (h : IntV l v) (h' : IntV m w) (S : St) : R true n_vref09_SameRanks [v, w] S = some (.bool (decide (l = m)), S) := by
  obtain ⟨es, h1, h2⟩ := h
  obtain ⟨fs, g1, g2⟩ := h'
  refine vref09_SameRanks_of ?_
  unfold vref09_SameRanks_b
  rw [h1.len, g1.len]
  simp only [Option.bind_some]
  by_cases c : l.length = m.length
  · rw [if_neg (by rw [h2.len, g2.len, c]; simp)]
    exact eqI'L_run l m c h1 h2 [] rfl g1 g2 [] rfl rfl S
  · rw [if_pos (by rw [h2.len, g2.len]; simp; omega), fin_self, decide_eq_false (fun e => c (by rw [e]))]
section
variable {syms : List Sym} {funs : List Vir.Fn} {sv fv rv mv : PV} {rks : List Int} {moves : List (List (List (List Nd)))}
theorem pair_run (hs : SymV syms sv) (hf : FnV funs fv) (start : Int) (hr : IntV rks rv) (hm : LiV (LiV (LiV NdV)) moves mv) (S : St) :
    R true n_judge_Pair [.agg [sv, fv], .agg [rv, .int .i64 start, mv]] S = some (.int .i64 (pairE syms funs rks start moves), S) := by
  refine judge_Pair_of ?_
  unfold judge_Pair_b
  have h := ranks_run hs hf S
  rw [pairE]
  cases hc : schE syms funs with
  | false =>
    rw [hc, if_neg (by decide)] at h
    rw [h]
    simp only [Option.bind_some, chkT0, chkT1, getT0, getT1, intOf, if_true]
    rw [if_pos (by decide), fin_self]
    rfl
  | true =>
    rw [hc, if_pos rfl] at h
    obtain ⟨gv, h1, h2⟩ := h
    rw [h1]
    simp only [Option.bind_some, chkT0, chkT1, getT0, getT1, intOf, if_true]
    rw [if_neg (by decide), auto_run rks start moves hr hm]
    simp only [Option.bind_some, intOf, if_true]
    by_cases c : autoE rks start moves = 0
    · rw [if_neg (by simpa using c), if_neg (show ¬ (autoE rks start moves ≠ 0) from by simpa using c), eqI_run _ rks h2 hr]
      simp only [Option.bind_some, Abs.asBool]
      rw [fin_self, fin_self]
      cases decide (ranksS syms = rks) <;> rfl
    · rw [if_pos (by simpa using c), if_pos c, fin_self]
theorem pair'_run (hs : SymV syms sv) (hf : FnV funs fv) (start : Int) (hr : IntV rks rv) (hm : LiV (LiV (LiV NdV)) moves mv) (S : St) :
    R true n_vref14_Pair [.agg [sv, fv], .agg [rv, .int .i64 start, mv]] S = some (.int .i64 (pairR syms funs rks start moves), S) := by
  refine vref14_Pair_of ?_
  unfold vref14_Pair_b
  rw [pairR, isSch_run hs hf]
  simp only [Option.bind_some, Abs.asBool]
  cases hc : schR syms funs with
  | false => rw [if_pos (by decide), fin_self]; rfl
  | true =>
    have hlen : syms.length ≤ 24 := by
      unfold schR symsE at hc
      simp only [Bool.and_eq_true, Bool.not_eq_true', Bool.or_eq_false_iff, decide_eq_false_iff_not, Bool.not_eq_false', decide_eq_true_eq] at hc
      omega
    rw [if_neg (by decide), isAuto_run rks start moves hr hm]
    simp only [Option.bind_some, Abs.asBool]
    cases autoR rks start moves with
    | false => rw [if_pos (by decide), fin_self]; rfl
    | true =>
      obtain ⟨gv, h1, h2⟩ := ranks'_run hs (by omega) S
      rw [if_neg (by decide), h1]
      simp only [Option.bind_some]
      rw [eqI'_run _ rks h2 hr]
      simp only [Option.bind_some, Abs.asBool]
      rw [fin_self, fin_self]
      cases decide (ranksS syms = rks) <;> rfl
end
end Go.Proofs.YtjdknnlhhenpnaaGreatDoor
namespace Go.Vir
open Go Go.Abs
theorem BndL.len : ∀ {l : List Bnd} {es : List PV}, BndL l es → es.length = l.length
  | [], _, h => by unfold BndL at h; subst h; rfl
  | a :: l, _, h => by
    unfold BndL at h
    obtain ⟨e, es', rfl, _, h⟩ := h
    simp [h.len]
theorem FnL.split : ∀ {l : List Vir.Fn} {es : List PV} (n : Nat), FnL l es → n < l.length → ∃ pre e suf f sv av, es = pre ++ e :: suf ∧ pre.length = n ∧ l[n]? = some f ∧
    e.proj 5 = [.str f.name, sv, .int .i64 f.body.k, .int .i64 f.body.i, av] ∧ SrtV f.sort sv ∧ TrmV f.body av
  | [], _, n, _, hn => by simp at hn
  | a :: l, _, 0, h, _ => by
    unfold FnL at h
    obtain ⟨e, es', rfl, ⟨sv, av, h1, h2, h3⟩, h4⟩ := h
    exact ⟨[], e, es', a, sv, av, rfl, rfl, rfl, h1, h2, h3⟩
  | a :: l, _, n + 1, h, hn => by
    unfold FnL at h
    obtain ⟨e, es', rfl, _, h2⟩ := h
    obtain ⟨pre, e', suf, f, sv, av, rfl, hp, hs⟩ := h2.split n (by simpa using hn)
    exact ⟨e :: pre, e', suf, f, sv, av, rfl, by simp [hp], by simpa using hs⟩
def boundW (p : Srt → Typ → Bool) (funs : List Vir.Fn) (b : Bnd) : Bool := if b.1 ≥ 0 then (if b.1 < (funs.length : Int) then (match funs[b.1.toNat]? with | some f => p f.sort b.2 | none => false) else false) else false
def boundE (funs : List Vir.Fn) (q : Int) : Bnd → Bool := boundW (fun s t => checkE s q t == 0) funs
def boundR (funs : List Vir.Fn) (q : Int) : Bnd → Bool := boundW (fun s t => isE s q t) funs
def setsE (q : Int) : List Srt → List (List Typ) → Int → Int
  | p :: l, s :: a, K => if checkSetE p q s ≠ 0 then checkSetE p q s else setsE q l a K
  | _, _, K => K
def setsR (q : Int) : List Srt → List (List Typ) → Bool
  | p :: l, s :: a => isSetE p q s && setsR q l a
  | _, _ => true
def bindsE (funs : List Vir.Fn) (q : Int) (l : List Bnd) : Int := if (l.length : Int) > 4096 then 12 else if l.any (fun b => !boundE funs q b) then 12 else 0
def bindsR (funs : List Vir.Fn) (q : Int) (l : List Bnd) : Int := if (l.length : Int) > 4096 then 12 else if l.all (boundR funs q) then 0 else 12
def knownE (funs : List Vir.Fn) (q : Int) (params : List Srt) (sets : List (List Typ)) (binds : List Bnd) : Int :=
  if params.any (fun p => decide (p.check ≠ 0)) then 6 else if decide ((params.length : Int) > 8) || decide ((sets.length : Int) ≠ (params.length : Int)) then 2 else setsE q params sets (bindsE funs q binds)
def knownR (funs : List Vir.Fn) (q : Int) (params : List Srt) (sets : List (List Typ)) (binds : List Bnd) : Int :=
  if params.all (·.is) then (if decide ((params.length : Int) > 8) || decide ((sets.length : Int) ≠ (params.length : Int)) then 2 else if setsR q params sets then bindsR funs q binds else 12) else 6
structure Small (funs : List Vir.Fn) (params : List Srt) (sets : List (List Typ)) (binds : List Bnd) : Prop where
  f : ∀ f ∈ funs, f.sort.n < 4611686018427387904 ∧ f.body.sh.n < 4611686018427387904
  p : ∀ p ∈ params, p.n < 4611686018427387904
  s : ∀ l ∈ sets, ∀ t ∈ l, t.n < 4611686018427387904
  b : ∀ b ∈ binds, b.2.n < 4611686018427387904
theorem place_ok {s : Srt} {q : Int} (hs : s.check = 0) (h1 : 1 ≤ q) (h2 : q ≤ 6) : placeE s q = 0 := by
  rw [placeE, if_neg (by simpa using hs), if_neg (by omega), if_neg (by omega)]
theorem checkSet_eq {s : Srt} {q : Int} {l : List Typ} (hs : s.check = 0) (h1 : 1 ≤ q) (h2 : q ≤ 6) (hl : ∀ t ∈ l, t.n < 4611686018427387904) : checkSetE s q l = if isSetE s q l then 0 else 12 := by
  rw [checkSetE, place_ok hs h1 h2, if_neg (by decide), isSetE]
  have : (l.any fun t => t.large) = !(l.all fun t => !t.large') := by
    induction l with
    | nil => rfl
    | cons t l ih =>
      rw [List.any_cons, List.all_cons, ih (fun t ht => hl t (by simp [ht])), large_eq t (hl t (by simp)), large'_eq t (hl t (by simp))]
      cases decide (2000 < t.n) <;> simp
  rw [this]
  by_cases c : (l.length : Int) > 4096
  · rw [if_pos c, decide_eq_false (by omega)]; simp
  · rw [if_neg c, decide_eq_true (by omega)]
    cases (l.all fun t => !t.large') <;> cases Typ.fitT l none s q <;> simp
theorem check1_eq {s : Srt} {q : Int} {t : Typ} (hs : s.check = 0) (h1 : 1 ≤ q) (h2 : q ≤ 6) (hl : t.n < 4611686018427387904) : (checkE s q t == 0) = isE s q t := by
  rw [checkE, place_ok hs h1 h2, if_neg (by decide), isE, large_eq t hl, large'_eq t hl]
  cases decide (2000 < t.n) <;> cases t.fits s q <;> simp
theorem sets_eq {q : Int} (h1 : 1 ≤ q) (h2 : q ≤ 6) (K : Int) : ∀ (ps : List Srt) (sets : List (List Typ)), (∀ p ∈ ps, p.check = 0) → (∀ l ∈ sets, ∀ t ∈ l, t.n < 4611686018427387904) → setsE q ps sets K = if setsR q ps sets then K else 12
  | [], _, _, _ => by simp [setsE, setsR]
  | _ :: _, [], _, _ => by simp [setsE, setsR]
  | p :: ps, s :: sets, hp, hs => by
    rw [setsE, setsR, checkSet_eq (hp p (by simp)) h1 h2 (hs s (by simp)), sets_eq h1 h2 K ps sets (fun x hx => hp x (by simp [hx])) (fun x hx => hs x (by simp [hx]))]
    cases isSetE p q s <;> simp
theorem known_eq {syms : List Sym} {funs : List Vir.Fn} {q : Int} (h1 : 1 ≤ q) (h2 : q ≤ 6) (params : List Srt) (sets : List (List Typ)) (binds : List Bnd) (h : Small funs params sets binds) (hsch : schE syms funs = true) :
    knownE funs q params sets binds = knownR funs q params sets binds := by
  have hf : ∀ f ∈ funs, f.sort.check = 0 := by
    have hp : funP [] funs = true := by
      rw [schE, Bool.and_eq_true, Bool.and_eq_true] at hsch
      exact hsch.2.1
    have : ∀ (l : List Vir.Fn) (seen : List ByteArray), funP seen l = true → ∀ f ∈ l, f.sort.check = 0 := by
      intro l
      induction l with
      | nil => intro _ _ f hf; simp at hf
      | cons g l ih =>
        intro seen hg f hf
        rw [funP, Bool.and_eq_true] at hg
        rcases List.mem_cons.1 hf with rfl | hf
        · have := hg.1
          simp at this
          exact this.2.2
        · exact ih _ hg.2 f hf
    exact this funs [] hp
  have hpar : (params.any fun p => decide (p.check ≠ 0)) = !params.all (·.is) := by
    have := h.p
    clear h
    induction params with
    | nil => rfl
    | cons p l ih =>
      rw [List.any_cons, List.all_cons, ih (fun x hx => this x (by simp [hx])), check_eq p (this p (by simp))]
      cases p.is <;> simp
  rw [knownE, knownR, hpar]
  cases hall : params.all (·.is) with
  | false => rfl
  | true =>
    rw [if_neg (by decide), if_pos rfl]
    split
    · rfl
    · rw [sets_eq h1 h2 _ params sets (fun p hp => by
        rw [check_eq p (h.p p hp), if_pos]
        exact List.all_eq_true.1 hall p hp) h.s]
      have hb : ∀ b ∈ binds, boundE funs q b = boundR funs q b := by
        intro b hb
        rw [boundE, boundR, boundW, boundW]
        cases hg : funs[b.1.toNat]? with
        | none => rfl
        | some f =>
          dsimp only
          rw [check1_eq (hf f (List.mem_of_getElem? hg)) h1 h2 (h.b b hb)]
      have hany : (binds.any fun b => !boundE funs q b) = !binds.all (boundR funs q) := by
        clear h
        induction binds with
        | nil => rfl
        | cons b l ih =>
          rw [List.any_cons, List.all_cons, ih (fun x hx => hb x (by simp [hx])), hb b (by simp)]
          cases boundR funs q b <;> simp
      have : bindsE funs q binds = bindsR funs q binds := by
        rw [bindsE, bindsR, hany]
        cases binds.all (boundR funs q) <;> simp
      rw [this]
end Go.Vir
namespace Go.Proofs.YtjdknnlhhenpnaaGreatDoor
open Go Go.Abs Go.Vir
section
variable {syms : List Sym} {funs : List Vir.Fn} {sv fv rv mv : PV} {rks : List Int} {moves : List (List (List (List Nd)))}
theorem elt_sort (hf : FnV funs fv) {n : Int} (h0 : 0 ≤ n) (h1 : n < (funs.length : Int)) (S : Option St) : ∃ f u, funs[n.toNat]? = some f ∧ SrtV f.sort u ∧
    ∀ {α : Type} (K : PV → Option α), ((iadr 5 fv n).bind fun y => (fadrV 1 y).bind fun y => (ldP S true 1 y).bind K) = K (.agg [u]) := by
  obtain ⟨es, g1, g2⟩ := hf
  obtain ⟨pre, e, suf, f, u, av, he, hp, hs, h3, h4, h5⟩ := g2.split n.toNat (by omega)
  refine ⟨f, u, hs, h4, fun K => ?_⟩
  obtain ⟨a, ha⟩ := g1.iadr he
  rw [hp, show ((n.toNat : Nat) : Int) = n from by omega] at ha
  rw [ha, h3]
  rfl
theorem bound_run (hf : FnV funs fv) (hm : LiV (LiV (LiV NdV)) moves mv) (rv : PV) (start : Int) (b : Bnd) {av : PV} (hb : TypV b.2 av) (S : St) :
    R true n_judge_Bound [.agg [sv, fv], .agg [rv, .int .i64 start, mv], .agg [.int .i64 b.1, .int .i64 b.2.st, av]] S = some (.bool (boundE funs moves.length b), S) := by
  refine judge_Bound_of ?_
  unfold judge_Bound_b
  rw [boundE, boundW]
  have hf0 := hf
  obtain ⟨fes, f1, f2⟩ := hf
  obtain ⟨mes, m1, m2⟩ := hm
  by_cases c1 : b.1 ≥ 0
  · rw [if_pos (decide_eq_true c1), if_pos c1, f1.len]
    simp only [Option.bind_some]
    rw [f2.len]
    by_cases c2 : b.1 < (funs.length : Int)
    · obtain ⟨f, u, e1, e2, e3⟩ := elt_sort hf0 c1 c2 (some S)
      rw [if_pos (decide_eq_true c2), if_pos c2, e3, m1.len, e1]
      simp only [Option.bind_some]
      rw [tcheck_run f.sort _ b.2 e2 hb]
      simp only [Option.bind_some, intOf, if_true]
      rw [fin_self, m2.len]
    · rw [if_neg (by simpa using c2), if_neg c2, fin_self]
  · rw [if_neg (by simpa using c1), if_neg c1, fin_self]
theorem bound'_run (hf : FnV funs fv) (hm : LiV (LiV (LiV NdV)) moves mv) (rv : PV) (start : Int) (b : Bnd) {av : PV} (hb : TypV b.2 av) (S : St) :
    R true n_vref14_Bind [.agg [sv, fv], .agg [rv, .int .i64 start, mv], .agg [.int .i64 b.1, .int .i64 b.2.st, av]] S = some (.bool (boundR funs moves.length b), S) := by
  refine vref14_Bind_of ?_
  unfold vref14_Bind_b
  rw [boundR, boundW]
  have hf0 := hf
  obtain ⟨fes, f1, f2⟩ := hf
  obtain ⟨mes, m1, m2⟩ := hm
  by_cases c1 : b.1 ≥ 0
  · rw [if_pos (decide_eq_true c1), if_pos c1, f1.len]
    simp only [Option.bind_some]
    rw [f2.len]
    by_cases c2 : b.1 < (funs.length : Int)
    · obtain ⟨f, u, e1, e2, e3⟩ := elt_sort hf0 c1 c2 (some S)
      rw [if_pos (decide_eq_true c2), if_pos c2, e3, m1.len, e1]
      simp only [Option.bind_some]
      rw [tis_run f.sort _ b.2 e2 hb]
      simp only [Option.bind_some, Abs.asBool]
      rw [fin_self, m2.len]
    · rw [if_neg (by simpa using c2), if_neg c2, fin_self]
  · rw [if_neg (by simpa using c1), if_neg c1, fin_self]
theorem idxS_run (l : List Srt) {xs xs' : List PV} {v : PV} (h1 : Sl 1 xs v) (h2 : SrtL l xs') (pre : List PV) (he : xs = pre ++ xs') (S : St) :
    slices_IndexFunc_of_api_Sort_L1 true S v (.fn n_judge_Check_1 []) xs.length pre.length S = some (.int .i64 (idxP (fun p : Srt => decide (p.check ≠ 0)) l pre.length), S) := by
  induction l generalizing xs' pre with
  | nil =>
    refine slices_IndexFunc_of_api_Sort_L1_of ?_
    unfold slices_IndexFunc_of_api_Sort_L1_b
    unfold SrtL at h2
    subst h2
    subst he
    rw [lt_done, if_neg (by decide), idxP, fin_self]
  | cons t l ih =>
    refine slices_IndexFunc_of_api_Sort_L1_of ?_
    unfold slices_IndexFunc_of_api_Sort_L1_b
    have hm := h1.max
    unfold SrtL at h2
    obtain ⟨e, xs', rfl, h3, h5⟩ := h2
    subst he
    have hb : R true n_judge_Check_1 [.agg [e.cell 0]] S = some (.bool (decide (t.check ≠ 0)), S) := by
      refine judge_Check_1_of ?_
      unfold judge_Check_1_b
      rw [check_run t h3]
      simp only [Option.bind_some, intOf, if_true]
      rw [fin_self]
      by_cases c : t.check = 0 <;> simp [c]
    rw [lt_more, if_pos rfl, h1.elt rfl, show e.proj 1 = [e.cell 0] from rfl]
    simp only [callV, List.append_nil]
    rw [hb]
    simp only [Option.bind_some, Abs.asBool]
    rw [idxP]
    by_cases c : t.check = 0
    · rw [if_neg (by simpa using c), if_neg (by simpa using c), idx_next pre e xs' hm]
      have := ih h5 (pre ++ [e]) (by simp)
      simpa using this
    · rw [if_pos (by simpa using c), if_pos (by simpa using c), fin_self]
theorem containsS_run (l : List Srt) {v : PV} (h : SrtV (.mk l) v) (S : St) : R true n_slices_ContainsFunc_of_api_Sort [v, .fn n_judge_Check_1 []] S = some (.bool (l.any fun p => decide (p.check ≠ 0)), S) := by
  obtain ⟨xs, h1, h2⟩ := srtV_mk h
  refine slices_ContainsFunc_of_api_Sort_of ?_
  unfold slices_ContainsFunc_of_api_Sort_b
  have hb : R true n_slices_IndexFunc_of_api_Sort [v, .fn n_judge_Check_1 []] S = some (.int .i64 (idxP (fun p : Srt => decide (p.check ≠ 0)) l 0), S) := by
    refine slices_IndexFunc_of_api_Sort_of ?_
    unfold slices_IndexFunc_of_api_Sort_b
    rw [h1.len]
    simp only [Option.bind_some]
    exact idxS_run l h1 h2 [] rfl S
  rw [hb]
  simp only [Option.bind_some, intOf, if_true]
  rw [fin_self, idxP_any]
theorem idxB_run (p : Bnd → Bool) (c : FuncId) (caps : List PV) {S : St} (hc : ∀ (x : Bnd) (u : PV), TypV x.2 u → R true c (.agg [.int .i64 x.1, .int .i64 x.2.st, u] :: caps) S = some (.bool (p x), S)) (l : List Bnd) {xs xs' : List PV} {v : PV} (h1 : Sl 3 xs v) (h2 : BndL l xs') (pre : List PV) (he : xs = pre ++ xs') :
    slices_IndexFunc_of_api_Bind_L1 true S v (.fn c caps) xs.length pre.length S = some (.int .i64 (idxP p l pre.length), S) := by
  induction l generalizing xs' pre with
  | nil =>
    refine slices_IndexFunc_of_api_Bind_L1_of ?_
    unfold slices_IndexFunc_of_api_Bind_L1_b
    unfold BndL at h2
    subst h2
    subst he
    rw [lt_done, if_neg (by decide), idxP, fin_self]
  | cons t l ih =>
    refine slices_IndexFunc_of_api_Bind_L1_of ?_
    unfold slices_IndexFunc_of_api_Bind_L1_b
    have hm := h1.max
    unfold BndL at h2
    obtain ⟨e, xs', rfl, ⟨u, h3, h4⟩, h5⟩ := h2
    subst he
    rw [lt_more, if_pos rfl, h1.elt rfl, h3]
    simp only [callV, List.cons_append, List.nil_append]
    rw [hc t u h4]
    simp only [Option.bind_some, Abs.asBool]
    rw [idxP]
    cases p t with
    | true => rw [if_pos rfl, if_pos rfl, fin_self]
    | false =>
      rw [if_neg (by decide), if_neg (by decide), idx_next pre e xs' hm]
      have := ih h5 (pre ++ [e]) (by simp)
      simpa using this
theorem containsB_run (p : Bnd → Bool) (c : FuncId) (caps : List PV) {S : St} (hc : ∀ (x : Bnd) (u : PV), TypV x.2 u → R true c (.agg [.int .i64 x.1, .int .i64 x.2.st, u] :: caps) S = some (.bool (p x), S)) (l : List Bnd) {v : PV} (h : BndV l v) :
    R true n_slices_ContainsFunc_of_api_Bind [v, .fn c caps] S = some (.bool (l.any p), S) := by
  obtain ⟨xs, h1, h2⟩ := h
  refine slices_ContainsFunc_of_api_Bind_of ?_
  unfold slices_ContainsFunc_of_api_Bind_b
  have hb : R true n_slices_IndexFunc_of_api_Bind [v, .fn c caps] S = some (.int .i64 (idxP p l 0), S) := by
    refine slices_IndexFunc_of_api_Bind_of ?_
    unfold slices_IndexFunc_of_api_Bind_b
    rw [h1.len]
    simp only [Option.bind_some]
    exact idxB_run p c caps hc l h1 h2 [] rfl
  rw [hb]
  simp only [Option.bind_some, intOf, if_true]
  rw [fin_self, idxP_any]
structure Objs (S0 S : St) (id id' : Nat) (sv fv rv mv : PV) (start : Int) : Prop where
  ext : Ext S0 S
  s : S.objs[id]? = some (.cells [(sv, none), (fv, none)])
  a : S.objs[id']? = some (.cells [(rv, none), (.int .i64 start, none), (mv, none)])
theorem Objs.ldS {S0 S : St} {id id' : Nat} {sv fv rv mv : PV} {start : Int} (h : Objs S0 S id id' sv fv rv mv start) : ldP (some S) true 2 (.ref id 0) = some (.agg [sv, fv]) := by
  simp [ldP, ldV, h.s, Abs.part, aggV]
theorem Objs.ldA {S0 S : St} {id id' : Nat} {sv fv rv mv : PV} {start : Int} (h : Objs S0 S id id' sv fv rv mv start) : ldP (some S) true 3 (.ref id' 0) = some (.agg [rv, .int .i64 start, mv]) := by
  simp [ldP, ldV, h.a, Abs.part, aggV]
theorem Objs.ldM {S0 S : St} {id id' : Nat} {sv fv rv mv : PV} {start : Int} (h : Objs S0 S id id' sv fv rv mv start) : ldV (some S) false 1 (.ref id' 2) = some (mv, none) := by
  simp [ldV, h.a, Abs.part, aggV]
theorem known_J2 (S0 S : St) (h : Ext S0 S) (b : Bool) : judge_Check_J2 true S0 b S = some (.int .i64 (if b then 12 else 0), S0) := by
  refine judge_Check_J2_of ?_
  unfold judge_Check_J2_b
  cases b with
  | true => rw [if_pos rfl, h.fin rfl]; rfl
  | false => rw [if_neg (by decide), h.fin rfl]; rfl
theorem known_L1 {S0 S : St} {id id' : Nat} {start : Int} (hO : Objs S0 S id id' sv fv rv mv start) (hf : FnV funs fv) (hm : LiV (LiV (LiV NdV)) moves mv) (binds : List Bnd) {bv : PV} (hb : BndV binds bv)
    (ps : List Srt) {pes pes' : List PV} {pv : PV} (p1 : Sl 1 pes pv) (p2 : SrtL ps pes') (pre : List PV) (he : pes = pre ++ pes') (sets : List (List Typ)) (hl : ps.length = sets.length) {es es' : List PV} {xv : PV} (s1 : Sl 1 es xv) (s2 : SetsL sets es') (qre : List PV) (hq : es = qre ++ es') (hpq : pre.length = qre.length) :
    judge_Check_L1 true S0 id id' pv xv bv pes.length pre.length S = some (.int .i64 (setsE moves.length ps sets (bindsE funs moves.length binds)), S0) := by
  induction ps generalizing pes' pre sets es' qre with
  | nil =>
    refine judge_Check_L1_of ?_
    unfold judge_Check_L1_b
    unfold SrtL at p2
    subst p2
    obtain ⟨bes, b1, b2⟩ := hb
    rw [show decide ((pre.length : Int) < (pes.length : Int)) = false from by subst he; exact lt_done pre, if_neg (by decide), b1.len]
    simp only [Option.bind_some]
    rw [b2.len, setsE, bindsE]
    · by_cases c : (binds.length : Int) > 4096
      · rw [if_pos (decide_eq_true c), if_pos c, known_J2 S0 S hO.ext]; rfl
      · rw [if_neg (by simpa using c), if_neg c]
        rw [containsB_run (fun b => !boundE funs moves.length b) n_judge_Check_2 [.ref id 0, .ref id' 0] (fun x u hu => by
          refine judge_Check_2_of ?_
          unfold judge_Check_2_b
          rw [hO.ldS, hO.ldA]
          simp only [Option.bind_some]
          rw [bound_run hf hm rv start x hu S]
          simp only [Option.bind_some, Abs.asBool]
          rw [fin_self]) binds ⟨bes, b1, b2⟩]
        simp only [Option.bind_some, Abs.asBool]
        rw [known_J2 S0 S hO.ext]
    · intro p l s a h; cases h
  | cons p l ih =>
    cases sets with
    | nil => simp at hl
    | cons s sets =>
    have hmx := p1.max
    unfold SrtL at p2
    unfold SetsL at s2
    obtain ⟨e, pes', rfl, h3, h4⟩ := p2
    obtain ⟨e', es', rfl, ⟨xs, g3, g4⟩, g5⟩ := s2
    obtain ⟨mes, m1, m2⟩ := hm
    refine judge_Check_L1_of ?_
    unfold judge_Check_L1_b
    rw [show decide ((pre.length : Int) < (pes.length : Int)) = true from by subst he; exact lt_more pre e pes', if_pos rfl, p1.elt he, show e.proj 1 = [e.cell 0] from rfl]
    rw [okCells_agg _ (show [e.cell 0].length = 1 from rfl), hO.ldM, c0]
    simp only [Option.bind_some]
    rw [m1.len]
    simp only [Option.bind_some]
    rw [hpq, s1.eltV hq]
    dsimp only
    rw [tcheckSet_run p _ s h3 ⟨xs, g3, g4⟩]
    simp only [Option.bind_some, intOf, if_true]
    rw [m2.len, setsE]
    by_cases c : checkSetE p moves.length s = 0
    · rw [if_neg (by simpa using c), if_neg (show ¬ (checkSetE p moves.length s ≠ 0) from by simpa using c), ← hpq, idx_next pre e pes' (by rw [← he]; exact hmx)]
      exact ih h4 (pre ++ [e]) (by simp [he]) sets (by simpa using hl) g5 (qre ++ [e']) (by simp [hq]) (by simp [hpq])
    · rw [if_pos (by simpa using c), if_pos c, hO.ext.fin rfl]
structure KnV (params : List Srt) (sets : List (List Typ)) (binds : List Bnd) (pv xv bv : PV) : Prop where
  p : SrtV (.mk params) pv
  s : ∃ es, Sl 1 es xv ∧ SetsL sets es
  b : BndV binds bv
def checkK (syms : List Sym) (funs : List Vir.Fn) (rks : List Int) (start : Int) (moves : List (List (List (List Nd)))) (params : List Srt) (sets : List (List Typ)) (binds : List Bnd) : Int :=
  if pairE syms funs rks start moves ≠ 0 then pairE syms funs rks start moves else knownE funs moves.length params sets binds
def checkR (syms : List Sym) (funs : List Vir.Fn) (rks : List Int) (start : Int) (moves : List (List (List (List Nd)))) (params : List Srt) (sets : List (List Typ)) (binds : List Bnd) : Int :=
  if pairR syms funs rks start moves ≠ 0 then pairR syms funs rks start moves else knownR funs moves.length params sets binds
theorem check_k_run (hs : SymV syms sv) (hf : FnV funs fv) (start : Int) (hr : IntV rks rv) (hm : LiV (LiV (LiV NdV)) moves mv) {params : List Srt} {sets : List (List Typ)} {binds : List Bnd} {pv xv bv : PV} (hk : KnV params sets binds pv xv bv) (S : St) :
    R true n_judge_Check [.agg [sv, fv], .agg [rv, .int .i64 start, mv], .agg [pv, xv, bv]] S = some (.int .i64 (checkK syms funs rks start moves params sets binds), S) := by
  obtain ⟨pes, p1, p2⟩ := srtV_mk hk.p
  obtain ⟨es, s1, s2⟩ := hk.s
  refine judge_Check_of ?_
  unfold judge_Check_b
  have hO : Objs S ((S.new [(sv, none), (fv, none)]).new [(rv, none), (.int .i64 start, none), (mv, none)]) S.objs.length (S.new [(sv, none), (fv, none)]).objs.length sv fv rv mv start := by
    refine ⟨(Ext.new ⟨[], by simp, rfl⟩ _).new _, new_old (by simp [St.new]), by simp [St.new]⟩
  generalize (S.new [(sv, none), (fv, none)]).new [(rv, none), (.int .i64 start, none), (mv, none)] = S2 at hO
  generalize (S.new [(sv, none), (fv, none)]).objs.length = id' at hO
  rw [hO.ldS, hO.ldA]
  simp only [Option.bind_some]
  rw [pair_run hs hf start hr hm]
  simp only [Option.bind_some, intOf, if_true]
  rw [checkK]
  by_cases c : pairE syms funs rks start moves = 0
  · rw [if_neg (by simpa using c), if_neg (show ¬ (pairE syms funs rks start moves ≠ 0) from by simpa using c), containsS_run params hk.p]
    simp only [Option.bind_some, Abs.asBool]
    rw [knownE]
    cases hp : params.any (fun p => decide (p.check ≠ 0)) with
    | true => rw [if_pos rfl, if_pos rfl, hO.ext.fin rfl]
    | false =>
      rw [if_neg (by decide), if_neg (by decide), p1.len, s1.len]
      simp only [Option.bind_some]
      have hJ : ∀ b : Bool, (b = false → params.length = sets.length) → judge_Check_J1 true S S.objs.length id' pv xv bv b S2 = some (.int .i64 (if b then 2 else setsE moves.length params sets (bindsE funs moves.length binds)), S) := by
        intro b hb
        refine judge_Check_J1_of ?_
        unfold judge_Check_J1_b
        cases b with
        | true => rw [if_pos rfl, hO.ext.fin rfl]; rfl
        | false =>
          rw [if_neg (by decide), p1.len]
          simp only [Option.bind_some]
          exact known_L1 hO hf hm binds hk.b params p1 p2 [] rfl sets (hb rfl) s1 s2 [] rfl rfl
      rw [p2.len, s2.len]
      by_cases c1 : (params.length : Int) > 8
      · rw [if_pos (decide_eq_true c1), hJ true (fun h => by cases h), decide_eq_true c1]; rfl
      · rw [if_neg (by simpa using c1), hJ _ (fun h => by simp at h; omega), decide_eq_false c1]
        by_cases c2 : (sets.length : Int) = (params.length : Int)
        · simp [c2]
        · simp [c2]
  · rw [if_pos (by simpa using c), if_pos c, hO.ext.fin rfl]
end
end Go.Proofs.YtjdknnlhhenpnaaGreatDoor
namespace Go.Proofs.YtjdknnlhhenpnaaGreatDoor
open Go Go.Abs Go.Vir
section
variable {syms : List Sym} {funs : List Vir.Fn} {sv fv rv mv : PV} {rks : List Int} {moves : List (List (List (List Nd)))}
theorem ref_L3 (hf : FnV funs fv) (hm : LiV (LiV (LiV NdV)) moves mv) (sv rv : PV) (start : Int) (l : List Bnd) {es es' : List PV} {bv : PV} (h1 : Sl 3 es bv) (h2 : BndL l es') (pre : List PV) (he : es = pre ++ es') (S : St) :
    vref14_Check_L3 true S sv fv rv start mv bv es.length pre.length S = some (.int .i64 (if l.all (boundR funs moves.length) then 0 else 12), S) := by
  induction l generalizing es' pre with
  | nil =>
    refine vref14_Check_L3_of ?_
    unfold vref14_Check_L3_b
    unfold BndL at h2
    subst h2
    rw [show decide ((pre.length : Int) < (es.length : Int)) = false from by subst he; exact lt_done pre, if_neg (by decide), fin_self]
    rfl
  | cons b l ih =>
    have hmx := h1.max
    unfold BndL at h2
    obtain ⟨e, es', rfl, ⟨u, h3, h4⟩, h5⟩ := h2
    refine vref14_Check_L3_of ?_
    unfold vref14_Check_L3_b
    rw [show decide ((pre.length : Int) < (es.length : Int)) = true from by subst he; exact lt_more pre e es', if_pos rfl, h1.elt he, okCells_agg _ (PV.proj_length e 3), h3]
    simp only [Option.bind_some, c0, c1, c2]
    rw [bound'_run hf hm rv start b h4 S]
    simp only [Option.bind_some, Abs.asBool]
    rw [List.all_cons]
    cases boundR funs moves.length b with
    | false => rw [if_pos (by decide), fin_self]; rfl
    | true =>
      rw [if_neg (by decide), idx_next pre e es' (by rw [← he]; exact hmx), Bool.true_and]
      exact ih h5 (pre ++ [e]) (by simp [he])
theorem ref_L2 (hf : FnV funs fv) (hm : LiV (LiV (LiV NdV)) moves mv) (sv rv : PV) (start : Int) (binds : List Bnd) {bv : PV} (hb : BndV binds bv)
    (ps : List Srt) {pes pes' : List PV} {pv : PV} (p1 : Sl 1 pes pv) (p2 : SrtL ps pes') (pre : List PV) (he : pes = pre ++ pes') (sets : List (List Typ)) (hl : ps.length = sets.length) {es es' : List PV} {xv : PV} (s1 : Sl 1 es xv) (s2 : SetsL sets es') (qre : List PV) (hq : es = qre ++ es') (hpq : qre.length = pre.length) (S : St) :
    vref14_Check_L2 true S sv fv rv start mv pv xv bv es.length qre.length S = some (.int .i64 (if setsR moves.length ps sets then bindsR funs moves.length binds else 12), S) := by
  induction sets generalizing pes' pre ps es' qre with
  | nil =>
    refine vref14_Check_L2_of ?_
    unfold vref14_Check_L2_b
    unfold SetsL at s2
    subst s2
    obtain ⟨bes, b1, b2⟩ := hb
    rw [show decide ((qre.length : Int) < (es.length : Int)) = false from by subst hq; exact lt_done qre, if_neg (by decide), b1.len]
    simp only [Option.bind_some]
    have : setsR (moves.length : Int) ps [] = true := by cases ps <;> rfl
    rw [b2.len, this, if_pos rfl, bindsR]
    by_cases c : (binds.length : Int) > 4096
    · rw [if_pos (decide_eq_true c), if_pos c, fin_self]
    · rw [if_neg (by simpa using c), if_neg c, ← b2.len]
      exact ref_L3 hf hm sv rv start binds b1 b2 [] rfl S
  | cons s sets ih =>
    cases ps with
    | nil => simp at hl
    | cons p l =>
    have hmx := s1.max
    unfold SrtL at p2
    unfold SetsL at s2
    obtain ⟨e, pes', rfl, h3, h4⟩ := p2
    obtain ⟨e', es', rfl, ⟨xs, g3, g4⟩, g5⟩ := s2
    have hm0 := hm
    obtain ⟨mes, m1, m2⟩ := hm0
    refine vref14_Check_L2_of ?_
    unfold vref14_Check_L2_b
    rw [show decide ((qre.length : Int) < (es.length : Int)) = true from by subst hq; exact lt_more qre e' es', if_pos rfl, s1.eltV hq]
    dsimp only
    rw [hpq, p1.elt he, show e.proj 1 = [e.cell 0] from rfl, m1.len]
    simp only [Option.bind_some]
    rw [tisSet_run p _ s h3 ⟨xs, g3, g4⟩]
    simp only [Option.bind_some, Abs.asBool]
    rw [m2.len, setsR]
    cases isSetE p moves.length s with
    | false => rw [if_pos (by decide), fin_self]; rfl
    | true =>
      rw [if_neg (by decide), ← hpq, idx_next qre e' es' (by rw [← hq]; exact hmx), Bool.true_and]
      exact ih l h4 (pre ++ [e]) (by simp [he]) (by simpa using hl) g5 (qre ++ [e']) (by simp [hq]) (by simp [hpq])
theorem ref_L1 (hf : FnV funs fv) (hm : LiV (LiV (LiV NdV)) moves mv) (sv rv : PV) (start : Int) {params : List Srt} {sets : List (List Typ)} {binds : List Bnd} {pv xv bv : PV} (hk : KnV params sets binds pv xv bv)
    (ps : List Srt) {pes pes' : List PV} (p1 : Sl 1 pes pv) (p0 : SrtL params pes) (p2 : SrtL ps pes') (pre : List PV) (he : pes = pre ++ pes') (S : St) :
    vref14_Check_L1 true S sv fv rv start mv pv xv bv pre.length S = some (.int .i64 (if ps.all (·.is) then (if decide ((params.length : Int) > 8) || decide ((sets.length : Int) ≠ (params.length : Int)) then 2 else if setsR moves.length params sets then bindsR funs moves.length binds else 12) else 6), S) := by
  induction ps generalizing pes' pre with
  | nil =>
    obtain ⟨es, s1, s2⟩ := hk.s
    refine vref14_Check_L1_of ?_
    unfold vref14_Check_L1_b
    unfold SrtL at p2
    subst p2
    rw [p1.len]
    simp only [Option.bind_some]
    rw [show decide ((pre.length : Int) < (pes.length : Int)) = false from by subst he; exact lt_done pre, if_neg (by decide), s1.len]
    simp only [Option.bind_some]
    rw [p0.len, s2.len]
    have hJ : ∀ b : Bool, (b = false → params.length = sets.length) → vref14_Check_J1 true S sv fv rv start mv pv xv bv b S = some (.int .i64 (if b then 2 else if setsR moves.length params sets then bindsR funs moves.length binds else 12), S) := by
      intro b hb
      refine vref14_Check_J1_of ?_
      unfold vref14_Check_J1_b
      cases b with
      | true => rw [if_pos rfl, fin_self]; rfl
      | false =>
        rw [if_neg (by decide), s1.len]
        simp only [Option.bind_some]
        exact ref_L2 hf hm sv rv start binds hk.b params p1 p0 [] rfl sets (hb rfl) s1 s2 [] rfl rfl S
    rw [List.all_nil, if_pos rfl]
    by_cases c1 : (params.length : Int) > 8
    · rw [if_pos (decide_eq_true c1), hJ true (fun h => by cases h), decide_eq_true c1]; rfl
    · rw [if_neg (by simpa using c1), hJ _ (fun h => by simp at h; omega), decide_eq_false c1]
      by_cases c2 : (sets.length : Int) = (params.length : Int)
      · simp [c2]
      · simp [c2]
  | cons p l ih =>
    have hmx := p1.max
    unfold SrtL at p2
    obtain ⟨e, pes', rfl, h3, h4⟩ := p2
    refine vref14_Check_L1_of ?_
    unfold vref14_Check_L1_b
    rw [p1.len]
    simp only [Option.bind_some]
    rw [show decide ((pre.length : Int) < (pes.length : Int)) = true from by subst he; exact lt_more pre e pes', if_pos rfl, p1.elt he, show e.proj 1 = [e.cell 0] from rfl, is_run p h3]
    simp only [Option.bind_some, Abs.asBool]
    rw [List.all_cons]
    cases p.is with
    | false => rw [if_pos (by decide), fin_self]; rfl
    | true =>
      rw [if_neg (by decide), idx_next pre e pes' (by rw [← he]; exact hmx), Bool.true_and]
      exact ih h4 (pre ++ [e]) (by simp [he])
theorem check_r_run (hs : SymV syms sv) (hf : FnV funs fv) (start : Int) (hr : IntV rks rv) (hm : LiV (LiV (LiV NdV)) moves mv) {params : List Srt} {sets : List (List Typ)} {binds : List Bnd} {pv xv bv : PV} (hk : KnV params sets binds pv xv bv) (S : St) :
    R true n_vref14_Check [.agg [sv, fv], .agg [rv, .int .i64 start, mv], .agg [pv, xv, bv]] S = some (.int .i64 (checkR syms funs rks start moves params sets binds), S) := by
  obtain ⟨pes, p1, p2⟩ := srtV_mk hk.p
  refine vref14_Check_of ?_
  unfold vref14_Check_b
  rw [pair'_run hs hf start hr hm]
  simp only [Option.bind_some, intOf, if_true]
  rw [checkR]
  by_cases c : pairR syms funs rks start moves = 0
  · rw [if_neg (by simpa using c), if_neg (show ¬ (pairR syms funs rks start moves ≠ 0) from by simpa using c)]
    exact ref_L1 hf hm sv rv start hk params p1 p2 p2 [] rfl S
  · rw [if_pos (by simpa using c), if_pos c, fin_self]
theorem check_kr (start : Int) {params : List Srt} {sets : List (List Typ)} {binds : List Bnd} (h : Small funs params sets binds) : checkK syms funs rks start moves params sets binds = checkR syms funs rks start moves params sets binds := by
  rw [checkK, checkR, pair_eq syms funs h.f]
  by_cases c : pairR syms funs rks start moves = 0
  · rw [if_neg (by simpa using c), if_neg (by simpa using c)]
    have hc := c
    rw [pairR] at hc
    cases hs : schR syms funs with
    | false => rw [hs] at hc; simp at hc
    | true =>
      rw [hs, if_pos rfl] at hc
      cases ha : autoR rks start moves with
      | false => rw [ha] at hc; simp at hc
      | true =>
        have hq : 1 ≤ (moves.length : Int) ∧ (moves.length : Int) ≤ 6 := by
          rw [autoR, Bool.and_eq_true] at ha
          have := ha.1
          simp only [Bool.not_eq_true', Bool.or_eq_false_iff, Bool.not_eq_false', decide_eq_false_iff_not] at this
          omega
        exact known_eq hq.1 hq.2 params sets binds h ((sch_eq syms funs h.f).trans hs)
  · rw [if_pos c, if_pos c]
theorem alive_R (S : St) : R true n_vlaw14_alive [] S = some (.bool true, S) := Run_some.2 ⟨1, rfl⟩
theorem given_run {pv xv bv : PV} {params : List Srt} {sets : List (List Typ)} {binds : List Bnd} (hk : KnV params sets binds pv xv bv) (S : St) : R true n_vlaw14_given [.agg [pv, xv, bv]] S = some (.agg [pv, xv, bv], S) := by
  obtain ⟨pes, p1, p2⟩ := srtV_mk hk.p
  obtain ⟨es, s1, s2⟩ := hk.s
  obtain ⟨bes, b1, b2⟩ := hk.b
  refine vlaw14_given_of ?_
  unfold vlaw14_given_b
  rw [p1.ok1, s1.ok1, b1.ok1, p1.cell0, s1.cell0, b1.cell0]
  simp only [Option.bind_some]
  rw [fin_self]
theorem judgeCheck_run (hs : SymV syms sv) (hf : FnV funs fv) (start : Int) (hr : IntV rks rv) (hm : LiV (LiV (LiV NdV)) moves mv) {params : List Srt} {sets : List (List Typ)} {binds : List Bnd} {pv xv bv : PV} (hk : KnV params sets binds pv xv bv)
    (h : Small funs params sets binds) (S : St) : R true n_vlaw14_JudgeCheck [.agg [sv, fv], .agg [rv, .int .i64 start, mv], .agg [pv, xv, bv]] S = some (.bool true, S) := by
  obtain ⟨es, s1, s2⟩ := hk.s
  refine vlaw14_JudgeCheck_of ?_
  unfold vlaw14_JudgeCheck_b
  rw [heavy_run sets binds s1 s2 hk.b]
  simp only [Option.bind_some, Abs.asBool]
  cases decide (hvB binds (hvS sets 0) > 1500) with
  | true =>
    rw [if_pos rfl, alive_R]
    simp only [Option.bind_some, Abs.asBool]
    rw [fin_self]
  | false =>
    rw [if_neg (by decide), given_run hk]
    simp only [Option.bind_some]
    rw [check_k_run hs hf start hr hm hk]
    simp only [Option.bind_some, intOf, if_true]
    rw [check_r_run hs hf start hr hm hk]
    simp only [Option.bind_some, intOf, if_true]
    rw [if_pos (by rw [check_kr start h]; simp), alive_R]
    simp only [Option.bind_some, Abs.asBool]
    rw [fin_self]
end
end Go.Proofs.YtjdknnlhhenpnaaGreatDoor
