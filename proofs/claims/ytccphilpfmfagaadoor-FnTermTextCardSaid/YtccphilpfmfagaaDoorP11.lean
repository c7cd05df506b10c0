import Derived.Test.YtccphilpfmfagaaDoorP10
import Derived.Test.YtccphilpfmfagaaDoorA5
set_option linter.unusedVariables false
set_option linter.unusedSimpArgs false
namespace Go.Abs
open Go
def bnd (R : List UInt8) : Prop := R = [] ∨ ∃ c r, R = c :: r ∧ isBr c = true
def wrd (w : List UInt8) : Prop := w ≠ [] ∧ ∀ c, c ∈ w → isBr c = false
theorem takeW_app {p : UInt8 → Bool} : ∀ (w R : List UInt8), (∀ c, c ∈ w → p c = true) → (R = [] ∨ ∃ c r, R = c :: r ∧ p c = false) → (w ++ R).takeWhile p = w ∧ (w ++ R).dropWhile p = R
 | [], R, _, h => by
  rcases h with rfl | ⟨c, r, rfl, hc⟩
  ·exact ⟨rfl, rfl⟩
  ·simp [hc]
 | c :: w, R, hw, h => by
  obtain ⟨h1, h2⟩ := takeW_app w R (fun d hd => hw d (by simp [hd])) h
  have hc := hw c (by simp)
  simp only [List.cons_append, List.takeWhile_cons, List.dropWhile_cons, hc, if_true, h1, h2, and_self]
theorem isBr_ne {c : UInt8} (h : isBr c = false) : c ≠ 32 ∧ c ≠ 10 ∧ c ≠ 40 ∧ c ≠ 41 ∧ c ≠ 59 := by
 unfold isBr at h
 simp only [Bool.or_eq_false_iff, beq_eq_false_iff_ne, ne_eq] at h
 exact ⟨h.1.1.1.1, h.1.1.1.2, h.1.1.2, h.1.2, h.2⟩
theorem toks_wd {w R : List UInt8} (hw : wrd w) (hR : bnd R) : toks (w ++ R) = w :: toks R := by
 obtain ⟨hne, hall⟩ := hw
 cases w with
 | nil => exact absurd rfl hne
 | cons c w =>
  obtain ⟨n1, n2, n3, n4, n5⟩ := isBr_ne (hall c (by simp))
  have hR' : R = [] ∨ ∃ c r, R = c :: r ∧ noBr c = false := by
   rcases hR with h | ⟨d, r, h, hd⟩
   ·exact .inl h
   ·exact .inr ⟨d, r, h, by unfold noBr; rw [hd]; rfl⟩
  obtain ⟨h1, h2⟩ := takeW_app (p := noBr) w R (fun d hd => by unfold noBr; rw [hall d (by simp [hd])]; rfl) hR'
  rw [List.cons_append, toks_cons, if_neg (fun h => h.elim n1 n2), if_neg n5, if_neg (fun h => h.elim n3 n4), h1, h2]
theorem toks_32 (R : List UInt8) : toks (32 :: R) = toks R := by rw [toks_cons, if_pos (.inl rfl)]
theorem toks_40 (R : List UInt8) : toks (40 :: R) = [40] :: toks R := by rw [toks_cons]; simp
theorem toks_41 (R : List UInt8) : toks (41 :: R) = [41] :: toks R := by rw [toks_cons]; simp
theorem bnd_32 (R : List UInt8) : bnd (32 :: R) := .inr ⟨_, _, rfl, rfl⟩
theorem bnd_41 (R : List UInt8) : bnd (41 :: R) := .inr ⟨_, _, rfl, rfl⟩
def nmB (c : UInt8) : Prop := c.toNat = 45 ∨ (48 ≤ c.toNat ∧ c.toNat ≤ 57) ∨ (97 ≤ c.toNat ∧ c.toNat ≤ 122) ∨ c.toNat = 63 ∨ c.toNat = 46
theorem nmB_br {c : UInt8} (h : nmB c) : isBr c = false := by
 rw [← brI_eq]
 unfold brI
 unfold nmB at h
 simp only [Bool.or_eq_false_iff, decide_eq_false_iff_not]
 omega
theorem nmB_ok {c : UInt8} (h : nmB c) : okB c = true := by
 rw [ok_is]
 unfold nmB at h
 simp only [Bool.or_eq_true, Bool.and_eq_true, decide_eq_true_eq]
 omega
theorem name_byte {s : List UInt8} (h : isName s = true) : ∀ c, c ∈ s → nmB c := by
 intro c hc
 obtain ⟨j, hj⟩ := List.getElem?_of_mem hc
 unfold isName at h
 simp only [Bool.and_eq_true, List.all_eq_true, List.mem_range] at h
 have h1 := h.1.1 j (List.getElem?_eq_some_iff.1 hj).1
 unfold okAt byteAt at h1
 rw [hj] at h1
 simp only [Option.getD_some, Bool.or_eq_true, Bool.and_eq_true, decide_eq_true_eq, bne_iff_ne, ne_eq, beq_iff_eq] at h1
 unfold nmB
 omega
theorem dec_byte (n : Int) : ∀ c, c ∈ dec n → nmB c := by
 intro c hc
 by_cases hn : n < 0
 ·rw [dec_neg hn] at hc
  rcases List.mem_cons.1 hc with rfl | hc
  ·exact .inl rfl
  ·exact .inr (.inl (dec_all _ _ (Nat.le_refl _) c hc))
 ·rw [dec_pos (by omega)] at hc
  exact .inr (.inl (dec_all _ _ (Nat.le_refl _) c hc))
theorem dec_head (n : Int) : ∃ c r, dec n = c :: r ∧ (c.toNat = 45 ∨ (48 ≤ c.toNat ∧ c.toNat ≤ 57)) := by
 by_cases hn : n < 0
 ·exact ⟨_, _, dec_neg hn, .inl rfl⟩
 ·rw [dec_pos (by omega)]
  obtain ⟨c, r, h1, h2, h3⟩ := decDigits_first _ n.toNat (Nat.le_refl _)
  exact ⟨c, r, h1, .inr ⟨h2, h3⟩⟩
theorem name_hd {s : List UInt8} (h : isName s = true) : ∃ c r, s = c :: r ∧ 97 ≤ c.toNat ∧ c.toNat ≤ 122 := by
 have hl := isName_len h
 cases s with
 | nil => simp at hl
 | cons c r =>
  refine ⟨c, r, rfl, ?_⟩
  unfold isName at h
  simp only [Bool.and_eq_true, List.all_eq_true, List.mem_range] at h
  have h1 := h.1.1 0 (by simp)
  unfold okAt byteAt at h1
  simp at h1
  omega
theorem notName {c : UInt8} {r : List UInt8} (h : ¬ (97 ≤ c.toNat ∧ c.toNat ≤ 122)) : isName (c :: r) = false := by
 cases hn : isName (c :: r) with
 | false => rfl
 | true =>
  obtain ⟨d, r', e, h1, h2⟩ := name_hd hn
  cases e
  exact absurd ⟨h1, h2⟩ h
namespace V
def wd : V → List UInt8
 | var n => 63 :: dec n
 | sym s => s
 | num n => dec n
 | _ => []
def leafB : V → Bool
 | var _ => true
 | sym _ => true
 | num _ => true
 | _ => false
def tkp : V → List (List UInt8) × List (List UInt8)
 | nil => ([[40], [41]], [[41]])
 | pair a b => ([40] :: (a.tkp.1 ++ b.tkp.2), a.tkp.1 ++ b.tkp.2)
 | v => ([v.wd], [[46], v.wd, [41]])
def tks (v : V) : List (List UInt8) := v.tkp.1
def tlk (v : V) : List (List UInt8) := v.tkp.2
theorem tks_pair (a b : V) : (pair a b).tks = [40] :: (a.tks ++ b.tlk) := rfl
theorem tlk_pair (a b : V) : (pair a b).tlk = a.tks ++ b.tlk := rfl
theorem tks_leaf {v : V} (h : v.leafB = true) : v.tks = [v.wd] ∧ v.tlk = [[46], v.wd, [41]] ∧ v.txt = v.wd ∧ v.tl = [32, 46, 32] ++ v.wd ++ [41] := by
 cases v <;> first | exact ⟨rfl, rfl, rfl, rfl⟩ | cases h
theorem wd_byte {v : V} (h : v.leafB = true) (hf : v.fine = true) : v.wd ≠ [] ∧ ∀ c, c ∈ v.wd → nmB c := by
 cases v with
 | nil => cases h
 | pair a b => cases h
 | var n =>
  refine ⟨by simp [wd], fun c hc => ?_⟩
  rcases List.mem_cons.1 hc with rfl | hc
  ·exact .inr (.inr (.inr (.inl rfl)))
  ·exact dec_byte n c hc
 | sym s =>
  have := isName_len hf
  refine ⟨fun e => ?_, name_byte hf⟩
  simp only [wd] at e
  rw [e] at this
  simp at this
 | num n =>
  obtain ⟨c, r, h1, _⟩ := dec_head n
  exact ⟨by simp only [wd]; rw [h1]; simp, dec_byte n⟩
theorem wd_wrd {v : V} (h : v.leafB = true) (hf : v.fine = true) : wrd v.wd := by
 obtain ⟨h1, h2⟩ := wd_byte h hf
 exact ⟨h1, fun c hc => nmB_br (h2 c hc)⟩
theorem wd_atom {v : V} (h : v.leafB = true) (hf : v.fine = true) : atom false v.wd = some v ∧ v.wd ≠ [40] ∧ v.wd ≠ [41] ∧ v.wd ≠ [46] := by
 cases v with
 | nil => cases h
 | pair a b => cases h
 | var n =>
  simp [fine] at hf
  refine ⟨?_, by simp [wd], by simp [wd], by simp [wd]⟩
  show atom false (63 :: dec n) = _
  unfold atom
  have hnn : ¬ isName (63 :: dec n) = true := by rw [notName (by decide)]; simp
  rw [if_neg hnn, if_pos (show (63 :: dec n).head? = some 63 from rfl)]
  show (match pInt (dec n) with | some n => if 0 ≤ n ∧ n ≤ 100000 then some (V.var n) else none | none => none) = _
  rw [pInt_dec (by omega) (by omega)]
  simp only [if_pos hf]
 | sym s =>
  obtain ⟨c, r, h1, h2, h3⟩ := name_hd hf
  refine ⟨by (show atom false s = _); unfold atom; rw [if_pos (show isName s = true from hf)], ?_, ?_, ?_⟩ <;>
  ·simp only [wd]
   rw [h1]
   intro e
   have := (List.cons.inj e).1
   rw [this] at h2
   revert h2
   decide
 | num n =>
  simp [fine] at hf
  obtain ⟨c, r, h1, h2⟩ := dec_head n
  have hne : ∀ d : UInt8, d.toNat ≠ 45 → ¬ (48 ≤ d.toNat ∧ d.toNat ≤ 57) → dec n ≠ [d] := fun d k1 k2 e => by
   rw [h1] at e
   have := (List.cons.inj e).1
   rw [this] at h2
   omega
  refine ⟨?_, hne 40 (by decide) (by decide), hne 41 (by decide) (by decide), hne 46 (by decide) (by decide)⟩
  show atom false (dec n) = _
  unfold atom
  have hnn : ¬ isName (dec n) = true := by rw [h1, notName (by omega)]; simp
  rw [if_neg hnn, if_neg (by
   rw [h1]
   simp only [List.head?_cons, Option.some.injEq]
   intro e
   rw [e] at h2
   revert h2
   decide), pInt_dec (by omega) (by omega)]
  simp only [if_pos (Or.inr hf)]
theorem leaf_cases (v : V) : v = nil ∨ v.leafB = true ∨ ∃ a b, v = pair a b := by
 cases v with
 | nil => exact .inl rfl
 | pair a b => exact .inr (.inr ⟨a, b, rfl⟩)
 | _ => exact .inr (.inl rfl)
theorem tl_bnd : ∀ v : V, ∀ R, bnd (v.tl ++ R) := fun v R => by
 cases v with
 | nil => exact bnd_41 R
 | _ => exact bnd_32 _
theorem toks_leaf {v : V} (hv : v.leafB = true) (h : v.fine = true) : (∀ R, bnd R → toks (v.txt ++ R) = v.tks ++ toks R) ∧ ∀ R, toks (v.tl ++ R) = v.tlk ++ toks R := by
 have hw := wd_wrd hv h
 obtain ⟨k1, k2, k3, k4⟩ := tks_leaf hv
 refine ⟨fun R hR => ?_, fun R => ?_⟩
 ·rw [k3, k1, toks_wd hw hR]; rfl
 ·rw [k4, k2]
  have e : [32, 46, 32] ++ v.wd ++ [41] ++ R = 32 :: ([46] ++ (32 :: (v.wd ++ (41 :: R)))) := by simp
  rw [e, toks_32, toks_wd (w := [46]) ⟨by simp, by intro c hc; simp at hc; subst hc; rfl⟩ (bnd_32 _), toks_32, toks_wd hw (bnd_41 _), toks_41]
  rfl
theorem toks_txt : ∀ v : V, v.fine = true → (∀ R, bnd R → toks (v.txt ++ R) = v.tks ++ toks R) ∧ ∀ R, toks (v.tl ++ R) = v.tlk ++ toks R := by
 intro v
 induction v with
 | pair a b iha ihb =>
  intro h
  simp only [fine, Bool.and_eq_true] at h
  obtain ⟨a1, a2⟩ := iha h.1
  obtain ⟨b1, b2⟩ := ihb h.2
  have hab : ∀ R, toks ((a.txt ++ b.tl) ++ R) = (a.tks ++ b.tlk) ++ toks R := fun R => by
   rw [List.append_assoc, a1 _ (tl_bnd b R), b2 R, List.append_assoc]
  refine ⟨fun R _ => ?_, fun R => ?_⟩
  ·rw [txt_pair, tks_pair, List.cons_append, toks_40, hab R]; rfl
  ·rw [tl_pair, tlk_pair, List.cons_append, toks_32, hab R]
 | nil =>
  intro _
  refine ⟨fun R _ => ?_, fun R => ?_⟩
  ·show toks (40 :: 41 :: R) = _
   rw [toks_40, toks_41]; rfl
  ·show toks (41 :: R) = _
   rw [toks_41]; rfl
 | var n => exact toks_leaf (v := .var n) rfl
 | sym s => exact toks_leaf (v := .sym s) rfl
 | num n => exact toks_leaf (v := .num n) rfl
end V
end Go.Abs
set_option linter.unusedVariables false
set_option linter.unusedSimpArgs false
namespace Go.Abs
open Go
theorem drop_hd {α : Type} {T R : List α} {i : Nat} {x : α} (h : T.drop i = x :: R) : T[i]? = some x ∧ T.drop (i + 1) = R ∧ i < T.length := by
 have hl : i < T.length := by
  rcases Nat.lt_or_ge i T.length with k | k
  ·exact k
  ·rw [List.drop_eq_nil_of_le k] at h; cases h
 rw [List.drop_eq_getElem_cons hl] at h
 exact ⟨by rw [List.getElem?_eq_getElem hl, (List.cons.inj h).1], (List.cons.inj h).2, hl⟩
theorem drop_ap {α : Type} {T A R : List α} {i : Nat} (h : T.drop i = A ++ R) : T.drop (i + A.length) = R := by
 rw [← List.drop_drop, h]
 simp
theorem drop_lenA {α : Type} {T A R : List α} {i : Nat} (h : T.drop i = A ++ R) (hi : i ≤ T.length) : i + A.length ≤ T.length := by
 have := congrArg List.length h
 rw [List.length_drop, List.length_append] at this
 omega
namespace V
theorem tks_pos : ∀ v : V, v.fine = true → ∃ w r, v.tks = w :: r ∧ w ≠ [41] ∧ w ≠ [46] := fun v h => by
 rcases leaf_cases v with rfl | hl | ⟨a, b, rfl⟩
 ·exact ⟨[40], [[41]], rfl, by simp, by simp⟩
 ·obtain ⟨k1, k2, k3, k4⟩ := tks_leaf hl
  obtain ⟨m1, m2, m3, m4⟩ := wd_atom hl h
  exact ⟨_, [], k1, m3, m4⟩
 ·exact ⟨[40], _, tks_pair a b, by simp, by simp⟩
theorem rd_leaf {v : V} (hv : v.leafB = true) (hf : v.fine = true) (T : List (List UInt8)) :
  (∀ (i n : Nat) (R : List (List UInt8)), T.drop i = v.tks ++ R → i ≤ T.length → 2 * (T.length - i) + 1 ≤ n → rdT false T n i = some (v, i + v.tks.length)) ∧
  (∀ (j n : Nat) (acc : List V) (R : List (List UInt8)), T.drop j = v.tlk ++ R → j ≤ T.length → 2 * (T.length - j) + 2 ≤ n → (acc ≠ [] ∨ v = nil) → rdL false T n j acc = some (lst acc v, j + v.tlk.length)) := by
 obtain ⟨k1, k2, k3, k4⟩ := tks_leaf hv
 obtain ⟨m1, m2, m3, m4⟩ := wd_atom hv hf
 have rd : ∀ (i n : Nat), T[i]? = some v.wd → 1 ≤ n → rdT false T n i = some (v, i + 1) := fun i n h hn => by
  obtain ⟨n, rfl⟩ : ∃ n', n = n' + 1 := ⟨n - 1, by omega⟩
  rw [rdT_atom h (fun h => h.elim m3 m4) m2, m1]
 rw [k1, k2]
 refine ⟨fun i n R h hi hn => ?_, fun j n acc R h hj hn ha => ?_⟩
 ·obtain ⟨h1, h2, h3⟩ := drop_hd (x := v.wd) (R := R) h
  rw [rd i n h1 (by omega)]; rfl
 ·obtain ⟨n, rfl⟩ : ∃ n', n = n' + 1 := ⟨n - 1, by omega⟩
  obtain ⟨h1, h2, h3⟩ := drop_hd (x := [46]) (R := v.wd :: [41] :: R) h
  obtain ⟨h4, h5, h6⟩ := drop_hd h2
  obtain ⟨h7, h8, h9⟩ := drop_hd h5
  have hne : acc ≠ [] := by
   rcases ha with ha | ha
   ·exact ha
   ·rw [ha] at hv; cases hv
  rw [rdL_dot h1, rd (j + 1) n h4 (by omega)]
  dsimp only
  rw [if_pos ⟨hne, h7⟩]
  rfl
theorem rd_tks : ∀ v : V, v.fine = true → ∀ (T : List (List UInt8)),
  (∀ (i n : Nat) (R : List (List UInt8)), T.drop i = v.tks ++ R → i ≤ T.length → 2 * (T.length - i) + 1 ≤ n → rdT false T n i = some (v, i + v.tks.length)) ∧
  (∀ (j n : Nat) (acc : List V) (R : List (List UInt8)), T.drop j = v.tlk ++ R → j ≤ T.length → 2 * (T.length - j) + 2 ≤ n → (acc ≠ [] ∨ v = nil) → rdL false T n j acc = some (lst acc v, j + v.tlk.length)) := by
 intro v
 induction v with
 | nil =>
  intro _ T
  refine ⟨fun i n R h hi hn => ?_, fun j n acc R h hj hn _ => ?_⟩
  ·obtain ⟨n, rfl⟩ : ∃ n', n = n' + 1 := ⟨n - 1, by omega⟩
   obtain ⟨h1, h2, h3⟩ := drop_hd (x := [40]) (R := [41] :: R) h
   obtain ⟨h4, h5, h6⟩ := drop_hd h2
   obtain ⟨n, rfl⟩ : ∃ n', n = n' + 1 := ⟨n - 1, by omega⟩
   rw [rdT_open h1, rdL_end h4]
   rfl
  ·obtain ⟨n, rfl⟩ : ∃ n', n = n' + 1 := ⟨n - 1, by omega⟩
   obtain ⟨h1, h2, h3⟩ := drop_hd (x := [41]) (R := R) h
   rw [rdL_end h1]
   rfl
 | pair a b iha ihb =>
  intro hf T
  simp only [fine, Bool.and_eq_true] at hf
  obtain ⟨a1, a2⟩ := iha hf.1 T
  obtain ⟨b1, b2⟩ := ihb hf.2 T
  have key : ∀ (j n : Nat) (acc : List V) (R : List (List UInt8)), T.drop j = a.tks ++ (b.tlk ++ R) → j ≤ T.length → 2 * (T.length - j) + 2 ≤ n → rdL false T n j acc = some (lst (acc ++ [a]) b, j + a.tks.length + b.tlk.length) := fun j n acc R h hj hn => by
   obtain ⟨n, rfl⟩ : ∃ n', n = n' + 1 := ⟨n - 1, by omega⟩
   obtain ⟨w, r, hw, w1, w2⟩ := tks_pos a hf.1
   obtain ⟨h1, _, h3⟩ := drop_hd (x := w) (R := r ++ (b.tlk ++ R)) (by rw [h, hw]; rfl)
   rw [rdL_item h1 w1 w2, a1 j n _ h hj (by omega)]
   dsimp only
   have hal : 1 ≤ a.tks.length := by rw [hw]; simp
   exact b2 _ n _ R (drop_ap h) (drop_lenA h hj) (by omega) (.inl (by simp))
  have hlst : ∀ acc, lst (acc ++ [a]) b = lst acc (pair a b) := fun acc => by unfold lst; rw [List.foldr_append]; rfl
  refine ⟨fun i n R h hi hn => ?_, fun j n acc R h hj hn _ => ?_⟩
  ·obtain ⟨n, rfl⟩ : ∃ n', n = n' + 1 := ⟨n - 1, by omega⟩
   rw [tks_pair] at h
   obtain ⟨h1, h2, h3⟩ := drop_hd (x := [40]) (R := a.tks ++ (b.tlk ++ R)) (by rw [h]; simp)
   rw [rdT_open h1, key (i + 1) n [] R h2 (by omega) (by omega), tks_pair]
   simp only [List.length_cons, List.length_append, Option.some.injEq, Prod.mk.injEq]
   exact ⟨rfl, by omega⟩
  ·rw [tlk_pair] at h
   rw [key j n acc R (by rw [h]; simp) hj hn, hlst, tlk_pair, List.length_append]
   simp only [Option.some.injEq, Prod.mk.injEq, true_and]
   omega
 | var n => exact fun hf T => rd_leaf (v := .var n) rfl hf T
 | sym s => exact fun hf T => rd_leaf (v := .sym s) rfl hf T
 | num n => exact fun hf T => rd_leaf (v := .num n) rfl hf T
end V
end Go.Abs
set_option linter.unusedVariables false
set_option linter.unusedSimpArgs false
namespace Go.Abs
open Go
theorem all_nm {w : List UInt8} (h : ∀ c, c ∈ w → nmB c) : w.all okB = true := by
 rw [List.all_eq_true]
 exact fun c hc => nmB_ok (h c hc)
namespace V
theorem okB_leaf {v : V} (hv : v.leafB = true) (h : v.fine = true) : v.txt.all okB = true ∧ v.tl.all okB = true := by
 obtain ⟨k1, k2, k3, k4⟩ := tks_leaf hv
 have hw := all_nm (wd_byte hv h).2
 rw [k3, k4]
 refine ⟨hw, ?_⟩
 rw [List.all_append, List.all_append, hw]; rfl
theorem txt_okB : ∀ v : V, v.fine = true → v.txt.all okB = true ∧ v.tl.all okB = true := by
 intro v
 induction v with
 | nil => exact fun _ => ⟨rfl, rfl⟩
 | pair a b iha ihb =>
  intro h
  simp only [fine, Bool.and_eq_true] at h
  have h1 := (iha h.1).1
  have h2 := (ihb h.2).2
  rw [txt_pair, tl_pair]
  constructor
  ·simp only [List.all_cons, List.all_append, h1, h2, Bool.and_true]; rfl
  ·simp only [List.all_cons, List.all_append, h1, h2, Bool.and_true]; rfl
 | var n => exact fun h => okB_leaf (v := .var n) rfl h
 | sym s => exact fun h => okB_leaf (v := .sym s) rfl h
 | num n => exact fun h => okB_leaf (v := .num n) rfl h
end V
theorem tokV_of {s : List UInt8} (hl : s.length ≤ 20000) (hb : s.all okB = true) : tokV s = some (toks s) := by
 unfold tokV
 have := toks_len _ s (Nat.le_refl _)
 rw [if_pos ⟨by omega, hb, by omega⟩]
theorem rdO_tks {v : V} (hok : v.ok = true) {T R : List (List UInt8)} {i : Nat} (h : T.drop i = v.tks ++ R) (hi : i ≤ T.length) : rdO false T i = some (v, i + v.tks.length) := by
 have hf : v.fine = true := by unfold V.ok at hok; rw [Bool.and_eq_true] at hok; exact hok.1
 unfold rdO
 rw [(V.rd_tks v hf T).1 i (2 * T.length + 1) R h hi (by omega)]
 simp only [if_pos hok]
theorem p1V_of {s : List UInt8} {v : V} (hl : s.length ≤ 20000) (hb : s.all okB = true) (hok : v.ok = true) (ht : toks s = v.tks) : p1V s = some v := by
 unfold p1V
 rw [tokV_of hl hb, ht]
 dsimp only
 rw [rdO_tks hok (i := 0) (R := []) (by simp) (Nat.zero_le _)]
 simp
theorem p1V_note {v : V} (hok : v.ok = true) (hl : v.txt.length ≤ 10000) : p1V ([32, 32] ++ v.txt ++ [32, 59, 32, 110, 111, 116, 101]) = some v := by
 have hf : v.fine = true := by unfold V.ok at hok; rw [Bool.and_eq_true] at hok; exact hok.1
 refine p1V_of (by simp; omega) (by rw [List.all_append, List.all_append, (V.txt_okB v hf).1]; rfl) hok ?_
 rw [List.append_assoc]
 show toks (32 :: 32 :: (v.txt ++ (32 :: [59, 32, 110, 111, 116, 101]))) = _
 rw [toks_32, toks_32, (V.toks_txt v hf).1 _ (bnd_32 _), toks_32]
 have h : toks [59, 32, 110, 111, 116, 101] = [] := by
  rw [toks_cons]
  rw [if_neg (show ¬ ((59 : UInt8) = 32 ∨ (59 : UInt8) = 10) by decide), if_pos rfl]
  have : List.dropWhile noNl [32, 110, 111, 116, 101] = [] := by rfl
  rw [this, toks_nil]
 rw [h, List.append_nil]
theorem p1V_two {v w : V} (hv : v.ok = true) (hw : w.ok = true) (hl : v.txt.length + w.txt.length ≤ 10000) : p1V (v.txt ++ [32] ++ w.txt) = none := by
 have hf : v.fine = true := by unfold V.ok at hv; rw [Bool.and_eq_true] at hv; exact hv.1
 have hg : w.fine = true := by unfold V.ok at hw; rw [Bool.and_eq_true] at hw; exact hw.1
 have ht : toks (v.txt ++ [32] ++ w.txt) = v.tks ++ w.tks := by
  rw [List.append_assoc]
  show toks (v.txt ++ (32 :: w.txt)) = _
  have h2 := (V.toks_txt w hg).1 [] (.inl rfl)
  rw [List.append_nil, toks_nil, List.append_nil] at h2
  rw [(V.toks_txt v hf).1 _ (bnd_32 _), toks_32, h2]
 unfold p1V
 rw [tokV_of (by simp; omega) (by rw [List.all_append, List.all_append, (V.txt_okB v hf).1, (V.txt_okB w hg).1]; rfl), ht]
 dsimp only
 rw [rdO_tks hv (i := 0) (R := w.tks) (by simp) (Nat.zero_le _)]
 dsimp only
 obtain ⟨x, r, hx, _⟩ := V.tks_pos w hg
 rw [if_neg]
 rw [hx]
 simp
def tkss (l : List V) : List (List UInt8) := l.flatMap V.tks
theorem toks_join : ∀ (l : List V), l.all V.ok = true → toks (joinS [32] (l.map V.txt)) = tkss l
 | [], _ => toks_nil
 | v :: r, h => by
  have tail : ∀ r : List V, r.all V.ok = true → toks ((r.map V.txt).flatMap fun y => [32] ++ y) = tkss r ∧ bnd ((r.map V.txt).flatMap fun y => [32] ++ y) := fun r => by
   induction r with
   | nil => exact fun _ => ⟨toks_nil, .inl rfl⟩
   | cons w r ih =>
    intro h
    simp only [List.all_cons, Bool.and_eq_true] at h
    obtain ⟨i1, i2⟩ := ih h.2
    have hg : w.fine = true := by have := h.1; unfold V.ok at this; rw [Bool.and_eq_true] at this; exact this.1
    refine ⟨?_, ?_⟩
    ·show toks (32 :: (w.txt ++ ((r.map V.txt).flatMap fun y => [32] ++ y))) = _
     rw [toks_32, (V.toks_txt w hg).1 _ i2, i1]; rfl
    ·exact bnd_32 _
  simp only [List.all_cons, Bool.and_eq_true] at h
  have hf : v.fine = true := by have := h.1; unfold V.ok at this; rw [Bool.and_eq_true] at this; exact this.1
  obtain ⟨i1, i2⟩ := tail r h.2
  show toks (v.txt ++ ((r.map V.txt).flatMap fun y => [32] ++ y)) = _
  rw [(V.toks_txt v hf).1 _ i2, i1]; rfl
theorem rdA_tkss (T : List (List UInt8)) : ∀ (l : List V) (i n : Nat), l.all V.ok = true → T.drop i = tkss l → i ≤ T.length → T.length - i + 1 ≤ n → rdA T n i = some l
 | [], i, n, _, h, hi, hn => by
  obtain ⟨n, rfl⟩ : ∃ n', n = n' + 1 := ⟨n - 1, by omega⟩
  have := congrArg List.length h
  rw [List.length_drop] at this
  exact rdA_end (by simp [tkss] at this; omega)
 | v :: r, i, n, hok, h, hi, hn => by
  obtain ⟨n, rfl⟩ : ∃ n', n = n' + 1 := ⟨n - 1, by omega⟩
  simp only [List.all_cons, Bool.and_eq_true] at hok
  have hf : v.fine = true := by have := hok.1; unfold V.ok at this; rw [Bool.and_eq_true] at this; exact this.1
  have hd : T.drop i = v.tks ++ tkss r := h
  obtain ⟨x, t, hx, _⟩ := V.tks_pos v hf
  have hlt : i < T.length := (drop_hd (x := x) (R := t ++ tkss r) (by rw [hd, hx]; rfl)).2.2
  have hle := drop_lenA hd hi
  have hp : 1 ≤ v.tks.length := by rw [hx]; simp
  rw [rdA_step hlt, rdO_tks hok.1 hd hi]
  dsimp only
  rw [rdA_tkss T r (i + v.tks.length) n hok.2 (drop_ap hd) hle (by omega)]
theorem ptV_join {l : List V} (h : l.all V.ok = true) (h40 : l.length ≤ 40) (hl : (joinS [32] (l.map V.txt)).length ≤ 20000) : ptV (joinS [32] (l.map V.txt)) = some l := by
 have hb : (joinS [32] (l.map V.txt)).all okB = true := by
  have tail : ∀ r : List V, r.all V.ok = true → ((r.map V.txt).flatMap fun y => [32] ++ y).all okB = true := fun r => by
   induction r with
   | nil => exact fun _ => rfl
   | cons w r ih =>
    intro h
    simp only [List.all_cons, Bool.and_eq_true] at h
    have hg : w.fine = true := by have := h.1; unfold V.ok at this; rw [Bool.and_eq_true] at this; exact this.1
    show (32 :: (w.txt ++ ((r.map V.txt).flatMap fun y => [32] ++ y))).all okB = true
    rw [List.all_cons, List.all_append, (V.txt_okB w hg).1, ih h.2]; rfl
  cases l with
  | nil => rfl
  | cons v r =>
   simp only [List.all_cons, Bool.and_eq_true] at h
   have hf : v.fine = true := by have := h.1; unfold V.ok at this; rw [Bool.and_eq_true] at this; exact this.1
   show (v.txt ++ ((r.map V.txt).flatMap fun y => [32] ++ y)).all okB = true
   rw [List.all_append, (V.txt_okB v hf).1, tail r h.2]; rfl
 unfold ptV
 rw [tokV_of hl hb, toks_join l h]
 dsimp only
 rw [rdA_tkss (tkss l) l 0 _ h (by simp) (Nat.zero_le _) (by omega)]
 simp only [if_pos h40]
end Go.Abs
set_option linter.unusedVariables false
set_option linter.unusedSimpArgs false
namespace Go.Abs
open Go
theorem andI_low (a : Int) (n : Nat) (hn : n < 4294967296) : 0 ≤ andI .i64 a n ∧ andI .i64 a n ≤ n := by
 unfold andI
 have h1 : (BitVec.ofInt IntKind.i64.bits a &&& BitVec.ofInt IntKind.i64.bits (n : Int)).toNat ≤ n := by
  rw [BitVec.toNat_and]
  refine Nat.le_trans Nat.and_le_right ?_
  rw [BitVec.toNat_ofInt]
  have : IntKind.i64.bits = 64 := rfl
  rw [this]
  omega
 rw [wrap_ok (by omega) (by omega)]
 omega
theorem and255 (a : Int) : 0 ≤ andI .i64 a 255 ∧ andI .i64 a 255 ≤ 255 := andI_low a 255 (by decide)
theorem below_mod {x n : Int} (h0 : 0 ≤ x) (hn : 0 < n) : 0 ≤ x.tmod n ∧ x.tmod n < n := by
 rw [Int.tmod_eq_emod_of_nonneg h0]
 exact ⟨Int.emod_nonneg _ (by omega), Int.emod_lt_of_pos _ hn⟩
def V.vbelow (n : Int) : V → Bool
 | .var i => decide (0 ≤ i) && decide (i < n)
 | .pair a b => a.vbelow n && b.vbelow n
 | _ => true
def drawn (m : Nat) (n : Int) (v : V) : Prop := v.fine = true ∧ v.size ≤ m ∧ v.vbelow n = true
def drawS (s : Nat) : Nat := if s ≤ 2 then 1 else 2 * s - 1
theorem drawS_half {s : Nat} (h : 2 < s) : 1 + drawS (s / 2) + drawS (s / 2) ≤ drawS s := by
 unfold drawS
 split <;> split <;> omega
theorem drawS_pos (s : Nat) : 1 ≤ drawS s := by unfold drawS; split <;> omega
theorem drawn_pair {m : Nat} {n : Int} {a b : V} {k : Nat} (ha : drawn m n a) (hb : drawn m n b) (h : 1 + m + m ≤ k) : drawn k n (.pair a b) := by
 obtain ⟨a1, a2, a3⟩ := ha
 obtain ⟨b1, b2, b3⟩ := hb
 exact ⟨by simp only [V.fine, a1, b1, Bool.and_self], by simp only [V.size]; omega, by simp only [V.vbelow, a3, b3, Bool.and_self]⟩
theorem drawn_le {m k : Nat} {n : Int} {v : V} (h : drawn m n v) (hk : m ≤ k) : drawn k n v := ⟨h.1, Nat.le_trans h.2.1 hk, h.2.2⟩
theorem drawn_var {k : Nat} {n i : Int} (h0 : 0 ≤ i) (h1 : i < n) (hn : n ≤ 100) (hk : 1 ≤ k) : drawn k n (.var i) := by
 refine ⟨?_, hk, ?_⟩
 ·simp [V.fine]; omega
 ·simp [V.vbelow]; omega
theorem drawn_nil {k : Nat} {n : Int} (hk : 1 ≤ k) : drawn k n .nil := ⟨rfl, hk, rfl⟩
theorem drawn_num {k : Nat} {n i : Int} (h0 : 0 ≤ i) (h1 : i ≤ 255) (hk : 1 ≤ k) : drawn k n (.num i) := by
 refine ⟨?_, hk, rfl⟩
 simp [V.fine]; omega
theorem drawn_ok {m : Nat} {n : Int} {v : V} (h : drawn m n v) (hm : m ≤ 200) : v.ok = true := by
 unfold V.ok
 simp only [h.1, Bool.true_and, decide_eq_true_eq]
 have := h.2.1
 omega
theorem V.fineLow : ∀ v : V, v.fine = true → v.low = true
 | .nil, _ => rfl
 | .var _, _ => rfl
 | .num _, _ => rfl
 | .sym s, h => by simp [V.low, (isName_len h).2]
 | .pair a b, h => by
  simp only [V.fine, Bool.and_eq_true] at h
  simp only [V.low, Bool.and_eq_true]
  exact ⟨V.fineLow a h.1, V.fineLow b h.2⟩
theorem ok_wtV {v : V} (h : v.ok = true) : wtL v.enc ≤ 80000 := by
 unfold V.ok at h
 simp only [Bool.and_eq_true, decide_eq_true_eq] at h
 have := V.wt_low v (V.fineLow v h.1)
 omega
end Go.Abs
