import Derived.Test.YtkngjdhggcaonaaDoorPPx31
import Derived.Test.YtkngjdhggcaonaaDoorMyHeadA
namespace Go.Proofs.YtkngjdhggcaonaaDoor.Pure
open Go.RowKit Go.Proofs.YtkngjdhggcaonaaDoor.PP Go.Proofs.YtkngjdhggcaonaaDoor.My Go.Proofs.YtkngjdhggcaonaaDoorW.PrintWords Go.Proofs.YtkngjdhggcaonaaDoorW.PrintLast
set_option linter.unusedVariables false
set_option linter.unusedSimpArgs false
theorem adrL_plain (e : ByteArray) (he : e = ⟨#[]⟩) : ∀ (s t bs : List UInt8) (out : List S33) (m : Nat), (∀ c ∈ s, c ≠ 34 ∧ c ≠ 40 ∧ c ≠ 60) →
    adrL (s.length + 1 + m) (s ++ 44 :: t) false bs e false false out = adrL m t false [] e false false (adrL (s.length + 1) s false bs e false false out)
  | [], t, bs, out, m, _ => by
    rw [show ([] : List UInt8).length + 1 + m = m + 1 by simp; omega, List.nil_append, adrL]
    subst he
    simp [adrL]
  | c :: s, t, bs, out, m, h => by
    obtain ⟨h1, h2, h3⟩ := h c (List.mem_cons_self ..)
    have hs := fun x hx => h x (List.mem_cons_of_mem _ hx)
    rw [show (c :: s).length + 1 + m = (s.length + 1 + m) + 1 by simp only [List.length_cons]; omega, List.cons_append, adrL, List.length_cons, adrL]
    simp only [if_neg h1, if_neg h2, h3, false_and, if_false, and_true, Bool.false_eq_true, and_false]
    by_cases h44 : c = 44
    · simp only [h44, if_true]
      subst he
      exact adrL_plain _ rfl s t [] _ m hs
    · simp only [h44, if_false]
      exact adrL_plain e he s t _ out m hs
theorem adrs_comma (s t : List UInt8) (h : ∀ c ∈ s, c ≠ 34 ∧ c ≠ 40 ∧ c ≠ 60) : adrs (s ++ 44 :: t) = adrs s ++ adrs t := by
  unfold adrs
  rw [show (s ++ 44 :: t).length + 1 = s.length + 1 + (t.length + 1) by simp; omega, adrL_plain _ rfl s t [] [] _ h]
  have := adrL_app (t.length + 1) t false [] ⟨#[]⟩ false false (adrL (s.length + 1) s false [] ⟨#[]⟩ false false []) []
  rwa [List.append_nil] at this
theorem finF_len (out : List S33) (f : ByteArray × ByteArray × ByteArray) : (finF out f).length ≤ out.length + 1 := by
  unfold finF
  split <;> simp
theorem adrL_len : ∀ (n : Nat) (r : List UInt8) (inb : Bool) (bs : List UInt8) (nm : ByteArray) (an cl : Bool) (out : List S33), (adrL n r inb bs nm an cl out).length ≤ out.length + n
  | 0, _, _, _, _, _, _, _ => by simp [adrL]
  | n + 1, [], _, bs, nm, an, _, out => by
    rw [adrL]
    have := finF_len out (endF bs nm an)
    omega
  | n + 1, c :: r, _, bs, nm, an, _, out => by
    rw [adrL]
    have := finF_len out (endF bs nm an)
    (repeat' split) <;> refine Nat.le_trans (adrL_len n _ _ _ _ _ _ _) ?_ <;> omega
/-- A text with a bar ahead of each byte. -/
def esc : List UInt8 → List UInt8
  | [] => []
  | b :: l => 92 :: b :: esc l
theorem esc_len : ∀ l, (esc l).length = 2 * l.length
  | [] => rfl
  | b :: l => by simp only [esc, List.length_cons, esc_len l]; omega
theorem esc_snoc : ∀ (l : List UInt8) (b : UInt8), esc (l ++ [b]) = esc l ++ [92, b]
  | [], _ => rfl
  | a :: l, b => by simp only [List.cons_append, esc, esc_snoc l b]
theorem quo_esc : ∀ (l r : List UInt8), quoF (esc l ++ 34 :: r) = (l, 2 * l.length + 1)
  | [], r => quoF_quote 34 r rfl
  | b :: l, r => by
    simp only [esc, List.cons_append]
    rw [quoF_esc 92 b _ (by decide) rfl, quo_esc l r]
    simp only [List.length_cons]
    rw [show 2 * l.length + 1 + 2 = 2 * (l.length + 1) + 1 by omega]
def tailBox : List UInt8 := [32, 60, 98, 111, 120, 64, 104, 111, 115, 116, 62]
theorem end_box (nm : ByteArray) : endF [98, 111, 120, 64, 104, 111, 115, 116] nm true = (nm, B [98, 111, 120], B [104, 111, 115, 116]) := by rfl
theorem adr_tell (k : Nat) (c : UInt8) (r : List UInt8) (inb : Bool) (bs : List UInt8) (nm : ByteArray) (an : Bool) (out : List S33) (h1 : ¬ c = 34) (h2 : ¬ c = 40) (h3 : ¬ (c = 60 ∧ inb = false)) (h4 : ¬ (c = 62 ∧ inb = true)) (h5 : ¬ (c = 44 ∧ inb = false)) :
    adrL (k + 1) (c :: r) inb bs nm an false out = adrL k r inb (bs ++ [c]) nm an false out := by
  rw [adrL, if_neg h1, if_neg h2, if_neg h3, if_neg h4, if_neg h5]
  rfl
theorem adr_open (k : Nat) (r bs : List UInt8) (nm : ByteArray) (out : List S33) :
    adrL (k + 1) (60 :: r) false bs nm false false out = adrL k r true [] ⟨(takeL bs).toArray⟩ true false out := by
  rw [adrL, if_neg (by decide), if_neg (by decide), if_pos (by decide), if_neg (by decide)]
theorem adr_close (k : Nat) (r bs : List UInt8) (nm : ByteArray) (out : List S33) :
    adrL (k + 1) (62 :: r) true bs nm true false out = adrL k r false bs nm true true out := by
  rw [adrL, if_neg (by decide), if_neg (by decide), if_neg (by decide), if_pos (by decide)]
theorem adrs_quoted (l : List UInt8) : adrs (34 :: (esc l ++ 34 :: tailBox)) = [⟨⟨(takeL (l ++ [32])).toArray⟩, B [98, 111, 120], B [104, 111, 115, 116]⟩] := by
  unfold adrs
  have hlen : (34 :: (esc l ++ 34 :: tailBox)).length + 1 = 2 * l.length + 13 + 1 := by simp [esc_len, tailBox]
  rw [hlen, adrL, if_pos rfl, quo_esc]
  have hd : (esc l ++ 34 :: tailBox).drop (2 * l.length + 1) = tailBox := by
    rw [← esc_len, ← List.drop_drop, List.drop_left]
    rfl
  rw [hd]
  generalize 2 * l.length = m
  unfold tailBox
  simp only [Bool.false_eq_true, if_false, List.nil_append]
  rw [adr_tell (m + 12) 32 _ false l ⟨#[]⟩ false [] (by decide) (by decide) (by decide) (by decide) (by decide)]
  rw [adr_open (m + 11)]
  rw [adr_tell (m + 10) 98 _ true [] _ true [] (by decide) (by decide) (by decide) (by decide) (by decide)]
  simp only [List.nil_append, List.cons_append]
  rw [adr_tell (m + 9) 111 _ true [98] _ true [] (by decide) (by decide) (by decide) (by decide) (by decide)]
  simp only [List.nil_append, List.cons_append]
  rw [adr_tell (m + 8) 120 _ true [98, 111] _ true [] (by decide) (by decide) (by decide) (by decide) (by decide)]
  simp only [List.nil_append, List.cons_append]
  rw [adr_tell (m + 7) 64 _ true [98, 111, 120] _ true [] (by decide) (by decide) (by decide) (by decide) (by decide)]
  simp only [List.nil_append, List.cons_append]
  rw [adr_tell (m + 6) 104 _ true [98, 111, 120, 64] _ true [] (by decide) (by decide) (by decide) (by decide) (by decide)]
  simp only [List.nil_append, List.cons_append]
  rw [adr_tell (m + 5) 111 _ true [98, 111, 120, 64, 104] _ true [] (by decide) (by decide) (by decide) (by decide) (by decide)]
  simp only [List.nil_append, List.cons_append]
  rw [adr_tell (m + 4) 115 _ true [98, 111, 120, 64, 104, 111] _ true [] (by decide) (by decide) (by decide) (by decide) (by decide)]
  simp only [List.nil_append, List.cons_append]
  rw [adr_tell (m + 3) 116 _ true [98, 111, 120, 64, 104, 111, 115] _ true [] (by decide) (by decide) (by decide) (by decide) (by decide)]
  simp only [List.nil_append, List.cons_append]
  rw [adr_close (m + 2), adrL]
  rw [end_box]
  have hi : isF ((⟨(takeL (l ++ [32])).toArray⟩ : ByteArray), B [98, 111, 120], B [104, 111, 115, 116]) = true := by
    unfold isF
    simp [ba_toList]
  rw [finF, if_pos hi]
  rfl
theorem dw_prefix {p l : List UInt8} (f : UInt8 → Bool) (h : p <+: l) : p.dropWhile f <+: l.dropWhile f := by
  obtain ⟨t, rfl⟩ := h
  induction p with
  | nil => exact List.nil_prefix
  | cons a p ih =>
    rw [List.cons_append, List.dropWhile_cons, List.dropWhile_cons]
    split
    · exact ih
    · exact ⟨t, rfl⟩
def blank (c : UInt8) : Bool := ([9, 10, 13, 32] : List UInt8).contains c
theorem take_prefix (l : List UInt8) : takeL (l ++ [32]) <+: l.dropWhile blank := by
  have h1 : Lib.trimRightS (l ++ [32]) [9, 10, 13, 32] = Lib.trimRightS l [9, 10, 13, 32] := by
    unfold Lib.trimRightS
    rw [List.reverse_append]
    simp [List.dropWhile_cons]
  show Lib.trimLeftS (Lib.trimRightS (l ++ [32]) [9, 10, 13, 32]) [9, 10, 13, 32] <+: _
  rw [h1]
  refine dw_prefix blank (l := l) ?_
  unfold Lib.trimRightS
  have := List.dropWhile_suffix (l := l.reverse) (fun x => ([9, 10, 13, 32] : List UInt8).contains x)
  have h2 := List.reverse_prefix.2 this
  rwa [List.reverse_reverse] at h2
theorem people_ev (l : List S33) (hl : l.length ≤ 1000000000) : Ev (fun k => haversackref10_People.f k l l) true := by
  have key : ∀ (n i : Nat), l.length - i ≤ n → i ≤ l.length → Ev (fun k => haversackref10_People.l0 k l l (i : Int)) true := by
    intro n
    induction n with
    | zero =>
      intro i h1 h2
      have g : ¬ (i : Int) < (l.length : Int) := by omega
      exact Ev.now (fun k => by rw [haversackref10_People.l0, if_neg g])
    | succ n ih =>
      intro i h1 h2
      by_cases hp : i < l.length
      · have g : (i : Int) < (l.length : Int) := by omega
        have g0 : (0 : Int) ≤ (i : Int) := by omega
        have w1 : wrap64 ((i : Int) + 1) = ((i + 1 : Nat) : Int) := w64 (x := (i : Int) + 1) (by omega)
        refine Ev.go (fun k => by rw [haversackref10_People.l0, if_pos g, if_pos g0, if_pos g, w1]) ?_
        have h3 := ih (i + 1) (by clear w1; omega) (by clear w1; omega)
        simpa using h3
      · have g : ¬ (i : Int) < (l.length : Int) := by omega
        exact Ev.now (fun k => by rw [haversackref10_People.l0, if_neg g])
  refine Ev.same (fun k => ?_) (key l.length 0 (by omega) (by omega))
  rw [haversackref10_People.f, if_pos rfl]
  rfl
def plainC (c : UInt8) : Bool := !(c == 34 || c == 40 || c == 60)
theorem plainly_ev (l : List UInt8) (hl : l.length ≤ 1000000000) : Ev (fun k => haversacklaw10_plainly.f k (B l)) (l.all plainC) := by
  have key : ∀ (n i : Nat), l.length - i ≤ n → i ≤ l.length → Ev (fun k => haversacklaw10_plainly.l0 k (B l) (l.length : Int) (i : Int)) ((l.drop i).all plainC) := by
    intro n
    induction n with
    | zero =>
      intro i h1 h2
      have g : ¬ (i : Int) < (l.length : Int) := by omega
      rw [List.drop_eq_nil_iff.2 (by omega)]
      exact Ev.now (fun k => by rw [haversacklaw10_plainly.l0, if_neg g]; rfl)
    | succ n ih =>
      intro i h1 h2
      by_cases hp : i < l.length
      · have g : (i : Int) < (l.length : Int) := by omega
        have g0 : (0 : Int) ≤ (i : Int) := by omega
        have gs : (i : Int) < ((B l).size : Int) := g
        have h3 := ih (i + 1) (by omega) (by omega)
        have w1 : wrap64 ((i : Int) + 1) = ((i + 1 : Nat) : Int) := w64 (x := (i : Int) + 1) (by omega)
        rw [List.drop_eq_getElem_cons hp, List.all_cons]
        have hb := btn l i hp
        obtain ⟨c, hc⟩ : ∃ c, c = l[i] := ⟨_, rfl⟩
        rw [← hc] at hb ⊢
        have step : ∀ k, haversacklaw10_plainly.l0 (k + 1) (B l) (l.length : Int) (i : Int) = (if c = 34 then some false else if c = 40 then some false else if c = 60 then some false else haversacklaw10_plainly.l0 k (B l) (l.length : Int) ((i + 1 : Nat) : Int)) := by
          intro k
          rw [haversacklaw10_plainly.l0, if_pos g, if_pos g0, if_pos gs, hb, w1]
          simp only [u34, u40, u60]
        by_cases h34 : c = 34
        · rw [show plainC c = false by rw [h34]; rfl]
          exact Ev.now (fun k => by rw [step, if_pos h34]; rfl)
        · by_cases h40 : c = 40
          · rw [show plainC c = false by rw [h40]; rfl]
            exact Ev.now (fun k => by rw [step, if_neg h34, if_pos h40]; rfl)
          · by_cases h60 : c = 60
            · rw [show plainC c = false by rw [h60]; rfl]
              exact Ev.now (fun k => by rw [step, if_neg h34, if_neg h40, if_pos h60]; rfl)
            · rw [show plainC c = true by simp [plainC, h34, h40, h60], Bool.true_and]
              exact Ev.go (fun k => by rw [step, if_neg h34, if_neg h40, if_neg h60]) h3
      · have g : ¬ (i : Int) < (l.length : Int) := by omega
        rw [List.drop_eq_nil_iff.2 (by omega)]
        exact Ev.now (fun k => by rw [haversacklaw10_plainly.l0, if_neg g]; rfl)
  exact Ev.same (fun k => rfl) (key l.length 0 (by omega) (by omega))
theorem strip_ev (n : List UInt8) : ∀ (l : List UInt8), n <+: l.dropWhile blank → Ev (fun k => haversacklaw10_HeaderPeople.l1 k (B l) (B n)) true := by
  intro l
  have fin : ∀ l : List UInt8, n <+: l → ((B n).size : Int) ≤ ((B l).size : Int) ∧ ((B l).extract 0 (((B n).size : Int)).toNat).toList = (B n).toList := by
    intro l h
    have h1 := h.length_le
    refine ⟨by rw [bS, bS]; omega, ?_⟩
    rw [bS, Int.toNat_natCast, ba_extract, ba_toList, ba_toList, List.drop_zero]
    exact (List.prefix_iff_eq_take.1 h).symm
  have g0 : (0 : Int) ≤ ((B n).size : Int) := by omega
  induction l with
  | nil =>
    intro h
    obtain ⟨f1, f2⟩ := fin [] h
    have gz : ¬ ((B []).size : Int) > 0 := by decide
    refine Ev.go (fun k => by rw [haversacklaw10_HeaderPeople.l1, if_neg gz, if_pos f1, if_pos g0, if_pos f2]) ?_
    exact Ev.bd alive_ev (Ev.ret true)
  | cons c l ih =>
    intro h
    have gp : ((B (c :: l)).size : Int) > 0 := by rw [bS]; simp only [List.length_cons]; omega
    have gl : (0 : Int) < ((B (c :: l)).size : Int) := gp
    have g1 : (1 : Int) ≤ ((B (c :: l)).size : Int) := by omega
    have hb : bt (B (c :: l)) 0 = (c.toNat : Int) := btn (c :: l) 0 (by simp)
    have hx : (B (c :: l)).extract 1 (B (c :: l)).size = B l := by
      rw [bS]
      exact ba_drop (c :: l) 1
    have step : ∀ k, haversacklaw10_HeaderPeople.l1 (k + 1) (B (c :: l)) (B n) = (if c = 32 then haversacklaw10_HeaderPeople.l1 k (B l) (B n) else if c = 9 then haversacklaw10_HeaderPeople.l1 k (B l) (B n) else if c = 13 then haversacklaw10_HeaderPeople.l1 k (B l) (B n) else if c = 10 then haversacklaw10_HeaderPeople.l1 k (B l) (B n) else
        (if ((B n).size : Int) ≤ ((B (c :: l)).size : Int) then (if 0 ≤ ((B n).size : Int) then (if ((B (c :: l)).extract 0 (((B n).size : Int)).toNat).toList = (B n).toList then ((haversacklaw10_alive.f k).bind fun t => (some t)) else (some false)) else none) else (some false))) := by
      intro k
      rw [haversacklaw10_HeaderPeople.l1, if_pos gp, if_pos gl, hb, hx]
      simp only [u32, u9, u13, u10, if_pos g1]
    rw [List.dropWhile_cons] at h
    by_cases h32 : c = 32
    · rw [if_pos (by rw [h32]; rfl)] at h
      exact Ev.go (fun k => by rw [step, if_pos h32]) (ih h)
    · by_cases h9 : c = 9
      · rw [if_pos (by rw [h9]; rfl)] at h
        exact Ev.go (fun k => by rw [step, if_neg h32, if_pos h9]) (ih h)
      · by_cases h13 : c = 13
        · rw [if_pos (by rw [h13]; rfl)] at h
          exact Ev.go (fun k => by rw [step, if_neg h32, if_neg h9, if_pos h13]) (ih h)
        · by_cases h10 : c = 10
          · rw [if_pos (by rw [h10]; rfl)] at h
            exact Ev.go (fun k => by rw [step, if_neg h32, if_neg h9, if_neg h13, if_pos h10]) (ih h)
          · rw [if_neg (by simp [blank, h32, h9, h13, h10])] at h
            obtain ⟨f1, f2⟩ := fin (c :: l) h
            refine Ev.go (fun k => by rw [step, if_neg h32, if_neg h9, if_neg h13, if_neg h10, if_pos f1, if_pos g0, if_pos f2]) ?_
            exact Ev.bd alive_ev (Ev.ret true)
theorem bapp (a b : List UInt8) : B a ++ B b = B (a ++ b) := by
  apply ByteArray.ext
  apply Array.ext'
  simp
theorem quote_ev (l : List UInt8) (hl : l.length ≤ 4000) : ∀ (m i : Nat), l.length - i ≤ m → i ≤ l.length → Ev (fun k => haversacklaw10_HeaderPeople.l0 k (B l) (B (34 :: esc (l.take i))) (l.length : Int) (i : Int)) true := by
  intro m
  induction m with
  | zero =>
    intro i h1 h2
    obtain rfl : i = l.length := by omega
    have g : ¬ (l.length : Int) < (l.length : Int) := by omega
    have gs : (B (34 :: esc (l.take l.length))).size + 12 ≤ 9223372036854775807 := by rw [bS]; simp [esc_len]; omega
    rw [List.take_length] at gs ⊢
    have hq : B (34 :: esc l) ++ (⟨#[34, 32, 60, 98, 111, 120, 64, 104, 111, 115, 116, 62]⟩ : ByteArray) = B (34 :: (esc l ++ 34 :: tailBox)) := bapp _ _
    refine Ev.go (fun k => by rw [haversacklaw10_HeaderPeople.l0, if_neg g, if_pos gs, hq]) ?_
    refine Ev.bd (adrs_ev _ (by simp [esc_len, tailBox]; omega)) ?_
    rw [adrs_quoted]
    have f1 : ((rd_T33 [(⟨⟨(takeL (l ++ [32])).toArray⟩, B [98, 111, 120], B [104, 111, 115, 116]⟩ : S33)] 0).f1).toList = ([98, 111, 120] : List UInt8) := ba_toList _
    have f2 : (((rd_T33 [(⟨⟨(takeL (l ++ [32])).toArray⟩, B [98, 111, 120], B [104, 111, 115, 116]⟩ : S33)] 0).f2).toList != ([104, 111, 115, 116] : List UInt8)) = false := by
      rw [show ((rd_T33 [(⟨⟨(takeL (l ++ [32])).toArray⟩, B [98, 111, 120], B [104, 111, 115, 116]⟩ : S33)] 0).f2).toList = [104, 111, 115, 116] from ba_toList _]
      rfl
    refine Ev.same (fun k => by rw [if_pos (by rfl), if_pos (by simp), if_pos f1, f2]) ?_
    refine Ev.go (fun k => by rw [haversacklaw10_HeaderPeople.j3, if_neg (by decide), if_pos (by simp)]) ?_
    exact strip_ev (takeL (l ++ [32])) l (take_prefix l)
  | succ m ih =>
    intro i h1 h2
    by_cases hp : i < l.length
    · have g : (i : Int) < (l.length : Int) := by omega
      have g0 : (0 : Int) ≤ (i : Int) := by omega
      have h3 := ih (i + 1) (by omega) (by omega)
      have e1 : (B (34 :: esc (l.take i))).size = 2 * i + 1 := by rw [bS]; simp [esc_len]; omega
      have gs1 : (B (34 :: esc (l.take i))).size + 1 ≤ 9223372036854775807 := by rw [e1]; omega
      have gs2 : (B (34 :: esc (l.take i))).size + 1 + ((((i + 1 : Nat) : Int)).toNat - ((i : Int)).toNat) ≤ 9223372036854775807 := by rw [e1]; omega
      have g2 : (i : Int) ≤ ((i + 1 : Nat) : Int) := by omega
      have g3 : ((i + 1 : Nat) : Int) ≤ ((B l).size : Int) := by rw [bS]; omega
      have w1 : wrap64 ((i : Int) + 1) = ((i + 1 : Nat) : Int) := w64 (x := (i : Int) + 1) (by omega)
      have hq : (B (34 :: esc (l.take i)) ++ (⟨#[92]⟩ : ByteArray)) ++ ((B l).extract ((i : Int)).toNat (((i + 1 : Nat) : Int)).toNat) = B (34 :: esc (l.take (i + 1))) := by
        rw [Int.toNat_natCast, Int.toNat_natCast, ba_extract]
        rw [show ((l.take (i + 1)).drop i) = [l[i]] by rw [List.take_succ_eq_append_getElem hp, List.drop_left' (by simp; omega)]]
        rw [List.take_succ_eq_append_getElem hp, esc_snoc]
        show (B (34 :: esc (l.take i)) ++ B [92]) ++ B [l[i]] = _
        rw [bapp, bapp]
        simp
      exact Ev.go (fun k => by rw [haversacklaw10_HeaderPeople.l0, if_pos g, if_pos gs1, if_pos g0, w1, if_pos g2, if_pos g3, if_pos gs2, hq]) h3
    · obtain rfl : i = l.length := by omega
      exact ih l.length (by omega) (Nat.le_refl _)
theorem j1_ev (l : List UInt8) (hl : l.length ≤ 4000) : Ev (fun k => haversacklaw10_HeaderPeople.j1 k (B l)) true :=
  Ev.go (fun k => by rw [haversacklaw10_HeaderPeople.j1]; rfl) (quote_ev l hl l.length 0 (by omega) (by omega))
theorem HeaderPeople : haversacklaw10_HeaderPeople.Pure := by
  intro a0 a1 _ _
  obtain ⟨s, rfl⟩ := isB a0
  obtain ⟨t, rfl⟩ := isB a1
  have big : ∀ x, Ev (fun k => haversacklaw10_HeaderPeople.j0 k (B s) (B t) true) x → Ev (fun k => haversacklaw10_HeaderPeople.j0 k (B s) (B t) true) x := fun _ h => h
  have hbig : Ev (fun k => haversacklaw10_HeaderPeople.j0 k (B s) (B t) true) true :=
    Ev.go (fun k => by rw [haversacklaw10_HeaderPeople.j0, if_pos rfl]) (Ev.bd alive_ev (Ev.ret true))
  have main : Ev (fun k => haversacklaw10_HeaderPeople.f k (B s) (B t)) true := by
    by_cases h1 : ((B s).size : Int) > 4000
    · exact Ev.same (fun k => by rw [haversacklaw10_HeaderPeople.f, if_pos h1]) hbig
    · by_cases h2 : ((B t).size : Int) > 4000
      · exact Ev.same (fun k => by rw [haversacklaw10_HeaderPeople.f, if_neg h1, decide_eq_true h2]) hbig
      · have hs : s.length ≤ 4000 := by rw [bS] at h1; omega
        have ht : t.length ≤ 4000 := by rw [bS] at h2; omega
        refine Ev.same (fun k => by rw [haversacklaw10_HeaderPeople.f, if_neg h1, decide_eq_false h2]) ?_
        refine Ev.go (fun k => by rw [haversacklaw10_HeaderPeople.j0, if_neg (by decide)]) ?_
        refine Ev.bd (plainly_ev s (by omega)) ?_
        cases hp : s.all plainC with
        | false =>
          simp only [Bool.false_eq_true, if_false]
          exact j1_ev s hs
        | true =>
          have hpl : ∀ c ∈ s, c ≠ 34 ∧ c ≠ 40 ∧ c ≠ 60 := by
            intro c hc
            have := List.all_eq_true.1 hp c hc
            simpa [plainC, not_or, and_assoc] using this
          have la : (adrs s).length ≤ s.length + 1 := by have := adrL_len (s.length + 1) s false [] ⟨#[]⟩ false false []; simpa [adrs] using this
          have lb : (adrs t).length ≤ t.length + 1 := by have := adrL_len (t.length + 1) t false [] ⟨#[]⟩ false false []; simpa [adrs] using this
          simp only [if_true, Option.bind_some, List.nil_append, List.length_nil]
          refine Ev.bd (adrs_ev s (by omega)) ?_
          simp only [if_pos (show 0 + (adrs s).length < 2932031007402 by omega)]
          refine Ev.bd (adrs_ev t (by omega)) ?_
          have gs1 : (B s).size + 1 ≤ 9223372036854775807 := by rw [bS]; omega
          have gs2 : (B s).size + 1 + (B t).size ≤ 9223372036854775807 := by rw [bS, bS]; omega
          have hq : (B s ++ (⟨#[44]⟩ : ByteArray)) ++ B t = B (s ++ 44 :: t) := by
            show (B s ++ B [44]) ++ B t = _
            rw [bapp, bapp]
            simp
          simp only [if_pos (show (adrs s).length + (adrs t).length < 2932031007402 by omega), if_pos gs1, if_pos gs2, hq]
          refine Ev.bd (adrs_ev _ (by simp; omega)) ?_
          rw [adrs_comma s t hpl]
          refine Ev.bd (people_ev _ (by simp; omega)) ?_
          simp only [if_true]
          exact j1_ev s hs
  obtain ⟨K, hK⟩ := main
  exact ⟨K, hK K (Nat.le_refl _)⟩
end Go.Proofs.YtkngjdhggcaonaaDoor.Pure
