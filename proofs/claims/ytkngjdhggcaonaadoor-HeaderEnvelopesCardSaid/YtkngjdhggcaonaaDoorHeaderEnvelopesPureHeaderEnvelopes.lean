/- YtkngjdhggcaonaaDoorPureHeaderEnvelopes, as far as HeaderEnvelopes needs it (prune.py). -/
import Derived.Test.YtkngjdhggcaonaaDoorHeaderEnvelopesPPx43
import Derived.Test.YtkngjdhggcaonaaDoorHeaderEnvelopesPureHeaderAddresses
import Derived.Test.YtkngjdhggcaonaaDoorHeaderEnvelopesMyHeadG
import Derived.Test.YtkngjdhggcaonaaDoorHeaderEnvelopesMyHeadEnv
namespace Go.Proofs.YtkngjdhggcaonaaDoor.Pure
open Go.RowKit Go.Proofs.YtkngjdhggcaonaaDoor.PP Go.Proofs.YtkngjdhggcaonaaDoor.My Go.Proofs.YtkngjdhggcaonaaDoorW.PrintWords Go.Proofs.YtkngjdhggcaonaaDoorW.PrintLast
set_option linter.unusedVariables false
set_option linter.unusedSimpArgs false
theorem bareL_len (l : List UInt8) : (bareL l).length ≤ l.length := by
  have h : ∀ (c : UInt8) (x : List UInt8), (chopC c x).length ≤ x.length := by
    intro c x
    unfold chopC
    split
    · simp
    · exact Nat.le_refl _
  unfold bareL
  split
  · have := h 13 l.dropLast
    have : l.dropLast.length ≤ l.length := by simp
    omega
  · exact Nat.le_refl _
theorem fields_short (s : List UInt8) : (fieldsL s).length ≤ s.length ∧ ∀ p ∈ fieldsL s, p.1.length ≤ s.length ∧ p.2.length ≤ s.length := by
  have h := blk_tot (linesL s) false []
  rw [linesL_flat] at h
  have h2 := linesL_lenle s
  have h3 : tot [] = 0 := rfl
  rw [h3] at h
  simp only [List.length_nil] at h
  unfold fieldsL
  refine ⟨by rw [List.length_map]; omega, ?_⟩
  intro p hp
  obtain ⟨q, hq, rfl⟩ := List.mem_map.1 hp
  have hok := blk_ok (linesL s) false [] (by simp) q hq
  have ht := mem_tot _ q hq
  unfold okB at hok
  unfold fldL
  have hb := bareL_len (q.2.drop (q.1.length + 1))
  rw [List.length_drop] at hb
  refine ⟨by show q.1.length ≤ _; omega, by show (bareL _).length ≤ _; omega⟩
theorem adrs_len (s : List UInt8) : (adrs s).length ≤ 2 * s.length + 1 := by
  rw [adrs_marks]
  have h1 := mkL_len s.length s false false 0 (Nat.le_refl _)
  have h2 := adS_len (mkL s false false 0) [] [] 0 []
  simp only [List.length_nil] at h2
  omega
def firL (L : List P2) (nm : List UInt8) : List (List UInt8) := (getL L [nm]).take 1
def peoL (nm : List UInt8) : List P2 → List Adr
  | [] => []
  | p :: l => if amL p.1 [nm] = true then adrs p.2 else peoL nm l
/-- What the fields of a short text are. -/
structure Fits (L : List P2) : Prop where
  few : L.length ≤ 4000
  short : ∀ p ∈ L, p.1.length ≤ 4000 ∧ p.2.length ≤ 4000
section
variable (L : List P2) (hL : Fits L) (nm : List UInt8) (hn : nm.length ≤ 100)
include hL hn
theorem Fits.fit : Fit L [nm] := by
  have h1 := hL.few
  refine ⟨by omega, fun p hp => ?_, by simp, ?_⟩
  · have := hL.short p hp
    omega
  · intro x hx
    rw [List.mem_singleton] at hx
    subst hx
    omega
theorem first_ev : Ev (fun k => header_first.f k (fB L) (B nm)) (Bs (firL L nm)) := by
  have hg := Get_f_ev L [nm] (hL.fit L nm hn)
  refine Ev.bd hg ?_
  unfold firL
  generalize getL L [nm] = g
  have e : (Bs g).take (mn ((Bs g).length : Int) 1).toNat = Bs (g.take 1) := by
    rw [Bs, List.length_map]
    unfold mn
    cases g with
    | nil => rfl
    | cons a b =>
      by_cases h : (1 : Int) < (((a :: b).length : Nat) : Int)
      · rw [if_pos h]; rfl
      · rw [if_neg h]
        cases b with
        | nil => rfl
        | cons c d => simp at h; omega
  have g0 : (0 : Int) ≤ mn ((Bs g).length : Int) 1 := by unfold mn; split <;> omega
  have g1 : mn ((Bs g).length : Int) 1 ≤ ((Bs g).length : Int) := by unfold mn; split <;> omega
  simp only [if_pos g0, if_pos g1, e]
  exact Ev.ret _
theorem one_ev : Ev (fun k => haversackref10_one.f k (fB L) (B nm)) (Bs (firL L nm)) := by
  have hg := RGet_f_ev L [nm] (hL.fit L nm hn)
  refine Ev.bd hg ?_
  unfold firL
  generalize getL L [nm] = g
  by_cases h : ((Bs g).length : Int) > 1
  · have h1 : (1 : Int) ≤ ((Bs g).length : Int) := by omega
    simp only [if_pos h, if_pos h1]
    have e : (Bs g).take (1 : Int).toNat = Bs (g.take 1) := by rw [Bs, ← List.map_take]; rfl
    rw [e]
    exact Ev.ret _
  · simp only [if_neg h]
    have e : g.take 1 = g := by
      rw [List.length_map] at h
      exact List.take_of_length_le (by omega)
    rw [e]
    exact Ev.ret _
theorem people_l0 : ∀ (ls a : List P2), a ++ ls = L → Ev (fun k => header_people.l0 k (B nm) (fB L) (L.length : Int) ((a.length : Nat) : Int)) (peoL nm ls)
  | [], a, ha => by
    have h1 : a = L := by simpa using ha
    subst h1
    exact Ev.now (fun k => by rw [header_people.l0, if_neg (by simp)]; rfl)
  | p :: ls, a, ha => by
    have hLl : L.length = a.length + ls.length + 1 := by rw [← ha]; simp; omega
    have hp := hL.short p (by rw [← ha]; simp)
    have hfew := hL.few
    have hrd := rdF L a p ls ha
    have g1 : ((a.length : Nat) : Int) < (L.length : Int) := by omega
    have g2 : ((a.length : Nat) : Int) < ((fB L).length : Int) := by rw [List.length_map]; omega
    have g0 : (0 : Int) ≤ ((a.length : Nat) : Int) := by omega
    have w1 : Wp (((a.length : Nat) : Int) + 1) (((a ++ [p]).length : Nat) : Int) := ⟨by
      rw [w64 (x := ((a.length : Nat) : Int) + 1) (by omega), List.length_append]; rfl⟩
    have ham := among_f p.1 [nm] (by omega) (by simp) (by intro x hx; rw [List.mem_singleton] at hx; subst hx; omega)
    have ih := people_l0 ls (a ++ [p]) (by rw [← ha]; simp)
    have step : ∀ k, header_people.l0 (k + 1) (B nm) (fB L) (L.length : Int) ((a.length : Nat) : Int) = if amL p.1 [nm] = true then ((header_Addresses.f k (B p.2)).bind fun t => some t) else header_people.l0 k (B nm) (fB L) (L.length : Int) (((a ++ [p]).length : Nat) : Int) := by
      intro k
      rw [header_people.l0, if_pos g1, if_pos g0, if_pos g2, hrd]
      have : ([B nm] : List ByteArray) = Bs [nm] := rfl
      simp only [this, ham, Option.bind_some, w1.e]
    rw [peoL]
    by_cases h : amL p.1 [nm] = true
    · rw [if_pos h]
      exact Ev.go (fun k => by rw [step, if_pos h]) (Ev.bd (adrs_ev p.2 (by omega)) (Ev.ret _))
    · rw [if_neg h]
      exact Ev.go (fun k => by rw [step, if_neg h]) ih
theorem peop_f_ev : Ev (fun k => header_people.f k (fB L) (B nm)) (peoL nm L) := by
  refine Ev.same (fun k => ?_) (people_l0 L hL nm hn L [] rfl)
  rw [header_people.f, List.length_map]
  rfl
end
theorem rpeople_l0 (L : List P2) (hL : Fits L) (nm : List UInt8) (hlow : lowL nm = nm) : ∀ (ls a : List P2), a ++ ls = L → Ev (fun k => haversackref10_people.l0 k (fB L) (B nm) ((a.length : Nat) : Int)) (peoL nm ls)
  | [], a, ha => by
    have h1 : a = L := by simpa using ha
    subst h1
    exact Ev.now (fun k => by rw [haversackref10_people.l0, if_neg (by simp)]; rfl)
  | p :: ls, a, ha => by
    have hLl : L.length = a.length + ls.length + 1 := by rw [← ha]; simp; omega
    have hp := hL.short p (by rw [← ha]; simp)
    have hfew := hL.few
    have hrd := rdF L a p ls ha
    have g2 : ((a.length : Nat) : Int) < ((fB L).length : Int) := by rw [List.length_map]; omega
    have g0 : (0 : Int) ≤ ((a.length : Nat) : Int) := by omega
    have w1 : Wp (((a.length : Nat) : Int) + 1) (((a ++ [p]).length : Nat) : Int) := ⟨by
      rw [w64 (x := ((a.length : Nat) : Int) + 1) (by omega), List.length_append]; rfl⟩
    have lw : haversackref08_Lower.f (B p.1) = some (B (lowL p.1)) := by
      unfold haversackref08_Lower.f
      rw [if_pos (by rw [bS]; omega)]
    have ih := rpeople_l0 L hL nm hlow ls (a ++ [p]) (by rw [← ha]; simp)
    have step : ∀ k, haversackref10_people.l0 (k + 1) (fB L) (B nm) ((a.length : Nat) : Int) = if lowL p.1 = nm then ((haversackref10_Addresses.f k (B p.2)).bind fun t => some t) else haversackref10_people.l0 k (fB L) (B nm) (((a ++ [p]).length : Nat) : Int) := by
      intro k
      rw [haversackref10_people.l0, if_pos g2, if_pos g0, hrd]
      simp only [lw, Option.bind_some, btl, w1.e]
    rw [peoL]
    have ham : (amL p.1 [nm] = true) ↔ lowL p.1 = nm := by
      unfold amL
      simp only [List.any_cons, List.any_nil, Bool.or_false, beq_iff_eq, hlow]
      exact ⟨fun h => h.symm, fun h => h.symm⟩
    by_cases h : lowL p.1 = nm
    · rw [if_pos (ham.2 h)]
      exact Ev.go (fun k => by rw [step, if_pos h]) (Ev.bd (Addresses_ev p.2 (by omega)) (Ev.ret _))
    · rw [if_neg (fun e => h (ham.1 e))]
      exact Ev.go (fun k => by rw [step, if_neg h]) ih
theorem rpeop_f_ev (L : List P2) (hL : Fits L) (nm : List UInt8) (hlow : lowL nm = nm) : Ev (fun k => haversackref10_people.f k (fB L) (B nm)) (peoL nm L) :=
  rpeople_l0 L hL nm hlow L [] rfl
theorem peoL_len (nm : List UInt8) : ∀ (L : List P2), (∀ p ∈ L, p.1.length ≤ 4000 ∧ p.2.length ≤ 4000) → (peoL nm L).length ≤ 8001
  | [], _ => by simp [peoL]
  | p :: l, h => by
    rw [peoL]
    split
    · have h1 := adrs_len p.2
      have h2 := h p (by simp)
      omega
    · exact peoL_len nm l (fun q hq => h q (List.mem_cons_of_mem _ hq))
/-- What is told of fields. -/
def orA (a b : List Adr) : List Adr := if (a.length : Int) = 0 then b else a
theorem clone_f (l : List Adr) (h : l.length ≤ 8001) : api_Address.f l = some l := by
  unfold api_Address.f
  rw [if_pos (by omega)]
def nDate : List UInt8 := [100, 97, 116, 101]
def nSubj : List UInt8 := [115, 117, 98, 106, 101, 99, 116]
def nIn : List UInt8 := [105, 110, 45, 114, 101, 112, 108, 121, 45, 116, 111]
def nId : List UInt8 := [109, 101, 115, 115, 97, 103, 101, 45, 105, 100]
def nFrom : List UInt8 := [102, 114, 111, 109]
def nSend : List UInt8 := [115, 101, 110, 100, 101, 114]
def nRep : List UInt8 := [114, 101, 112, 108, 121, 45, 116, 111]
def nTo : List UInt8 := [116, 111]
def nCc : List UInt8 := [99, 99]
def nBcc : List UInt8 := [98, 99, 99]
def envL (L : List P2) : List ByteArray × List ByteArray × List Adr × List Adr × List Adr × List Adr × List Adr × List Adr × List ByteArray × List ByteArray :=
  (Bs (firL L nDate), Bs (firL L nSubj), peoL nFrom L, orA (peoL nSend L) (peoL nFrom L), orA (peoL nRep L) (peoL nFrom L), peoL nTo L, peoL nCc L, peoL nBcc L, Bs (firL L nIn), Bs (firL L nId))
theorem env_ev (L : List P2) (hL : Fits L) : Ev (fun k => header_Envelope.f k (fB L)) (envL L) := by
  have F := fun nm hn => first_ev L hL nm hn
  have P := fun nm hn => peop_f_ev L hL nm hn
  refine Ev.bd (F nDate (by decide)) ?_
  refine Ev.bd (F nSubj (by decide)) ?_
  refine Ev.bd (F nIn (by decide)) ?_
  refine Ev.bd (F nId (by decide)) ?_
  refine Ev.bd (P nFrom (by decide)) ?_
  refine Ev.bd (P nSend (by decide)) ?_
  refine Ev.bd (P nRep (by decide)) ?_
  refine Ev.bd (P nTo (by decide)) ?_
  refine Ev.bd (P nCc (by decide)) ?_
  refine Ev.bd (P nBcc (by decide)) ?_
  have hc := clone_f (peoL nFrom L) (peoL_len nFrom L hL.short)
  unfold envL orA
  by_cases h1 : ((peoL nSend L).length : Int) = 0
  · by_cases h2 : ((peoL nRep L).length : Int) = 0
    · simp only [if_pos h1, if_pos h2, hc, Option.bind_some]
      exact Ev.ret _
    · simp only [if_pos h1, if_neg h2, hc, Option.bind_some]
      exact Ev.ret _
  · by_cases h2 : ((peoL nRep L).length : Int) = 0
    · simp only [if_neg h1, if_pos h2, hc, Option.bind_some]
      exact Ev.ret _
    · simp only [if_neg h1, if_neg h2]
      exact Ev.ret _
theorem renv_ev (L : List P2) (hL : Fits L) : Ev (fun k => haversackref10_Envelope.f k (fB L)) (envL L) := by
  have F := fun nm hn => one_ev L hL nm hn
  have P := fun nm hw => rpeop_f_ev L hL nm hw
  refine Ev.bd (P nFrom (by decide)) ?_
  refine Ev.bd (F nDate (by decide)) ?_
  refine Ev.bd (F nSubj (by decide)) ?_
  refine Ev.bd (P nSend (by decide)) ?_
  refine Ev.bd (P nRep (by decide)) ?_
  refine Ev.bd (P nTo (by decide)) ?_
  refine Ev.bd (P nCc (by decide)) ?_
  refine Ev.bd (P nBcc (by decide)) ?_
  refine Ev.bd (F nIn (by decide)) ?_
  refine Ev.bd (F nId (by decide)) ?_
  unfold envL orA
  by_cases h1 : ((peoL nSend L).length : Int) = 0
  · by_cases h2 : ((peoL nRep L).length : Int) = 0
    · simp only [if_pos h1, if_pos h2]
      exact Ev.ret _
    · simp only [if_pos h1, if_neg h2]
      exact Ev.ret _
  · by_cases h2 : ((peoL nRep L).length : Int) = 0
    · simp only [if_neg h1, if_pos h2]
      exact Ev.ret _
    · simp only [if_neg h1, if_neg h2]
      exact Ev.ret _
theorem firL_len (L : List P2) (nm : List UInt8) : (Bs (firL L nm)).length ≤ 1000000000 := by
  rw [List.length_map]
  unfold firL
  rw [List.length_take]
  omega
theorem orA_len (a b : List Adr) (ha : a.length ≤ 8001) (hb : b.length ≤ 8001) : (orA a b).length ≤ 1000000000 := by
  unfold orA
  split <;> omega
theorem same10 (a b c d : List ByteArray) (e f g h i j : List Adr) (ha : a.length ≤ 1000000000) (hb : b.length ≤ 1000000000) (hc : c.length ≤ 1000000000) (hd : d.length ≤ 1000000000) (he : e.length ≤ 1000000000) (hf : f.length ≤ 1000000000) (hg : g.length ≤ 1000000000) (hh : h.length ≤ 1000000000) (hi : i.length ≤ 1000000000) (hj : j.length ≤ 1000000000) :
    Ev (fun k => haversackref10_Same.f k a b e f g h i j c d a b e f g h i j c d) true := by
  refine Ev.bd (texts_ev a ha) ?_
  simp only [if_true]
  refine Ev.bd (texts_ev b hb) ?_
  simp only [if_true]
  refine Ev.bd (texts_ev c hc) ?_
  simp only [if_true]
  refine Ev.bd (texts_ev d hd) ?_
  simp only [if_true]
  refine Ev.bd (peop_ev e he) ?_
  simp only [if_true]
  refine Ev.bd (peop_ev f hf) ?_
  simp only [if_true]
  refine Ev.bd (peop_ev g hg) ?_
  simp only [if_true]
  refine Ev.bd (peop_ev h hh) ?_
  simp only [if_true]
  refine Ev.bd (peop_ev i hi) ?_
  simp only [if_true]
  refine Ev.bd (peop_ev j hj) ?_
  exact Ev.ret true
theorem HeaderEnvelopes : haversacklaw10_HeaderEnvelopes.Pure := by
  intro a0 _
  obtain ⟨s, rfl⟩ := isB a0
  have main : Ev (fun k => haversacklaw10_HeaderEnvelopes.f k (B s)) true := by
    by_cases h1 : ((B s).size : Int) > 4000
    · exact Ev.same (fun k => by rw [haversacklaw10_HeaderEnvelopes.f, if_pos h1]) (Ev.bd alive_ev (Ev.ret true))
    · have hs : s.length ≤ 4000 := by rw [bS] at h1; omega
      obtain ⟨f1, f2⟩ := fields_short s
      have hL : Fits (fieldsL s) := ⟨by omega, fun p hp => by have := f2 p hp; omega⟩
      have pl := fun nm => peoL_len nm (fieldsL s) hL.short
      refine Ev.same (fun k => by rw [haversacklaw10_HeaderEnvelopes.f, if_neg h1]) ?_
      refine Ev.bd (Fields_f_ev s (by omega)) ?_
      refine Ev.bd (env_ev _ hL) ?_
      refine Ev.bd (RFields_f_ev s (by omega)) ?_
      refine Ev.bd (renv_ev _ hL) ?_
      refine Ev.bd (same10 _ _ _ _ _ _ _ _ _ _ (firL_len _ _) (firL_len _ _) (firL_len _ _) (firL_len _ _) (by have := pl nFrom; exact Nat.le_trans this (by decide)) (orA_len _ _ (pl _) (pl _)) (orA_len _ _ (pl _) (pl _)) (by have := pl nTo; exact Nat.le_trans this (by decide)) (by have := pl nCc; exact Nat.le_trans this (by decide)) (by have := pl nBcc; exact Nat.le_trans this (by decide))) ?_
      simp only [if_true]
      exact Ev.bd alive_ev (Ev.ret true)
  obtain ⟨K, hK⟩ := main
  exact ⟨K, hK K (Nat.le_refl _)⟩
end Go.Proofs.YtkngjdhggcaonaaDoor.Pure
