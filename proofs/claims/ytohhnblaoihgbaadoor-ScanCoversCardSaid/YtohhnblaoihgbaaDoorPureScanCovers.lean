/- The scan's tokens and remarks cover the text in order, blanks between; a text with a fault has none. Condition: none beside the statement's own. -/
import Derived.Test.YtohhnblaoihgbaaDoorPScanCoversx8
namespace Go.Proofs.YtohhnblaoihgbaaDoor.Pure
open Go.RowKit Go.Proofs.YtohhnblaoihgbaaDoor.PScanCovers Go.Proofs.YtohhnblaoihgbaaDoorW.PrintWords Go.Proofs.YtohhnblaoihgbaaDoorW.PrintLast Go.Proofs.YtohhnblaoihgbaaDoorW.PrintMore
def Pre (s : ByteArray) (at_ line : Int) (l : List S29) (c : List S32) : Prop := ∃ a n : Int, 0 ≤ a ∧ a ≤ at_ ∧ BlankIn s a at_ ∧ line = n + nlc s a (at_ - a).toNat ∧ 0 ≤ n ∧ ∀ (l' : List S29) (c' : List S32), l' ≠ [] → (∀ e ∈ c', (l.length : Int) ≤ e.f3) → Cov s (l ++ l') (c ++ c') l.length c.length a n → Cov s (l ++ l') (c ++ c') 0 0 0 1
theorem rd29_app (l l' : List S29) (t : S29) : rd_T29 (l ++ t :: l') (l.length : Int) = t := by
  unfold rd_T29
  rw [show ((l.length : Int)).toNat = l.length by omega, List.getD_eq_getElem?_getD, List.getElem?_append_right (by omega)]
  simp
theorem rd32_app (c c' : List S32) (t : S32) : rd_T32 (c ++ t :: c') (c.length : Int) = t := by
  unfold rd_T32
  rw [show ((c.length : Int)).toNat = c.length by omega, List.getD_eq_getElem?_getD, List.getElem?_append_right (by omega)]
  simp
theorem rd29_last (l l' : List S29) (h : 0 < l.length) : rd_T29 (l ++ l') ((l.length : Int) - 1) = rd_T29 l ((l.length : Int) - 1) := by
  unfold rd_T29
  rw [show ((l.length : Int) - 1).toNat = l.length - 1 by omega, List.getD_eq_getElem?_getD, List.getD_eq_getElem?_getD, List.getElem?_append_left (by omega)]
theorem nlc_zero (s : ByteArray) (a : Int) : nlc s a 0 = 0 := rfl
theorem pre_start (s : ByteArray) : Pre s 0 1 [] [] := ⟨0, 1, by omega, by omega, fun j h1 h2 => by omega, rfl, by omega, fun _ _ _ _ h => h⟩
theorem pre_blank {s : ByteArray} {at_ line : Int} {l : List S29} {c : List S32} (h : Pre s at_ line l c) (hb : bt s at_ = 32 ∨ bt s at_ = 9) : Pre s (at_ + 1) line l c := by
  obtain ⟨a, n, h1, h2, h3, h4, h5, h6⟩ := h
  refine ⟨a, n, h1, by omega, ?_, ?_, h5, h6⟩
  · intro j j1 j2
    by_cases e : j = at_
    · subst e; rcases hb with hb | hb
      · exact .inl hb
      · exact .inr (.inl hb)
    · exact h3 j j1 (by omega)
  · rw [h4, show (at_ + 1 - a).toNat = (at_ - a).toNat + 1 by omega, nlc_succ, show a + ((at_ - a).toNat : Int) = at_ by omega, if_neg (by omega)]; omega
theorem pre_nl {s : ByteArray} {at_ line : Int} {l : List S29} {c : List S32} (h : Pre s at_ line l c) (hb : bt s at_ = 10) : Pre s (at_ + 1) (line + 1) l c := by
  obtain ⟨a, n, h1, h2, h3, h4, h5, h6⟩ := h
  refine ⟨a, n, h1, by omega, ?_, ?_, h5, h6⟩
  · intro j j1 j2
    by_cases e : j = at_
    · subst e; exact .inr (.inr hb)
    · exact h3 j j1 (by omega)
  · rw [h4, show (at_ + 1 - a).toNat = (at_ - a).toNat + 1 by omega, nlc_succ, show a + ((at_ - a).toNat : Int) = at_ by omega, if_pos hb]; omega
theorem no_com {l : List S29} {c c' : List S32} {t : S29} (h : ∀ e ∈ c', ((l ++ [t]).length : Int) ≤ e.f3) : ¬ ((c.length : Int) < (c ++ c').length ∧ (rd_T32 (c ++ c') c.length).f3 = l.length) := by
  rintro ⟨h1, h2⟩
  cases c' with
  | nil => simp at h1
  | cons e c' =>
    rw [rd32_app] at h2
    have := h e (by simp)
    rw [List.length_append, List.length_singleton] at this
    omega
theorem pre_tok {s : ByteArray} {at_ line : Int} {l : List S29} {c : List S32} (h : Pre s at_ line l c) (hl : line ≤ 100000) (kind : Int) (t : ByteArray) (h7 : at_ + t.size ≤ s.size) (h8 : s.extract at_.toNat (at_ + t.size).toNat = t) : Pre s (at_ + t.size) line (l ++ [⟨kind, t, at_, line, false⟩]) c := by
  obtain ⟨a, n, h1, h2, h3, h4, h5, h6⟩ := h
  have hn := nlc_le s a (at_ - a).toNat
  refine ⟨at_ + t.size, line, by omega, by omega, fun j j1 j2 => by omega, by rw [show (at_ + (t.size : Int) - (at_ + (t.size : Int))).toNat = 0 by omega, nlc_zero]; omega, by omega, ?_⟩
  intro l' c' hne hc hcov
  rw [List.append_assoc, List.singleton_append] at hcov ⊢
  refine h6 _ c' (by simp) (fun e he => by have := hc e he; rw [List.length_append, List.length_singleton] at this; omega) ?_
  have hr := rd29_app l l' ⟨kind, t, at_, line, false⟩
  refine Cov.tok _ _ _ _ (by omega) (by omega) (by rw [List.length_append, List.length_cons]; omega) (no_com hc) (by rw [hr]) h1 (by rw [hr]; exact h2) (by rw [hr]; exact h3) (by rw [hr]; exact h4) (by rw [hr]; exact h7) (by rw [hr]; exact h8) h5 (by omega) ?_
  rw [hr, show (l.length : Int) + 1 = ((l ++ [(⟨kind, t, at_, line, false⟩ : S29)]).length : Int) by rw [List.length_append, List.length_singleton]; omega]
  exact hcov
theorem pre_com {s : ByteArray} {at_ line : Int} {l : List S29} {c : List S32} (h : Pre s at_ line l c) (hl : line ≤ 100000) (t : ByteArray) (h7 : at_ + t.size ≤ s.size) (h8 : s.extract at_.toNat (at_ + t.size).toNat = t) : Pre s (at_ + t.size) line l (c ++ [⟨t, at_, line, l.length⟩]) := by
  obtain ⟨a, n, h1, h2, h3, h4, h5, h6⟩ := h
  have hn := nlc_le s a (at_ - a).toNat
  refine ⟨at_ + t.size, line, by omega, by omega, fun j j1 j2 => by omega, by rw [show (at_ + (t.size : Int) - (at_ + (t.size : Int))).toNat = 0 by omega, nlc_zero]; omega, by omega, ?_⟩
  intro l' c' hne hc hcov
  rw [List.append_assoc, List.singleton_append] at hcov ⊢
  refine h6 l' _ hne (fun e he => by rcases List.mem_cons.1 he with rfl | he; exact Int.le_refl _; exact hc e he) ?_
  have hr := rd32_app c c' ⟨t, at_, line, l.length⟩
  have hp : 0 < l'.length := List.length_pos_iff.2 hne
  refine Cov.com _ _ _ _ (by omega) (by omega) (by rw [List.length_append]; omega) (by rw [List.length_append, List.length_cons]; omega) (by rw [hr]) h1 (by rw [hr]; exact h2) (by rw [hr]; exact h3) (by rw [hr]; exact h4) (by rw [hr]; exact h7) (by rw [hr]; exact h8) h5 (by omega) ?_
  rw [hr, show (c.length : Int) + 1 = ((c ++ [(⟨t, at_, line, l.length⟩ : S32)]).length : Int) by rw [List.length_append, List.length_singleton]; omega]
  exact hcov
theorem pre_semi {s : ByteArray} {at_ line : Int} {l : List S29} {c : List S32} (h : Pre s at_ line l c) : Pre s at_ line (semiL l at_ line) c := by
  unfold semiL
  by_cases h0 : l.length = 0
  · rw [if_pos h0]; exact h
  rw [if_neg h0]
  by_cases he : endsP (rd_T29 l ((l.length : Int) - 1)) = true
  · rw [if_pos he]
    obtain ⟨a, n, h1, h2, h3, h4, h5, h6⟩ := h
    refine ⟨a, n, h1, h2, h3, h4, h5, ?_⟩
    intro l' c' hne hc hcov
    rw [List.append_assoc, List.singleton_append] at hcov ⊢
    refine h6 _ c' (by simp) (fun e he => by have := hc e he; rw [List.length_append, List.length_singleton] at this; omega) ?_
    have hr := rd29_app l l' ⟨6, ⟨#[59]⟩, at_, line, true⟩
    refine Cov.auto _ _ _ _ (by omega) (by omega) (by rw [List.length_append, List.length_cons]; omega) (no_com hc) (by rw [hr]) (by rw [hr]) (by rw [hr]) (by rw [hr]; exact h2) (by rw [rd29_last _ _ (by omega)]; exact he) ?_
    rw [show (l.length : Int) + 1 = ((l ++ [(⟨6, ⟨#[59]⟩, at_, line, true⟩ : S29)]).length : Int) by rw [List.length_append, List.length_singleton]; omega]
    exact hcov
  · rw [if_neg he]; exact h
theorem pre_end {s : ByteArray} {line : Int} {l : List S29} {c : List S32} (h : Pre s s.size line l c) (hl : line ≤ 100000) : Cov s (l ++ [⟨7, ⟨#[]⟩, s.size, line, false⟩]) c 0 0 0 1 := by
  obtain ⟨a, n, h1, h2, h3, h4, h5, h6⟩ := h
  have hn := nlc_le s a ((s.size : Int) - a).toNat
  have hz : (((⟨#[]⟩ : ByteArray).size : Nat) : Int) = 0 := rfl
  have hh := h6 [⟨7, ⟨#[]⟩, s.size, line, false⟩] [] (by simp) (by simp)
  rw [List.append_nil] at hh
  refine hh ?_
  have hr := rd29_app l [] ⟨7, ⟨#[]⟩, s.size, line, false⟩
  have hlen : ((l ++ [(⟨7, ⟨#[]⟩, s.size, line, false⟩ : S29)]).length : Int) = l.length + 1 := by rw [List.length_append, List.length_singleton]; omega
  refine Cov.tok _ _ _ _ (by omega) (by omega) (by omega) (fun hk => by omega) (by rw [hr]) h1 (by rw [hr]; exact h2) (by rw [hr]; exact h3) (by rw [hr]; exact h4) (by rw [hr]; show (s.size : Int) + ((⟨#[]⟩ : ByteArray).size : Int) ≤ s.size; omega) (by rw [hr]; show s.extract (s.size : Int).toNat ((s.size : Int) + ((⟨#[]⟩ : ByteArray).size : Int)).toNat = ⟨#[]⟩; rw [hz]; apply ByteArray.ext; simp) h5 (by omega) ?_
  rw [hr]
  refine Cov.done _ _ _ _ (by omega) (by omega) (by show (s.size : Int) + ((⟨#[]⟩ : ByteArray).size : Int) = s.size; omega) (by omega) ?_
  rw [hlen, show (l.length : Int) + 1 - 1 = l.length by omega, hr]
def Piece (s : ByteArray) (at_ : Int) (t : ByteArray) : Prop := at_ + t.size ≤ s.size ∧ s.extract at_.toNat (at_ + t.size).toNat = t
theorem piece_ext (s : ByteArray) (at_ : Int) (j : Nat) (h0 : 0 ≤ at_) (h1 : at_ ≤ s.size) : Piece s at_ (s.extract at_.toNat j) := by
  have hz : (s.extract at_.toNat j).size = min j s.size - at_.toNat := ByteArray.size_extract
  refine ⟨by omega, ?_⟩
  apply ByteArray.ext
  apply Array.ext
  · have h2 : (s.extract at_.toNat (at_ + (s.extract at_.toNat j).size).toNat).size = (s.extract at_.toNat j).size := by rw [ByteArray.size_extract]; omega
    exact h2
  · intro i hi1 hi2
    simp [ByteArray.data_extract]
theorem piece_pre {s : ByteArray} {at_ : Int} {t : ByteArray} (h : Piece s at_ t) (h0 : 0 ≤ at_) (m : Nat) : Piece s at_ (t.extract 0 m) := by
  obtain ⟨h1, h2⟩ := h
  have hz : (t.extract 0 m).size = min m t.size - 0 := ByteArray.size_extract
  refine ⟨by omega, ?_⟩
  obtain ⟨n, hn⟩ : ∃ n, t.size = n := ⟨_, rfl⟩
  rw [hn] at h1 h2 hz
  subst h2
  apply ByteArray.ext
  apply Array.ext
  · simp only [ByteArray.size_data, ByteArray.size_extract] at hz hn ⊢
    omega
  · intro i hi1 hi2
    simp [ByteArray.data_extract]
theorem piece_rest (s : ByteArray) (at_ : Int) (h0 : 0 ≤ at_) (h1 : at_ ≤ s.size) : Piece s at_ (restP s at_) := by
  unfold restP lineP
  split
  · exact piece_pre (piece_ext s at_ s.size h0 h1) h0 _
  · exact piece_ext s at_ s.size h0 h1
theorem piece_one (s : ByteArray) (at_ : Int) (h0 : 0 ≤ at_) (h1 : at_ < s.size) (h : bt s at_ = 59) : Piece s at_ ⟨#[59]⟩ := by
  have hz : (((⟨#[59]⟩ : ByteArray).size : Nat) : Int) = 1 := rfl
  refine ⟨by omega, ?_⟩
  rw [hz]
  have hlt : at_.toNat < s.size := by omega
  have hb := bt_at s at_ hlt
  rw [h] at hb
  apply ByteArray.ext
  apply Array.ext
  · have h3 : (s.extract at_.toNat (at_ + 1).toNat).size = (⟨#[59]⟩ : ByteArray).size := by rw [ByteArray.size_extract]; show _ = 1; omega
    exact h3
  · intro i hi1 hi2
    have hi : i = 0 := by
      have : i < 1 := hi2
      omega
    subst hi
    apply UInt8.toNat_inj.1
    simp [ByteArray.data_extract]
    exact_mod_cast hb
theorem pre_put {s : ByteArray} {at_ line : Int} {l : List S29} {c : List S32} {fault kind : Int} {t : ByteArray} (h : Pre s at_ line l c) (hl : line ≤ 100000) (hp : Piece s at_ t) : Pre s (putP at_ line l c fault kind t).at_ (putP at_ line l c fault kind t).line (putP at_ line l c fault kind t).l (putP at_ line l c fault kind t).c := pre_tok h hl kind t hp.1 hp.2
def PreSt (s : ByteArray) (x : ScSt) : Prop := Pre s x.at_ x.line x.l x.c
theorem one_pre {s : ByteArray} {at_ line : Int} {l : List S29} {c : List S32} {fault : Int} (h : Pre s at_ line l c) (hl : line ≤ 100000) (h0 : 0 ≤ at_) (h1 : at_ < s.size) (hf : (oneP s at_ line l c fault).fault < 0) : PreSt s (oneP s at_ line l c fault) := by
  unfold oneP at hf ⊢
  split at hf
  · rename_i e
    rw [if_pos e]
    exact pre_nl (pre_semi h) e
  rename_i e1
  rw [if_neg e1]
  split at hf
  · rename_i e
    rw [if_pos e]
    exact pre_blank h e
  rename_i e2
  rw [if_neg e2]
  split at hf
  · rename_i e
    rw [if_pos e]
    have hp := piece_rest s at_ h0 (by omega)
    exact pre_com (pre_semi h) hl (restP s at_) hp.1 hp.2
  rename_i e3
  rw [if_neg e3]
  split at hf
  · rename_i e
    rw [if_pos e]
    unfold nameP at hf ⊢
    split at hf
    · exact absurd hf (by show ¬ at_ < 0; omega)
    · rename_i e'
      rw [if_neg e']
      exact pre_put h hl (piece_ext s at_ _ h0 (by omega))
  rename_i e4
  rw [if_neg e4]
  split at hf
  · rename_i e
    rw [if_pos e]
    unfold numberP at hf ⊢
    split at hf
    · exact absurd hf (by show ¬ at_ < 0; omega)
    · rename_i e'
      rw [if_neg e']
      exact pre_put h hl (piece_ext s at_ _ h0 (by omega))
  rename_i e5
  rw [if_neg e5]
  split at hf
  · rename_i e
    rw [if_pos e]
    unfold textP at hf ⊢
    split at hf
    · exact absurd hf (by show ¬ at_ < 0; omega)
    · rename_i e'
      rw [if_neg e']
      exact pre_put h hl (piece_pre (piece_rest s at_ h0 (by omega)) h0 _)
  rename_i e6
  rw [if_neg e6]
  split at hf
  · rename_i e
    rw [if_pos e]
    exact pre_put h hl (piece_one s at_ h0 h1 e)
  rename_i e7
  rw [if_neg e7]
  unfold opRes at hf ⊢
  split at hf
  · rename_i e
    rw [if_pos e]
    exact pre_put h hl (piece_ext s at_ _ h0 (by omega))
  rename_i e8
  rw [if_neg e8]
  split at hf
  · rename_i e
    rw [if_pos e]
    exact pre_put h hl (piece_ext s at_ _ h0 (by omega))
  · exact absurd hf (by show ¬ at_ < 0; omega)
theorem loop_pre {s : ByteArray} (hs : s.size ≤ 90000) (m : Nat) : ∀ x : ScSt, Go.Proofs.YtohhnblaoihgbaaDoor.PScanCovers.Good s x → (x.fault < 0 → PreSt s x) → Go.Proofs.YtohhnblaoihgbaaDoor.PScanCovers.Good s (scanLoop s m x) ∧ ((scanLoop s m x).fault < 0 → PreSt s (scanLoop s m x)) ∧ ((s.size : Int) + 1 ≤ x.at_ + m → 0 ≤ (scanLoop s m x).fault ∨ (scanLoop s m x).at_ = s.size) := by
  induction m with
  | zero =>
    intro x hg hp
    refine ⟨hg, hp, fun h => ?_⟩
    have := hg.a1
    omega
  | succ m ih =>
    rintro ⟨at_, line, l, c, fault⟩ hg hp
    by_cases h : at_ < s.size ∧ fault < 0
    · rw [scanLoop_step s m at_ line l c fault h.1 h.2]
      obtain ⟨g1, g2, g3⟩ := one_good hg h.1
      have hn1 : line ≤ at_ + 1 := hg.n1
      have ha0 : 0 ≤ at_ := hg.a0
      obtain ⟨i1, i2, i3⟩ := ih _ g1 (fun hf => one_pre (at_ := at_) (line := line) (l := l) (c := c) (fault := fault) (hp h.2) (by omega) ha0 h.1 hf)
      refine ⟨i1, i2, fun hb => ?_⟩
      by_cases hf : 0 ≤ (oneP s at_ line l c fault).fault
      · rw [scanLoop_end s m _ (fun h => by omega)]
        exact .inl hf
      · refine i3 ?_
        have hb' : (s.size : Int) + 1 ≤ at_ + ((m + 1 : Nat) : Int) := hb
        rcases g3 with g3 | g3
        · exact absurd g3 hf
        · omega
    · rw [scanLoop_end s (m + 1) ⟨at_, line, l, c, fault⟩ h]
      refine ⟨hg, hp, fun _ => ?_⟩
      have := hg.a1
      show 0 ≤ fault ∨ at_ = s.size
      have ha1 : at_ ≤ s.size := hg.a1
      by_cases hf : 0 ≤ fault
      · exact .inl hf
      · exact .inr (by
          by_cases ha : at_ < s.size
          · exact absurd ⟨ha, by omega⟩ h
          · omega)
theorem good_start (s : ByteArray) : Go.Proofs.YtohhnblaoihgbaaDoor.PScanCovers.Good s ⟨0, 1, [], [], -1⟩ := ⟨Int.le_refl _, by show (0 : Int) ≤ s.size; omega, by decide, by decide, by decide, by decide⟩
theorem cov_scan (s : ByteArray) (hs : s.size ≤ 2000) : ∃ (l : List S29) (c : List S32) (fault : Int), scan_Scan.f s = some (l, c, fault) ∧ l.length ≤ 1000000 ∧ c.length ≤ 1000000 ∧ ((0 ≤ fault ∧ l = [] ∧ c = []) ∨ (fault < 0 ∧ Cov s l c 0 0 0 1)) := by
  obtain ⟨g, p, e⟩ := loop_pre (s := s) (by omega) (s.size + 2) ⟨0, 1, [], [], -1⟩ (good_start s) (fun _ => pre_start s)
  have e' := e (by show (s.size : Int) + 1 ≤ 0 + ((s.size + 2 : Nat) : Int); omega)
  unfold scan_Scan.f
  rw [if_pos (by omega)]
  obtain ⟨R, hR⟩ : ∃ R, scanLoop s (s.size + 2) ⟨0, 1, [], [], -1⟩ = R := ⟨_, rfl⟩
  rw [hR] at g p e' ⊢
  unfold scanEnd
  by_cases hf : fault2 s R.fault ≥ 0
  · rw [if_pos hf]
    exact ⟨[], [], _, rfl, by simp, by simp, .inl ⟨hf, rfl, rfl⟩⟩
  · rw [if_neg hf]
    have hrf : R.fault < 0 := by
      by_cases h : R.fault < 0
      · exact h
      · refine absurd ?_ hf
        unfold fault2 leastF
        rw [if_neg (by omega)]
        split <;> first | omega | (split <;> first | omega | (split <;> omega))
    have hat : R.at_ = s.size := by omega
    have hp := pre_semi (p hrf)
    have h1 := g.n1
    have h2 := g.l1
    have h3 := g.c1
    have hsl : (semiL R.l R.at_ R.line).length ≤ R.l.length + 1 := by
      unfold semiL
      split
      · omega
      · split
        · simp
        · omega
    refine ⟨_, _, _, rfl, by rw [List.length_append, List.length_singleton]; omega, by omega, .inr ⟨by decide, ?_⟩⟩
    rw [hat] at hp ⊢
    exact pre_end hp (by omega)
theorem begun_f : recensionlaw6_begun.f = some true := by decide +kernel
theorem cut4_f (a : ByteArray) : ∃ s, recensionlaw3_Cut.f a 400 = some s ∧ s.size ≤ 400 := by
  unfold recensionlaw3_Cut.f
  by_cases h : (a.size : Int) > 400
  · rw [if_pos h, if_pos (by decide), if_pos (by omega)]
    exact ⟨_, rfl, by rw [ByteArray.size_extract]; show min 400 a.size - 0 ≤ 400; omega⟩
  · rw [if_neg h]; exact ⟨_, rfl, by omega⟩
theorem ScanCovers : recensionlaw6_ScanCovers.Pure := by
  intro a _
  obtain ⟨s, hs, hsz⟩ := cut4_f a
  obtain ⟨l, c, fault, h1, h2, h3, h4⟩ := cov_scan s (by omega)
  unfold recensionlaw6_ScanCovers.f
  exact if_pos ⟨begun_f, s, l, c, fault, hs, h1, by omega, h2, h3, h4⟩

end Go.Proofs.YtohhnblaoihgbaaDoor.Pure
