/- What Close does to a good table, and that it takes back what Open did. No conditions but the ones that stand in each. -/
import Derived.Test.YtphaicaobepimaaDp
namespace Go.Proofs.Ytphaicaobepimaa
set_option linter.all false
set_option linter.unusedSimpArgs false
open Go.RowKit

theorem same_idx {t : Tb} {m o : Mp} (hm : mapPre t m) (ho : mapPre t o) : sameB m o = true ↔ mIdx o = mIdx m := by
  rw [mIdx_eq ho.2.2.1 hm.2.2.1]
  unfold sameB
  simp
theorem give_yes {p : Pool} (hg : p.good = true) {s : Int} {b k : Nat} (hb : b < 3) (hk : k < 6) (hs : 0 ≤ s) (ho : p.ow b k = s + 1) : p.give s b k = (p.put b k 0, 0) := by
  unfold Pool.give
  rw [if_pos hg, if_pos]
  · simp
  · have ha : addrB (b : Int) = true := by unfold addrB; simp; omega
    exact ⟨ha, by omega, by omega, hs, by simpa using ho⟩
/-- A block is given back. -/
theorem GT.give {t : Tb} (h : GT t) (hw : t.wf) {i : Nat} (hi : i < t.maps.length) (hno : (t.maps.eraseIdx i).any (sameB t.maps[i]) = false) : GT ((t.del i).give t.maps[i]) ∧ ((t.del i).give t.maps[i]).wf ∧ ((t.del i).give t.maps[i]).maps = t.maps.eraseIdx i := by
  have hm := List.getElem_mem hi
  have hsub : ∀ o ∈ t.maps.eraseIdx i, o ∈ t.maps := fun o ho => List.mem_of_mem_eraseIdx ho
  have hok := h.maps _ hm
  have hs8 := mapOk_s hok
  have hbl := blk_lt t.maps[i].port
  have hixl := mIdx_lt hok.1
  have hno' : ∀ o ∈ t.maps.eraseIdx i, mIdx o ≠ mIdx t.maps[i] := fun o ho he => by
    have h1 := List.any_eq_false.1 hno o ho
    exact h1 ((same_idx hok.1 (h.maps o (hsub o ho)).1).2 he)
  have hel : ∀ o ∈ t.maps, o ≠ t.maps[i] → o ∈ t.maps.eraseIdx i := fun o ho hne => by
    obtain ⟨n, hn, rfl⟩ := List.getElem_of_mem ho
    exact List.mem_eraseIdx_iff_getElem.2 ⟨n, hn, fun e => hne (by subst e; rfl), rfl⟩
  generalize t.maps[i] = m at *
  obtain ⟨A, hA⟩ := Int.eq_ofNat_of_zero_le hok.1.2.2.1
  obtain ⟨K, hK⟩ := Int.eq_ofNat_of_zero_le hbl.1
  obtain ⟨S, hS⟩ := Int.eq_ofNat_of_zero_le hs8.1
  have hA3 : A < 3 := by have := hok.1.2.2.2; omega
  have how := hok.2.2
  rw [hA, hK, Int.toNat_natCast, Int.toNat_natCast] at how
  have hgv : t.pool.give m.s m.a (blkOf' m.port) = (t.pool.put A K 0, 0) := by
    rw [hA, hK]; exact give_yes h.pool hA3 (by omega) hs8.1 how
  have hix : mIdx m = A * 6 + K := by unfold mIdx; rw [hA, hK]; simp
  have hho := hok.2.1
  rw [hS, Int.toNat_natCast] at hho
  have hl : A * 6 + K < t.pool.own.length := by rw [hw.pool.own]; omega
  have hlh : S < t.home.length := by rw [hw.home]; omega
  have how' : t.pool.own.getD (A * 6 + K) 0 = (S : Int) + 1 := by rw [hS] at how; exact how
  have hget : ∀ j, (t.pool.own.set (A * 6 + K) 0).getD j 0 = if j = A * 6 + K then 0 else t.pool.own.getD j 0 := fun j => getD_set_eq hl _ _
  have hpw : (t.pool.put A K 0).wf := Pool.put_wf _ hw.pool _ _ _
  have hcs : ∀ s, cntB (t.pool.own.set (A * 6 + K) 0) s = cntB t.pool.own s - if s = S then 1 else 0 := fun s => by
    rw [cnt_set hl, how', if_neg (show ¬ (0 : Int) = (s : Int) + 1 by omega)]
    by_cases e : s = S
    · subst e; simp
    · rw [if_neg (by omega), if_neg e]; rfl
  have hpos := cnt_pos hl how'
  have hH : _root_.Go.Proofs.Ytphaicaobepimaa.homeOk ⟨t.pool.put A K 0, t.home, t.maps.eraseIdx i⟩ S := fun j hj hoj => by
    have hoj : (t.pool.own.set (A * 6 + K) 0).getD j 0 = (S : Int) + 1 := hoj
    rw [hget] at hoj
    split at hoj
    · omega
    · exact h.homeOk S j hj hoj
  have hcn := cnt_own hH ⟨hpw, hw.home⟩
  have hcn : cntB (t.pool.own.set (A * 6 + K) 0) S = (ownL ⟨t.pool.put A K 0, t.home, t.maps.eraseIdx i⟩ S).length := hcn
  have hnm : (t.maps.eraseIdx i).any (fun o => decide (o.s = (S : Int))) = true → cntB (t.pool.own.set (A * 6 + K) 0) S ≠ 0 := fun ha => by
    obtain ⟨o, ho, he⟩ := List.any_eq_true.1 ha
    have he : o.s = (S : Int) := by simpa using he
    have hoo := h.maps o (hsub o ho)
    have h1 := hoo.2.2
    rw [ow_idx, he] at h1
    have h2 := hno' o ho
    have h3 : (t.pool.own.set (A * 6 + K) 0).getD (mIdx o) 0 = (S : Int) + 1 := by rw [hget, if_neg (by rw [← hix]; exact h2)]; exact h1
    have := cnt_pos (by rw [List.length_set, hw.pool.own]; exact mIdx_lt hoo.1) h3
    omega
  -- what holds whatever the homes
  have key : ∀ H : List Int, H.length = 8 → (∀ s, s < 8 → s ≠ S → H.getD s 0 = t.hom s) → (H.getD S 0 = if cntB (t.pool.own.set (A * 6 + K) 0) S = 0 then 0 else t.hom S) → GT ⟨t.pool.put A K 0, H, t.maps.eraseIdx i⟩ := by
    intro H hHl hH1 hH2
    refine ⟨good_putO h.pool _ _ (by omega), fun o ho => ?_, h.apart.sublist (List.eraseIdx_sublist _ _), fun j hj => ?_, fun s hs => ?_, fun s hs => ?_, fun s hs => ?_⟩
    · have hoo := h.maps o (hsub o ho)
      have hso := mapOk_s hoo
      refine ⟨hoo.1, ?_, ?_⟩
      · show H.getD o.s.toNat 0 = o.a + 1
        by_cases e : o.s = (S : Int)
        · have hz := hnm (List.any_eq_true.2 ⟨o, ho, by simp [e]⟩)
          rw [e, Int.toNat_natCast, hH2, if_neg hz]
          have := hoo.2.1; rw [e, Int.toNat_natCast] at this; exact this
        · rw [hH1 _ (by omega) (by omega)]; exact hoo.2.1
      · show (t.pool.own.set (A * 6 + K) 0).getD (mIdx o) 0 = o.s + 1
        rw [hget, if_neg (by rw [← hix]; exact hno' o ho)]; exact hoo.2.2
    · show (t.pool.own.set (A * 6 + K) 0).getD j 0 ≠ 0 ↔ ∃ o ∈ t.maps.eraseIdx i, mIdx o = j
      rw [hget]
      by_cases e : j = A * 6 + K
      · rw [if_pos e]
        refine ⟨fun h0 => (h0 rfl).elim, fun ⟨o, ho, he⟩ => ?_⟩
        exact (hno' o ho (by rw [he, hix, e])).elim
      · rw [if_neg e]
        refine (h.used j hj).trans ⟨fun ⟨o, ho, he⟩ => ⟨o, hel o ho (fun q => e (by rw [← he, q, hix])), he⟩, fun ⟨o, ho, he⟩ => ⟨o, hsub o ho, he⟩⟩
    · show cntB (t.pool.own.set (A * 6 + K) 0) s ≤ 2
      rw [hcs]; have := h.two s hs; omega
    · exact Nat.le_trans (List.Sublist.countP_le (List.eraseIdx_sublist _ _)) (h.many s hs)
    · show H.getD s 0 ≠ 0 ↔ 0 < cntB (t.pool.own.set (A * 6 + K) 0) s
      by_cases e : s = S
      · subst e
        rw [hH2]
        have := hok.1.2.2.1
        split <;> omega
      · rw [hH1 s hs e, hcs, if_neg e]
        exact h.home s hs
  unfold Tb.give
  have e1 : (t.del i).pool = t.pool := rfl
  have e2 : (t.del i).home = t.home := rfl
  have e3 : (t.del i).maps = t.maps.eraseIdx i := rfl
  rw [e1, e2, e3, hgv, hS, Int.toNat_natCast]
  dsimp only
  split
  · rename_i h0
    rw [h0] at hcn
    refine ⟨key _ (by rw [List.length_set]; exact hw.home) (fun s _ hne => ?_) ?_, ⟨hpw, by show (t.home.set _ _).length = 8; rw [List.length_set]; exact hw.home⟩, rfl⟩
    · rw [getD_set_eq hlh, if_neg hne]; rfl
    · rw [getD_set_eq hlh, if_pos rfl, if_pos (by simpa using hcn)]
  · rename_i h0
    refine ⟨key _ hw.home (fun s _ _ => rfl) ?_, ⟨hpw, hw.home⟩, rfl⟩
    rw [if_neg]
    · rfl
    · rw [hcn]; intro h1; exact h0 (List.eq_nil_of_length_eq_zero h1)
/-- Close, of a map of a good table. -/
theorem GT.cls {t : Tb} (h : GT t) (hw : t.wf) {m : Mp} (hm : m ∈ t.maps) : ∃ i, i < t.maps.length ∧ t.maps[i]? = some m ∧ GT (t.cls m).1 ∧ (t.cls m).1.wf ∧ (t.cls m).1.maps = t.maps.eraseIdx i ∧ (t.cls m).2.2 = 0 := by
  have hg : ¬ goodB t = false := by rw [(goodB_iff t).2 (goodT_GT.2 h)]; simp
  unfold Tb.cls
  rw [if_neg hg]
  cases hf : t.maps.findIdx? (fun x => decide (m = x)) with
  | none =>
    have := List.findIdx?_eq_none_iff.1 hf m hm
    simp at this
  | some i =>
    obtain ⟨hi, he⟩ := find_ix hf
    refine ⟨i, hi, by rw [List.getElem?_eq_getElem hi, he], ?_⟩
    dsimp only
    split
    · rename_i ha
      obtain ⟨o, ho, hso⟩ := List.any_eq_true.1 ha
      have := h.del hi ⟨o, ho, by rw [he]; exact (same_idx (h.maps m hm).1 (h.maps o (List.mem_of_mem_eraseIdx ho)).1).1 hso⟩
      exact ⟨this, ⟨hw.pool, hw.home⟩, rfl, rfl⟩
    · rename_i ha
      have := h.give hw hi (by rw [he]; simpa using ha)
      rw [he] at this
      exact ⟨this.1, this.2.1, this.2.2, rfl⟩
/-- What was opened and is closed again. -/
theorem round {t : Tb} (h : GT t) (hw : t.wf) {proto : Int} {S : Nat} {inn : Int} (hkn : knownB proto S inn = true) {x : Tb × Mp × Bool × Int} (ho : Opened t proto S inn x) (hf : t.maps.find? (isFwd proto S inn) = none) (he : x.2.2.2 = 0) :
    x.1.cls x.2.1 = (t, x.2.2.1, 0) := by
  have hgx := ho.good h hw hkn
  obtain ⟨_, ⟨_, hS8⟩, _⟩ := known_bd hkn
  have last : ∀ (T : Tb) (m : Mp), GT (T.add m) → (∀ o ∈ T.maps, klash o m = false) → (T.add m).cls m = if T.maps.any (sameB m) = true then (T, false, 0) else (T.give m, true, 0) := by
    intro T m hg hk
    unfold Tb.cls
    rw [if_neg (by rw [(goodB_iff _).2 (goodT_GT.2 hg)]; simp)]
    have e1 : (T.add m).maps.findIdx? (fun x => decide (m = x)) = some T.maps.length := by
      show (T.maps ++ [m]).findIdx? _ = _
      rw [List.findIdx?_append]
      have : T.maps.findIdx? (fun x => decide (m = x)) = none := by
        rw [List.findIdx?_eq_none_iff]
        intro o ho
        have := klash_same (hk o ho)
        simp; exact fun e => this e.symm
      rw [this]; simp
    have e2 : (T.add m).maps.eraseIdx T.maps.length = T.maps := by
      show (T.maps ++ [m]).eraseIdx T.maps.length = _
      rw [List.eraseIdx_append_of_length_le (Nat.le_refl _)]; simp
    have e3 : (T.add m).del T.maps.length = T := by unfold Tb.del; rw [e2]; rfl
    rw [e1]
    dsimp only
    rw [e2, e3]
  cases ho with
  | no e he' => exact (he' he).elim
  | old m hf' => rw [hf] at hf'; cases hf'
  | own port hf' hok hb hn =>
    dsimp only at hgx ⊢
    rw [last t _ hgx (klash_no hf hb), if_pos]
    have h1 : t.pool.own.getD (mIdx ⟨proto, S, inn, t.hom S - 1, port⟩) 0 ≠ 0 := by
      rw [← ow_idx t, hok.2.2]; show (S : Int) + 1 ≠ 0; omega
    obtain ⟨o, ho, he⟩ := (h.used _ (mIdx_lt hok.1)).1 h1
    exact List.any_eq_true.2 ⟨o, ho, (same_idx hok.1 (h.maps o ho).1).2 he⟩
  | new b k hf' hb hk hz hh hc hd hn =>
    dsimp only at hgx ⊢
    obtain ⟨b1, b2⟩ := blk_port (i := 0) hk (by omega)
    rw [show (1024 + (k : Int) * 8 + (0 : Nat)) = 1024 + (k : Int) * 8 by omega] at b1 b2
    have hpre : mapPre t ⟨proto, S, inn, b, 1024 + (k : Int) * 8⟩ := ⟨hkn, b1, by show 0 ≤ (b : Int); omega, by show (b : Int) < 3; omega⟩
    have hix : mIdx ⟨proto, S, inn, b, 1024 + (k : Int) * 8⟩ = b * 6 + k := by
      unfold mIdx; rw [b2]; simp
    have hnob : ∀ o ∈ t.maps, mIdx o ≠ b * 6 + k := fun o ho he => (h.used _ (by omega)).2 ⟨o, ho, he⟩ hz
    have hkl : ∀ o ∈ t.maps, klash o ⟨proto, S, inn, b, 1024 + (k : Int) * 8⟩ = false := by
      refine klash_no hf ?_
      rw [List.find?_eq_none]
      intro o ho' hp
      unfold isBack at hp
      simp at hp
      refine hnob o ho' ?_
      unfold mIdx; rw [hp.1.2, hp.2, b2]; omega
    have hl : b * 6 + k < t.pool.own.length := by rw [hw.pool.own]; omega
    have hz' : t.pool.own.getD (b * 6 + k) 0 = 0 := hz
    rw [last _ _ hgx hkl, if_neg]
    · have hpb : (t.pool.put b k ((S : Int) + 1)).put b k 0 = t.pool := by
        unfold Pool.put
        dsimp only
        rw [List.set_set]
        have : t.pool.own.set (b * 6 + k) 0 = t.pool.own := by
          have e : t.pool.own[b * 6 + k] = 0 := by rw [List.getD_eq_getElem?_getD, List.getElem?_eq_getElem hl] at hz'; exact hz'
          rw [← e, List.set_getElem_self]
        rw [this]
      have hgv : (t.pool.put b k ((S : Int) + 1)).give S b k = (t.pool, 0) := by
        rw [give_yes (good_putO h.pool _ _ (by omega)) hb hk (by omega), hpb]
        show (t.pool.own.set (b * 6 + k) ((S : Int) + 1)).getD (b * 6 + k) 0 = _
        rw [getD_set_eq hl, if_pos rfl]
      unfold Tb.give
      dsimp only
      rw [b2, hgv, Int.toNat_natCast]
      dsimp only
      have hlh : S < t.home.length := by rw [hw.home]; omega
      have hho : (⟨t.pool, t.home.set S ((b : Int) + 1), t.maps⟩ : Tb).hom S = b + 1 := by
        show (t.home.set S ((b : Int) + 1)).getD S 0 = _
        rw [getD_set_eq hlh, if_pos rfl]
      have hcz := cnt_own (h.homeOk S) hw
      rcases hh with hh | hh
      · have hc0 : cntB t.pool.own S = 0 := by
          have := h.home S (by omega)
          rcases Nat.eq_zero_or_pos (cntB t.pool.own S) with h0 | h0
          · exact h0
          · exact (this.2 h0 hh).elim
        rw [if_pos]
        · rw [List.set_set]
          have : t.home.set S 0 = t.home := by
            have e : t.home[S] = 0 := by
              unfold Tb.hom at hh
              rw [List.getD_eq_getElem?_getD, List.getElem?_eq_getElem hlh] at hh; exact hh
            rw [← e, List.set_getElem_self]
          rw [this]
        · have hHn : homeOk ⟨t.pool, t.home.set S ((b : Int) + 1), t.maps⟩ S := fun j hj hoj => by
            exfalso
            have := cnt_pos (s := S) (by have := hw.pool.own; omega : j < t.pool.own.length) hoj
            omega
          have := cnt_own hHn ⟨hw.pool, by show (t.home.set _ _).length = 8; rw [List.length_set]; exact hw.home⟩
          have e : (ownL ⟨t.pool, t.home.set S ((b : Int) + 1), t.maps⟩ S).length = 0 := by rw [← this]; exact hc0
          exact List.eq_nil_of_length_eq_zero e
      · have hsame : t.home.set S ((b : Int) + 1) = t.home := by
          have e : t.home[S] = (b : Int) + 1 := by
            unfold Tb.hom at hh
            rw [List.getD_eq_getElem?_getD, List.getElem?_eq_getElem hlh] at hh; exact hh
          rw [← e, List.set_getElem_self]
        rw [hsame, if_neg]
        intro h0
        rw [h0] at hcz
        have := (h.home S (by omega)).1 (by omega)
        simp at hcz; omega
    · rw [Bool.not_eq_true, List.any_eq_false]
      intro o ho hs
      exact hnob o ho (by rw [(same_idx hpre (h.maps o ho).1).1 hs, hix])
end Go.Proofs.Ytphaicaobepimaa
