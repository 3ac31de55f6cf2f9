/- The texts G35, G34, G36, J29, J30, J14, J31, G37, Laid, LaidD, LaidK, one behind the other. -/
import Derived.Test.YtcajofhafpkbdaaGreatDoorCT8
import Derived.Test.YtcajofhafpkbdaaGreatDoorCT20
import Derived.Test.YtcajofhafpkbdaaGreatDoorCT23
import Derived.Test.YtcajofhafpkbdaaGreatDoorCT24
import Derived.Test.YtcajofhafpkbdaaGreatDoorCT25
import Derived.Test.YtcajofhafpkbdaaGreatDoorCT26
import Derived.Test.YtcajofhafpkbdaaGreatDoorCT27
import Derived.Test.YtcajofhafpkbdaaGreatDoorCT28
import Derived.LaidLaws
import Derived.MakeChecks
import Derived.Lay
import Derived.Shelf.LaysM
namespace Go.Proofs.YtcajofhafpkbdaaGreatDoor.Flow
open Go
theorem zlU {l l' : List J} (h : sameL l l' = true) (hl : l.length = l'.length) (i : Nat) (hi : i < l.length) : sameJ (l.getD i j0) (l'.getD i j0) = true := by
  cases hq : sameJ (l.getD i j0) (l'.getD i j0) with
  | true => rfl
  | false =>
    rw [zjE hi hq hl] at h
    cases h
theorem zbQ {t : Txt} {y : J} (h : sameJ (txJ t) y = true) : y.kind = 3 ∧ y.text = t := by
  obtain ⟨k, b, g, d, e, t', l, ks⟩ := y
  unfold txJ at h
  rw [sameJ] at h
  by_cases hk : (3 : Int) = k
  · subst hk
    exact ⟨rfl, (beq_iff_eq.1 h).symm⟩
  · rw [if_pos hk] at h
    cases h
theorem zei {v : Bool} {y : J} (h : sameJ (boolJ v) y = true) : y.kind = 1 ∧ y.yes = v := by
  obtain ⟨k, b, g, d, e, t', l, ks⟩ := y
  unfold boolJ at h
  rw [sameJ] at h
  by_cases hk : (1 : Int) = k
  · subst hk
    exact ⟨rfl, (beq_iff_eq.1 h).symm⟩
  · rw [if_pos hk] at h
    cases h
theorem zhZ {n : Int} {y : J} (h : sameJ (numJ n) y = true) : y.kind = 2 ∧ whJ y = intF (ofF n 0).1 (ofF n 0).2.1 (ofF n 0).2.2 := by
  obtain ⟨k, b, g, d, e, t', l, ks⟩ := y
  unfold numJ at h
  rw [sameJ] at h
  by_cases hk : (2 : Int) = k
  · subst hk
    rw [if_neg (by decide), if_neg (by decide), if_pos rfl] at h
    simp only [Bool.and_true, Bool.and_eq_true, beq_iff_eq] at h
    refine ⟨rfl, ?_⟩
    show intF g d e = _
    rw [h.1, h.2.1, h.2.2]
  · rw [if_pos hk] at h
    cases h
theorem zel {vs : List J} {y : J} (h : sameJ (listJ vs) y = true) : y.kind = 4 ∧ vs.length = y.list.length ∧ ∀ i, i < vs.length → sameJ (vs.getD i j0) (y.list.getD i j0) = true := by
  obtain ⟨k, b, g, d, e, t', l, ks⟩ := y
  unfold listJ at h
  rw [sameJ] at h
  by_cases hk : (4 : Int) = k
  · subst hk
    rw [if_neg (by decide), if_neg (by decide), if_neg (by decide), if_neg (by decide), if_neg (by decide)] at h
    by_cases hl : vs.length ≠ l.length ∨ (4 : Int) = 5 ∧ ([] : List Txt).length ≠ ks.length
    · rw [if_pos hl] at h
      cases h
    · rw [if_neg hl, if_neg (fun q => absurd q.1 (by decide))] at h
      have h2 : vs.length = l.length := Decidable.byContradiction fun q => hl (.inl q)
      exact ⟨rfl, h2, zlU h h2⟩
  · rw [if_pos hk] at h
    cases h
theorem zeJ {vs : List J} {kk : List Txt} {y : J} (h : sameJ (mapJ vs kk) y = true) : y.kind = 5 ∧ y.keys = kk ∧ vs.length = y.list.length ∧ ∀ i, i < vs.length → sameJ (vs.getD i j0) (y.list.getD i j0) = true := by
  obtain ⟨k, b, g, d, e, t', l, ks⟩ := y
  unfold mapJ at h
  rw [sameJ] at h
  by_cases hk : (5 : Int) = k
  · subst hk
    rw [if_neg (by decide), if_neg (by decide), if_neg (by decide), if_neg (by decide), if_neg (by decide)] at h
    by_cases hl : vs.length ≠ l.length ∨ (5 : Int) = 5 ∧ kk.length ≠ ks.length
    · rw [if_pos hl] at h
      cases h
    · rw [if_neg hl] at h
      by_cases hq : (5 : Int) = 5 ∧ kk ≠ ks
      · rw [if_pos hq] at h
        cases h
      · rw [if_neg hq] at h
        have h2 : vs.length = l.length := Decidable.byContradiction fun q => hl (.inl q)
        have h3 : kk = ks := Decidable.byContradiction fun q => hq ⟨rfl, q⟩
        exact ⟨rfl, h3.symm, h2, zlU h h2⟩
  · rw [if_pos hk] at h
    cases h
theorem zcW {ts : List Txt} {y : J} (h : sameJ (listJ (ts.map txJ)) y = true) : y.kind = 4 ∧ strsJ y.list = (ts, true) := by
  obtain ⟨h1, h2, h3⟩ := zel h
  rw [List.length_map] at h2 h3
  have h4 : ∀ i, i < ts.length → (y.list.getD i j0).kind = 3 ∧ (y.list.getD i j0).text = ts.getD i [] := fun i hi => by
    have := h3 i hi
    rw [show (ts.map txJ).getD i j0 = txJ (ts.getD i []) by simp [List.getD_eq_getElem?_getD, hi]] at this
    exact zbQ this
  refine ⟨h1, ?_⟩
  rw [zlK (fun i hi => (h4 i (by omega)).1)]
  congr 1
  refine List.ext_getElem (by rw [List.length_map]; omega) fun i hi hj => ?_
  have := (h4 i hj).2
  rw [List.length_map] at hi
  rw [List.getElem_map, ← show ts.getD i [] = ts[i] by simp [List.getD_eq_getElem?_getD, hj], ← this]
  simp [List.getD_eq_getElem?_getD, hi]
theorem zoP {p : Fld} {y : J} (h : sameJ (layJ p) y = true) : layR y = some p := by
  obtain ⟨h1, h2⟩ := zcW (ts := [p.1, p.2]) h
  unfold layR
  rw [h2, if_pos ⟨rfl, h1, rfl⟩]
  rfl
theorem zgZ : ∀ {ls : List Fld} {L : List J}, ls.length = L.length → (∀ i, i < ls.length → sameJ (layJ (ls.getD i ([], []))) (L.getD i j0) = true) → laysP L = (ls, true)
  | [], [], _, _ => rfl
  | [], _ :: _, h, _ => by simp at h
  | _ :: _, [], h, _ => by simp at h
  | p :: r, y :: L, h, hs => by
    have h0 : sameJ (layJ p) y = true := hs 0 (by simp)
    have hr := zgZ (ls := r) (L := L) (by simpa using h) fun i hi => by
      have := hs (i + 1) (by simpa using hi)
      simpa using this
    rw [laysP, zoP h0, hr]
theorem zjh {ls : List Fld} {y : J} (h : sameJ (listJ (ls.map layJ)) y = true) : y.kind = 4 ∧ laysP y.list = (ls, true) := by
  obtain ⟨h1, h2, h3⟩ := zel h
  rw [List.length_map] at h2 h3
  refine ⟨h1, zgZ h2 fun i hi => ?_⟩
  have := h3 i hi
  rwa [show (ls.map layJ).getD i j0 = layJ (ls.getD i ([], [])) by simp [List.getD_eq_getElem?_getD, hi]] at this
theorem zbf {y : J} {ks : List Txt} (k5 : y.kind = 5) (hk : y.keys = ks) (k : Txt) (i : Nat) (hi : idxJ k ks = i) (hl : i < y.list.length) : getJ y k = (y.list.getD i j0, true) := by
  unfold getJ
  rw [hk, hi, if_pos ⟨k5, by omega, by omega⟩, Int.toNat_natCast]
theorem zbS {y : J} {ks : List Txt} (hk : y.keys = ks) (k : Txt) (hi : idxJ k ks = -1) : getJ y k = (j0, false) := by
  unfold getJ
  rw [hk, hi, if_neg (fun h => absurd h.2.1 (by decide))]
theorem zbR {y v : J} {k : Txt} {kd : Int} (g : getJ y k = (v, true)) (hk : v.kind = kd) : (∀ n, gN y k n = n + 1) ∧ (∀ must bad, gB y k kd must bad = bad) ∧ gK y k kd = v := by
  unfold gN gB gK
  rw [g]
  simp [hk]
theorem zdU {y : J} {k : Txt} (kd : Int) (g : getJ y k = (j0, false)) : (∀ n, gN y k n = n) ∧ (∀ bad, gB y k kd false bad = bad) ∧ gK y k kd = j0 := by
  unfold gN gB gK
  rw [g]
  simp
theorem zhW {s : SrcR} {y : J} (k5 : y.kind = 5) (hn : srN y = y.keys.length) (hb : srB y = false) (hl : laysP (gK y kLayers 4).list = (s.lays, true)) (h1 : (gK y kArchive 3).text = s.arch) (h2 : (gK y kCsv 3).text = s.csv) (h3 : (gK y kKey 3).text = s.key)
    (h4 : (gK y kAttr 3).text = s.attr) (h5 : (strsJ (gK y kOnly 4).list).1 = s.only) (h6 : (strsJ (gK y kNot 4).list).1 = s.notl) (h7 : (gK y kTexts 1).yes = s.texts) (h8 : (gK y kDrop 1).yes = s.drop) : rdSrc y = (s, true) := by
  have hd : dnB y (srN y) (srB y) = true := decide_eq_true ⟨hb, k5, hn⟩
  unfold rdSrc srcOfJ
  rw [hl, if_pos rfl, hd, h1, h2, h3, h4, h5, h6, h7, h8]
theorem zdq : strsJ j0.list = ([], true) := by decide
theorem zoy : laysP j0.list = ([], true) := by decide
theorem zou {s : SrcR} {y : J} (hc : s.csv = []) (hz : noneJ s) (hl : s.lays = []) (h : sameJ (mapJ [txJ s.arch] [kArchive]) y = true) : rdSrc y = (s, true) := by
  obtain ⟨k5, hk, hlen, hp⟩ := zeJ h
  have gArchive := zbf k5 hk kArchive 0 (by decide +kernel) (by rw [← hlen]; simp)
  have sArchive := zbQ (hp 0 (by simp) : sameJ (txJ s.arch) (y.list.getD 0 j0) = true)
  obtain ⟨nArchive, bArchive, vArchive⟩ := zbR gArchive sArchive.1
  have gLayers := zbS hk kLayers (by decide +kernel)
  obtain ⟨nLayers, bLayers, vLayers⟩ := zdU 4 gLayers
  have gCsv := zbS hk kCsv (by decide +kernel)
  obtain ⟨nCsv, bCsv, vCsv⟩ := zdU 3 gCsv
  have gKey := zbS hk kKey (by decide +kernel)
  obtain ⟨nKey, bKey, vKey⟩ := zdU 3 gKey
  have gAttr := zbS hk kAttr (by decide +kernel)
  obtain ⟨nAttr, bAttr, vAttr⟩ := zdU 3 gAttr
  have gOnly := zbS hk kOnly (by decide +kernel)
  obtain ⟨nOnly, bOnly, vOnly⟩ := zdU 4 gOnly
  have gNot := zbS hk kNot (by decide +kernel)
  obtain ⟨nNot, bNot, vNot⟩ := zdU 4 gNot
  have gTexts := zbS hk kTexts (by decide +kernel)
  obtain ⟨nTexts, bTexts, vTexts⟩ := zdU 1 gTexts
  have gDrop := zbS hk kDrop (by decide +kernel)
  obtain ⟨nDrop, bDrop, vDrop⟩ := zdU 1 gDrop
  obtain ⟨z1, z2, z3, z4, z5⟩ := hz
  have z6 : s.only = [] := List.length_eq_zero_iff.1 (by omega)
  have z7 : s.notl = [] := List.length_eq_zero_iff.1 (by omega)
  refine zhW k5 ?_ ?_ ?_ ?_ ?_ ?_ ?_ ?_ ?_ ?_ ?_
  · unfold srN srN7 srN6 srN5 srN3
    rw [nDrop, nTexts, nNot, nOnly, nAttr, nKey, nLayers, nCsv, nArchive, hk]
    rfl
  · unfold srB srB7 srB6 srB5 srB3
    rw [bDrop, bTexts, bNot, vNot, zdq, bOnly, vOnly, zdq, bAttr, bKey, bLayers, bCsv, bArchive]
    rfl
  · rw [vLayers]
    exact by rw [zoy, hl]
  · rw [vArchive]
    exact sArchive.2
  · rw [vCsv]
    exact hc.symm
  · rw [vKey]
    exact z1.symm
  · rw [vAttr]
    exact z2.symm
  · rw [vOnly, zdq]
    exact z6.symm
  · rw [vNot, zdq]
    exact z7.symm
  · rw [vTexts]
    exact z4.symm
  · rw [vDrop]
    exact z5.symm
theorem znC {s : SrcR} {y : J} (hc : s.csv = []) (hz : noneJ s) (h : sameJ (mapJ [txJ s.arch, listJ (s.lays.map layJ)] [kArchive, kLayers]) y = true) : rdSrc y = (s, true) := by
  obtain ⟨k5, hk, hlen, hp⟩ := zeJ h
  have gArchive := zbf k5 hk kArchive 0 (by decide +kernel) (by rw [← hlen]; simp)
  have sArchive := zbQ (hp 0 (by simp) : sameJ (txJ s.arch) (y.list.getD 0 j0) = true)
  obtain ⟨nArchive, bArchive, vArchive⟩ := zbR gArchive sArchive.1
  have gLayers := zbf k5 hk kLayers 1 (by decide +kernel) (by rw [← hlen]; simp)
  have sLayers := zjh (hp 1 (by simp) : sameJ (listJ (s.lays.map layJ)) (y.list.getD 1 j0) = true)
  obtain ⟨nLayers, bLayers, vLayers⟩ := zbR gLayers sLayers.1
  have gCsv := zbS hk kCsv (by decide +kernel)
  obtain ⟨nCsv, bCsv, vCsv⟩ := zdU 3 gCsv
  have gKey := zbS hk kKey (by decide +kernel)
  obtain ⟨nKey, bKey, vKey⟩ := zdU 3 gKey
  have gAttr := zbS hk kAttr (by decide +kernel)
  obtain ⟨nAttr, bAttr, vAttr⟩ := zdU 3 gAttr
  have gOnly := zbS hk kOnly (by decide +kernel)
  obtain ⟨nOnly, bOnly, vOnly⟩ := zdU 4 gOnly
  have gNot := zbS hk kNot (by decide +kernel)
  obtain ⟨nNot, bNot, vNot⟩ := zdU 4 gNot
  have gTexts := zbS hk kTexts (by decide +kernel)
  obtain ⟨nTexts, bTexts, vTexts⟩ := zdU 1 gTexts
  have gDrop := zbS hk kDrop (by decide +kernel)
  obtain ⟨nDrop, bDrop, vDrop⟩ := zdU 1 gDrop
  obtain ⟨z1, z2, z3, z4, z5⟩ := hz
  have z6 : s.only = [] := List.length_eq_zero_iff.1 (by omega)
  have z7 : s.notl = [] := List.length_eq_zero_iff.1 (by omega)
  refine zhW k5 ?_ ?_ ?_ ?_ ?_ ?_ ?_ ?_ ?_ ?_ ?_
  · unfold srN srN7 srN6 srN5 srN3
    rw [nDrop, nTexts, nNot, nOnly, nAttr, nKey, nLayers, nCsv, nArchive, hk]
    rfl
  · unfold srB srB7 srB6 srB5 srB3
    rw [bDrop, bTexts, bNot, vNot, zdq, bOnly, vOnly, zdq, bAttr, bKey, bLayers, bCsv, bArchive]
    rfl
  · rw [vLayers]
    exact sLayers.2
  · rw [vArchive]
    exact sArchive.2
  · rw [vCsv]
    exact hc.symm
  · rw [vKey]
    exact z1.symm
  · rw [vAttr]
    exact z2.symm
  · rw [vOnly, zdq]
    exact z6.symm
  · rw [vNot, zdq]
    exact z7.symm
  · rw [vTexts]
    exact z4.symm
  · rw [vDrop]
    exact z5.symm
theorem zph {s : SrcR} {y : J} (hl : s.lays = []) (h : sameJ (mapJ [txJ s.arch, txJ s.csv, txJ s.key, txJ s.attr, listJ (s.only.map txJ), listJ (s.notl.map txJ), boolJ s.texts, boolJ s.drop] [kArchive, kCsv, kKey, kAttr, kOnly, kNot, kTexts, kDrop]) y = true) : rdSrc y = (s, true) := by
  obtain ⟨k5, hk, hlen, hp⟩ := zeJ h
  have gArchive := zbf k5 hk kArchive 0 (by decide +kernel) (by rw [← hlen]; simp)
  have sArchive := zbQ (hp 0 (by simp) : sameJ (txJ s.arch) (y.list.getD 0 j0) = true)
  obtain ⟨nArchive, bArchive, vArchive⟩ := zbR gArchive sArchive.1
  have gLayers := zbS hk kLayers (by decide +kernel)
  obtain ⟨nLayers, bLayers, vLayers⟩ := zdU 4 gLayers
  have gCsv := zbf k5 hk kCsv 1 (by decide +kernel) (by rw [← hlen]; simp)
  have sCsv := zbQ (hp 1 (by simp) : sameJ (txJ s.csv) (y.list.getD 1 j0) = true)
  obtain ⟨nCsv, bCsv, vCsv⟩ := zbR gCsv sCsv.1
  have gKey := zbf k5 hk kKey 2 (by decide +kernel) (by rw [← hlen]; simp)
  have sKey := zbQ (hp 2 (by simp) : sameJ (txJ s.key) (y.list.getD 2 j0) = true)
  obtain ⟨nKey, bKey, vKey⟩ := zbR gKey sKey.1
  have gAttr := zbf k5 hk kAttr 3 (by decide +kernel) (by rw [← hlen]; simp)
  have sAttr := zbQ (hp 3 (by simp) : sameJ (txJ s.attr) (y.list.getD 3 j0) = true)
  obtain ⟨nAttr, bAttr, vAttr⟩ := zbR gAttr sAttr.1
  have gOnly := zbf k5 hk kOnly 4 (by decide +kernel) (by rw [← hlen]; simp)
  have sOnly := zcW (hp 4 (by simp) : sameJ (listJ (s.only.map txJ)) (y.list.getD 4 j0) = true)
  obtain ⟨nOnly, bOnly, vOnly⟩ := zbR gOnly sOnly.1
  have gNot := zbf k5 hk kNot 5 (by decide +kernel) (by rw [← hlen]; simp)
  have sNot := zcW (hp 5 (by simp) : sameJ (listJ (s.notl.map txJ)) (y.list.getD 5 j0) = true)
  obtain ⟨nNot, bNot, vNot⟩ := zbR gNot sNot.1
  have gTexts := zbf k5 hk kTexts 6 (by decide +kernel) (by rw [← hlen]; simp)
  have sTexts := zei (hp 6 (by simp) : sameJ (boolJ s.texts) (y.list.getD 6 j0) = true)
  obtain ⟨nTexts, bTexts, vTexts⟩ := zbR gTexts sTexts.1
  have gDrop := zbf k5 hk kDrop 7 (by decide +kernel) (by rw [← hlen]; simp)
  have sDrop := zei (hp 7 (by simp) : sameJ (boolJ s.drop) (y.list.getD 7 j0) = true)
  obtain ⟨nDrop, bDrop, vDrop⟩ := zbR gDrop sDrop.1
  refine zhW k5 ?_ ?_ ?_ ?_ ?_ ?_ ?_ ?_ ?_ ?_ ?_
  · unfold srN srN7 srN6 srN5 srN3
    rw [nDrop, nTexts, nNot, nOnly, nAttr, nKey, nLayers, nCsv, nArchive, hk]
    rfl
  · unfold srB srB7 srB6 srB5 srB3
    rw [bDrop, bTexts, bNot, vNot, sNot.2, bOnly, vOnly, sOnly.2, bAttr, bKey, bLayers, bCsv, bArchive]
    rfl
  · rw [vLayers]
    exact by rw [zoy, hl]
  · rw [vArchive]
    exact sArchive.2
  · rw [vCsv]
    exact sCsv.2
  · rw [vKey]
    exact sKey.2
  · rw [vAttr]
    exact sAttr.2
  · rw [vOnly, sOnly.2]
  · rw [vNot, sNot.2]
  · rw [vTexts]
    exact sTexts.2
  · rw [vDrop]
    exact sDrop.2
theorem zpu {s : SrcR} {y : J} (h : sameJ (mapJ [txJ s.arch, listJ (s.lays.map layJ), txJ s.csv, txJ s.key, txJ s.attr, listJ (s.only.map txJ), listJ (s.notl.map txJ), boolJ s.texts, boolJ s.drop] [kArchive, kLayers, kCsv, kKey, kAttr, kOnly, kNot, kTexts, kDrop]) y = true) : rdSrc y = (s, true) := by
  obtain ⟨k5, hk, hlen, hp⟩ := zeJ h
  have gArchive := zbf k5 hk kArchive 0 (by decide +kernel) (by rw [← hlen]; simp)
  have sArchive := zbQ (hp 0 (by simp) : sameJ (txJ s.arch) (y.list.getD 0 j0) = true)
  obtain ⟨nArchive, bArchive, vArchive⟩ := zbR gArchive sArchive.1
  have gLayers := zbf k5 hk kLayers 1 (by decide +kernel) (by rw [← hlen]; simp)
  have sLayers := zjh (hp 1 (by simp) : sameJ (listJ (s.lays.map layJ)) (y.list.getD 1 j0) = true)
  obtain ⟨nLayers, bLayers, vLayers⟩ := zbR gLayers sLayers.1
  have gCsv := zbf k5 hk kCsv 2 (by decide +kernel) (by rw [← hlen]; simp)
  have sCsv := zbQ (hp 2 (by simp) : sameJ (txJ s.csv) (y.list.getD 2 j0) = true)
  obtain ⟨nCsv, bCsv, vCsv⟩ := zbR gCsv sCsv.1
  have gKey := zbf k5 hk kKey 3 (by decide +kernel) (by rw [← hlen]; simp)
  have sKey := zbQ (hp 3 (by simp) : sameJ (txJ s.key) (y.list.getD 3 j0) = true)
  obtain ⟨nKey, bKey, vKey⟩ := zbR gKey sKey.1
  have gAttr := zbf k5 hk kAttr 4 (by decide +kernel) (by rw [← hlen]; simp)
  have sAttr := zbQ (hp 4 (by simp) : sameJ (txJ s.attr) (y.list.getD 4 j0) = true)
  obtain ⟨nAttr, bAttr, vAttr⟩ := zbR gAttr sAttr.1
  have gOnly := zbf k5 hk kOnly 5 (by decide +kernel) (by rw [← hlen]; simp)
  have sOnly := zcW (hp 5 (by simp) : sameJ (listJ (s.only.map txJ)) (y.list.getD 5 j0) = true)
  obtain ⟨nOnly, bOnly, vOnly⟩ := zbR gOnly sOnly.1
  have gNot := zbf k5 hk kNot 6 (by decide +kernel) (by rw [← hlen]; simp)
  have sNot := zcW (hp 6 (by simp) : sameJ (listJ (s.notl.map txJ)) (y.list.getD 6 j0) = true)
  obtain ⟨nNot, bNot, vNot⟩ := zbR gNot sNot.1
  have gTexts := zbf k5 hk kTexts 7 (by decide +kernel) (by rw [← hlen]; simp)
  have sTexts := zei (hp 7 (by simp) : sameJ (boolJ s.texts) (y.list.getD 7 j0) = true)
  obtain ⟨nTexts, bTexts, vTexts⟩ := zbR gTexts sTexts.1
  have gDrop := zbf k5 hk kDrop 8 (by decide +kernel) (by rw [← hlen]; simp)
  have sDrop := zei (hp 8 (by simp) : sameJ (boolJ s.drop) (y.list.getD 8 j0) = true)
  obtain ⟨nDrop, bDrop, vDrop⟩ := zbR gDrop sDrop.1
  refine zhW k5 ?_ ?_ ?_ ?_ ?_ ?_ ?_ ?_ ?_ ?_ ?_
  · unfold srN srN7 srN6 srN5 srN3
    rw [nDrop, nTexts, nNot, nOnly, nAttr, nKey, nLayers, nCsv, nArchive, hk]
    rfl
  · unfold srB srB7 srB6 srB5 srB3
    rw [bDrop, bTexts, bNot, vNot, sNot.2, bOnly, vOnly, sOnly.2, bAttr, bKey, bLayers, bCsv, bArchive]
    rfl
  · rw [vLayers]
    exact sLayers.2
  · rw [vArchive]
    exact sArchive.2
  · rw [vCsv]
    exact sCsv.2
  · rw [vKey]
    exact sKey.2
  · rw [vAttr]
    exact sAttr.2
  · rw [vOnly, sOnly.2]
  · rw [vNot, sNot.2]
  · rw [vTexts]
    exact sTexts.2
  · rw [vDrop]
    exact sDrop.2
theorem zqS {s : SrcR} (ho : ¬ s.csv = [] ∨ noneJ s) {y : J} (h : sameJ (srcJ s) y = true) : rdSrc y = (s, true) := by
  unfold srcJ srcV1 srcK1 at h
  by_cases hc : s.csv = [] <;> by_cases hl : s.lays = []
  · rw [if_pos hc, if_pos hl, if_pos hl] at h
    exact zou hc (ho.resolve_left fun q => q hc) hl h
  · rw [if_pos hc, if_neg hl, if_neg hl] at h
    exact znC hc (ho.resolve_left fun q => q hc) h
  · rw [if_neg hc, if_pos hl, if_pos hl] at h
    exact zph hl h
  · rw [if_neg hc, if_neg hl, if_neg hl] at h
    exact zpu h
theorem zhd : ∀ {ls : List SrcR} {L : List J}, ls.length = L.length → (∀ i, i < ls.length → rdSrc (L.getD i j0) = (ls.getD i s0R, true)) → srcsP L = (ls, true)
  | [], [], _, _ => rfl
  | [], _ :: _, h, _ => by simp at h
  | _ :: _, [], h, _ => by simp at h
  | p :: r, y :: L, h, hs => by
    have h0 : rdSrc y = (p, true) := hs 0 (by simp)
    have hr := zhd (ls := r) (L := L) (by simpa using h) fun i hi => by
      have := hs (i + 1) (by simpa using hi)
      simpa using this
    rw [srcsP, h0, if_pos rfl, hr]
theorem zht : ∀ {ls : List CmpR} {L : List J}, ls.length = L.length → (∀ i, i < ls.length → rdCmp (L.getD i j0) = (ls.getD i c0R, true)) → cmpsP L = (ls, true)
  | [], [], _, _ => rfl
  | [], _ :: _, h, _ => by simp at h
  | _ :: _, [], h, _ => by simp at h
  | p :: r, y :: L, h, hs => by
    have h0 : rdCmp y = (p, true) := hs 0 (by simp)
    have hr := zht (ls := r) (L := L) (by simpa using h) fun i hi => by
      have := hs (i + 1) (by simpa using hi)
      simpa using this
    rw [cmpsP, h0, if_pos rfl, hr]
theorem zrs {c : CmpR} (hd : hdOk c) (hs : ∀ k, k < c.srcs.length → okSrc (c.srcs.getD k s0R)) {y : J} (h : sameJ (cmpJ c) y = true) : rdCmp y = (c, true) := by
  obtain ⟨_, _, _, p1, p2, p3, p4, p5, p6⟩ := hd
  obtain ⟨k5, hk, hlen, hp⟩ := zeJ (vs := [txJ c.id, listJ (c.srcs.map srcJ), numJ c.buf, numJ c.mx, numJ c.lim]) (kk := [kId, kSources, kBuffer, kMaxzoom, kLimit]) h
  have gId := zbf k5 hk kId 0 (by decide +kernel) (by rw [← hlen]; simp)
  have sId := zbQ (hp 0 (by simp) : sameJ (txJ c.id) (y.list.getD 0 j0) = true)
  obtain ⟨nId, bId, vId⟩ := zbR gId sId.1
  have gSources := zbf k5 hk kSources 1 (by decide +kernel) (by rw [← hlen]; simp)
  have sSources := zel (hp 1 (by simp) : sameJ (listJ (c.srcs.map srcJ)) (y.list.getD 1 j0) = true)
  obtain ⟨nSources, bSources, vSources⟩ := zbR gSources sSources.1
  have gBuffer := zbf k5 hk kBuffer 2 (by decide +kernel) (by rw [← hlen]; simp)
  have sBuffer := zhZ (hp 2 (by simp) : sameJ (numJ c.buf) (y.list.getD 2 j0) = true)
  obtain ⟨nBuffer, bBuffer, vBuffer⟩ := zbR gBuffer sBuffer.1
  have gMaxzoom := zbf k5 hk kMaxzoom 3 (by decide +kernel) (by rw [← hlen]; simp)
  have sMaxzoom := zhZ (hp 3 (by simp) : sameJ (numJ c.mx) (y.list.getD 3 j0) = true)
  obtain ⟨nMaxzoom, bMaxzoom, vMaxzoom⟩ := zbR gMaxzoom sMaxzoom.1
  have gLimit := zbf k5 hk kLimit 4 (by decide +kernel) (by rw [← hlen]; simp)
  have sLimit := zhZ (hp 4 (by simp) : sameJ (numJ c.lim) (y.list.getD 4 j0) = true)
  obtain ⟨nLimit, bLimit, vLimit⟩ := zbR gLimit sLimit.1
  have wB := sBuffer.2.trans (zkA c.buf (by omega) (by omega))
  have wM := sMaxzoom.2.trans (zkA c.mx (by omega) (by omega))
  have wL := sLimit.2.trans (zkA c.lim (by omega) (by omega))
  have hss : srcsP (gK y kSources 4).list = (c.srcs, true) := by
    rw [vSources]
    obtain ⟨_, h2, h3⟩ := sSources
    rw [List.length_map] at h2 h3
    refine zhd h2 fun i hi => ?_
    have := h3 i hi
    rw [show (c.srcs.map srcJ).getD i j0 = srcJ (c.srcs.getD i s0R) by simp [List.getD_eq_getElem?_getD, hi]] at this
    exact zqS (hs i hi).2.2.2.2.2 this
  have hb : cmB y = false := by
    unfold cmB cmB4 cmB3 cmB2 cmB1
    rw [bSources, bLimit, vLimit, wL, bMaxzoom, vMaxzoom, wM, bBuffer, vBuffer, wB, bId]
    rfl
  have hn : cmN y = y.keys.length := by
    unfold cmN cmN4 cmN3 cmN2 cmN1
    rw [nSources, nLimit, nMaxzoom, nBuffer, nId, hk]
    rfl
  have hd : dnB y (cmN y) (cmB y) = true := decide_eq_true ⟨hb, k5, hn⟩
  unfold rdCmp cmpOfJ
  rw [hss, hd, vId, sId.2, vBuffer, wB, vMaxzoom, wM, vLimit, wL]
  rfl
theorem znk {l : List CmpR} (h : okL l) {y : J} (hs : sameJ (confJ l) y = true) : confV y = (l, 0) := by
  obtain ⟨h1, h2, h3⟩ := zel hs
  rw [List.length_map] at h2 h3
  have hc : cmpsP y.list = (l, true) := zht h2 fun i hi => by
    have := h3 i hi
    rw [show (l.map cmpJ).getD i j0 = cmpJ (l.getD i c0R) by simp [List.getD_eq_getElem?_getD, hi]] at this
    exact zrs (h i hi).1 (h i hi).2.2 this
  unfold confV
  rw [if_neg (fun q => q h1), hc, if_pos ⟨rfl, h⟩]

theorem zdP {d : Nat} {t : Txt} (h : validL t = true) : rightJ (d + 1) (txJ t) = true := by
  unfold txJ
  rw [zbU, if_neg (by decide), if_neg (by decide), if_pos rfl]
  exact h
theorem zhp {d : Nat} (b : Bool) : rightJ (d + 1) (boolJ b) = true := by
  unfold boolJ
  rw [zbU, if_pos (.inr rfl)]
theorem zdr {d : Nat} {l : List J} (h : ∀ x ∈ l, rightJ d x = true) : rightJ (d + 1) (listJ l) = true := by
  unfold listJ
  rw [zbU, if_neg (by decide), if_neg (by decide), if_neg (by decide), if_neg (by decide), if_pos rfl]
  exact List.all_eq_true.2 h
theorem zdf {d : Nat} {l : List J} {ks : List Txt} (hk : keysOk ks = true) (hl : ks.length = l.length) (h : ∀ x ∈ l, rightJ d x = true) : rightJ (d + 1) (mapJ l ks) = true := by
  unfold mapJ
  rw [zbU, if_neg (by decide), if_neg (by decide), if_neg (by decide), if_pos rfl, hk, decide_eq_true hl]
  exact List.all_eq_true.2 h
theorem zgz {d : Nat} {n : Int} (h0 : -9223372036854775808 ≤ n) (h1 : n ≤ 9223372036854775807) : rightJ (d + 1) (numJ n) = true := by
  unfold numJ
  rw [zbU, if_neg (by decide), if_pos rfl]
  exact decide_eq_true (zfG n 0 h0 h1 (by decide) (by decide))
theorem zrk {s : Txt} (h : nmB s = true) : validL s = true := by
  unfold nmB at h
  rw [Bool.and_eq_true, List.all_eq_true] at h
  have e := zbF s.length s (Nat.le_refl _) fun j hj => by
    rw [znt]
    have h1 := h.1 (s.getD j 0) (by
      rw [show s.getD j 0 = s[j] by simp [List.getD_eq_getElem?_getD, hj]]
      exact List.getElem_mem hj)
    have h2 := zpX.1 h1
    omega
  rw [← e, List.drop_length]
  exact zeU rfl
theorem zdX {d : Nat} {l : List Txt} (h : l.all validL = true) : rightJ (d + 1 + 1) (listJ (l.map txJ)) = true := zdr fun x hx => by
  obtain ⟨t, ht, rfl⟩ := List.mem_map.1 hx
  exact zdP (List.all_eq_true.1 h t ht)
theorem zef {α : Type} {l : List α} {p : α} (d : α) (h : p ∈ l) : ∃ i, i < l.length ∧ l.getD i d = p := by
  obtain ⟨i, hi, rfl⟩ := List.mem_iff_getElem.1 h
  exact ⟨i, hi, by simp [List.getD_eq_getElem?_getD, hi]⟩
theorem znZ : keysOk [kArchive] = true ∧ keysOk [kArchive, kLayers] = true ∧ keysOk ([kArchive] ++ [kCsv] ++ [kKey] ++ [kAttr] ++ [kOnly] ++ [kNot] ++ [kTexts] ++ [kDrop]) = true ∧ keysOk ([kArchive, kLayers] ++ [kCsv] ++ [kKey] ++ [kAttr] ++ [kOnly] ++ [kNot] ++ [kTexts] ++ [kDrop]) = true ∧ keysOk ([kId] ++ [kSources] ++ [kBuffer] ++ [kMaxzoom] ++ [kLimit]) = true := by decide +kernel
theorem zol {s : SrcR} (h : okSrc s) : rightJ 61 (srcJ s) = true := by
  obtain ⟨_, h2, h3, h4, h5, _⟩ := h
  obtain ⟨k1, k2, k3, k4, _⟩ := znZ
  simp only [List.all_cons, List.all_nil, Bool.and_true, Bool.and_eq_true] at h2
  obtain ⟨a1, a2, a3, a4⟩ := h2
  have hlay : rightJ 60 (listJ (s.lays.map layJ)) = true := zdr fun x hx => by
    obtain ⟨p, hp, rfl⟩ := List.mem_map.1 hx
    obtain ⟨i, hi, rfl⟩ := zef ([], []) hp
    have hv := h5 i hi
    refine zdX (d := 57) ?_
    rw [List.all_cons, List.all_cons, hv.1, hv.2.1]
    rfl
  have ho : rightJ 60 (listJ (s.only.map txJ)) = true := zdX (d := 58) h3
  have hn : rightJ 60 (listJ (s.notl.map txJ)) = true := zdX (d := 58) h4
  have t1 : rightJ 60 (txJ s.arch) = true := zdP a1
  have t2 : rightJ 60 (txJ s.csv) = true := zdP a2
  have t3 : rightJ 60 (txJ s.key) = true := zdP a3
  have t4 : rightJ 60 (txJ s.attr) = true := zdP a4
  have b1 : rightJ 60 (boolJ s.texts) = true := zhp _
  have b2 : rightJ 60 (boolJ s.drop) = true := zhp _
  unfold srcJ srcV1 srcK1
  by_cases hc : s.csv = [] <;> by_cases hl : s.lays = []
  · rw [if_pos hc, if_pos hl, if_pos hl]
    exact zdf k1 rfl (by simp [t1])
  · rw [if_pos hc, if_neg hl, if_neg hl]
    exact zdf k2 rfl (by simp [t1, hlay])
  · rw [if_neg hc, if_pos hl, if_pos hl]
    exact zdf k3 rfl (by simp [t1, t2, t3, t4, ho, hn, b1, b2])
  · rw [if_neg hc, if_neg hl, if_neg hl]
    exact zdf k4 rfl (by simp [t1, t2, t3, t4, ho, hn, b1, b2, hlay])
theorem zoO {l : List CmpR} {i : Nat} (h : cmpOk l i) : rightJ 63 (cmpJ (l.getD i c0R)) = true := by
  obtain ⟨⟨hq, _, _, p1, p2, p3, p4, p5, p6⟩, _, hs⟩ := h
  generalize l.getD i c0R = c at hq p1 p2 p3 p4 p5 p6 hs ⊢
  have t1 : rightJ 62 (txJ c.id) = true := zdP (zrk hq)
  have n1 : rightJ 62 (numJ c.buf) = true := zgz (by omega) (by omega)
  have n2 : rightJ 62 (numJ c.mx) = true := zgz (by omega) (by omega)
  have n3 : rightJ 62 (numJ c.lim) = true := zgz (by omega) (by omega)
  have sl : rightJ 62 (listJ (c.srcs.map srcJ)) = true := zdr fun x hx => by
    obtain ⟨s, hs', rfl⟩ := List.mem_map.1 hx
    obtain ⟨k, hk, rfl⟩ := zef s0R hs'
    exact zol (hs k hk)
  unfold cmpJ
  exact zdf znZ.2.2.2.2 rfl (by simp [t1, n1, n2, n3, sl])
theorem zgP {l : List CmpR} (h : okL l) : rightJ 64 (confJ l) = true := zdr fun x hx => by
  obtain ⟨c, hc, rfl⟩ := List.mem_map.1 hx
  obtain ⟨i, hi, rfl⟩ := zef c0R hc
  exact zoO (h i hi)

def UpTo (x : J) (n : Nat) : Prop := (textJ x).length ≤ n ∧ jb x ≤ n
def UpL (l : List J) (n : Nat) : Prop := (l.map fun x => (textJ x).length + 4).sum ≤ n ∧ jbL l ≤ n
theorem UpTo.le {x : J} {a b : Nat} (h : UpTo x a) (hl : a ≤ b) : UpTo x b := ⟨Nat.le_trans h.1 hl, Nat.le_trans h.2 hl⟩
theorem UpL.le {l : List J} {a b : Nat} (h : UpL l a) (hl : a ≤ b) : UpL l b := ⟨Nat.le_trans h.1 hl, Nat.le_trans h.2 hl⟩
theorem zig (mp : Bool) : ∀ (l : List J) (f : Bool) (ks : List Txt), (partsT mp f l ks).length ≤ (l.map fun x => (textJ x).length + 4).sum + 6 * txL ks
  | [], _, _ => by
    rw [partsT]
    exact Nat.zero_le _
  | x :: r, f, ks => by
    have h2 := zig mp r false ks.tail
    rw [partsT, List.map_cons, List.sum_cons]
    have ha : (aheadT mp f ks).length + 6 * txL ks.tail ≤ 6 * txL ks + 4 := by
      unfold aheadT
      cases ks with
      | nil => cases f <;> cases mp <;> decide
      | cons k kr =>
        have := zev k
        have e1 : (k :: kr).headD [] = k := rfl
        have e2 : (k :: kr).tail = kr := rfl
        rw [e1, e2, txL]
        cases f <;> cases mp <;> simp only [if_true, if_false, Bool.false_eq_true, List.length_append, List.length_cons, List.length_nil] <;> omega
    simp only [List.length_append]
    omega
theorem zgh : UpL [] 0 := ⟨Nat.le_refl _, by rw [jbL]; exact Nat.le_refl _⟩
theorem zaU {x : J} {r : List J} {a b : Nat} (h : UpTo x a) (hr : UpL r b) : UpL (x :: r) (a + 4 + b) := by
  obtain ⟨h1, h2⟩ := h
  obtain ⟨h3, h4⟩ := hr
  refine ⟨?_, ?_⟩
  · rw [List.map_cons, List.sum_cons]
    omega
  · rw [jbL]
    omega
theorem zgo {α : Type} {f : α → J} {g : α → Nat} : ∀ {l : List α}, (∀ a ∈ l, UpTo (f a) (g a)) → UpL (l.map f) (l.map fun a => g a + 4).sum
  | [], _ => zgh
  | a :: r, h => by
    have hr := zgo (f := f) (g := g) (l := r) fun x hx => h x (List.mem_cons_of_mem _ hx)
    exact zaU (h a (List.mem_cons_self ..)) hr
theorem zhu {l : List J} {n : Nat} (h : UpL l n) : UpTo (listJ l) (2 + n) := by
  have hp := zig false l true []
  obtain ⟨h1, h2⟩ := h
  have e : txL [] = 0 := rfl
  unfold listJ
  refine ⟨?_, ?_⟩
  · rw [textJ, if_neg (by decide), if_neg (by decide), if_neg (by decide), if_neg (by decide), if_pos rfl]
    simp only [List.length_append, List.length_cons, List.length_nil]
    omega
  · rw [jb, e]
    simp only [List.length_nil]
    omega
theorem zjl {l : List J} {ks : List Txt} {n : Nat} (h : UpL l n) : UpTo (mapJ l ks) (2 + n + 6 * txL ks) := by
  have hp := zig (decide ((5 : Int) = 5)) l true ks
  obtain ⟨h1, h2⟩ := h
  unfold mapJ
  refine ⟨?_, ?_⟩
  · rw [textJ, if_neg (by decide), if_neg (by decide), if_neg (by decide), if_neg (by decide), if_neg (by decide)]
    rw [List.length_append, List.length_append]
    show 1 + _ + 1 ≤ _
    omega
  · rw [jb]
    simp only [List.length_nil]
    omega
theorem zmu (t : Txt) : UpTo (txJ t) (6 * t.length + 2) := by
  have := zev t
  unfold txJ
  refine ⟨?_, ?_⟩
  · rw [textJ, if_neg (by decide), if_neg (by decide), if_neg (by decide), if_pos rfl]
    exact this
  · rw [jb]
    have e1 : txL [] = 0 := rfl
    have e2 : jbL [] = 0 := by rw [jbL]
    rw [e1, e2]
    simp only [List.length_nil]
    omega
theorem znY (b : Bool) : UpTo (boolJ b) 5 := by
  cases b <;> exact ⟨by decide, by decide⟩
theorem zpv {n : Int} (h0 : -9223372036854775808 ≤ n) (h1 : n ≤ 9223372036854775807) : UpTo (numJ n) 1001 := by
  have hr := zfG n 0 h0 h1 (by decide) (by decide)
  have hl := zfZ hr
  unfold numJ
  refine ⟨?_, ?_⟩
  · rw [textJ, if_neg (by decide), if_neg (by decide), if_pos rfl]
    omega
  · rw [jb]
    have e1 : txL [] = 0 := rfl
    have e2 : jbL [] = 0 := by rw [jbL]
    have e3 : (ofF n 0).2.1.length ≤ 100 := by
      unfold RightP at hr
      split at hr
      · omega
      · exact hr.2.1
    rw [e1, e2]
    simp only [List.length_nil]
    omega
theorem zfF {α : Type} (g : α → Nat) (a b : Nat) : ∀ l : List α, (l.map fun x => a * g x + b).sum = a * (l.map g).sum + b * l.length
  | [] => rfl
  | x :: r => by
    have := zfF g a b r
    simp only [List.map_cons, List.sum_cons, List.length_cons, Nat.mul_add, Nat.mul_one]
    omega
def fldB (p : Fld) : Nat := p.1.length + p.2.length
def srcB (s : SrcR) : Nat := s.arch.length + s.csv.length + s.key.length + s.attr.length + (s.only.map List.length).sum + (s.notl.map List.length).sum + (s.lays.map fldB).sum
def fewS (s : SrcR) : Prop := s.only.length + s.notl.length ≤ 40 ∧ s.lays.length ≤ 20
def cmpB (c : CmpR) : Nat := c.id.length + (c.srcs.map srcB).sum
def fewC (c : CmpR) : Prop := c.srcs.length ≤ 18 ∧ ∀ k, k < c.srcs.length → fewS (c.srcs.getD k s0R)
theorem zit (l : List Txt) : UpTo (listJ (l.map txJ)) (2 + (6 * (l.map List.length).sum + 6 * l.length)) := by
  have h := zgo (f := txJ) (g := fun t => 6 * t.length + 2) (l := l) fun t _ => zmu t
  have e := zfF (α := Txt) List.length 6 6 l
  rw [← e]
  exact zhu h
theorem ztE (p : Fld) : UpTo (layJ p) (6 * fldB p + 14) := by
  refine (zit [p.1, p.2]).le ?_
  simp only [List.map_cons, List.map_nil, List.sum_cons, List.sum_nil, List.length_cons, List.length_nil]
  unfold fldB
  omega
theorem zrS (l : List Fld) : UpTo (listJ (l.map layJ)) (2 + (6 * (l.map fldB).sum + 18 * l.length)) := by
  have h := zgo (f := layJ) (g := fun p => 6 * fldB p + 14) (l := l) fun p _ => ztE p
  have e := zfF fldB 6 18 l
  rw [← e]
  exact zhu h
theorem zpy : txL [kArchive] = 8 ∧ txL [kArchive, kLayers] = 15 ∧ txL ([kArchive] ++ [kCsv] ++ [kKey] ++ [kAttr] ++ [kOnly] ++ [kNot] ++ [kTexts] ++ [kDrop]) ≤ 48 ∧ txL ([kArchive, kLayers] ++ [kCsv] ++ [kKey] ++ [kAttr] ++ [kOnly] ++ [kNot] ++ [kTexts] ++ [kDrop]) ≤ 48 ∧ txL ([kId] ++ [kSources] ++ [kBuffer] ++ [kMaxzoom] ++ [kLimit]) ≤ 32 := by decide +kernel
theorem ztq {s : SrcR} (h : fewS s) : UpTo (srcJ s) (6 * srcB s + 1000) := by
  obtain ⟨h1, h2⟩ := h
  obtain ⟨k1, k2, k3, k4, _⟩ := zpy
  have hT := zaU (zmu s.csv) (zaU (zmu s.key) (zaU (zmu s.attr) (zaU (zit s.only) (zaU (zit s.notl) (zaU (znY s.texts) (zaU (znY s.drop) zgh))))))
  have hA := zmu s.arch
  have hL := zrS s.lays
  unfold srcJ srcV1 srcK1 srcB
  by_cases hc : s.csv = [] <;> by_cases hl : s.lays = []
  · rw [if_pos hc, if_pos hl, if_pos hl]
    exact (zjl (zaU hA zgh)).le (by rw [k1]; omega)
  · rw [if_pos hc, if_neg hl, if_neg hl]
    exact (zjl (zaU hA (zaU hL zgh))).le (by rw [k2]; omega)
  · rw [if_neg hc, if_pos hl, if_pos hl]
    exact (zjl (zaU hA hT)).le (by omega)
  · rw [if_neg hc, if_neg hl, if_neg hl]
    exact (zjl (zaU hA (zaU hL hT))).le (by omega)
theorem ztl {c : CmpR} (hd : hdOk c) (h : fewC c) : UpTo (cmpJ c) (6 * cmpB c + 22000) := by
  obtain ⟨_, _, _, p1, p2, p3, p4, p5, p6⟩ := hd
  obtain ⟨h1, h2⟩ := h
  obtain ⟨_, _, _, _, k5⟩ := zpy
  have hs := zgo (f := srcJ) (g := fun s => 6 * srcB s + 1000) (l := c.srcs) fun s hs => by
    obtain ⟨k, hk, e⟩ := zef s0R hs
    rw [← e]
    exact ztq (h2 k hk)
  have e := zfF srcB 6 1004 c.srcs
  rw [show (c.srcs.map fun a => 6 * srcB a + 1000 + 4) = c.srcs.map fun a => 6 * srcB a + 1004 from rfl, e] at hs
  unfold cmpJ cmpB
  exact (zjl (zaU (zmu c.id) (zaU (zhu hs) (zaU (zpv (n := c.buf) (by omega) (by omega)) (zaU (zpv (n := c.mx) (by omega) (by omega)) (zaU (zpv (n := c.lim) (by omega) (by omega)) zgh)))))).le (by omega)
theorem zes {α : Type} (d : α) (g : α → Nat) (l : List α) {step : Nat → Int → Option Int} (B : Nat) (Q : Int → Prop) (hs : ∀ k n m, k < l.length → step k n = some m → n + g (l.getD k d) ≤ m ∧ Q m) :
    ∀ (j i : Nat) (n m : Int), l.length - i = j → l.length ≤ B → scanO step l.length B i n = some m → n + ((l.drop i).map g).sum ≤ m ∧ (i < l.length → Q m)
  | 0, i, n, m, hj, hB, h => by
    rw [zcy (fun a => absurd a (by omega))] at h
    cases h
    rw [List.drop_of_length_le (by omega)]
    exact ⟨by simp, fun a => absurd a (by omega)⟩
  | j + 1, i, n, m, hj, hB, h => by
    cases hq : step i n with
    | none =>
      rw [zdM (by omega) (by omega) hq] at h
      cases h
    | some v =>
      rw [zbZ (by omega) (by omega) hq] at h
      obtain ⟨h1, h2⟩ := hs i n v (by omega) hq
      obtain ⟨h3, h4⟩ := zes d g l B Q hs j (i + 1) v m (by omega) hB h
      have e : l.drop i = l.getD i d :: l.drop (i + 1) := by
        have hi : i < l.length := by omega
        rw [List.drop_eq_getElem_cons hi]
        simp [List.getD_eq_getElem?_getD, hi]
      refine ⟨?_, fun _ => ?_⟩
      · rw [e, List.map_cons, List.sum_cons]
        omega
      · by_cases hl : i + 1 < l.length
        · exact h4 hl
        · rw [zcy (fun a => absurd a (by omega))] at h
          cases h
          exact h2
theorem ziw {step : Nat → Int → Option Int} {len B : Nat} : ∀ (j i : Nat) (n m : Int), len - i = j → len ≤ B → scanO step len B i n = some m → ∀ k, i ≤ k → k < len → ∃ a b, step k a = some b
  | 0, i, _, _, hj, _, _, k, h1, h2 => absurd h1 (by omega)
  | j + 1, i, n, m, hj, hB, h, k, h1, h2 => by
    cases hq : step i n with
    | none =>
      rw [zdM (by omega) (by omega) hq] at h
      cases h
    | some v =>
      rw [zbZ (by omega) (by omega) hq] at h
      by_cases he : i = k
      · subst he
        exact ⟨n, v, hq⟩
      · exact ziw j (i + 1) v m (by omega) hB h k (by omega) h2
theorem zlM {s : SrcR} {n q : Int} (h : muchS s n = some q) : fewS s ∧ n + srcB s ≤ q ∧ q ≤ 1500 := by
  unfold muchS at h
  by_cases hf : 40 < (s.only ++ s.notl).length ∨ 20 < s.lays.length
  · rw [if_pos hf] at h
    cases h
  rw [if_neg hf] at h
  rw [List.length_append] at hf
  cases h1 : scanO (txW (s.only ++ s.notl)) (s.only ++ s.notl).length (s.only ++ s.notl).length 0 (n + 1 + s.arch.length + s.csv.length + s.key.length + s.attr.length) with
  | none =>
    rw [h1] at h
    cases h
  | some m =>
  rw [h1] at h
  dsimp only at h
  cases h2 : scanO (flW s.lays) s.lays.length s.lays.length 0 m with
  | none =>
    rw [h2] at h
    cases h
  | some v =>
  rw [h2] at h
  dsimp only at h
  by_cases hv : v > 1500
  · rw [if_pos hv] at h
    cases h
  rw [if_neg hv] at h
  cases h
  have a1 := (zes [] List.length (s.only ++ s.notl) (step := txW (s.only ++ s.notl)) _ (fun _ => True) (fun k n m _ e => by
    unfold txW at e
    cases e
    exact ⟨Int.le_refl _, trivial⟩) _ 0 _ m rfl (Nat.le_refl _) h1).1
  have a2 := (zes ([], []) fldB s.lays (step := flW s.lays) _ (fun _ => True) (fun k n m _ e => by
    unfold flW at e
    cases e
    refine ⟨?_, trivial⟩
    unfold fldB
    omega) _ 0 _ q rfl (Nat.le_refl _) h2).1
  rw [List.drop_zero] at a1 a2
  rw [List.map_append, List.sum_append] at a1
  unfold fewS srcB
  exact ⟨⟨by omega, by omega⟩, by omega, by omega⟩
theorem ziu {c : CmpR} {n q : Int} (h : muchC c n = some q) : fewC c ∧ n + cmpB c ≤ q ∧ (1 ≤ c.srcs.length → q ≤ 1500) := by
  unfold muchC at h
  cases h1 : scanO (fun k n => muchS (c.srcs.getD k s0R) n) c.srcs.length 20 0 (n + c.id.length) with
  | none =>
    rw [h1] at h
    cases h
  | some m =>
  rw [h1] at h
  dsimp only at h
  by_cases hv : 18 < c.srcs.length
  · rw [if_pos hv] at h
    cases h
  rw [if_neg hv] at h
  cases h
  obtain ⟨a1, a2⟩ := zes s0R srcB c.srcs (step := fun k n => muchS (c.srcs.getD k s0R) n) 20 (fun m => m ≤ 1500) (fun k n m _ e => (zlM e).2) _ 0 _ q rfl (by omega) h1
  rw [List.drop_zero] at a1
  have a3 := ziw (step := fun k n => muchS (c.srcs.getD k s0R) n) _ 0 _ q rfl (by omega) h1
  unfold fewC cmpB
  refine ⟨⟨by omega, fun k hk => ?_⟩, by omega, fun hk => a2 (by omega)⟩
  obtain ⟨a, b, e⟩ := a3 k (Nat.zero_le _) hk
  exact (zlM e).1
theorem zlj {l : List CmpR} (h : muchL l = false) : l.length ≤ 7 ∧ (∀ i, i < l.length → fewC (l.getD i c0R)) ∧ ((∀ i, i < l.length → 1 ≤ (l.getD i c0R).srcs.length) → (l.map cmpB).sum ≤ 1500) := by
  unfold muchL at h
  cases h1 : scanO (fun i n => muchC (l.getD i c0R) n) l.length 8 0 0 with
  | none =>
    rw [h1] at h
    cases h
  | some m =>
  rw [h1] at h
  have h7 := of_decide_eq_false h
  refine ⟨by omega, fun i hi => ?_, fun hs => ?_⟩
  · obtain ⟨a, b, e⟩ := ziw (step := fun i n => muchC (l.getD i c0R) n) _ 0 _ m rfl (by omega) h1 i (Nat.zero_le _) hi
    exact (ziu e).1
  · obtain ⟨a1, a2⟩ := zes c0R cmpB l (step := fun i n => muchC (l.getD i c0R) n) 8 (fun m => m ≤ 1500) (fun k n m hk e => ⟨(ziu e).2.1, (ziu e).2.2 (hs k hk)⟩) _ 0 0 m rfl (by omega) h1
    rw [List.drop_zero] at a1
    by_cases hl : 0 < l.length
    · have := a2 hl
      omega
    · rw [List.length_eq_zero_iff.1 (show l.length = 0 by omega)]
      decide
theorem zih {α : Type} {l : List α} {d : α} {i : Nat} (h : ¬ i < l.length) : l.getD i d = d := by
  simp [List.getD_eq_getElem?_getD, List.getElem?_eq_none (Nat.le_of_not_lt h)]
theorem zlI {l : List CmpR} (h : muchL l = false) : fitL l := by
  obtain ⟨h1, h2, _⟩ := zlj h
  refine ⟨by omega, fun i => ?_⟩
  by_cases hi : i < l.length
  · obtain ⟨h3, h4⟩ := h2 i hi
    refine ⟨by omega, fun k => ?_⟩
    by_cases hk : k < (l.getD i c0R).srcs.length
    · obtain ⟨h5, h6⟩ := h4 k hk
      exact ⟨by omega, by omega, by omega⟩
    · rw [zih hk]
      exact ⟨Nat.zero_le _, Nat.zero_le _, Nat.zero_le _⟩
  · rw [zih hi]
    refine ⟨Nat.zero_le _, fun k => ?_⟩
    rw [show c0R.srcs.getD k s0R = s0R from zih (Nat.not_lt_zero k)]
    exact ⟨Nat.zero_le _, Nat.zero_le _, Nat.zero_le _⟩
theorem zkJ {l : List CmpR} (h : muchL l = false) (ho : okL l) : UpTo (confJ l) 200000 := by
  obtain ⟨h1, h2, h3⟩ := zlj h
  have h3 := h3 fun i hi => by
    have := (ho i hi).1.2.1
    omega
  have hs := zgo (f := cmpJ) (g := fun c => 6 * cmpB c + 22000) (l := l) fun c hc => by
    obtain ⟨k, hk, e⟩ := zef c0R hc
    rw [← e]
    exact ztl (ho k hk).1 (h2 k hk)
  have e := zfF cmpB 6 22004 l
  rw [show (l.map fun a => 6 * cmpB a + 22000 + 4) = l.map fun a => 6 * cmpB a + 22004 from rfl, e] at hs
  unfold confJ
  exact (zhu hs).le (by omega)

theorem zkz {x : J} (h : rightJ 64 x = true) (hl : (textJ x).length ≤ 1048576) : ∃ y, jparse (textJ x) = (y, (textJ x).length, 0) ∧ sameJ x y = true := by
  obtain ⟨y, q, sm⟩ := back 64 x h (textJ x) 0 [] (by rw [List.drop_zero, List.append_nil]) (.inl rfl)
  refine ⟨y, ?_, sm⟩
  have hk := zfV (Nat.le_refl (textJ x).length)
  unfold jparse
  rw [if_neg (by omega), q, Nat.zero_add]
  dsimp only
  rw [if_neg (by omega)]

theorem zgI {l : List CmpR} (ho : okL l) (hl : (textJ (confJ l)).length ≤ 1048576) : confP (textJ (confJ l)) = (l, 0) := by
  obtain ⟨y, e, hs⟩ := zkz (zgP ho) hl
  unfold confP
  rw [e, if_neg (fun q => q rfl)]
  exact znk ho hs
set_option maxRecDepth 100000 in
set_option maxHeartbeats 8000000 in
theorem znS (l : List CmpR) (hl : smallL l) (hb : ∀ i, bigC (l.getD i c0R)) : Ctr Tryz.prog 5 [.sl 5 l.length (cmpF l)] (.b true) := by
  have cl := znB
  have cm := znf l hl hb
  cases hm : muchL l with
  | true =>
    rw [hm] at cm
    refine zaE Tryz.func5 rfl Tryz.ntmps5 Tryz.results5 rfl rfl fun X hL hX => ?_
    repeat' (first |refine zai (f := 6) rfl rfl Tryz.call6 rfl cm ?_|refine zai (f := 7) rfl rfl Tryz.call7 rfl cl ?_|with_reducible (first |refine zag ?_|refine zaa ?_|refine zaf ?_|refine zad ?_|refine zaj ?_|refine zam ?_)|refine zab rfl rfl True.intro ?_|refine zav rfl ?_|refine zau rfl ?_|fail)
    all_goals rfl
  | false =>
  rw [hm] at cm
  have cR := zhm l hl hb
  have cP := zeY l (zlI hm) hb
  have cT := ziD l (zlI hm) hb fun ho => Nat.le_trans (zkJ hm ho).2 (by decide)
  have cU := zmS l hl hb fun ho => Nat.le_trans (zkJ hm ho).1 (by decide)
  unfold textC at cT
  unfold rtextC at cU
  by_cases ho : okL l
  rotate_left
  · rw [decide_eq_false ho] at cR cP
    rw [if_neg ho] at cT cU
    refine zaE Tryz.func5 rfl Tryz.ntmps5 Tryz.results5 rfl rfl fun X hL hX => ?_
    repeat' (first |refine zai (f := 6) rfl rfl Tryz.call6 rfl cm ?_|refine zai (f := 16) rfl rfl Tryz.call16 rfl cT ?_|refine zai (f := 17) rfl rfl Tryz.call17 rfl cP ?_|refine zai (f := 18) rfl rfl Tryz.call18 rfl cR ?_|refine zaK (f := 19) rfl rfl rfl rfl Tryz.call19 rfl cU ?_|refine zaK (f := 7) rfl rfl rfl rfl Tryz.call7 rfl cl ?_|with_reducible (first |refine zag ?_|refine zaa ?_|refine zaf ?_|refine zad ?_|refine zaj ?_|refine zah ?_|refine zam ?_)|refine zab rfl rfl True.intro ?_|refine zak rfl rfl rfl rfl True.intro ?_|refine zav rfl ?_|refine zal rfl ?_|refine zau rfl ?_|fail)
    all_goals first
      | rfl
      | (exfalso; rename_i q; exact q rfl)
  have hu := (zkJ hm ho).1
  have cC := znT (textJ (confJ l)) hu
  rw [zgI ho (Nat.le_trans hu (by decide))] at cC
  rw [decide_eq_true ho] at cR cP
  rw [if_pos ho] at cT cU
  rw [if_pos (zgP ho)] at cT
  generalize textJ (confJ l) = s at cC cT cU hu
  replace cC : Ctr Tryz.prog 13 [.s s] (.tu [.sl 5 l.length (cmpF l), .i .i64 0]) := cC
  have c3 := zmJ l l hl hl
  rw [decide_eq_true rfl] at c3
  have c4 := zoG 0
  have hss : ¬ (s == s) = false := fun q => by
    rw [beq_self_eq_true] at q
    cases q
  refine zaE Tryz.func5 rfl Tryz.ntmps5 Tryz.results5 rfl rfl fun X hL hX => ?_
  repeat' (first |refine zai (f := 6) rfl rfl Tryz.call6 rfl cm ?_|refine zai (f := 16) rfl rfl Tryz.call16 rfl cT ?_|refine zai (f := 17) rfl rfl Tryz.call17 rfl cP ?_|refine zai (f := 18) rfl rfl Tryz.call18 rfl cR ?_|refine zaK (f := 19) rfl rfl rfl rfl Tryz.call19 rfl cU ?_|refine zai (f := 13) rfl rfl Tryz.call13 rfl cC ?_|refine zai (f := 15) rfl rfl Tryz.call15 rfl c4 ?_|refine zaK (f := 9) rfl rfl rfl rfl Tryz.call9 rfl c3 ?_|refine zaK (f := 7) rfl rfl rfl rfl Tryz.call7 rfl cl ?_|with_reducible (first |refine zag ?_|refine zaa ?_|refine zaf ?_|refine zad ?_|refine zaj ?_|refine zah ?_|refine zam ?_)|refine zab rfl rfl True.intro ?_|refine zak rfl rfl rfl rfl True.intro ?_|refine zal rfl ?_|((first |refine zbr rfl ?_ ?_)<;>intro)|refine zau rfl ?_|fail)
  all_goals first
    | rfl
    | (exfalso; rename_i q; exact q rfl)
    | (exfalso; rename_i q; exact hss q)
    | trace_state
end Go.Proofs.YtcajofhafpkbdaaGreatDoor.Flow

namespace Go.Proofs.YtcajofhafpkbdaaGreatDoor.Flow
open Go.ChangeShapes Go.WideShapes Go.ChangeAt Go.RowKit
set_option maxRecDepth 100000
section
variable {H : Type}
mutual
def flatD : DataW H → List Value
  | .lit (.int k n) => [.int k n]
  | .lit (.bool b) => [.bool b]
  | .lit (.string l) => [.string ⟨l.toArray⟩]
  | .agg ps => flatDs ps
  | _ => []
def flatDs : List (DataW H) → List Value
  | [] => []
  | d :: r => flatD d ++ flatDs r
end
end
def Reads (t : TypeId) (z : Nat) : Prop :=
  ∀ (W : World) held fuel cs x, DataW.trod (fun _ => ()) Tryz.prog W 0 (fun _ => true) held fuel t cs = some x → cs.length = z ∧ cs = flatD x.1
theorem zeq {t : TypeId} {k : IntKind} (ht : Tryz.prog.underlying t = some (.int k)) : Reads t 1 := fun W held fuel cs x h => by
  obtain ⟨n, rfl, rfl, _⟩ := DataW.trod_int ht h
  exact ⟨rfl, by simp [flatD]⟩
theorem zec {t e z n m : Nat} (ht : Tryz.prog.underlying t = some (.array n e)) (hc : Tryz.prog.cellsOf e = z) (hm : Tryz.prog.cellsOf t = m) (hnm : n * z = m) (hG : Reads e z) : Reads t m := fun W held fuel cs x h => by
  obtain ⟨xs, k, rfl, rfl, hlen, hn, hf⟩ := DataW.trod_array ht h
  rw [hm] at hlen
  rw [hc] at hf
  refine ⟨hlen, ?_⟩
  have key : ∀ (n' : Nat) (ys : List (DataW Unit × List MemPlace)) (cs : List Value), ys.length = n' → cs.length = n' * z → (∀ i, i < n' → DataW.trod (fun _ => ()) Tryz.prog W 0 (fun _ => true) held k e ((cs.drop (i * z)).take z) = ys[i]?) →
      cs = flatDs (ys.map (·.1)) := by
    intro n'
    induction n' with
    | zero =>
      intro ys cs hy hcs _
      obtain rfl : ys = [] := List.length_eq_zero_iff.1 hy
      have : cs = [] := List.length_eq_zero_iff.1 (by omega)
      rw [this]
      simp [flatDs]
    | succ n' ih =>
      intro ys cs hy hcs hf
      match ys, hy with
      | y :: ys, hy =>
        have h0 := hf 0 (by omega)
        obtain ⟨k1, k2⟩ := hG _ _ _ _ _ h0
        rw [Nat.add_mul, Nat.one_mul] at hcs
        have h1 := ih ys (cs.drop z) (by simpa using hy) (by rw [List.length_drop]; omega) (fun i hi => by
          have := hf (i + 1) (by omega)
          rw [List.drop_drop]
          rwa [show z + i * z = (i + 1) * z by rw [Nat.add_mul]; omega])
        simp only [List.map_cons, flatDs]
        rw [← h1, ← k2]
        simp
  have := key n xs cs hn (by omega) hf
  rw [this]
  simp [flatD]
theorem zhF {t z1 z2 m : Nat} {fs : Array Field} {f1 f2 : Field} (ht : Tryz.prog.underlying t = some (.struct fs)) (hl : fs = #[f1, f2]) (hm : Tryz.prog.cellsOf t = m) (o1 : f1.offset = 0) (o2 : f2.offset = z1)
    (c1 : Tryz.prog.cellsOf f1.type = z1) (c2 : Tryz.prog.cellsOf f2.type = z2) (hz : z1 + z2 = m) (h1 : Reads f1.type z1) (h2 : Reads f2.type z2) : Reads t m := fun W held fuel cs x h => by
  subst hl
  obtain ⟨xs, k, rfl, rfl, hlen, hn, hf⟩ := DataW.trod_struct ht h
  rw [hm] at hlen
  refine ⟨hlen, ?_⟩
  match xs, hn with
  | [a, b], _ =>
    have e1 := hf 0 f1 rfl
    have e2 := hf 1 f2 rfl
    rw [o1, c1] at e1
    rw [o2, c2] at e2
    have r1 := (h1 _ _ _ _ _ e1).2
    have r2 := (h2 _ _ _ _ _ e2).2
    simp only [List.map_cons, List.map_nil, flatD, flatDs, List.append_nil]
    rw [← r1, ← r2]
    have : (cs.drop z1).take z2 = cs.drop z1 := List.take_of_length_le (by rw [List.length_drop]; omega)
    rw [this]
    simp
theorem zhv {W : World} {name : String} {d : DataW Unit} : ∀ {laid : List (String × DataW Unit)} {ps : List MemPlace}, DataW.LaidVars Tryz.prog W laid ps → (name, d) ∈ laid →
    ∃ g t cs fuel p, Tryz.prog.globalNamed name = some g ∧ (Tryz.prog.globals[g]?).map (·.type) = some t ∧ W.var? Tryz.prog name = some cs ∧ DataW.trod (fun _ => ()) Tryz.prog W 0 (fun _ => true) false fuel t cs.toList = some (d, p)
  | [], _, _, hm => by cases hm
  | (n, e) :: r, ps, h, hm => by
    obtain ⟨g, t, cs, fuel, p, q, h1, h2, h3, h4, h5, _⟩ := h
    rcases List.mem_cons.1 hm with he | hm
    · cases he
      exact ⟨g, t, cs, fuel, p, h1, h2, h3, h4⟩
    · exact zhv h5 hm
theorem zgY {W : World} {b o : Nat} {c : Value} (h : W.cell? ⟨b, o, none⟩ = some c) : b < W.heap.size := by
  by_cases hb : b < W.heap.size
  · exact hb
  · have : W.heap[b]? = none := by simp; omega
    simp [World.cell?, this] at h
theorem zeO {W : World} {laid : List (String × DataW Unit)} {name : String} {d : DataW Unit} {g t z : Nat} {k : IntKind} {f : Nat → Int} (h : laidMet Tryz.prog laid W) (hm : (name, d) ∈ laid) (hg : Tryz.prog.globalNamed name = some g)
    (ht : (Tryz.prog.globals[g]?).map (·.type) = some t) (hr : Reads t z) (hf : flatD d = (List.range z).map fun j => .int k (f j)) : Rel (allOf W) W noRho (.rn k z f 0) (.pointer (some ⟨g, 0, none⟩)) := by
  obtain ⟨ps, hl, _⟩ := h
  obtain ⟨g', t', cs, fuel, p, h1, h2, h3, h4⟩ := zhv hl hm
  obtain rfl := Option.some.inj (hg.symm.trans h1)
  obtain rfl := Option.some.inj (ht.symm.trans h2)
  obtain ⟨h5, h6⟩ := hr _ _ _ _ _ h4
  refine .rn _ _ _ _ _ _ fun j hj => ?_
  have : W.cell? ⟨g, j, none⟩ = some (.int k (f j)) := by
    rw [World.var?_cell hg h3 j]
    have e : cs[j]? = cs.toList[j]? := by simp
    rw [e, h6, hf]
    simp [hj]
  exact ⟨zgY this, this⟩
theorem zcf {W : World} {laid : List (String × DataW Unit)} {name : String} {d : DataW Unit} {g t z : Nat} (h : laidMet Tryz.prog laid W) (hm : (name, d) ∈ laid) (hg : Tryz.prog.globalNamed name = some g)
    (ht : (Tryz.prog.globals[g]?).map (·.type) = some t) (hr : Reads t (z + 1)) : allOf W g (z + 1) ∧ W.cell? ⟨g, z + 1, none⟩ = none := by
  obtain ⟨ps, hl, _⟩ := h
  obtain ⟨g', t', cs, fuel, p, h1, h2, h3, h4⟩ := zhv hl hm
  obtain rfl := Option.some.inj (hg.symm.trans h1)
  obtain rfl := Option.some.inj (ht.symm.trans h2)
  obtain ⟨h5, h6⟩ := hr _ _ _ _ _ h4
  have hs : cs.size = z + 1 := by simpa using h5
  have h7 : W.cell? ⟨g, 0, none⟩ = cs[0]? := World.var?_cell hg h3 0
  rw [Array.getElem?_eq_getElem (by omega)] at h7
  refine ⟨zgY h7, ?_⟩
  rw [World.var?_cell hg h3 (z + 1)]
  simp [hs]

set_option maxRecDepth 100000
abbrev seatLaid : List (String × DataW Unit) := [("math/bits.deBruijn32tab", Rows.laid_math_bits_deBruijn32tab), ("math/bits.deBruijn64tab", Rows.laid_math_bits_deBruijn64tab), ("internal/strconv.uint64pow10", Rows.laid_internal_strconv_uint64pow10), ("unicode/utf8.acceptRanges", Rows.laid_unicode_utf8_acceptRanges), ("unicode/utf8.first", Rows.laid_unicode_utf8_first)]
theorem zdY : Reads 157 256 := zec (n := 256) (z := 1) Tryz.underlying157 (by kernel_rfl) (by kernel_rfl) rfl (zeq Tryz.underlying5)
theorem zfP : Reads 160 32 := zec (n := 16) (z := 2) Tryz.underlying160 (by kernel_rfl) (by kernel_rfl) rfl
  (zhF (z1 := 1) (z2 := 1) Tryz.underlying159 rfl (by kernel_rfl) rfl rfl (by kernel_rfl) (by kernel_rfl) rfl (zeq Tryz.underlying5) (zeq Tryz.underlying5))
theorem zjk : Reads 205 20 := zec (n := 20) (z := 1) Tryz.underlying205 (by kernel_rfl) (by kernel_rfl) rfl (zeq Tryz.underlying99)
theorem zkl {W : World} (h0 : laidMetH Tryz.prog seatLaid W) (hb : ∀ g, globSome g = true → ∃ m, allOf W g 0 ∧ W.cell? ⟨g, 0, none⟩ = some (.int .i64 m) := by intro g h; cases h) : GOk (allOf W) W := by
  rw [MakeChecks.laidMetH_plain _ _ _ (by kernel_rfl)] at h0
  refine ⟨fun g => ?_, fun g n hn => ?_, hb⟩
  · by_cases e0 : g = 0
    · subst e0
      exact zeO (name := "unicode/utf8.first") (d := Rows.laid_unicode_utf8_first) h0 (by simp) (by kernel_rfl) (by kernel_rfl) zdY (by kernel_rfl)
    · by_cases e1 : g = 1
      · subst e1
        exact zeO (name := "unicode/utf8.acceptRanges") (d := Rows.laid_unicode_utf8_acceptRanges) h0 (by simp) (by kernel_rfl) (by kernel_rfl) zfP (by kernel_rfl)
      · by_cases e2 : g = 3
        · subst e2
          exact zeO (name := "internal/strconv.uint64pow10") (d := Rows.laid_internal_strconv_uint64pow10) h0 (by simp) (by kernel_rfl) (by kernel_rfl) zjk (by kernel_rfl)
        · have e : glob g = .any := by
            unfold glob
            split <;> first | rfl | (exfalso; omega)
          rw [e]
          exact .any ..
  · unfold globLen at hn
    split at hn
    · cases hn
      first | exact zcf (name := "unicode/utf8.first") (d := Rows.laid_unicode_utf8_first) h0 (by simp) (by kernel_rfl) (by kernel_rfl) zdY | exact zcf (name := "unicode/utf8.acceptRanges") (d := Rows.laid_unicode_utf8_acceptRanges) h0 (by simp) (by kernel_rfl) (by kernel_rfl) zfP
    · cases hn
      first | exact zcf (name := "unicode/utf8.acceptRanges") (d := Rows.laid_unicode_utf8_acceptRanges) h0 (by simp) (by kernel_rfl) (by kernel_rfl) zfP | exact zcf (name := "unicode/utf8.first") (d := Rows.laid_unicode_utf8_first) h0 (by simp) (by kernel_rfl) (by kernel_rfl) zdY
    · cases hn
      exact zcf (name := "internal/strconv.uint64pow10") (d := Rows.laid_internal_strconv_uint64pow10) h0 (by simp) (by kernel_rfl) (by kernel_rfl) zjk
    · cases hn

theorem zis {W : World} {b o : Nat} {x : Value} (h : W.cell? ⟨b, o, none⟩ = some x) : allOf W b o := by
  show b < W.heap.size
  by_cases hb : b < W.heap.size
  · exact hb
  · simp [World.cell?, Array.getElem?_eq_none (Nat.le_of_not_lt hb)] at h
set_option maxRecDepth 100000 in
theorem zpe {W : World} (h : W.ShapedOpen Tryz.prog) : ∃ m, W.cell? ⟨2, 0, none⟩ = some (.int .i64 m) :=
  Go.Proofs.cell_of_shapedOpen_int (zero := #[.int .i64 0]) (t := 3) h (of_decide_eq_true (by kernel_rfl)) (by kernel_rfl) rfl (by kernel_rfl) (by kernel_rfl) Tryz.underlying3
theorem ziX {W : World} (h : W.ShapedOpen Tryz.prog) : ∀ g, globSome g = true → ∃ m, allOf W g 0 ∧ W.cell? ⟨g, 0, none⟩ = some (.int .i64 m) := fun g hg => by
  unfold globSome at hg
  split at hg
  · obtain ⟨m, hm⟩ := zpe h
    exact ⟨m, zis hm, hm⟩
  · cases hg
end Go.Proofs.YtcajofhafpkbdaaGreatDoor.Flow
