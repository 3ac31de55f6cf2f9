/- META: the arguments opened. -/
import Derived.Test.YtejpliaomhpakaaFlowR
import Derived.Test.YtejpliaomhpakaaM4
namespace Go.Proofs.Ytejpliaomhpakaa.Flow
open Go

section
variable {H : Type}

theorem drop_at (l : List (DataW H)) (n i : Nat) : (l.drop n).getD i .nil = l.getD (n + i) .nil := by
  simp [List.getD_eq_getElem?_getD]

def kid (d : DataW H) (i : Nat) : DataW H := (kids d).getD i .nil

theorem bk (d : DataW H) (i : Nat) : Rows.uptoBulk (kid d i) ≤ Rows.uptoBulk d := by
  unfold kid
  by_cases h : i < (kids d).length
  · rw [List.getD_eq_getElem?_getD, List.getElem?_eq_getElem h, Option.getD_some]
    have := bulk_mem (List.getElem_mem h)
    have := bulk_kids d
    omega
  · rw [List.getD_eq_getElem?_getD, List.getElem?_eq_none (by omega), Option.getD_none]
    exact bulk_one d
theorem bkl (d : DataW H) : (kids d).length ≤ Rows.uptoBulk d := by
  have := bulk_len (kids d)
  have := bulk_kids d
  omega

def fldOf (d : DataW H) : Fld := (strOf (kid d 0), strOf (kid d 1))
def fldsOf (d : DataW H) : List Fld := (kids d).map fldOf
def vecOf (d : DataW H) : Vec := (strOf (kid d 0), fldsOf (kid d 1))
def vecsOf (d : DataW H) : List Vec := (kids d).map vecOf

theorem fldsOf_at (d : DataW H) (i : Nat) : (fldsOf d).getD i ([], []) = fldOf (kid d i) := map_getD fldOf (kids d) .nil i
theorem vecsOf_at (d : DataW H) (i : Nat) : (vecsOf d).getD i ([], []) = vecOf (kid d i) := map_getD vecOf (kids d) .nil i

def gS (d : DataW H) : List D := [.s (strOf d)]
def gI (d : DataW H) : List D := [.i .i64 (intOf d)]
def gU (d : DataW H) : List D := [.i .u64 (intOf d)]
def gB (d : DataW H) : List D := [.b (boolOf d)]
def gFld (d : DataW H) : List D := catG (List.replicate 2 gS) (kids d)
def gSl (z : Nat) (G : DataW H → List D) (d : DataW H) : List D := [.sl z (kids d).length (fun i => G ((kids d).getD i .nil))]
def gVec (d : DataW H) : List D := catG [gS, gSl 2 gFld] (kids d)

theorem gFld_eq (d : DataW H) : gFld d = [.s (fldOf d).1, .s (fldOf d).2] := by
  show [D.s (strOf ((kids d).getD 0 .nil))] ++ ([D.s (strOf (((kids d).drop 1).getD 0 .nil))] ++ []) = _
  rw [drop_at]
  rfl
theorem gFlds_eq (d : DataW H) : gSl 2 gFld d = [.sl 2 (fldsOf d).length (fldF (fldsOf d))] := by
  have h1 : (fldsOf d).length = (kids d).length := by simp [fldsOf]
  have h2 : (fun i => gFld ((kids d).getD i .nil)) = fldF (fldsOf d) := by
    funext i
    unfold fldF
    rw [gFld_eq, fldsOf_at]
    rfl
  show [D.sl 2 (kids d).length (fun i => gFld ((kids d).getD i .nil))] = _
  rw [h1, h2]
theorem gVec_eq (d : DataW H) : gVec d = [.s (vecOf d).1, .sl 2 (vecOf d).2.length (fldF (vecOf d).2)] := by
  show [D.s (strOf ((kids d).getD 0 .nil))] ++ (gSl 2 gFld (((kids d).drop 1).getD 0 .nil) ++ []) = _
  rw [drop_at, gFlds_eq]
  rfl
theorem gVecs_eq (d : DataW H) : gSl 2 gVec d = [.sl 2 (vecsOf d).length (vecF (vecsOf d))] := by
  have h1 : (vecsOf d).length = (kids d).length := by simp [vecsOf]
  have h2 : (fun i => gVec ((kids d).getD i .nil)) = vecF (vecsOf d) := by
    funext i
    unfold vecF
    rw [gVec_eq, vecsOf_at]
    rfl
  show [D.sl 2 (kids d).length (fun i => gVec ((kids d).getD i .nil))] = _
  rw [h1, h2]

theorem smallF_of {d : DataW H} (h : Rows.uptoBulk d ≤ 1048576) : smallF (fldsOf d) := by
  refine ⟨by have := bkl d; simp only [fldsOf, List.length_map]; omega, fun i => ?_⟩
  rw [fldsOf_at]
  have h1 := bk d i
  have h2 := bk (kid d i) 0
  have h3 := bk (kid d i) 1
  have h4 := bulk_str (kid (kid d i) 0)
  have h5 := bulk_str (kid (kid d i) 1)
  exact ⟨by show (strOf (kid (kid d i) 0)).length ≤ _; omega, by show (strOf (kid (kid d i) 1)).length ≤ _; omega⟩

theorem smallV_of {d : DataW H} (h : Rows.uptoBulk d ≤ 1048576) : smallV (vecsOf d) := by
  refine ⟨by have := bkl d; simp only [vecsOf, List.length_map]; omega, fun i => ?_⟩
  rw [vecsOf_at]
  have h1 := bk d i
  have h2 := bk (kid d i) 0
  have h3 := bk (kid d i) 1
  have h4 := bulk_str (kid (kid d i) 0)
  exact ⟨by show (strOf (kid (kid d i) 0)).length ≤ _; omega, smallF_of (by omega)⟩

/-! ### Layers -/
def gPt (d : DataW H) : List D := catG [gI, gI] (kids d)
def gVal (d : DataW H) : List D := catG [gI, gS, gU] (kids d)
def gAtt (d : DataW H) : List D := catG [gS, gVal] (kids d)
def gFeat (d : DataW H) : List D := catG [gB, gU, gI, gSl 1 (gSl 2 gPt), gSl 4 gAtt] (kids d)
def gLay (d : DataW H) : List D := catG [gS, gI, gSl 5 gFeat] (kids d)

def attOf (d : DataW H) : Att := (strOf (kid d 0), intOf (kid (kid d 1) 0), strOf (kid (kid d 1) 1), intOf (kid (kid d 1) 2))
def attsOf (d : DataW H) : List Att := (kids d).map attOf
def featOf (d : DataW H) : Feat := ⟨boolOf (kid d 0), intOf (kid d 1), intOf (kid d 2), (kids (kid d 3)).length, fun k => ((kids (kid (kid d 3) k)).length, fun j => gPt ((kids (kid (kid d 3) k)).getD j .nil)), attsOf (kid d 4)⟩
def featsOf (d : DataW H) : List Feat := (kids d).map featOf
def layOf (d : DataW H) : Lay := (strOf (kid d 0), intOf (kid d 1), featsOf (kid d 2))
def laysOf (d : DataW H) : List Lay := (kids d).map layOf

/-- What a feature reads as that is not there. -/
theorem attsOf_at (d : DataW H) (i : Nat) : (attsOf d).getD i dA = attOf (kid d i) := map_getD attOf (kids d) .nil i

theorem gAtt_eq (d : DataW H) : gAtt d = [.s (attOf d).1, .i .i64 (attOf d).2.1, .s (attOf d).2.2.1, .i .u64 (attOf d).2.2.2] := by
  show [D.s (strOf ((kids d).getD 0 .nil))] ++ (gVal (((kids d).drop 1).getD 0 .nil) ++ []) = _
  rw [drop_at]
  show _ ++ (([D.i .i64 (intOf ((kids ((kids d).getD 1 .nil)).getD 0 .nil))] ++ ([D.s (strOf (((kids ((kids d).getD 1 .nil)).drop 1).getD 0 .nil))] ++ ([D.i .u64 (intOf ((((kids ((kids d).getD 1 .nil)).drop 1).drop 1).getD 0 .nil))] ++ []))) ++ []) = _
  rw [List.drop_drop, drop_at, drop_at]
  rfl
theorem gAtts_eq (d : DataW H) : gSl 4 gAtt d = [.sl 4 (attsOf d).length (attF (attsOf d))] := by
  have h1 : (attsOf d).length = (kids d).length := by simp [attsOf]
  have h2 : (fun i => gAtt ((kids d).getD i .nil)) = attF (attsOf d) := by
    funext i
    unfold attF
    rw [gAtt_eq, attsOf_at]
    rfl
  show [D.sl 4 (kids d).length (fun i => gAtt ((kids d).getD i .nil))] = _
  rw [h1, h2]
theorem gFeat_eq (d : DataW H) : gFeat d = [.b (featOf d).hid, .i .u64 (featOf d).id, .i .i64 (featOf d).ty, .sl 1 (featOf d).pn (pthF (featOf d).pf), .sl 4 (featOf d).ats.length (attF (featOf d).ats)] := by
  show [D.b (boolOf ((kids d).getD 0 .nil))] ++ ([D.i .u64 (intOf (((kids d).drop 1).getD 0 .nil))] ++ ([D.i .i64 (intOf ((((kids d).drop 1).drop 1).getD 0 .nil))] ++
    (gSl 1 (gSl 2 gPt) (((((kids d).drop 1).drop 1).drop 1).getD 0 .nil) ++ (gSl 4 gAtt ((((((kids d).drop 1).drop 1).drop 1).drop 1).getD 0 .nil) ++ [])))) = _
  rw [List.drop_drop, List.drop_drop, List.drop_drop, drop_at, drop_at, drop_at, drop_at, gAtts_eq]
  rfl

theorem featsOf_at (d : DataW H) (i : Nat) : (featsOf d).getD i dF = featOf (kid d i) := map_getD featOf (kids d) .nil i
theorem laysOf_at (d : DataW H) (i : Nat) : (laysOf d).getD i dL = layOf (kid d i) := map_getD layOf (kids d) .nil i
theorem gFeats_eq (d : DataW H) : gSl 5 gFeat d = [.sl 5 (featsOf d).length (featF (featsOf d))] := by
  have h1 : (featsOf d).length = (kids d).length := by simp [featsOf]
  have h2 : (fun i => gFeat ((kids d).getD i .nil)) = featF (featsOf d) := by
    funext i
    unfold featF
    rw [gFeat_eq, featsOf_at]
    rfl
  show [D.sl 5 (kids d).length (fun i => gFeat ((kids d).getD i .nil))] = _
  rw [h1, h2]
theorem gLay_eq (d : DataW H) : gLay d = [.s (layOf d).1, .i .i64 (layOf d).2.1, .sl 5 (layOf d).2.2.length (featF (layOf d).2.2)] := by
  show [D.s (strOf ((kids d).getD 0 .nil))] ++ ([D.i .i64 (intOf (((kids d).drop 1).getD 0 .nil))] ++ (gSl 5 gFeat ((((kids d).drop 1).drop 1).getD 0 .nil) ++ [])) = _
  rw [List.drop_drop, drop_at, drop_at, gFeats_eq]
  rfl
theorem gLays_eq (d : DataW H) : gSl 3 gLay d = [.sl 3 (laysOf d).length (layF (laysOf d))] := by
  have h1 : (laysOf d).length = (kids d).length := by simp [laysOf]
  have h2 : (fun i => gLay ((kids d).getD i .nil)) = layF (laysOf d) := by
    funext i
    unfold layF
    rw [gLay_eq, laysOf_at]
    rfl
  show [D.sl 3 (kids d).length (fun i => gLay ((kids d).getD i .nil))] = _
  rw [h1, h2]

theorem smallA_of {d : DataW H} (h : Rows.uptoBulk d ≤ 1048576) : smallA (attsOf d) := by
  refine ⟨by have := bkl d; simp only [attsOf, List.length_map]; omega, fun i => ?_⟩
  rw [attsOf_at]
  have h1 := bk d i
  have h2 := bk (kid d i) 0
  have h3 := bk (kid d i) 1
  have h4 := bk (kid (kid d i) 1) 1
  have h5 := bulk_str (kid (kid d i) 0)
  have h6 := bulk_str (kid (kid (kid d i) 1) 1)
  exact ⟨by show (strOf (kid (kid d i) 0)).length ≤ _; omega, by show (strOf (kid (kid (kid d i) 1) 1)).length ≤ _; omega⟩

theorem smallFe_of {d : DataW H} (h : Rows.uptoBulk d ≤ 1048576) : smallFe (featOf d) := by
  have h1 := bk d 3
  have h2 := bk d 4
  have h3 := bkl (kid d 3)
  refine ⟨by show (kids (kid d 3)).length ≤ _; omega, fun k => ?_, smallA_of (by omega)⟩
  have h4 := bk (kid d 3) k
  have h5 := bkl (kid (kid d 3) k)
  show (kids (kid (kid d 3) k)).length ≤ _
  omega

theorem smallL_of {d : DataW H} (h : Rows.uptoBulk d ≤ 1048576) : smallL (laysOf d) := by
  refine ⟨by have := bkl d; simp only [laysOf, List.length_map]; omega, fun i => ?_⟩
  rw [laysOf_at]
  have h1 := bk d i
  have h2 := bk (kid d i) 0
  have h3 := bk (kid d i) 2
  have h4 := bulk_str (kid (kid d i) 0)
  have h5 := bkl (kid (kid d i) 2)
  refine ⟨by show (strOf (kid (kid d i) 0)).length ≤ _; omega, by show (featsOf (kid (kid d i) 2)).length ≤ _; simp only [featsOf, List.length_map]; omega, fun k => ?_⟩
  show smallFe ((featsOf (kid (kid d i) 2)).getD k dF)
  rw [featsOf_at]
  have h6 := bk (kid (kid d i) 2) k
  exact smallFe_of (by omega)

variable {enc : TypeId × Value → H} {W : World}
theorem tells_fld : Tells enc W 83 2 (gFld (H := H)) := tells_array Try.underlying83 (by kernel_rfl) (by kernel_rfl) rfl (tells_str Try.underlying9)
theorem tells_vec : Tells enc W 38 2 (gVec (H := H)) :=
  tells_struct Try.underlying38 rfl (by kernel_rfl) (.cons _ _ 0 1 2 _ _ rfl (by kernel_rfl) (tells_str Try.underlying9) (.cons _ _ 1 1 2 _ _ rfl (by kernel_rfl) (tells_slice Try.underlying35 (by kernel_rfl) (by omega) tells_fld) (.nil 2)))
theorem tells_pt : Tells enc W 142 2 (gPt (H := H)) :=
  tells_struct Try.underlying142 rfl (by kernel_rfl) (.cons _ _ 0 1 2 _ _ rfl (by kernel_rfl) (tells_int Try.underlying3) (.cons _ _ 1 1 2 _ _ rfl (by kernel_rfl) (tells_int Try.underlying3) (.nil 2)))
theorem tells_val : Tells enc W 94 3 (gVal (H := H)) :=
  tells_struct Try.underlying94 rfl (by kernel_rfl) (.cons _ _ 0 1 3 _ _ rfl (by kernel_rfl) (tells_int Try.underlying3) (.cons _ _ 1 1 3 _ _ rfl (by kernel_rfl) (tells_str Try.underlying9) (.cons _ _ 2 1 3 _ _ rfl (by kernel_rfl) (tells_int Try.underlying87) (.nil 3))))
theorem tells_att : Tells enc W 96 4 (gAtt (H := H)) :=
  tells_struct Try.underlying96 rfl (by kernel_rfl) (.cons _ _ 0 1 4 _ _ rfl (by kernel_rfl) (tells_str Try.underlying9) (.cons _ _ 1 3 4 _ _ rfl (by kernel_rfl) tells_val (.nil 4)))
theorem tells_feat : Tells enc W 91 5 (gFeat (H := H)) :=
  tells_struct Try.underlying91 rfl (by kernel_rfl) (.cons _ _ 0 1 5 _ _ rfl (by kernel_rfl) (tells_bool Try.underlying4) (.cons _ _ 1 1 5 _ _ rfl (by kernel_rfl) (tells_int Try.underlying87) (.cons _ _ 2 1 5 _ _ rfl (by kernel_rfl) (tells_int Try.underlying3)
    (.cons _ _ 3 1 5 _ _ rfl (by kernel_rfl) (tells_slice Try.underlying88 (by kernel_rfl) (by omega) (tells_slice Try.underlying120 (by kernel_rfl) (by omega) tells_pt)) (.cons _ _ 4 1 5 _ _ rfl (by kernel_rfl) (tells_slice Try.underlying89 (by kernel_rfl) (by omega) tells_att) (.nil 5))))))
theorem tells_lay : Tells enc W 86 3 (gLay (H := H)) :=
  tells_struct Try.underlying86 rfl (by kernel_rfl) (.cons _ _ 0 1 3 _ _ rfl (by kernel_rfl) (tells_str Try.underlying9) (.cons _ _ 1 1 3 _ _ rfl (by kernel_rfl) (tells_int Try.underlying3) (.cons _ _ 2 1 3 _ _ rfl (by kernel_rfl) (tells_slice Try.underlying84 (by kernel_rfl) (by omega) tells_feat) (.nil 3))))
theorem tells_info : Tells enc W 24 2 (fun d : DataW H => catG [gSl 2 gVec, gS] (kids d)) :=
  tells_struct Try.underlying24 rfl (by kernel_rfl) (.cons _ _ 0 1 2 _ _ rfl (by kernel_rfl) (tells_slice Try.underlying22 (by kernel_rfl) (by omega) tells_vec) (.cons _ _ 1 1 2 _ _ rfl (by kernel_rfl) (tells_str Try.underlying9) (.nil 2)))
theorem gInfo_eq (d : DataW H) : catG [gSl 2 gVec, gS] (kids d) = [.sl 2 (vecsOf (kid d 0)).length (vecF (vecsOf (kid d 0))), .s (strOf (kid d 1))] := by
  show gSl 2 gVec ((kids d).getD 0 .nil) ++ ([D.s (strOf (((kids d).drop 1).getD 0 .nil))] ++ []) = _
  rw [drop_at, gVecs_eq]
  rfl

end
end Go.Proofs.Ytejpliaomhpakaa.Flow
