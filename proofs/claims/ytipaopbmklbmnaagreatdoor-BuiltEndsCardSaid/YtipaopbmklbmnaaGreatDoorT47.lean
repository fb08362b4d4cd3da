/- Lemmas. -/
import Derived.Test.YtipaopbmklbmnaaGreatDoorT40
import Derived.Test.YtipaopbmklbmnaaGreatDoorT45
import Derived.Test.YtipaopbmklbmnaaGreatDoorT46
set_option linter.all false
set_option maxRecDepth 100000
set_option maxHeartbeats 0
namespace Go.Proofs.YtipaopbmklbmnaaGreatDoor
section
open Tryz
open Go.RowKit Go.Shelf
attribute [local go_sem] zAE Oper.grows Oper.growUpon
def Sorted (w:World) (base g cap:Nat) (rs:List Report) (r:Report) (e:Ending) (w':World) : Prop :=
 (∃ v,e = .returned v)/\w'.ownsRow base 49 5 (.slice (some ⟨g,0,none⟩) (rs.length+1) cap) (rs.length+1) (zDJ (insS rs r))/\w.grownBy w' (some g)
theorem stableCmp (w:World) (base g cap:Nat) (rs:List Report) (r:Report) (hn:rs.length<=16) (hown:w.ownsRow base 49 5 (.slice (some ⟨g,0,none⟩) (rs.length+1) cap) (rs.length+1) (zDJ (rs++[r]))) (hrise:Rise rs) :
  Calls prog 139 #[.slice (some ⟨g,0,none⟩) (rs.length+1) cap,.int .i64 ((rs.length:Int)+1),.func (.func 100) #[] #[]] w
   (Sorted w base g cap rs r):=by
 have HC:=zE (insertionSort w base g cap rs r (by omega) hown hrise);clear hown hrise;have hl1:¬ (20<=(rs.length:Int)+1):=by omega
 have hl2:¬ (20 < (rs.length:Int)+1):=by omega
 go_enter func139,ntmps139;go_wp2;go_loopw [7,8] (fun a i wr=>a = .int .i64 0/\i = .int .i64 20/\wr=w) (fun _ _ _=>0)
 case atStart=>exact ⟨rfl,rfl,rfl⟩
 case round =>
  obtain ⟨rfl,rfl,rfl⟩:=hrel;go_wp2_with (go_at_call 172;refine HC.out.mono ?_;rintro e w1 ⟨⟨v,rfl⟩,hown,hg⟩);go_loopw [6,7,8] (fun b a i wr=>b = .int .i64 20/\wr=w1) (fun _ _ _ _=>0)
  case atStart=>exact ⟨rfl,rfl⟩
  case round =>obtain ⟨rfl,rfl⟩:=hrel;go_wp2;exact bodyPost_end (v:=.tuple #[]) (by simp [results,results139,go_sem]) rfl ⟨⟨_,rfl⟩,hown,hg⟩
theorem sortStable (w:World) (base g cap:Nat) (rs:List Report) (r:Report) (hn:rs.length<=16) (hown:w.ownsRow base 49 5 (.slice (some ⟨g,0,none⟩) (rs.length+1) cap) (rs.length+1) (zDJ (rs++[r]))) (hrise:Rise rs) :
  Calls prog 99 #[.slice (some ⟨g,0,none⟩) (rs.length+1) cap,.func (.func 100) #[] #[]] w
   (Sorted w base g cap rs r):=by
 have HC:=zE (stableCmp w base g cap rs r (by omega) hown hrise);clear hown hrise;go_enter func99,ntmps99;go_wp2_with (go_at_call 139;refine HC.out.mono ?_;rintro e w1 ⟨⟨v,rfl⟩,hown,hg⟩);exact bodyPost_end (v:=.tuple #[]) (by simp [results,results99,go_sem]) rfl ⟨⟨_,rfl⟩,hown,hg⟩
end
section
open Tryz
open Go.RowKit
theorem zFA {w w':World} {base base':Nat} {e:TypeId} {sz n:Nat} {v:Value} {cs:List Value} (h:zBZ base' e w w') (hbb:base'<=base) (hown:w.ownsRow base e sz v n cs) : w'.ownsRow base e sz v n cs:=by
 obtain ⟨hl,hown⟩:=hown;refine ⟨hl,?_⟩;rcases hown with h0 | ⟨g,cap,cur,hv,hg,hc,h3⟩
 ·exact .inl h0
 ·exact .inr ⟨g,cap,cur,hv,hg,h g cur (Nat.le_trans hbb hg) hc,h3⟩
theorem New.same {α:Type} {E:World->Nat->Nat->α->Prop} (hE:Local E) {sz:Nat} {e:TypeId} {base:Nat} {w w':World} {v:Value} {xs:List α} (hs:zBZ base e w w') (h:New E sz e base w v xs) : New E sz e base w' v xs:=by
 obtain ⟨cs,hc⟩:=h.2;exact ⟨zLL (zCH hE hs h.fr),cs,zFA hs (Nat.le_refl _) hc⟩
theorem New.cap {α:Type} {E:World->Nat->Nat->α->Prop} {sz:Nat} {e:TypeId} {base:Nat} {w:World} {v:Value} {xs:List α} (h:New E sz e base w v xs) : ∃ a c,v = .slice a xs.length c/\xs.length<=c:=by
 obtain ⟨_,cs,_,h⟩:=h;rcases h with ⟨rfl,h0⟩ | ⟨g,cap,cur,rfl,_,_,hn,_⟩
 ·exact ⟨none,0,by rw [h0],by omega⟩
 ·exact ⟨_,_,rfl,hn⟩
theorem own_cap {w:World} {base n:Nat} {e:TypeId} {sz:Nat} {v:Value} {cs:List Value} (h:w.ownsRow base e sz v n cs) : ∃ a c,v = .slice a n c/\n<=c:=by
 obtain ⟨_,h⟩:=h;rcases h with ⟨rfl,h0⟩ | ⟨g,cap,cur,rfl,_,_,hn,_⟩
 ·exact ⟨none,0,by rw [h0],by omega⟩
 ·exact ⟨_,_,rfl,hn⟩
theorem own_weak {w:World} {base base' n:Nat} {e:TypeId} {sz:Nat} {v:Value} {cs:List Value} (hb:base'<=base) (h:w.ownsRow base e sz v n cs) : w.ownsRow base' e sz v n cs:=by
 obtain ⟨hl,h⟩:=h;refine ⟨hl,?_⟩;rcases h with h0 | ⟨g,cap,cur,hv,hg,h3⟩
 ·exact .inl h0
 ·exact .inr ⟨g,cap,cur,hv,Nat.le_trans hb hg,h3⟩
theorem Lay.set {W:World} {B:Nat} {cs:Array Value} {t:TypeId} (h:Lay W B cs t) (j:Nat) (u:Value) : Lay (W.setCell ⟨B,j,none⟩ u) B (cs.setIfInBounds j u) t:=by
 unfold Lay at *;exact heap_setCell_same W B j cs t u h
theorem Lay.same {W W':World} {base B:Nat} {cs:Array Value} {t:TypeId} (h:Lay W B cs t) (hs:zBZ base t W W') (hb:base<=B) : Lay W' B cs t:=hs B cs hb h
theorem zDT {w w':World} {base g:Nat} {cs:Array Value} {t e:TypeId} (h:w.grownBy w' (some g)) (hl:Lay w g cs t) (hne:e≠t) : zBZ base e w w':=fun k cur _ hc=>by
 refine (h.block k (Array.getElem?_eq_some_iff.1 hc).1 (fun hh=>?_)).trans hc;cases hh;unfold Lay at hl;rw [hl] at hc;cases hc;exact hne rfl
theorem lay_set6 {W:World} {B:Nat} {x0 x1 x2 x3 x4 x5:Value} {t:TypeId} (h:Lay W B #[x0,x1,x2,x3,x4,x5] t) (u0 u1 u2 u3 u4 u5:Value) :
  Lay ((((((W.setCell ⟨B,0,none⟩ u0).setCell ⟨B,1,none⟩ u1).setCell ⟨B,2,none⟩ u2).setCell ⟨B,3,none⟩ u3).setCell ⟨B,4,none⟩ u4).setCell ⟨B,5,none⟩ u5) B #[u0,u1,u2,u3,u4,u5] t /\
  W.grownBy ((((((W.setCell ⟨B,0,none⟩ u0).setCell ⟨B,1,none⟩ u1).setCell ⟨B,2,none⟩ u2).setCell ⟨B,3,none⟩ u3).setCell ⟨B,4,none⟩ u4).setCell ⟨B,5,none⟩ u5) (some B) :=
 ⟨(((((h.set 0 u0).set 1 u1).set 2 u2).set 3 u3).set 4 u4).set 5 u5,zAG (zAG (zAG (zAG (zAG (zEK _ _ _ _) (zEK _ _ _ _)) (zEK _ _ _ _)) (zEK _ _ _ _)) (zEK _ _ _ _)) (zEK _ _ _ _)⟩
theorem lay_set2 {W:World} {B:Nat} {x0 x1 x2 x3 x4 x5:Value} {t:TypeId} (h:Lay W B #[x0,x1,x2,x3,x4,x5] t) (u0 u1:Value) :
  Lay ((W.setCell ⟨B,0,none⟩ u0).setCell ⟨B,1,none⟩ u1) B #[u0,u1,x2,x3,x4,x5] t/\W.grownBy ((W.setCell ⟨B,0,none⟩ u0).setCell ⟨B,1,none⟩ u1) (some B) :=
 ⟨(h.set 0 u0).set 1 u1,zAG (zEK _ _ _ _) (zEK _ _ _ _)⟩
theorem zBZ.mono {base base':Nat} {e:TypeId} {w w':World} (h:zBZ base e w w') (hb:base<=base') : zBZ base' e w w':=fun k cur hk hc=>h k cur (Nat.le_trans hb hk) hc
structure AddMid (zb g4 g7:Nat) (w:World) (vr vn vm vh vs:Value) (b:Built) (L:List Report) : Prop where
 notes:New zBL 10 74 zb w vn b.ns.notes
 ms:New zAM 1 3 zb w vm b.ms
 hs:New zDO 4 42 zb w vh b.hs
 rs:w.ownsRow zb 49 5 vs L.length (zDJ L)
 box:Lay w g7 #[vr,vn,.int .i64 b.of,vm,vh,vs] 32
 res:Lay w g4 #[.slice none 0 0,.slice none 0 0,.int .i64 0,.slice none 0 0,.slice none 0 0,.slice none 0 0] 32
theorem AddMid.same {zb g4 g7:Nat} {w w':World} {vr vn vm vh vs:Value} {b:Built} {L:List Report} (h:AddMid zb g4 g7 w vr vn vm vh vs b L) (hs:∀ e,e≠118->zBZ 0 e w w') : AddMid zb g4 g7 w' vr vn vm vh vs b L :=
 ⟨h.notes.same zGM ((hs _ (by decide)).mono (Nat.zero_le _)),h.ms.same zFP ((hs _ (by decide)).mono (Nat.zero_le _)),h.hs.same zEF ((hs _ (by decide)).mono (Nat.zero_le _)),zFA (hs _ (by decide)) (Nat.zero_le _) h.rs,h.box.same (hs _ (by decide)) (Nat.zero_le _),h.res.same (hs _ (by decide)) (Nat.zero_le _)⟩
theorem AddMid.ext {zb g4 g7:Nat} {w w':World} {vr vn vm vh vs:Value} {b:Built} {L:List Report} (h:AddMid zb g4 g7 w vr vn vm vh vs b L) (hb:Below w.heap.size w w') : AddMid zb g4 g7 w' vr vn vm vh vs b L:=h.same fun _ _=>same_below hb
theorem zIQ {w:World} {base:Nat} {e:TypeId} {sz n:Nat} {v:Value} {cs:List Value} (h:w.ownsRow base e sz v n cs) (hn:0 < n) : ∃ g cap,v = .slice (some ⟨g,0,none⟩) n cap/\base<=g:=by
 rcases h.2 with ⟨_,h0⟩ | ⟨g,cap,_,rfl,hg,_⟩
 ·omega
 ·exact ⟨g,cap,rfl,hg⟩
theorem AddMid.put {zb g4 g7:Nat} {w w':World} {vr vn vm vh vs vs':Value} {b:Built} {L L':List Report} (h:AddMid zb g4 g7 w vr vn vm vh vs b L) (hs:∀ e,e≠49->zBZ 0 e w w') (hv:vs'=vs) (hr:w'.ownsRow zb 49 5 vs L'.length (zDJ L')) : AddMid zb g4 g7 w' vr vn vm vh vs' b L':=by
 subst hv;exact ⟨h.notes.same zGM ((hs _ (by decide)).mono (Nat.zero_le _)),h.ms.same zFP ((hs _ (by decide)).mono (Nat.zero_le _)),h.hs.same zEF ((hs _ (by decide)).mono (Nat.zero_le _)),hr,h.box.same (hs _ (by decide)) (Nat.zero_le _),h.res.same (hs _ (by decide)) (Nat.zero_le _)⟩
theorem AddMid.built {zb g4 g7:Nat} {w:World} {vr vn vm vh vs:Value} {b:Built} {L:List Report} {cs:List Value} (h:AddMid zb g4 g7 w vr vn vm vh vs b L) (hrow:IssRow zb w cs b.ns.reg) (hown:w.ownsRow zb 118 5 vr b.ns.reg.length cs) (hof:I64 b.of) (hnum:∀ x∈L,RNum x) :
  BuiltN zb w vr vn vm vh vs { b with rs:=L }:=⟨issRow_sl hrow hown,h.notes.fr,h.ms.fr,h.hs.fr,(flat_sl h.rs hnum).fr,hof⟩
theorem AddMid.arg {zb g4 g7:Nat} {w:World} {vr vn vm vh vs:Value} {b:Built} {L:List Report} {cs:List Value} (h:AddMid zb g4 g7 w vr vn vm vh vs b L) (hown:w.ownsRow zb 118 5 vr b.ns.reg.length cs) (hb:BuiltN zb w vr vn vm vh vs { b with rs:=L }) (h1:Looks w) (h2:zHN w) :
  BuiltArg w vr vn vm vh vs { b with rs:=L }:=⟨⟨⟨hb.at.reg,own_cap hown,h1⟩,hb.at.notes,h.notes.cap⟩,hb.at,h.hs.cap,h2⟩
theorem code_zero {b:Built} (h:zF b=0) : zP b.ns.reg b.ns.notes=0/\zCA b:=by
 unfold zF at h;by_cases h1:zP b.ns.reg b.ns.notes=0
 ·refine ⟨h1,?_⟩
  rw [if_neg (by simp [h1])] at h;by_cases h2:zCA b
  ·exact h2
  ·rw [if_neg h2] at h;cases h
 ·rw [if_pos h1] at h;exact absurd h h1
theorem code_ok {b:Built} (h:zP b.ns.reg b.ns.notes=0) (h2:zCA b) : zF b=0:=by unfold zF;rw [if_neg (by simp [h]),if_pos h2]
theorem code_no {b:Built} (h:zP b.ns.reg b.ns.notes=0) (h2:¬ zCA b) : zF b=80:=by unfold zF;rw [if_neg (by simp [h]),if_neg h2]
theorem zPR {w:World} {base g n cap:Nat} {e:TypeId} {sz:Nat} {cs:List Value} (h:w.ownsRow base e sz (.slice (some ⟨g,0,none⟩) n cap) n cs) (j:Nat) : w.frozen? ⟨g,j,none⟩=false:=by
 rcases h.2 with ⟨h,_⟩ | ⟨g',cap',cur,hv,_,hc,_⟩
 ·cases h
 ·cases hv;unfold World.frozen?;rw [hc];simp
theorem zEJ {w w':World} {base base' g n cap:Nat} {e e':TypeId} {sz:Nat} {cs:List Value} (h:w.grownBy w' (some g)) (hown:w.ownsRow base' e' sz (.slice (some ⟨g,0,none⟩) n cap) n cs) (hne:e≠e') : zBZ base e w w' :=
 same_grown (v:=.slice (some ⟨g,0,none⟩) n cap) h hown hne
end
end Go.Proofs.YtipaopbmklbmnaaGreatDoor
