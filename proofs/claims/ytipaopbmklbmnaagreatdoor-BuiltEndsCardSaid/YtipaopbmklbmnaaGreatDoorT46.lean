/- Lemmas. -/
import Derived.Test.YtipaopbmklbmnaaGreatDoorT13
set_option linter.all false
set_option maxRecDepth 100000
set_option maxHeartbeats 0
namespace Go.Proofs.YtipaopbmklbmnaaGreatDoor
section
open Tryz
open Go.RowKit Go.Shelf
attribute [local go_sem] zAE Oper.grows Oper.growUpon Oper.wild Oper.wildUpon
theorem enter_cmp:Enters prog 100:=enters_of func100 (by kernel_rfl) rfl
theorem cmp_add (w:World) (p q:Report) :
  Calls prog 100 #[.agg #[.int .i64 p.num,.int .i64 p.m,.int .i64 p.d,.int .i64 p.l,.int .u8 p.k],.agg #[.int .i64 q.num,.int .i64 q.m,.int .i64 q.d,.int .i64 q.l,.int .u8 q.k]] w
   fun e w'=>e = .returned (.int .i64 (zLD p.num q.num))/\Below w.heap.size w w':=by
 have hb:=zA (zB w (.cells #[.int .i64 p.num,.int .i64 p.m,.int .i64 p.d,.int .i64 p.l,.int .u8 p.k] 49)) (zB _ (.cells #[.int .i64 q.num,.int .i64 q.m,.int .i64 q.d,.int .i64 q.l,.int .u8 q.k] 49));go_enter func100,ntmps100;go_wp2_with (go_at_call 101;refine (zER _ _ _).mono ?_;rintro e w' ⟨rfl,rfl⟩);go_ret;exact ⟨rfl,hb⟩
def Mid (rs:List Report) (r:Report) (j:Nat) : List Report:=rs.take j++r :: rs.drop j
theorem zKX (rs:List Report) (r:Report) (j:Nat) (h:j<=rs.length) : (Mid rs r j).length=rs.length+1:=by
 unfold Mid;rw [List.length_append,List.length_cons,List.length_take,List.length_drop];omega
theorem mids_at (rs:List Report) (r:Report) (j:Nat) (h:j<=rs.length) : (Mid rs r j)[j]'(by rw [zKX rs r j h];omega)=r:=by
 unfold Mid;have hl:(rs.take j).length=j:=by rw [List.length_take];omega
 rw [List.getElem_append_right (by omega)];simp [hl]
theorem mids_before (rs:List Report) (r:Report) (j:Nat) (h0:0 < j) (h:j<=rs.length) : (Mid rs r j)[j - 1]'(by rw [zKX rs r j h];omega)=rs[j - 1]'(by omega):=by
 unfold Mid;have hl:(rs.take j).length=j:=by rw [List.length_take];omega
 rw [List.getElem_append_left (by omega)];simp
theorem mids_end (rs:List Report) (r:Report) : Mid rs r rs.length=rs++[r]:=by unfold Mid;simp
theorem snoc_at (rs:List Report) (r:Report) (i:Nat) (h:i < rs.length) : (rs++[r])[i]'(by simp;omega)=rs[i]:=List.getElem_append_left h
def zJB (w:World) (base g cap:Nat) (e:TypeId) (rs:List Report) (r:Report) (j:Nat) : Prop:=w.ownsRow base e 5 (.slice (some ⟨g,0,none⟩) (rs.length+1) cap) (rs.length+1) (zDJ (Mid rs r j))
theorem zJB.ext {w w':World} {base g cap:Nat} {e:TypeId} {rs:List Report} {r:Report} {j:Nat} (h:zJB w base g cap e rs r j) (hb:Below w.heap.size w w') : zJB w' base g cap e rs r j:=zAC hb h
theorem zJB.rep {w:World} {base g cap:Nat} {e:TypeId} {rs:List Report} {r:Report} {j:Nat} (h:zJB w base g cap e rs r j) (k:Nat) (x:Report) (hj:j<=rs.length) (hx:(Mid rs r j)[k]? = some x) :
  zK w g (k*5) (.int .i64 x.num)/\zK w g (k*5+1) (.int .i64 x.m)/\zK w g (k*5+2) (.int .i64 x.d)/\zK w g (k*5+3) (.int .i64 x.l)/\zK w g (k*5+4) (.int .u8 x.k):=by
 obtain ⟨hk,e⟩:=List.getElem?_eq_some_iff.1 hx;have:=cells_rep h k hk;rwa [e] at this
theorem zJB.free {w:World} {base g cap:Nat} {e:TypeId} {rs:List Report} {r:Report} {j:Nat} (h:zJB w base g cap e rs r j) (k:Nat) : w.frozen? ⟨g,k,none⟩=false:=h.frozenAt k
theorem mids_at? (rs:List Report) (r:Report) (j:Nat) (h:j<=rs.length) : (Mid rs r j)[j]? = some r:=by rw [List.getElem?_eq_getElem (by rw [zKX rs r j h];omega),mids_at rs r j h]
theorem zPU (rs:List Report) (r:Report) (j:Nat) (h0:0 < j) (h:j<=rs.length) : (Mid rs r j)[j - 1]? = some (rs[j - 1]'(by omega)):=by rw [List.getElem?_eq_getElem (by rw [zKX rs r j h];omega),mids_before rs r j h0 h]
theorem snoc_at? (rs:List Report) (r:Report) (i:Nat) (h:i < rs.length) : (rs++[r])[i]? = some rs[i]:=by rw [List.getElem?_eq_getElem (by simp;omega),snoc_at rs r i h]
theorem zIN {w:World} {g k:Nat} {x:Report} (xq:Later) (h:zK w g (k*5) (.int .i64 x.num)/\zK w g (k*5+1) (.int .i64 x.m)/\zK w g (k*5+2) (.int .i64 x.d)/\zK w g (k*5+3) (.int .i64 x.l)/\zK w g (k*5+4) (.int .u8 x.k)) :
  (w.later xq).cell? ⟨g,k*5,none⟩=some (.int .i64 x.num)/\(w.later xq).cell? ⟨g,k*5+1,none⟩=some (.int .i64 x.m)/\(w.later xq).cell? ⟨g,k*5+2,none⟩=some (.int .i64 x.d)/\(w.later xq).cell? ⟨g,k*5+3,none⟩=some (.int .i64 x.l)/\(w.later xq).cell? ⟨g,k*5+4,none⟩=some (.int .u8 x.k) :=
 ⟨zH h.1 xq,zH h.2.1 xq,zH h.2.2.1 xq,zH h.2.2.2.1 xq,zH h.2.2.2.2 xq⟩
theorem lt_of_cmp {a b:Int} : decide (zLD a b < 0)=decide (a < b):=by
 by_cases h:a < b
 ·rw [cmpI_neg h];simp [h]
 ·have:=cmpI_not h;simp [h];omega
theorem insertionSort (w:World) (base g cap:Nat) (rs:List Report) (r:Report) (hn:rs.length<=100) (hown:w.ownsRow base 49 5 (.slice (some ⟨g,0,none⟩) (rs.length+1) cap) (rs.length+1) (zDJ (rs++[r]))) (hrise:Rise rs) :
  Calls prog 172 #[.slice (some ⟨g,0,none⟩) (rs.length+1) cap,.int .i64 0,.int .i64 ((rs.length:Int)+1),.func (.func 100) #[] #[]] w
   fun e w'=>(∃ v,e = .returned v)/\w'.ownsRow base 49 5 (.slice (some ⟨g,0,none⟩) (rs.length+1) cap) (rs.length+1) (zDJ (insS rs r))/\w.grownBy w' (some g):=by
 have HR:=zE hrise;have eg:=enter_cmp;unfold Enters at eg;clear hrise;have hown:zJB w base g cap 49 rs r rs.length:=by unfold zJB;rw [mids_end];exact hown
 go_enter func172,ntmps172;go_wp2;go_loopw [8] (fun i wr=>∃ (k:Nat),i = .int .i64 k/\1<=k/\k<=rs.length+1/\w.grownBy wr (some g)/\Hid ((k<=rs.length->zJB wr base g cap 49 rs r rs.length)/\(k=rs.length+1->wr.ownsRow base 49 5 (.slice (some ⟨g,0,none⟩) (rs.length+1) cap) (rs.length+1) (zDJ (insS rs r))))) (fun i _=>rs.length+1 - (intOf i).toNat)
 case atStart =>
  refine ⟨1,rfl,by omega,by omega,zBH w w _ rfl rfl rfl rfl,zE ⟨fun _=>hown,fun h=>?_⟩⟩;have h0:rs.length=0:=by omega
  rw [insS_at rs r 0 (by omega) (fun j hj=>absurd hj (by omega)) (fun h=>absurd h (by omega))];have:=hown;unfold zJB at this;rw [h0] at this;unfold Mid at this;rw [h0];exact this
 case round =>
  obtain ⟨k,rfl,hk1,hk,hg,HL⟩:=hrel;clear hown;by_cases hkn:k<=rs.length
  ·have hm:=HL.out.1 hkn
   clear HL;by_cases hkl:k < rs.length
   ·go_wp2
    go_loopw [9] (fun j wi=>j = .int .i64 k/\w.grownBy wi (some g)/\zJB wi base g cap 49 rs r rs.length) (fun j _=>0)
    case atStart=>exact ⟨rfl,hg,hm⟩
    case round =>
     obtain ⟨rfl,hg,hm⟩:=hrel;have D:=zE (hm.rep k rs[k] (Nat.le_refl _) (by rw [mids_end];exact snoc_at? rs r k hkl));have D2:=zE (hm.rep (k - 1) (rs[k - 1]'(by omega)) (Nat.le_refl _) (by rw [mids_end];exact snoc_at? rs r (k - 1) (by omega)));have hlt:¬ rs[k].num < (rs[k - 1]'(by omega)).num:=by
      have:=HR.out (k - 1) (by omega);have e:rs[k - 1+1]'(by omega)=rs[k]:=by congr 1;omega
      rw [e] at this;omega
     generalize rs[k]=x at *;generalize rs[k - 1]'(by omega)=y at *;have cD:=fun xq=>zIN xq D.out
     have cD2:=fun xq=>zIN xq D2.out
     have hk0:0 < k:=by omega
     have hkp:((k - 1:Nat) : Int) < (rs.length:Int)+1:=by omega
     have hz:IntKind.i64.wrap ((k:Int) - 1)=((k - 1:Nat) : Int):=by rw [IntWalk.i64_in _ (by omega)];omega
     go_wp2_with fail;refine zM 17 (by kernel_rfl) (by kernel_rfl) ?_;simp only [tk_];iterate 14 (apply gx_;focus (intro vs xq hd;(try simp [hq_] at hd);simp only [pf_];go_simp;first | exact ⟨br_,rfl⟩ | exact rfl))
     apply gx_;focus (intro vs xq hd;(try simp [hq_] at hd);simp only [pf_];go_simp;first | exact ⟨br_,rfl⟩ | exact rfl | (refine (cmp_add _ x y).mono ?_;rintro e w9 ⟨rfl,hb9⟩;exact ⟨rfl,hb9⟩))
     iterate 2 (apply gx_;focus (intro vs xq hd;(try simp [hq_] at hd);simp only [pf_];go_simp;first | exact ⟨br_,rfl⟩ | exact rfl))
     refine zQ rfl (fun vs xq hd=>?_);simp [zW,zAI,List.range,List.range.loop] at hd;simp only [pf_];try simp only [lt_of_cmp] at hd
     obtain ⟨_,_,_,_,_,_,_,_,_,_,_,_,_,_,_,_,h16⟩:=hd;rw [show decide (x.num < y.num)=false by simpa using hlt] at h16;generalize vs 0=u0 at *;generalize vs 1=u1 at *;generalize vs 2=u2 at *;generalize vs 3=u3 at *;generalize vs 4=u4 at *;generalize vs 5=u5 at *;generalize vs 6=u6 at *;generalize vs 7=u7 at *;generalize vs 8=u8 at *;generalize vs 9=u9 at *;generalize vs 10=u10 at *;generalize vs 11=u11 at *;generalize vs 12=u12 at *;generalize vs 13=u13 at *;generalize vs 14=u14 at *;generalize vs 15=u15 at *;generalize vs 16=u16 at *;subst h16;clear cD cD2;have hg2:=zCG (zG wr xq) hg;have hm2:=hm.ext (zG wr xq);generalize wr.later xq=wq at *;go_wp2;go_roundw
     case rel =>exact ⟨k+1,by go_num,by omega,by omega,hg2,zE ⟨fun _=>hm2,fun h=>absurd h (by omega)⟩⟩
     case measure=>simp [intOf];omega
   ·have hkk:k=rs.length:=by omega
    go_wp2;go_loopw [9] (fun j wi=>∃ m:Nat,j = .int .i64 m/\m<=rs.length/\w.grownBy wi (some g)/\zJB wi base g cap 49 rs r m/\Hid (∀ q,m<=q->(hq:q < rs.length)->¬ rs[q].num<=r.num)) (fun j _=>(intOf j).toNat)
    case atStart=>exact ⟨rs.length,by rw [hkk],Nat.le_refl _,hg,hm,fun q h1 h2=>absurd h1 (by omega)⟩
    case round =>
     clear hg hm;obtain ⟨m,rfl,hml,hg,hm,HA⟩:=hrel;have HO:Hid ((∀ q,q < m->(hq:q < rs.length)->rs[q].num<=r.num)->insS rs r=Mid rs r m):=fun h=>insS_at rs r m hml h (fun h1=>HA.out m (Nat.le_refl _) h1)
     by_cases h0:0 < m
     ·have D:=zE (hm.rep m r hml (mids_at? rs r m hml))
      have D2:=zE (hm.rep (m - 1) (rs[m - 1]'(by omega)) hml (zPU rs r m h0 hml));have HS:=zE (swap_down rs r m h0 hml);have HY:Hid (∀ q,(hq:q < rs.length)->q < m->rs[q].num<=(rs[m - 1]'(by omega)).num):=fun q hq hqm=>by
       have:=rise_le HR.out (m - 1 - q) q (by omega);have e:rs[q+(m - 1 - q)]'(by omega)=rs[m - 1]'(by omega):=by congr 1;omega
       rwa [e] at this
      have HA2:Hid (r.num < (rs[m - 1]'(by omega)).num->∀ q,m - 1<=q->(hq:q < rs.length)->¬ rs[q].num<=r.num):=fun hlt q hq hql=>by
       by_cases e:q=m - 1
       ·subst e;omega
       ·exact HA.out q (by omega) hql
      generalize hy:rs[m - 1]'(by omega)=y at *;have HYY:=zE hy;clear hy HA;obtain ⟨x,hx⟩ : ∃ x,x=r:=⟨r,rfl⟩;have hx2:=zE hx;rw [<- hx] at D;clear hx;have cD:=fun xq=>zIN xq D.out
      have cD2:=fun xq=>zIN xq D2.out
      have hml':(m:Int) < (rs.length:Int)+1:=by omega
      have hkp:((m - 1:Nat) : Int) < (rs.length:Int)+1:=by omega
      have hz:IntKind.i64.wrap ((m:Int) - 1)=((m - 1:Nat) : Int):=by rw [IntWalk.i64_in _ (by omega)];omega
      go_wp2_with fail;refine zM 17 (by kernel_rfl) (by kernel_rfl) ?_;simp only [tk_];iterate 14 (apply gx_;focus (intro vs xq hd;(try simp [hq_] at hd);simp only [pf_];go_simp;first | exact ⟨br_,rfl⟩ | exact rfl))
      apply gx_;focus (intro vs xq hd;(try simp [hq_] at hd);simp only [pf_];go_simp;first | exact ⟨br_,rfl⟩ | exact rfl | (refine (cmp_add _ x y).mono ?_;rintro e w9 ⟨rfl,hb9⟩;exact ⟨rfl,hb9⟩))
      iterate 2 (apply gx_;focus (intro vs xq hd;(try simp [hq_] at hd);simp only [pf_];go_simp;first | exact ⟨br_,rfl⟩ | exact rfl))
      refine zQ rfl (fun vs xq hd=>?_);simp [zW,zAI,List.range,List.range.loop] at hd;simp only [pf_];try simp only [lt_of_cmp] at hd
      obtain ⟨_,_,_,_,_,_,_,_,_,_,_,_,_,_,_,_,h16⟩:=hd;have hg2:=zCG (zG wr xq) hg;have hm2:=hm.ext (zG wr xq);clear cD cD2 hg hm;by_cases hlt:x.num < y.num
      ·rw [show decide (x.num < y.num)=true by simpa using hlt] at h16
       generalize vs 0=u0 at *;generalize vs 1=u1 at *;generalize vs 2=u2 at *;generalize vs 3=u3 at *;generalize vs 4=u4 at *;generalize vs 5=u5 at *;generalize vs 6=u6 at *;generalize vs 7=u7 at *;generalize vs 8=u8 at *;generalize vs 9=u9 at *;generalize vs 10=u10 at *;generalize vs 11=u11 at *;generalize vs 12=u12 at *;generalize vs 13=u13 at *;generalize vs 14=u14 at *;generalize vs 15=u15 at *;generalize vs 16=u16 at *;subst h16;have F2:=zE (fun (c:World) (h:zJB c base g cap 49 rs r m)=>zJB.rep h m x hml (by rw [hx2.out];exact mids_at? rs r m hml));have F1:=zE (fun (c:World) (h:zJB c base g cap 49 rs r m)=>zJB.rep h (m - 1) y hml (by rw [<- HYY.out];exact zPU rs r m h0 hml));clear D D2;generalize wr.later xq=wq at *;go_wp2_with fail;refine zBU 16 15 [] (fun a c=>a.grownBy c (some g)) (fun c=>wq.grownBy c (some g)) (fun _ _ hb h=>zCG hb h) (zBH _ _ _ rfl rfl rfl rfl)
        (fun c=>zJB c base g cap 49 rs r m) (fun _ _ hb h=>h.ext hb) (hm2.ext ⟨rfl,rfl,rfl,Nat.le_refl _,fun _ _=>rfl⟩) (by kernel_rfl) (by kernel_rfl) ?_
       simp only [tk_];apply gw_ (by rfl)
       ·intro vs w2 hw hd
        (try simp [hq_] at hd)
        simp only [pf_];go_simp;exact ⟨br_,rfl⟩
       apply gw_ (by rfl)
       ·intro vs w2 hw hd
        (try simp [hq_] at hd)
        simp only [pf_];go_simp;exact ⟨br_,rfl⟩
       apply gw_ (by rfl)
       ·intro vs w2 hw hd
        (try simp [hq_] at hd)
        simp only [pf_];go_simp;exact ⟨br_,rfl⟩
       apply gw_ (by rfl)
       ·intro vs w2 hw hd
        (try simp [hq_] at hd)
        simp only [pf_];go_simp;exact ⟨br_,rfl⟩
       apply gw_ (by rfl)
       ·intro vs w2 hw hd
        (try simp [hq_] at hd)
        simp only [pf_];go_simp;exact ⟨br_,rfl⟩
       apply gw_ (by rfl)
       ·intro vs w2 hw hd
        (try simp [hq_] at hd)
        simp only [pf_];go_simp;exact ⟨br_,rfl⟩
       apply gw_ (by rfl)
       ·intro vs w2 hw hd
        (try simp [hq_] at hd)
        simp only [pf_];go_simp;exact ⟨br_,rfl⟩
       apply gw_ (by rfl)
       ·intro vs w2 hw hd
        (try simp [hq_] at hd)
        simp only [pf_];go_simp;exact ⟨br_,rfl⟩
       apply gw_ (by rfl)
       ·intro vs w2 hw hd
        (try simp [hq_] at hd)
        simp only [pf_];go_simp;exact ⟨br_,rfl⟩
       refine zEC (by rfl) (by kernel_rfl) ?_;apply Exists.intro;refine ⟨fun vs w2 hw hi hd=>?_,?_⟩
       ·(try simp [hq_] at hd)
        have hi:=F1.out w2 hi;have k0:=hi.1;have k1:=hi.2.1;have k2:=hi.2.2.1;have k3:=hi.2.2.2.1;have k4:=hi.2.2.2.2;unfold zK at k0 k1 k2 k3 k4;simp only [pf_];go_simp;exact ⟨br_,rfl⟩
       apply gw_ (by rfl)
       ·intro vs w2 hw hd
        (try simp [hq_] at hd)
        simp only [pf_];go_simp;exact ⟨br_,rfl⟩
       apply gw_ (by rfl)
       ·intro vs w2 hw hd
        (try simp [hq_] at hd)
        simp only [pf_];go_simp;exact ⟨br_,rfl⟩
       apply gw_ (by rfl)
       ·intro vs w2 hw hd
        (try simp [hq_] at hd)
        simp only [pf_];go_simp;exact ⟨br_,rfl⟩
       refine zEC (by rfl) (by kernel_rfl) ?_;apply Exists.intro;refine ⟨fun vs w2 hw hi hd=>?_,?_⟩
       ·(try simp [hq_] at hd)
        have hi:=F2.out w2 hi;have k0:=hi.1;have k1:=hi.2.1;have k2:=hi.2.2.1;have k3:=hi.2.2.2.1;have k4:=hi.2.2.2.2;unfold zK at k0 k1 k2 k3 k4;simp only [pf_];go_simp;exact ⟨br_,rfl⟩
       apply gw_ (by rfl)
       ·intro vs w2 hw hd
        (try simp [hq_] at hd)
        simp only [pf_];go_simp;exact ⟨br_,rfl⟩
       refine zFD (fun _ w'=>w'.ownsRow base 49 5 (.slice (some ⟨g,0,none⟩) (rs.length+1) cap) (rs.length+1) (zDJ ((Mid rs r m).set m y))) (fun _ _ _ hb h=>zAC hb h) (by rfl) ?_ ?_
       ·intro vs w2 hw hi hd
        (try simp [hq_] at hd)
        simp only [pf_];have hi2:=F2.out w2 hi;have k0:=hi2.1;have k1:=hi2.2.1;have k2:=hi2.2.2.1;have k3:=hi2.2.2.2.1;have k4:=hi2.2.2.2.2;unfold zK at k0 k1 k2 k3 k4;have fz:=zJB.free (w:=w2) (base:=base) (cap:=cap) (rs:=rs) (r:=r) (j:=m) hi;go_simp;exact ⟨grown_put hw,grown_put (zBH w2 w2 _ rfl rfl rfl rfl),own_put (base:=base) (L:=Mid rs r m) hi m (by rw [zKX rs r m hml];omega) y⟩
       refine zEU rfl (fun vs w7 hw hd=>?_);simp [zW,zAI,List.range,List.range.loop,List.filter_cons,List.filter_nil] at hd;simp only [pf_];obtain ⟨_,_,e2,_,e4,_,_,_,_,_,_,_,_,e13,_,e15⟩:=hd;generalize vs 0=u0 at *;generalize vs 1=u1 at *;generalize vs 2=u2 at *;generalize vs 3=u3 at *;generalize vs 4=u4 at *;generalize vs 5=u5 at *;generalize vs 6=u6 at *;generalize vs 7=u7 at *;generalize vs 8=u8 at *;generalize vs 9=u9 at *;generalize vs 10=u10 at *;generalize vs 11=u11 at *;generalize vs 12=u12 at *;generalize vs 13=u13 at *;generalize vs 14=u14 at *;generalize vs 15=u15 at *;subst e2 e4 e13;have hl1:((Mid rs r m).set m y).length=rs.length+1:=by rw [List.length_set,zKX rs r m hml]
       have hz1:m - 1 < ((Mid rs r m).set m y).length:=by omega
       have kz:=cells_rep e15 (m - 1) hz1;generalize ((Mid rs r m).set m y)[m - 1]=z at *;have k0:=kz.1;have k1:=kz.2.1;have k2:=kz.2.2.1;have k3:=kz.2.2.2.1;have k4:=kz.2.2.2.2;unfold zK at k0 k1 k2 k3 k4;have fz:=fun q=>e15.frozenAt q
       have KZ:=zE e15;clear kz e15 F1 F2 hm2;go_wp2;have hown9:=own_put KZ.out (m - 1) hz1 x;have e9:((Mid rs r m).set m y).set (m - 1) x=Mid rs r (m - 1):=by rw [hx2.out];exact HS.out
       rw [e9] at hown9;have hg9:=grown_put (a:=(m - 1)*5) (b:=(m - 1)*5+1) (c:=(m - 1)*5+2) (d:=(m - 1)*5+3) (f:=(m - 1)*5+4) (u1:=.int .i64 x.num) (u2:=.int .i64 x.m) (u3:=.int .i64 x.d) (u4:=.int .i64 x.l) (u5:=.int .u8 x.k) (zAG hg2 hw);go_roundw
       ·exact ⟨m - 1,by go_num,by omega,hg9,hown9,HA2.out (by rw [<- hx2.out];exact hlt)⟩
       ·simp [intOf];omega
      ·rw [show decide (x.num < y.num)=false by simpa using hlt] at h16
       generalize vs 0=u0 at *;generalize vs 1=u1 at *;generalize vs 2=u2 at *;generalize vs 3=u3 at *;generalize vs 4=u4 at *;generalize vs 5=u5 at *;generalize vs 6=u6 at *;generalize vs 7=u7 at *;generalize vs 8=u8 at *;generalize vs 9=u9 at *;generalize vs 10=u10 at *;generalize vs 11=u11 at *;generalize vs 12=u12 at *;generalize vs 13=u13 at *;generalize vs 14=u14 at *;generalize vs 15=u15 at *;generalize vs 16=u16 at *;subst h16;generalize wr.later xq=wq at *;go_wp2;go_roundw
       case rel =>refine ⟨k+1,by go_num,by omega,by omega,hg2,zE ⟨fun h=>absurd h (by omega),fun _=>?_⟩⟩;rw [HO.out (fun q h1 h2=>by have:=HY.out q h2 h1;rw [HYY.out] at this;rw [hx2.out] at hlt;omega)];exact hm2
       case measure=>simp [intOf];omega
     ·obtain rfl:m=0:=by omega
      go_wp2_with fail;obtain ⟨x,-⟩ : ∃ x:Report,x=r:=⟨r,rfl⟩;obtain ⟨y,-⟩ : ∃ x:Report,x=r:=⟨r,rfl⟩;refine zM 17 (by kernel_rfl) (by kernel_rfl) ?_;simp only [tk_];iterate 14 (apply gx_;focus (intro vs xq hd;(try simp [hq_] at hd);simp only [pf_];go_simp;first | exact ⟨br_,rfl⟩ | exact rfl))
      apply gx_;focus (intro vs xq hd;(try simp [hq_] at hd);simp only [pf_];go_simp;first | exact ⟨br_,rfl⟩ | exact rfl | (refine (cmp_add _ x y).mono ?_;rintro e w9 ⟨rfl,hb9⟩;exact ⟨rfl,hb9⟩))
      iterate 2 (apply gx_;focus (intro vs xq hd;(try simp [hq_] at hd);simp only [pf_];go_simp;first | exact ⟨br_,rfl⟩ | exact rfl))
      refine zQ rfl (fun vs xq hd=>?_);simp [zW,zAI,List.range,List.range.loop] at hd;simp only [pf_];try simp only [lt_of_cmp] at hd
      obtain ⟨_,_,_,_,_,_,_,_,_,_,_,_,_,_,_,_,h16⟩:=hd;have hg2:=zCG (zG wr xq) hg;have hm2:=hm.ext (zG wr xq);generalize vs 0=u0 at *;generalize vs 1=u1 at *;generalize vs 2=u2 at *;generalize vs 3=u3 at *;generalize vs 4=u4 at *;generalize vs 5=u5 at *;generalize vs 6=u6 at *;generalize vs 7=u7 at *;generalize vs 8=u8 at *;generalize vs 9=u9 at *;generalize vs 10=u10 at *;generalize vs 11=u11 at *;generalize vs 12=u12 at *;generalize vs 13=u13 at *;generalize vs 14=u14 at *;generalize vs 15=u15 at *;generalize vs 16=u16 at *;subst h16;generalize wr.later xq=wq at *;go_wp2;go_roundw
      case rel =>refine ⟨k+1,by go_num,by omega,by omega,hg2,zE ⟨fun h=>absurd h (by omega),fun _=>?_⟩⟩;rw [HO.out (fun q h1 h2=>absurd h1 (by omega))];exact hm2
      case measure=>simp [intOf];omega
  ·go_wp2;exact bodyPost_end (v:=.tuple #[]) (by simp [results,results172,go_sem]) rfl ⟨⟨_,rfl⟩,HL.out.2 (by omega),hg⟩
end
end Go.Proofs.YtipaopbmklbmnaaGreatDoor
