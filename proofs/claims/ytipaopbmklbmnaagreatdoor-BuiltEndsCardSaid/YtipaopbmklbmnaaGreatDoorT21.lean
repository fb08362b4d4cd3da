/- Lemmas. -/
import Derived.Test.YtipaopbmklbmnaaGreatDoorT20
set_option linter.all false
set_option maxRecDepth 100000
set_option maxHeartbeats 0
namespace Go.Proofs.YtipaopbmklbmnaaGreatDoor
section
open Tryz
open Go.RowKit Go.Shelf
attribute [local go_sem] zAE Oper.grows Oper.growUpon Oper.wild Oper.wildUpon
def OwnI (w:World) (base g cap n:Nat) (cs:List Int) : Prop:=w.ownsRow base 3 1 (.slice (some ⟨g,0,none⟩) n cap) n (cs.map (Value.int .i64))/\cs.length=n
theorem OwnI.cell {w:World} {base g cap n:Nat} {cs:List Int} (h:OwnI w base g cap n cs) (k:Nat) (x:Int) (hx:cs[k]? = some x) : w.cell? ⟨g,k,none⟩=some (.int .i64 x):=by
 have:=h.1.cells (g:=g) rfl k (.int .i64 x) (by rw [List.getElem?_map,hx];rfl);rw [zAZ] at this;exact this
theorem OwnI.ext {w w':World} {base g cap n:Nat} {cs:List Int} (h:OwnI w base g cap n cs) (hb:Below w.heap.size w w') : OwnI w' base g cap n cs:=⟨zAC hb h.1,h.2⟩
theorem OwnI.set {w:World} {base g cap n:Nat} {cs:List Int} (h:OwnI w base g cap n cs) (k:Nat) (x:Int) : OwnI (w.setCell ⟨g,k,none⟩ (.int .i64 x)) base g cap n (cs.set k x) :=
 ⟨by rw [List.map_set];exact (h.1.stored k (.int .i64 x)).1,by rw [List.length_set];exact h.2⟩
def SortT (cs:List Int) (k:Nat) : Prop:=∀ i j a b,i < j->j < k->cs[i]? = some a->cs[j]? = some b->a<=b
def MidS (cs:List Int) (m k:Nat) : Prop:=∀ i j a b,i < j->j<=k->j≠m->cs[i]? = some a->cs[j]? = some b->a<=b
theorem midS_start {cs:List Int} {k:Nat} (h:SortT cs k) : MidS cs k k:=fun i j a b h1 h2 h3=>h i j a b h1 (by omega)
theorem midS_zero {cs:List Int} {k:Nat} (h:MidS cs 0 k) : SortT cs (k+1):=fun i j a b h1 h2=>h i j a b h1 (by omega) (by omega)
theorem midS_done {cs:List Int} {m k:Nat} {x y:Int} (h0:0 < m) (hmk:m<=k) (hx:cs[m]? = some x) (hy:cs[m - 1]? = some y) (hle:y<=x) (h:MidS cs m k) : SortT cs (k+1):=by
 intro i j a b h1 h2 ha hb;by_cases e:j=m
 ·subst e
  rw [hx] at hb;cases hb;by_cases e2:i=j - 1
  ·subst e2;rw [hy] at ha;cases ha;omega
  ·have:=h i (j - 1) a y (by omega) (by omega) (by omega) ha hy;omega
 ·exact h i j a b h1 (by omega) e ha hb
theorem midS_swap {cs:List Int} {m k:Nat} {x y:Int} (h0:0 < m) (hmk:m<=k) (hx:cs[m]? = some x) (hy:cs[m - 1]? = some y) (hlt:x < y) (h:MidS cs m k) : MidS ((cs.set m y).set (m - 1) x) (m - 1) k:=by
 have hml:m < cs.length:=(List.getElem?_eq_some_iff.1 hx).1;have key:∀ i,((cs.set m y).set (m - 1) x)[i]? = if i=m - 1 then some x else if i=m then some y else cs[i]?:=fun i=>by
  by_cases e:i=m - 1
  ·subst e;rw [if_pos rfl,List.getElem?_set_self (by rw [List.length_set];omega)]
  ·rw [if_neg e,List.getElem?_set_ne (Ne.symm e)]
   by_cases e2:i=m
   ·subst e2;rw [if_pos rfl,List.getElem?_set_self hml]
   ·rw [if_neg e2,List.getElem?_set_ne (Ne.symm e2)]
 intro i j a b h1 h2 h3 ha hb;rw [key] at ha hb;rw [if_neg h3] at hb;by_cases ej:j=m
 ·rw [if_pos ej] at hb
  cases hb;by_cases ei:i=m - 1
  ·rw [if_pos ei] at ha;cases ha;omega
  ·rw [if_neg ei,if_neg (by omega)] at ha;exact h i (m - 1) a _ (by omega) (by omega) (by omega) ha hy
 ·rw [if_neg ej] at hb
  by_cases ei:i=m - 1
  ·rw [if_pos ei] at ha;cases ha;exact h m j _ b (by omega) h2 ej hx hb
  ·rw [if_neg ei] at ha
   by_cases ei2:i=m
   ·rw [if_pos ei2] at ha;cases ha;exact h (m - 1) j _ b (by omega) h2 ej hy hb
   ·rw [if_neg ei2] at ha;exact h i j a b h1 h2 ej ha hb
theorem swap_perm {cs:List Int} {m:Nat} {x y:Int} (hx:cs[m]? = some x) (hy:cs[m - 1]? = some y) : ((cs.set m y).set (m - 1) x).Perm cs:=by
 obtain ⟨h1,rfl⟩:=List.getElem?_eq_some_iff.1 hx;obtain ⟨h2,rfl⟩:=List.getElem?_eq_some_iff.1 hy;exact List.set_set_perm h1 h2
theorem sortT_all {cs:List Int} {k:Nat} (hk:cs.length<=k) (h:SortT cs k) : cs.Pairwise (fun a b=>a<=b):=by
 rw [List.pairwise_iff_getElem];intro i j hi hj hij;exact h i j _ _ hij (by omega) (List.getElem?_eq_getElem hi) (List.getElem?_eq_getElem hj)
theorem insertion_ints (w:World) (base g cap n:Nat) (cs:List Int) (hn:n<=100) (hown:OwnI w base g cap n cs) :
  Calls prog 196 #[.slice (some ⟨g,0,none⟩) n cap,.int .i64 0,.int .i64 n] w fun e w'=>(∃ v,e = .returned v)/\(∃ cs',OwnI w' base g cap n cs'/\cs'.Perm cs/\cs'.Pairwise (fun a b=>a<=b))/\w.grownBy w' (some g):=by
 go_enter func196,ntmps196;go_wp2;go_loopw [6] (fun i wr=>∃ k:Nat,i = .int .i64 k/\k<=n+1/\Hid (w.grownBy wr (some g)/\∃ cs',OwnI wr base g cap n cs'/\cs'.Perm cs/\SortT cs' k)) (fun i _=>n+1 - (intOf i).toNat)
 case atStart=>exact ⟨1,rfl,by omega,zE ⟨zBH w w _ rfl rfl rfl rfl,_,hown,List.Perm.refl _,fun i j a b h1 h2=>absurd h2 (by omega)⟩⟩
 case round =>
  obtain ⟨k,rfl,hk,H⟩:=hrel;clear hown;by_cases hkn:k < n
  ·go_wp2
   go_loopw [7] (fun j wi=>∃ m:Nat,j = .int .i64 m/\m<=k/\Hid (w.grownBy wi (some g)/\∃ cs',OwnI wi base g cap n cs'/\cs'.Perm cs/\MidS cs' m k)) (fun j _=>(intOf j).toNat)
   case atStart=>exact ⟨k,rfl,Nat.le_refl _,zE (by obtain ⟨a1,cs1,a2,a3,a4⟩:=H.out;exact ⟨a1,cs1,a2,a3,midS_start a4⟩)⟩
   case round =>
    clear H;obtain ⟨m,rfl,hm,H⟩:=hrel;obtain ⟨hg,cs1,ho,hpm,hmd⟩:=H.out;have HPM:=zE hpm;have HMD:=zE hmd;clear hpm hmd;by_cases h0:0 < m
    ·have hc1:m < cs1.length:=by rw [ho.2];omega
     have hc2:m - 1 < cs1.length:=by rw [ho.2];omega
     have k1:=fun xq=>(ho.ext (zG wr xq)).cell m cs1[m] (by rw [List.getElem?_eq_getElem hc1])
     have k2:=fun xq=>(ho.ext (zG wr xq)).cell (m - 1) cs1[m - 1] (by rw [List.getElem?_eq_getElem hc2])
     have hz:IntKind.i64.wrap ((m:Int) - 1)=((m - 1:Nat) : Int):=by rw [IntWalk.i64_in _ (by omega)];omega
     have hml:(m:Int) < n:=by omega
     have hkp:((m - 1:Nat) : Int) < n:=by omega
     have hx1:=zE (List.getElem?_eq_getElem hc1);have hx2:=zE (List.getElem?_eq_getElem hc2);have HSW:=zE (fun h=>midS_swap h0 hm hx1.out hx2.out h HMD.out);have HDN:=zE (fun h=>midS_done h0 hm hx1.out hx2.out h HMD.out);have HSP:=zE ((swap_perm hx1.out hx2.out).trans HPM.out);generalize cs1[m]=x at *;generalize cs1[m - 1]=y at *;go_wp2;refine zM 15 (by kernel_rfl) (by kernel_rfl) ?_;simp only [tk_];iterate 13 (apply gx_;focus (intro vs xq hd;(try simp [hq_] at hd);simp only [pf_];go_simp;first | exact ⟨br_,rfl⟩ | exact rfl))
     apply gx_;focus (intro vs xq hd;(try simp [hq_] at hd);simp only [pf_];go_simp;first | exact ⟨br_,rfl⟩ | exact rfl | (refine (zRB _ _ _).mono ?_;rintro e w' ⟨rfl,rfl⟩;exact ⟨rfl,br_⟩))
     apply gx_;focus (intro vs xq hd;(try simp [hq_] at hd);simp only [pf_];go_simp;first | exact ⟨br_,rfl⟩ | exact rfl)
     refine zQ (by simp only [List.length_append,List.length_cons,List.length_nil]) (fun vs xq hd=>?_);simp [zW,zAI,List.range,List.range.loop] at hd;simp only [pf_];obtain ⟨_,_,_,_,_,_,_,_,_,_,_,_,_,_,e14⟩:=hd;simp only [Nat.zero_add,Nat.reduceAdd] at e14 ⊢;have hg2:=zCG (zG wr xq) hg;have ho2:=zE (ho.ext (zG wr xq));clear k1 k2 ho hg;generalize wr.later xq=wq at *;by_cases hlt:x < y
     ·have hlt':decide (x < y)=true:=by simpa using hlt
      have HSW:=zE (HSW.out hlt);clear hlt HDN;rw [hlt'] at e14;simp only [e14];go_wp2;have F1:=zE (fun (c:World) (h:OwnI c base g cap n cs1)=>h.cell m x hx1.out);have F2:=zE (fun (c:World) (h:OwnI c base g cap n cs1)=>h.cell (m - 1) y hx2.out);refine zBU 16 15 [] (fun a c=>a.grownBy c (some g)) (fun c=>wq.grownBy c (some g)) (fun _ _ hb h=>zCG hb h) (zBH _ _ _ rfl rfl rfl rfl)
       (fun c=>OwnI c base g cap n cs1) (fun _ _ hb h=>h.ext hb) (ho2.out.ext ⟨rfl,rfl,rfl,Nat.le_refl _,fun _ _=>rfl⟩) (by kernel_rfl) (by kernel_rfl) ?_
      simp only [tk_];apply gw_ (by rfl)
      ·intro vs w2 hw hd
       (try simp [hq_] at hd)
       simp only [pf_];go_simp;exact ⟨br_,rfl⟩
      apply gw_ (by rfl)
      ·intro vs w2 hw hd
       (try simp [hq_] at hd)
       simp only [pf_];go_simp;exact ⟨br_,rfl⟩
      apply gw_ (by rfl)
      ·intro vs w2 hw hd
       (try simp [hq_] at hd)
       simp only [pf_];go_simp;exact ⟨br_,rfl⟩
      apply gw_ (by rfl)
      ·intro vs w2 hw hd
       (try simp [hq_] at hd)
       simp only [pf_];go_simp;exact ⟨br_,rfl⟩
      apply gw_ (by rfl)
      ·intro vs w2 hw hd
       (try simp [hq_] at hd)
       simp only [pf_];go_simp;exact ⟨br_,rfl⟩
      apply gw_ (by rfl)
      ·intro vs w2 hw hd
       (try simp [hq_] at hd)
       simp only [pf_];go_simp;exact ⟨br_,rfl⟩
      apply gw_ (by rfl)
      ·intro vs w2 hw hd
       (try simp [hq_] at hd)
       simp only [pf_];go_simp;exact ⟨br_,rfl⟩
      apply gw_ (by rfl)
      ·intro vs w2 hw hd
       (try simp [hq_] at hd)
       simp only [pf_];go_simp;exact ⟨br_,rfl⟩
      apply gw_ (by rfl)
      ·intro vs w2 hw hd
       (try simp [hq_] at hd)
       simp only [pf_];go_simp;exact ⟨br_,rfl⟩
      refine zEC (by rfl) (by kernel_rfl) ?_;apply Exists.intro;refine ⟨fun vs w2 hw hi hd=>?_,?_⟩
      ·(try simp [hq_] at hd)
       have k0:=F2.out w2 hi;simp only [pf_];go_simp;exact ⟨br_,rfl⟩
      apply gw_ (by rfl)
      ·intro vs w2 hw hd
       (try simp [hq_] at hd)
       simp only [pf_];go_simp;exact ⟨br_,rfl⟩
      apply gw_ (by rfl)
      ·intro vs w2 hw hd
       (try simp [hq_] at hd)
       simp only [pf_];go_simp;exact ⟨br_,rfl⟩
      apply gw_ (by rfl)
      ·intro vs w2 hw hd
       (try simp [hq_] at hd)
       simp only [pf_];go_simp;exact ⟨br_,rfl⟩
      refine zEC (by rfl) (by kernel_rfl) ?_;apply Exists.intro;refine ⟨fun vs w2 hw hi hd=>?_,?_⟩
      ·(try simp [hq_] at hd)
       have k0:=F1.out w2 hi;simp only [pf_];go_simp;exact ⟨br_,rfl⟩
      apply gw_ (by rfl)
      ·intro vs w2 hw hd
       (try simp [hq_] at hd)
       simp only [pf_];go_simp;exact ⟨br_,rfl⟩
      refine zFD (fun _ w'=>OwnI w' base g cap n (cs1.set m y)) (fun _ _ _ hb h=>h.ext hb) (by rfl) ?_ ?_
      ·intro vs w2 hw hi hd
       (try simp [hq_] at hd)
       simp only [pf_];have k0:=F1.out w2 hi;have fz:=fun q=>hi.1.frozenAt (j:=q)
       go_simp;exact ⟨zEA hw,zEA (zBH w2 w2 _ rfl rfl rfl rfl),hi.set m y⟩
      refine zEU rfl (fun vs w7 hw hd=>?_);simp [zW,zAI,List.range,List.range.loop,List.filter_cons,List.filter_nil] at hd;simp only [pf_];obtain ⟨_,_,e2,_,e4,_,_,_,_,_,_,_,_,e13,_,e15⟩:=hd;simp only [Nat.zero_add,Nat.reduceAdd] at e2 e4 e13 ⊢;simp only [e2,e4,e13];have hl:m - 1 < (cs1.set m y).length:=by rw [e15.2];omega
      have c0:=e15.cell (m - 1) _ (List.getElem?_eq_getElem hl);have fz:=e15.1.frozenAt (j:=m - 1);have hs:=zE (e15.set (m - 1) x);have hg3:=zEA (a:=m - 1) (u:=.int .i64 x) (zAG hg2 hw);clear e15 F1 F2 ho2;go_wp2;go_roundw
      ·exact ⟨m - 1,by go_num,by omega,zE ⟨hg3,_,hs.out,HSP.out,HSW.out⟩⟩
      ·simp [intOf];omega
     ·have hlt':decide (x < y)=false:=by simpa using hlt
      have HDN:=zE (HDN.out (Int.not_lt.1 hlt));clear hlt HSW;rw [hlt'] at e14;simp only [e14];go_wp2;go_roundw
      ·exact ⟨k+1,by go_num,by omega,zE ⟨hg2,_,ho2.out,HPM.out,HDN.out⟩⟩
      ·simp [intOf];omega
    ·have hm0:m=0:=by omega
     subst hm0;obtain ⟨x,-⟩ : ∃ x:Int,x=0:=⟨0,rfl⟩;go_wp2;refine zM 15 (by kernel_rfl) (by kernel_rfl) ?_;simp only [tk_];iterate 13 (apply gx_;focus (intro vs xq hd;(try simp [hq_] at hd);simp only [pf_];go_simp;first | exact ⟨br_,rfl⟩ | exact rfl))
     apply gx_;focus (intro vs xq hd;(try simp [hq_] at hd);simp only [pf_];go_simp;first | exact ⟨br_,rfl⟩ | exact rfl | (refine (zRB _ _ _).mono ?_;rintro e w' ⟨rfl,rfl⟩;exact ⟨rfl,br_⟩))
     apply gx_;focus (intro vs xq hd;(try simp [hq_] at hd);simp only [pf_];go_simp;first | exact ⟨br_,rfl⟩ | exact rfl)
     refine zQ (by simp only [List.length_append,List.length_cons,List.length_nil]) (fun vs xq hd=>?_);simp [zW,zAI,List.range,List.range.loop] at hd;simp only [pf_];obtain ⟨_,_,_,_,_,_,_,_,_,_,_,_,_,_,e14⟩:=hd;simp only [Nat.zero_add,Nat.reduceAdd] at e14 ⊢;have hg2:=zCG (zG wr xq) hg;have ho2:=zE (ho.ext (zG wr xq));clear ho hg;generalize wr.later xq=wq at *;simp only [e14];go_wp2;go_roundw
     ·exact ⟨k+1,by go_num,by omega,zE ⟨hg2,_,ho2.out,HPM.out,midS_zero HMD.out⟩⟩
     ·simp [intOf];omega
  ·go_wp2;exact bodyPost_end (v:=.tuple #[]) (by simp [results,results196,go_sem]) rfl ⟨⟨_,rfl⟩,by obtain ⟨_,cs1,a2,a3,a4⟩:=H.out;exact ⟨cs1,a2,a3,sortT_all (by rw [a2.2];omega) a4⟩,H.out.1⟩
end
section
open Tryz
open Go.RowKit Go.Shelf
theorem len64_small (w:World) (n:Nat) (hn:n<=5) :
  Calls prog 205 #[.int .u64 n] w fun e w'=>(∃ k:Int,e = .returned (.int .i64 k))/\w=w':=by
 have hc:n=0\/n=1\/n=2\/n=3\/n=4\/n=5:=by omega
 clear hn;rcases hc with rfl | rfl | rfl | rfl | rfl | rfl <;>
 ·go_enter func205,ntmps205;go_wp2;go_ret;exact ⟨⟨_,rfl⟩,rfl⟩
theorem len_small (w:World) (n:Nat) (hn:n<=5) :
  Calls prog 180 #[.int .u64 n] w fun e w'=>(∃ k:Int,e = .returned (.int .i64 k))/\w=w':=by
 go_enter func180,ntmps180;go_wp2_with fail;refine (len64_small _ n hn).mono ?_;rintro e w' ⟨⟨k,rfl⟩,rfl⟩;go_wp2;go_ret;exact ⟨⟨_,rfl⟩,rfl⟩
theorem insertion_nil (w:World) : Calls prog 196 #[.slice none 0 0,.int .i64 0,.int .i64 0] w fun e w'=>(∃ v,e = .returned v)/\w=w':=by
 go_enter func196,ntmps196;go_wp2;go_loopw [6] (fun i wr=>i = .int .i64 1/\wr=w) (fun _ _=>0)
 case atStart=>exact ⟨rfl,rfl⟩
 case round =>obtain ⟨rfl,rfl⟩:=hrel;go_wp2;exact bodyPost_end (v:=.tuple #[]) (by simp [results,results196,go_sem]) rfl ⟨⟨_,rfl⟩,rfl⟩
theorem pdq_small (w:World) (v:Value) (n:Nat) (k:Int) (hn:n<=12) (Q:World->Prop) (h:Calls prog 196 #[v,.int .i64 0,.int .i64 n] w fun e w'=>(∃ v,e = .returned v)/\Q w') :
  Calls prog 179 #[v,.int .i64 0,.int .i64 n,.int .i64 k] w fun e w'=>(∃ v,e = .returned v)/\Q w':=by
 have hz:IntKind.i64.wrap ((n:Int) - 0)=(n:Int):=by rw [IntWalk.i64_in _ (by omega)];omega
 have hz':IntKind.i64.wrap (n:Int)=(n:Int):=IntWalk.i64_in _ (by omega);have hle:(n:Int)<=12:=by omega
 have H:=zE h;clear h;go_enter func179,ntmps179;go_wp2;go_loopw [1,2] (fun a b wr=>a = .int .i64 0/\b = .int .i64 n/\wr=w) (fun _ _ _=>0)
 case atStart=>exact ⟨rfl,rfl,rfl⟩
 case round =>obtain ⟨rfl,rfl,rfl⟩:=hrel;go_wp2_with fail;refine H.out.mono ?_;rintro e w' ⟨⟨u,rfl⟩,hq⟩;go_wp2;exact bodyPost_ret (v:=.tuple #[]) (by simp [results,results179,go_sem]) rfl ⟨⟨_,rfl⟩,hq⟩
theorem sort_ints (w:World) (base:Nat) (v:Value) (cs:List Int) (hn:cs.length<=5) (hown:w.ownsRow base 3 1 v cs.length (cs.map (Value.int .i64))) :
  Calls prog 150 #[v] w fun e w'=>(∃ v,e = .returned v)/\w.grownBy w' v.ownBlock/\∃ cs':List Int,w'.ownsRow base 3 1 v cs.length (cs'.map (Value.int .i64))/\cs'.Perm cs/\cs'.Pairwise (fun a b=>a<=b):=by
 have hmain:Calls prog 196 #[v,.int .i64 0,.int .i64 (cs.length:Nat)] w fun e w'=>(∃ v,e = .returned v)/\w.grownBy w' v.ownBlock/\∃ cs':List Int,w'.ownsRow base 3 1 v cs.length (cs'.map (Value.int .i64))/\cs'.Perm cs/\cs'.Pairwise (fun a b=>a<=b):=by
  rcases hown.2 with ⟨rfl,h0⟩ | ⟨g,cap,cur,rfl,_⟩
  ·have hnil:cs=[]:=List.eq_nil_of_length_eq_zero h0;subst hnil;refine (insertion_nil w).mono ?_;rintro e w' ⟨he,rfl⟩;exact ⟨he,zBH _ _ _ rfl rfl rfl rfl,[],hown,List.Perm.refl _,List.Pairwise.nil⟩
  ·refine (insertion_ints w base g cap cs.length cs (by omega) ⟨hown,rfl⟩).mono ?_;rintro e w' ⟨he,⟨cs',h1,h2,h3⟩,hg⟩;exact ⟨he,hg,cs',h1.1,h2,h3⟩
 have hsl:∃ a c,v = .slice a cs.length c:=by
  rcases hown.2 with ⟨rfl,h0⟩ | ⟨g,cap,cur,rfl,_⟩
  ·exact ⟨none,0,by rw [h0]⟩
  ·exact ⟨_,_,rfl⟩
 obtain ⟨a,c,rfl⟩:=hsl;have hw:IntKind.u64.wrap (cs.length:Int)=(cs.length:Int):=by
  have hc:cs.length=0\/cs.length=1\/cs.length=2\/cs.length=3\/cs.length=4\/cs.length=5:=by omega
  rcases hc with h | h | h | h | h | h <;> rw [h] <;> rfl
 have HM:=zE (fun k=>pdq_small w _ cs.length k (by omega) _ hmain);clear hmain hown;go_enter func150,ntmps150;go_wp2_with fail;refine (len_small _ cs.length hn).mono ?_;rintro e w' ⟨⟨k,rfl⟩,rfl⟩;go_wp2_with fail;refine (HM.out k).mono ?_;rintro e w' ⟨⟨u,rfl⟩,hg⟩;go_wp2;exact bodyPost_end (v:=.tuple #[]) (by simp [results,results150,go_sem]) rfl ⟨⟨_,rfl⟩,hg⟩
end
section
open Tryz
open Go.RowKit Go.Shelf
attribute [local go_sem] zAE Oper.grows Oper.growUpon Oper.wild Oper.wildUpon
theorem zKJ {α:Type} {l:List α} {i:Nat} {y:α} : y∈l.take i↔∃ k,k < i/\∃ h:k < l.length,l[k]=y:=by
 constructor
 ·intro h;obtain ⟨k,hk,rfl⟩:=List.getElem_of_mem h;rw [List.length_take] at hk;exact ⟨k,by omega,by omega,by rw [List.getElem_take]⟩
 ·rintro ⟨k,hk,h,rfl⟩
  have hk2:k < (l.take i).length:=by rw [List.length_take];omega
  have e:(l.take i)[k]=l[k]:=List.getElem_take;rw [<- e];exact List.getElem_mem hk2
theorem ord_iff (a b c d:Int) : orI (zLD a b) (zLD c d) < 0↔a < b\/a=b/\c < d:=by
 unfold orI zLD;split <;> split <;> (try split) <;> (try split) <;> omega
theorem note_all (R:List Issue) (N:List Note) (i:Nat) (x:Note) (hR:zX R=0) (hw:0<=x.ways) :
  zNE R N i x↔zOS x/\zPC x/\zLA x/\zLN R x/\zLX x/\zJV N i x/\zLE N i x/\zLB N i x:=by
 have h4:NoteRef R x↔zLN R x:=by
  unfold NoteRef zLN zGC;rw [if_pos hR];by_cases h0:x.d=0/\x.l=0
  ·rw [if_pos h0]
   constructor
   ·rintro (h | h)
    ·exact h.2.2
    ·exact absurd h0 h.1
   ·intro h;exact .inl ⟨h0.1,h0.2,h⟩
  ·rw [if_neg h0]
   by_cases hf:zCQ R x.d x.l≠none
   ·rw [if_pos hf];exact ⟨fun _=>rfl,fun _=>.inr ⟨h0,hf⟩⟩
   ·rw [if_neg hf]
    constructor
    ·rintro (h | h)
     ·exact absurd ⟨h.1,h.2.1⟩ h0
     ·exact absurd h.2 hf
    ·intro h;cases h
 have h6:zDW N i x↔zJV N i x:=by
  unfold zDW zJV;constructor
  ·rintro (h | ⟨k,hk,h,e⟩)
   ·exact .inl h
   ·exact .inr ⟨_,zKJ.2 ⟨k,hk,h,rfl⟩,e⟩
  ·rintro (h | ⟨y,hy,e⟩)
   ·exact .inl h
   ·obtain ⟨k,hk,h,rfl⟩:=zKJ.1 hy;exact .inr ⟨k,hk,h,e⟩
 have h7:NoteNew N i x↔zLE N i x:=by
  unfold NoteNew zLE;constructor
  ·rintro h ⟨y,hy,e⟩;obtain ⟨k,hk,h2,rfl⟩:=zKJ.1 hy;exact h k hk h2 e
  ·intro h k hk h2 e;exact h ⟨_,zKJ.2 ⟨k,hk,h2,rfl⟩,e⟩
 have h8:zMB N i x↔zLB N i x:=by unfold zMB zLB;exact ⟨fun h h0 h1=>(ord_iff _ _ _ _).2 (h h0 h1),fun h h0 h1=>(ord_iff _ _ _ _).1 (h h0 h1)⟩
 unfold zNE;rw [h4,h6,h7,h8];unfold zNO NoteUse zOS zPC zLA zLX In;constructor
 ·rintro ⟨⟨h1,h2,h3,h4,h5,h6⟩,a,b,c,d,e⟩
  refine ⟨⟨h1,h2⟩,⟨h3,h6⟩,⟨⟨⟨by omega,by omega⟩,⟨by omega,by omega⟩⟩,by omega⟩,a,?_,d,c,e⟩;by_cases hl:x.l < 2
  ·exact .inr ⟨(b hl).1,by have:=(b hl).2;omega⟩
  ·exact .inl (by omega)
 ·rintro ⟨⟨h1,h2⟩,⟨h3,h6⟩,⟨⟨⟨f1,f2⟩,⟨t1,t2⟩⟩,ft⟩,a,b,d,c,e⟩
  refine ⟨⟨h1,h2,h3,⟨by omega,by omega⟩,by omega,h6⟩,a,fun hl=>?_,c,d,e⟩;rcases b with b | b
  ·omega
  ·exact ⟨b.1,by omega⟩
def zAH (N:List Note) (k:Nat) : List Int:=((N.take k).filter (fun x=>x.sg == 1)).map (·.num)
theorem zMC (N:List Note) (k:Nat) (hk:k<=N.length) : (zAH N k).length=zFN N k:=by
 induction k with
 | zero=>simp [zAH,zFN]
 | succ k ih =>
   have hlt:k < N.length:=by omega
   have ih:=ih (by omega);unfold zAH at ih ⊢;rw [List.length_map] at ih ⊢;rw [List.take_succ_eq_append_getElem hlt,List.filter_append,List.length_append,ih,zMA N k hlt];by_cases e:N[k].sg=1 <;> simp [e]
theorem zHK (N:List Note) (k:Nat) (hk:k < N.length) : zAH N (k+1)=zAH N k++(if N[k].sg=1 then [N[k].num] else []):=by
 unfold zAH;rw [List.take_succ_eq_append_getElem hk,List.filter_append,List.map_append];by_cases e:N[k].sg=1 <;> simp [e]
end
end Go.Proofs.YtipaopbmklbmnaaGreatDoor
