/- The program: what is known of open notes. -/
import Derived.Shelf.SlGeneric
import Derived.Shelf.SlSortCmp.Whole1
import Derived.Test.YtpolpdegpbahiaaGreatDoorProg
import Derived.Test.YtpolpdegpbahiaaGreatDoorM04
import Derived.Test.YtpolpdegpbahiaaGreatDoorM54
import Derived.Test.YtpolpdegpbahiaaGreatDoorM61
import Derived.Test.YtpolpdegpbahiaaGreatDoorM62
import Derived.Test.YtpolpdegpbahiaaGreatDoorM64
import Derived.Test.YtpolpdegpbahiaaGreatDoorM68
import Derived.Test.YtpolpdegpbahiaaGreatDoorM74
import Derived.Test.YtpolpdegpbahiaaGreatDoorM75
import Derived.Test.YtpolpdegpbahiaaGreatDoorM76
set_option linter.all false
set_option maxRecDepth 100000
set_option maxHeartbeats 12800000

namespace Go.Proofs
open Go.Shelf
def Tryz.lays134_ren:Go.Shelf.Ren:=⟨fun | 6=>134 | 15=>171 | 14=>172 | 28=>205 | 29=>206 | 20=>207 | 21=>208 | 22=>209 | 23=>210 | 24=>211 | 25=>212 | 26=>213 | 27=>214 | 46=>222 | 47=>218 | 48=>219 | 49=>223 | 50=>224 | 57=>227 | n=>n,fun | 22=>56 | 24=>28 | 25=>154 | 3=>3 | 39=>262 | 0=>0 | 53=>293 | 55=>295 | 4=>4 | 46=>286 | 45=>285 | 50=>278 | 5=>5 | 9=>9 | 66=>302 | 70=>306 | 76=>310 | 77=>206 | n=>n,fun | n=>n⟩
theorem Tryz.lays134:Go.Proofs.SlLaysF.n6 Tryz.prog Tryz.lays134_ren:={
 mixed:=by kernel_rfl
 f6:=⟨Tryz.f134.name,by decide,Tryz.func134.trans (congrArg some (by kernel_rfl))⟩
 f14:=⟨Tryz.f172.name,by decide,Tryz.func172.trans (congrArg some (by kernel_rfl))⟩
 f15:=Tryz.func171.trans (congrArg some (by kernel_rfl))
 f20:=⟨Tryz.f207.name,by decide,Tryz.func207.trans (congrArg some (by kernel_rfl))⟩
 f21:=⟨Tryz.f208.name,by decide,Tryz.func208.trans (congrArg some (by kernel_rfl))⟩
 f22:=⟨Tryz.f209.name,by decide,Tryz.func209.trans (congrArg some (by kernel_rfl))⟩
 f23:=⟨Tryz.f210.name,by decide,Tryz.func210.trans (congrArg some (by kernel_rfl))⟩
 f24:=⟨Tryz.f211.name,by decide,Tryz.func211.trans (congrArg some (by kernel_rfl))⟩
 f25:=⟨Tryz.f212.name,by decide,Tryz.func212.trans (congrArg some (by kernel_rfl))⟩
 f26:=⟨Tryz.f213.name,by decide,Tryz.func213.trans (congrArg some (by kernel_rfl))⟩
 f27:=⟨Tryz.f214.name,by decide,Tryz.func214.trans (congrArg some (by kernel_rfl))⟩
 f28:=Tryz.func205.trans (congrArg some (by kernel_rfl))
 f29:=Tryz.func206.trans (congrArg some (by kernel_rfl))
 f46:=⟨Tryz.f222.name,by decide,Tryz.func222.trans (congrArg some (by kernel_rfl))⟩
 f47:=Tryz.func218.trans (congrArg some (by kernel_rfl))
 f48:=Tryz.func219.trans (congrArg some (by kernel_rfl))
 f49:=⟨Tryz.f223.name,by decide,Tryz.func223.trans (congrArg some (by kernel_rfl))⟩
 f50:=⟨Tryz.f224.name,by decide,Tryz.func224.trans (congrArg some (by kernel_rfl))⟩
 f57:=⟨Tryz.f227.name,by decide,Tryz.func227.trans (congrArg some (by kernel_rfl))⟩
 t0:=Tryz.underlying0
 a0:=Tryz.isAgg0
 z0:=Tryz.sizeOf0
 v0:=Tryz.zeroValue0
 t3:=Tryz.underlying3
 a3:=Tryz.isAgg3
 z3:=Tryz.sizeOf3
 v3:=Tryz.zeroValue3
 t4:=Tryz.underlying4
 a4:=Tryz.isAgg4
 z4:=Tryz.sizeOf4
 v4:=Tryz.zeroValue4
 t5:=Tryz.underlying5
 a5:=Tryz.isAgg5
 z5:=Tryz.sizeOf5
 v5:=Tryz.zeroValue5
 t9:=Tryz.underlying9
 a9:=Tryz.isAgg9
 z9:=Tryz.sizeOf9
 v9:=Tryz.zeroValue9
 t22:=Tryz.underlying56
 a22:=Tryz.isAgg56
 z22:=Tryz.sizeOf56
 v22:=Tryz.zeroValue56
 a24:=Tryz.isAgg28
 z24:=Tryz.sizeOf28
 t25:=Tryz.underlying154
 a25:=Tryz.isAgg154
 z25:=Tryz.sizeOf154
 v25:=Tryz.zeroValue154
 t39:=Tryz.underlying262
 a39:=Tryz.isAgg262
 z39:=Tryz.sizeOf262
 v39:=Tryz.zeroValue262
 t45:=Tryz.underlying285
 a45:=Tryz.isAgg285
 z45:=Tryz.sizeOf285
 v45:=Tryz.zeroValue285
 t46:=Tryz.underlying286
 a46:=Tryz.isAgg286
 z46:=Tryz.sizeOf286
 v46:=Tryz.zeroValue286
 t50:=Tryz.underlying278
 a50:=Tryz.isAgg278
 z50:=Tryz.sizeOf278
 v50:=Tryz.zeroValue278
 t53:=Tryz.underlying293
 a53:=Tryz.isAgg293
 z53:=Tryz.sizeOf293
 v53:=Tryz.zeroValue293
 t55:=Tryz.underlying295
 a55:=Tryz.isAgg295
 z55:=Tryz.sizeOf295
 v55:=Tryz.zeroValue295
 t66:=Tryz.underlying302
 a66:=Tryz.isAgg302
 z66:=Tryz.sizeOf302
 v66:=Tryz.zeroValue302
 t70:=Tryz.underlying306
 a70:=Tryz.isAgg306
 z70:=Tryz.sizeOf306
 v70:=Tryz.zeroValue306
 t76:=Tryz.underlying310
 a76:=Tryz.isAgg310
 z76:=Tryz.sizeOf310
 v76:=Tryz.zeroValue310
 t77:=Tryz.underlying206
 a77:=Tryz.isAgg206
 z77:=Tryz.sizeOf206
 v77:=Tryz.zeroValue206 }
end Go.Proofs
namespace Go.Proofs.YtpolpdegpbahiaaGreatDoor
open Tryz
section
open Go.RowKit Go.Shelf
theorem zRM (w:World) (va vb:Value) (S T:List Int) (hS:Sl zAJ 1 w va S) (hT:Sl zAJ 1 w vb T) :
  Calls prog 85 #[va,vb] w fun e w'=>e = .returned (.int .i64 (shortC S T))∧w'=w.alloc (.cells #[.int .i64 ((S.length:Int) - T.length),.int .i64 (cmpL S T)] 3):=by
 obtain ⟨a,capa,rfl,hm⟩:=zD hS
 obtain ⟨c,capc,rfl,hm'⟩:=zD hT
 have HS:=zF hS
 have HT:=zF hT
 clear hS hT
 have hwr:IntKind.i64.wrap ((S.length:Int) - T.length)=(S.length:Int) - T.length:=IntWalk.i64_in _ (by omega)
 have hw2:wrap64 ((S.length:Int) - T.length)=(S.length:Int) - T.length:=IntWalk.wrap64_in _ (by omega)
 go_enter func85,ntmps85
 go_wp2_with fail
 refine (compare_ints w _ _ S T HS.out HT.out).mono ?_
 rintro e w2 ⟨rfl,rfl⟩
 go_wp2_with fail
 have hc:∀ j u,#[Value.int .i64 ((S.length:Int) - T.length),.int .i64 (cmpL S T)][j]? = some u→zJ (w.alloc (.cells #[.int .i64 ((S.length:Int) - T.length),.int .i64 (cmpL S T)] 3)) w.heap.size j u:=fun j u h=>zU w _ _ j u h
 refine (or_int _ _ _ _ ⟨hc 0 _ rfl,hc 1 _ rfl⟩).mono ?_
 rintro e w3 ⟨rfl,rfl⟩
 go_wp2
 go_ret
 exact ⟨rfl,rfl⟩
theorem zRP:Enters prog 85:=enters_of func85 (by kernel_rfl) rfl
def cfOf (T:List (List Int)) (i j:Nat) : Int:=shortC (T.getD i []) (T.getD j [])
theorem cf_lt (T:List (List Int)) (i j:Nat) : ltOf (cfOf T) i j=zIP (T.getD i []) (T.getD j []):=by
 unfold ltOf cfOf
 have h:=shortC_bef (T.getD i []) (T.getD j [])
 by_cases hb:zIP (T.getD i []) (T.getD j [])=true
 ·rw [hb];simpa using h.2 hb
 ·have hb':zIP (T.getD i []) (T.getD j [])=false:=by simpa using hb
  rw [hb',decide_eq_false_iff_not]
  exact fun hh=>hb (h.1 hh)
theorem cf_swo (T:List (List Int)) : Go.Sort.SWO (ltOf (cfOf T)) where
 irrefl x:=by rw [cf_lt];exact befL_irr _
 trans x y z h1 h2:=by rw [cf_lt] at *;exact befL_tr _ _ _ h1 h2
 ntrans x y z h1 h2:=by
  rw [cf_lt] at *
  generalize T.getD x []=a at *
  generalize T.getD y []=b at *
  generalize T.getD z []=c at *
  by_cases hb:zIP a c=true
  ·by_cases hba:zIP b a=true
   ·have:=befL_tr _ _ _ hba hb
    rw [this] at h2
    cases h2
   ·have e:=zSC a b h1 (by simpa using hba)
    subst e
    rw [hb] at h2
    cases h2
  ·simpa using hb
section
variable {α:Type} [Inhabited α]
theorem zMI (enc:α→Value) (w:World) (g m:Nat) (dk:Array α) (os:Array Obj) : w.grownBy (sortWorld enc w g 0 m dk os) (some g):=by
 refine ⟨rfl,rfl,rfl,?_,fun k hk hne=>?_⟩
 ·simp [sortWorld,Go.Sort.grow,Go.Sort.putRow,Go.Sort.mapBlock,Go.Sort.ahead]
 ·have hk':k < (Go.Sort.putRow enc (Go.Sort.ahead w m) g 0 dk).heap.size:=by simpa [Go.Sort.putRow,Go.Sort.mapBlock,Go.Sort.ahead] using hk
  unfold sortWorld
  rw [Go.Sort.heap_grow_old _ _ hk']
  unfold Go.Sort.putRow Go.Sort.mapBlock
  simp only [Array.getElem?_modify]
  rw [if_neg (fun e=>hne (by rw [e]))]
  rfl
theorem sortWorld_row (enc:α→Value) (w:World) (g m:Nat) (dk:Array α) (os:Array Obj) (cur:Array Value) (e:TypeId) (q:Nat×Nat) (h:w.heap[g]? = some (.cells cur e q)) : (sortWorld enc w g 0 m dk os).heap[g]? = some (.cells (Go.Sort.putCells enc 0 dk cur) e q):=by
 have hg:=(Array.getElem?_eq_some_iff.1 h).1
 have hk':g < (Go.Sort.putRow enc (Go.Sort.ahead w m) g 0 dk).heap.size:=by simpa [Go.Sort.putRow,Go.Sort.mapBlock,Go.Sort.ahead] using hg
 unfold sortWorld
 rw [Go.Sort.heap_grow_old _ _ hk']
 unfold Go.Sort.putRow Go.Sort.mapBlock
 simp only [Array.getElem?_modify]
 rw [if_pos trivial]
 show (w.heap[g]?).map _=_
 rw [h]
 rfl
theorem putCells_take (enc:α→Value) (dk:Array α) (cur:Array Value) (n:Nat) (hn:dk.size=n) (hc:n≤cur.size) : (Go.Sort.putCells enc 0 dk cur).toList.take n=dk.toList.map enc:=by
 subst hn
 apply List.ext_getElem?
 intro k
 unfold Go.Sort.putCells
 by_cases hk:k < dk.size
 ·rw [List.getElem?_take_of_lt hk,Array.getElem?_toList,Array.getElem?_mapIdx,Array.getElem?_eq_getElem (by omega),List.getElem?_map,Array.getElem?_toList,Array.getElem?_eq_getElem hk]
  simp [hk,getElem!_pos dk k hk]
 ·rw [List.getElem?_eq_none (by simp;omega),List.getElem?_eq_none (by simp;omega)]
end
theorem sort_lists (w:World) (base g cap:Nat) (T:List (List Int)) (cs:List Value) (hown:w.ownsRow base 28 1 (.slice (some ⟨g,0,none⟩) T.length cap) T.length cs) (hr:zDW [3] zFT 1 w cs T) (h64:T.length≤1000) :
  Calls prog 134 #[.slice (some ⟨g,0,none⟩) T.length cap,.func (.func 85) #[] #[]] w fun e w'=>e = .returned (.tuple #[])∧w.grownBy w' (some g) ∧
   ∃ T' cs',w'.ownsRow base 28 1 (.slice (some ⟨g,0,none⟩) T.length cap) T.length cs'∧zDW [3] zFT 1 w' cs' T'∧T'.Perm T∧T'.Pairwise (fun a b=>zIP b a=false):=by
 have hat:=hr.at1
 have hval:∀ k,k < T.length→∃ a c,cs[k]? = some (.slice a (T.getD k []).length c)∧OnT [3] (fun w=>Sl zAJ 1 w (.slice a (T.getD k []).length c) (T.getD k [])) w:=fun k hk=>by
  obtain ⟨v,h1,h2⟩:=hat.2 k hk
  have h3:OnT [3] (fun w=>Sl zAJ 1 w v T[k]) w:=h2.mono (fun w h=>by obtain ⟨u,hu,hs⟩:=h;simp at hu;subst hu;exact hs)
  obtain ⟨a,c,rfl,_⟩:=zD h3.now
  have e:T.getD k []=T[k]:=by rw [List.getD_eq_getElem?_getD,List.getElem?_eq_getElem hk];rfl
  rw [e]
  exact ⟨a,c,h1,h3⟩
 obtain ⟨enc,henc⟩ : ∃ enc:Nat→Value,enc=fun i=>cs.getD i (.slice none 0 0):=⟨_,rfl⟩
 have hencv:∀ k,∃ a c,enc k = .slice a (T.getD k []).length c∧OnT [3] (fun w=>Sl zAJ 1 w (.slice a (T.getD k []).length c) (T.getD k [])) w:=fun k=>by
  by_cases hk:k < T.length
  ·obtain ⟨a,c,h1,h2⟩:=hval k hk
   refine ⟨a,c,?_,h2⟩
   rw [henc]
   simp [List.getD_eq_getElem?_getD,h1]
  ·have e1:T.getD k []=[]:=by rw [List.getD_eq_getElem?_getD,List.getElem?_eq_none (by omega)];rfl
   have e2:enc k = .slice none 0 0:=by rw [henc];simp only [List.getD_eq_getElem?_getD];rw [List.getElem?_eq_none (by rw [hat.1];omega)];rfl
   rw [e1,e2]
   exact ⟨none,0,rfl,fun w' _=>⟨none,0,rfl,by simp,fun k hk=>by simp at hk⟩⟩
 have hlen:=hat.1
 obtain ⟨d,hd⟩ : ∃ d:Array Nat,d=Array.range T.length:=⟨_,rfl⟩
 have hds:d.size=T.length:=by rw [hd];simp
 have hdi:∀ j,j < T.length→d[j]! = j:=fun j hj=>by rw [getElem!_pos d j (by omega)];subst hd;simp
 have h1:OneCell enc:=fun x=>by obtain ⟨a,c,h,_⟩:=hencv x;rw [h];rfl
 have hH:Go.Sort.Holds enc w g 0 d:=fun j hj=>by
  have hj':j < T.length:=by omega
  rw [hdi j hj',Nat.zero_add]
  refine ⟨?_,zFE hown j⟩
  obtain ⟨a,c,hc,_⟩:=hval j hj'
  have:=hown.cells (g:=g) rfl j _ hc
  rw [zBP] at this
  rw [this,henc]
  simp [List.getD_eq_getElem?_getD,hc]
 have hrow:∃ cur,w.heap[g]? = some (.cells cur 28 (0,0))∧T.length≤cap∧cap≤maxLen∧cur.size=cap:=by
  rcases hown.2 with ⟨h,_⟩ | ⟨g',cap',cur,h,_,hc,q1,q2,q3,_⟩
  ·cases h
  ·cases h;exact ⟨cur,hc,q1,q2,by omega⟩
 obtain ⟨cur,hcur,hcap,hcm,hcs⟩:=hrow
 have hkeep:∀ m (dk:Array Nat) os,zEK [3] w (sortWorld enc w g 0 m dk os):=fun m dk os=>zOU (zMI enc w g m dk os) (show Lay w g cur _ from hcur) (by decide)
 have hcmp:CmpLays1 prog 85 #[] enc (cfOf T) g 0 d.size w:=fun m os dk hs x y=>by
  obtain ⟨a,c,e1,o1⟩:=hencv x
  obtain ⟨a',c',e2,o2⟩:=hencv y
  rw [e1,e2]
  refine (zRM (sortWorld enc w g 0 m dk os) _ _ _ _ (o1.keep (hkeep m dk os)).now (o2.keep (hkeep m dk os)).now).mono ?_
  rintro e w' ⟨rfl,rfl⟩
  exact ⟨rfl,0,_,Go.Sort.alloc_eq_grow _ _⟩
 have hsort:=Any.slices_SortFunc Tryz.lays134 enc h1 (cfOf T) (cf_swo T) 85 #[] g 0 cap d w zRP hcmp hH (Array.getElem?_eq_some_iff.1 hcur).1 (by omega)
 rw [hds] at hsort
 refine hsort.mono ?_
 rintro e w' ⟨rfl,d',n,os,⟨hz,_,hp⟩,hso,rfl⟩
 rw [hds] at hz
 refine ⟨rfl,zMI _ _ _ _ _ _,d'.toList.map (fun i=>T.getD i []),d'.toList.map enc,?_,?_,?_,?_⟩
 ·refine ⟨by simp [hz],.inr ⟨g,cap,Go.Sort.putCells enc 0 d' cur,rfl,?_,sortWorld_row _ _ _ _ _ _ _ _ _ hcur,hcap,hcm,by simp [Go.Sort.putCells,hcs],?_⟩⟩
  ·exact (hown.lt g rfl).1
  ·rw [Nat.mul_one];exact putCells_take enc d' cur _ hz (by omega)
 ·refine rowIs_of1 (by simp) (fun k hk=>?_)
  simp only [List.length_map,Array.length_toList] at hk
  obtain ⟨a,c,e1,o1⟩:=hencv d'[k]
  refine ⟨enc d'[k],by simp [hk],?_⟩
  rw [e1]
  have:=(o1.keep (hkeep n d' os)).mono (Q:=fun w=>zFT w [.slice a (T.getD d'[k] []).length c] (T.getD d'[k] [])) (fun w h=>⟨_,rfl,h⟩)
  simpa using this
 ·have e1:d.extract 0 T.length=d:=by rw [← hds];simp
  have e2:d'.extract 0 T.length=d':=by rw [← hz];simp
  rw [e1,e2] at hp
  refine (hp.map _).trans (List.Perm.of_eq ?_)
  rw [hd]
  apply List.ext_getElem?
  intro k
  simp only [Array.toList_range,List.getElem?_map]
  by_cases hk:k < T.length
  ·rw [List.getElem?_range hk,List.getElem?_eq_getElem hk];simp [List.getD_eq_getElem?_getD,hk]
  ·rw [List.getElem?_eq_none (by simp;omega),List.getElem?_eq_none (by omega)];rfl
 ·rw [List.pairwise_map,List.pairwise_iff_getElem]
  intro i j hi hj hij
  rw [Array.length_toList] at hi hj
  have:=hso i j (by omega) hij (by omega)
  rw [cf_lt,getElem!_pos d' i hi,getElem!_pos d' j hj] at this
  simpa using this
end
section
open Go.RowKit Go.Shelf
attribute [local go_sem] zAN Oper.grows Oper.growUpon Oper.semAt_some
theorem zPL (O:List Int) : (zPC O).length=2 ^ O.length:=by
 have key:∀ (O:List Int) (A:List (List Int)),(O.foldl stepP A).length=A.length*2 ^ O.length:=by
  intro O
  induction O with
  | nil=>intro A;simp
  | cons x O ih =>
    intro A
    rw [List.foldl_cons,ih]
    simp only [stepP,List.length_append,List.length_map,List.length_cons,Nat.pow_succ]
    rw [← Nat.two_mul,Nat.mul_comm 2,Nat.mul_assoc,Nat.mul_comm 2]
 unfold zPC
 rw [key]
 simp
theorem opensTo_pre (N:List Note) (k:Nat) : ∃ M,zCA N=zAP N k++M:=by
 refine ⟨zCA (N.drop k),?_⟩
 unfold zCA zAP
 rw [← List.map_append,← List.filter_append,List.take_append_drop]
def RowsL (n0:Nat) (w:World) (q:Value) (T:List (List Int)) : Prop:=∃ cs,w.ownsRow n0 28 1 q T.length cs∧zDW [3] zFT 1 w cs T
theorem RowsL.ext {n0:Nat} {w w':World} {q:Value} {T:List (List Int)} (hb:Below w.heap.size w w') (h:RowsL n0 w q T) : RowsL n0 w' q T:=by
 obtain ⟨cs,h1,h2⟩:=h
 exact ⟨cs,zAA hb h1,h2.keep (zAQ hb)⟩
def KpT (A B:World) : Prop:=zEK [3,28] A B
theorem kpT_t {A B C:World} (h:KpT A B) (k:KpT B C) : KpT A C:=h.trans k
theorem zRK {es:List TypeId} {W:World} {l:Nat} {o:Obj} (o':Obj) (h:W.heap[l]? = some o) (hc:o.isCells=false) : zEK es W (W.putObj l o') :=
 fun k cur e q _ hk=>(World.putObj_heap_other (fun e'=>by subst e';rw [h] at hk;cases hk;cases hc)).trans hk
theorem kpT_b (W:World) (l:Nat) (o o':Obj) (h:W.heap[l]? = some o) (hc:o.isCells=false) : KpT W (W.putObj l o'):=zRK o' h hc
theorem zGF {w w':World} {base:Nat} {e:TypeId} {es:List TypeId} {sz n:Nat} {v:Value} {cs:List Value} (hk:zEK es w w') (he:e∈es) (h:w.ownsRow base e sz v n cs) : w'.ownsRow base e sz v n cs:=by
 obtain ⟨hl,h2⟩:=h
 refine ⟨hl,?_⟩
 rcases h2 with h2 | ⟨g,cap,cur,hv,hg,hc,h3⟩
 ·exact .inl h2
 ·exact .inr ⟨g,cap,cur,hv,hg,hk _ _ _ _ he hc,h3⟩
theorem onT_ints {w:World} {base:Nat} {v:Value} {xs:List Int} (h:w.ownsRow base 3 1 v xs.length (xs.map (Value.int .i64))) (hI:∀ x∈xs,I64 x) : OnT [3] (fun w=>Sl zAJ 1 w v xs) w:=fun w' k=>zBG (zGF k (by simp) h) hI
theorem sl_I64 {w:World} {v:Value} {xs:List Int} (h:Sl zAJ 1 w v xs) : ∀ x∈xs,I64 x:=fun x hx=>by
 obtain ⟨k,hk,rfl⟩:=List.getElem_of_mem hx
 obtain ⟨a,c,rfl,_⟩:=zD h
 obtain ⟨_,_,_,_,hI⟩:=(zZ h).2 k hk
 exact hI
theorem srt_perm {l c:List Int} (hl:l.Nodup) (hp:c.Perm l) (hs:c.Pairwise (fun a b=>a≤b)) : c=srt l:=by
 have hn:c.Nodup:=hp.nodup_iff.2 hl
 refine zQU ((hs.and hn).imp (fun ⟨a,b⟩=>by omega)) (srt_rise hl) (fun x=>?_)
 rw [zNS]
 exact hp.mem_iff
theorem allP_ok {R:List Issue} {N:List Note} (h:zDS R N) {k:Nat} (hk:k < N.length) (hs:N[k].sg=1) : (zPC (zAP N k)).length≤16∧zPC (zAP N (k+1))=stepP (zPC (zAP N k)) N[k].num∧∀ l∈zPC (zAP N k),l.length≤4∧(l++[N[k].num]).Nodup:=by
 have e:=zHD N k hk
 rw [if_pos hs] at e
 obtain ⟨M,hM⟩:=opensTo_pre N (k+1)
 have h5:=zNP h
 have hn:=zIJ h
 rw [hM] at h5 hn
 rw [e] at hn h5
 simp only [List.length_append,List.length_cons,List.length_nil] at h5
 have hn1:=(List.nodup_append.1 hn).1
 have hn2:=(List.nodup_append.1 hn1).1
 have hx:N[k].num ∉ zAP N k:=fun hx=>(List.nodup_append.1 hn1).2.2 _ hx _ (by simp) rfl
 refine ⟨?_,by rw [e,allP_snoc],fun l hl=>?_⟩
 ·rw [zPL]
  exact Nat.pow_le_pow_right (n:=2) (by decide) (show (zAP N k).length≤4 by omega)
 ·have hT:=(allP_mem hn2 l).1 hl
  refine ⟨?_,zOF (zHT hT.1) (fun h=>hx (hT.2 _ h))⟩
  have:=List.Nodup.length_le_of_subset (zHT hT.1) (fun y hy=>hT.2 y hy)
  omega
def GT (N:List Note) (t:List Int×Value) (W:World) : Prop:=OnT [3] (fun W=>Sl zAJ 1 W t.2 t.1) W∧IsT (zCA N) t.1
theorem zRW (n:Nat) (hn:1≤n) (w0:World) (gb:Nat) (vn:Value) (R:List Issue) (N:List Note) (hbox:zJ w0 gb 1 vn) (hN:Sl zBM 10 w0 vn N) (hok:zDS R N) :
  SeqStopsH Fence.wide n prog 131 #[.pointer (some ⟨gb,0,none⟩)] (fun t:List Int×Value=>#[t.2]) (GT N) KpT
   (fun xs=>(Ord (xs.map (fun t=>t.1))∧∀ l,l∈xs.map (fun t=>t.1)↔IsT (zCA N) l)∧xs.length≤32) (fun _=>True) 33 w0:=by
 intro l J Jx W hW hJ hJx hY h0
 obtain ⟨i0,hif,iz0,iz1,iz2⟩:=info_parts zDM
 obtain ⟨l0,hlf,lz0,lz1,lz2⟩:=info_parts zPT
 obtain ⟨an,cn,rfl,hmn⟩:=zD hN
 have HN:=zF (zI zS hW hN)
 have HOK:=zF hok
 have h12:N.length≤12:=hok.1
 have hba:=zB W (.cells #[.slice none 0 0] 28)
 have k1:=zC (zA hW hba) hbox
 have hr0:RowsL W.heap.size (W.alloc (.cells #[.slice none 0 0] 28)) (.slice (some ⟨W.heap.size,0,none⟩) 1 1) (zPC (zAP N 0)):=by
  refine ⟨[.slice none 0 0],World.ownsRow_lit W #[.slice none 0 0] 1 (Nat.le_refl _) (by decide) rfl,?_⟩
  have:=(zJK [3] zFT 1 (W.alloc (.cells #[.slice none 0 0] 28))).snoc (vs:=[.slice none 0 0]) (x:=([] : List Int)) rfl (fun w' _=>⟨_,rfl,none,0,rfl,by simp,fun k hk=>by simp at hk⟩)
  exact this
 have HR0:=zF hr0
 have HBA:=zF hba
 unfold zJ at k1
 clear hr0 hba
 refine callsIn_of_wp func131 rfl trivial ?_ rfl
 simp only [ntmps131,List.size_toArray,List.length_cons,List.length_nil,Nat.reduceAdd,Nat.reduceSub,Array.replicate_succ,Array.replicate_zero,List.push_toArray,List.append_toArray,List.nil_append,List.cons_append]
 gi_wp2_with fail
 refine wpIn_wide.2 ?_
 go_wp2
 clear k1
 go_loopw [3,15] (fun q i wr=>∃ k:Nat,i = .int .i64 k∧k≤N.length∧Hid (RowsL W.heap.size wr q (zPC (zAP N k)))∧Hid (Below W.heap.size W wr)) (fun _ i _=>N.length - (intOf i).toNat)
 case atStart=>exact ⟨0,rfl,by omega,HR0,HBA⟩
 case round =>
  clear HR0 HBA
  obtain ⟨k,rfl,hk,HR,HB⟩:=hrel
  by_cases hlt:k < N.length
  case neg =>
   obtain rfl:k=N.length:=by omega
   have hTo:zAP N N.length=zCA N:=by unfold zAP zCA;rw [List.take_length]
   have hT32:(zPC (zAP N N.length)).length≤32:=by
    rw [hTo,zPL]
    exact Nat.pow_le_pow_right (n:=2) (by decide) (zNP HOK.out)
   have hTm:Hid (∀ l,l∈zPC (zAP N N.length)↔IsT (zCA N) l):=fun l=>by rw [hTo];exact allP_mem (zIJ HOK.out) l
   have hTn:Hid ((zPC (zAP N N.length)).Nodup):=by unfold Hid;rw [hTo];exact allP_nodup (zIJ HOK.out)
   have hTp:0 < (zPC (zAP N N.length)).length:=by rw [zPL];exact Nat.two_pow_pos _
   generalize zPC (zAP N N.length)=T at *
   obtain ⟨cs,hown,hrow⟩:=HR.out
   have hsh:∃ g cap,u3 = .slice (some ⟨g,0,none⟩) T.length cap:=by
    obtain ⟨g,cap,hv⟩:=zCT (show _=_∧_ from by rw [show T.length=T.length - 1+1 by omega] at hown;exact hown)
    exact ⟨g,cap,by rw [hv,show T.length - 1+1=T.length by omega]⟩
   obtain ⟨g,cap,rfl⟩:=hsh
   have hgW:=(hown.lt g rfl).1
   have hcall:=sort_lists wr W.heap.size g cap T cs hown hrow (by omega)
   clear hown hrow HR
   go_wp2
   gi_wp2_with (refine ⟨trivial,?_⟩;gi_at_call 134;refine (callsIn_wide.2 hcall).mono ?_;rintro e w5 ⟨rfl,hg5,T',cs',hown5,hrow5,hperm,hpw⟩)
   have hb5:=HB.out.grown hg5 HB.out.size (fun r e=>by cases e;exact hgW)
   have hJ5:=hJ _ _ _ h0 hb5
   have hlen:T.length=T'.length:=hperm.length_eq.symm
   have hOrd:Hid (Ord T'):=by
    have hn:T'.Nodup:=hperm.nodup_iff.2 hTn.out
    refine (hpw.and hn).imp (fun {a b} ⟨h1,h2⟩=>?_)
    by_cases e:zIP a b=true
    ·exact e
    ·exact absurd (zSC a b (by simpa using e) h1) h2
   have hmem:Hid (∀ l,l∈T'↔IsT (zCA N) l):=fun l=>by rw [hperm.mem_iff];exact hTm.out l
   rw [hlen] at hown5 ⊢
   have hT32':T'.length≤32:=by omega
   have H5:=zF (And.intro hown5 hrow5)
   clear hcall hg5 hb5 hown5 hrow5 hperm hpw hlen hT32 hTp
   gi_loopw [46] (fun i wi=>∃ (k:Nat) (pre:List (List Int×Value)),i = .int .i64 k∧k≤T'.length∧J pre wi∧Hid (pre.map (·.1)=T'.take k)∧Hid (wi.ownsRow W.heap.size 28 1 (.slice (some ⟨g,0,none⟩) T'.length cap) T'.length cs'∧zDW [3] zFT 1 wi cs' T')) (fun i _=>T'.length - (intOf i).toNat)
   case atStart=>exact ⟨0,[],rfl,by omega,hJ5,zF rfl,H5⟩
   case round =>
    clear H5 hJ5
    obtain ⟨k,pre,rfl,hk,hJs,HP,HH⟩:=hrel
    by_cases hlt:k < T'.length
    case neg =>
     obtain rfl:k=T'.length:=by omega
     gi_wp2
     go_end0
     refine ⟨⟨_,rfl⟩,.inl ⟨pre,?_,hJs⟩⟩
     have hpl:=congrArg List.length HP.out
     rw [List.length_map,List.take_length] at hpl
     refine ⟨?_,by omega⟩
     show Ord (pre.map (·.1))∧∀ l,l∈pre.map (·.1)↔IsT (zCA N) l
     rw [HP.out,List.take_length]
     exact ⟨hOrd.out,hmem.out⟩
    case pos =>
     obtain ⟨vx,hcx,hox⟩:=HH.out.2.at1.2 k hlt
     have hx:OnT [3] (fun w=>Sl zAJ 1 w vx T'[k]) wr:=hox.mono (fun w h=>by obtain ⟨u,hu,hs⟩:=h;simp at hu;subst hu;exact hs)
     have hc:=HH.out.1.cells (g:=g) rfl k _ hcx
     rw [zBP] at hc
     have hpl:pre.length < 33:=by
      have:=congrArg List.length HP.out
      rw [List.length_map,List.length_take] at this
      omega
     have htk:Hid ((pre++[(T'[k],vx)]).map (·.1)=T'.take (k+1)):=by
      unfold Hid
      rw [List.map_append,HP.out,List.take_succ_eq_append_getElem hlt]
      rfl
     obtain ⟨fn,tmps,assign,body,hy,hR⟩:=hY pre (T'[k],vx) wr hJs ⟨hx,(hmem.out _).1 (List.getElem_mem hlt)⟩ hpl
     simp only at hy
     generalize T'[k]=t at *
     have hkl:(k:Int) < T'.length:=by omega
     clear hox hx hcx
     gi_wp2
     refine hR.mono ?_
     rintro e W3 (⟨rfl,hJ4,hk4⟩ | ⟨rfl,hJx4⟩)
     ·have HE:Hid (W3.ownsRow W.heap.size 28 1 (.slice (some ⟨g,0,none⟩) T'.length cap) T'.length cs'∧zDW [3] zFT 1 W3 cs' T') :=
       ⟨zGF hk4 (by simp) HH.out.1,HH.out.2.keep (hk4.sub (by simp))⟩
      gi_wp2
      go_roundw
      ·exact ⟨k+1,_,by go_num,by omega,hJ4,htk,HE⟩
      ·simp [intOf];omega
     ·gi_wp2
      refine bodyPost_ret (results_none rfl _ _ _) rfl ?_
      exact ⟨⟨_,rfl⟩,.inr ⟨_,trivial,hJx4⟩⟩
  case pos =>
   obtain ⟨bn,on,rfl,⟨q0,q1,q2,q3,q4,q5,q6,q7,q8,q9⟩,hnum⟩:=(zZ (zI zS HB.out HN.out)).2 k hlt
   have hsucc:=zF (zHD N k hlt)
   have hopen:=zF (fun h=>allP_ok HOK.out hlt h)
   generalize N[k]=x at *
   obtain ⟨x0,x1,x2,x3,x4,x5,x6,x7,x8,x9⟩:=x
   simp only at *
   have hkl:(k:Int) < N.length:=by omega
   have hba:=zB wr (.cells #[.int .i64 x0,.int .i64 x1,.int .u8 x2,.int .i64 x3,.int .i64 x4,.int .i64 x5,.int .i64 x6,.int .i64 x7,.bool x8,.int .u8 x9] 147)
   have hlx:=Lay.new wr 147 #[.int .i64 x0,.int .i64 x1,.int .u8 x2,.int .i64 x3,.int .i64 x4,.int .i64 x5,.int .i64 x6,.int .i64 x7,.bool x8,.int .u8 x9]
   have HRA:=zF (HR.out.ext hba)
   have HBA:=zF (zA HB.out hba)
   have HLX:=zF hlx
   unfold zJ at q0 q1 q2 q3 q4 q5 q6 q7 q8 q9
   clear hba hlx HR
   by_cases hsg:x2=1
   case neg =>
    have hsg':(x2 != 1)=true:=by simpa using hsg
    have HE:Hid (zAP N (k+1)=zAP N k):=by unfold Hid;rw [hsucc.out,if_neg hsg,List.append_nil]
    clear hopen hsucc hsg
    go_wp2
    go_roundw
    ·exact ⟨k+1,by go_num,by omega,by rw [HE.out];exact HRA,HBA⟩
    ·simp [intOf];omega
   case pos =>
    have HOP:=zF (hopen.out hsg)
    subst hsg
    clear hopen hsucc
    have hT16:=HOP.out.1
    have hTp:0 < (zPC (zAP N k)).length:=by rw [zPL];exact Nat.two_pow_pos _
    have HT1:=zF HOP.out.2.1
    have HTL:=zF HOP.out.2.2
    generalize zPC (zAP N k)=T at *
    clear HOP
    obtain ⟨cs,hown,hrow⟩:=HRA.out
    have hsh:∃ g cap,u3 = .slice (some ⟨g,0,none⟩) T.length cap:=by
     obtain ⟨g,cap,hv⟩:=zCT (show _=_∧_ from by rw [show T.length=T.length - 1+1 by omega] at hown;exact hown)
     exact ⟨g,cap,by rw [hv,show T.length - 1+1=T.length by omega]⟩
    obtain ⟨g,cap,rfl⟩:=hsh
    have hcl:=hrow.at1.1
    have HOWN:=zF hown
    have HROW:=zF hrow
    have hgl:=(hown.lt g rfl).2
    have hcells:Hid (∀ m v,cs[m]? = some v→zJ (wr.alloc (.cells #[.int .i64 x0,.int .i64 x1,.int .u8 1,.int .i64 x3,.int .i64 x4,.int .i64 x5,.int .i64 x6,.int .i64 x7,.bool x8,.int .u8 x9] 147)) g m v):=fun m v hm=>by
     have:=hown.cells (g:=g) rfl m v hm
     rw [zBP] at this
     exact this
    clear hown hrow HRA
    go_wp2
    clear q0 q1 q2 q3 q4 q5 q6 q7 q8 q9
    generalize wr=wb at *
    generalize wb.alloc _=wA at *
    have hHB:=HB
    go_loopw [3,24] (fun q i wi=>∃ (j:Nat) (cs2:List Value),i = .int .i64 j∧j≤T.length∧Hid (wi.ownsRow W.heap.size 28 1 q (T.length+j) (cs++cs2)∧zDW [3] zFT 1 wi (cs++cs2) (T++(T.take j).map fun l=>srt (l++[x0]))) ∧
     Hid ((∀ m v,cs[m]? = some v→zJ wi g m v)∧zEK [3,147] wA wi∧Below W.heap.size W wi)) (fun _ i _=>T.length - (intOf i).toNat)
    case atStart=>exact ⟨0,[],rfl,by omega,zF ⟨by simpa using HOWN.out,by simpa using HROW.out⟩,zF ⟨hcells.out,zNG _ _,HBA.out⟩⟩
    case round =>
     obtain ⟨j,cs2,rfl,hj,HQ,HH⟩:=hrel
     by_cases hlj:j < T.length
     case neg =>
      obtain rfl:j=T.length:=by omega
      have HE:Hid (RowsL W.heap.size wr u3 (stepP T x0)):=by
       refine ⟨cs++cs2,?_,?_⟩
       ·have:=HQ.out.1
        unfold stepP
        rw [List.length_append,List.length_map]
        exact this
       ·have:=HQ.out.2
        rw [List.take_length] at this
        exact this
      go_wp2
      go_roundw
      ·exact ⟨k+1,by go_num,by omega,by rw [HT1.out];exact HE,zF HH.out.2.2⟩
      ·simp [intOf];omega
     case pos =>
      obtain ⟨vx,hcx,hox⟩:=HROW.out.at1.2 j hlj
      have hx:OnT [3] (fun w=>Sl zAJ 1 w vx T[j]) wA:=hox.mono (fun w h=>by obtain ⟨u,hu,hs⟩:=h;simp at hu;subst hu;exact hs)
      have hlT:=HTL.out _ (List.getElem_mem hlj)
      have htk:Hid ((T.take (j+1)).map (fun l=>srt (l++[x0]))=(T.take j).map (fun l=>srt (l++[x0]))++[srt (T[j]++[x0])]):=by
       unfold Hid
       rw [List.take_succ_eq_append_getElem hlj,List.map_append]
       rfl
      obtain ⟨ax,cx,rfl,_⟩:=zD hx.now
      have hc0:=HH.out.1 _ _ hcx
      have hxw:=(hx.weak (fs:=[3,147]) (by simp)).keep HH.out.2.1
      have hlw:Lay wr wb.heap.size _ _:=HH.out.2.1 _ _ _ _ (by simp) HLX.out
      generalize T[j]=l at *
      have HXW:=zF hxw.now
      have hjl:(j:Int) < T.length:=by omega
      have c0:=zG (show zJ wr wb.heap.size 0 _ from hlw.cell 0 _ rfl)
      unfold zJ at hc0
      have HLT:=zF hlT
      clear hxw hox hx hcx hlw hlT
      go_wp2
      clear hc0
      refine zK 5 (by kernel_rfl) (by kernel_rfl) ?_
      simp only [tk_]
      apply gx_;focus (intro vs xq hd;(try simp [hq_] at hd);simp only [pf_];go_simp;exact ⟨br_,rfl⟩)
      refine zL (fun v w'=>New zAJ 1 3 wr.heap.size w' v l) (fun v w w' hb h=>h.ext zN hb) ?_ ?_
      ·intro vs xq hd
       (try simp [hq_] at hd)
       simp only [pf_]
       go_simp
       refine (clone_int (wr.later xq) _ l (zI zN (zE wr xq) HXW.out) (by have:=HLT.out.1;omega)).mono ?_
       rintro e w9 ⟨v,rfl,hN9,hb9⟩
       exact ⟨v,rfl,hb9,hN9.weak (zE wr xq).size⟩
      iterate 2 (apply gx_;focus (intro vs xq hd;(try simp [hq_] at hd);simp only [pf_];go_simp;exact ⟨br_,rfl⟩))
      refine zL (zGT x0) (zCN x0) ?_ ?_
      ·intro vs xq hd
       (try simp [hq_] at hd)
       simp only [pf_]
       go_simp
       exact ⟨zB _ _,_,rfl,zU _ _ _ 0 _ rfl⟩
      refine zT rfl (fun vs xq hd=>?_)
      simp [zV,zAD,List.range,List.range.loop] at hd
      simp only [pf_]
      obtain ⟨e0,hN9,e2,e3,bb,e4,hbb⟩:=hd
      simp only [Nat.zero_add,Nat.reduceAdd] at e0 hN9 e2 e3 e4 hbb ⊢
      simp only [e0,e2,e3,e4]
      have hb8:=zE wr xq
      obtain ⟨hslv,cv,hownv⟩:=hN9
      have hcv:=own_ints hslv hownv
      subst hcv
      have HOV:=zF hownv
      have hs8:=hb8.size
      have hb1:∀ m u,[Value.int .i64 x0][m]? = some u→(wr.later xq).cell? ((⟨bb,0,none⟩ : Addr).add m)=some u:=fun m u hm=>by
       rw [zBP]
       cases m with
       | zero=>simp at hm;subst hm;exact hbb
       | succ m=>simp at hm
      have hl5:l.length≤4:=HLT.out.1
      have hxI:=zF (fun x (hx:x∈l)=>sl_I64 HXW.out x hx)
      clear e0 e2 e3 e4 hslv hownv c0
      generalize vs 1=v1 at *
      generalize hw8:wr.later xq=w8 at *
      clear hw8
      go_wp2_with (at_builtin;refine wpList_append_own _ rfl _ _ 28 rfl wr.heap.size 3 i0 (.int .i64 0) 1 8 underlying28 hif iz0 iz1 iz2 rfl (by decide) _ _ _ rfl HOV.out ⟨bb,0,none⟩ 1 1 [.int .i64 x0] rfl rfl hb1 (by intro u hu;simp at hu;subst hu;rfl) (by unfold maxLen;omega) (by omega) (by omega) ?_;intro v' w4 hown' hgrow _;obtain ⟨g2,cap2,rfl⟩:=zCT hown')
      have hb4:=hb8.grown hgrow hs8 (fun r e=>(HOV.out.lt r e).1)
      have hown4:w4.ownsRow wr.heap.size 3 1 (.slice (some ⟨g2,0,none⟩) (l.length+1) cap2) (l++[x0]).length ((l++[x0]).map (Value.int .i64)):=by
       rw [List.map_append,List.length_append]
       exact hown'
      have HB4:=zF hb4
      clear hown' hgrow hb4 hb1
      refine (sort_ints w4 wr.heap.size _ (l++[x0]) (by rw [List.length_append];simp;omega) hown4).mono ?_
      rintro e w5 ⟨⟨u,rfl⟩,hg5,ls,hown5,hperm,hrise⟩
      have hls:=srt_perm HLT.out.2 hperm hrise
      have hlen5:(l++[x0]).length=ls.length:=hperm.length_eq.symm
      rw [hlen5] at hown5
      have hb5:=HB4.out.grown hg5 HB4.out.size (fun r e=>(hown4.lt r e).1)
      have hlI:∀ x∈ls,I64 x:=fun x hx=>by
       rcases List.mem_append.1 (hperm.mem_iff.1 hx) with h | h
       ·exact hxI.out x h
       ·simp at h;subst h;exact hnum.1
      have hon5:=onT_ints hown5 hlI
      clear hlen5
      have HON5:=zF hon5
      have HB5:=zF hb5
      have HLS:=zF hls
      have hOQ:=zF (zAA hb5 HQ.out.1)
      have hRQ:=zF (HQ.out.2.keep (zAQ hb5))
      have hs5:=(zA HH.out.2.2 hb5).size
      clear hown4 hg5 hown5 hperm hrise hls hb5 hlI hon5 HB4 HOV
      go_wp2_with (at_builtin;refine zMY rfl _ _ 56 rfl W.heap.size 28 l0 (.slice none 0 0) 1 24 underlying56 hlf lz0 lz1 lz2 rfl (by decide) _ _ _ rfl (hOQ.out.alloc _) ⟨w5.heap.size,0,none⟩ 1 1 [.slice (some ⟨g2,0,none⟩) (l.length+1) cap2] rfl rfl (cell_one_new _ _ _) (by simp [Value.oneCell']) (by unfold maxLen;omega) (by omega) (by simp;omega) ?_;intro v' w7 ho7 hg7 hk7)
      have hba:=zB w5 (.cells #[.slice (some ⟨g2,0,none⟩) (l.length+1) cap2] 28)
      have hb6:=zA HB5.out hba
      have hK1:zEK [3,147] wr w7:=(zAQ hb6).trans (zCE hg7 (hOQ.out.alloc _) (by decide))
      have hK2:zEK [3] w5 w7:=(zAQ hba).trans (zCE hg7 (hOQ.out.alloc _) (by decide))
      have HE:Hid (w7.ownsRow W.heap.size 28 1 v' (T.length+(j+1)) (cs++(cs2++[.slice (some ⟨g2,0,none⟩) (l.length+1) cap2]))∧zDW [3] zFT 1 w7 (cs++(cs2++[.slice (some ⟨g2,0,none⟩) (l.length+1) cap2])) (T++(T.take (j+1)).map fun l=>srt (l++[x0]))):=by
       rw [htk.out,← List.append_assoc,← List.append_assoc,← HLS.out]
       refine ⟨ho7,(hRQ.out.keep hK2).snoc rfl ((HON5.out.keep hK2).mono (fun w h=>⟨_,rfl,h⟩))⟩
      have HE2:Hid ((∀ m v,cs[m]? = some v→zJ w7 g m v)∧zEK [3,147] wA w7∧Below W.heap.size W w7):=by
       refine ⟨fun m v hm=>?_,HH.out.2.1.trans hK1,(zA HH.out.2.2 hb6).grown hg7 (zA HH.out.2.2 hb6).size (fun r e=>(hOQ.out.lt r e).1)⟩
       have hc:=HH.out.1 m v hm
       by_cases e:u3.ownBlock=some g
       ·exact hk7 g e m v (by rw [List.getElem?_append_left (by have:=(List.getElem?_eq_some_iff.1 hm).1;omega)];exact hm)
       ·exact zAG (hg7.block g (zAF (zC hb6 hc)) (fun e'=>e e'.symm)) (zC hb6 hc)
      clear ho7 hg7 hk7 hK1 hK2
      go_wp2
      go_roundw
      ·exact ⟨j+1,_,by go_num,by omega,HE,HE2⟩
      ·simp [intOf];omega
end
section
open Go.RowKit Go.Shelf
attribute [local go_sem] zAN Oper.grows Oper.growUpon Oper.semAt_some
structure KeepM (es:List TypeId) (w w':World) : Prop where
 cells:zEK es w w'
 maps:∀ (k:Nat) a c,w.heap[k]? = some (Obj.map a c)→w'.heap[k]? = some (Obj.map a c)
theorem KeepM.trans {es:List TypeId} {w w1 w2:World} (h:KeepM es w w1) (k:KeepM es w1 w2) : KeepM es w w2:=⟨h.cells.trans k.cells,fun b a c hb=>k.maps b a c (h.maps b a c hb)⟩
theorem zFA {es:List TypeId} {w w':World} (hb:Below w.heap.size w w') : KeepM es w w':=⟨zAQ hb,fun k _ _ hk=>(hb.block k (Array.getElem?_eq_some_iff.1 hk).1).trans hk⟩
theorem keepM_grown {es:List TypeId} {e:TypeId} {w w':World} {v:Value} {sz n:Nat} {cs:List Value} {base:Nat} (hgr:w.grownBy w' v.ownBlock) (hown:w.ownsRow base e sz v n cs) (hne:e ∉ es) : KeepM es w w' :=
 ⟨zCE hgr hown hne,fun k a c hk=>(hgr.block k (Array.getElem?_eq_some_iff.1 hk).1 (fun h=>by
  rcases hown.2 with ⟨rfl,_⟩ | ⟨g,cap,cur,rfl,_,hcur,_⟩
  ·cases h
  ·have e':k=g:=Option.some.inj h
   subst e'
   rw [hcur] at hk
   cases hk)).trans hk⟩
theorem keepM_set {es:List TypeId} {w:World} {g j:Nat} {u:Value} {cur:Array Value} {e:TypeId} (hg:Lay w g cur e) (hne:e ∉ es) : KeepM es w (w.setCell ⟨g,j,none⟩ u) :=
 ⟨zHV hg hne,fun k a c hk=>(Below.heap_setCell w ⟨g,j,none⟩ u k (fun h=>by
  have h':k=g:=h
  subst h'
  have hg':w.heap[k]? = some (.cells cur e (0,0)):=hg
  rw [hg'] at hk
  cases hk)).trans hk⟩
theorem zMB {es:List TypeId} {W:World} {l:Nat} {o:Obj} (o':Obj) (h:W.heap[l]? = some o) (hc:o.isCells=false) (hw:o.isWalk=false) : KeepM es W (W.putObj l o') :=
 ⟨zRK o' h hc,fun k a c hk=>(World.putObj_heap_other (fun e'=>by subst e';rw [h] at hk;cases hk;cases hw)).trans hk⟩
theorem zFX.keepM {es:List TypeId} {w w':World} {b n:Nat} {f:Int→Option Value} (hk:KeepM es w w') (h:zFX w b n f) : zFX w' b n f:=by
 obtain ⟨a,c,hm⟩:=h.is
 exact h.same ((hk.maps b a c hm).trans hm.symm)
theorem keeps_own {w w':World} {v:Value} {sz n:Nat} {cs:List Value} {base:Nat} {e:TypeId} (hgr:w.grownBy w' v.ownBlock) (hown:w.ownsRow base e sz v n cs) : KeepsOthers w w' :=
 ⟨hgr.size,fun k o hk ho=>(hgr.block k (Array.getElem?_eq_some_iff.1 hk).1 (fun h=>by
  rcases hown.2 with ⟨rfl,_⟩ | ⟨g,cap,cur,rfl,_,hcur,_⟩
  ·cases h
  ·have e':k=g:=Option.some.inj h
   subst e'
   rw [hcur] at hk
   cases hk
   cases ho)).trans hk⟩
abbrev esF:List TypeId:=[120,164,3,38]
theorem zJH.keepM {w w':World} {p:Nat} {vr vn vm vh vs vz:Value} {b:Built} {S:List Int} (hk:KeepM esF w w') (h:zJH w p vr vn vm vh vs vz b S) : zJH w' p vr vn vm vh vs vz b S:=by
 obtain ⟨vhas,cs,base,h0,h1,h2⟩:=h
 refine ⟨vhas,cs,base,hk.cells _ _ _ _ (by simp) h0,zGF hk.cells (by simp) h1,fun i hi=>?_⟩
 obtain ⟨mb,k,h3,h4⟩:=h2 i hi
 exact ⟨mb,k,h3,h4.keepM hk⟩
structure FindP (w:World) (vr vn vm vh vs:Value) (b:Built) (x:Fnd) (S:List Int) : Prop where
 mem:∃ vz,zJH w x.p vr vn vm vh vs vz b S∧OnT [3] (fun w=>Sl zAJ 1 w vz S) w
 cnt:∃ L base,siteL b S=some L∧x.n=L.length∧w.ownsRow base 38 2 (.slice x.a x.n x.c) L.length (L.flatMap encS)∧NumsOk L
theorem FindP.keepM {w w':World} {vr vn vm vh vs:Value} {b:Built} {x:Fnd} {S:List Int} (hk:KeepM esF w w') (h:FindP w vr vn vm vh vs b x S) : FindP w' vr vn vm vh vs b x S:=by
 obtain ⟨⟨vz,h1,h2⟩,L,base,h3,h4,h5,h6⟩:=h
 exact ⟨⟨vz,h1.keepM hk,h2.keep (hk.cells.sub (by simp))⟩,L,base,h3,h4,zGF hk.cells (by simp) h5,h6⟩
theorem FindP.found {w:World} {vr vn vm vh vs:Value} {b:Built} {x:Fnd} {S:List Int} (h:FindP w vr vn vm vh vs b x S) (hB:BuiltAt w vr vn vm vh vs b) : ∃ vz L,FoundAt w x.p vr vn vm vh vs vz (.slice x.a x.n x.c) b S L∧siteL b S=some L:=by
 obtain ⟨⟨vz,h1,h2⟩,L,base,h3,h4,h5,h6⟩:=h
 exact ⟨vz,L,⟨⟨h1.row,hB,h2.now⟩,spans_of_own h5 h6⟩,h3⟩
structure Finds (w:World) (n1:Nat) (v:Value) (fs:List Fnd) (vr vn vm vh vs:Value) (b:Built) (A:List (List Int)) : Prop where
 row:w.ownsRow n1 95 2 v fs.length (fs.flatMap encF)
 len:fs.length=A.length
 at_:∀ k (hk:k < fs.length) (hk':k < A.length),FindP w vr vn vm vh vs b fs[k] A[k]
theorem encF_at (fs:List Fnd) (k:Nat) (hk:k < fs.length) : (fs.flatMap encF)[k*2]? = some (.pointer (some ⟨fs[k].p,0,none⟩))∧(fs.flatMap encF)[k*2+1]? = some (.slice fs[k].a fs[k].n fs[k].c):=by
 induction fs generalizing k with
 | nil=>simp at hk
 | cons x fs ih =>
   cases k with
   | zero=>simp [encF]
   | succ k =>
     have:=ih k (by simpa using hk)
     have e1:(k+1)*2=k*2+1+1:=by omega
     simp only [List.flatMap_cons,encF,List.cons_append,List.nil_append,List.getElem_cons_succ,e1,List.getElem?_cons_succ]
     exact this
theorem finds_sl {w:World} {n1:Nat} {v:Value} {fs:List Fnd} (h:w.ownsRow n1 95 2 v fs.length (fs.flatMap encF)) : Sl AtFnd 2 w v fs:=by
 have h':=h
 obtain ⟨_,h2⟩:=h
 rcases h2 with ⟨rfl,hn⟩ | ⟨g,cap,cur,rfl,_,_,hc,hcm,_⟩
 ·exact ⟨none,0,by rw [hn],by omega,fun k hk=>by omega⟩
 ·refine ⟨some ⟨g,0,none⟩,cap,rfl,by unfold maxLen at hcm;omega,fun k hk=>⟨g,0,rfl,?_,?_⟩⟩
  ·have:=h'.cells (g:=g) rfl _ _ (encF_at fs k hk).1
   rw [zBP] at this
   unfold zJ
   simpa using this
  ·have:=h'.cells (g:=g) rfl _ _ (encF_at fs k hk).2
   rw [zBP] at this
   unfold zJ
   simpa using this
open Classical in
noncomputable def zGV (b:Built) (T:List (List Int)) : List (List Int):=T.filter (fun S=>decide (zII b S))
theorem zNH {b:Built} {T:List (List Int)} {S:List Int} (h:zII b S) : zGV b (T++[S])=zGV b T++[S]:=by unfold zGV;rw [List.filter_append];simp [h]
theorem leftOf_no {b:Built} {T:List (List Int)} {S:List Int} (h:¬ zII b S) : zGV b (T++[S])=zGV b T:=by unfold zGV;rw [List.filter_append];simp [h]
theorem leftOf_is {b:Built} {T:List (List Int)} (hO:Ord T) (hm:∀ l,l∈T↔IsT (zCA b.ns.notes) l) : zBH b=zGV b T :=
 zRZ ⟨hO.filter _,fun l=>by unfold zGV;rw [List.mem_filter,hm];simp⟩
theorem leftOf_len (b:Built) (T:List (List Int)) : (zGV b T).length≤T.length:=List.length_filter_le _ _
theorem Finds.keepM {w w':World} {n1:Nat} {v:Value} {fs:List Fnd} {vr vn vm vh vs:Value} {b:Built} {A:List (List Int)} (hk:KeepM (95 :: esF) w w') (h:Finds w n1 v fs vr vn vm vh vs b A) : Finds w' n1 v fs vr vn vm vh vs b A :=
 ⟨zGF hk.cells (by simp) h.row,h.len,fun k h1 h2=>(h.at_ k h1 h2).keepM ⟨hk.cells.sub (fun e he=>List.mem_cons_of_mem _ he),hk.maps⟩⟩
theorem truths_val (w:World) (ar an:Option Addr) (nr cr nn cn:Nat) : Calls prog 98 #[.agg #[.slice ar nr cr,.slice an nn cn]] w fun e w'=>e = .returned (.func (.func 131) #[] #[.pointer (some ⟨w.heap.size,0,none⟩)])∧w'=w.alloc (.cells #[.slice ar nr cr,.slice an nn cn] 27):=by
 go_enter func98,ntmps98
 go_wp2
 go_ret
 exact ⟨rfl,rfl⟩
theorem infoFnd:(prog.info? 95).map (fun i=>(i.zero,i.size,i.bytes))=some (some (.agg #[.pointer none,.slice none 0 0]),2,32):=by kernel_rfl
structure OpenO (w W:World) (B5 n1:Nat) (vr vn vm vh vs:Value) (b:Built) (T:List (List Int)) : Prop where
 below:Below w.heap.size w W
 box:Lay W w.heap.size #[vr,vn,.int .i64 b.of,vm,vh,vs] 32
 row:∃ v fs,Lay W B5 #[v] 84∧Finds W n1 v fs vr vn vm vh vs b (zGV b T)
theorem OpenO.grow {w W W':World} {B5 n1:Nat} {vr vn vm vh vs:Value} {b:Built} {T:List (List Int)} (hb:Below W.heap.size W W') (h:OpenO w W B5 n1 vr vn vm vh vs b T) : OpenO w W' B5 n1 vr vn vm vh vs b T:=by
 obtain ⟨h1,hx,v,fs,h2,h3⟩:=h
 exact ⟨zA h1 hb,hx.ext hb,v,fs,h2.ext hb,h3.keepM (zFA hb)⟩
theorem OpenO.no {w W:World} {B5 n1:Nat} {vr vn vm vh vs:Value} {b:Built} {T:List (List Int)} {S:List Int} (hn:¬ zII b S) (h:OpenO w W B5 n1 vr vn vm vh vs b T) : OpenO w W B5 n1 vr vn vm vh vs b (T++[S]):=by
 obtain ⟨h1,hx,v,fs,h2,h3⟩:=h
 exact ⟨h1,hx,v,fs,h2,by rw [leftOf_no hn];exact h3⟩
theorem open_built (w:World) (vr vn vm vh vs:Value) (b:Built) (hA:BuiltArg w vr vn vm vh vs b) (hK:KindsAt w) :
  Calls prog 52 #[.agg #[vr,vn,.int .i64 b.of,vm,vh,vs]] w fun e w'=>Below w.heap.size w w'∧∃ v,e = .returned (.tuple #[v,.int .i64 (zM b)])∧(∃ a n c,v = .slice a n c) ∧
   (zM b=0→∃ n1 fs,Finds w' n1 v fs vr vn vm vh vs b (zBH b)∧fs.length≤32):=by
 obtain ⟨f0,hff,fz0,fz1,fz2⟩:=info_parts infoFnd
 obtain ⟨ar,cr,rfl,_⟩:=zD hA.at_.reg
 obtain ⟨an,cn,rfl,_⟩:=zD hA.at_.notes
 obtain ⟨am,cm,rfl,_⟩:=zD hA.at_.ms
 obtain ⟨ah,ch,rfl,_⟩:=zD hA.at_.hs
 obtain ⟨as',cs',rfl,_⟩:=zD hA.at_.rs
 have hb1:=zB w (.cells #[.slice ar b.ns.reg.length cr,.slice an b.ns.notes.length cn,.int .i64 b.of,.slice am b.ms.length cm,.slice ah b.hs.length ch,.slice as' b.rs.length cs'] 32)
 have hbox:=Lay.new w 32 #[.slice ar b.ns.reg.length cr,.slice an b.ns.notes.length cn,.int .i64 b.of,.slice am b.ms.length cm,.slice ah b.hs.length ch,.slice as' b.rs.length cs']
 have HA0:=zF hA
 have HK0:=zF hK
 have HA:=zF (hA.ext hb1)
 have HK:=zF (hK.ext hb1)
 have HB1:=zF hb1
 have HBOX:=zF hbox
 clear hA hK hb1 hbox
 refine (callsIn_wide (n:=3)).1 ?_
 refine callsIn_of_wp_marks func52 rfl trivial ?_ rfl
 simp only [ntmps52,List.size_toArray,List.length_cons,List.length_nil,Nat.reduceAdd,Nat.reduceSub,Array.replicate_succ,Array.replicate_zero,List.push_toArray,List.append_toArray,List.nil_append,List.cons_append]
 by_cases hv:zM b=0
 case neg =>
  have hv':(zM b != 0)=true:=by simpa using hv
  have HV:=zF hv
  clear hv
  gi_wp2_with (refine ⟨trivial,?_⟩;gi_at_call 20;refine (callsIn_wide.2 (zQQ _ _ _ _ _ _ b HA.out)).mono ?_;rintro e w2 ⟨rfl,hb2⟩)
  refine ⟨.tuple #[.slice none 0 0,.int .i64 (zM b)],by simp [results,results52,go_sem],zA HB1.out hb2,_,rfl,⟨none,0,0,rfl⟩,fun h=>absurd h HV.out⟩
 case pos =>
  have HV:=zF hv
  clear hv
  gi_wp2_with (first | (refine ⟨trivial,?_⟩;gi_at_call 20;refine (callsIn_wide.2 (zQQ _ _ _ _ _ _ b HA.out)).mono ?_;rintro e w2 ⟨rfl,hb2⟩;rw [HV.out];have hl2:=(HBOX.out.ext hb2).alloc (.cells #[.slice none 0 0] 84);have k0:=hl2.cell 0 _ rfl;have k1:=hl2.cell 1 _ rfl) | (refine ⟨trivial,?_⟩;gi_at_call 98;refine (callsIn_wide.2 (truths_val _ _ _ _ _ _ _)).mono ?_;rintro e w3 ⟨rfl,rfl⟩))
  have hbn:=zB w2 (.cells #[.slice none 0 0] 84)
  have hbm:=zB (w2.alloc (.cells #[.slice none 0 0] 84)) (.cells #[.slice ar b.ns.reg.length cr,.slice an b.ns.notes.length cn] 27)
  have hL5:=(Lay.new w2 84 #[.slice none 0 0]).alloc (.cells #[.slice ar b.ns.reg.length cr,.slice an b.ns.notes.length cn] 27)
  have hsz:(w2.alloc (.cells #[.slice none 0 0] 84)).heap.size=w2.heap.size+1:=World.size_alloc _ _
  have hLn:=Lay.new (w2.alloc (.cells #[.slice none 0 0] 84)) 27 #[.slice ar b.ns.reg.length cr,.slice an b.ns.notes.length cn]
  rw [hsz] at hLn
  have hbW:=zA hb2 (zA hbn hbm)
  have HA2:=zF (HA.out.ext hbW)
  have HK2:=zF (HK.out.ext hbW)
  have HBOX2:=zF (HBOX.out.ext hbW)
  have HBW:=zF (zA HB1.out hbW)
  have hl5:=hL5.lt
  have hw52:w.heap.size < w2.heap.size:=by
   have h:=hb2.size
   rw [World.size_alloc] at h
   omega
  clear k0 k1 hl2 hb2 hbn hbm hbW hsz
  generalize (w2.alloc _).alloc _=W0 at *
  have hO0:OpenO w W0 w2.heap.size w2.heap.size (.slice ar b.ns.reg.length cr) (.slice an b.ns.notes.length cn) (.slice am b.ms.length cm) (.slice ah b.hs.length ch) (.slice as' b.rs.length cs') b [] :=
   ⟨HBW.out,HBOX2.out,.slice none 0 0,[],hL5,World.ownsRow_nil _ _ _ _,rfl,fun k hk=>absurd hk (by simp)⟩
  have hvp:=zW HV.out
  have hok:=(zAS hvp.1).2
  refine zPE (α:=List Int×Value) (n:=3) rfl (by decide) (gf:=131) (lb:=#[.pointer (some ⟨w2.heap.size+1,0,none⟩)]) rfl trivial (enters_of func131 (by kernel_rfl) rfl)
   (zRW 2 (by decide) W0 (w2.heap.size+1) _ b.ns.reg b.ns.notes (hLn.cell 1 _ rfl) HA2.out.at_.notes hok)
   (fun x W l o o' h1 h2 hg=>⟨hg.1.keep (zRK o' h1 h2),hg.2⟩) kpT_t (fun W l o o' _ h hc _=>kpT_b W l o o' h hc) (br_) (fun _=>rfl)
   (fun (pre:List (List Int×Value)) W=>OpenO w W w2.heap.size w2.heap.size (.slice ar b.ns.reg.length cr) (.slice an b.ns.notes.length cn) (.slice am b.ms.length cm) (.slice ah b.hs.length ch) (.slice as' b.rs.length cs') b (pre.map (fun t:List Int×Value=>t.1)))
   (fun _ _ _=>False)
   ⟨fun _ _ _ h hb=>OpenO.grow hb h,fun _ W l o o' h hB hl ho hw=>by
    obtain ⟨h1,hx,v,fs,h2,h3⟩:=h
    exact ⟨h1.trans (belowK_b (w:=w) (Nat.le_refl _) W l o o' (by have:=HBW.out.size;omega) hl ho hw),(zMB o' hl ho hw (es:=[32])).cells _ _ _ _ (by simp) hx,v,fs,(zMB o' hl ho hw (es:=[84])).cells _ _ _ _ (by simp) h2,h3.keepM (zMB o' hl ho hw)⟩⟩
   (fun _=>⟨fun _ _ _ h _=>h,fun _ _ _ _ _ h _ _ _ _=>h⟩)
   hO0
   (fun x=>{ tmps:=#[.agg #[.slice ar b.ns.reg.length cr,.slice an b.ns.notes.length cn,.int .i64 b.of,.slice am b.ms.length cm,.slice ah b.hs.length ch,.slice as' b.rs.length cs'],.pointer (some ⟨w.heap.size,0,none⟩),.slice none 0 0,.int .i64 0,.int .i64 0,.pointer (some ⟨w2.heap.size,0,none⟩),x.2,undef,undef,undef,.agg #[.slice ar b.ns.reg.length cr,.slice an b.ns.notes.length cn,.int .i64 b.of,.slice am b.ms.length cm,.slice ah b.hs.length ch,.slice as' b.rs.length cs'],.int .i64 0,.int .i64 0,.bool false,undef,.pointer (some ⟨w.heap.size,0,none⟩),.agg #[.slice ar b.ns.reg.length cr,.slice an b.ns.notes.length cn],.func (.func 131) #[] #[.pointer (some ⟨w2.heap.size+1,0,none⟩)],x.2,undef,undef,undef,undef,undef,undef,undef,undef,undef,undef,undef,undef,undef,undef,undef,undef,undef,undef],defers:=[] }) ?assign ?body ?done ?stop
  case assign =>
   intro l x W K hK
   simp [List.zip_toArray]
   gi_wp2
   exact hK
  case body =>
   rintro l0 pre ⟨t,vt⟩ W hO hG hlen
   obtain ⟨hbW,hbx,v,fs,hl5W,hF⟩:=hO
   obtain ⟨hont,hIsT⟩:=hG
   simp only at hont hIsT ⊢
   have HAW:=zF (HA0.out.ext hbW)
   have HKW:=zF (HK0.out.ext hbW)
   have HBX:=zF hbx
   have HL5:=zF hl5W
   have HF:=zF hF
   have HBWW:=zF hbW
   have HON:=zF hont
   have HIT:=zF hIsT
   have k0:=hbx.cell 0 _ rfl
   have k1:=hbx.cell 1 _ rfl
   have k2:=hbx.cell 2 _ rfl
   have k3:=hbx.cell 3 _ rfl
   have k4:=hbx.cell 4 _ rfl
   have k5:=hbx.cell 5 _ rfl
   have hrs:Hid (∀ r∈b.rs,zDF b.ns.reg b.ms r):=fun r hr=>zEN HV.out hr
   have hmap:Hid ((pre++[(t,vt)]).map (fun t=>t.1)=pre.map (fun t=>t.1)++[t]):=by unfold Hid;rw [List.map_append];rfl
   have hfl:=leftOf_len b (pre.map (fun t=>t.1))
   rw [List.length_map] at hfl
   clear hO0 hl5W hF hbW hont hIsT hbx hvp hok
   cases hsL:siteL b t with
   | none =>
     have HN:=zF (left_none HV.out hsL)
     have HSL:Hid (zDR b t (zFL b) b.rs=none):=hsL
     clear hsL
     gi_wp2_with (
      first
      | (refine ⟨trivial,?_⟩
         gi_at_call 99
         refine (CallsIn.inRound l0 (callsIn_wide.2 (zMU W _ _ _ _ _ vt b t HAW.out HON.out.now HV.out HIT.out))).mono ?_
         rintro e W1 ⟨p,rfl,hmem,hb1⟩
         have hsite:SiteAt W1 p _ _ _ _ _ vt b t:=⟨hmem.row,(HAW.out.ext hb1).at_,(HON.out.ext hb1).now⟩
         have hleft:=left_site W1 p _ _ _ _ _ vt _ b t b.rs hsite (HKW.out.ext hb1) HV.out (HAW.out.ext hb1).at_.rs hrs.out
         rw [HSL.out] at hleft
         have k5:=(HBX.out.ext hb1).cell 5 _ rfl
         clear hmem hsite)
      | (refine ⟨trivial,?_⟩
         gi_at_call 100
         refine (CallsIn.inRound l0 (callsIn_wide.2 hleft)).mono ?_
         rintro e W2 ⟨hb2,rfl⟩))
     have hb:=zA hb1 hb2
     have hE:=OpenO.no HN.out (OpenO.grow hb ⟨HBWW.out,HBX.out,v,fs,HL5.out,HF.out⟩)
     rw [← hmap.out] at hE
     exact ⟨(zEE hb).from _,zAQ hb,hE⟩
   | some L =>
     have HN:=zF (zRJ HV.out hsL)
     have HSL:Hid (zDR b t (zFL b) b.rs=some L):=hsL
     have HSI:=zF hsL
     obtain ⟨a0,c0,rfl⟩:=zGR HF.out.row
     clear hsL
     gi_wp2_with (
      first
      | (refine ⟨trivial,?_⟩
         gi_at_call 99
         refine (CallsIn.inRound l0 (callsIn_wide.2 (zMU W _ _ _ _ _ vt b t HAW.out HON.out.now HV.out HIT.out))).mono ?_
         rintro e W1 ⟨p,rfl,hmem,hb1⟩
         have hsite:SiteAt W1 p _ _ _ _ _ vt b t:=⟨hmem.row,(HAW.out.ext hb1).at_,(HON.out.ext hb1).now⟩
         have hleft:=left_site W1 p _ _ _ _ _ vt _ b t b.rs hsite (HKW.out.ext hb1) HV.out (HAW.out.ext hb1).at_.rs hrs.out
         rw [HSL.out] at hleft
         have k5:=(HBX.out.ext hb1).cell 5 _ rfl
         have HME:=zF hmem
         clear hmem hsite)
      | (refine ⟨trivial,?_⟩
         gi_at_call 100
         refine (CallsIn.inRound l0 (callsIn_wide.2 hleft)).mono ?_
         rintro e W2 ⟨hb2,v2,base,rfl,hown2,hnum2,aL,cL,rfl⟩
         have hb:=zA hb1 hb2
         have hl5:=HL5.out.ext hb
         have c5:=hl5.cell 0 _ rfl
         have HL52:=zF hl5
         have HF2:=zF (HF.out.keepM (zFA hb))
         have HME2:=zF (HME.out.keepM (zFA hb2))
         have HC2:=zF (And.intro hown2 hnum2)
         have hsz2:=(zA HBWW.out hb).size
         have hl52:=hl5.lt
         have hc2:∀ j u,[Value.pointer (some ⟨p,0,none⟩),.slice aL L.length cL][j]? = some u→(W2.alloc (.cells #[.pointer (some ⟨p,0,none⟩),.slice aL L.length cL] 95)).cell? ((⟨W2.heap.size,0,none⟩ : Addr).add j)=some u:=fun j u hj=>by
          rw [zBP]
          exact zU W2 #[.pointer (some ⟨p,0,none⟩),.slice aL L.length cL] _ j u (by simpa using hj)
         clear hl5 hown2 hnum2)
      | (gi_at_builtin
         refine wpListIn_append_own _ rfl _ _ 84 rfl w2.heap.size 95 f0 (.agg #[.pointer none,.slice none 0 0]) 2 32 underlying84 hff fz0 fz1 fz2 rfl (by decide) _ _ _ rfl (HF2.out.row.alloc _) ⟨W2.heap.size,0,none⟩ 1 1 [.pointer (some ⟨p,0,none⟩),.slice aL L.length cL] rfl rfl hc2 (by intro u hu;simp at hu;rcases hu with rfl | rfl <;> rfl) (by unfold maxLen;have:=HF.out.len;omega) (by have:=HF.out.len;omega) (by simp;omega) ?_
         intro v' W4 hown' hgrow _
         obtain ⟨a9,c9,rfl⟩:=zGR hown'
         have hba:=zB W2 (.cells #[.pointer (some ⟨p,0,none⟩),.slice aL L.length cL] 95)
         have hK5:zEK [84,32] W2 W4:=(zAQ hba).trans (zCE hgrow (HF2.out.row.alloc _) (by decide))
         have hl4:Lay W4 w2.heap.size _ _:=hK5 _ _ _ _ (by simp) HL52.out
         have c6:=hl4.cell 0 _ rfl
         have cf:=hl4.frozen 0
         have cl:=hl4.lt
         have HL4:=zF hl4
         have HK5:=zF hK5
         have hkM:KeepM esF W2 W4:=(zFA hba).trans (keepM_grown hgrow (HF2.out.row.alloc _) (by decide))
         have HKM:=zF hkM
         have HOW:=zF (And.intro hown' (And.intro hgrow hba))
         clear hl4 hK5 hkM hown' hgrow hba))
     have hb:=zA hb1 hb2
     have hyes:=HN.out.1
     have hown4:=HOW.out.1
     have hgrow:=HOW.out.2.1
     have hba:=HOW.out.2.2
     have hnB:w.heap.size≠w2.heap.size:=by omega
     have hkS:KeepM (95 :: esF) W4 (W4.setCell ⟨w2.heap.size,0,none⟩ (.slice a9 (fs.length+1) c9)):=keepM_set HL4.out (by decide)
     have hkF:KeepM esF W2 (W4.setCell ⟨w2.heap.size,0,none⟩ (.slice a9 (fs.length+1) c9)):=HKM.out.trans ⟨hkS.cells.sub (fun e he=>List.mem_cons_of_mem _ he),hkS.maps⟩
     have hbx5:=HBX.out.ext hb
     have hE:OpenO w (W4.setCell ⟨w2.heap.size,0,none⟩ (.slice a9 (fs.length+1) c9)) w2.heap.size w2.heap.size (.slice ar b.ns.reg.length cr) (.slice an b.ns.notes.length cn) (.slice am b.ms.length cm) (.slice ah b.hs.length ch) (.slice as' b.rs.length cs') b (pre.map (fun t=>t.1)++[t]):=by
      refine ⟨zH (Nat.le_of_lt hw52) ((zA (zA HBWW.out hb) hba).grown hgrow (zA (zA HBWW.out hb) hba).size (fun r e=>Nat.le_trans (Nat.le_of_lt hw52) (HF2.out.row.lt r e).1)),?_,.slice a9 (fs.length+1) c9,fs++[⟨p,aL,L.length,cL⟩],zBC HL4.out 0 _,?_,?_,?_⟩
      ·have h4:Lay W4 w.heap.size _ _:=HK5.out _ _ _ _ (by simp) hbx5
       exact zBD h4 hnB 0 _
      ·rw [List.flatMap_append,List.flatMap_singleton,List.length_append]
       exact zGF hkS.cells (by simp) hown4
      ·rw [zNH hyes,List.length_append,List.length_append,HF2.out.len]
       rfl
      ·intro k h1 h2
       by_cases e:k < fs.length
       ·have e2:k < (zGV b (pre.map (fun t=>t.1))).length:=by rw [← HF2.out.len];exact e
        have e3:(zGV b (pre.map (fun t=>t.1)++[t]))[k]=(zGV b (pre.map (fun t=>t.1)))[k]:=by
         simp only [zNH hyes]
         exact List.getElem_append_left e2
        rw [List.getElem_append_left e,e3]
        exact (HF2.out.at_ k e e2).keepM hkF
       ·have ek:k=fs.length:=by simp at h1;omega
        subst ek
        have e3:(zGV b (pre.map (fun t=>t.1)++[t]))[fs.length]=t:=by
         simp only [zNH hyes]
         rw [List.getElem_append_right (by rw [HF2.out.len];exact Nat.le_refl _)]
         simp
        have e4:(fs++[(⟨p,aL,L.length,cL⟩ : Fnd)])[fs.length]=⟨p,aL,L.length,cL⟩:=by rw [List.getElem_append_right (Nat.le_refl _)];simp
        rw [e3,e4]
        exact ⟨⟨vt,HME2.out.keepM hkF,(HON.out.ext hb).keep (hkF.cells.sub (by simp))⟩,L,base,HSI.out,rfl,zGF hkF.cells (by simp) HC2.out.1,HC2.out.2⟩
     rw [← hmap.out] at hE
     refine ⟨(((zEE hb).trans (zEE hba)).trans ((keeps_own hgrow (HF2.out.row.alloc _)).trans (KeepsOthers.setCell _ _ _))).from _,?_,hE⟩
     exact ((zAQ hb).trans ((zAQ hba).trans (zCE hgrow (HF2.out.row.alloc _) (by decide)))).trans (zHV HL4.out (by decide))
  case done =>
   rintro D xs W hD ⟨⟨hS1,hS2⟩,hlen⟩ hO hKD
   obtain ⟨hbW,hbx,v,fs,hl5W,hF⟩:=hO
   obtain ⟨a0,c0,rfl⟩:=zGR hF.row
   have c5:=hl5W.cell 0 _ rfl
   have hll:=leftOf_is (b:=b) hS1 hS2
   have hfl:=leftOf_len b (xs.map (fun t=>t.1))
   rw [List.length_map] at hfl
   have HF:=zF hF
   have HLL:=zF hll
   have HFN:=zF hF.len
   clear hF hll hbx hO0
   gi_wp2
   refine ⟨by simp,.inl ⟨_,_,rfl,run_takeDeferred hKD,?_⟩⟩
   refine ⟨.tuple #[.slice a0 fs.length c0,.int .i64 0],by simp [results,results52,go_sem],hbW.trans (belowK_b (w:=w) (Nat.le_refl _) W D _ _ (by have:=HBW.out.size;omega) hKD rfl rfl),_,by rw [HV.out],⟨_,_,_,rfl⟩,fun _=>⟨w2.heap.size,fs,?_,by have:=HFN.out;omega⟩⟩
   rw [HLL.out]
   exact HF.out.keepM (zMB _ hKD rfl rfl)
  case stop =>
   rintro D c pre W _ _ h _
   exact h.elim
end
section
open Go.RowKit Go.Shelf
attribute [local go_sem] zAN Oper.grows Oper.growUpon
open Classical in
noncomputable def zMF (b:Built) (c:Int) : Int:=if zM b≠0 then zM b else if c≠0 then c else if zBH b=[] then 8 else 0
theorem some_built (w:World) (vr vn vm vh vs:Value) (b:Built) (g:Nat) (fv:Array Value) (c:Int) (hA:BuiltArg w vr vn vm vh vs b) (hK:KindsAt w) (eg:∀ args w,(callFunc g args).run prog w = .ok (.enter g args) w)
  (hcall:zM b=0→∀ w',Below w.heap.size w w'→Calls prog g fv w' fun e w''=>e = .returned (.int .i64 c)∧Below w'.heap.size w' w'') :
  Calls prog 36 #[.agg #[vr,vn,.int .i64 b.of,vm,vh,vs],.func (.func g) #[] fv] w fun e w'=>Below w.heap.size w w'∧∃ v,e = .returned (.tuple #[v,.int .i64 (zMF b c)])∧(∃ a n c,v = .slice a n c) ∧
   (zMF b c=0→∃ n1 fs,Finds w' n1 v fs vr vn vm vh vs b (zBH b)∧fs.length≤32∧0 < fs.length):=by
 obtain ⟨ar,cr,rfl,_⟩:=zD hA.at_.reg
 obtain ⟨an,cn,rfl,_⟩:=zD hA.at_.notes
 obtain ⟨am,cm,rfl,_⟩:=zD hA.at_.ms
 obtain ⟨ah,ch,rfl,_⟩:=zD hA.at_.hs
 obtain ⟨as',cs',rfl,_⟩:=zD hA.at_.rs
 have hb1:=zB w (.cells #[.slice ar b.ns.reg.length cr,.slice an b.ns.notes.length cn,.int .i64 b.of,.slice am b.ms.length cm,.slice ah b.hs.length ch,.slice as' b.rs.length cs'] 32)
 have hop:=open_built _ _ _ _ _ _ b (hA.ext hb1) (hK.ext hb1)
 have HB1:=zF hb1
 clear hb1
 have HC:=zF hcall
 clear hcall
 go_enter func36,ntmps36
 by_cases hv:zM b=0
 case neg =>
  have hv':(zM b != 0)=true:=by simpa using hv
  have hs:Hid (zMF b c=zM b):=by unfold Hid zMF;rw [if_pos hv]
  have HV:=zF hv
  clear hv
  go_wp2_with (go_at_call 52;refine hop.mono ?_;rintro e w2 ⟨hb2,v,rfl,⟨a,n,q,rfl⟩,_⟩)
  go_ret2
  exact ⟨zA HB1.out hb2,_,by rw [hs.out];rfl,⟨_,_,_,rfl⟩,fun h=>absurd (hs.out.symm.trans h) HV.out⟩
 case pos =>
  have HV:=zF hv
  clear hv
  by_cases hc:c=0
  case neg =>
   have hc':(c != 0)=true:=by simpa using hc
   have hs:Hid (zMF b c=c):=by unfold Hid zMF;rw [if_neg (by simp [HV.out]),if_pos hc]
   have HCC:=zF hc
   clear hc
   go_wp2_with (
    first
    | (go_at_call 52;refine hop.mono ?_;rintro e w2 ⟨hb2,v,rfl,⟨a,n,q,rfl⟩,_⟩;rw [HV.out];have hcall:=HC.out HV.out w2 (zA HB1.out hb2))
    | (go_at_fn g;refine hcall.mono ?_;rintro e w3 ⟨rfl,hb3⟩))
   go_ret2
   exact ⟨zA HB1.out (zA hb2 hb3),_,by rw [hs.out];rfl,⟨_,_,_,rfl⟩,fun h=>absurd (hs.out.symm.trans h) HCC.out⟩
  case pos =>
   subst hc
   have hsz:Hid (zMF b 0=if zBH b=[] then 8 else 0):=by
    unfold Hid zMF
    rw [if_neg (by simp [HV.out]),if_neg (by simp)]
   by_cases hl:zBH b=[]
   ·have hs:Hid (zMF b 0=8):=by unfold Hid;rw [hsz.out,if_pos hl]
    have HL:=zF hl
    clear hl hsz
    go_wp2_with (
     first
     | (go_at_call 52;refine hop.mono ?_;rintro e w2 ⟨hb2,v,rfl,⟨a,n,q,rfl⟩,hf⟩;rw [HV.out];have hcall:=HC.out HV.out w2 (zA HB1.out hb2);have hn:n=0:=(by obtain ⟨n1,fs,hF,_⟩:=hf HV.out;obtain ⟨a2,c2,h2⟩:=zGR hF.row;cases h2;rw [hF.len,HL.out];rfl);subst hn;clear hf)
     | (go_at_fn g;refine hcall.mono ?_;rintro e w3 ⟨rfl,hb3⟩))
    go_ret2
    exact ⟨zA HB1.out (zA hb2 hb3),_,by rw [hs.out];rfl,⟨_,_,_,rfl⟩,fun h=>by rw [hs.out] at h;cases h⟩
   ·have hs:Hid (zMF b 0=0):=by unfold Hid;rw [hsz.out,if_neg hl]
    have HL:=zF hl
    clear hl hsz
    go_wp2_with (
     first
     | (go_at_call 52;refine hop.mono ?_;rintro e w2 ⟨hb2,v,rfl,⟨a,n,q,rfl⟩,hf⟩;rw [HV.out];have hcall:=HC.out HV.out w2 (zA HB1.out hb2);obtain ⟨n1,fs,hF,h32⟩:=hf HV.out;obtain ⟨a2,c2,h2⟩:=zGR hF.row;cases h2;have hfl:=hF.len;have hpos:0 < fs.length:=(by rw [hfl];exact List.length_pos_iff.2 HL.out);have hnz:¬ ((fs.length:Int)=0):=(by omega);have HF:=zF hF;clear hf hF hfl)
     | (go_at_fn g;refine hcall.mono ?_;rintro e w3 ⟨rfl,hb3⟩))
    go_ret2
    exact ⟨zA HB1.out (zA hb2 hb3),_,by rw [hs.out];rfl,⟨_,_,_,rfl⟩,fun _=>⟨n1,fs,HF.out.keepM (zFA hb3),h32,hpos⟩⟩
end
section
open Go.RowKit Go.Shelf
attribute [local go_sem] zAN Oper.grows Oper.growUpon
theorem until_site (w:World) (p:Nat) (vr vn vm vh vs vz:Value) (b:Built) (S:List Int) (k:Nat) (n:Int) (hS:SiteAt w p vr vn vm vh vs vz b S) (hv:zM b=0) (hk:k < b.hs.length) :
  Calls prog 74 #[.pointer (some ⟨p,0,none⟩),.int .i64 k,.int .i64 n] w fun e w'=>e = .returned (.int .i64 (zQC b S k n))∧Below w.heap.size w w':=by
 have hd:b.hs[k].d∈nums b.ns.reg:=zEP (zAR (zAS (zW hv).1).1) ((zW hv).2.2.2.2.2.2.1 k hk hk).1
 have hm12:b.ms.length≤12:=(zW hv).2.2.1
 obtain ⟨vhas,hLs,a,cap,rfl,hrow⟩:=hS.box
 obtain ⟨am,cm,rfl,_⟩:=zD hS.at_.ms
 obtain ⟨ah,ch,rfl,_⟩:=zD hS.at_.hs
 obtain ⟨gh,oh,rfl,⟨hh0,-⟩,hhr⟩:=(zZ hS.at_.hs).2 k hk
 have hd64:I64 b.hs[k].d:=hhr.1
 have hkl:(k:Int) < b.hs.length:=by omega
 have HHE:=zF hh0
 have HS:=zF hLs
 have HR:=zF hrow
 have HM:=zF hS.at_.ms
 have HD:=zF hd
 have HK:Hid (∀ m,zKM b S k m=if (zAB b S m b.hs[k].d).h=k then (zAB b S m b.hs[k].d).c else 0):=fun m=>by
  unfold zKM
  rw [List.getElem?_eq_getElem hk]
  rfl
 generalize b.hs[k].d=d at *
 have s3:=hLs.cell 3 _ rfl
 clear hS hLs hrow hd hh0 hhr
 go_enter func74,ntmps74
 go_wp2
 clear s3
 go_loopw [7,16] (fun q i wr=>∃ j:Nat,i = .int .i64 j∧j≤b.ms.length∧q = .int .i64 (zQL b S k n j)∧Hid (Below w.heap.size w wr)) (fun _ i _=>b.ms.length - (intOf i).toNat)
 case atStart=>exact ⟨0,rfl,by omega,rfl,zF (br_)⟩
 case round =>
  obtain ⟨j,rfl,hj,rfl,HB⟩:=hrel
  by_cases hlt:j < b.ms.length
  case neg =>
   obtain rfl:j=b.ms.length:=by omega
   go_wp2
   go_ret
   exact ⟨rfl,HB.out⟩
  case pos =>
   obtain ⟨gm,om,hem,hcm,-⟩:=(zZ HM.out).2 j hlt
   cases hem
   obtain ⟨g,off,mb,n0,rfl,hcp,hM⟩:=HR.out j hlt
   have hmi:b.ms[j]? = some b.ms[j]:=List.getElem?_eq_getElem hlt
   have hjl:(j:Int) < b.ms.length:=by omega
   have hvis:visF b S j d=some (hasC (zAB b S b.ms[j] d).c (zAB b S b.ms[j] d).l (zAB b S b.ms[j] d).h (bfAt b S j (zAB b S b.ms[j] d).h)):=by unfold visF;rw [if_pos HD.out,hmi];rfl
   have hlook:∀ xq,(Instr.lookup 164 (.map (some mb)) (.int .i64 d) false).run prog (wr.later xq) = .ok (hasC (zAB b S b.ms[j] d).c (zAB b S b.ms[j] d).l (zAB b S b.ms[j] d).h (bfAt b S j (zAB b S b.ms[j] d).h)) (wr.later xq):=fun xq=>by
    have h:=zGE underlying164 (Tryz.zeroValue163 (wr.later xq)) (hM.ext (zA HB.out (zE wr xq))) hd64
    rw [hvis] at h
    exact h
   have hyes:=zF (fun h=>zRH (b:=b) (S:=S) (k:=k) (n:=n) h hlt)
   have hno:=zF (fun h=>zRR (b:=b) (S:=S) (k:=k) (n:=n) (i:=j) h)
   have htk:Hid (zQM b S k n j=(decide (zES b S k j < n) && decide (0 < zKM b S k b.ms[j]))):=by unfold Hid zQM;rw [hmi];rfl
   rw [HK.out b.ms[j]] at htk
   have hbf:Hid ((zAB b S b.ms[j] d).h=k→bfAt b S j (zAB b S b.ms[j] d).h=zES b S k j):=fun h=>by unfold bfAt;rw [h,if_pos (by omega),Int.toNat_natCast]
   have s7:=zG (zC HB.out (show zJ w p 7 _ from HS.out.cell 7 _ rfl))
   have s4:=zG (zC HB.out (show zJ w p 4 _ from HS.out.cell 4 _ rfl))
   have cp:=zG (zC HB.out hcp)
   have ce:=zG (zC HB.out HHE.out)
   have HCM:=zF hcm
   unfold hasC at hlook
   clear hmi hvis hM hcp hcm
   generalize zAB b S b.ms[j] d=h at *
   generalize bfAt b S j h.h=bf at *
   generalize b.ms[j]=m at *
   go_wp2
   refine zK 18 (by kernel_rfl) (by kernel_rfl) ?_
   simp only [tk_]
   iterate 17 (apply gx_;focus (intro vs xq hd;(try simp [hq_] at hd);simp only [pf_];go_simp;exact ⟨br_,rfl⟩))
   refine zL (NewBx wr.heap.size #[.int .i64 0,.int .i64 0,.int .i64 0,.int .i64 0] 163) (zDC _ _ _) ?_ ?_
   ·intro vs xq hd
    (try simp [hq_] at hd)
    simp only [pf_]
    go_simp
    exact ⟨zB _ _,_,rfl,(zE wr xq).size,Lay.new _ _ _⟩
   refine zT (by simp only [List.length_append,List.length_cons,List.length_nil]) (fun vs xq hd=>?_)
   simp [zV,zAD,List.range,List.range.loop] at hd
   simp only [pf_]
   obtain ⟨e0,e1,e2,e3,e4,e5,e6,e7,e8,e9,e10,e11,e12,e13,e14,e15,e16,gb,e17,hgb,hLb⟩:=hd
   simp only [Nat.zero_add,Nat.reduceAdd] at e0 e1 e2 e3 e4 e5 e6 e7 e8 e9 e10 e11 e12 e13 e14 e15 e16 e17 ⊢
   simp only [e0,e1,e2,e3,e4,e5,e6,e7,e8,e9,e10,e11,e12,e13,e14,e15,e16,e17]
   have hb8:=zA HB.out (zE wr xq)
   have hgw:w.heap.size≤gb:=Nat.le_trans HB.out.size hgb
   clear e0 e1 e2 e3 e4 e5 e6 e7 e8 e9 e10 e11 e12 e13 e14 e15 e16 e17 s7 s4 cp ce hlook hgb
   generalize wr.later xq=w8 at *
   have q0:=hLb.cell 0 _ rfl
   have q1:=hLb.cell 1 _ rfl
   have q2:=hLb.cell 2 _ rfl
   have q3:=hLb.cell 3 _ rfl
   have f0:=hLb.frozen 0
   have f1:=hLb.frozen 1
   have f2:=hLb.frozen 2
   have f3:=hLb.frozen 3
   have hl:=hLb.lt
   have HB9:=zF (zH (j:=3) (u:=.int .i64 bf) hgw (zH (j:=2) (u:=.int .i64 h.h) hgw (zH (j:=1) (u:=.int .i64 h.l) hgw (zH (j:=0) (u:=.int .i64 h.c) hgw hb8))))
   have HL9:=zF (zBC (zBC (zBC (zBC hLb 0 (.int .i64 h.c)) 1 (.int .i64 h.l)) 2 (.int .i64 h.h)) 3 (.int .i64 bf))
   clear hLb hb8
   go_step
   go_simp
   generalize (((w8.setCell _ _).setCell _ _).setCell _ _).setCell _ _=w9 at *
   clear q0 q1 q2 q3 f0 f1 f2 f3 hl
   have q0:=HL9.out.cell 0 _ rfl
   have q2:=HL9.out.cell 2 _ rfl
   have q3:=HL9.out.cell 3 _ rfl
   have s3:=zC HB9.out (show zJ w p 3 _ from HS.out.cell 3 _ rfl)
   have c1:=zC HB9.out HCM.out
   unfold zJ at s3 c1
   rw [Nat.mul_one] at c1
   by_cases hh:h.h=k
   case neg =>
    have hh':(h.h == (k:Int))=false:=by simpa using hh
    have htf:zQM b S k n j=false:=by rw [htk.out,if_neg hh];simp
    clear hh
    have hs:=zF (hno.out htf)
    clear hyes hno htk hbf htf HK
    go_wp2
    go_roundw
    ·exact ⟨j+1,by go_num,by omega,by rw [hs.out],HB9⟩
    ·simp [intOf];omega
   case pos =>
    have hh':(h.h == (k:Int))=true:=by simpa using hh
    have hbe:=hbf.out hh
    have htt:zQM b S k n j=(decide (bf < n) && decide (0 < h.c)):=by rw [htk.out,if_pos hh,hbe]
    clear hh hbe
    by_cases h1:0 < h.c
    case neg =>
     have htf:zQM b S k n j=false:=by rw [htt];simp;omega
     clear htt
     have hs:=zF (hno.out htf)
     clear hyes hno htk hbf htf HK
     go_wp2
     go_roundw
     ·exact ⟨j+1,by go_num,by omega,by rw [hs.out],HB9⟩
     ·simp [intOf];omega
    case pos =>
     by_cases h2:bf < n
     case neg =>
      have htf:zQM b S k n j=false:=by rw [htt];simp;omega
      clear htt
      have hs:=zF (hno.out htf)
      clear hyes hno htk hbf htf HK
      go_wp2
      go_roundw
      ·exact ⟨j+1,by go_num,by omega,by rw [hs.out],HB9⟩
      ·simp [intOf];omega
     case pos =>
      have hs:=zF (hyes.out (by rw [htt];simp;omega))
      clear hyes hno htk hbf htt HK
      go_wp2
      go_roundw
      ·exact ⟨j+1,by go_num,by omega,by rw [hs.out],HB9⟩
      ·simp [intOf];omega
theorem enter_until1:Enters prog 72:=enters_of func72 (by kernel_rfl) rfl
theorem enter_until2:Enters prog 73:=enters_of func73 (by kernel_rfl) rfl
def hpC (b:Built) (h:Int) : Int:=if inB h 0 ((b.hs.length:Int) - 1) then 0 else 2
theorem until1_built (w:World) (ga gh:Nat) (vh:Value) (b:Built) (h:Int) (hh:Sl zHA 4 w vh b.hs) (ha:zJ w ga 4 vh) (hg:zJ w gh 0 (.int .i64 h)) (h64:I64 h) :
  Calls prog 72 #[.pointer (some ⟨ga,0,none⟩),.pointer (some ⟨gh,0,none⟩)] w fun e w'=>e = .returned (.int .i64 (hpC b h))∧Below w.heap.size w w':=by
 obtain ⟨ah,ch,rfl,hm⟩:=zD hh
 clear hh
 unfold zJ at ha hg
 have hw1:IntKind.i64.wrap ((b.hs.length:Int) - 1)=(b.hs.length:Int) - 1:=IntWalk.i64_in _ (by omega)
 have hw2:wrap64 ((b.hs.length:Int) - 1)=(b.hs.length:Int) - 1:=IntWalk.wrap64_in _ (by omega)
 have hb1:=zB w (.cells #[.int .i64 h] 3)
 go_enter func72,ntmps72
 go_wp2_with fail
 clear ha hg hw1 hw2
 refine (in_built1 _ 0 ((b.hs.length:Int) - 1) h _ ⟨w.heap.size,rfl,zU w #[.int .i64 h] _ 0 _ rfl⟩ h64).mono ?_
 rintro e w2 ⟨rfl,hb2⟩
 have HB:=zF (zA hb1 hb2)
 have hc:Hid (hpC b h=if inB h 0 ((b.hs.length:Int) - 1) then 0 else 2):=rfl
 clear hb1 hb2
 generalize inB h 0 ((b.hs.length:Int) - 1)=q at *
 go_wp2_with fail
 refine (zPX w2 q 2).mono ?_
 rintro e w3 ⟨rfl,rfl⟩
 rw [← hc.out]
 go_wp2
 go_ret
 exact ⟨rfl,HB.out⟩
theorem tell_until (w:World) (x:Fnd) (gh:Nat) (vr vn vm vh vs vz:Value) (b:Built) (S:List Int) (L:List Span) (k:Nat) (hF:FoundAt w x.p vr vn vm vh vs vz (.slice x.a x.n x.c) b S L) (hv:zM b=0) (hL:siteL b S=some L) (hk:k < b.hs.length) (hg:zJ w gh 0 (.int .i64 k)) :
  Calls prog 73 (#[.agg #[.pointer (some ⟨x.p,0,none⟩),.slice x.a x.n x.c]] ++ #[.pointer (some ⟨gh,0,none⟩)]) w fun e w'=>∃ u xs,e = .returned u∧Sl zAJ 1 w' u xs∧(∀ y,y∈xs↔y∈[zQC b S k (cntS b S k).lo,zQC b S k (cntS b S k).hi])∧0 < xs.length∧xs.length≤2∧Below w.heap.size w w':=by
 obtain ⟨xp,xa,xn,xc⟩:=x
 simp only at hF ⊢
 obtain ⟨_,hll,hcs⟩:=zRJ hv hL
 have hkL:k < L.length:=by omega
 have hc:=(hcs k hkL).1
 have hcn:cntS b S k=L[k]:=by unfold cntS;rw [hc];rfl
 rw [hcn]
 obtain ⟨ac,cc,hac,_⟩:=zD hF.cnt
 cases hac
 obtain ⟨gc,oc,rfl,⟨hlo,hhi⟩,_⟩:=(zZ hF.cnt).2 k hkL
 have hkl:(k:Int) < L.length:=by omega
 have hb1:=zB w (.cells #[.pointer (some ⟨xp,0,none⟩),.slice (some ⟨gc,oc,none⟩) L.length xc] 95)
 have hfb:=Lay.new w 95 #[.pointer (some ⟨xp,0,none⟩),.slice (some ⟨gc,oc,none⟩) L.length xc]
 have HS:=zF (hF.site.ext hb1)
 have HFB:=zF hfb
 have HB1:=zF hb1
 have HCC:=zF (And.intro (zC hb1 hlo) (And.intro (zC hb1 hhi) (zC hb1 hg)))
 have hbd:=zF (fun n=>untilR_bd hv S k n)
 have HV:=zF hv
 clear hF hcs hc hcn hll hlo hhi hg hb1 hfb hv hL
 generalize L[k]=sp at *
 go_enter func73,ntmps73
 go_wp2
 generalize w.alloc _=w1 at *
 have f0:=zG (show zJ w1 w.heap.size 0 _ from HFB.out.cell 0 _ rfl)
 have f1:=zG (show zJ w1 w.heap.size 1 _ from HFB.out.cell 1 _ rfl)
 have g0:=zG HCC.out.2.2
 have l0:=zG HCC.out.1
 have l1:=zG HCC.out.2.1
 refine zK 21 (by kernel_rfl) (by kernel_rfl) ?_
 simp only [tk_]
 iterate 9 (apply gx_;focus (intro vs xq hd;(try simp [hq_] at hd);simp only [pf_];go_simp;exact ⟨br_,rfl⟩))
 refine zAE ?_
 apply Exists.intro
 refine ⟨fun vs' xq hd=>?_,?_⟩
 ·(try simp [hq_] at hd)
  simp only [pf_]
  go_simp
  refine (until_site (w1.later xq) xp _ _ _ _ _ _ b S k _ (HS.out.ext (zE w1 xq)) HV.out hk).mono ?_
  rintro e w9 ⟨rfl,hb9⟩
  exact ⟨rfl,hb9⟩
 iterate 9 (apply gx_;focus (intro vs xq hd;(try simp [hq_] at hd);simp only [pf_];go_simp;exact ⟨br_,rfl⟩))
 refine zAE ?_
 apply Exists.intro
 refine ⟨fun vs' xq hd=>?_,?_⟩
 ·(try simp [hq_] at hd)
  simp only [pf_]
  go_simp
  refine (until_site (w1.later xq) xp _ _ _ _ _ _ b S k _ (HS.out.ext (zE w1 xq)) HV.out hk).mono ?_
  rintro e w9 ⟨rfl,hb9⟩
  exact ⟨rfl,hb9⟩
 refine zL (fun v w'=>Sl zAJ 1 w' v [zQC b S k sp.lo,zQC b S k sp.hi]) (fun v w w' hb h=>zI zN hb h) ?_ ?_
 ·intro vs xq hd
  (try simp [hq_] at hd)
  simp only [pf_]
  go_simp
  have h1:=hbd.out sp.lo
  have h2:=hbd.out sp.hi
  exact ⟨zB _ _,zPQ _ _ _ (by unfold I64;omega) (by unfold I64;omega)⟩
 refine zT (by simp only [List.length_append,List.length_cons,List.length_nil]) (fun vs' xq hd=>?_)
 simp [zV,zAD,List.range,List.range.loop] at hd
 simp only [pf_]
 obtain ⟨_,_,_,_,_,_,_,_,_,_,_,_,_,_,_,_,_,_,_,_,e20⟩:=hd
 simp only [Nat.zero_add,Nat.reduceAdd] at e20 ⊢
 have HBZ:=zF (zA HB1.out (zE w1 xq))
 have HE:=zF e20
 clear e20 f0 f1 g0 l0 l1
 generalize vs' 20=v20 at *
 go_wp2
 go_ret
 exact ⟨_,_,rfl,HE.out,fun y=>Iff.rfl,by simp,by simp,HBZ.out⟩
theorem someC_until (b:Built) (h:Int) : zMF b (hpC b h)=untC b h:=by
 unfold zMF untC hpC
 by_cases hi:In h 0 ((b.hs.length:Int) - 1)
 ·rw [zHP hi];simp [hi]
 ·rw [zIH hi];simp [hi]
theorem until_built (w:World) (vr vn vm vh vs:Value) (b:Built) (h:Int) (hA:BuiltArg w vr vn vm vh vs b) (hK:KindsAt w) (h64:I64 h) :
  Calls prog 24 #[.agg #[vr,vn,.int .i64 b.of,vm,vh,vs],.int .i64 h] w fun e w'=>e = .returned (.tuple #[.agg #[.int .i64 (zRV b h).lo,.int .i64 (zRV b h).hi],.int .i64 (untC b h)])∧Below w.heap.size w w':=by
 obtain ⟨ar,cr,rfl,_⟩:=zD hA.at_.reg
 obtain ⟨an,cn,rfl,_⟩:=zD hA.at_.notes
 obtain ⟨am,cm,rfl,_⟩:=zD hA.at_.ms
 obtain ⟨ah,ch,rfl,_⟩:=zD hA.at_.hs
 obtain ⟨as',cs',rfl,_⟩:=zD hA.at_.rs
 have hb1:=zB w (.cells #[.slice ar b.ns.reg.length cr,.slice an b.ns.notes.length cn,.int .i64 b.of,.slice am b.ms.length cm,.slice ah b.hs.length ch,.slice as' b.rs.length cs'] 32)
 have hbox:=Lay.new w 32 #[.slice ar b.ns.reg.length cr,.slice an b.ns.notes.length cn,.int .i64 b.of,.slice am b.ms.length cm,.slice ah b.hs.length ch,.slice as' b.rs.length cs']
 have hl1:(w.alloc (.cells #[.slice ar b.ns.reg.length cr,.slice an b.ns.notes.length cn,.int .i64 b.of,.slice am b.ms.length cm,.slice ah b.hs.length ch,.slice as' b.rs.length cs'] 32)).heap.size=w.heap.size+1:=World.size_alloc _ _
 generalize hw0:w.alloc (.cells #[.slice ar b.ns.reg.length cr,.slice an b.ns.notes.length cn,.int .i64 b.of,.slice am b.ms.length cm,.slice ah b.hs.length ch,.slice as' b.rs.length cs'] 32)=w0 at hb1 hbox hl1
 have hb2:=zB w0 (.cells #[.int .i64 h] 3)
 have hhb:=Lay.new w0 3 #[.int .i64 h]
 have hl2:=World.size_alloc w0 (.cells #[.int .i64 h] 3)
 rw [hl1] at hhb hl2
 have hb3:=zB (w0.alloc (.cells #[.int .i64 h] 3)) (.cells #[.int .i64 0,.int .i64 0] 38)
 have hres:=Lay.new (w0.alloc (.cells #[.int .i64 h] 3)) 38 #[.int .i64 0,.int .i64 0]
 rw [hl2] at hres
 have HBW:=zF (zA hb1 (zA hb2 hb3))
 have HBOX:=zF ((hbox.ext hb2).ext hb3)
 have HH:=zF (hhb.ext hb3)
 have HRES:=zF hres
 have HA:=zF (hA.ext HBW.out)
 have HK:=zF (hK.ext HBW.out)
 clear hb1 hb2 hb3 hbox hhb hres hl2 hA hK
 subst hw0
 have k0:=HBOX.out.cell 0 _ rfl
 have k1:=HBOX.out.cell 1 _ rfl
 have k2:=HBOX.out.cell 2 _ rfl
 have k3:=HBOX.out.cell 3 _ rfl
 have k4:=HBOX.out.cell 4 _ rfl
 have k5:=HBOX.out.cell 5 _ rfl
 go_enter func24,ntmps24
 go_wp2_with fail
 clear k0 k1 k2 k3 k4 k5 hl1
 generalize ((w.alloc _).alloc _).alloc _=w5 at *
 have hright:zM b=0→∀ w',Below w5.heap.size w5 w'→Calls prog 72 #[.pointer (some ⟨w.heap.size,0,none⟩),.pointer (some ⟨w.heap.size+1,0,none⟩)] w' fun e w''=>e = .returned (.int .i64 (hpC b h))∧Below w'.heap.size w' w'' :=
  fun _ w' hb=>until1_built w' _ _ _ b h (HA.out.ext hb).at_.hs (zC hb (HBOX.out.cell 4 _ rfl)) (zC hb (HH.out.cell 0 _ rfl)) h64
 refine (some_built w5 _ _ _ _ _ b 72 _ (hpC b h) HA.out HK.out enter_until1 hright).mono ?_
 clear hright
 rintro e w2 ⟨hb2,v,rfl,⟨a,n,q,rfl⟩,hf⟩
 rw [someC_until] at hf ⊢
 have HF:=zF hf
 have HH:=zF (HH.out.ext hb2)
 have HRES:=zF (HRES.out.ext hb2)
 have HA:=zF (HA.out.ext hb2)
 have HBW:=zF (zA HBW.out hb2)
 clear hf hb2
 by_cases hc:untC b h=0
 case neg =>
  have hc':(untC b h != 0)=true:=by simpa using hc
  have hS:Hid (zRV b h=⟨0,0⟩):=by unfold Hid zRV;rw [if_neg hc]
  have z0:=HRES.out.cell 0 _ rfl
  have z1:=HRES.out.cell 1 _ rfl
  have zf0:=HRES.out.frozen 0
  have zf1:=HRES.out.frozen 1
  have zl:=HRES.out.lt
  clear hc
  go_wp2
  refine bodyPost_ret (v:=.tuple #[.agg #[.int .i64 0,.int .i64 0],.int .i64 (untC b h)]) (by simp [results,results24,go_sem,z0,z1,zl]) rfl ?_
  exact ⟨by rw [hS.out],zH (by omega) (zH (by omega) HBW.out)⟩
 case pos =>
  have hS:Hid (zRV b h=uTo b (zBH b) h.toNat (zBH b).length):=by unfold Hid zRV;rw [if_pos hc]
  have HC:=zF hc
  have hv:zM b=0:=by
   unfold untC at hc
   apply Classical.byContradiction
   intro hn
   rw [if_pos hn] at hc
   exact hn hc
  have hi:In h 0 ((b.hs.length:Int) - 1):=by
   unfold untC at hc
   rw [if_neg (by simp [hv])] at hc
   apply Classical.byContradiction
   intro hn
   rw [if_pos hn] at hc
   cases hc
  obtain ⟨k,rfl⟩ : ∃ k:Nat,h=k:=⟨h.toNat,by unfold In at hi;omega⟩
  have hk:k < b.hs.length:=by unfold In at hi;omega
  obtain ⟨n1,fs,hFi,h32,hpos⟩:=HF.out hc
  have hcall:=over_built w2 _ 73 #[.pointer (some ⟨w.heap.size+1,0,none⟩)] fs (fun i=>(fun S=>[zQC b S k (cntS b S k).lo,zQC b S k (cntS b S k).hi]) ((zBH b).getD i [])) (finds_sl hFi.row) enter_until2 hpos h32 (fun i hi w' hb=>by
   have hi':i < (zBH b).length:=by rw [← hFi.len];exact hi
   obtain ⟨vz,L,hFo,hL⟩:=(hFi.at_ i hi hi').found HA.out.at_
   have e:(zBH b).getD i []=(zBH b)[i]:=by rw [List.getD_eq_getElem?_getD,List.getElem?_eq_getElem hi'];rfl
   simp only [e]
   exact tell_until w' fs[i] _ _ _ _ _ _ vz b _ L k (hFo.ext hb) hv hL hk (zC hb (HH.out.cell 0 _ rfl)))
  rw [hFi.len,flat_range (fun S=>[zQC b S k (cntS b S k).lo,zQC b S k (cntS b S k).hi])] at hcall
  have hU:Hid (zCG ((zBH b).flatMap fun S=>[zQC b S k (cntS b S k).lo,zQC b S k (cntS b S k).hi])=zRV b k):=by
   unfold Hid
   rw [hS.out]
   unfold uTo
   rw [Int.toNat_natCast,List.take_length]
  rw [hU.out] at hcall
  rw [hc]
  obtain ⟨sp,hsp⟩ : ∃ z,zRV b k=z:=⟨_,rfl⟩
  rw [hsp] at hcall
  have HSP:=zF hsp
  clear hc hv hi hk hFi h32 hpos HF hS hU hsp
  go_wp2_with (go_at_call 41;refine hcall.mono ?_;rintro e w3 ⟨rfl,hb3⟩;have HRES:=zF (HRES.out.ext hb3);have HBW:=zF (zA HBW.out hb3);have z0:=HRES.out.cell 0 _ rfl;have z1:=HRES.out.cell 1 _ rfl;have zf0:=HRES.out.frozen 0;have zf1:=HRES.out.frozen 1;have zl:=HRES.out.lt;clear hcall hb3)
  refine bodyPost_ret (v:=.tuple #[.agg #[.int .i64 sp.lo,.int .i64 sp.hi],.int .i64 0]) (by simp [results,results24,go_sem,z0,z1,zl]) rfl ?_
  exact ⟨by rw [HSP.out,HC.out],zH (by omega) (zH (by omega) HBW.out)⟩
end
section
open Go.RowKit Go.Shelf
attribute [local go_sem] zAN Oper.grows Oper.growUpon
theorem enter_settled1:Enters prog 77:=enters_of func77 (by kernel_rfl) rfl
theorem enter_settled2:Enters prog 78:=enters_of func78 (by kernel_rfl) rfl
theorem contains_i (w:World) (v:Value) (l:List Int) (n:Int) (h:Sl zAJ 1 w v l) :
  Calls prog 79 #[v,.int .i64 n] w fun e w'=>e = .returned (.bool (decide (n∈l)))∧Below w.heap.size w w':=by
 refine (zEI w v l n h).mono ?_
 rintro e w' ⟨q,rfl,hq,rfl⟩
 refine ⟨?_,br_⟩
 by_cases hn:n∈l
 ·rw [hq.2 hn,decide_eq_true hn]
 ·cases q with
  | true=>exact absurd (hq.1 rfl) hn
  | false=>rw [decide_eq_false hn]
theorem settled1_built (w:World) : Calls prog 77 #[] w fun e w'=>e = .returned (.int .i64 0)∧Below w.heap.size w w':=by
 go_enter func77,ntmps77
 go_wp2
 go_ret
 exact ⟨rfl,br_⟩
theorem tell_settled (w:World) (x:Fnd) (gn:Nat) (vr vn vm vh vs vz:Value) (b:Built) (S:List Int) (L:List Span) (num:Int) (hF:FoundAt w x.p vr vn vm vh vs vz (.slice x.a x.n x.c) b S L) (hg:zJ w gn 0 (.int .i64 num)) :
  Calls prog 78 (#[.agg #[.pointer (some ⟨x.p,0,none⟩),.slice x.a x.n x.c]] ++ #[.pointer (some ⟨gn,0,none⟩)]) w fun e w'=>∃ u xs,e = .returned u∧Sl zAJ 1 w' u xs∧(∀ y,y∈xs↔y∈[inC num S])∧0 < xs.length∧xs.length≤2∧Below w.heap.size w w':=by
 have hb1:=zB w (.cells #[.pointer (some ⟨x.p,0,none⟩),.slice x.a x.n x.c] 95)
 have hfb:=Lay.new w 95 #[.pointer (some ⟨x.p,0,none⟩),.slice x.a x.n x.c]
 obtain ⟨vhas,hLs,_⟩:=hF.site.box
 obtain ⟨az,cz,rfl,_⟩:=zD hF.site.sl
 have HS:=zF (hLs.ext hb1)
 have HFB:=zF hfb
 have HB1:=zF hb1
 have HG:=zF (zC hb1 hg)
 have HZ:=zF (zI zN hb1 hF.site.sl)
 clear hF hg hb1 hfb hLs
 go_enter func78,ntmps78
 go_wp2
 generalize w.alloc _=w1 at *
 have f0:=zG (show zJ w1 w.heap.size 0 _ from HFB.out.cell 0 _ rfl)
 have s6:=zG (show zJ w1 x.p 6 _ from HS.out.cell 6 _ rfl)
 have g0:=zG HG.out
 refine zAW (by kernel_rfl) (by kernel_rfl) (no_implicit_lambda% ?_)
 repeat ((with_reducible refine wpQuiet_step (fun K hK=>?_));go_simp;first | ((with_reducible refine hK _ ?_);clear hK K) | (refine hK _ (no_implicit_lambda% ?_);clear hK K) | (apply Exists.intro;(with_reducible refine ⟨fun _=>?_,hK _ ?_⟩);((go_at_call 79;exact Calls.quiet_later (contains_i _ _ S num (zI zN (zE _ _) HZ.out))));clear hK K))
 with_reducible refine wpQuiet_nil ?_
 intro _ hw9
 obtain ⟨xq,hw8⟩:=hw9
 subst hw8
 clear f0 s6 g0
 have HB:=zF (zA HB1.out (zE w1 xq))
 generalize w1.later xq=w2 at *
 by_cases hm:num∈S
 ·have HM:Hid (inC num S=1):=if_pos hm
  rw [decide_eq_true hm]
  clear hm
  go_wp2
  go_ret
  exact ⟨_,[1],rfl,ints_one w2 1 (by unfold I64;decide),fun y=>by simp [HM.out],by simp,by simp,zA HB.out (zB _ _)⟩
 ·have HM:Hid (inC num S=0):=if_neg hm
  rw [decide_eq_false hm]
  clear hm
  go_wp2
  go_ret
  exact ⟨_,[0],rfl,ints_one w2 0 (by unfold I64;decide),fun y=>by simp [HM.out],by simp,by simp,zA HB.out (zB _ _)⟩
theorem someC_settled (b:Built) : zMF b 0=setC b:=by
 unfold zMF setC
 by_cases h:zM b=0 <;> simp [h]
theorem set_valid {b:Built} (h:setC b=0) : zM b=0:=by
 unfold setC at h
 apply Classical.byContradiction
 intro hn
 rw [if_pos hn] at h
 exact hn h
theorem settled_built (w:World) (vr vn vm vh vs:Value) (b:Built) (hA:BuiltArg w vr vn vm vh vs b) (hK:KindsAt w) :
  Calls prog 26 #[.agg #[vr,vn,.int .i64 b.of,vm,vh,vs]] w fun e w'=>∃ u,e = .returned (.tuple #[u,.int .i64 (setC b)])∧Sl AtU8 1 w' u (setL b)∧Below w.heap.size w w':=by
 obtain ⟨i0,hif,iz0,iz1,iz2⟩:=info_parts infoU8
 obtain ⟨ar,cr,rfl,_⟩:=zD hA.at_.reg
 obtain ⟨an,cn,rfl,hnm⟩:=zD hA.at_.notes
 obtain ⟨am,cm,rfl,_⟩:=zD hA.at_.ms
 obtain ⟨ah,ch,rfl,_⟩:=zD hA.at_.hs
 obtain ⟨as',cs',rfl,_⟩:=zD hA.at_.rs
 have hb1:=zB w (.cells #[.slice ar b.ns.reg.length cr,.slice an b.ns.notes.length cn,.int .i64 b.of,.slice am b.ms.length cm,.slice ah b.hs.length ch,.slice as' b.rs.length cs'] 32)
 have hbox:=Lay.new w 32 #[.slice ar b.ns.reg.length cr,.slice an b.ns.notes.length cn,.int .i64 b.of,.slice am b.ms.length cm,.slice ah b.hs.length ch,.slice as' b.rs.length cs']
 have HBW:=zF hb1
 have HBOX:=zF hbox
 have HA:=zF (hA.ext hb1)
 have HK:=zF (hK.ext hb1)
 clear hb1 hbox hA hK
 have k0:=HBOX.out.cell 0 _ rfl
 have k1:=HBOX.out.cell 1 _ rfl
 have k2:=HBOX.out.cell 2 _ rfl
 have k3:=HBOX.out.cell 3 _ rfl
 have k4:=HBOX.out.cell 4 _ rfl
 have k5:=HBOX.out.cell 5 _ rfl
 go_enter func26,ntmps26
 go_wp2_with fail
 clear k0 k1 k2 k3 k4 k5
 generalize w.alloc _=w1 at *
 refine (some_built w1 _ _ _ _ _ b 77 #[] 0 HA.out HK.out enter_settled1 (fun _ w' _=>settled1_built w')).mono ?_
 rintro e w2 ⟨hb2,v,rfl,⟨a,n,q,rfl⟩,hf⟩
 rw [someC_settled] at hf ⊢
 have HF:=zF hf
 have HBOX:=zF (HBOX.out.ext hb2)
 have HA:=zF (HA.out.ext hb2)
 have HBW:=zF (zA HBW.out hb2)
 clear hf hb2
 by_cases hc:setC b=0
 case neg =>
  have hc':(setC b != 0)=true:=by simpa using hc
  have hS:Hid (setL b=[]):=by unfold Hid setL;rw [if_neg hc]
  clear hc
  go_wp2
  go_ret2
  exact ⟨_,rfl,by rw [hS.out];exact zGS _ _ _ _ _,HBW.out⟩
 case pos =>
  have hS:Hid (setL b=(zAP b.ns.notes b.ns.notes.length).map (knC (zBH b))):=by unfold Hid setL;rw [if_pos hc]
  have HC:=zF hc
  have hv:=set_valid hc
  have hN12:=(zAS (zW hv).1).2.1
  obtain ⟨n1,fs,hFi,h32,hpos⟩:=HF.out hc
  have hlA:0 < (zBH b).length:=by rw [← hFi.len];exact hpos
  have hcall:Hid (∀ W gn num,Below w2.heap.size w2 W→zJ W gn 0 (.int .i64 num)→Calls prog 41 #[.slice a n q,.func (.func 78) #[] #[.pointer (some ⟨gn,0,none⟩)]] W fun e w'=>∃ sp:Span,e = .returned (.agg #[.int .i64 sp.lo,.int .i64 sp.hi])∧sp.lo+sp.hi=knC (zBH b) num∧Below W.heap.size W w'):=fun W gn num hb hg=>by
   have h:=over_built W _ 78 #[.pointer (some ⟨gn,0,none⟩)] fs (fun i=>(fun S=>[inC num S]) ((zBH b).getD i [])) (zI stays_fnd hb (finds_sl hFi.row)) enter_settled2 hpos h32 (fun i hi w' hb'=>by
    have hi':i < (zBH b).length:=by rw [← hFi.len];exact hi
    obtain ⟨vz,L,hFo,hL⟩:=(hFi.at_ i hi hi').found HA.out.at_
    have e:(zBH b).getD i []=(zBH b)[i]:=by rw [List.getD_eq_getElem?_getD,List.getElem?_eq_getElem hi'];rfl
    simp only [e]
    exact tell_settled w' fs[i] _ _ _ _ _ _ vz b _ L num (hFo.ext (zA hb hb')) (zC hb' hg))
   rw [hFi.len,flat_range (fun S=>[inC num S])] at h
   refine h.mono ?_
   rintro e w' ⟨rfl,hb'⟩
   exact ⟨_,rfl,knC_span hlA,hb'⟩
  have HKU:=zF (knC_u8 (zBH b))
  have HOL:=zF (opensTo_le b.ns.notes)
  have HOS:=zF (fun k (hk:k < b.ns.notes.length)=>zRQ hk)
  rw [hc]
  clear hc hv hFi h32 hpos HF hlA
  generalize zBH b=A at *
  have k1:=HBOX.out.cell 1 _ rfl
  go_wp2
  clear k1
  go_loopw [6,22] (fun q i wr=>∃ j:Nat,i = .int .i64 j∧j≤b.ns.notes.length∧Hid (wr.ownsRow w2.heap.size 5 1 q (zAP b.ns.notes j).length (((zAP b.ns.notes j).map (knC A)).map (Value.int .u8)))∧Hid (Below w2.heap.size w2 wr)) (fun _ i _=>b.ns.notes.length - (intOf i).toNat)
  case atStart=>exact ⟨0,rfl,by omega,zF (World.ownsRow_nil _ _ _ _),zF (br_)⟩
  case round =>
   obtain ⟨j,rfl,hj,HO,HB8⟩:=hrel
   by_cases hlt:j < b.ns.notes.length
   case neg =>
    obtain rfl:j=b.ns.notes.length:=by omega
    go_wp2
    go_ret2
    refine ⟨_,by rw [HC.out];rfl,?_,zA HBW.out HB8.out⟩
    rw [hS.out]
    refine u8s_of_own (by rw [List.length_map];exact HO.out) (fun y hy=>?_)
    obtain ⟨z,_,rfl⟩:=List.mem_map.1 hy
    exact HKU.out z
   case pos =>
    obtain ⟨g,o,hge,⟨n0,n1,n2,n3,n4,n5,n6,n7,n8,n9⟩,-⟩:=(zZ (zI zS HB8.out HA.out.at_.notes)).2 j hlt
    cases hge
    have hos:=zF (HOS.out j hlt)
    have hol:=HOL.out j
    have hkl:(j:Int) < b.ns.notes.length:=by omega
    generalize b.ns.notes[j]=x at *
    obtain ⟨num,day,sg,d,l,fr,to,ca,use,ways⟩:=x
    simp only at n0 n1 n2 n3 n4 n5 n6 n7 n8 n9 hos
    unfold zJ at n0 n1 n2 n3 n4 n5 n6 n7 n8 n9
    have hba:=zB wr (.cells #[.int .i64 num,.int .i64 day,.int .u8 sg,.int .i64 d,.int .i64 l,.int .i64 fr,.int .i64 to,.int .i64 ca,.bool use,.int .u8 ways] 147)
    have hnl:=Lay.new wr 147 #[.int .i64 num,.int .i64 day,.int .u8 sg,.int .i64 d,.int .i64 l,.int .i64 fr,.int .i64 to,.int .i64 ca,.bool use,.int .u8 ways]
    by_cases hs:sg=1
    case neg =>
     have hs':(sg != 1)=true:=by simpa using hs
     have hos2:Hid (zAP b.ns.notes (j+1)=zAP b.ns.notes j):=by unfold Hid;rw [hos.out,if_neg hs,List.append_nil]
     clear hs hos hnl
     go_wp2
     go_roundw
     ·exact ⟨j+1,by go_num,by omega,by rw [hos2.out];exact zF (zAA hba HO.out),zF (zA HB8.out hba)⟩
     ·simp [intOf];omega
    case pos =>
     subst hs
     have hos2:Hid (zAP b.ns.notes (j+1)=zAP b.ns.notes j++[num]):=by unfold Hid;rw [hos.out,if_pos rfl]
     have HBA:=zF (zA HB8.out hba)
     have hov:=zF (hcall.out _ _ num HBA.out (hnl.cell 0 _ rfl))
     have HOA:=zF (zAA hba HO.out)
     have hk8:=HKU.out num
     have hkn:Hid (knC A num=knC A num):=rfl
     clear hos hnl hba HO HB8
     generalize hkv:knC A num=kv at hov hk8
     have HKV:=zF hkv
     clear hkv hkn
     go_wp2_with fail
     clear n0 n1 n2 n3 n4 n5 n6 n7 n8 n9
     refine hov.out.mono ?_
     rintro e w3 ⟨sp,rfl,hsp,hb3⟩
     have hb4:=zB w3 (.cells #[.int .i64 sp.lo,.int .i64 sp.hi] 38)
     have HO4:=zF (zAA (zA hb3 hb4) HOA.out)
     have HB4:=zF (zA HBA.out (zA hb3 hb4))
     have hsz4:Hid ((w3.alloc (.cells #[.int .i64 sp.lo,.int .i64 sp.hi] 38)).heap.size=w3.heap.size+1):=World.size_alloc _ _
     have hcn:=zF (cell_one_new (w3.alloc (.cells #[.int .i64 sp.lo,.int .i64 sp.hi] 38)) (.int .u8 kv) 5)
     rw [hsz4.out] at hcn
     have hU:=hk8
     unfold U8 at hU
     have hw1:wrap64 (sp.lo+sp.hi)=kv:=by rw [hsp];exact IntWalk.wrap64_in _ (by omega)
     have hw2:IntKind.i64.wrap (sp.lo+sp.hi)=kv:=by rw [hsp];exact IntWalk.i64_in _ (by omega)
     have hw3:IntKind.u8.wrap kv=kv:=by
      have:kv=kv % 256:=by omega
      simp [IntKind.wrap,IntKind.bits,IntKind.signed]
      omega
     clear hb3 hb4 hov hsp
     go_wp2_with (at_builtin;refine wpList_append_own _ rfl _ _ 70 rfl w2.heap.size 5 i0 (.int .u8 0) 1 1 underlying70 hif iz0 iz1 iz2 rfl (by decide) _ _ _ rfl (HO4.out.alloc _) ⟨w3.heap.size+1,0,none⟩ 1 1 [.int .u8 kv] rfl rfl hcn.out (by simp [Value.oneCell']) (by unfold maxLen;omega) (by omega) (by have:=HB4.out.size;rw [hsz4.out] at this;simp;omega) ?_;intro v' w4 hown' hgrow _)
     have hb5:=(HB4.out.alloc HB4.out.size (.cells #[.int .u8 kv] 5)).grown hgrow (by have:=HB4.out.size;rw [hsz4.out] at this;simp;omega) (fun k e=>(HO4.out.lt k e).1)
     go_wp2
     go_roundw
     ·exact ⟨j+1,by go_num,by omega,by rw [hos2.out,List.map_append,List.map_append,List.length_append,List.map_singleton,List.map_singleton,HKV.out];exact zF hown',zF hb5⟩
     ·simp [intOf];omega
end
end Go.Proofs.YtpolpdegpbahiaaGreatDoor
