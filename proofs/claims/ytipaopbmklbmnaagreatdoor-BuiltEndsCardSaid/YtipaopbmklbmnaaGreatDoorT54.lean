/- Lemmas. -/
import Derived.Shelf.SlGeneric
import Derived.Shelf.SlSortCmp.Whole1
import Derived.Test.YtipaopbmklbmnaaGreatDoorProg
import Derived.Test.YtipaopbmklbmnaaGreatDoorT35
set_option linter.all false
set_option maxRecDepth 100000
set_option maxHeartbeats 0
namespace Go.Proofs
section
open Go.Shelf
def Tryz.lays151_ren:Go.Shelf.Ren:=⟨fun | 6=>151 | 15=>180 | 14=>181 | 28=>204 | 29=>205 | 20=>206 | 21=>207 | 22=>208 | 23=>209 | 24=>210 | 25=>211 | 26=>212 | 27=>213 | 46=>221 | 47=>217 | 48=>218 | 49=>222 | 50=>223 | 57=>226 | n=>n,fun | 22=>37 | 24=>28 | 25=>173 | 3=>3 | 39=>269 | 0=>0 | 53=>114 | 55=>289 | 4=>4 | 46=>282 | 45=>281 | 50=>64 | 5=>5 | 9=>9 | 66=>296 | 70=>300 | 76=>304 | 77=>305 | n=>n,fun | n=>n⟩
theorem Tryz.lays151:Go.Proofs.SlLaysF.n6 Tryz.prog Tryz.lays151_ren:={
 mixed:=by kernel_rfl
 f6:=⟨Tryz.f151.name,by decide,Tryz.func151.trans (congrArg some (by kernel_rfl))⟩
 f14:=⟨Tryz.f181.name,by decide,Tryz.func181.trans (congrArg some (by kernel_rfl))⟩
 f15:=Tryz.func180.trans (congrArg some (by kernel_rfl))
 f20:=⟨Tryz.f206.name,by decide,Tryz.func206.trans (congrArg some (by kernel_rfl))⟩
 f21:=⟨Tryz.f207.name,by decide,Tryz.func207.trans (congrArg some (by kernel_rfl))⟩
 f22:=⟨Tryz.f208.name,by decide,Tryz.func208.trans (congrArg some (by kernel_rfl))⟩
 f23:=⟨Tryz.f209.name,by decide,Tryz.func209.trans (congrArg some (by kernel_rfl))⟩
 f24:=⟨Tryz.f210.name,by decide,Tryz.func210.trans (congrArg some (by kernel_rfl))⟩
 f25:=⟨Tryz.f211.name,by decide,Tryz.func211.trans (congrArg some (by kernel_rfl))⟩
 f26:=⟨Tryz.f212.name,by decide,Tryz.func212.trans (congrArg some (by kernel_rfl))⟩
 f27:=⟨Tryz.f213.name,by decide,Tryz.func213.trans (congrArg some (by kernel_rfl))⟩
 f28:=Tryz.func204.trans (congrArg some (by kernel_rfl))
 f29:=Tryz.func205.trans (congrArg some (by kernel_rfl))
 f46:=⟨Tryz.f221.name,by decide,Tryz.func221.trans (congrArg some (by kernel_rfl))⟩
 f47:=Tryz.func217.trans (congrArg some (by kernel_rfl))
 f48:=Tryz.func218.trans (congrArg some (by kernel_rfl))
 f49:=⟨Tryz.f222.name,by decide,Tryz.func222.trans (congrArg some (by kernel_rfl))⟩
 f50:=⟨Tryz.f223.name,by decide,Tryz.func223.trans (congrArg some (by kernel_rfl))⟩
 f57:=⟨Tryz.f226.name,by decide,Tryz.func226.trans (congrArg some (by kernel_rfl))⟩
 t0:=Tryz.underlying0
 a0:=Tryz.isAgg0
 z0:=Tryz.sizeOf0
 v0:=Tryz.zeroValue0
 t3:=Tryz.underlying3
 a3:=Tryz.isAgg3
 z3:=Tryz.sizeOf3
 v3:=Tryz.zeroValue3
 t4:=Tryz.underlying4
 a4:=Tryz.isAgg4
 z4:=Tryz.sizeOf4
 v4:=Tryz.zeroValue4
 t5:=Tryz.underlying5
 a5:=Tryz.isAgg5
 z5:=Tryz.sizeOf5
 v5:=Tryz.zeroValue5
 t9:=Tryz.underlying9
 a9:=Tryz.isAgg9
 z9:=Tryz.sizeOf9
 v9:=Tryz.zeroValue9
 t22:=Tryz.underlying37
 a22:=Tryz.isAgg37
 z22:=Tryz.sizeOf37
 v22:=Tryz.zeroValue37
 a24:=Tryz.isAgg28
 z24:=Tryz.sizeOf28
 t25:=Tryz.underlying173
 a25:=Tryz.isAgg173
 z25:=Tryz.sizeOf173
 v25:=Tryz.zeroValue173
 t39:=Tryz.underlying269
 a39:=Tryz.isAgg269
 z39:=Tryz.sizeOf269
 v39:=Tryz.zeroValue269
 t45:=Tryz.underlying281
 a45:=Tryz.isAgg281
 z45:=Tryz.sizeOf281
 v45:=Tryz.zeroValue281
 t46:=Tryz.underlying282
 a46:=Tryz.isAgg282
 z46:=Tryz.sizeOf282
 v46:=Tryz.zeroValue282
 t50:=Tryz.underlying64
 a50:=Tryz.isAgg64
 z50:=Tryz.sizeOf64
 v50:=Tryz.zeroValue64
 t53:=Tryz.underlying114
 a53:=Tryz.isAgg114
 z53:=Tryz.sizeOf114
 v53:=Tryz.zeroValue114
 t55:=Tryz.underlying289
 a55:=Tryz.isAgg289
 z55:=Tryz.sizeOf289
 v55:=Tryz.zeroValue289
 t66:=Tryz.underlying296
 a66:=Tryz.isAgg296
 z66:=Tryz.sizeOf296
 v66:=Tryz.zeroValue296
 t70:=Tryz.underlying300
 a70:=Tryz.isAgg300
 z70:=Tryz.sizeOf300
 v70:=Tryz.zeroValue300
 t76:=Tryz.underlying304
 a76:=Tryz.isAgg304
 z76:=Tryz.sizeOf304
 v76:=Tryz.zeroValue304
 t77:=Tryz.underlying305
 a77:=Tryz.isAgg305
 z77:=Tryz.sizeOf305
 v77:=Tryz.zeroValue305 }
end
end Go.Proofs
namespace Go.Proofs.YtipaopbmklbmnaaGreatDoor
section
open Tryz
open Go.RowKit Go.Shelf
theorem zMX (w:World) (va vb:Value) (S T:List Int) (hS:Sl zAM 1 w va S) (hT:Sl zAM 1 w vb T) :
  Calls prog 91 #[va,vb] w fun e w'=>e = .returned (.int .i64 (shortC S T))/\w'=w.alloc (.cells #[.int .i64 ((S.length:Int) - T.length),.int .i64 (cmpL S T)] 3):=by
 obtain ⟨a,capa,rfl,hm⟩:=zD hS;obtain ⟨c,capc,rfl,hm'⟩:=zD hT;have HS:=zE hS;have HT:=zE hT;clear hS hT;have hwr:IntKind.i64.wrap ((S.length:Int) - T.length)=(S.length:Int) - T.length:=IntWalk.i64_in _ (by omega);have hw2:wrap64 ((S.length:Int) - T.length)=(S.length:Int) - T.length:=IntWalk.wrap64_in _ (by omega);go_enter func91,ntmps91;go_wp2_with fail;refine (compare_ints w _ _ S T HS.out HT.out).mono ?_;rintro e w2 ⟨rfl,rfl⟩;go_wp2_with fail;have hc:∀ j u,#[Value.int .i64 ((S.length:Int) - T.length),.int .i64 (cmpL S T)][j]? = some u->zK (w.alloc (.cells #[.int .i64 ((S.length:Int) - T.length),.int .i64 (cmpL S T)] 3)) w.heap.size j u:=fun j u h=>zR w _ _ j u h
 refine (or_int _ _ _ _ ⟨hc 0 _ rfl,hc 1 _ rfl⟩).mono ?_;rintro e w3 ⟨rfl,rfl⟩;go_wp2;go_ret;exact ⟨rfl,rfl⟩
theorem zNU:Enters prog 91:=enters_of func91 (by kernel_rfl) rfl
def cfOf (T:List (List Int)) (i j:Nat) : Int:=shortC (T.getD i []) (T.getD j [])
theorem cf_lt (T:List (List Int)) (i j:Nat) : ltOf (cfOf T) i j=zFV (T.getD i []) (T.getD j []):=by
 unfold ltOf cfOf;have h:=shortC_bef (T.getD i []) (T.getD j []);by_cases hb:zFV (T.getD i []) (T.getD j [])=true
 ·rw [hb];simpa using h.2 hb
 ·have hb':zFV (T.getD i []) (T.getD j [])=false:=by simpa using hb
  rw [hb',decide_eq_false_iff_not];exact fun hh=>hb (h.1 hh)
theorem cf_swo (T:List (List Int)) : Go.Sort.SWO (ltOf (cfOf T)) where
 irrefl x:=by rw [cf_lt];exact befL_irr _
 trans x y z h1 h2:=by rw [cf_lt] at *;exact befL_tr _ _ _ h1 h2
 ntrans x y z h1 h2:=by
  rw [cf_lt] at *;generalize T.getD x []=a at *;generalize T.getD y []=b at *;generalize T.getD z []=c at *;by_cases hb:zFV a c=true
  ·by_cases hba:zFV b a=true
   ·have:=befL_tr _ _ _ hba hb;rw [this] at h2;cases h2
   ·have e:=zMM a b h1 (by simpa using hba);subst e;rw [hb] at h2;cases h2
  ·simpa using hb
section
variable {α:Type} [Inhabited α]
theorem zEI (enc:α->Value) (w:World) (g m:Nat) (dk:Array α) (os:Array Obj) : w.grownBy (sortWorld enc w g 0 m dk os) (some g):=by
 refine ⟨rfl,rfl,rfl,?_,fun k hk hne=>?_⟩
 ·simp [sortWorld,Go.Sort.grow,Go.Sort.putRow,Go.Sort.mapBlock,Go.Sort.ahead]
 ·have hk':k < (Go.Sort.putRow enc (Go.Sort.ahead w m) g 0 dk).heap.size:=by simpa [Go.Sort.putRow,Go.Sort.mapBlock,Go.Sort.ahead] using hk
  unfold sortWorld;rw [Go.Sort.heap_grow_old _ _ hk'];unfold Go.Sort.putRow Go.Sort.mapBlock;simp only [Array.getElem?_modify];rw [if_neg (fun e=>hne (by rw [e]))];rfl
theorem zNZ (enc:α->Value) (w:World) (g m:Nat) (dk:Array α) (os:Array Obj) (cur:Array Value) (e:TypeId) (q:Nat×Nat) (h:w.heap[g]? = some (.cells cur e q)) : (sortWorld enc w g 0 m dk os).heap[g]? = some (.cells (Go.Sort.putCells enc 0 dk cur) e q):=by
 have hg:=(Array.getElem?_eq_some_iff.1 h).1;have hk':g < (Go.Sort.putRow enc (Go.Sort.ahead w m) g 0 dk).heap.size:=by simpa [Go.Sort.putRow,Go.Sort.mapBlock,Go.Sort.ahead] using hg
 unfold sortWorld;rw [Go.Sort.heap_grow_old _ _ hk'];unfold Go.Sort.putRow Go.Sort.mapBlock;simp only [Array.getElem?_modify];rw [if_pos trivial];show (w.heap[g]?).map _=_
 rw [h];rfl
theorem zOC (enc:α->Value) (dk:Array α) (cur:Array Value) (n:Nat) (hn:dk.size=n) (hc:n<=cur.size) : (Go.Sort.putCells enc 0 dk cur).toList.take n=dk.toList.map enc:=by
 subst hn;apply List.ext_getElem?;intro k;unfold Go.Sort.putCells;by_cases hk:k < dk.size
 ·rw [List.getElem?_take_of_lt hk,Array.getElem?_toList,Array.getElem?_mapIdx,Array.getElem?_eq_getElem (by omega),List.getElem?_map,Array.getElem?_toList,Array.getElem?_eq_getElem hk];simp [hk,getElem!_pos dk k hk]
 ·rw [List.getElem?_eq_none (by simp;omega),List.getElem?_eq_none (by simp;omega)]
end
theorem sort_lists (w:World) (base g cap:Nat) (T:List (List Int)) (cs:List Value) (hown:w.ownsRow base 28 1 (.slice (some ⟨g,0,none⟩) T.length cap) T.length cs) (hr:zEO [3] zJC 1 w cs T) (h64:T.length<=1000) :
  Calls prog 151 #[.slice (some ⟨g,0,none⟩) T.length cap,.func (.func 91) #[] #[]] w fun e w'=>e = .returned (.tuple #[])/\w.grownBy w' (some g) /\
   ∃ T' cs',w'.ownsRow base 28 1 (.slice (some ⟨g,0,none⟩) T.length cap) T.length cs'/\zEO [3] zJC 1 w' cs' T'/\T'.Perm T/\T'.Pairwise (fun a b=>zFV b a=false):=by
 have hat:=hr.at1;have hval:∀ k,k < T.length->∃ a c,cs[k]? = some (.slice a (T.getD k []).length c)/\OnT [3] (fun w=>Sl zAM 1 w (.slice a (T.getD k []).length c) (T.getD k [])) w:=fun k hk=>by
  obtain ⟨v,h1,h2⟩:=hat.2 k hk;have h3:OnT [3] (fun w=>Sl zAM 1 w v T[k]) w:=h2.mono (fun w h=>by obtain ⟨u,hu,hs⟩:=h;simp at hu;subst hu;exact hs);obtain ⟨a,c,rfl,_⟩:=zD h3.now;have e:T.getD k []=T[k]:=by rw [List.getD_eq_getElem?_getD,List.getElem?_eq_getElem hk];rfl
  rw [e];exact ⟨a,c,h1,h3⟩
 obtain ⟨enc,henc⟩ : ∃ enc:Nat->Value,enc=fun i=>cs.getD i (.slice none 0 0):=⟨_,rfl⟩
 have hencv:∀ k,∃ a c,enc k = .slice a (T.getD k []).length c/\OnT [3] (fun w=>Sl zAM 1 w (.slice a (T.getD k []).length c) (T.getD k [])) w:=fun k=>by
  by_cases hk:k < T.length
  ·obtain ⟨a,c,h1,h2⟩:=hval k hk;refine ⟨a,c,?_,h2⟩;rw [henc];simp [List.getD_eq_getElem?_getD,h1]
  ·have e1:T.getD k []=[]:=by rw [List.getD_eq_getElem?_getD,List.getElem?_eq_none (by omega)];rfl
   have e2:enc k = .slice none 0 0:=by rw [henc];simp only [List.getD_eq_getElem?_getD];rw [List.getElem?_eq_none (by rw [hat.1];omega)];rfl
   rw [e1,e2];exact ⟨none,0,rfl,fun w' _=>⟨none,0,rfl,by simp,fun k hk=>by simp at hk⟩⟩
 have hlen:=hat.1;obtain ⟨d,hd⟩ : ∃ d:Array Nat,d=Array.range T.length:=⟨_,rfl⟩;have hds:d.size=T.length:=by rw [hd];simp
 have hdi:∀ j,j < T.length->d[j]! = j:=fun j hj=>by rw [getElem!_pos d j (by omega)];subst hd;simp
 have h1:OneCell enc:=fun x=>by obtain ⟨a,c,h,_⟩:=hencv x;rw [h];rfl
 have hH:Go.Sort.Holds enc w g 0 d:=fun j hj=>by
  have hj':j < T.length:=by omega
  rw [hdi j hj',Nat.zero_add];refine ⟨?_,zNI hown j⟩;obtain ⟨a,c,hc,_⟩:=hval j hj';have:=hown.cells (g:=g) rfl j _ hc;rw [zAZ] at this;rw [this,henc];simp [List.getD_eq_getElem?_getD,hc]
 have hrow:∃ cur,w.heap[g]? = some (.cells cur 28 (0,0))/\T.length<=cap/\cap<=maxLen/\cur.size=cap:=by
  rcases hown.2 with ⟨h,_⟩ | ⟨g',cap',cur,h,_,hc,q1,q2,q3,_⟩
  ·cases h
  ·cases h;exact ⟨cur,hc,q1,q2,by omega⟩
 obtain ⟨cur,hcur,hcap,hcm,hcs⟩:=hrow;have hkeep:∀ m (dk:Array Nat) os,zFL [3] w (sortWorld enc w g 0 m dk os):=fun m dk os=>keepT_grown1 (zEI enc w g m dk os) (show Lay w g cur _ from hcur) (by decide)
 have hcmp:CmpLays1 prog 91 #[] enc (cfOf T) g 0 d.size w:=fun m os dk hs x y=>by
  obtain ⟨a,c,e1,o1⟩:=hencv x;obtain ⟨a',c',e2,o2⟩:=hencv y;rw [e1,e2];refine (zMX (sortWorld enc w g 0 m dk os) _ _ _ _ (o1.keep (hkeep m dk os)).now (o2.keep (hkeep m dk os)).now).mono ?_;rintro e w' ⟨rfl,rfl⟩;exact ⟨rfl,0,_,Go.Sort.alloc_eq_grow _ _⟩
 have hsort:=Any.slices_SortFunc Tryz.lays151 enc h1 (cfOf T) (cf_swo T) 91 #[] g 0 cap d w zNU hcmp hH (Array.getElem?_eq_some_iff.1 hcur).1 (by omega);rw [hds] at hsort;refine hsort.mono ?_;rintro e w' ⟨rfl,d',n,os,⟨hz,_,hp⟩,hso,rfl⟩;rw [hds] at hz;refine ⟨rfl,zEI _ _ _ _ _ _,d'.toList.map (fun i=>T.getD i []),d'.toList.map enc,?_,?_,?_,?_⟩
 ·refine ⟨by simp [hz],.inr ⟨g,cap,Go.Sort.putCells enc 0 d' cur,rfl,?_,zNZ _ _ _ _ _ _ _ _ _ hcur,hcap,hcm,by simp [Go.Sort.putCells,hcs],?_⟩⟩
  ·exact (hown.lt g rfl).1
  ·rw [Nat.mul_one];exact zOC enc d' cur _ hz (by omega)
 ·refine rowIs_of1 (by simp) (fun k hk=>?_);simp only [List.length_map,Array.length_toList] at hk;obtain ⟨a,c,e1,o1⟩:=hencv d'[k];refine ⟨enc d'[k],by simp [hk],?_⟩;rw [e1];have:=(o1.keep (hkeep n d' os)).mono (Q:=fun w=>zJC w [.slice a (T.getD d'[k] []).length c] (T.getD d'[k] [])) (fun w h=>⟨_,rfl,h⟩);simpa using this
 ·have e1:d.extract 0 T.length=d:=by rw [<- hds];simp
  have e2:d'.extract 0 T.length=d':=by rw [<- hz];simp
  rw [e1,e2] at hp;refine (hp.map _).trans (List.Perm.of_eq ?_);rw [hd];apply List.ext_getElem?;intro k;simp only [Array.toList_range,List.getElem?_map];by_cases hk:k < T.length
  ·rw [List.getElem?_range hk,List.getElem?_eq_getElem hk];simp [List.getD_eq_getElem?_getD,hk]
  ·rw [List.getElem?_eq_none (by simp;omega),List.getElem?_eq_none (by omega)];rfl
 ·rw [List.pairwise_map,List.pairwise_iff_getElem];intro i j hi hj hij;rw [Array.length_toList] at hi hj;have:=hso i j (by omega) hij (by omega);rw [cf_lt,getElem!_pos d' i hi,getElem!_pos d' j hj] at this;simpa using this
end
section
open Tryz
open Go.RowKit Go.Shelf
attribute [local go_sem] zAE Oper.grows Oper.growUpon Oper.semAt_some
theorem zQX (O:List Int) : (zQD O).length=2 ^ O.length:=by
 have key:∀ (O:List Int) (A:List (List Int)),(O.foldl stepP A).length=A.length*2 ^ O.length:=by
  intro O;induction O with
  | nil=>intro A;simp
  | cons x O ih =>intro A;rw [List.foldl_cons,ih];simp only [stepP,List.length_append,List.length_map,List.length_cons,Nat.pow_succ];rw [<- Nat.two_mul,Nat.mul_comm 2,Nat.mul_assoc,Nat.mul_comm 2]
 unfold zQD;rw [key];simp
theorem opensTo_pre (N:List Note) (k:Nat) : ∃ M,zBO N=zAH N k++M:=by
 refine ⟨zBO (N.drop k),?_⟩;unfold zBO zAH;rw [<- List.map_append,<- List.filter_append,List.take_append_drop]
def RowsL (n0:Nat) (w:World) (q:Value) (T:List (List Int)) : Prop:=∃ cs,w.ownsRow n0 28 1 q T.length cs/\zEO [3] zJC 1 w cs T
theorem RowsL.ext {n0:Nat} {w w':World} {q:Value} {T:List (List Int)} (hb:Below w.heap.size w w') (h:RowsL n0 w q T) : RowsL n0 w' q T:=by
 obtain ⟨cs,h1,h2⟩:=h;exact ⟨cs,zAC hb h1,h2.keep (zBM hb)⟩
def KpT (A B:World) : Prop:=zFL [3,28] A B
theorem kpT_t {A B C:World} (h:KpT A B) (k:KpT B C) : KpT A C:=h.trans k
theorem zOD {es:List TypeId} {W:World} {l:Nat} {o:Obj} (o':Obj) (h:W.heap[l]? = some o) (hc:o.isCells=false) : zFL es W (W.putObj l o') :=
 fun k cur e q _ hk=>(World.putObj_heap_other (fun e'=>by subst e';rw [h] at hk;cases hk;cases hc)).trans hk
theorem kpT_b (W:World) (l:Nat) (o o':Obj) (h:W.heap[l]? = some o) (hc:o.isCells=false) : KpT W (W.putObj l o'):=zOD o' h hc
theorem zCR {w w':World} {base:Nat} {e:TypeId} {es:List TypeId} {sz n:Nat} {v:Value} {cs:List Value} (hk:zFL es w w') (he:e∈es) (h:w.ownsRow base e sz v n cs) : w'.ownsRow base e sz v n cs:=by
 obtain ⟨hl,h2⟩:=h;refine ⟨hl,?_⟩;rcases h2 with h2 | ⟨g,cap,cur,hv,hg,hc,h3⟩
 ·exact .inl h2
 ·exact .inr ⟨g,cap,cur,hv,hg,hk _ _ _ _ he hc,h3⟩
theorem onT_ints {w:World} {base:Nat} {v:Value} {xs:List Int} (h:w.ownsRow base 3 1 v xs.length (xs.map (Value.int .i64))) (hI:∀ x∈xs,I64 x) : OnT [3] (fun w=>Sl zAM 1 w v xs) w:=fun w' k=>zBF (zCR k (by simp) h) hI
theorem sl_I64 {w:World} {v:Value} {xs:List Int} (h:Sl zAM 1 w v xs) : ∀ x∈xs,I64 x:=fun x hx=>by
 obtain ⟨k,hk,rfl⟩:=List.getElem_of_mem hx;obtain ⟨a,c,rfl,_⟩:=zD h;obtain ⟨_,_,_,_,hI⟩:=(zY h).2 k hk;exact hI
theorem srt_perm {l c:List Int} (hl:l.Nodup) (hp:c.Perm l) (hs:c.Pairwise (fun a b=>a<=b)) : c=srt l:=by
 have hn:c.Nodup:=hp.nodup_iff.2 hl;refine zIX ((hs.and hn).imp (fun ⟨a,b⟩=>by omega)) (srt_rise hl) (fun x=>?_);rw [zPE];exact hp.mem_iff
theorem allP_ok {R:List Issue} {N:List Note} (h:zDL R N) {k:Nat} (hk:k < N.length) (hs:N[k].sg=1) : (zQD (zAH N k)).length<=16/\zQD (zAH N (k+1))=stepP (zQD (zAH N k)) N[k].num/\∀ l∈zQD (zAH N k),l.length<=4/\(l++[N[k].num]).Nodup:=by
 have e:=zHK N k hk;rw [if_pos hs] at e;obtain ⟨M,hM⟩:=opensTo_pre N (k+1);have h5:=opens_len5 h;have hn:=zHF h;rw [hM] at h5 hn;rw [e] at hn h5;simp only [List.length_append,List.length_cons,List.length_nil] at h5;have hn1:=(List.nodup_append.1 hn).1;have hn2:=(List.nodup_append.1 hn1).1;have hx:N[k].num ∉ zAH N k:=fun hx=>(List.nodup_append.1 hn1).2.2 _ hx _ (by simp) rfl
 refine ⟨?_,by rw [e,allP_snoc],fun l hl=>?_⟩
 ·rw [zQX];exact Nat.pow_le_pow_right (n:=2) (by decide) (show (zAH N k).length<=4 by omega)
 ·have hT:=(allP_mem hn2 l).1 hl;refine ⟨?_,zOQ (zGL hT.1) (fun h=>hx (hT.2 _ h))⟩;have:=List.Nodup.length_le_of_subset (zGL hT.1) (fun y hy=>hT.2 y hy);omega
def GT (N:List Note) (t:List Int×Value) (W:World) : Prop:=OnT [3] (fun W=>Sl zAM 1 W t.2 t.1) W/\IsT (zBO N) t.1
theorem zPZ (n:Nat) (hn:1<=n) (w0:World) (gb:Nat) (vn:Value) (R:List Issue) (N:List Note) (hbox:zK w0 gb 1 vn) (hN:Sl zBL 10 w0 vn N) (hok:zDL R N) :
  SeqStopsH Fence.wide n prog 149 #[.pointer (some ⟨gb,0,none⟩)] (fun t:List Int×Value=>#[t.2]) (GT N) KpT
   (fun xs=>(Ord (xs.map (fun t=>t.1))/\∀ l,l∈xs.map (fun t=>t.1)↔IsT (zBO N) l)/\xs.length<=32) (fun _=>True) 33 w0:=by
 intro l J Jx W hW hJ hJx hY h0;obtain ⟨i0,hif,iz0,iz1,iz2⟩:=info_parts zFY;obtain ⟨l0,hlf,lz0,lz1,lz2⟩:=info_parts infoInts;obtain ⟨an,cn,rfl,hmn⟩:=zD hN;have HN:=zE (zJ zAN hW hN);have HOK:=zE hok;have h12:N.length<=12:=hok.1;have hba:=zB W (.cells #[.slice none 0 0] 28);have k1:=zC (zA hW hba) hbox;have hr0:RowsL W.heap.size (W.alloc (.cells #[.slice none 0 0] 28)) (.slice (some ⟨W.heap.size,0,none⟩) 1 1) (zQD (zAH N 0)):=by refine ⟨[.slice none 0 0],World.ownsRow_lit W #[.slice none 0 0] 1 (Nat.le_refl _) (by decide) rfl,?_⟩;have:=(rowIs_nil [3] zJC 1 (W.alloc (.cells #[.slice none 0 0] 28))).snoc (vs:=[.slice none 0 0]) (x:=([] : List Int)) rfl (fun w' _=>⟨_,rfl,none,0,rfl,by simp,fun k hk=>by simp at hk⟩);exact this
 have HR0:=zE hr0;have HBA:=zE hba;unfold zK at k1;clear hr0 hba;refine callsIn_of_wp func149 rfl trivial ?_ rfl;simp only [ntmps149,List.size_toArray,List.length_cons,List.length_nil,Nat.reduceAdd,Nat.reduceSub,Array.replicate_succ,Array.replicate_zero,List.push_toArray,List.append_toArray,List.nil_append,List.cons_append];gi_wp2_with fail
 refine wpIn_wide.2 ?_;go_wp2;clear k1;go_loopw [3,15] (fun q i wr=>∃ k:Nat,i = .int .i64 k/\k<=N.length/\Hid (RowsL W.heap.size wr q (zQD (zAH N k)))/\Hid (Below W.heap.size W wr)) (fun _ i _=>N.length - (intOf i).toNat)
 case atStart=>exact ⟨0,rfl,by omega,HR0,HBA⟩
 case round =>
  clear HR0 HBA;obtain ⟨k,rfl,hk,HR,HB⟩:=hrel;by_cases hlt:k < N.length
  case neg =>
   obtain rfl:k=N.length:=by omega
   have hTo:zAH N N.length=zBO N:=by unfold zAH zBO;rw [List.take_length]
   have hT32:(zQD (zAH N N.length)).length<=32:=by rw [hTo,zQX];exact Nat.pow_le_pow_right (n:=2) (by decide) (opens_len5 HOK.out)
   have hTm:Hid (∀ l,l∈zQD (zAH N N.length)↔IsT (zBO N) l):=fun l=>by rw [hTo];exact allP_mem (zHF HOK.out) l
   have hTn:Hid ((zQD (zAH N N.length)).Nodup):=by unfold Hid;rw [hTo];exact allP_nodup (zHF HOK.out)
   have hTp:0 < (zQD (zAH N N.length)).length:=by rw [zQX];exact Nat.two_pow_pos _
   generalize zQD (zAH N N.length)=T at *;obtain ⟨cs,hown,hrow⟩:=HR.out;have hsh:∃ g cap,u3 = .slice (some ⟨g,0,none⟩) T.length cap:=by obtain ⟨g,cap,hv⟩:=zDM (show _=_/\_ from by rw [show T.length=T.length - 1+1 by omega] at hown;exact hown);exact ⟨g,cap,by rw [hv,show T.length - 1+1=T.length by omega]⟩
   obtain ⟨g,cap,rfl⟩:=hsh;have hgW:=(hown.lt g rfl).1;have hcall:=sort_lists wr W.heap.size g cap T cs hown hrow (by omega);clear hown hrow HR;go_wp2;gi_wp2_with (refine ⟨trivial,?_⟩;gi_at_call 151;refine (callsIn_wide.2 hcall).mono ?_;rintro e w5 ⟨rfl,hg5,T',cs',hown5,hrow5,hperm,hpw⟩)
   have hb5:=HB.out.grown hg5 HB.out.size (fun r e=>by cases e;exact hgW);have hJ5:=hJ _ _ _ h0 hb5;have hlen:T.length=T'.length:=hperm.length_eq.symm;have hOrd:Hid (Ord T'):=by
    have hn:T'.Nodup:=hperm.nodup_iff.2 hTn.out;refine (hpw.and hn).imp (fun {a b} ⟨h1,h2⟩=>?_);by_cases e:zFV a b=true
    ·exact e
    ·exact absurd (zMM a b (by simpa using e) h1) h2
   have hmem:Hid (∀ l,l∈T'↔IsT (zBO N) l):=fun l=>by rw [hperm.mem_iff];exact hTm.out l
   rw [hlen] at hown5 ⊢;have hT32':T'.length<=32:=by omega
   have H5:=zE (And.intro hown5 hrow5);clear hcall hg5 hb5 hown5 hrow5 hperm hpw hlen hT32 hTp;gi_loopw [46] (fun i wi=>∃ (k:Nat) (pre:List (List Int×Value)),i = .int .i64 k/\k<=T'.length/\J pre wi/\Hid (pre.map (·.1)=T'.take k)/\Hid (wi.ownsRow W.heap.size 28 1 (.slice (some ⟨g,0,none⟩) T'.length cap) T'.length cs'/\zEO [3] zJC 1 wi cs' T')) (fun i _=>T'.length - (intOf i).toNat)
   case atStart=>exact ⟨0,[],rfl,by omega,hJ5,zE rfl,H5⟩
   case round =>
    clear H5 hJ5;obtain ⟨k,pre,rfl,hk,hJs,HP,HH⟩:=hrel;by_cases hlt:k < T'.length
    case neg =>
     obtain rfl:k=T'.length:=by omega
     gi_wp2
     go_end0
     refine ⟨⟨_,rfl⟩,.inl ⟨pre,?_,hJs⟩⟩;have hpl:=congrArg List.length HP.out;rw [List.length_map,List.take_length] at hpl;refine ⟨?_,by omega⟩;show Ord (pre.map (·.1))/\∀ l,l∈pre.map (·.1)↔IsT (zBO N) l
     rw [HP.out,List.take_length];exact ⟨hOrd.out,hmem.out⟩
    case pos =>
     obtain ⟨vx,hcx,hox⟩:=HH.out.2.at1.2 k hlt;have hx:OnT [3] (fun w=>Sl zAM 1 w vx T'[k]) wr:=hox.mono (fun w h=>by obtain ⟨u,hu,hs⟩:=h;simp at hu;subst hu;exact hs);have hc:=HH.out.1.cells (g:=g) rfl k _ hcx;rw [zAZ] at hc;have hpl:pre.length < 33:=by have:=congrArg List.length HP.out;rw [List.length_map,List.length_take] at this;omega
     have htk:Hid ((pre++[(T'[k],vx)]).map (·.1)=T'.take (k+1)):=by unfold Hid;rw [List.map_append,HP.out,List.take_succ_eq_append_getElem hlt];rfl
     obtain ⟨fn,tmps,assign,body,hy,hR⟩:=hY pre (T'[k],vx) wr hJs ⟨hx,(hmem.out _).1 (List.getElem_mem hlt)⟩ hpl;simp only at hy;generalize T'[k]=t at *;have hkl:(k:Int) < T'.length:=by omega
     clear hox hx hcx;gi_wp2
     refine hR.mono ?_;rintro e W3 (⟨rfl,hJ4,hk4⟩ | ⟨rfl,hJx4⟩)
     ·have HE:Hid (W3.ownsRow W.heap.size 28 1 (.slice (some ⟨g,0,none⟩) T'.length cap) T'.length cs'/\zEO [3] zJC 1 W3 cs' T') :=
       ⟨zCR hk4 (by simp) HH.out.1,HH.out.2.keep (hk4.sub (by simp))⟩
      gi_wp2
      go_roundw
      ·exact ⟨k+1,_,by go_num,by omega,hJ4,htk,HE⟩
      ·simp [intOf];omega
     ·gi_wp2
      refine bodyPost_ret (results_none rfl _ _ _) rfl ?_;exact ⟨⟨_,rfl⟩,.inr ⟨_,trivial,hJx4⟩⟩
  case pos =>
   obtain ⟨bn,on,rfl,⟨q0,q1,q2,q3,q4,q5,q6,q7,q8,q9⟩,hnum⟩:=(zY (zJ zAN HB.out HN.out)).2 k hlt;have hsucc:=zE (zHK N k hlt);have hopen:=zE (fun h=>allP_ok HOK.out hlt h);generalize N[k]=x at *;obtain ⟨x0,x1,x2,x3,x4,x5,x6,x7,x8,x9⟩:=x;simp only at *;have hkl:(k:Int) < N.length:=by omega
   have hba:=zB wr (.cells #[.int .i64 x0,.int .i64 x1,.int .u8 x2,.int .i64 x3,.int .i64 x4,.int .i64 x5,.int .i64 x6,.int .i64 x7,.bool x8,.int .u8 x9] 74);have hlx:=Lay.new wr 74 #[.int .i64 x0,.int .i64 x1,.int .u8 x2,.int .i64 x3,.int .i64 x4,.int .i64 x5,.int .i64 x6,.int .i64 x7,.bool x8,.int .u8 x9];have HRA:=zE (HR.out.ext hba);have HBA:=zE (zA HB.out hba);have HLX:=zE hlx;unfold zK at q0 q1 q2 q3 q4 q5 q6 q7 q8 q9;clear hba hlx HR;by_cases hsg:x2=1
   case neg =>
    have hsg':(x2 != 1)=true:=by simpa using hsg
    have HE:Hid (zAH N (k+1)=zAH N k):=by unfold Hid;rw [hsucc.out,if_neg hsg,List.append_nil]
    clear hopen hsucc hsg;go_wp2;go_roundw
    ·exact ⟨k+1,by go_num,by omega,by rw [HE.out];exact HRA,HBA⟩
    ·simp [intOf];omega
   case pos =>
    have HOP:=zE (hopen.out hsg);subst hsg;clear hopen hsucc;have hT16:=HOP.out.1;have hTp:0 < (zQD (zAH N k)).length:=by rw [zQX];exact Nat.two_pow_pos _
    have HT1:=zE HOP.out.2.1;have HTL:=zE HOP.out.2.2;generalize zQD (zAH N k)=T at *;clear HOP;obtain ⟨cs,hown,hrow⟩:=HRA.out;have hsh:∃ g cap,u3 = .slice (some ⟨g,0,none⟩) T.length cap:=by obtain ⟨g,cap,hv⟩:=zDM (show _=_/\_ from by rw [show T.length=T.length - 1+1 by omega] at hown;exact hown);exact ⟨g,cap,by rw [hv,show T.length - 1+1=T.length by omega]⟩
    obtain ⟨g,cap,rfl⟩:=hsh;have hcl:=hrow.at1.1;have HOWN:=zE hown;have HROW:=zE hrow;have hgl:=(hown.lt g rfl).2;have hcells:Hid (∀ m v,cs[m]? = some v->zK (wr.alloc (.cells #[.int .i64 x0,.int .i64 x1,.int .u8 1,.int .i64 x3,.int .i64 x4,.int .i64 x5,.int .i64 x6,.int .i64 x7,.bool x8,.int .u8 x9] 74)) g m v):=fun m v hm=>by
     have:=hown.cells (g:=g) rfl m v hm;rw [zAZ] at this;exact this
    clear hown hrow HRA;go_wp2;clear q0 q1 q2 q3 q4 q5 q6 q7 q8 q9;generalize wr=wb at *;generalize wb.alloc _=wA at *;have hHB:=HB;go_loopw [3,24] (fun q i wi=>∃ (j:Nat) (cs2:List Value),i = .int .i64 j/\j<=T.length/\Hid (wi.ownsRow W.heap.size 28 1 q (T.length+j) (cs++cs2)/\zEO [3] zJC 1 wi (cs++cs2) (T++(T.take j).map fun l=>srt (l++[x0]))) /\
     Hid ((∀ m v,cs[m]? = some v->zK wi g m v)/\zFL [3,74] wA wi/\Below W.heap.size W wi)) (fun _ i _=>T.length - (intOf i).toNat)
    case atStart=>exact ⟨0,[],rfl,by omega,zE ⟨by simpa using HOWN.out,by simpa using HROW.out⟩,zE ⟨hcells.out,keepT_refl _ _,HBA.out⟩⟩
    case round =>
     obtain ⟨j,cs2,rfl,hj,HQ,HH⟩:=hrel;by_cases hlj:j < T.length
     case neg =>
      obtain rfl:j=T.length:=by omega
      have HE:Hid (RowsL W.heap.size wr u3 (stepP T x0)):=by
       refine ⟨cs++cs2,?_,?_⟩
       ·have:=HQ.out.1;unfold stepP;rw [List.length_append,List.length_map];exact this
       ·have:=HQ.out.2;rw [List.take_length] at this;exact this
      go_wp2;go_roundw
      ·exact ⟨k+1,by go_num,by omega,by rw [HT1.out];exact HE,zE HH.out.2.2⟩
      ·simp [intOf];omega
     case pos =>
      obtain ⟨vx,hcx,hox⟩:=HROW.out.at1.2 j hlj;have hx:OnT [3] (fun w=>Sl zAM 1 w vx T[j]) wA:=hox.mono (fun w h=>by obtain ⟨u,hu,hs⟩:=h;simp at hu;subst hu;exact hs);have hlT:=HTL.out _ (List.getElem_mem hlj);have htk:Hid ((T.take (j+1)).map (fun l=>srt (l++[x0]))=(T.take j).map (fun l=>srt (l++[x0]))++[srt (T[j]++[x0])]):=by unfold Hid;rw [List.take_succ_eq_append_getElem hlj,List.map_append];rfl
      obtain ⟨ax,cx,rfl,_⟩:=zD hx.now;have hc0:=HH.out.1 _ _ hcx;have hxw:=(hx.weak (fs:=[3,74]) (by simp)).keep HH.out.2.1;have hlw:Lay wr wb.heap.size _ _:=HH.out.2.1 _ _ _ _ (by simp) HLX.out;generalize T[j]=l at *;have HXW:=zE hxw.now;have hjl:(j:Int) < T.length:=by omega
      have c0:=zH (show zK wr wb.heap.size 0 _ from hlw.cell 0 _ rfl);unfold zK at hc0;have HLT:=zE hlT;clear hxw hox hx hcx hlw hlT;go_wp2;clear hc0;refine zM 5 (by kernel_rfl) (by kernel_rfl) ?_;simp only [tk_];apply gx_;focus (intro vs xq hd;(try simp [hq_] at hd);simp only [pf_];go_simp;exact ⟨br_,rfl⟩)
      refine zL (fun v w'=>New zAM 1 3 wr.heap.size w' v l) (fun v w w' hb h=>h.ext zN hb) ?_ ?_
      ·intro vs xq hd
       (try simp [hq_] at hd)
       simp only [pf_];go_simp;refine (clone_int (wr.later xq) _ l (zJ zN (zG wr xq) HXW.out) (by have:=HLT.out.1;omega)).mono ?_;rintro e w9 ⟨v,rfl,hN9,hb9⟩;exact ⟨v,rfl,hb9,hN9.weak (zG wr xq).size⟩
      iterate 2 (apply gx_;focus (intro vs xq hd;(try simp [hq_] at hd);simp only [pf_];go_simp;exact ⟨br_,rfl⟩))
      refine zL (zKF x0) (zEB x0) ?_ ?_
      ·intro vs xq hd
       (try simp [hq_] at hd)
       simp only [pf_];go_simp;exact ⟨zB _ _,_,rfl,zR _ _ _ 0 _ rfl⟩
      refine zQ rfl (fun vs xq hd=>?_);simp [zW,zAI,List.range,List.range.loop] at hd;simp only [pf_];obtain ⟨e0,hN9,e2,e3,bb,e4,hbb⟩:=hd;simp only [Nat.zero_add,Nat.reduceAdd] at e0 hN9 e2 e3 e4 hbb ⊢;simp only [e0,e2,e3,e4];have hb8:=zG wr xq;obtain ⟨hslv,cv,hownv⟩:=hN9;have hcv:=own_ints hslv hownv;subst hcv;have HOV:=zE hownv;have hs8:=hb8.size;have hb1:∀ m u,[Value.int .i64 x0][m]? = some u->(wr.later xq).cell? ((⟨bb,0,none⟩ : Addr).add m)=some u:=fun m u hm=>by
       rw [zAZ];cases m with
       | zero=>simp at hm;subst hm;exact hbb
       | succ m=>simp at hm
      have hl5:l.length<=4:=HLT.out.1;have hxI:=zE (fun x (hx:x∈l)=>sl_I64 HXW.out x hx);clear e0 e2 e3 e4 hslv hownv c0;generalize vs 1=v1 at *;generalize hw8:wr.later xq=w8 at *;clear hw8;go_wp2_with (at_builtin;refine wpList_append_own _ rfl _ _ 28 rfl wr.heap.size 3 i0 (.int .i64 0) 1 8 underlying28 hif iz0 iz1 iz2 rfl (by decide) _ _ _ rfl HOV.out ⟨bb,0,none⟩ 1 1 [.int .i64 x0] rfl rfl hb1 (by intro u hu;simp at hu;subst hu;rfl) (by unfold maxLen;omega) (by omega) (by omega) ?_;intro v' w4 hown' hgrow _;obtain ⟨g2,cap2,rfl⟩:=zDM hown');have hb4:=hb8.grown hgrow hs8 (fun r e=>(HOV.out.lt r e).1);have hown4:w4.ownsRow wr.heap.size 3 1 (.slice (some ⟨g2,0,none⟩) (l.length+1) cap2) (l++[x0]).length ((l++[x0]).map (Value.int .i64)):=by rw [List.map_append,List.length_append];exact hown'
      have HB4:=zE hb4;clear hown' hgrow hb4 hb1;refine (sort_ints w4 wr.heap.size _ (l++[x0]) (by rw [List.length_append];simp;omega) hown4).mono ?_;rintro e w5 ⟨⟨u,rfl⟩,hg5,ls,hown5,hperm,hrise⟩;have hls:=srt_perm HLT.out.2 hperm hrise;have hlen5:(l++[x0]).length=ls.length:=hperm.length_eq.symm;rw [hlen5] at hown5;have hb5:=HB4.out.grown hg5 HB4.out.size (fun r e=>(hown4.lt r e).1);have hlI:∀ x∈ls,I64 x:=fun x hx=>by
       rcases List.mem_append.1 (hperm.mem_iff.1 hx) with h | h
       ·exact hxI.out x h
       ·simp at h;subst h;exact hnum.1
      have hon5:=onT_ints hown5 hlI;clear hlen5;have HON5:=zE hon5;have HB5:=zE hb5;have HLS:=zE hls;have hOQ:=zE (zAC hb5 HQ.out.1);have hRQ:=zE (HQ.out.2.keep (zBM hb5));have hs5:=(zA HH.out.2.2 hb5).size;clear hown4 hg5 hown5 hperm hrise hls hb5 hlI hon5 HB4 HOV;go_wp2_with (at_builtin;refine zNV rfl _ _ 37 rfl W.heap.size 28 l0 (.slice none 0 0) 1 24 underlying37 hlf lz0 lz1 lz2 rfl (by decide) _ _ _ rfl (hOQ.out.alloc _) ⟨w5.heap.size,0,none⟩ 1 1 [.slice (some ⟨g2,0,none⟩) (l.length+1) cap2] rfl rfl (cell_one_new _ _ _) (by simp [Value.oneCell']) (by unfold maxLen;omega) (by omega) (by simp;omega) ?_;intro v' w7 ho7 hg7 hk7);have hba:=zB w5 (.cells #[.slice (some ⟨g2,0,none⟩) (l.length+1) cap2] 28);have hb6:=zA HB5.out hba;have hK1:zFL [3,74] wr w7:=(zBM hb6).trans (zBX hg7 (hOQ.out.alloc _) (by decide));have hK2:zFL [3] w5 w7:=(zBM hba).trans (zBX hg7 (hOQ.out.alloc _) (by decide));have HE:Hid (w7.ownsRow W.heap.size 28 1 v' (T.length+(j+1)) (cs++(cs2++[.slice (some ⟨g2,0,none⟩) (l.length+1) cap2]))/\zEO [3] zJC 1 w7 (cs++(cs2++[.slice (some ⟨g2,0,none⟩) (l.length+1) cap2])) (T++(T.take (j+1)).map fun l=>srt (l++[x0]))):=by rw [htk.out,<- List.append_assoc,<- List.append_assoc,<- HLS.out];refine ⟨ho7,(hRQ.out.keep hK2).snoc rfl ((HON5.out.keep hK2).mono (fun w h=>⟨_,rfl,h⟩))⟩
      have HE2:Hid ((∀ m v,cs[m]? = some v->zK w7 g m v)/\zFL [3,74] wA w7/\Below W.heap.size W w7):=by
       refine ⟨fun m v hm=>?_,HH.out.2.1.trans hK1,(zA HH.out.2.2 hb6).grown hg7 (zA HH.out.2.2 hb6).size (fun r e=>(hOQ.out.lt r e).1)⟩;have hc:=HH.out.1 m v hm;by_cases e:u3.ownBlock=some g
       ·exact hk7 g e m v (by rw [List.getElem?_append_left (by have:=(List.getElem?_eq_some_iff.1 hm).1;omega)];exact hm)
       ·exact zAF (hg7.block g (zAD (zC hb6 hc)) (fun e'=>e e'.symm)) (zC hb6 hc)
      clear ho7 hg7 hk7 hK1 hK2;go_wp2;go_roundw
      ·exact ⟨j+1,_,by go_num,by omega,HE,HE2⟩
      ·simp [intOf];omega
end
end Go.Proofs.YtipaopbmklbmnaaGreatDoor
