/- THE STATEMENT: both ends of what is told come about: for every input the law answers true, and its arguments read as before. -/
import Derived.Test.YtipaopbmklbmnaaGreatDoorCards
import Derived.Test.YtipaopbmklbmnaaGreatDoorTie
import Derived.WalkKit
import Derived.ProofKit
import Derived.OpenShut
import Derived.Deep.DeepHandedRow
import Derived.LaidMore
import Derived.LaidHandle
import Derived.Carry
import Derived.Test.YtipaopbmklbmnaaGreatDoorE02
set_option linter.all false
set_option maxRecDepth 100000
set_option maxHeartbeats 0
namespace Go.Proofs.YtipaopbmklbmnaaGreatDoor.builtEnds
section
open Go.ChangeShapes Go.WideShapes Go.ChangeAt Go.RowKit
theorem own:ownKnob Tryz.prog.godebug=none:=by kernel_rfl
theorem laidOut:laidOutB Tryz.prog=true:=by kernel_rfl
theorem zCB {W:World} {t e:TypeId} {f1:Field} {n fuel i:Nat} {sp:Nat->Bool} {cs:List Value} {ds:List (DataW (List UInt8))} {p:List MemPlace} {ps rs:Array TypeId} {va:Bool} {b:UInt8} {r:List UInt8} (f0:FuncId)
  (ha:Tryz.prog.underlying t=some (.array n e)) (he:Tryz.prog.underlying e=some (.struct #[f1])) (hoff:f1.offset=0) (hct:Tryz.prog.cellsOf t=n) (hce:Tryz.prog.cellsOf e=1) (hcf:Tryz.prog.cellsOf f1.type=1) (hfn:Tryz.prog.underlying f1.type=some (.func ps rs va))
  (h:DataW.trod (funcToken Tryz.prog) Tryz.prog W 0 sp true fuel t cs=some (.agg ds,p)) (hi:i < n) (hd:ds[i]? = some (.agg [.held (b :: r)]))
  (hone:((List.range Tryz.prog.funcs.size).filter fun f=>(Tryz.prog.funcs[f]?).any (·.name.toUTF8.data.toList == b :: r))=[f0]) : cs[i]? = some (.func (.func f0) #[] #[]):=by
 obtain ⟨xs,m,_,hx,hl,hxl,hf⟩:=DataW.trod_array ha h;have e1:ds=xs.map (·.1):=by have:=congrArg Prod.fst hx;simpa using this
 have g:=hf i hi;have hix:i < xs.length:=by omega
 rw [List.getElem?_eq_getElem hix] at g;have e2:xs[i].1 = .agg [.held (b :: r)]:=by rw [e1,List.getElem?_map,List.getElem?_eq_getElem hix] at hd;simpa using hd
 obtain ⟨y0,m2,hy,_,g2⟩:=trod_struct1 he g;rw [hy] at e2;have e3:y0.1 = .held (b :: r):=by simpa using e2
 have hic:i < cs.length:=by omega
 rw [hoff,hce,hcf,Nat.mul_one] at g2;have e5:(cs.drop i).take 1=[cs[i]]:=by rw [List.drop_eq_getElem_cons hic];rfl
 have e4:(((cs.drop i).take 1).drop 0).take 1=[cs[i]]:=by rw [e5];rfl
 rw [e4] at g2;have g3:DataW.trod (funcToken Tryz.prog) Tryz.prog W 0 sp true m2 f1.type [cs[i]]=some (.held (b :: r),y0.2):=by rw [g2,<- e3]
 rw [List.getElem?_eq_getElem hic,func_of_trod hfn hone g3]
abbrev bytesA (n:UInt8) : List UInt8:=[108,117,101,108,105,110,101,47,115,104,101,101,116,46,99,104,101,99,107,115,36,n]
abbrev bytesB (n:UInt8) : List UInt8:=[108,117,101,108,105,110,101,47,110,111,116,101,46,99,104,101,99,107,115,36,n]
abbrev bytesC (n:UInt8) : List UInt8:=[108,117,101,108,105,110,101,47,98,117,105,108,116,46,107,105,110,100,115,36,n]
theorem at_var {W:World} {s:String} {g k:Nat} {cs:Array Value} {v:Value} (hg:Tryz.prog.globalNamed s=some g) (hv:W.var? Tryz.prog s=some cs) (q:cs.toList[k]? = some v) : zK W g k v:=by
 unfold zK;rw [World.var?_cell hg hv k];simpa using q
theorem looks_of {W:World} (h:laidMetH Tryz.prog Rows.builtEndsRow.laid W) : Looks W:=by
 obtain ⟨g,t,cs,fuel,p,hg,ht,hv,hd⟩:=h.funcs (n := "blueline/sheet.checks") (List.mem_cons_self ..);obtain rfl:=Option.some.inj ((show Tryz.prog.globalNamed "blueline/sheet.checks" = some 2 by kernel_rfl).symm.trans hg);obtain rfl:=Option.some.inj ((show (Tryz.prog.globals[2]?).map (·.type)=some 250 by kernel_rfl).symm.trans ht);have q0:cs.toList[0]? = some (.func (.func 254) #[] #[]):=zCB (i:=0) (b:=98) (r:=bytesA 49) 254 Tryz.underlying250 Tryz.underlying249 rfl (by kernel_rfl) (by kernel_rfl) (by kernel_rfl) Tryz.underlying248 hd (by decide) (by kernel_rfl) (by kernel_rfl);have q1:cs.toList[1]? = some (.func (.func 255) #[] #[]):=zCB (i:=1) (b:=98) (r:=bytesA 50) 255 Tryz.underlying250 Tryz.underlying249 rfl (by kernel_rfl) (by kernel_rfl) (by kernel_rfl) Tryz.underlying248 hd (by decide) (by kernel_rfl) (by kernel_rfl);have q2:cs.toList[2]? = some (.func (.func 256) #[] #[]):=zCB (i:=2) (b:=98) (r:=bytesA 51) 256 Tryz.underlying250 Tryz.underlying249 rfl (by kernel_rfl) (by kernel_rfl) (by kernel_rfl) Tryz.underlying248 hd (by decide) (by kernel_rfl) (by kernel_rfl);have q3:cs.toList[3]? = some (.func (.func 257) #[] #[]):=zCB (i:=3) (b:=98) (r:=bytesA 52) 257 Tryz.underlying250 Tryz.underlying249 rfl (by kernel_rfl) (by kernel_rfl) (by kernel_rfl) Tryz.underlying248 hd (by decide) (by kernel_rfl) (by kernel_rfl);exact ⟨at_var hg hv q0,at_var hg hv q1,at_var hg hv q2,at_var hg hv q3⟩
theorem looksN_of {W:World} (h:laidMetH Tryz.prog Rows.builtEndsRow.laid W) : zHN W:=by
 obtain ⟨g,t,cs,fuel,p,hg,ht,hv,hd⟩:=h.funcs (n := "blueline/note.checks") (List.mem_cons_of_mem _ (List.mem_cons_self ..));obtain rfl:=Option.some.inj ((show Tryz.prog.globalNamed "blueline/note.checks" = some 1 by kernel_rfl).symm.trans hg);obtain rfl:=Option.some.inj ((show (Tryz.prog.globals[1]?).map (·.type)=some 247 by kernel_rfl).symm.trans ht);have q0:cs.toList[0]? = some (.func (.func 244) #[] #[]):=zCB (i:=0) (b:=98) (r:=bytesB 49) 244 Tryz.underlying247 Tryz.underlying246 rfl (by kernel_rfl) (by kernel_rfl) (by kernel_rfl) Tryz.underlying244 hd (by decide) (by kernel_rfl) (by kernel_rfl);have q1:cs.toList[1]? = some (.func (.func 245) #[] #[]):=zCB (i:=1) (b:=98) (r:=bytesB 50) 245 Tryz.underlying247 Tryz.underlying246 rfl (by kernel_rfl) (by kernel_rfl) (by kernel_rfl) Tryz.underlying244 hd (by decide) (by kernel_rfl) (by kernel_rfl);have q2:cs.toList[2]? = some (.func (.func 246) #[] #[]):=zCB (i:=2) (b:=98) (r:=bytesB 51) 246 Tryz.underlying247 Tryz.underlying246 rfl (by kernel_rfl) (by kernel_rfl) (by kernel_rfl) Tryz.underlying244 hd (by decide) (by kernel_rfl) (by kernel_rfl);have q3:cs.toList[3]? = some (.func (.func 247) #[] #[]):=zCB (i:=3) (b:=98) (r:=bytesB 52) 247 Tryz.underlying247 Tryz.underlying246 rfl (by kernel_rfl) (by kernel_rfl) (by kernel_rfl) Tryz.underlying244 hd (by decide) (by kernel_rfl) (by kernel_rfl);have q4:cs.toList[4]? = some (.func (.func 248) #[] #[]):=zCB (i:=4) (b:=98) (r:=bytesB 53) 248 Tryz.underlying247 Tryz.underlying246 rfl (by kernel_rfl) (by kernel_rfl) (by kernel_rfl) Tryz.underlying244 hd (by decide) (by kernel_rfl) (by kernel_rfl);have q5:cs.toList[5]? = some (.func (.func 249) #[] #[]):=zCB (i:=5) (b:=98) (r:=bytesB 54) 249 Tryz.underlying247 Tryz.underlying246 rfl (by kernel_rfl) (by kernel_rfl) (by kernel_rfl) Tryz.underlying244 hd (by decide) (by kernel_rfl) (by kernel_rfl);have q6:cs.toList[6]? = some (.func (.func 251) #[] #[]):=zCB (i:=6) (b:=98) (r:=bytesB 55) 251 Tryz.underlying247 Tryz.underlying246 rfl (by kernel_rfl) (by kernel_rfl) (by kernel_rfl) Tryz.underlying244 hd (by decide) (by kernel_rfl) (by kernel_rfl);have q7:cs.toList[7]? = some (.func (.func 253) #[] #[]):=zCB (i:=7) (b:=98) (r:=bytesB 56) 253 Tryz.underlying247 Tryz.underlying246 rfl (by kernel_rfl) (by kernel_rfl) (by kernel_rfl) Tryz.underlying244 hd (by decide) (by kernel_rfl) (by kernel_rfl);exact ⟨at_var hg hv q0,at_var hg hv q1,at_var hg hv q2,at_var hg hv q3,at_var hg hv q4,at_var hg hv q5,at_var hg hv q6,at_var hg hv q7⟩
theorem zLV {W:World} {t e:TypeId} {f1 f2:Field} {n fuel i:Nat} {sp:Nat->Bool} {cs:List Value} {ds:List (DataW (List UInt8))} {p:List MemPlace} {ps rs ps' rs':Array TypeId} {va va':Bool} {b b':UInt8} {r r':List UInt8} (f0 f0':FuncId)
  (ha:Tryz.prog.underlying t=some (.array n e)) (he:Tryz.prog.underlying e=some (.struct #[f1,f2])) (hoff:f1.offset=0) (hoff':f2.offset=1) (hct:Tryz.prog.cellsOf t=n*2) (hce:Tryz.prog.cellsOf e=2) (hcf:Tryz.prog.cellsOf f1.type=1) (hcf':Tryz.prog.cellsOf f2.type=1) (hfn:Tryz.prog.underlying f1.type=some (.func ps rs va)) (hfn':Tryz.prog.underlying f2.type=some (.func ps' rs' va'))
  (h:DataW.trod (funcToken Tryz.prog) Tryz.prog W 0 sp true fuel t cs=some (.agg ds,p)) (hi:i < n) (hd:ds[i]? = some (.agg [.held (b :: r),.held (b' :: r')]))
  (hone:((List.range Tryz.prog.funcs.size).filter fun f=>(Tryz.prog.funcs[f]?).any (·.name.toUTF8.data.toList == b :: r))=[f0]) (hone':((List.range Tryz.prog.funcs.size).filter fun f=>(Tryz.prog.funcs[f]?).any (·.name.toUTF8.data.toList == b' :: r'))=[f0']) :
  cs[i*2]? = some (.func (.func f0) #[] #[])/\cs[i*2+1]? = some (.func (.func f0') #[] #[]):=by
 obtain ⟨xs,m,_,hx,hl,hxl,hf⟩:=DataW.trod_array ha h;have e1:ds=xs.map (·.1):=by have:=congrArg Prod.fst hx;simpa using this
 have g:=hf i hi;have hix:i < xs.length:=by omega
 rw [List.getElem?_eq_getElem hix] at g;have e2:xs[i].1 = .agg [.held (b :: r),.held (b' :: r')]:=by rw [e1,List.getElem?_map,List.getElem?_eq_getElem hix] at hd;simpa using hd
 obtain ⟨y0,y1,m2,hy,_,g2,g3⟩:=trod_struct2 he g;rw [hy] at e2;have e3:y0.1 = .held (b :: r)/\y1.1 = .held (b' :: r'):=by simpa using e2
 have hic:i*2 < cs.length:=by omega
 have hic':i*2+1 < cs.length:=by omega
 rw [hoff,hce,hcf] at g2;rw [hoff',hce,hcf'] at g3;have e5:(cs.drop (i*2)).take 2=[cs[i*2],cs[i*2+1]]:=by rw [List.drop_eq_getElem_cons hic,List.drop_eq_getElem_cons hic'];rfl
 rw [e5] at g2 g3;have g4:DataW.trod (funcToken Tryz.prog) Tryz.prog W 0 sp true m2 f1.type [cs[i*2]]=some (.held (b :: r),y0.2):=by rw [<- e3.1];exact g2
 have g5:DataW.trod (funcToken Tryz.prog) Tryz.prog W 0 sp true m2 f2.type [cs[i*2+1]]=some (.held (b' :: r'),y1.2):=by rw [<- e3.2];exact g3
 rw [List.getElem?_eq_getElem hic,List.getElem?_eq_getElem hic',func_of_trod hfn hone g4,func_of_trod hfn' hone' g5];exact ⟨rfl,rfl⟩
theorem laid_data {P:Program} {l:List (String×DataW Unit)} {w:World} (h:laidMetH P l w) : laidMet P (l.filter fun x=>x.2.handleName?.isNone) w:=by
 unfold laidMetH at h;generalize hfl:(l.filter fun x=>x.2.handleName?.isSome)=fl at h;cases fl with
 | nil =>
   have e:(l.filter fun x=>x.2.handleName?.isNone)=l:=by
    rw [List.filter_eq_self];intro x hx;have:=(List.filter_eq_nil_iff.1 hfl) x hx;cases hn:x.2.handleName? with
    | none=>rfl
    | some s=>rw [hn] at this;exact absurd rfl this
   rw [e];exact h
 | cons a l2=>exact h.1
theorem kinds_of {W:World} (h:laidMetH Tryz.prog Rows.builtEndsRow.laid W) : KindsAt W:=by
 obtain ⟨ps,hps,_⟩:=laid_data h;rw [show (Rows.builtEndsRow.laid.filter fun x=>x.2.handleName?.isNone)=[("blueline/built.nothing",Rows.laid_blueline_built_nothing)] by kernel_rfl] at hps;obtain ⟨g',t',cs',fuel',p',q',hg',ht',hv',hd',_,_⟩:=hps;obtain rfl:=Option.some.inj ((show Tryz.prog.globalNamed "blueline/built.nothing" = some 0 by kernel_rfl).symm.trans hg');obtain rfl:=Option.some.inj ((show (Tryz.prog.globals[0]?).map (·.type)=some 40 by kernel_rfl).symm.trans ht');obtain ⟨y0,y1,m0,hy,hl,n0,n1⟩:=trod_struct2 Tryz.underlying40 hd';obtain ⟨x0,k0,z0,_⟩:=DataW.trod_int Tryz.underlying3 n0;obtain ⟨x1,k1,z1,_⟩:=DataW.trod_int Tryz.underlying3 n1;rw [z0,z1] at hy;have hx0:x0=1/\x1=0:=by have:=congrArg Prod.fst hy;simp [Rows.laid_blueline_built_nothing] at this;exact ⟨this.1.symm,this.2.symm⟩
 obtain ⟨rfl,rfl⟩:=hx0;have j0:cs'.toList[0]? = some (.int .i64 1):=zIP (by rw [cells_i] at k0;exact k0);have j1:cs'.toList[1]? = some (.int .i64 0):=zIP (by rw [cells_i] at k1;exact k1);obtain ⟨g,t,cs,fuel,p,hg,ht,hv,hd⟩:=h.funcs (n := "blueline/built.kinds") (List.mem_cons_of_mem _ (List.mem_cons_of_mem _ (List.mem_cons_of_mem _ (List.mem_cons_self ..))));obtain rfl:=Option.some.inj ((show Tryz.prog.globalNamed "blueline/built.kinds" = some 3 by kernel_rfl).symm.trans hg);obtain rfl:=Option.some.inj ((show (Tryz.prog.globals[3]?).map (·.type)=some 273 by kernel_rfl).symm.trans ht);have q1:=zLV (i:=1) (b:=98) (r:=bytesC 49) (b':=98) (r':=bytesC 50) 264 265 Tryz.underlying273 Tryz.underlying272 rfl rfl (by kernel_rfl) (by kernel_rfl) (by kernel_rfl) (by kernel_rfl) Tryz.underlying271 Tryz.underlying271 hd (by decide) (by kernel_rfl) (by kernel_rfl) (by kernel_rfl);have q2:=zLV (i:=2) (b:=98) (r:=bytesC 51) (b':=98) (r':=bytesC 52) 266 267 Tryz.underlying273 Tryz.underlying272 rfl rfl (by kernel_rfl) (by kernel_rfl) (by kernel_rfl) (by kernel_rfl) Tryz.underlying271 Tryz.underlying271 hd (by decide) (by kernel_rfl) (by kernel_rfl) (by kernel_rfl);have q3:=zLV (i:=3) (b:=98) (r:=bytesC 53) (b':=98) (r':=bytesC 54) 268 269 Tryz.underlying273 Tryz.underlying272 rfl rfl (by kernel_rfl) (by kernel_rfl) (by kernel_rfl) (by kernel_rfl) Tryz.underlying271 Tryz.underlying271 hd (by decide) (by kernel_rfl) (by kernel_rfl) (by kernel_rfl);exact ⟨at_var hg' hv' j0,at_var hg' hv' j1,at_var hg hv q1.1,at_var hg hv q1.2,at_var hg hv q2.1,at_var hg hv q2.2,at_var hg hv q3.1,at_var hg hv q3.2⟩
theorem reads (os:Os) {H:Type} (enc:TypeId×Value->H) : ∃ places,DataW.whole enc Tryz.prog (((World.doorLaid Tryz.prog 400 os)).forCall (fun _ _=>0) ⟨#[],#[.agg #[.slice none 0 0,.slice none 0 0,.int .i64 0,.slice none 0 0,.slice none 0 0,.slice none 0 0],.int .u8 0,.int .u8 0,.int .u8 0,.slice none 0 0],[]⟩).memory Tryz.f4.params.toList Rows.builtEndsSpec.vars false #[.agg #[.slice none 0 0,.slice none 0 0,.int .i64 0,.slice none 0 0,.slice none 0 0,.slice none 0 0],.int .u8 0,.int .u8 0,.int .u8 0,.slice none 0 0].toList 8 =
  some ([.agg [.agg [.agg [.nil],.nil],.lit (.int .i64 0),.nil,.nil,.nil],.lit (.int .u8 0),.lit (.int .u8 0),.lit (.int .u8 0),.nil],[],places) :=
 ⟨[],by kernel_rfl⟩
theorem door_met (os:Os) (args:Array Value) : laidMetH Tryz.prog Rows.builtEndsRow.laid ((World.doorLaid Tryz.prog 400 os).forCall (fun _ _=>0) ⟨#[],args,[]⟩).memory :=
 laidMetH_of_parts3 (fuel:=8) (laidMet_of_run' 8 (by kernel_rfl) (by kernel_rfl)) (by kernel_rfl) (by kernel_rfl)
theorem plain (f:FuncId) (fn:Func) (hf:Tryz.pinned.checked.prog.funcNamed "blueline/bluelinelaw08.BuiltEnds" = some f) (hfn:Tryz.pinned.checked.prog.funcs[f]? = some fn) :
  false=Tryz.pinned.checked.prog.looks []/\∀ (j:Nat) t,fn.params[j]? = some t->Tryz.pinned.checked.prog.wantsStandIn t=false:=by
 obtain rfl:f=4:=Option.some.inj ((show Tryz.prog.funcNamed "blueline/bluelinelaw08.BuiltEnds" = some 4 by kernel_rfl).symm.trans hf) |>.symm
 obtain rfl:fn=Tryz.f4:=(Option.some.inj (Tryz.func4.symm.trans hfn)).symm;refine ⟨by kernel_rfl,fun j t ht=>?_⟩;rw [Tryz.params4] at ht;have hm:t∈[32,5,5,5,33]:=by simpa using Array.mem_of_getElem? ht
 have hall:([32,5,5,5,33].all fun u=>!Tryz.prog.wantsStandIn u)=true:=by kernel_rfl
 exact (show Tryz.prog.wantsStandIn t=false by simpa using List.all_eq_true.1 hall t hm)
theorem contract (H:Type) (enc:TypeId×Value->H) (W:World) (base:Nat) (args:Array Value) (ds gs:List (DataW H)) (before:List MemPlace)
  (hval:∀ (j:Nat) t v,Tryz.f4.params[j]? = some t->args[j]? = some v->Value.okWide Tryz.prog W .any base t v)
  (hW:DataW.Whole enc Tryz.prog Tryz.f4.params.toList Rows.builtEndsSpec.vars false W args.toList ds gs before) (hL:laidMetH Tryz.prog Rows.builtEndsRow.laid W) :
  Calls Tryz.prog 4 args W fun e W'=>∃ v,e = .returned v/\Rows.builtEndsSpec.post enc Tryz.prog Tryz.f4 false true false false W args v W':=by
 have hW':=hW;obtain ⟨p,q,hA0,hV,rfl,hfz,hnd⟩:=hW;have hA:DataW.TrodAll enc Tryz.prog W 0 (fun _=>true) true Tryz.f4.params.toList args.toList ds p:=hA0;rw [Tryz.params4] at hA hval;obtain ⟨v0,vs0,d0,ds0,p0,q0,hargs,rfl,rfl,h0,r0⟩:=trodAll_cons hA;obtain ⟨v1,vs1,d1,ds1,p1,q1,rfl,rfl,rfl,h1,r1⟩:=trodAll_cons r0;obtain ⟨v2,vs2,d2,ds2,p2,q2,rfl,rfl,rfl,h2,r2⟩:=trodAll_cons r1;obtain ⟨v3,vs3,d3,ds3,p3,q3,rfl,rfl,rfl,h3,r3⟩:=trodAll_cons r2;obtain ⟨v4,vs4,d4,ds4,p4,q4,rfl,rfl,rfl,h4,r4⟩:=trodAll_cons r3;obtain ⟨rfl,rfl,rfl⟩:=trodAll_nil r4;obtain rfl:args = #[v0,v1,v2,v3,v4]:=by cases args;simp_all
 obtain ⟨rfl,rfl⟩:=trodVars_none hV;have hlt:∀ x∈(p0++(p1++(p2++(p3++(p4++[])))))++[],x.block < W.heap.size:=fun x hx=>by simpa using hW'.lt x hx
 obtain ⟨vr,vn,vm,vh,vs,b,rfl,hB,kr,kn,kh⟩:=arg_built (hval 0 32 v0 rfl rfl) h0;obtain ⟨x1,rfl,hx1⟩:=arg_u8 (hval 1 5 v1 rfl rfl) h1;obtain ⟨x2,rfl,hx2⟩:=arg_u8 (hval 2 5 v2 rfl rfl) h2;obtain ⟨x3,rfl,hx3⟩:=arg_u8 (hval 3 5 v3 rfl rfl) h3;obtain ⟨x4,hx4⟩:=arg_u32s (hval 4 33 v4 rfl rfl) h4;refine (law_walk W vr vn vm vh vs v4 b x1 x2 x3 x4 hB kr kn kh ⟨looks_of hL,looksN_of hL,kinds_of hL⟩ hx1 hx2 hx3 hx4).mono fun e W' ⟨he,hb⟩=>?_
 subst he;refine ⟨_,rfl,⟨_,_,_,[],p0++(p1++(p2++(p3++(p4++[])))),[],hW',trodAll_cons_mk (shut_bool Tryz.underlying4 _) trodAll_mk0,
  trodAll_cons_mk (Below.trod laidOut (by kernel_rfl) (of_decide_eq_true (by kernel_rfl)) h0 hb (fun x hx=>hlt x (by simp [hx]))) (trodAll_cons_mk (Below.trod laidOut (by kernel_rfl) (of_decide_eq_true (by kernel_rfl)) h1 hb (fun x hx=>hlt x (by simp [hx]))) (trodAll_cons_mk (Below.trod laidOut (by kernel_rfl) (of_decide_eq_true (by kernel_rfl)) h2 hb (fun x hx=>hlt x (by simp [hx]))) (trodAll_cons_mk (Below.trod laidOut (by kernel_rfl) (of_decide_eq_true (by kernel_rfl)) h3 hb (fun x hx=>hlt x (by simp [hx]))) (trodAll_cons_mk (Below.trod laidOut (by kernel_rfl) (of_decide_eq_true (by kernel_rfl)) h4 hb (fun x hx=>hlt x (by simp [hx]))) trodAll_mk0)))),
  rfl,hb.frame _,fun h=>by cases h⟩⟩
theorem lifted (os:Os) (started:os.Started) (H:Type) (enc:TypeId×Value->H) (F:Stop.Interp) :
  ReturnsInHanded {} Tryz.checked os 4 .any ((OpenSpec.ofChange Rows.builtEndsSpec).preRow enc Tryz.prog Tryz.f4 Rows.builtEndsRow.domain false Rows.builtEndsRow.laid) (((OpenSpec.ofChange Rows.builtEndsSpec).at F).post enc Tryz.prog Tryz.f4 false true false false):=by
 obtain ⟨places,hx⟩:=reads os enc;refine returnsInHanded_of_row (C:=Tryz.checked) (s:=OpenSpec.ofChange Rows.builtEndsSpec) own started (by kernel_rfl) Tryz.func4
  (witness_row_at (enc:=enc) (C:=Tryz.checked) false (World.doorLaid Tryz.prog 400 os) #[.agg #[.slice none 0 0,.slice none 0 0,.int .i64 0,.slice none 0 0,.slice none 0 0,.slice none 0 0],.int .u8 0,.int .u8 0,.int .u8 0,.slice none 0 0] rfl (by kernel_rfl) (by kernel_rfl) (by kernel_rfl)
   (OpenSpec.preRow_of_cond 8 hx (by kernel_rfl) (fun k hk=>by cases hk) (by kernel_rfl) (door_met os _))) ?_
 intro W base args ds gs before hval hW _ _ _ hL _ _;exact contract H enc W base args ds gs before hval hW hL
theorem said:Rows.BuiltEndsSaid :=
 OpenClaim.holds_of_cond 4 Tryz.f4 rfl rfl rfl rfl rfl rfl rfl ⟨rfl,rfl,rfl,rfl,rfl⟩ rfl rfl rfl rfl rfl (by as_aux_lemma=>kernel_rfl) Tryz.func4 (by as_aux_lemma=>kernel_rfl)
  (of_decide_eq_true (by as_aux_lemma=>kernel_rfl)) (by unfold Func.isWrapper;first | (rw [if_pos (by decide +kernel)];kernel_rfl) | (rw [if_neg (by decide +kernel)];exact ⟨rfl,rfl⟩))
  (fun os started H enc _ F=>by rw [OpenClaim.pre_eq_preRow];exact lifted os started H enc F)
theorem card:Rows.BuiltEndsCardSaid :=
 Claim7.holds_tied_plain_at .later [] _ _ _ _ said (fun _ h=>by cases h) (by as_aux_lemma=>kernel_rfl) (fun _ h=>by cases h) builtEnds_row_tie rfl ⟨rfl,rfl⟩ (by as_aux_lemma=>kernel_rfl) rfl plain (by as_aux_lemma=>kernel_rfl)
end
end Go.Proofs.YtipaopbmklbmnaaGreatDoor.builtEnds
