/-
  Contracts: rising lists.
-/
import Derived.Test.YtcemgempgbjbeaaGreatU23
import Derived.Test.YtcemgempgbjbeaaGreatU11
import Derived.Test.YtcemgempgbjbeaaGreatU13
import Derived.Test.YtcemgempgbjbeaaGreatU0
import Derived.Shelf.Sort.Plain
set_option linter.unusedSimpArgs false
set_option linter.unusedVariables false
namespace Go.AM
namespace L3
open Go.Proofs.Tryz
attribute [-go_sem] put_ne put_same
attribute [local go_sem ↓] put_if
theorem getD_set' {l:List Int} {i j:Nat} {b:Int} (hi:i<l.length):(l.set i b).getD j 0=if i=j then b else l.getD j 0:=getD_setI hi
end L3
end Go.AM
namespace Go.AM
namespace L3
open Go.Proofs.Tryz
attribute [-go_sem] put_ne put_same
attribute [local go_sem ↓] put_if
def risE (o:List Int):List Int × Int:=if aloL o=0 then (riseL o,0) else ([],aloL o)
end L3
end Go.AM
namespace Go.AM
namespace L3
def topV (o pile:List Int):Int:=o.getD (pile.getLastD 0).toNat 0
def pilI (o:List Int) (ps:List (List Int)) (k:Int):Int:=idx (fun pile=>decide (topV o pile > k)) ps
def pilS (o:List Int) (ps:List (List Int)) (p:Nat):List (List Int) :=
 if pilI o ps (o.getD p 0)<0 then ps++[[(p:Int)]] else ps.set (pilI o ps (o.getD p 0)).toNat (ps.getD (pilI o ps (o.getD p 0)).toNat []++[(p:Int)])
def pilN (o:List Int):Nat→List (List Int)
 | 0=>[]
 | n+1=>pilS o (pilN o n) n
def PilR (o:List Int) (p q:Int):Prop:=p<q∧o.getD q.toNat 0<o.getD p.toNat 0
structure Pils (o:List Int) (n:Nat) (ps:List (List Int)):Prop where
 ne:∀ x ∈ ps,x ≠ []
 dn:∀ x ∈ ps,x.Pairwise (PilR o)
 all:ps.flatten.Perm (upto n)
 hd:∀ i j,i<j→j<ps.length→(ps.getD i []).headD 0<(ps.getD j []).headD 0
 ch:∀ i,i<ps.length→∀ p ∈ ps.getD i [],∃ l,RiseP o l∧l.length=i+1∧l.getLast?=some p
end L3
end Go.AM
namespace Go.AM
namespace L3
def mvL (o:List Int) (f t:Nat):List Int:=(o.eraseIdx f).insertIdx t (o.getD f 0)
def makF (n:Nat):List (Int × Int)→List Int→List Int × Int
 | [],o=>(o,0)
 | m :: ms,o=>if (0≤m.1∧m.1<(n:Int))∧(0≤m.2∧m.2<(n:Int)) then makF n ms (mvL o m.1.toNat m.2.toNat) else ([],1)
def SubR (o s:List Int):Prop:=s.Sublist o∧s.Pairwise (·<·)
def lisN (o:List Int):Nat:=(riseL o).length
def mndT (rest kept:List Int) (k:Int):Nat→Nat
 | 0=>0
 | i+1=>if rest.getD i 0<k∧rest.getD i 0 ∈ kept then i+1 else mndT rest kept k i
structure MndS where
 o:List Int
 kept:List Int
 out:List (Int × Int)
def mndS (s:MndS) (k:Int):MndS :=
 if k ∈ s.kept then s else
 let f:=s.o.idxOf k
 let t:=mndT (s.o.eraseIdx f) s.kept k (s.o.eraseIdx f).length
 ⟨mvL s.o f t,s.kept++[k],if f=t then s.out else s.out++[((f:Int),(t:Int))]⟩
def mndN (s:MndS):Nat→MndS
 | 0=>s
 | k+1=>mndS (mndN s k) (k:Int)
def mndL (o:List Int):List (Int × Int):=(mndN ⟨o,(riseL o).map fun p=>o.getD p.toNat 0,[]⟩ o.length).out
structure MndI (n:Nat) (o0:List Int) (kept0:List Int) (k:Nat) (s:MndS):Prop where
 ord:Ord n s.o
 up:(s.o.filter fun x=>decide (x ∈ s.kept)).Pairwise (·<·)
 kept:∀ x,x ∈ s.kept ↔ x ∈ kept0 ∨ (0≤x∧x<(k:Int))
 rng:∀ m ∈ s.out,(0≤m.1∧m.1<(n:Int))∧(0≤m.2∧m.2<(n:Int))
 mak:makF n s.out o0=(s.o,0)
 few:s.out.length≤(upto k).countP fun x=>decide (x ∉ kept0)
end L3
end Go.AM
namespace Go.AM
namespace L3
open Go.Proofs.Tryz
attribute [-go_sem] put_ne put_same
attribute [local go_sem ↓] put_if
section
variable {base id ver:Nat} {h:Heap} {m:List Int}
abbrev iB (m:List Int) (ver:Nat):ABlk:=srB m 3 ver
end
end L3
end Go.AM
namespace Go.AM
open Go.Shelf Go.Sort Go.Proofs
theorem srtF_of {P:Program} {ρ:Ren} (L:Lays.n189 P ρ):SrtF P (ρ.f 189) (ρ.t 3):=by
 refine ⟨L.z3,?_⟩
 intro b off c zs C T fz w hn hb hC hfz
 have hbs:b<w.heap.size:=(Array.getElem?_eq_some_iff.1 hb).1
 have hH:Holds (Value.int .i64) w b off zs.toArray:=fun j hj=>by
  have hj:j<zs.length:=by simpa using hj
  have e:(zs.toArray[j]!)=zs.getD j 0:=by
   rw [getElem!_pos _ j (by simpa using hj),List.getElem_toArray,List.getD_eq_getElem?_getD,List.getElem?_eq_getElem hj];rfl
  refine ⟨?_,?_⟩
  ·simp only [World.cell?,hb]
   rw [hC j hj,e]
   rfl
  ·have:=hfz (off+j) (by omega) (by omega)
   simp only [World.frozen?,hb,Bool.and_eq_false_iff,decide_eq_false_iff_not]
   omega
 refine (Any.slices_Sort_int L b off c zs w hH hbs (by omega)).mono fun r w' ⟨h1,n,os,h2⟩=>?_
 obtain ⟨S,eS⟩:∃ S,S=zs.mergeSort fun x y=>decide (x≤y):=⟨_,rfl⟩
 have hSl:S.length=zs.length:=by rw [eS,List.length_mergeSort]
 rw [← eS] at h2 ⊢
 have hk:∀ k,k<w.heap.size→w'.heap[k]?=(putRow (Value.int .i64) (Sort.ahead w n) b off S.toArray).heap[k]?:=fun k hk=>by
  rw [h2]
  show ((putRow (Value.int .i64) (Sort.ahead w n) b off S.toArray).heap++os)[k]?=_
  rw [Array.getElem?_append_left]
  show k<((Sort.ahead w n).heap.modify b _).size
  rw [Array.size_modify];exact hk
 refine ⟨h1,⟨by rw [h2];rfl,by rw [h2];rfl,by rw [h2];rfl⟩,?_,fun k hk1 hk2=>?_,putCells (Value.int .i64) off S.toArray C,?_,?_,fun j=>?_⟩
 ·rw [h2,size_grow]
  show w.heap.size≤((Sort.ahead w n).heap.modify b _).size+os.size
  rw [Array.size_modify]
  exact Nat.le_add_right _ _
 ·rw [hk k hk1]
  show ((Sort.ahead w n).heap.modify b _)[k]?=_
  rw [Array.getElem?_modify,if_neg (fun e=>hk2 e.symm)]
  rfl
 ·rw [hk b hbs]
  show ((Sort.ahead w n).heap.modify b _)[b]?=_
  rw [Array.getElem?_modify,if_pos rfl]
  show Option.map _ w.heap[b]?=_
  rw [hb]
  rfl
 ·simp [putCells]
 ·unfold putCells
  rw [Array.getElem?_mapIdx]
  by_cases hj:j<C.size
  ·rw [Array.getElem?_eq_getElem hj,Option.map_some]
   by_cases d:off≤j∧j<off+zs.length
   ·rw [if_pos ⟨d.1,by simpa [hSl] using d.2⟩,if_pos ⟨d.1,d.2,hj⟩,getElem!_pos _ (j-off) (by simp;omega),List.getElem_toArray,List.getD_eq_getElem?_getD,List.getElem?_eq_getElem (by omega)];rfl
   ·rw [if_neg (by simpa [hSl] using d),if_neg (fun q=>d ⟨q.1,q.2.1⟩)]
  ·rw [Array.getElem?_eq_none (by omega),Option.map_none,if_neg (fun q=>hj q.2.2)]
end Go.AM
namespace Go.AM
namespace L3
open Go.Proofs.Tryz
def srtRen:Go.Shelf.Ren:=⟨fun x=>match x with
  | 189=>92
  | 125=>178
  | 257=>177
  | 128=>238
  | 129=>239
  | 294=>229
  | 295=>230
  | 296=>231
  | 297=>232
  | 298=>233
  | 299=>234
  | 216=>235
  | 300=>236
  | 301=>237
  | 328=>274
  | 329=>275
  | 330=>276
  | 331=>277
  | 332=>278
  | 215=>279
  | 343=>292
  | n=>n,
 fun x=>match x with
  | 28=>35
  | 3=>3
  | 46=>278
  | 0=>0
  | 51=>339
  | 53=>134
  | 4=>4
  | 183=>333
  | 182=>332
  | 131=>45
  | 5=>5
  | 9=>9
  | 218=>362
  | 222=>366
  | 228=>379
  | 229=>186
  | n=>n,
 fun n=>n⟩
theorem srtB189:f92=Go.Proofs.Body.n189 srtRen:=by kernel_rfl
theorem srtF189:prog.funcs[srtRen.f 189]?=some (Go.Proofs.Body.n189 srtRen):=by
 have e:srtRen.f 189=92:=rfl
 rw [e,← srtB189];exact func92
theorem srtB125:f178=Go.Proofs.Body.n125 srtRen:=by kernel_rfl
theorem srtF125:prog.funcs[srtRen.f 125]?=some (Go.Proofs.Body.n125 srtRen):=by
 have e:srtRen.f 125=178:=rfl
 rw [e,← srtB125];exact func178
theorem srtB257:f177=Go.Proofs.Body.n257 srtRen:=by kernel_rfl
theorem srtF257:prog.funcs[srtRen.f 257]?=some (Go.Proofs.Body.n257 srtRen):=by
 have e:srtRen.f 257=177:=rfl
 rw [e,← srtB257];exact func177
theorem srtB128:f238=Go.Proofs.Body.n128 srtRen:=by kernel_rfl
theorem srtF128:prog.funcs[srtRen.f 128]?=some (Go.Proofs.Body.n128 srtRen):=by
 have e:srtRen.f 128=238:=rfl
 rw [e,← srtB128];exact func238
theorem srtB129:f239=Go.Proofs.Body.n129 srtRen:=by kernel_rfl
theorem srtF129:prog.funcs[srtRen.f 129]?=some (Go.Proofs.Body.n129 srtRen):=by
 have e:srtRen.f 129=239:=rfl
 rw [e,← srtB129];exact func239
theorem srtB294:f229=Go.Proofs.Body.n294 srtRen:=by kernel_rfl
theorem srtF294:prog.funcs[srtRen.f 294]?=some (Go.Proofs.Body.n294 srtRen):=by
 have e:srtRen.f 294=229:=rfl
 rw [e,← srtB294];exact func229
theorem srtB295:f230=Go.Proofs.Body.n295 srtRen:=by kernel_rfl
theorem srtF295:prog.funcs[srtRen.f 295]?=some (Go.Proofs.Body.n295 srtRen):=by
 have e:srtRen.f 295=230:=rfl
 rw [e,← srtB295];exact func230
theorem srtB296:f231=Go.Proofs.Body.n296 srtRen:=by kernel_rfl
theorem srtF296:prog.funcs[srtRen.f 296]?=some (Go.Proofs.Body.n296 srtRen):=by
 have e:srtRen.f 296=231:=rfl
 rw [e,← srtB296];exact func231
theorem srtB297:f232=Go.Proofs.Body.n297 srtRen:=by kernel_rfl
theorem srtF297:prog.funcs[srtRen.f 297]?=some (Go.Proofs.Body.n297 srtRen):=by
 have e:srtRen.f 297=232:=rfl
 rw [e,← srtB297];exact func232
theorem srtB298:f233=Go.Proofs.Body.n298 srtRen:=by kernel_rfl
theorem srtF298:prog.funcs[srtRen.f 298]?=some (Go.Proofs.Body.n298 srtRen):=by
 have e:srtRen.f 298=233:=rfl
 rw [e,← srtB298];exact func233
theorem srtB299:f234=Go.Proofs.Body.n299 srtRen:=by kernel_rfl
theorem srtF299:prog.funcs[srtRen.f 299]?=some (Go.Proofs.Body.n299 srtRen):=by
 have e:srtRen.f 299=234:=rfl
 rw [e,← srtB299];exact func234
theorem srtB216:f235=Go.Proofs.Body.n216 srtRen:=by kernel_rfl
theorem srtF216:prog.funcs[srtRen.f 216]?=some (Go.Proofs.Body.n216 srtRen):=by
 have e:srtRen.f 216=235:=rfl
 rw [e,← srtB216];exact func235
theorem srtB300:f236=Go.Proofs.Body.n300 srtRen:=by kernel_rfl
theorem srtF300:prog.funcs[srtRen.f 300]?=some (Go.Proofs.Body.n300 srtRen):=by
 have e:srtRen.f 300=236:=rfl
 rw [e,← srtB300];exact func236
theorem srtB301:f237=Go.Proofs.Body.n301 srtRen:=by kernel_rfl
theorem srtF301:prog.funcs[srtRen.f 301]?=some (Go.Proofs.Body.n301 srtRen):=by
 have e:srtRen.f 301=237:=rfl
 rw [e,← srtB301];exact func237
theorem srtB328:f274=Go.Proofs.Body.n328 srtRen:=by kernel_rfl
theorem srtF328:prog.funcs[srtRen.f 328]?=some (Go.Proofs.Body.n328 srtRen):=by
 have e:srtRen.f 328=274:=rfl
 rw [e,← srtB328];exact func274
theorem srtB329:f275=Go.Proofs.Body.n329 srtRen:=by kernel_rfl
theorem srtF329:prog.funcs[srtRen.f 329]?=some (Go.Proofs.Body.n329 srtRen):=by
 have e:srtRen.f 329=275:=rfl
 rw [e,← srtB329];exact func275
theorem srtB330:f276=Go.Proofs.Body.n330 srtRen:=by kernel_rfl
theorem srtF330:prog.funcs[srtRen.f 330]?=some (Go.Proofs.Body.n330 srtRen):=by
 have e:srtRen.f 330=276:=rfl
 rw [e,← srtB330];exact func276
theorem srtB331:f277=Go.Proofs.Body.n331 srtRen:=by kernel_rfl
theorem srtF331:prog.funcs[srtRen.f 331]?=some (Go.Proofs.Body.n331 srtRen):=by
 have e:srtRen.f 331=277:=rfl
 rw [e,← srtB331];exact func277
theorem srtB332:f278=Go.Proofs.Body.n332 srtRen:=by kernel_rfl
theorem srtF332:prog.funcs[srtRen.f 332]?=some (Go.Proofs.Body.n332 srtRen):=by
 have e:srtRen.f 332=278:=rfl
 rw [e,← srtB332];exact func278
theorem srtB215:f279=Go.Proofs.Body.n215 srtRen:=by kernel_rfl
theorem srtF215:prog.funcs[srtRen.f 215]?=some (Go.Proofs.Body.n215 srtRen):=by
 have e:srtRen.f 215=279:=rfl
 rw [e,← srtB215];exact func279
theorem srtB343:f292=Go.Proofs.Body.n343 srtRen:=by kernel_rfl
theorem srtF343:prog.funcs[srtRen.f 343]?=some (Go.Proofs.Body.n343 srtRen):=by
 have e:srtRen.f 343=292:=rfl
 rw [e,← srtB343];exact func292
theorem srtT0:srtRen.t 0=0:=rfl
theorem srtT3:srtRen.t 3=3:=rfl
theorem srtT4:srtRen.t 4=4:=rfl
theorem srtT5:srtRen.t 5=5:=rfl
theorem srtT9:srtRen.t 9=9:=rfl
theorem srtT28:srtRen.t 28=35:=rfl
theorem srtT46:srtRen.t 46=278:=rfl
theorem srtT51:srtRen.t 51=339:=rfl
theorem srtT53:srtRen.t 53=134:=rfl
theorem srtT131:srtRen.t 131=45:=rfl
theorem srtT182:srtRen.t 182=332:=rfl
theorem srtT183:srtRen.t 183=333:=rfl
theorem srtT218:srtRen.t 218=362:=rfl
theorem srtT222:srtRen.t 222=366:=rfl
theorem srtT228:srtRen.t 228=379:=rfl
theorem srtT229:srtRen.t 229=186:=rfl
theorem srtLays:Go.Proofs.Lays.n189 prog srtRen:=by
 refine { mixed:=by kernel_rfl,f125:=srtF125,f128:=srtF128,f129:=srtF129,f189:=srtF189,f215:=srtF215,f216:=srtF216,f257:=srtF257,f294:=srtF294,f295:=srtF295,f296:=srtF296,f297:=srtF297,f298:=srtF298,f299:=srtF299,f300:=srtF300,f301:=srtF301,f328:=srtF328,f329:=srtF329,f330:=srtF330,f331:=srtF331,f332:=srtF332,f343:=srtF343,t0:=?_,a0:=?_,z0:=?_,v0:=?_,t3:=?_,a3:=?_,z3:=?_,v3:=?_,t4:=?_,a4:=?_,z4:=?_,v4:=?_,t5:=?_,a5:=?_,z5:=?_,v5:=?_,t9:=?_,a9:=?_,z9:=?_,v9:=?_,t28:=?_,a28:=?_,z28:=?_,v28:=?_,t46:=?_,a46:=?_,z46:=?_,v46:=?_,t51:=?_,a51:=?_,z51:=?_,v51:=?_,t53:=?_,a53:=?_,z53:=?_,v53:=?_,t131:=?_,a131:=?_,z131:=?_,v131:=?_,t182:=?_,a182:=?_,z182:=?_,v182:=?_,t183:=?_,a183:=?_,z183:=?_,v183:=?_,t218:=?_,a218:=?_,z218:=?_,v218:=?_,t222:=?_,a222:=?_,z222:=?_,v222:=?_,t228:=?_,a228:=?_,z228:=?_,v228:=?_,t229:=?_,a229:=?_,z229:=?_,v229:=?_ }
 ·first|exact underlying0|(rw [srtT0];exact underlying0)|kernel_rfl
 ·intro w;exact isAgg0 w
 ·intro w;exact sizeOf0 w
 ·intro w;exact zeroValue0 w
 ·first|exact underlying3|(rw [srtT3];exact underlying3)|kernel_rfl
 ·intro w;exact isAgg3 w
 ·intro w;exact sizeOf3 w
 ·intro w;exact zeroValue3 w
 ·first|exact underlying4|(rw [srtT4];exact underlying4)|kernel_rfl
 ·intro w;exact isAgg4 w
 ·intro w;exact sizeOf4 w
 ·intro w;exact zeroValue4 w
 ·first|exact underlying5|(rw [srtT5];exact underlying5)|kernel_rfl
 ·intro w;exact isAgg5 w
 ·intro w;exact sizeOf5 w
 ·intro w;exact zeroValue5 w
 ·first|exact underlying9|(rw [srtT9];exact underlying9)|kernel_rfl
 ·intro w;exact isAgg9 w
 ·intro w;exact sizeOf9 w
 ·intro w;exact zeroValue9 w
 ·first|exact underlying35|(rw [srtT28];exact underlying35)|kernel_rfl
 ·intro w;exact isAgg35 w
 ·intro w;exact sizeOf35 w
 ·intro w;exact zeroValue35 w
 ·first|exact underlying278|(rw [srtT46];exact underlying278)|kernel_rfl
 ·intro w;exact isAgg278 w
 ·intro w;exact sizeOf278 w
 ·intro w;exact zeroValue278 w
 ·first|exact underlying339|(rw [srtT51];exact underlying339)|kernel_rfl
 ·intro w;exact isAgg339 w
 ·intro w;exact sizeOf339 w
 ·intro w;exact zeroValue339 w
 ·first|exact underlying134|(rw [srtT53];exact underlying134)|kernel_rfl
 ·intro w;exact isAgg134 w
 ·intro w;exact sizeOf134 w
 ·intro w;exact zeroValue134 w
 ·first|exact underlying45|(rw [srtT131];exact underlying45)|kernel_rfl
 ·intro w;exact isAgg45 w
 ·intro w;exact sizeOf45 w
 ·intro w;exact zeroValue45 w
 ·first|exact underlying332|(rw [srtT182];exact underlying332)|kernel_rfl
 ·intro w;exact isAgg332 w
 ·intro w;exact sizeOf332 w
 ·intro w;exact zeroValue332 w
 ·first|exact underlying333|(rw [srtT183];exact underlying333)|kernel_rfl
 ·intro w;exact isAgg333 w
 ·intro w;exact sizeOf333 w
 ·intro w;exact zeroValue333 w
 ·first|exact underlying362|(rw [srtT218];exact underlying362)|kernel_rfl
 ·intro w;exact isAgg362 w
 ·intro w;exact sizeOf362 w
 ·intro w;exact zeroValue362 w
 ·first|exact underlying366|(rw [srtT222];exact underlying366)|kernel_rfl
 ·intro w;exact isAgg366 w
 ·intro w;exact sizeOf366 w
 ·intro w;exact zeroValue366 w
 ·first|exact underlying379|(rw [srtT228];exact underlying379)|kernel_rfl
 ·intro w;exact isAgg379 w
 ·intro w;exact sizeOf379 w
 ·intro w;exact zeroValue379 w
 ·first|exact underlying186|(rw [srtT229];exact underlying186)|kernel_rfl
 ·intro w;exact isAgg186 w
 ·intro w;exact sizeOf186 w
 ·intro w;exact zeroValue186 w
end L3
end Go.AM
namespace Go.AM
namespace F4
open Go.Proofs.Tryz
attribute [-go_sem] put_ne put_same
attribute [local go_sem ↓] put_if
theorem srtLawP:∃ e,SrtF prog 92 e:=by
 have h:=srtF_of L3.srtLays
 have e:L3.srtRen.f 189=92:=rfl
 rw [e] at h
 exact ⟨_,h⟩
theorem run_sortP {base id ver:Nat} {h:Heap} {l:List Int} (hg:h[id]?=some (rowB l ver)) (hl:l.length≤1000) (h0:0<l.length) :
  callL prog raw base (.fn 92 [] []) [.slice (some ⟨id,ver,0⟩) l.length l.length] h=some (.tuple [],h.set id (rowB (srtL l) ver)):=by
 have:=callL_srt (P:=prog) (raw:=raw) (base:=base) (zs:=l) func92 (by kernel_rfl) (by kernel_rfl) srtLawP hg rfl (by omega) h0
 exact this
def surE (P:Pwr) (S:List Int):List Int × Int:=if clsB P S=true then ([],7) else (surM P S,0)
theorem opnL_len {P:Pwr} {S:List Int} {k:Nat} (ok:POk P) (hk:k<P.K.length):(opnL P S k).length≤P.U.length:=by
 have q:=(List.filter_sublist (p:=fun s=>!clrB P S s) (l:=lnK P k)).length_le
 have q2:(lnK P k).length≤P.U.length:=by
  unfold lnK
  have hm:=ok.s _ (getD_at (d:=(-1:Int)) hk ▸ List.getElem_mem hk)
  exact lnA_len ok.u (by omega) hm.2
 unfold opnL
 omega
theorem opnL_bd {P:Pwr} {S:List Int} {k:Nat} (ok:POk P) {x:Int} (h:x ∈ opnL P S k):0≤x∧x<(P.U.length:Int):=(drv_lt ok (opnL_mem.1 h).1).2
theorem surN_len {P:Pwr} {S:List Int} (n:Nat):(surN P S n).length≤n:=selN_len _
theorem surN_bd {P:Pwr} {S:List Int} (ok:POk P) {n:Nat} {x:Int} (h:x ∈ surN P S n):0≤x∧x<(P.U.length:Int):=by
 obtain ⟨i,_,h2,rfl⟩:=selN_mem.1 h
 rw [Bool.and_eq_true,decide_eq_true_eq,decide_eq_true_eq] at h2
 exact opnL_bd ok (getD_mem (by omega))
set_option maxHeartbeats 2000000 in
theorem run_Surely {base:Nat} {h:Heap} {v sv:AVal} {P:Pwr} {S:List Int} (hb:base≤h.length) (hM:PwAt h v P) (hO:MOkS P S) (hS:Rows encI h sv S):Ret prog raw base (.fn 33 [] []) [v,sv] h (fun w H=>Ext h H∧∃ x,w=.tuple [x,.int .i64 (surE P S).2]∧Ints H x (surE P S).1):=by
 have ok:=hO.ok
 have hM0:=hM
 obtain ⟨pv,wv,rfl,hP,hW⟩:=hM
 have os:=hP.one
 have ow:=hW.one
 have oS:=hS.one
 have b1:=ok.n
 have b2:=ok.k
 have b3:=hO.len
 obtain ⟨G,eG⟩:∃ G,G=h++[pwB pv wv]:=⟨_,rfl⟩
 have x0:Ext h G:=by rw [eG];exact .app .refl
 have g0:G[h.length]?=some (pwB pv wv):=by rw [eG];exact get_eq rfl
 have lG:=x0.len
 obtain ⟨w,H1,e1,d,rfl,hd,x1,hD⟩:=run_sighted (base:=base) (h:=G) (by omega) (hM0.ext x0) hO (hS.ext x0)
 have xh:=x0.trans x1
 have lH1:=xh.len
 have hS1:=hS.ext xh
 have n1:=sgt_len hS1
 have e2:=fun base hb=>run_pclash (base:=base) hb hD hO hS1
 unfold pwB at eG g0
 cases c:clsB P S with
 | true =>
  have r:surE P S=([],7):=by unfold surE;rw [if_pos c]
  have e2:=e2 base (by omega)
  rw [c] at e2
  rw [r]
  refine ret_raw func33 rfl (by kernel_rfl) ?_
  have hsp:=@Nat.succ_ne_zero;repeat' (first|simp (disch:=first|exact dq|fail) only [go_sem,↓reduceIte,hsp,← eG,g0,e1,e2]|refine WP_drw ?_|refine cnd_intro (fun hsp=>?_) fun hsp=>?_)
  exact ⟨xh,_,rfl,ints_nil⟩
 | false =>
  have r:surE P S=(surM P S,0):=by unfold surE;rw [if_neg (by rw [c];simp)]
  have e2:=e2 base (by omega)
  rw [c] at e2
  rw [r]
  refine ret_raw func33 rfl (by kernel_rfl) ?_
  have hsp:=@Nat.succ_ne_zero;repeat' (first|simp (disch:=first|exact dq|fail) only [go_sem,↓reduceIte,hsp,← eG,g0,e1,e2,n1]|refine WP_drw ?_|refine cnd_intro (fun hsp=>?_) fun hsp=>?_)
  refine WP_count [(8,11),(28,50)] 0 S.length (Nat.zero_le _) (fun _ n fr h'=>fr 28=.int .i64 (n:Int)∧Ext H1 h'∧∃ v,fr 8=v∧Own encI 3 H1.length h' v (surN P S n)) ?_ ?_ ?_
  ·exact ⟨by (simp (disch:=first|exact dq|fail) only [go_sem,↓reduceIte,Int.natCast_zero];first|done|rfl),.refl,.slice none 0 0,by simp (disch:=first|exact dq|fail) only [go_sem,↓reduceIte],Own.nil⟩
  ·rintro n fr H hn0 hn hA ⟨r28,xH,v,r8,hV⟩
   have p1:=hA 1 rfl
   have p4:=hA 4 rfl
   have p5:=hA 5 rfl
   have p6:=hA 6 rfl
   have p26:=hA 26 rfl
   have p27:=hA 27 rfl
   try simp (disch:=first|exact dq|fail) only [go_sem,↓reduceIte] at p1 p4 p5 p6 p26 p27
   have hlt:((n:Int)<(S.length:Int))=True:=eq_true (by omega)
   obtain ⟨a1,a2⟩:=sgt_at (hS1.ext xH) hn
   have lH:=xH.len
   obtain ⟨w,H2,e3,x2,o2⟩:=run_open (base:=base) (k:=n) (by omega) (hD.ext xH) ok (hS1.ext xH) (by omega) (by omega)
   have hol:=opnL_len (S:=S) ok (show n<P.K.length by omega)
   have hll:=own_len o2 Fc.el35 (by omega)
   have hV2:=hV.ext x2
   have l2:=x2.len
   have hsl:=surN_len (P:=P) (S:=S) n
   by_cases c1:S.getD n 0=2
   ·have t1:(S.getD n 0=2)=True:=eq_true c1
    by_cases c2:(opnL P S n).length=1
    ·have t2:(((opnL P S n).length:Int)=1)=True:=eq_true (by omega)
     have hI2:Ints H2 w (opnL P S n):=(o2.rows (by omega)).ints fun x hx=>by have:=opnL_bd ok hx;omega
     have d1:=adrI (i:=(0:Int)) (by omega) hI2 (by omega)
     have d2:=loadI hI2 (i:=0) (by omega)
     obtain ⟨v',h',ea,hO',hle,hE,h1'⟩:=hV2.append1 (y:=(opnL P S n).getD 0 0) (base:=base) (t:=35) rfl rfl Fc.el35 encI_sc (by omega) (by omega) (by omega)
     have hsp:=@Nat.succ_ne_zero;repeat' (first|simp (disch:=first|exact dq|fail) only [go_sem,↓reduceIte,hsp,r28,r8,p1,p4,p5,p6,p26,p27,hlt,a1,a2,e3,t1,hll,t2,d1,d2,ea]|refine WP_drw ?_|refine cnd_intro (fun hsp=>?_) fun hsp=>?_)
     refine ⟨agq,by omega,hE H1 (Nat.le_refl _) (xH.trans x2),v',rfl,?_⟩
     unfold surN at hO' ⊢
     rw [selN,if_pos (by rw [Bool.and_eq_true,decide_eq_true_eq,decide_eq_true_eq];exact ⟨c1,c2⟩)];exact hO'
    ·have t2:(((opnL P S n).length:Int)=1)=False:=eq_false (by omega)
     have hsp:=@Nat.succ_ne_zero;repeat' (first|simp (disch:=first|exact dq|fail) only [go_sem,↓reduceIte,hsp,r28,r8,p1,p4,p5,p6,p26,p27,hlt,a1,a2,e3,t1,hll,t2]|refine WP_drw ?_|refine cnd_intro (fun hsp=>?_) fun hsp=>?_)
     refine ⟨agq,by omega,xH.trans x2,v,rfl,?_⟩
     unfold surN at hV2 ⊢
     rw [selN,if_neg (by rw [Bool.and_eq_true,decide_eq_true_eq,decide_eq_true_eq];exact fun q=>c2 q.2),List.append_nil];exact hV2
   ·have t1:(S.getD n 0=2)=False:=eq_false c1
    have hsp:=@Nat.succ_ne_zero;repeat' (first|simp (disch:=first|exact dq|fail) only [go_sem,↓reduceIte,hsp,r28,r8,p1,p4,p5,p6,p26,p27,hlt,a1,a2,e3,t1]|refine WP_drw ?_|refine cnd_intro (fun hsp=>?_) fun hsp=>?_)
    refine ⟨agq,by omega,xH.trans x2,v,rfl,?_⟩
    unfold surN at hV2 ⊢
    rw [selN,if_neg (by rw [Bool.and_eq_true,decide_eq_true_eq,decide_eq_true_eq];exact fun q=>c1 q.1),List.append_nil];exact hV2
  ·rintro fr H hA ⟨r28,xH,v,r8,hV⟩
   have p1:=hA 1 rfl
   have p4:=hA 4 rfl
   have p5:=hA 5 rfl
   have p6:=hA 6 rfl
   have p26:=hA 26 rfl
   have p27:=hA 27 rfl
   try simp (disch:=first|exact dq|fail) only [go_sem,↓reduceIte] at p1 p4 p5 p6 p26 p27
   have hlt:((S.length:Int)<(S.length:Int))=False:=eq_false (by omega)
   have hsl:=surN_len (P:=P) (S:=S) S.length
   have lH:=xH.len
   obtain ⟨l,el⟩:∃ l,l=surN P S S.length:=⟨_,rfl⟩
   rw [← el] at hV hsl
   have hsm:Small (srtL l):=⟨by rw [srtL_len];omega,fun x hx=>by
    have:=surN_bd ok (show x ∈ surN P S S.length by rw [← el];exact srtL_perm.mem_iff.1 hx)
    omega⟩
   have r2:surM P S=cmpF (srtL l):=by unfold surM;rw [el]
   rw [r2]
   obtain ⟨H9,e5,x9,o9⟩:∃ H9,(∀ base,callL prog raw base (.fn 92 [] []) [v] H=some (.tuple [],H9))∧Ext H1 H9∧Own encI 3 H1.length H9 v (srtL l):=by
    rcases hV with ⟨rfl,ho⟩|⟨oid,over,rfl,o1,o2,o3⟩
    ·exact ⟨H,fun base=>run_sort0 (base:=base),xH,by rw [ho];simp [srtL];exact Own.nil⟩
    ·have o1':H[oid]?=some (rowB l over):=by rw [o1,rowE,flat_encI];rfl
     refine ⟨_,fun base=>run_sortP (base:=base) o1' (by omega) o3,xH.set o2,.inr ⟨oid,over,by rw [srtL_len],?_,o2,by rw [srtL_len];exact o3⟩⟩
     rw [List.getElem?_set_self (lt_of_get o1),rowE,flat_encI];rfl
   have v1:=o9.one
   obtain ⟨w9,H10,e6,x10,i10⟩:=run_compactO (base:=base) (h0:=H1) o9 hsm x9 (Nat.le_refl _)
   have w1:=i10.one
   have hsp:=@Nat.succ_ne_zero;repeat' (first|simp (disch:=first|exact dq|fail) only [go_sem,↓reduceIte,hsp,r28,r8,p1,p4,p5,p6,p26,p27,hlt,e5,e6]|refine WP_drw ?_|refine cnd_intro (fun hsp=>?_) fun hsp=>?_)
   exact ⟨xh.trans x10,_,rfl,i10⟩
end F4
end Go.AM
namespace Go.AM
namespace F4
open Go.Proofs.Tryz
attribute [-go_sem] put_ne put_same
attribute [local go_sem ↓] put_if
theorem nodup_next {l:List Int} {n:Nat} (h:n<l.length):(l.take (n+1)).Nodup ↔ (l.take n).Nodup∧l.getD n 0 ∉ l.take n:=by
 have e:l.take (n+1)=l.take n++[l.getD n 0]:=by
  rw [List.take_add_one,List.getElem?_eq_getElem h,List.getD_eq_getElem?_getD,List.getElem?_eq_getElem h]
  rfl
 rw [e]
 unfold List.Nodup
 rw [List.pairwise_append]
 constructor
 ·rintro ⟨a,_,c⟩
  exact ⟨a,fun q=>c _ q _ (by simp) rfl⟩
 ·rintro ⟨a,b⟩
  exact ⟨a,List.pairwise_singleton _ _,fun x hx y hy e=>b (by rw [List.mem_singleton] at hy;rw [← hy,← e];exact hx)⟩
theorem run_twice {base:Nat} {h:Heap} {v:AVal} {l:List Int} (hI:Ints h v l) (hl:l.length≤1000):callL prog raw base (.fn 179 [] []) [v] h=some (.bool (!decide l.Nodup),h):=by
 have vo:=hI.one
 refine callL_run func179 rfl rfl ?_
 have hsp:=@Nat.succ_ne_zero;repeat' (first|simp (disch:=first|exact dq|fail) only [go_sem,↓reduceIte,hsp,lenI hI]|refine WP_drw ?_|refine cnd_intro (fun hsp=>?_) fun hsp=>?_)
 refine WP_loop (fun σ=>∃ n:Nat,σ.fr 7=.int .i64 (n:Int)∧σ.fr 0=v∧σ.fr 5=v∧σ.fr 6=.int .i64 (l.length:Int)∧σ.h=h∧n≤l.length∧((l.take n).Nodup)) (fun σ=>match σ.fr 7 with|.int _ x=>(((l.length:Nat):Int)-x).toNat|_=>0) ?_ ?_
 ·refine ⟨0,?_,?_,?_,?_,?_,by omega,?_⟩
  iterate 5 focus (first|rfl|(simp (disch:=first|exact dq|fail) only [go_sem,↓reduceIte,Int.natCast_zero];first|done|rfl))
  simp
 ·rintro ⟨fr,hp⟩ ⟨n,r7,r0,r5,r6,rh,hi,hP⟩
  dsimp only at r7 r0 r5 r6 rh hi hP
  subst rh
  by_cases hn:n<l.length
  ·have hlt:((n:Int)<(l.length:Int))=True:=eq_true (by omega)
   have a1:=adrI (i:=(n:Int)) (by omega) hI (by omega)
   rw [Int.toNat_natCast] at a1
   have a2:=loadI hI (i:=n) hn
   have a3:=sl_hi (P:=prog) (t:=35) Fc.el35 Fc.ar35 (n:=(n:Int)) (by omega) hI (by omega)
   rw [Int.toNat_natCast] at a3
   have i3:=hI.slc (lo:=0) (hi:=n) (by omega) (by omega)
   rw [List.drop_zero] at i3
   have e1:=fun base=>run_contains (base:=base) (x:=l.getD n 0) i3
   have so:=i3.one
   by_cases c:l.getD n 0 ∈ l.take n
   ·rw [decide_eq_true c] at e1
    have r:decide l.Nodup=false:=decide_eq_false fun q=>((nodup_next hn).1 (q.sublist (List.take_sublist _ _))).2 c
    rw [r]
    have hsp:=@Nat.succ_ne_zero;repeat' (first|simp (disch:=first|exact dq|fail) only [go_sem,↓reduceIte,hsp,r7,r0,r5,r6,hlt,a1,a2,a3,e1]|refine WP_drw ?_|refine cnd_intro (fun hsp=>?_) fun hsp=>?_)
    all_goals (first|refine fI ?_|refine fB ?_|refine fII ?_ ?_|refine fBI ?_ ?_|refine fIII ?_ ?_ ?_|refine fIIB ?_ ?_ ?_|skip);all_goals (try dsimp only);all_goals (try with_reducible rfl);all_goals (try omega)
   ·rw [decide_eq_false c] at e1
    have hsp:=@Nat.succ_ne_zero;repeat' (first|simp (disch:=first|exact dq|fail) only [go_sem,↓reduceIte,hsp,r7,r0,r5,r6,hlt,a1,a2,a3,e1]|refine WP_drw ?_|refine cnd_intro (fun hsp=>?_) fun hsp=>?_)
    exact ⟨⟨n+1,by simp,by omega,(nodup_next hn).2 ⟨hP,c⟩⟩,by omega⟩
  ·have hlt:((n:Int)<(l.length:Int))=False:=eq_false (by omega)
   obtain rfl:n=l.length:=by omega
   rw [List.take_length] at hP
   rw [decide_eq_true hP]
   have hsp:=@Nat.succ_ne_zero;repeat' (first|simp (disch:=first|exact dq|fail) only [go_sem,↓reduceIte,hsp,r7,r0,r5,r6,hlt]|refine WP_drw ?_|refine cnd_intro (fun hsp=>?_) fun hsp=>?_)
   all_goals (first|refine fI ?_|refine fB ?_|refine fII ?_ ?_|refine fBI ?_ ?_|refine fIII ?_ ?_ ?_|refine fIIB ?_ ?_ ?_|skip);all_goals (try dsimp only);all_goals (try with_reducible rfl);all_goals (try omega)
theorem prfL_next {P:Pwr} {S l:List Int} {n:Nat} (h:n<l.length):prfL P S (l.take (n+1))=prfL P S (l.take n)++opnL P S (l.getD n 0).toNat:=by
 have e:l.take (n+1)=l.take n++[l.getD n 0]:=by
  rw [List.take_add_one,List.getElem?_eq_getElem h,List.getD_eq_getElem?_getD,List.getElem?_eq_getElem h]
  rfl
 unfold prfL
 rw [e,List.flatMap_append]
 simp
theorem prfL_len {P:Pwr} {S:List Int} (ok:POk P):∀ {l:List Int},(∀ x ∈ l,0≤x∧x<(P.K.length:Int))→(prfL P S l).length≤6 * l.length
 | [],_=>by simp [prfL]
 | x :: l,h=>by
  have ih:=prfL_len ok (S:=S) (l:=l) fun y hy=>h y (by simp [hy])
  have hx:=h x (by simp)
  have h1:=opnL_len (S:=S) ok (k:=x.toNat) (by omega)
  have h2:=ok.n
  have e:prfL P S (x :: l)=opnL P S x.toNat++prfL P S l:=by simp [prfL]
  rw [e,List.length_append,List.length_cons]
  omega
set_option maxHeartbeats 2000000 in
theorem run_proof {base d:Nat} {h:Heap} {sv lv:AVal} {P:Pwr} {S l:List Int} (hb:base≤h.length) (hD:DkAt h d P) (hM:MOkS P S) (hS:Rows encI h sv S) (hc:clsB P S=false) (hI:Ints h lv l) (hl:∀ x ∈ l,0≤x∧x<(P.K.length:Int)) (hll:l.length≤6) :
  callL prog raw base (.fn 96 [] []) [.ptr (some ⟨d,0,0⟩),sv,lv] h=some (.bool (prfB P S l),h):=by
 have oS:=hS.one
 have oI:=hI.one
 have ok:=hM.ok
 have b2:=ok.k
 have b3:=hM.len
 refine callL_run func96 rfl rfl ?_
 have hsp:=@Nat.succ_ne_zero;repeat' (first|simp (disch:=first|exact dq|fail) only [go_sem,↓reduceIte,hsp,lenI hI]|refine WP_drw ?_|refine cnd_intro (fun hsp=>?_) fun hsp=>?_)
 refine WP_count [(6,9),(12,27)] 0 l.length (Nat.zero_le _) (fun _ n fr h'=>fr 12=.int .i64 (n:Int)∧Ext h h'∧(∃ v,fr 7=v∧Own encI 3 h.length h' v (prfL P S (l.take n)))∧∀ k ∈ l.take n,S.getD k.toNat 0=2) ?_ ?_ ?_
 ·exact ⟨by (simp (disch:=first|exact dq|fail) only [go_sem,↓reduceIte,Int.natCast_zero];first|done|rfl),.refl,⟨.slice none 0 0,by simp (disch:=first|exact dq|fail) only [go_sem,↓reduceIte],by simp [prfL];exact Own.nil⟩,by simp⟩
 ·rintro n fr H hn0 hn hA ⟨r12,xH,⟨v,r7,hV⟩,hP⟩
  have p0:=hA 0 rfl
  have p1:=hA 1 rfl
  have p10:=hA 10 rfl
  have p11:=hA 11 rfl
  try simp (disch:=first|exact dq|fail) only [go_sem,↓reduceIte] at p0 p1 p10 p11
  have hlt:((n:Int)<(l.length:Int))=True:=eq_true (by omega)
  have lH:=xH.len
  have iH:=hI.ext xH
  have d1:=adrI (i:=(n:Int)) (by omega) iH (by omega)
  rw [Int.toNat_natCast] at d1
  have d2:=loadI iH (i:=n) hn
  obtain ⟨x,ex⟩:∃ x,x=l.getD n 0:=⟨_,rfl⟩
  have hx:=hl x (by rw [ex];exact getD_mem hn)
  rw [← ex] at d2
  obtain ⟨k,rfl⟩:=Int.eq_ofNat_of_zero_le hx.1
  have hk:k<S.length:=by omega
  obtain ⟨a1,a2⟩:=sgt_at (hS.ext xH) hk
  have etk:l.take (n+1)=l.take n++[(k:Int)]:=by
   rw [List.take_add_one,List.getElem?_eq_getElem hn,ex,List.getD_eq_getElem?_getD,List.getElem?_eq_getElem hn]
   rfl
  by_cases c1:S.getD k 0=2
  ·have t1:(S.getD k 0=2)=True:=eq_true c1
   have hnx:=prfL_next (P:=P) (S:=S) hn
   rw [← ex,Int.toNat_natCast] at hnx
   obtain ⟨w,H2,e1,x2,o2⟩:=run_open (base:=h.length) (k:=k) lH (hD.ext xH) ok (hS.ext xH) (by omega) (by omega)
   have l2:=x2.len
   have hol:=opnL_len (S:=S) ok (show k<P.K.length by omega)
   have hne:opnL P S k ≠ []:=fun q=>by rw [clsB_iff.2 ⟨k,hk,c1,q⟩] at hc;cases hc
   have hpl:=prfL_len (S:=S) ok (l:=l.take n) fun y hy=>hl y (List.mem_of_mem_take hy)
   rw [List.length_take] at hpl
   obtain ⟨v',H3,ea,oV,hle,hE,hV1⟩:=(hV.ext x2).appendR (P:=prog) (base:=h.length) (t:=35) (o2.rows (by have:=ok.n;omega)) Fc.el35 encI_sc (Nat.le_refl _) (by omega) (List.length_pos_iff.2 hne) (by have:=ok.n;omega)
   rw [← hnx] at oV
   have hsp:=@Nat.succ_ne_zero;repeat' (first|simp (disch:=first|exact dq|fail) only [go_sem,↓reduceIte,hsp,r12,r7,p0,p1,p10,p11,hlt,d1,d2,a1,a2,t1,e1,ea]|refine WP_drw ?_|refine cnd_intro (fun hsp=>?_) fun hsp=>?_)
   refine ⟨agq,by omega,hE h (Nat.le_refl _) (xH.trans x2),⟨v',rfl,oV⟩,fun y hy=>?_⟩
   rw [etk] at hy
   rcases List.mem_append.1 hy with q|q
   ·exact hP y q
   ·rw [List.mem_singleton.1 q,Int.toNat_natCast];exact c1
  ·have t1:(S.getD k 0=2)=False:=eq_false c1
   have r:prfB P S l=false:=by
    cases c:prfB P S l with
    | false=>rfl
    | true =>
     have:=((prfB_iff ok).1 c).1 (k:Int) (by rw [ex];exact getD_mem hn)
     rw [Int.toNat_natCast] at this
     exact absurd this c1
   rw [r]
   have hsp:=@Nat.succ_ne_zero;repeat' (first|simp (disch:=first|exact dq|fail) only [go_sem,↓reduceIte,hsp,r12,r7,p0,p1,p10,p11,hlt,d1,d2,a1,a2,t1]|refine WP_drw ?_|refine cnd_intro (fun hsp=>?_) fun hsp=>?_)
   exact fB rfl xH
 ·rintro fr H hA ⟨r12,xH,⟨v,r7,hV⟩,hP⟩
  have p0:=hA 0 rfl
  have p1:=hA 1 rfl
  have p10:=hA 10 rfl
  have p11:=hA 11 rfl
  try simp (disch:=first|exact dq|fail) only [go_sem,↓reduceIte] at p0 p1 p10 p11
  have hlt:((l.length:Int)<(l.length:Int))=False:=eq_false (by omega)
  rw [List.take_length] at hV hP
  have hpl:=prfL_len (S:=S) ok hl
  have iV:Ints H v (prfL P S l):=(hV.rows (by omega)).ints fun x hx=>by
   obtain ⟨k,_,hk⟩:=List.mem_flatMap.1 hx
   have:=opnL_bd ok hk
   have:=ok.n
   omega
  have e1:=fun base=>run_twice (base:=base) iV (by omega)
  have v1:=iV.one
  have hsp:=@Nat.succ_ne_zero;repeat' (first|simp (disch:=first|exact dq|fail) only [go_sem,↓reduceIte,hsp,r12,r7,p0,p1,p10,p11,hlt,e1]|refine WP_drw ?_|refine cnd_intro (fun hsp=>?_) fun hsp=>?_)
  refine fB ?_ xH
  unfold prfB
  have ea:(l.all fun k=>decide (S.getD k.toNat 0=2))=true:=List.all_eq_true.2 fun k hk=>decide_eq_true (hP k hk)
  rw [ea]
  simp
theorem run_prv1 {base mb db sb d many:Nat} {h:Heap} {sv lv:AVal} {P:Pwr} {S l:List Int} (g0:h[mb]?=some (intB many)) (g1:h[db]?=some (dpB d)) (g2:h[sb]?=some (sgB sv)) (hD:DkAt h d P) (hM:MOkS P S) (hS:Rows encI h sv S) (hc:clsB P S=false) (hI:Ints h lv l) (hl:∀ x ∈ l,0≤x∧x<(P.K.length:Int)) (hm:many≤6) :
  callL prog raw base (.fn 95 [] [.ptr (some ⟨mb,0,0⟩),.ptr (some ⟨db,0,0⟩),.ptr (some ⟨sb,0,0⟩)]) [lv] h=some (.bool (prvP P S many l),h):=by
 have l0:=lt_of_get g0
 have l1:=lt_of_get g1
 have l2:=lt_of_get g2
 have lo:=hI.one
 have hn:=lenI hI
 unfold prvP
 unfold intB at g0
 unfold dpB at g1
 unfold sgB at g2
 by_cases c:l.length=many
 ·have t1:((l.length:Int)=(many:Int))=True:=eq_true (by omega)
  have e1:=run_proof (base:=h.length) (Nat.le_refl _) hD hM hS hc hI hl (by omega)
  rw [decide_eq_true c]
  refine callL_run func95 rfl rfl ?_
  have hsp:=@Nat.succ_ne_zero;repeat' (first|simp (disch:=first|exact dq|fail) only [go_sem,↓reduceIte,hsp,g0,g1,g2,t1,e1]|refine WP_drw ?_|refine cnd_intro (fun hsp=>?_) fun hsp=>?_)
  exact fB (by simp)
 ·have t1:((l.length:Int)=(many:Int))=False:=eq_false (by omega)
  rw [decide_eq_false c]
  refine callL_run func95 rfl rfl ?_
  have hsp:=@Nat.succ_ne_zero;repeat' (first|simp (disch:=first|exact dq|fail) only [go_sem,↓reduceIte,hsp,g0,g1,g2,t1]|refine WP_drw ?_|refine cnd_intro (fun hsp=>?_) fun hsp=>?_)
  exact fB rfl
end F4
end Go.AM
namespace Go.AM
namespace F4
open Go.Proofs.Tryz
attribute [-go_sem] put_ne put_same
attribute [local go_sem ↓] put_if
def prvE (P:Pwr) (S:List Int):List Int × Int:=if clsB P S=true then ([],7) else (prvN P S (P.K.length+1),0)
theorem prvN_bd {P:Pwr} {S:List Int} {n:Nat}:(prvN P S n).length≤P.K.length∧∀ x ∈ prvN P S n,0≤x∧x<(P.K.length:Int):=by
 have h:=(prvN_best (P:=P) (S:=S) n).1.1
 refine ⟨?_,fun x hx=>upto_mem.1 (h.subset hx)⟩
 have:=h.length_le
 rwa [upto_len] at this
set_option maxHeartbeats 2000000 in
theorem run_Prove {base:Nat} {h:Heap} {v sv:AVal} {P:Pwr} {S:List Int} (hb:base≤h.length) (hM:PwAt h v P) (hO:MOkS P S) (hS:Rows encI h sv S):Ret prog raw base (.fn 35 [] []) [v,sv] h (fun w H=>Ext h H∧∃ x,w=.tuple [x,.int .i64 (prvE P S).2]∧Ints H x (prvE P S).1):=by
 have ok:=hO.ok
 have hM0:=hM
 obtain ⟨pv,wv,rfl,hP,hW⟩:=hM
 have os:=hP.one
 have ow:=hW.one
 have oS:=hS.one
 have b1:=ok.n
 have b2:=ok.k
 have b3:=hO.len
 obtain ⟨G,eG⟩:∃ G,G=h++[pwB pv wv]++[sgB sv]:=⟨_,rfl⟩
 have x0:Ext h G:=by rw [eG];exact .app (.app .refl)
 have g0:G[h.length]?=some (pwB pv wv):=by rw [eG];exact get_app (get_eq rfl)
 have g01:G[h.length+1]?=some (sgB sv):=by rw [eG];exact get_eq (by simp)
 have lG:=x0.len
 obtain ⟨w,H1,e1,d,rfl,hd,x1,hD⟩:=run_sighted (base:=base) (h:=G) (by omega) (hM0.ext x0) hO (hS.ext x0)
 have xh:=x0.trans x1
 have lH1:=xh.len
 obtain ⟨H2,eH2⟩:∃ H2,H2=H1++[dpB d]:=⟨_,rfl⟩
 have x2:Ext H1 H2:=by rw [eH2];exact .app .refl
 have gd:H2[H1.length]?=some (dpB d):=by rw [eH2];exact get_eq rfl
 have l2:H2.length=H1.length+1:=by rw [eH2];simp
 have xh2:=xh.trans x2
 have g2:=x2.get (x1.get g0)
 have g21:=x2.get (x1.get g01)
 have e2:=run_pclash (base:=base) (by omega) (hD.ext x2) hO (hS.ext xh2)
 have n1:=(hW.ext xh2).len
 have gd':=gd
 have g2':=g2
 have g21':=g21
 unfold pwB sgB at eG
 unfold pwB at g0 g2
 unfold sgB at g01 g21
 unfold dpB at eH2 gd
 cases c:clsB P S with
 | true =>
  have r:prvE P S=([],7):=by unfold prvE;rw [if_pos c]
  rw [c] at e2
  rw [r]
  refine ret_raw func35 rfl (by kernel_rfl) ?_
  have hsp:=@Nat.succ_ne_zero;repeat' (first|simp (disch:=first|exact dq|fail) only [go_sem,↓reduceIte,hsp,← eG,g0,g01,e1,← eH2,gd,g21,e2]|refine WP_drw ?_|refine cnd_intro (fun hsp=>?_) fun hsp=>?_)
  exact ⟨xh2,_,rfl,ints_nil⟩
 | false =>
  have r:prvE P S=(prvN P S (P.K.length+1),0):=by unfold prvE;rw [if_neg (by rw [c];simp)]
  rw [c] at e2
  rw [r]
  refine ret_raw func35 rfl (by kernel_rfl) ?_
  have hsp:=@Nat.succ_ne_zero;repeat' (first|simp (disch:=first|exact dq|fail) only [go_sem,↓reduceIte,hsp,← eG,g0,g01,e1,← eH2,gd,g2,g21,e2,n1]|refine WP_drw ?_|refine cnd_intro (fun hsp=>?_) fun hsp=>?_)
  refine WP_count [(8,11),(30,44)] 0 (P.K.length+1) (Nat.zero_le _) (fun _ m fr h'=>fr 30=.int .i64 (m:Int)∧Ext H2 h'∧∃ v,fr 8=v∧Ints h' v (prvN P S m)) ?_ ?_ ?_
  ·exact ⟨by (simp (disch:=first|exact dq|fail) only [go_sem,↓reduceIte,Int.natCast_zero];first|done|rfl),.refl,.slice none 0 0,by simp (disch:=first|exact dq|fail) only [go_sem,↓reduceIte],ints_nil⟩
  ·rintro m fr H hm0 hm hA ⟨r30,xH,v,r8,hV⟩
   have p2:=hA 2 rfl
   have p3:=hA 3 rfl
   have p4:=hA 4 rfl
   have p5:=hA 5 rfl
   have p6:=hA 6 rfl
   have p29:=hA 29 rfl
   try simp (disch:=first|exact dq|fail) only [go_sem,↓reduceIte] at p2 p3 p4 p5 p6 p29
   have hlt:((m:Int)<((P.K.length:Int)+1))=True:=eq_true (by omega)
   have lH:=xH.len
   have gH:=xH.get g2
   obtain ⟨K,eK⟩:∃ K,K=H++[intB m]:=⟨_,rfl⟩
   have xK:Ext H K:=by rw [eK];exact .app .refl
   have gm:K[H.length]?=some (intB m):=by rw [eK];exact get_eq rfl
   have nH:=(hW.ext (xh2.trans (xH.trans xK))).len
   have gK:=xK.get gH
   have lK:=xK.len
   have hW2:WishP K (.fn 95 [] [.ptr (some ⟨H.length,0,0⟩),.ptr (some ⟨H1.length,0,0⟩),.ptr (some ⟨h.length+1,0,0⟩)]) P.K.length (prvP P S m) :=
    ⟨⟨rfl,rfl,rfl⟩,fun base Y lv l e hI hl=>?_⟩
   ·obtain ⟨w2,H3,e3,x3,y,rfl,oy⟩:=run_first (base:=base) (by omega) hW2 (by omega)
    have y1:=oy.one
    have xH3:=xH.trans (xK.trans x3)
    unfold intB at eK
    cases c2:(fstP P.K.length (prvP P S m)).1 with
    | true =>
     rw [c2] at e3
     have hsp:=@Nat.succ_ne_zero;repeat' (first|simp (disch:=first|exact dq|fail) only [go_sem,↓reduceIte,hsp,r30,r8,p2,p3,p4,p5,p6,p29,hlt,gH,← eK,gK,nH,e3]|refine WP_drw ?_|refine cnd_intro (fun hsp=>?_) fun hsp=>?_)
     refine ⟨agq,by omega,xH3,y,rfl,?_⟩
     have hb:=prvN_bd (P:=P) (S:=S) (n:=m+1)
     rw [prvN,if_pos c2] at hb ⊢
     exact (oy.rows (by omega)).ints fun x hx=>by have:=hb.2 x hx;omega
    | false =>
     rw [c2] at e3
     have hsp:=@Nat.succ_ne_zero;repeat' (first|simp (disch:=first|exact dq|fail) only [go_sem,↓reduceIte,hsp,r30,r8,p2,p3,p4,p5,p6,p29,hlt,gH,← eK,gK,nH,e3]|refine WP_drw ?_|refine cnd_intro (fun hsp=>?_) fun hsp=>?_)
     refine ⟨agq,by omega,xH3,v,rfl,?_⟩
     rw [prvN,if_neg (by rw [c2];simp)]
     exact hV.ext (xK.trans x3)
   ·have xY:=xH.trans (xK.trans e)
    exact run_prv1 (e.get gm) ((xH.trans (xK.trans e)).get gd') ((xH.trans (xK.trans e)).get g21') (hD.ext (x2.trans xY)) hO (hS.ext (xh2.trans xY)) c hI hl (by omega)
  ·rintro fr H hA ⟨r30,xH,v,r8,hV⟩
   have p2:=hA 2 rfl
   have p3:=hA 3 rfl
   have p4:=hA 4 rfl
   have p5:=hA 5 rfl
   have p6:=hA 6 rfl
   have p29:=hA 29 rfl
   try simp (disch:=first|exact dq|fail) only [go_sem,↓reduceIte] at p2 p3 p4 p5 p6 p29
   have hlt:(((P.K.length+1:Nat):Int)<((P.K.length:Int)+1))=False:=eq_false (by omega)
   have v1:=hV.one
   have hsp:=@Nat.succ_ne_zero;repeat' (first|simp (disch:=first|exact dq|fail) only [go_sem,↓reduceIte,hsp,r30,r8,p2,p3,p4,p5,p6,p29,hlt]|refine WP_drw ?_|refine cnd_intro (fun hsp=>?_) fun hsp=>?_)
   exact ⟨xh2.trans xH,v,rfl,hV⟩
end F4
end Go.AM
