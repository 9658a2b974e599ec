import Derived.Maps.OwnOps
import Derived.Maps.RangeWalk
import Derived.Test.YtldmkbhgdbafhaaGreatL09
import Derived.Test.YtldmkbhgdbafhaaGreatL30
import Derived.Test.YtldmkbhgdbafhaaGreatL31
namespace Go.Proofs.YtldmkbhgdbafhaaGreat
open Go.RowKit
set_option linter.unusedSimpArgs false
set_option linter.unusedVariables false
set_option maxRecDepth 100000
set_option maxHeartbeats 64000000
section
open Go.RowKit Go.Shelf Go.Sort
theorem fW {w:World} {b e n c g s:Nat} {xs:List Value} (h:w.ownsRow b e s (.slice (V g) n c) n xs):∃a:Array Value,b<=g/\Blk w g e a/\n<=c/\c<=maxLen/\a.size=c*s/\a.toList.take (n*s)=xs:=by
 rcases h.2 with ⟨h,_⟩ | ⟨p,f,a,d,i,j,k,l,m,o⟩
 ·simp at h
 simp only[EO,Option.some.injEq,Addr.mk.injEq] at d;obtain⟨⟨rfl,_,_⟩,_,rfl⟩:=d;exact⟨a,i,j,k,l,m,o⟩
theorem sQ {d:List Int} {a:Array Value} {n:Nat} (f:d.length=n) (g:n<=a.size):(putCells (Value.int .i64) 0 d.toArray a).toList.take n=d.map (Value.int .i64):=by
 refine Ee (fun j=>?_);by_cases b:j<n
 ·rw[Dx,if_pos b];have c:j<d.length:=by omega
  have e:j<a.size:=by omega
  simp[putCells,f,b,c,e,getElem!_pos]
 rw[D9 (by rw[CY];omega),D9 (by rw[Df];omega)]
theorem jx {w:World} {b n c g:Nat} {xs:List Value} {d:List Int} (m:Nat) (j:Array Obj) (h:w.ownsRow b 3 1 (.slice (V g) n c) n xs) (i:d.length=n):
 (grow (putRow (Value.int .i64) (Go.Sort.ahead w m) g 0 d.toArray) j).ownsRow b 3 1 (.slice (V g) n c) n (d.map (Value.int .i64))/\ad [g] w (grow (putRow (Value.int .i64) (Go.Sort.ahead w m) g 0 d.toArray) j):=by
  obtain⟨a,o,f,p,q,r,u⟩:=fW h;have x:(putRow (Value.int .i64) (Go.Sort.ahead w m) g 0 d.toArray).heap.size=w.heap.size:=by simp[putRow,mapBlock,Go.Sort.ahead]
  have s:=f.lt;refine⟨⟨by simp[i],.inr ⟨g,c,putCells (Value.int .i64) 0 d.toArray a,rfl,o,?_,p,q,by simp[putCells,r],by rw[EU];exact sQ i (by omega)⟩⟩,rfl,rfl,rfl,?_,fun k v t=>?_⟩
  ·rw[heap_grow_old _ _ (by omega)];have l:w.heap[g]? =some (.cells a 3 (0,0)):=f;simp[putRow,mapBlock,Go.Sort.ahead,Array.getElem?_modify,l,onCells]
  ·rw[size_grow];omega
  rw[heap_grow_old _ _ (by omega)];have e:¬g=k:=by intro h;exact t (by simp[h])
  simp[putRow,mapBlock,Go.Sort.ahead,Array.getElem?_modify,e]
theorem qz {w:World} {b e n m c g:Nat} {xs:List Value} (h:w.ownsRow b e 1 (.slice (V g) n c) n xs) (o:m<=n):w.ownsRow b e 1 (.slice (V g) m c) m (xs.take m):=by
 obtain⟨a,d,f,l,i,j,k⟩:=fW h;have:=h.1;refine⟨by rw[CY];omega,.inr ⟨g,c,a,rfl,d,f,by omega,i,j,?_⟩⟩;rw[<-k,Eu]
 congr 1
 omega
theorem fV {w:World} {b n c g:Nat} {l:List Int} (h:w.ownsRow b 3 1 (.slice (V g) n c) n (l.map (Value.int .i64))):Holds (Value.int .i64) w g 0 l.toArray:=by
 obtain⟨d,m,e,o,p,q,f⟩:=fW h;intro j i;have a:j<l.length:=by simpa using i
 refine⟨?_,e.frozen _⟩;have k:=h.1;rw[Df,EU] at k;rw[EU] at f;rw[Dl,e.cell];have:(d.toList.take n)[j]? =(l.map (Value.int .i64))[j]?:=by rw[f]
 rw[Dx,if_pos (by omega),De,CT a] at this;simpa [getElem!_pos,a] using this
theorem lY (w:World) (b n c:Nat) (A:Option Addr) (l:List Int) (d:l.length=n) (z:n<=1000000) (h:w.ownsRow b 3 1 (.slice A n c) n (l.map (Value.int .i64))):
 Calls Tryz.prog 93 #[.slice A n c] w fun e a=>e=.returned (.tuple #[])/\Z (a.ownsRow b 3 1 (.slice A n c) n ((l.mergeSort (fun x y=>decide (x<=y))).map (Value.int .i64)))/\Z (ad (Value.slice A n c).ownBlock.toList w a):=by
  by_cases i:n=0
  ·subst i;obtain rfl:=Dh d;refine(Tryz.slices_Sort_int_none A c w).mono ?_;rintro e a ⟨rfl,rfl⟩;exact⟨rfl,bZ (by simpa using h),bZ (ad.refl _ _)⟩
  obtain⟨g,rfl⟩:=dW h (by omega);obtain⟨f,r,j,s,t,u,v⟩:=fW h;have:=Tryz.slices_Sort_int g 0 c l w (fV h) j.lt (by omega);rw[d] at this;refine this.mono ?_;rintro e a ⟨rfl,m,q,rfl⟩;have k:(l.mergeSort (fun x y=>decide (x<=y))).length=n:=by rw[List.length_mergeSort,d]
  obtain⟨o,p⟩:=jx m q h k;exact⟨rfl,bZ o,bZ p⟩
theorem oR (w:World) (b n c:Nat) (A:Option Addr) (l:List Int) (i:l.length=n) (j:n<=1000000) (h:w.ownsRow b 3 1 (.slice A n c) n (l.map (Value.int .i64))):
 Calls Tryz.prog 93 #[.slice A n c] w fun e a=>e=.returned (.tuple #[])/\Z (a.ownsRow b 3 1 (.slice A n c) n ((l.mergeSort (fun x y=>decide (x<=y))).map (Value.int .i64)))/\Z (∃Y,ad Y w a/\∀y∈Y,b<=y):=
 (lY w b n c A l i j h).mono (fun e a ⟨d,f,g⟩=>⟨d,f,bZ ⟨_,g.o,fun y k=>(cz h (D8.1 k)).1⟩⟩)
theorem nF {b:List Int} {x:Int}:x∈Lib.compact b↔x∈b:=by
 have d:∀j,j<b.length->b.toArray[j]!∈Lib.compact b:=by
  intro j
  induction j using Nat.strongRecOn with
  | _ j ih=>
   intro a;by_cases c:Lib.keeps b.toArray j=true
   ·exact Dt.2 ⟨j,List.mem_filter.2 ⟨List.mem_range.2 a,c⟩,rfl⟩
   simp only[Lib.keeps,decide_eq_true_eq,not_or,Classical.not_not] at c;rw[c.2];exact ih (j - 1) (by omega) (by omega)
 constructor
 ·intro h;obtain⟨j,a,rfl⟩:=Dt.1 h;have a:=List.mem_range.1 (List.mem_filter.1 a).1;simp[getElem!_pos,a]
 intro h;obtain⟨j,a,rfl⟩:=List.getElem_of_mem h;have:=d j a;simpa [getElem!_pos,a] using this
theorem oe {c:List Int} (h:c.Pairwise (fun a b=>a<=b)):Asc (Lib.compact c):=by
 unfold Lib.compact Lib.compactUpTo Asc;rw[List.pairwise_map,List.pairwise_filter];refine List.Pairwise.imp_of_mem (R:=fun a b=>a<b) ?_ List.pairwise_lt_range;intro i j q f m _ l;have f:=List.mem_range.1 f;simp only[Lib.keeps,decide_eq_true_eq] at l;have n:=l.resolve_left (by omega);have d:∀a b,a<=b->b<c.length->c.toArray[a]!<=c.toArray[b]!:=by
  intro a b e k;rcases Nat.lt_or_eq_of_le e with g | rfl
  ·have:=Ex.1 h a b (by omega) k g;simpa [getElem!_pos,k,show a<c.length by omega] using this
  exact Int.le_refl _
 have o:=d i (j - 1) (by omega) (by omega);have p:=d (j - 1) j (by omega) f;omega
theorem jw (l:List Int):Lib.compact (l.mergeSort (fun x y=>decide (x<=y)))=sc l:=by
 have a:=List.mergeSort_perm l (fun x y=>decide (x<=y));refine mX (oe ?_) (fun x=>by rw[nF,a.mem_iff]);have:=List.pairwise_mergeSort (le:=fun x y:Int=>decide (x<=y)) (by simp;omega) (by simp;omega) l;simpa using this
theorem fK (l:List Int):(Lib.compact l).length<=l.length:=Lib.compact_length_le l
theorem kv (w:World) (b n c:Nat) (A:Option Addr) (l:List Int) (f:l.length=n) (y:n<=1000000) (h:w.ownsRow b 3 1 (.slice A n c) n (l.map (Value.int .i64))):
 Calls Tryz.prog 94 #[.slice A n c] w fun e a=>e=.returned (.slice A (Lib.compact l).length c)/\Z (a.ownsRow b 3 1 (.slice A (Lib.compact l).length c) (Lib.compact l).length ((Lib.compact l).map (Value.int .i64)))/\Z (ad (Value.slice A n c).ownBlock.toList w a):=by
  by_cases p:n=0
  ·subst p;obtain rfl:=Dh f;have e0:Lib.compact ([]:List Int)=[]:=rfl;refine(Tryz.slices_Compact_int_empty A c w).mono ?_;rintro e a ⟨rfl,rfl⟩;rw[e0];exact⟨rfl,bZ (by simpa using h),bZ (ad.refl _ _)⟩
  obtain⟨g,rfl⟩:=dW h (by omega);obtain⟨o,r,s,t,u,v,x⟩:=fW h;have:=Tryz.slices_Compact_int g 0 c l w (fV h) (by omega) (by omega);rw[f] at this;refine this.mono ?_;rintro e a ⟨rfl,m,rfl⟩;have q:=fK l;obtain⟨i,j⟩:=jx (d:=Lib.compact l++List.replicate (n - (Lib.compact l).length) 0) m #[] h (by simp;omega);rw[grow_empty] at i j;have k:=qz (m:=(Lib.compact l).length) i (by omega);rw[<-El,ET] at k;exact⟨rfl,bZ k,bZ j⟩
theorem jh (w:World) (b n c:Nat) (A:Option Addr) (l:List Int) (i:l.length=n) (j:n<=1000000) (h:w.ownsRow b 3 1 (.slice A n c) n (l.map (Value.int .i64))):
 Calls Tryz.prog 94 #[.slice A n c] w fun e a=>e=.returned (.slice A (Lib.compact l).length c)/\Z (a.ownsRow b 3 1 (.slice A (Lib.compact l).length c) (Lib.compact l).length ((Lib.compact l).map (Value.int .i64)))/\Z (∃Y,ad Y w a/\∀y∈Y,b<=y):=
 (kv w b n c A l i j h).mono (fun e a ⟨d,f,g⟩=>⟨d,f,bZ ⟨_,g.o,fun y k=>(cz h (D8.1 k)).1⟩⟩)
end
section
open Go.RowKit Go.Maps
theorem mp:Keyed Tryz.prog 3:=int_keyed Tryz.underlying3
theorem ad.gb {w a:World} (h:ad [] w a):w.grownBy a none:=⟨h.os,h.tape,h.output,h.size,fun i b _=>h.block i b (by simp)⟩
theorem ad.gbo {w b:World} {a:Option Nat} (h:ad a.toList w b):w.grownBy b a:=⟨h.os,h.tape,h.output,h.size,fun i c e=>h.block i c (fun d=>e (D8.1 d).symm)⟩
theorem af.base {α:Type} {f:α->Tr} {k:Nat} {e:TypeId} {D:Nat->Prop} {a B1:Nat} {w:World} {A:Option Addr} {c:Nat} {L:List α} (h:af f k e D a w A c L) (j:B1<=a):af f k e D B1 w A c L:=by
 obtain⟨⟨cs,b,d⟩,g,i⟩:=h;exact⟨⟨cs,jY b j,d⟩,g,i⟩
theorem af.ints {D:Nat->Prop} {a:Nat} {w:World} {A:Option Addr} {c:Nat} {L:List Int} (h:af a8 1 3 D a w A c L):w.ownsRow a 3 1 (.slice A L.length c) L.length (L.map (Value.int .i64)):=by
 obtain⟨⟨cs,b,d⟩,_⟩:=h;rw[du.1 d] at b;exact b
theorem jd {D:Nat->Prop} {a n:Nat} {w:World} {A:Option Addr} {c:Nat} {L:List Int} (h:w.ownsRow a 3 1 (.slice A n c) n (L.map (Value.int .i64))) (e:L.length=n):af a8 1 3 D a w A c L:=by
 subst e;obtain⟨_,_,f,b,d⟩:=bS h;injection f with _ _ hc;subst hc;exact⟨⟨_,h,du.2 rfl⟩,b,d⟩
structure fg (D:DataW Unit) (s:List (Int×Int)):Prop where
 val:∀v,D.atKey (.int .i64 v) (.lit (.int .i64 0))=.lit (.int .i64 (bl s v))
 key:∀v,Maps.has D (.int .i64 v)=true↔v∈s.map (·.1)
theorem lv:∀ {l k:List Int},l.Nodup->(∀v∈l,v∈k)->l.length<=k.length
 | [],k,_,_=>C3 _
 | v::l,k,h,hs=>by
   rw[E7] at h;have:=lv (k:=k.erase v) h.2 (fun u a=>(List.mem_erase_of_ne (by rintro rfl;exact h.1 a)).2 (hs u (by simp[a])));have b:=hs v (by simp);rw[List.length_erase_of_mem b] at this;have:=List.length_pos_of_mem b;simp only[Dj];omega
def kJ (D0:DataW Unit) (s:List (Int×Int)) (left:Lit->Bool) (vs:List Int):Prop:=vs.Nodup/\∀v,v∈vs↔(Maps.has D0 (.int .i64 v)=true/\left (.int .i64 v)=false/\bl s v≠0)
theorem kJ.start (D0:DataW Unit) (s:List (Int×Int)):kJ D0 s (Maps.has D0) []:=⟨List.nodup_nil,fun v=>by cases Maps.has D0 (.int .i64 v)<;>simp⟩
theorem kJ.step {D0:DataW Unit} {s:List (Int×Int)} {left:Lit->Bool} {vs:List Int} (h:kJ D0 s left vs) (m:fg D0 s) {x c:Int} (k:left (.int .i64 x)=true) (f:∀q,D0.atKey (.int .i64 x) q=.lit (.int .i64 c)):
 c=bl s x/\kJ D0 s (fun z=>left z && !z.sameKey (.int .i64 x)) (if c=0 then vs else vs++[x]):=by
  have g:Maps.has D0 (.int .i64 x)=true:=has_true_of_atKey f;have o:c=bl s x:=by
   have:=(f (.lit (.int .i64 0))).symm.trans (m.val x);simpa using this
  have i:x∉vs:=fun p=>by have:=((h.2 x).1 p).2.1;rw[k] at this;cases this
  refine⟨o,?_⟩
  split
  ·rename_i h0;refine⟨h.1,fun v=>?_⟩;rw[h.2 v];by_cases j:v=x
   ·subst j;have d:bl s v=0:=by omega
    simp[d]
   simp[Lit.sameKey,j]
  rename_i h0;refine⟨Dp.2 ⟨h.1,by simp,fun a n b l=>by simp at l;subst l;exact fun e=>i (e▸n)⟩,fun v=>?_⟩;by_cases j:v=x
  ·subst j;have d:bl s v≠0:=by omega
   simp[g,Lit.sameKey,d]
  simp[h.2 v,j,Lit.sameKey]
theorem kJ.done {D0:DataW Unit} {s:List (Int×Int)} {left:Lit->Bool} {vs:List Int} (h:kJ D0 s left vs) (f:fg D0 s) (g:∀i,left i=false):
 (vs.mergeSort (fun x y=>decide (x<=y)))=(sc (s.map (·.1))).filter (fun v=>decide (bl s v≠0)):=by
  have e:=List.mergeSort_perm vs (fun x y=>decide (x<=y));have d:=List.pairwise_mergeSort (le:=fun x y:Int=>decide (x<=y)) (by simp;omega) (by simp;omega) vs;have c:(vs.mergeSort (fun x y=>decide (x<=y))).Nodup:=e.nodup_iff.2 h.1;refine mG ?_ ((dn _).filter _) (fun v=>?_)
  ·unfold Asc;refine(List.pairwise_and_iff.2 ⟨d,c⟩).imp (fun {a b} h=>?_);have j:=of_decide_eq_true h.1;have k:a≠b:=h.2;omega
  rw[e.mem_iff,h.2 v,List.mem_filter,aG,g,f.key];simp
theorem kJ.le {D0:DataW Unit} {s:List (Int×Int)} {left:Lit->Bool} {vs:List Int} (h:kJ D0 s left vs) (a:fg D0 s):vs.length<=s.length:=by
 have:=lv (k:=s.map (·.1)) h.1 (fun v b=>(a.key v).1 ((h.2 v).1 b).1);simpa using this
theorem mS (w:World) (b n c:Nat) (A:Option Addr) (l:List Int) (g:l.length=n) (i:n<=1000000) (h:w.ownsRow b 3 1 (.slice A n c) n (l.map (Value.int .i64))):
 Calls Tryz.prog 80 #[.slice A n c] w fun e k=>e=.returned (.slice A (sc l).length c)/\Z (k.ownsRow b 3 1 (.slice A (sc l).length c) (sc l).length ((sc l).map (Value.int .i64)))/\Z (ad (Value.slice A n c).ownBlock.toList w k):=by
  have d:=bZ (lY w b n c A l g i h);have f:Z ((l.mergeSort (fun x y=>decide (x<=y))).length=n):=bZ (by rw[List.length_mergeSort,g]);have a:=bZ (jw l);go_enter Tryz.func80,Tryz.ntmps80;go_wp2_with (first | (go_at_call 93;refine d.o.mono ?_;rintro e r ⟨rfl,q,m⟩) | (go_at_call 94;refine(kv _ b n c A _ f.o i q.o).mono ?_;rintro e s ⟨rfl,j,p⟩;rw[a.o] at j;rw[a.o]));go_ret;exact⟨rfl,j,bZ (m.o.trans p.o)⟩
theorem qP:(Tryz.prog.info? 215).map (fun i=>(i.zero,i.size,i.bytes))=some (some (.agg #[.int .i64 0,.int .i64 0]),2,16):=by kernel_rfl
def CoP (w:World) (l:List (Int×Int)) (e:Ending) (a:World):Prop:=∃A c,e=.returned (.slice A l.length c)/\Z (af bh 2 215 (fun _=>False) w.heap.size a A c l)/\Z (ad [] w a)
theorem uf (w:World) (p n:Nat) (D0:DataW Unit) (s:List (Int×Int)) (a:w.ownsMap Tryz.prog 3 (plainElem Tryz.prog 2) p n D0) (hM:fg D0 s) (hs:s.length<=100000) (hr:∀e∈s,(Lit.int .i64 e.1).wf=true):
 Calls Tryz.prog 161 #[.map (some p)] w (CoP w (aO s)):=by
  have b4:=a.lt;have E:=bZ hM;have an:Z (p<w.heap.size):=bZ b4;replace hr:=bZ hr;go_enter Tryz.func161,Tryz.ntmps161;go_wp2_with (first
   | (at_range;refine wpList_range_own _ rfl _ 249 rfl 3 2 mp Tryz.underlying249 _ p n D0 rfl a ?_;intro w0 z aa aq)
   | go_in)
  go_frame;replace z:=bZ z;have k0:Z (ad [] w w0):=bZ (ad.grown aa (fun k hk=>by cases hk));have ar:Z (w0.heap.size=w.heap.size+1):=bZ aq;clear a hM aa aq;go_loopw [3,4,5] (fun s3 s4 s5 wr=>∃(left:Lit->Bool) (a4 m:Nat) (vs:List Int) (A:Option Addr) (B:Nat),s3=.slice A m B/\Z (vs.length=m)/\Z (wr.ranges Tryz.prog 3 (plainElem Tryz.prog 2) p w.heap.size n D0 left a4)/\Z (kJ D0 s left vs)/\
   Z (af a8 1 3 (fun _=>False) w0.heap.size wr A B vs)/\Z (ad [w.heap.size] w0 wr)) (fun _ _ _ wr=>wr.rangeLeft p w.heap.size)
  case atStart=>exact⟨_,_,0,[],none,0,rfl,bZ rfl,z,bZ (kJ.start D0 s),bZ af.nil,bZ (ad.refl _ _)⟩
  obtain⟨left,a4,m,vs,A,B,rfl,b,u,O,C,hK⟩:=hrel;obtain⟨wo,bf⟩:∃x,x=wr:=⟨_,rfl⟩;subst bf;have bb:=O.o.le E.o;have b8:m<=100000:=by rw[<-b.o];omega
  have a:Z (∀g,(Value.slice A vs.length B).ownBlock=some g->w0.heap.size<=g/\g≠p/\g≠w.heap.size):=bZ (fun g hg=>by have:=(C.o.own hg).1;have:=ar.o;have:=an.o;omega);clear bb;go_wp2_with (first
   | (at_next;refine wpList_next_ranges_ii _ rfl _ rfl 3 2 .i64 .i64 mp Tryz.underlying3 Tryz.underlying2 p w.heap.size n D0 _ _ rfl u.o ?_ ?_)
   | go_in)
  ·intro b5 ac;have d:=bZ (O.o.done E.o ac);have o1:=bZ C.o.ints;have bn:=b8;rw[b.o] at o1;have a3:=bZ (lY wo w0.heap.size m B A vs b.o (by omega) o1.o);obtain⟨F,hF⟩:∃F,F=vs.mergeSort (fun x y=>decide (x<=y)):=⟨_,rfl⟩;have P:Z (F.length=m):=bZ (by rw[hF,List.length_mergeSort,b.o]);rw[<-hF] at a3 d;clear hF ac b5;have b2:Z (∀v∈F,(Lit.int .i64 v).wf=true):=bZ (fun v S=>by
    rw[d.o,List.mem_filter,aG] at S;obtain⟨e,he,rfl⟩:=Dt.1 S.1;exact hr.o e he)
   have ap:Z (aO s=F.map (fun v=>(v,bl s v))):=bZ (by rw[d.o];rfl);have ao:Z (∀i,ad (Value.slice A m B).ownBlock.toList wo i->i.ownsMap Tryz.prog 3 (plainElem Tryz.prog 2) p n D0/\ad [w.heap.size] w0 i):=bZ (fun i h=>by
    rw[<-b.o] at h;exact⟨u.o.owns.kept h.gbo (fun e=>(a.o p e.symm).2.1 rfl),((hK.o.mono (Y:=w.heap.size::(Value.slice A vs.length B).ownBlock.toList) (fun y J=>.inl (Db.2 (.inl (CZ.1 J))))).trans (h.mono (fun y J=>.inl (DL _ J)))).mono (fun y J=>(Db.1 J).imp (fun h=>by simp[h]) (fun h=>(a.o y (D8.1 h)).1))⟩)
   clear d O C u o1;go_wp2_with (go_at_call 93;refine a3.o.mono ?_;rintro e i ⟨rfl,o2,k2⟩;obtain⟨R,Q⟩:=ao.o i k2.o;replace R:=bZ R;replace Q:=bZ Q);have ax:Z (ad [] w i):=bZ ((k0.o.nil.trans Q.o).mono (fun y J=>.inr (by rw[CZ.1 J];exact C9 _)));have au:Z (w.heap.size<=i.heap.size/\p<i.heap.size):=bZ (by have:=ax.o.size;have:=an.o;omega);have hA:Z (af a8 1 3 (fun _=>False) w0.heap.size i A B F):=bZ (jd o2.o P.o);go_loopw [6,26] (fun s6 a0 wr=>∃(j:Nat) (L:List (Int×Int)) (oA:Option Addr) (oc:Nat),j<=m/\s6=.slice oA j oc/\a0=.int .i64 j/\Z (L.length=j)/\Z (L=(F.take j).map (fun v=>(v,bl s v)))/\Z (af bh 2 215 (fun _=>False) i.heap.size wr oA oc L)/\Z (ad [] i wr)) (fun _ a0 _=>m - (intOf a0).toNat)
   case atStart=>exact⟨0,[],none,0,C3 _,rfl,rfl,bZ rfl,bZ (by simp),bZ af.nil,bZ (ad.refl _ _)⟩
   obtain⟨j,L,oA,oc,hj,rfl,rfl,r,hL,C,D⟩:=hrel;obtain⟨K,av⟩:∃x,x=wr:=⟨_,rfl⟩;subst av;by_cases H:j<m
   ·obtain⟨v,S⟩:∃v,F[j]? =some v:=⟨_,CT (by rw[P.o];exact H)⟩;obtain⟨g,bp,rc,rfl,O,hg,hI,hx⟩:=(hA.o.rows.keep0 D.o).get bN (by decide) S;obtain rfl:=cU.1 hI;have x0:=hx 0 _ rfl;rw[EU,Fg] at x0;have bm:(j:Int)<(m:Int):=by omega
    have wj:IntKind.i64.wrap ((j:Int)+1)=(j:Int)+1:=C0 _ (by omega);have bd:=b2.o v (CW S);have b7:Z (K.ownsMap Tryz.prog 3 (plainElem Tryz.prog 2) p n D0):=bZ (R.o.kept D.o.gb (by simp));have ba:=bZ S;clear hI hx S O;go_wp2_with (first
     | (at_lookup;refine wpList_lookup_own_int _ rfl _ _ 249 rfl 3 2 .i64 mp Tryz.underlying249 Tryz.underlying2 (Tryz.zeroValue2 _) p n _ rfl b7.o _ _ rfl (keyOf_int_mk Tryz.underlying3 bd) ?_;intro c t bc;obtain rfl:c=bl s v:=(by have:=t.symm.trans (E.o.val v);simpa using this);clear t)
     | (at_builtin;refine aw (f:=bh) (W0:=i) (X:=[]) (by rfl) (.tmp 30) (.tmp 36) 164 rfl 16 _ Tryz.underlying164 qP rfl (by decide) (L:=L) (v,bl s v) (C.o.keep0 ((ad.refl [] K).alloc _)) (D.o.alloc _) (by rw[r.o];rfl) (V K.heap.size) 1 [.int .i64 v,.int .i64 (bl s v)] rfl rfl aF (eD.2 rfl) (by rw[r.o];omega) (by rw[r.o];unfold maxLen;omega) ?_;intro a1 a2 w3 T W b0;rw[r.o]))
    go_roundw
    case rel=>exact⟨j+1,L++[(v,bl s v)],a1,a2,by omega,by first | rfl | simp,by go_num,bZ (by simp[r.o]),bZ (by rw[Dq,ba.o,hL.o];simp),T,W⟩
    case measure=>simp[intOf];omega
   obtain rfl:j=m:=by omega
   have b3:Z (L=aO s):=bZ (by rw[hL.o,ap.o,C6 (by rw[P.o];exact C9 _)]);have a9:Z (CoP w (aO s) (.returned (.slice oA j oc)) K):=bZ (by
    rw[<-b3.o];exact⟨oA,oc,by rw[r.o],bZ (C.o.base au.o.1),bZ (ax.o.trans D.o)⟩)
   clear C hA;go_wp2_with fail;go_ret;exact a9.o
  intro x c i M bo bc am t l H ab b9 bk;obtain⟨b6,q⟩:=O.o.step E.o am t;replace q:=bZ q;replace l:=bZ l;have k1:Z (ad [w.heap.size] wo i):=bZ (ad.grown ab (fun k hk=>by cases hk;simp));have a6:=bZ (hK.o.trans k1.o);have a5:Z (af a8 1 3 (fun _=>False) w0.heap.size i A B vs):=bZ (C.o.keep k1.o (fun y J=>by rw[CZ.1 J];have:=ar.o;exact⟨by omega,fun h=>h⟩));have hl:=bZ u.o.left_eq;have ak:=bZ H;clear t am b6 C O u ab b9 H;by_cases h0:c=0
  ·have b1:(c !=0)=false:=by simp[h0]
   rw[if_pos h0] at q;clear h0;go_wp2_with fail;go_roundw
   case rel=>exact⟨_,M,m,vs,A,B,rfl,b,l,q,a5,a6⟩
   case measure=>rw[l.o.left_eq,hl.o];exact ak.o
  have b1:(c !=0)=true:=by simp[h0]
  rw[if_neg h0] at q;clear h0;go_wp2_with (at_builtin;refine aw (f:=a8) (W0:=w0) (X:=[w.heap.size]) (by rfl) (.tmp 18) (.tmp 20) 108 rfl 8 _ Tryz.underlying108 pF rfl (by decide) (L:=vs) x (a5.o.keep0 ((ad.refl [] i).alloc _)) (a6.o.alloc _) (by rw[b.o];rfl) (V i.heap.size) 1 [.int .i64 x] rfl rfl aF (cU.2 rfl) (by rw[b.o];omega) (by rw[b.o];unfold maxLen;omega) ?_;intro a1 a2 w3 T W b0;rw[b.o]);have N:=bZ ((l.o.alloc _).kept b0.o (fun e=>(a.o p e.symm).2.1 rfl) (fun e=>(a.o w.heap.size e.symm).2.2 rfl));go_roundw
  case rel=>exact⟨_,M,m+1,vs++[x],a1,a2,by first | rfl | simp,bZ (by simp[b.o]),N,q,T,W⟩
  case measure=>rw[N.o.left_eq,hl.o];exact ak.o
end
def LnP (w:World) (f:Lin) (e:Ending) (a:World):Prop:=∃A c,e=.returned (.agg #[I f.k,.slice A f.cs.length c])/\Z (af bh 2 215 (fun _=>False) w.heap.size a A c f.cs)/\Z (ad [] w a)
theorem nC (C:Nat->Prop) (w:World) (f:Lin) (A:Option Addr) (n c:Nat) (hn:n=f.cs.length) (hc:n<=c/\c<=maxLen) (hb:n<=100000) (h:ag bh w C A f.cs) (hk:f.k.natAbs<=4611686018427387904) (hN:∀e∈f.cs,e.2.natAbs<=4611686018427387904):
 Calls Tryz.prog 121 #[.agg #[I f.k,.slice A n c]] w (LnP w (fh f)):=by
  obtain⟨W0,i⟩:∃W,W=((w.alloc (.cells #[I f.k,.slice A n c] 166)).alloc (.cells #[I 0,.slice none 0 0] 166)).alloc (.cells #[I (-f.k),.slice none 0 0] 166):=⟨_,rfl⟩;obtain⟨g0,D⟩:∃g,g=w.heap.size:=⟨_,rfl⟩;obtain⟨N,H⟩:∃g,g=w.heap.size+1:=⟨_,rfl⟩;obtain⟨b,J⟩:∃g,g=w.heap.size+1+1:=⟨_,rfl⟩;have k0:Z (ad [] w W0):=bZ (by rw[i];exact(((ad.refl [] w).alloc _).alloc _).alloc _);have b0:Z (Blk W0 g0 166 #[I f.k,.slice A n c]):=bZ (by rw[i,D];exact((Blk.new w 166 _).alloc _).alloc _);have b2:Z (Blk W0 N 166 #[I 0,.slice none 0 0]):=bZ (by
   rw[i,H];have:=Blk.new (w.alloc (.cells #[I f.k,.slice A n c] 166)) 166 #[I 0,.slice none 0 0];rw[Fl] at this;exact this.alloc _)
  have b3:Z (Blk W0 b 166 #[I (-f.k),.slice none 0 0]):=bZ (by
   rw[i,J];have:=Blk.new ((w.alloc (.cells #[I f.k,.slice A n c] 166)).alloc (.cells #[I 0,.slice none 0 0] 166)) 166 #[I (-f.k),.slice none 0 0];rwa [Fl,Fl] at this)
  have a:Z (w.heap.size<=b/\b<W0.heap.size/\w.heap.size<=W0.heap.size/\N≠b/\g0≠b/\w.heap.size<=N/\N<W0.heap.size):=bZ (by have:=b3.o.lt;have:=b2.o.lt;have:=k0.o.size;omega);have ac:wrap64 (-f.k)= -f.k:=IntWalk.wrap64_in _ (by omega);have a4:Z (∀e∈f.cs,wrap64 (-e.2)= -e.2):=bZ (fun e he=>IntWalk.wrap64_in _ (by have:=hN e he;omega));replace h:=bZ (h.mono (E:=fun g=>C g/\g<w.heap.size) (fun g h1 h2=>⟨h2,h1⟩));clear hN;have q:Z ((fh f).k= -f.k/\(fh f).cs=f.cs.map (fun e=>(e.1,-e.2))):=bZ ⟨rfl,rfl⟩;obtain⟨F,hF⟩:∃F,F=f.cs:=⟨_,rfl⟩;rw[<-hF] at h a4 q hn;have a1:=bZ hn;generalize fh f=R at*;clear hF hn hk;generalize f.k=fk at*;go_enter Tryz.func121,Tryz.ntmps121;go_upto_region 2 with fail
  (try rw[ac])
  rw[<-i,<-J,<-H,<-D];clear i J H D;have y:=b0.o.cell;have yl:=b0.o.lt;go_wp2_with fail;clear y yl;go_loopw [13] (fun M wr=>∃(j:Nat) (L:List (Int×Int)) (t:Option Addr) (u:Nat),j<=n/\M=I j/\Z (L.length=j)/\Z (L=(F.take j).map (fun e=>(e.1,-e.2)))/\Z (Blk wr b 166 #[I (-fk),.slice t j u])/\Z (af bh 2 215 (fun _=>False) W0.heap.size wr t u L)/\Z (ad [b] W0 wr)) (fun M _=>n - (intOf M).toNat)
  case atStart=>exact⟨0,[],none,0,C3 _,rfl,bZ rfl,bZ (by simp),b3,bZ af.nil,bZ (ad.refl _ _)⟩
  case round=>
   obtain⟨j,L,t,u,hj,rfl,d,hL,S,O,T⟩:=hrel;obtain⟨B,ak⟩:∃x,x=wr:=⟨_,rfl⟩;subst ak;have kw:Z (ad [] w B):=bZ ((k0.o.nil.trans T.o).mono (fun y s=>.inr (by rw[CZ.1 s];exact a.o.1)));by_cases aa:j<n
   ·obtain⟨v,hv⟩:∃v,F[j]? =some v:=⟨_,CT (by rw[<-a1.o];exact aa)⟩;obtain⟨g,ap,rc,rfl,hC,hg,hI,hx⟩:=(h.o.keep0 kw.o).get aV (by decide) hv;obtain rfl:=eD.1 hI;have x0:=hx 0 _ rfl;have x1:=hx 1 _ rfl;rw[Fg] at x0;have ao:(j:Int)<(n:Int):=by omega
    have wj:IntKind.i64.wrap ((j:Int)+1)=(j:Int)+1:=C0 _ (by omega);have a3:=a4.o v (CW hv);have ab:=bZ hv;obtain⟨P,Q⟩:=v;dsimp only at a3 x0 x1;obtain⟨W1,r⟩:∃W,W=B.alloc (.cells #[I P,I Q] 215):=⟨_,rfl⟩;obtain⟨g5,K⟩:∃g,g=B.heap.size:=⟨_,rfl⟩;have k1:Z (ad [] B W1):=bZ (by rw[r];exact(ad.refl [] B).alloc _);have b5:Z (Blk W1 g5 215 #[I P,I Q]):=bZ (by rw[r,K];exact Blk.new B 215 _);have e3:=bZ (S.o.keep k1.o (by simp));have a6:=bZ (O.o.keep0 k1.o);have a9:=bZ (T.o.trans k1.o.nil);have a2:Z (∀y,(Value.slice t L.length u).ownBlock=some y->y≠b):=bZ (fun y s=>by have:=(O.o.own s).1;have:=a.o;omega);clear hI hx hv hC O S T;go_upto_region 5 with fail;rw[<-r,<-K];clear r K x0 x1;have y5:=b5.o.cell;have l5:=b5.o.lt;have y3:=e3.o.cell;have l3:=e3.o.lt;go_wp2_with (at_builtin;go_loud (refine aw (f:=bh) (W0:=W0) (X:=[b]) (by rfl) (.tmp 18) (.tmp 25) 164 rfl 16 _ Tryz.underlying164 qP rfl (by decide) (L:=L) (P,-Q) (a6.o.keep0 ((ad.refl [] W1).alloc _)) (a9.o.alloc _) (by rw[d.o];rfl) (V W1.heap.size) 1 [I P,I (-Q)] rfl rfl (by first | exact aF | (rw[a3];exact aF)) (eD.2 rfl) (by rw[d.o];omega) (by rw[d.o];unfold maxLen;omega) ?_;intro l m w3 am an a5;rw[d.o] at a5 ⊢;have e5:=bZ (fH (e3.o.alloc (.cells #[I P,I (-Q)] 215)) a5.o (fun he=>a2.o _ (by rw[d.o];exact he) rfl));have z3:=e5.o.cell;have aq:=e5.o.frozen;have ar:=e5.o.lt;clear y5 l5 y3 l3));have kz:=bZ (an.o.setCell (p:=(U b 1)) (.inl (by simp)) (.slice l (j+1) m));have kg:Z (ad [b] w3 (w3.setCell (U b 1) (.slice l (j+1) m))):=bZ ((ad.refl [b] w3).setCell (.inl (by simp)) _);have ez:Z (Blk (w3.setCell (U b 1) (.slice l (j+1) m)) b 166 #[I (-fk),.slice l (j+1) m]):=bZ (e5.o.set_ 1 (.slice l (j+1) m));have gz:=bZ (am.o.keep kg.o (fun y s=>by rw[CZ.1 s];exact⟨a.o.2.1,fun h=>h⟩));go_roundw
    case rel=>exact⟨j+1,L++[(P,-Q)],l,m,by omega,by go_num,bZ (by simp[d.o]),bZ (by rw[Dq,ab.o,hL.o];simp),ez,gz,kz⟩
    case measure=>simp[intOf];omega
   obtain rfl:j=n:=by omega
   have Y:Z (L=R.cs):=bZ (by rw[hL.o,q.o.2,C6 (by rw[<-a1.o];exact C9 _)]);have c2:=bZ (b2.o.keep T.o (by have:=a.o;simp;omega));have y3:=S.o.cell;have l3:=S.o.lt;have z:=c2.o.cell;have zf:=c2.o.frozen;have zl:=c2.o.lt;have a0:Z (∀W,ad [N] B W->LnP w R (.returned (.agg #[I (-fk),.slice t j u])) W):=bZ (fun W hW=>⟨t,u,by rw[q.o.1,<-Y.o,d.o],bZ (by
    rw[<-Y.o];have h1:=O.o.base a.o.2.2.1;obtain⟨⟨cs,o1,o2⟩,o3,o4⟩:=O.o;refine⟨⟨cs,jY (dE o1 hW (fun y s hm=>?_)) a.o.2.2.1,o2.keep hW (fun y _ hc=>hc.1)⟩,o3,o4⟩;have:=(cz o1 s).1;rw[CZ.1 hm] at this;have:=a.o;omega),bZ ((kw.o.nil.trans hW).mono (fun y s=>.inr (by rw[CZ.1 s];exact a.o.2.2.2.2.2.1)))⟩)
   clear O S T;go_wp2_with fail;have bf:=(c2.o.set_ 0 (I (-fk))).set_ 1 (.slice t j u);have dc:=bf.cell;refine bodyPost_ret (v:=.agg #[I (-fk),.slice t j u]) (by simp[results,Tryz.results121,go_sem,dc]) rfl ?_;exact a0.o _ (((ad.refl [N] B).setCell (.inl (by simp)) _).setCell (.inl (by simp)) _)
theorem oN {α:Type} {l k:List α} {j n:Nat} (c:l.length=n) (b:k.length=n) (a:n<=j) (h:l.take j=k.take j):l=k:=by
 rw[C6 (by omega),C6 (by omega)] at h;exact h
theorem tV (C D:Nat->Prop) (w:World) (l k:List (Int×Int)) (A B:Option Addr) (n m c d:Nat) (P:n=l.length) (O:m=k.length) (hb:n<=1000000) (M:ag bh w C A l) (N:ag bh w D B k):
 Calls Tryz.prog 202 #[.slice A n c,.slice B m d] w (RoP w (.bool (decide (l=k)))):=by
  have k0:=bZ (ad.refl [] w);by_cases i:n=m
  ·subst i;have H:=bZ P;have F:=bZ O;replace M:=bZ M;replace N:=bZ N;have T:((n:Int) !=(n:Int))=false:=by simp
   obtain⟨b,e⟩:∃b,b=decide (l=k):=⟨_,rfl⟩;rw[<-e];replace e:=bZ e;clear P O;go_enter Tryz.func202,Tryz.ntmps202;go_wp2_with fail;go_loopw [13] (fun r wr=>∃j:Nat,j<=n/\r=I j/\Z (l.take j=k.take j)/\Z (ad [] w wr)) (fun r _=>n - (intOf r).toNat)
   case atStart=>exact⟨0,C3 _,rfl,bZ rfl,k0⟩
   obtain⟨j,hj,rfl,hE,z⟩:=hrel;obtain⟨wo,W⟩:∃x,x=wr:=⟨_,rfl⟩;subst W;by_cases E:j<n
   ·obtain⟨x,X⟩:∃v,l[j]? =some v:=⟨_,CT (by rw[<-H.o];exact E)⟩;obtain⟨y,Y⟩:∃v,k[j]? =some v:=⟨_,CT (by rw[<-F.o];exact E)⟩;obtain⟨g,a3,rc,rfl,hC,hg,hI,p⟩:=(M.o.keep0 z.o).get aV (by decide) X;obtain rfl:=eD.1 hI;obtain⟨g2,a0,rc,rfl,Q,a1,u,q⟩:=(N.o.keep0 z.o).get aV (by decide) Y;obtain rfl:=eD.1 u;have x0:=p 0 _ rfl;have x1:=p 1 _ rfl;have y0:=q 0 _ rfl;have y1:=q 1 _ rfl;rw[Fg] at x0 y0;obtain⟨s,L⟩:=x;obtain⟨ya,yb⟩:=y;dsimp only at x0 x1 y0 y1;have a2:(j:Int)<(n:Int):=by omega
    have wj:IntKind.i64.wrap ((j:Int)+1)=(j:Int)+1:=C0 _ (by omega);have J:=bZ X;have K:=bZ Y;clear hI u p q X Y hC Q;by_cases t:s=ya/\L=yb
    ·obtain⟨rfl,rfl⟩:=t;have q0:(s==s)=true:=by simp
     have q1:(L==L)=true:=by simp
     have R:Z (l.take (j+1)=k.take (j+1)):=bZ (by rw[Dq,Dq,J.o,K.o,hE.o]);have f:Z (∀nq,ad [] w (wo.drewN nq)):=bZ (fun nq=>z.o.drewN nq);go_upto_region 6 with fail;go_quiet (fail);go_wp2_with fail;go_roundw
     case rel=>exact⟨j+1,by omega,by go_num,R,f.o _⟩
     case measure=>simp[intOf];omega
    have a:Z (b=false):=bZ (by
     rw[e.o];refine decide_eq_false (fun S=>t ?_);have:=J.o;rw[S,K.o] at this;simp only[Option.some.injEq,Prod.mk.injEq] at this;exact⟨this.1.symm,this.2.symm⟩)
    have f:Z (∀nq,ad [] w (wo.drewN nq)):=bZ (fun nq=>z.o.drewN nq);by_cases h2:s=ya
    ·subst h2;have h3:¬L=yb:=fun h=>t ⟨rfl,h⟩;have q0:(s==s)=true:=by simp
     have q1:(L==yb)=false:=by simp[h3]
     clear t;go_upto_region 6 with fail;go_quiet (fail);go_wp2_with fail;go_ret;rw[a.o];exact⟨rfl,bZ (f.o _)⟩
    have q0:(s==ya)=false:=by simp[h2]
    clear t;go_upto_region 6 with fail;go_quiet (fail);go_wp2_with fail;go_ret;rw[a.o];exact⟨rfl,bZ (f.o _)⟩
   have a:Z (b=true):=bZ (by
    rw[e.o];exact decide_eq_true (oN H.o.symm F.o.symm (by omega) hE.o))
   obtain rfl:j=n:=by omega
   go_wp2_with fail;go_ret;rw[a.o];exact⟨rfl,z⟩
  have a:Z (decide (l=k)=false):=bZ (decide_eq_false (fun S=>i (by rw[P,O,S])));have T:((n:Int) !=(m:Int))=true:=by simp;omega
  rw[a.o];clear P O M N i;go_enter Tryz.func202,Tryz.ntmps202;go_wp2_with fail;go_ret;exact⟨rfl,k0⟩
end Go.Proofs.YtldmkbhgdbafhaaGreat
